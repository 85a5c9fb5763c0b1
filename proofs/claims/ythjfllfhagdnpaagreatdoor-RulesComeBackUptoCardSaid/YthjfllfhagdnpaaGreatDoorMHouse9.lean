/- By the machine: the house's regions: clones, what is struck, stretches. -/
import Derived.Test.YthjfllfhagdnpaaGreatDoorMSort2
set_option linter.unusedSimpArgs false
set_option linter.unusedVariables false
namespace Go.Proofs.YthjfllfhagdnpaaGreatDoor.M
open Go.AM Go.RowKit
open Reg (Rect Spans Band)

theorem rc_rows (l : List Rect) : ∀ r ∈ l.map rc, r.length = 4 := by
  intro r hr
  obtain ⟨x, _, rfl⟩ := List.mem_map.1 hr
  rfl
theorem clone_rects (l : List Rect) (hN : l.length ≤ 4398046511104) : ACalls C 130 [.pv (rects l)] (.own 73 (l.map rc)) [] := by
  cases l with
  | nil =>
    refine fun_go hC Tryz.func130 rfl rfl 8 rfl (by decide) (by kernel_rfl) fun _ _ _ _ _ => ?_
    refine yS (yB rfl (yT (zw_s (yS (yP rfl (zo_n rfl (zs_nil rfl rfl ?_)))))))
    refine ⟨?_, ?_⟩
    · refine yT (zw_c rfl (zc_t (yS (yB rfl (yT (zw_r (zt_r (ze_r zi ?_))))))))
      exact ⟨rfl, trivial⟩
    · (refine yT (zw_c rfl (zc_f (zw_k (zt_n (yS (yn rfl (zq1 zI (zkns (zst_ow (yP rfl (yn rfl (zqA zI ?_)))))))))))); refine And.intro ⟨by simp, by simp, by simp⟩ ?_)
      refine zkns (zst_e (zst_ow (zo_n rfl (zs_ar rfl rfl rfl rfl rfl (yR zi ?_)))))
      exact ⟨rfl, rfl, trivial⟩
  | cons a l =>
    have hr := rc_rows (a :: l)
    have hl := len_map (a :: l) rc
    refine fun_go hC Tryz.func130 rfl rfl 8 rfl (by decide) (by kernel_rfl) fun _ _ _ _ _ => ?_
    ((refine yS (yB rfl (yT (zw_s (yS (yP rfl (yP rfl (yT (zw_c rfl (zc_f (zw_k (zt_n (yS (yn rfl ?_))))))))))))); refine zq1 zI (zkns (zst_ow (yP rfl (yn rfl (zqA zI ?_)))))); refine And.intro ⟨hr, by simp at hN ⊢; omega, by simp at hN ⊢; omega⟩ ?_)
    refine zkns (zst_e (zst_ow (zo_n rfl (zs_ar rfl rfl rfl rfl rfl (yR zi ?_)))))
    exact ⟨rfl, rfl, trivial⟩
/-- the closure of SetOf: what ends at a height or below -/
def endsB (y : Int) (r : Rect) : Bool := decide (r.y1 ≤ y)
theorem setOf_2 (r : Rect) (ys : List Int) (k : Nat) (y : Int) (hy : ys[k]? = some y) : ACalls C 136 [.pv (.ag (rc r)), .pv (.ip [ints ys]), .pv (.ip [i64 k])] (.p (bool (endsB y r))) [] := by
  refine fun_go hC Tryz.func136 rfl rfl 12 rfl (by decide) (by kernel_rfl) fun _ _ _ _ _ => ?_
  ((refine yS (yn rfl (zq1 zI (zkns (zst_bx (yA rfl (yT (zw_s (zw_d false [true, true, true, true, true, true, true, true] rfl (by kernel_rfl) (zp_q rfl (yW rfl (yD rfl (yD rfl (yD rfl ?_))))))))))))); refine dq rfl (zqX zI ?_)); refine ⟨[i64 y], (idx rfl hy), ?_⟩)
  ((refine zkd (zst_p (yD rfl (yD rfl (yD rfl (zd_0 (zr_s rfl (zr_s rfl (zr_s rfl (zr_s rfl (zr_s rfl (zr_s rfl (zr_s rfl (zr_k rfl rfl ?_))))))))))))); refine zr_q rfl (zt_n (zw_r (ze_r zi ?_)))); refine And.intro ?_ trivial)
  rfl
theorem index_rect2 (l : List Rect) (hN : l.length ≤ 140737488355328) (ys : List Int) (k : Nat) (y : Int) (hy : ys[k]? = some y) : ACalls C 221 [.row 73 (l.map rc), .pv (.fn 136 [.ip [ints ys], .ip [i64 k]])] (.p (i64 (firstP (endsB y) l 0))) [.row (l.map rc)] := by
  refine fun_go hC Tryz.func221 rfl rfl 19 rfl (by decide) (by kernel_rfl) fun _ _ _ _ _ => ?_
  have lm := len_map l rc
  refine yS (yA rfl (yT (zw_s (yS (yq rfl (zq1 zI (zkq (zst_ow (yP rfl (yP rfl (yT (zw_b ?_))))))))))))
  refine loop_ok' (fun i : Nat => i ≤ l.length ∧ ∀ x ∈ l.take i, endsB y x = false) (fun i => [(0, .ow 100000), (1, .p (.fn 136 [.ip [ints ys], .ip [i64 k]])), (7, .p (i64 (l.map rc).length)), (8, .p (i64 i))]) (fun _ => [(100000, .row 73 (l.map rc))]) (fun i => l.length - i) 0 _ (SLe.refl _ _) ⟨Nat.zero_le _, by simp⟩ ⟨rfl, rfl, rfl, rfl, trivial⟩ ⟨rfl, trivial⟩ fun i hi t h => ?_
  (refine yS (yP rfl (yT (zw_s (zw_c rfl ?_)))); refine bcase_split (fun h1 => ?_) (fun h1 => ?_) <;> try simp only [zB] at h1)
  · rw [lm] at h1
    obtain ⟨x, hx⟩ := get_of (l := l) (i := i) (by omega)
    ((refine zw_k (zt_n (zw_s (zw_b (yS (yP rfl (yA rfl (yU (yP rfl (yq rfl (zq1 zI (zkq (zst_ow (yP rfl ?_))))))))))))); refine yq rfl (zqA zI ?_)); refine And.intro ⟨by omega, by rw [lm]; omega⟩ ?_)
    (refine zkq (zst_rp (yq rfl (zqX zI ?_))); refine ⟨(rc x), (idx rfl hx).2, ?_⟩)
    (refine yk (yn rfl (zqX zI ?_)); refine ⟨_, _, (setOf_2 x ys k y hy), ?_⟩)
    (refine zkn rfl rfl (zst_p (yT (zw_c rfl ?_))); refine bcase_split (fun h2 => ?_) (fun h2 => ?_) <;> try simp only [zB] at h2)
    · refine yS (yP rfl (yA rfl (yT (zw_r (zb_r (zt_r (zt_r (zb_r (zt_r (ze_r zi ?_))))))))))
      exact ⟨by rw [firstP_at hx h2 hi.2, Nat.zero_add], rfl, trivial⟩
    · (refine zw_k (zb_n (zt_n (zw_o (yq rfl (zqA zI ?_))))); refine And.intro ⟨by omega, by omega⟩ ?_)
      (refine yk (yP rfl (yT (zaf_raw ?_))); refine ⟨(i + 1), _, SLe.refl _ _, ?_⟩)
      exact ⟨⟨by omega, take_no hx h2 hi.2⟩, by omega, ⟨rfl, rfl, rfl, rfl, trivial⟩, ⟨rfl, trivial⟩⟩
  · rw [lm] at h1
    refine zw_x (zt_x (zt_x (zb_h (zt_n (yS (yA rfl (yR zi ?_)))))))
    have h2 := hi.2
    rw [List.take_of_length_le (by omega)] at h2
    exact ⟨by rw [firstP_none h2]; rfl, rfl, trivial⟩
theorem first_of {α : Type} {p : α → Bool} : ∀ {l : List α}, l.any p = true → ∃ i x, l[i]? = some x ∧ p x = true ∧ ∀ z ∈ l.take i, p z = false := by
  intro l
  induction l with
  | nil => intro h; cases h
  | cons y l ih =>
    intro h
    cases hy : p y with
    | true => exact ⟨0, y, rfl, hy, by simp⟩
    | false =>
      rw [List.any_cons, hy, Bool.false_or] at h
      obtain ⟨i, x, h1, h2, h3⟩ := ih h
      refine ⟨i + 1, x, by simpa using h1, h2, fun z hz => ?_⟩
      rw [List.take_succ_cons, List.mem_cons] at hz
      rcases hz with rfl | hz
      · exact hy
      · exact h3 z hz
theorem set_take {α : Type} {m : List α} {a : Nat} {x : α} (h : a < m.length) : (m.set a x).take (a + 1) = m.take a ++ [x] := by
  apply List.ext_getElem?
  intro j
  rw [List.getElem?_take, List.getElem?_set]
  by_cases h1 : j < a
  · rw [if_pos (by omega), if_neg (by omega), List.getElem?_append_left (by rw [List.length_take]; omega), List.getElem?_take, if_pos h1]
  · by_cases h2 : j = a
    · subst h2
      rw [if_pos (by omega), if_pos rfl, if_pos h, List.getElem?_append_right (by rw [List.length_take]; omega)]
      simp [Nat.min_eq_left (Nat.le_of_lt h)]
    · rw [if_neg (by omega), List.getElem?_eq_none (by simp; omega)]
theorem filter_none {α : Type} {p : α → Bool} {l : List α} (h : ∀ x ∈ l, p x = false) : l.filter (fun x => !p x) = l := List.filter_eq_self.2 fun x hx => by simp [h x hx]
theorem filter_take {α : Type} {p : α → Bool} {l : List α} {i : Nat} {x : α} (hx : l[i]? = some x) : (l.take (i + 1)).filter p = (l.take i).filter p ++ if p x then [x] else [] := by
  rw [take_succ' hx, List.filter_append]
  congr 1
  cases h : p x <;> simp [List.filter, h]
set_option maxHeartbeats 1000000 in
theorem delete_rects (l : List Rect) (hN : l.length ≤ 4398046511104) (ys : List Int) (k : Nat) (y : Int) (hy : ys[k]? = some y) : ACalls C 135 [.row 73 (l.map rc), .pv (.fn 136 [.ip [ints ys], .ip [i64 k]])] (.own 73 ((l.filter fun r => !endsB y r).map rc)) [.gone] := by
  refine fun_go hC Tryz.func135 rfl rfl 42 rfl (by decide) (by kernel_rfl) fun _ _ _ _ _ => ?_
  have lm := len_map l rc
  (refine yS (yB rfl (yU (yq rfl (zq1 zI (zkq (zst_ow (yP rfl (yn rfl (zqX zI ?_))))))))); refine ⟨_, _, (index_rect2 l (by omega) ys k y hy), ?_⟩)
  by_cases hany : l.any (endsB y) = true
  · obtain ⟨i0, x0, hx0, hp0, hn0⟩ : ∃ i x, l[i]? = some x ∧ endsB y x = true ∧ ∀ z ∈ l.take i, endsB y z = false := first_of hany
    rw [firstP_at hx0 hp0 hn0, Nat.zero_add]
    have hi0 := (List.getElem?_eq_some_iff.1 hx0).1
    ((refine zkn rfl rfl (zst_e (zst_p (yA rfl (yT (zw_s (yS (yP rfl (yP rfl (yT (zw_c rfl (zc_f (zw_k (zt_n ?_))))))))))))); refine zw_s (yS (yP rfl (yq rfl (zqA zI ?_))))); refine And.intro ⟨by omega, by omega⟩ ?_)
    refine yk (yA rfl (yT (zw_b ?_)))
    refine loop_ok' (fun p : Nat × Nat × List Rect => p.1 < p.2.1 ∧ p.2.1 ≤ l.length ∧ p.2.2.length = l.length ∧ p.2.2.take p.1 = (l.take p.2.1).filter (fun r => !endsB y r) ∧ p.2.2.drop p.2.1 = l.drop p.2.1) (fun p => [(0, .ow 100000), (1, .p (.fn 136 [.ip [ints ys], .ip [i64 k]])), (5, .p (i64 p.1)), (6, .p (i64 p.2.1))]) (fun p => [(100000, .row 73 (p.2.2.map rc))]) (fun p => l.length - p.2.1) (i0, i0 + 1, l) _ (SLe.refl _ _) ⟨by simp, by simp only; omega, rfl, ?_, rfl⟩ ⟨rfl, rfl, rfl, av_i64 (by simp only; omega), trivial⟩ ⟨rfl, trivial⟩ fun ⟨a, b, m⟩ hi t h => ?_
    · simp only
      rw [filter_take hx0, filter_none hn0]
      simp [hp0]
    · simp only at hi
      obtain ⟨q1, q2, q3, q4, q5⟩ := hi
      have mm := len_map m rc
      (refine zw_s (yS (yP rfl (yq rfl (zq1 zI (zkq (zst_ow (yP rfl (yP rfl (yT (zw_c rfl ?_)))))))))); refine bcase_split (fun h2 => ?_) (fun h2 => ?_) <;> try simp only [zB] at h2)
      · rw [mm, q3] at h2
        obtain ⟨x, hx⟩ := get_of (l := l) (i := b) (by omega)
        have hmx : m[b]? = some x := by
          have : (m.drop b)[0]? = (l.drop b)[0]? := by rw [q5]
          simpa [hx] using this
        (refine zw_k (zt_n (zw_s (zw_b (yS (yq rfl (zq1 zI (zkq (zst_ow (yP rfl (yq rfl (zqA zI ?_))))))))))); refine And.intro ⟨by simp only; omega, by simp only; rw [mm]; omega⟩ ?_)
        (refine zkq (zst_rp (yq rfl (zqX zI ?_))); refine ⟨(rc x), (idx rfl hmx).2, ?_⟩)
        ((refine yk (yn rfl (zq1 zI (zkns (zst_bx (yq rfl (zq1 zI (zkq (zst_e (zst_0 (yU (yP rfl (yP rfl (yn rfl ?_))))))))))))); refine zqX zI ?_); refine ⟨_, _, (setOf_2 x ys k y hy), ?_⟩)
        (refine zkn rfl rfl (zst_p (yP rfl (yT (zw_c rfl ?_)))); refine bcase_split (fun h3 => ?_) (fun h3 => ?_) <;> try simp only [zB] at h3)
        · obtain ⟨z, hz⟩ := get_of (l := m) (i := a) (by omega)
          (refine yS (yq rfl (zq1 zI (zkq (zst_ow (yP rfl (yP rfl (yq rfl (zqA zI ?_)))))))); refine And.intro ⟨by simp only; omega, by simp only; rw [mm]; omega⟩ ?_)
          (refine zkq (zst_rp (yq rfl (zqX zI ?_))); refine ⟨(rc z), (idx rfl hz).2, ?_⟩)
          (refine zkq (zst_e (zst_0 (yT (zw_o (yP rfl (yq rfl (zqA zI ?_))))))); refine And.intro ⟨by simp only; omega, by simp only; omega⟩ ?_)
          (refine yk (yA rfl (zo_0 (zb_n (zt_n (zw_o (yP rfl (yq rfl (zqA zI ?_)))))))); refine And.intro ⟨by simp only; omega, by simp only; omega⟩ ?_)
          (refine yk (yA rfl (yT (zaf_raw ?_))); refine ⟨(a + 1, b + 1, m.set a x), _, SLe.refl _ _, ?_⟩)
          refine ⟨⟨by simp only; omega, by simp only; omega, by simp only; rw [List.length_set]; exact q3, ?_, ?_⟩, by simp only; omega, ⟨rfl, rfl, av_i64 (by simp only; omega), av_i64 (by simp only; omega), trivial⟩, ⟨?_, trivial⟩⟩
          · simp only
            rw [set_take (by omega), q4, filter_take hx, h3]
            rfl
          · simp only
            rw [List.drop_set_of_lt (by omega)]
            have := congrArg (List.drop 1) q5
            simpa [List.drop_drop] using this
          · show AB.row _ ((m.map rc).set a (rc x)) = AB.row _ ((m.set a x).map rc)
            rw [List.map_set]
        · (refine zw_k (zb_n (zt_n (zw_o (yP rfl (yq rfl (zqA zI ?_)))))); refine And.intro ⟨by simp only; omega, by simp only; omega⟩ ?_)
          (refine yk (yA rfl (yT (zaf_raw ?_))); refine ⟨(a, b + 1, m), _, SLe.refl _ _, ?_⟩)
          refine ⟨⟨by simp only; omega, by simp only; omega, q3, ?_, ?_⟩, by simp only; omega, ⟨rfl, rfl, rfl, av_i64 (by simp only; omega), trivial⟩, ⟨rfl, trivial⟩⟩
          · simp only
            rw [q4, filter_take hx, h3]
            simp
          · have := congrArg (List.drop 1) q5
            simpa [List.drop_drop] using this
      · rw [mm, q3] at h2
        refine zw_x (zt_x (zt_x (zb_h (zt_n (yS (yq rfl (zq1 zI (zkq (zst_ow (yP rfl (yq rfl (zqO zI ?_))))))))))))
        refine Or.inl ?_
        (refine zA zi ?_; refine And.intro ⟨by simp only; omega, by simp only; rw [mm]; omega, by simp only; omega⟩ ?_)
        (refine zkq (zst_vw (yq rfl (zqA zI ?_))); refine And.intro ⟨by simp only [Int.toNat_natCast]; omega, by simp only [Int.toNat_natCast]; omega⟩ ?_)
        refine zkq (zst_e (zst_0 (yU (yq rfl (zq1 zI (zkq (zst_ow (yP rfl (yq rfl (zqO zI ?_))))))))))
        refine Or.inl ?_
        have hlen3 : ((((m.map rc).take a ++ List.replicate ((m.map rc).length - a) [i64 0, i64 0, i64 0, i64 0] ++ (m.map rc).drop (m.map rc).length).length : Nat) : Int) = m.length := by simp; omega
        (refine zA zi ?_; refine And.intro ⟨by omega, by simp only; omega, by simp only [Int.toNat_natCast]; exact Int.le_trans (show (a : Int) ≤ m.length by omega) (Int.le_of_eq hlen3.symm)⟩ ?_)
        refine zkq (zst_vw (zo_n rfl (zs_as rfl rfl rfl (zas_n rfl) (zst_vw (yR zi ?_)))))
        refine ⟨?_, rfl, trivial⟩
        simp only [Int.toNat_natCast]
        rw [List.append_assoc, List.take_append_of_le_length (by rw [List.length_take, mm]; omega), List.take_take, Nat.min_self, ← List.map_take, q4, List.take_of_length_le (by omega)]
  · have hno : ∀ x ∈ l, endsB y x = false := fun x hx => by
      cases h : endsB y x with
      | false => rfl
      | true => exact absurd (List.any_eq_true.2 ⟨x, hx, h⟩) hany
    rw [firstP_none hno]
    (refine zkn rfl rfl (zst_e (zst_p (yA rfl (yT (zw_s (yS (yP rfl (yP rfl (yT (zw_c rfl (zc_t (yS (yq rfl ?_))))))))))))); refine zq1 zI (zkq (zst_ow (zo_n rfl (zs_ar rfl rfl rfl rfl rfl (yT (zw_r (zt_r (ze_r zi ?_)))))))))
    rw [filter_none hno]
    exact ⟨rfl, rfl, trivial⟩
end Go.Proofs.YthjfllfhagdnpaaGreatDoor.M
namespace Go.Proofs.YthjfllfhagdnpaaGreatDoor.M
open Go.AM Go.RowKit
open Reg (Rect Spans Band)

theorem addLast_flat (a b : Int) : ∀ (s : Spans), (s = [] → flat (Reg.addLast s a b) = [a, b]) ∧ (∀ n, s.length = n + 1 → ∃ p, (flat s)[2 * n + 1]? = some p ∧ flat (Reg.addLast s a b) = if a ≤ p then (flat s).set (2 * n + 1) (max p b) else flat s ++ [a, b]) := by
  intro s
  induction s with
  | nil => exact ⟨fun _ => rfl, fun n h => by simp at h⟩
  | cons p s ih =>
    refine ⟨fun h => by simp at h, fun n hn => ?_⟩
    cases s with
    | nil =>
      have : n = 0 := by simpa using hn.symm
      subst this
      refine ⟨p.2, rfl, ?_⟩
      rw [Reg.addLast]
      split <;> rfl
    | cons q s =>
      cases n with
      | zero => simp at hn
      | succ n =>
        obtain ⟨z, h1, h2⟩ := ih.2 n (by simpa using hn)
        refine ⟨z, ?_, ?_⟩
        · rw [show 2 * (n + 1) + 1 = (2 * n + 1) + 1 + 1 by omega]
          simpa [flat] using h1
        · rw [Reg.addLast, flat, h2, show 2 * (n + 1) + 1 = (2 * n + 1) + 1 + 1 by omega]
          split
          · simp [flat]
          · simp [flat]
theorem addLast_length (a b : Int) : ∀ (s : Spans), (Reg.addLast s a b).length ≤ s.length + 1 := by
  intro s
  induction s with
  | nil => simp [Reg.addLast]
  | cons p s ih =>
    cases s with
    | nil => rw [Reg.addLast]; split <;> simp
    | cons q s => rw [Reg.addLast]; simp only [List.length_cons] at ih ⊢; omega
theorem stretch_length (l : List Rect) : (Reg.stretch l).length ≤ l.length := by
  suffices H : ∀ n (m : List Rect), m.length = n → (Reg.stretch m).length ≤ m.length from H _ l rfl
  intro n
  induction n with
  | zero =>
    intro m hm
    have : m = [] := List.eq_nil_of_length_eq_zero hm
    subst this
    simp [Reg.stretch]
  | succ n ih =>
    intro m hm
    obtain ⟨d, r, rfl⟩ : ∃ d r, m = d ++ [r] := by
      cases h : m.reverse with
      | nil => simp at h; subst h; simp at hm
      | cons r d => exact ⟨d.reverse, r, by rw [← List.reverse_reverse m, h]; simp⟩
    rw [Reg.stretch_snoc]
    have h1 := addLast_length r.x0 r.x1 (Reg.stretch d)
    have h2 := ih d (by simp at hm; exact hm)
    simp only [List.length_append, List.length_singleton]
    omega
set_option maxRecDepth 100000 in
set_option maxHeartbeats 1000000 in
theorem house_stretches (l : List Rect) (hl : ∀ r ∈ l, Bd r) (hN : l.length ≤ 4398046511104) : ACalls C 138 [.row 73 (l.map rc)] (.p (ints (flat (Reg.stretch (sortBy cfX l))))) [.row ((sortBy cfX l).map rc)] := by
  refine fun_go hC Tryz.func138 rfl rfl 48 rfl (by decide) (by kernel_rfl) fun _ _ _ _ _ => ?_
  obtain ⟨hp, _⟩ := sortX_facts hl
  have hpl := hp.length_eq
  (refine yS (yB rfl (yU (yq rfl (zq1 zI (zkq (zst_ow (yn rfl (zqX zI ?_)))))))); refine ⟨_, _, (sort_x l hl (by omega)), ?_⟩)
  generalize sortBy cfX l = L at hp hpl ⊢
  have lm := len_map L rc
  (refine zkn rfl rfl (zst_e (zst_tu (yU (yB rfl (yT (zw_s (yS (yq rfl (zq1 zI (zkq (zst_ow (yP rfl (yP rfl ?_))))))))))))); refine yT (zw_b ?_))
  refine loop_ok' (fun i : Nat => i ≤ L.length) (fun i => [(0, .ow 100000), (9, .ow 100000), (10, .p (i64 (L.map rc).length)), (11, .p (i64 i)), (3, .ow 3)]) (fun i => [(100000, .row 73 (L.map rc)), (3, .row 3 ((flat (Reg.stretch (L.take i))).map fun n => [i64 n]))]) (fun i => L.length - i) 0 _ (SLe.nilRow hC _ 3 3 _ (by decide) rfl rfl (by decide)) (Nat.zero_le _) ⟨rfl, rfl, rfl, rfl, rfl, trivial⟩ ⟨rfl, rfl, trivial⟩ fun i hi t h => ?_
  have sl := stretch_length (L.take i)
  have fl := flat_length (Reg.stretch (L.take i))
  have sm := len_map (flat (Reg.stretch (L.take i))) fun n => [i64 n]
  rw [List.length_take] at sl
  (refine yS (yP rfl (yT (zw_s (zw_c rfl ?_)))); refine bcase_split (fun h1 => ?_) (fun h1 => ?_) <;> try simp only [zB] at h1)
  · rw [lm] at h1
    obtain ⟨r, hr⟩ := get_of (l := L) (i := i) (by omega)
    have hst : Reg.stretch (L.take (i + 1)) = Reg.addLast (Reg.stretch (L.take i)) r.x0 r.x1 := by rw [take_succ' hr, Reg.stretch_snoc]
    obtain ⟨a1, a2⟩ := addLast_flat r.x0 r.x1 (Reg.stretch (L.take i))
    rw [← hst] at a1 a2
    generalize Reg.stretch (L.take i) = s at *
    (refine zw_k (zt_n (zw_s (zw_b (yS (yq rfl (zqA zI ?_)))))); refine And.intro ⟨by omega, by rw [lm]; omega⟩ ?_)
    (refine zkq (zst_rp (yq rfl (zqX zI ?_))); refine ⟨(rc r), (idx rfl hr).2, ?_⟩)
    ((refine yk (yn rfl (zq1 zI (zkns (zst_bx (yq rfl (zq1 zI (zkq (zst_e (zst_0 (yU (yq rfl (zq1 zI (zkq ?_))))))))))))); refine zst_ow (yP rfl (yq rfl (zqA zI ?_)))); refine And.intro ⟨by rw [sm]; omega, by rw [sm]; omega⟩ ?_)
    (refine yk (yA rfl (yT (zw_s (zw_d false [true, true, true, true, true, true, true, true, true, true, true] rfl (by kernel_rfl) (zp_q rfl (yD rfl (yD rfl (yD rfl (dg rfl ?_))))))))); refine bcase_split (fun h2 => ?_) (fun h2 => ?_) <;> try simp only [zB] at h2)
    · rw [sm, fl] at h2
      obtain ⟨n, hn⟩ : ∃ n, s.length = n + 1 := ⟨s.length - 1, by omega⟩
      obtain ⟨p, hp1, hp2⟩ := a2 n hn
      have hk : (((flat s).map fun n => [i64 n]).length : Int) - 1 = ((2 * n + 1 : Nat) : Int) := by rw [sm, fl]; omega
      ((refine zg_t (zd_q rfl (zq1 zI (zkd (zst_bx (d1 rfl (d2 rfl (zd_q rfl (zq1 zI (zkd (zst_ow (d1 rfl (d2 rfl (zd_q rfl ?_))))))))))))); refine zqA zI ?_); refine And.intro ⟨by rw [hk]; omega, by rw [hk, sm, fl]; omega⟩ ?_)
      (refine zkd (zst_rp (d2 rfl (zd_q rfl (zqX zI ?_)))); refine ⟨[i64 p], (idx hk hp1).2, ?_⟩)
      (refine zkd (zst_p (d1 rfl (yD rfl (zd_0 (zr_q rfl (zt_n (zw_c rfl ?_))))))); refine bcase_split (fun h3 => ?_) (fun h3 => ?_) <;> try simp only [zB] at h3)
      · rw [if_pos h3] at hp2
        (refine zw_d false [true, true, true, true, true, true, true, true, true, true, true] rfl (by kernel_rfl) (zp_q rfl (dq rfl (zq1 zI (zkd (zst_ow (yD rfl (dq rfl (zq1 zI (zkd (zst_ow (yD rfl (dq rfl (zqA zI ?_))))))))))))); refine And.intro ⟨by rw [hk]; omega, by rw [hk, sm, fl]; omega⟩ ?_)
        (refine zkd (zst_rp (dq rfl (zqX zI ?_))); refine ⟨[i64 p], (idx hk hp1).2, ?_⟩)
        (refine zkd (zst_p (yW rfl (yD rfl (yD rfl (dq rfl (zqA zI ?_)))))); refine And.intro ⟨by rw [hk]; omega, by rw [hk, sm, fl]; omega⟩ ?_)
        (refine zkd (zst_rp (dq rfl (zqX zI ?_))); refine ⟨[i64 p], (idx hk hp1).2, ?_⟩)
        (refine zkde rfl (zst_e (zst_0 (zd_0 (zr_q rfl (zb_n (zt_n (zw_o (yq rfl (zqA zI ?_))))))))); refine And.intro ⟨by omega, by omega⟩ ?_)
        (refine yk (yP rfl (yT (zaf_raw ?_))); refine ⟨(i + 1), _, SLe.refl _ _, ?_⟩)
        refine ⟨by omega, by omega, ⟨rfl, rfl, rfl, rfl, rfl, trivial⟩, ⟨rfl, ?_, trivial⟩⟩
        have hset : ∀ k : Nat, k = 2 * n + 1 → AB.row 3 (((flat s).map fun n => [i64 n]).set k [i64 (max p r.x1)]) = AB.row 3 ((flat (Reg.stretch (L.take (i + 1)))).map fun n => [i64 n]) := by
          intro k e
          subst e
          rw [hp2, List.map_set]
        exact hset _ (by rw [hk]; rfl)
      · rw [if_neg h3] at hp2
        ((refine zw_o (yq rfl (zq1 zI (zkq (zst_ow (yV rfl (yP rfl (yV rfl (yP rfl (yn rfl (zq1 zI (zkns (zst_ow (yn rfl ?_))))))))))))); refine zqA zI ?_); refine And.intro ⟨by simp, by simp; omega, by simp; omega⟩ ?_)
        (refine zkns (zst_e (zst_ow (zo_n rfl (zs_ar rfl rfl rfl rfl rfl (zo_0 (zb_n (zt_n (zw_o (yq rfl (zqA zI ?_)))))))))); refine And.intro ⟨by omega, by omega⟩ ?_)
        (refine yk (yP rfl (yT (zaf_raw ?_))); refine ⟨(i + 1), _, SLe.refl _ _, ?_⟩)
        refine ⟨by omega, by omega, ⟨rfl, rfl, rfl, rfl, rfl, trivial⟩, ⟨rfl, ?_, trivial⟩⟩
        rw [hp2, List.map_append]
        rfl
    · rw [sm, fl] at h2
      have hs : s = [] := List.eq_nil_of_length_eq_zero (by omega)
      have hp2 := a1 hs
      ((refine zg_f (zst_p (d0 rfl (d0 rfl (d0 rfl (d0 rfl (d0 rfl (d0 rfl (yD rfl (zd_0 (zr_q rfl (zt_n (zw_c rfl (zc_f ?_))))))))))))); refine zw_o (yq rfl (zq1 zI (zkq (zst_ow (yV rfl (yP rfl (yV rfl (yP rfl (yn rfl (zq1 zI (zkns (zst_ow (yn rfl ?_))))))))))))); refine zqA zI ?_); refine And.intro ⟨by simp, by simp; omega, by simp; omega⟩ ?_)
      (refine zkns (zst_e (zst_ow (zo_n rfl (zs_ar rfl rfl rfl rfl rfl (zo_0 (zb_n (zt_n (zw_o (yq rfl (zqA zI ?_)))))))))); refine And.intro ⟨by omega, by omega⟩ ?_)
      (refine yk (yP rfl (yT (zaf_raw ?_))); refine ⟨(i + 1), _, SLe.refl _ _, ?_⟩)
      refine ⟨by omega, by omega, ⟨rfl, rfl, rfl, rfl, rfl, trivial⟩, ⟨rfl, ?_, trivial⟩⟩
      rw [hp2, hs]
      rfl
  · rw [lm] at h1
    refine zw_x (zt_x (zt_x (zb_h (zt_n (yS (yq rfl (zq1 zI (zkq (zst_ow (zo_n rfl (zs_ar rfl rfl rfl rfl rfl (yR zi ?_))))))))))))
    rw [List.take_of_length_le (by omega)]
    exact ⟨rfl, rfl, trivial⟩
end Go.Proofs.YthjfllfhagdnpaaGreatDoor.M
namespace Go.Proofs.YthjfllfhagdnpaaGreatDoor.M
open Go.AM Go.RowKit Go.Lib
open Reg (Rect Spans Band)

/-- the heights of rectangles, as the house makes them -/
def ends (l : List Rect) : List Int := l.flatMap fun r => [r.y0, r.y1]
theorem ends_step {l : List Rect} {i : Nat} {r : Rect} (h : l[i]? = some r) : ends (l.take (i + 1)) = ends (l.take i) ++ [r.y0, r.y1] := by
  rw [take_succ' h]
  simp [ends]
theorem mem_ends (l : List Rect) (y : Int) : y ∈ ends l ↔ ∃ r ∈ l, y = r.y0 ∨ y = r.y1 := by
  simp [ends]
theorem ends_length (l : List Rect) : (ends l).length = 2 * l.length := by
  induction l with
  | nil => rfl
  | cons r l ih => simp only [ends, List.flatMap_cons, List.length_append, List.length_cons, List.length_nil] at ih ⊢; omega
theorem heights_eq {l m : List Rect} (hm : ∀ r, r ∈ m ↔ r ∈ l) : compact (sortI (ends m)) = Reg.heights l := by
  have hs : (sortI (ends m)).Pairwise (· ≤ ·) := by
    have := List.pairwise_mergeSort (le := fun x y : Int => decide (x ≤ y)) (fun a b c h1 h2 => by simp at *; omega) (fun a b => by simp; omega) (ends m)
    exact this.imp fun h => by simpa using h
  obtain ⟨h1, h2⟩ := compact_facts hs
  obtain ⟨h3, h4⟩ := Reg.heights_facts l
  refine Reg.rising_unique _ _ h1 h3 fun x => ?_
  rw [h2, h4, sortI, (List.mergeSort_perm _ _).mem_iff, mem_ends]
  constructor
  · rintro ⟨r, hr, h⟩; exact ⟨r, (hm r).1 hr, h⟩
  · rintro ⟨r, hr, h⟩; exact ⟨r, (hm r).2 hr, h⟩
theorem at_height {ys : List Int} (hR : Reg.Rising ys) {k : Nat} {y q : Int} (hy : ys[k]? = some y) (hq : q ∈ ys) (h1 : q ≤ y) (h2 : ∀ j z, j + 1 = k → ys[j]? = some z → z < q) : q = y := by
  obtain ⟨i, hi⟩ := List.mem_iff_getElem?.1 hq
  rcases Nat.lt_trichotomy i k with h | h | h
  · obtain ⟨z, hz⟩ := get_of (l := ys) (i := k - 1) (by have := (List.getElem?_eq_some_iff.1 hy).1; omega)
    have := h2 (k - 1) z (by omega) hz
    have := rising_get hR hi hz (by omega)
    omega
  · subst h
    rw [hi] at hy
    injection hy
  · have := rising_get hR hy hi (by omega)
    omega
/-- what the sweep keeps: k heights are done -/
structure Sweep (L : List Rect) (ys : List Int) (k : Nat) (nw : List Rect) (next : Nat) : Prop where
  le : next ≤ L.length
  len : nw.length ≤ next
  mem : ∀ r, r ∈ nw ↔ r ∈ L.take next ∧ ∀ j y, j + 1 = k → ys[j]? = some y → y < r.y1
  below : ∀ r ∈ L.take next, ∀ j y, j + 1 = k → ys[j]? = some y → r.y0 ≤ y
  above : ∀ r ∈ L.drop next, ∀ j y, j + 1 = k → ys[j]? = some y → y < r.y0
  zero : k = 0 → next = 0
/-- within a round -/
structure Mid (L : List Rect) (y : Int) (nw : List Rect) (next : Nat) : Prop where
  le : next ≤ L.length
  len : nw.length ≤ next
  mem : ∀ r, r ∈ nw ↔ r ∈ L.take next ∧ y < r.y1
  below : ∀ r ∈ L.take next, r.y0 ≤ y
theorem Sweep.mid {L : List Rect} {ys : List Int} {k : Nat} {nw : List Rect} {next : Nat} (h : Sweep L ys k nw next) (hR : Reg.Rising ys) {y : Int} (hy : ys[k]? = some y) : Mid L y (nw.filter fun r => !endsB y r) next := by
  have prev : k ≠ 0 → ∃ z, ys[k - 1]? = some z ∧ z < y := fun hk => by
    have hkl := (List.getElem?_eq_some_iff.1 hy).1
    obtain ⟨z, hz⟩ := get_of (l := ys) (i := k - 1) (by omega)
    have a1 := List.getElem?_eq_some_iff.1 hz
    have a2 := List.getElem?_eq_some_iff.1 hy
    obtain ⟨b1, b2⟩ := a1
    obtain ⟨c1, c2⟩ := a2
    have := (List.pairwise_iff_getElem.1 hR) (k - 1) k b1 c1 (by omega)
    exact ⟨z, hz, by omega⟩
  refine ⟨h.le, Nat.le_trans (List.length_filter_le _ _) h.len, fun r => ?_, fun r hr => ?_⟩
  · rw [List.mem_filter, h.mem]
    simp only [endsB, Bool.not_eq_true', decide_eq_false_iff_not]
    constructor
    · rintro ⟨⟨h1, _⟩, h2⟩; exact ⟨h1, by omega⟩
    · rintro ⟨h1, h2⟩
      refine ⟨⟨h1, fun j z hj hz => ?_⟩, by omega⟩
      obtain ⟨z', hz', hlt⟩ := prev (by omega)
      rw [show k - 1 = j by omega, hz] at hz'
      injection hz' with hz'
      omega
  · by_cases hk : k = 0
    · rw [h.zero hk] at hr; simp at hr
    · obtain ⟨z, hz, hlt⟩ := prev hk
      have := h.below r hr (k - 1) z (by omega) hz
      omega
theorem Mid.next {L : List Rect} {y : Int} {nw : List Rect} {next : Nat} (h : Mid L y nw next) {r : Rect} (hr : L[next]? = some r) (h0 : r.y0 ≤ y) (h1 : y < r.y1) : Mid L y (nw ++ [r]) (next + 1) := by
  have hlt := (List.getElem?_eq_some_iff.1 hr).1
  refine ⟨by omega, by have := h.len; simp; omega, fun q => ?_, fun q hq => ?_⟩
  · rw [take_succ' hr, List.mem_append, List.mem_append, List.mem_singleton, h.mem]
    constructor
    · rintro (⟨a, b⟩ | rfl)
      · exact ⟨.inl a, b⟩
      · exact ⟨.inr rfl, h1⟩
    · rintro ⟨a | rfl, b⟩
      · exact .inl ⟨a, b⟩
      · exact .inr rfl
  · rw [take_succ' hr, List.mem_append, List.mem_singleton] at hq
    rcases hq with hq | rfl
    · exact h.below q hq
    · exact h0
/-- behind the inner loop: nothing more begins here -/
theorem Mid.row {L l : List Rect} {y : Int} {nw : List Rect} {next : Nat} (h : Mid L y nw next) (hm : ∀ r, r ∈ L ↔ r ∈ l) (hdrop : ∀ r ∈ L.drop next, y < r.y0) : ∀ r, r ∈ nw ↔ r ∈ l ∧ r.y0 ≤ y ∧ y < r.y1 := by
  intro r
  rw [h.mem, ← hm]
  constructor
  · rintro ⟨a, b⟩; exact ⟨List.mem_of_mem_take a, h.below r a, b⟩
  · rintro ⟨a, b, c⟩
    refine ⟨?_, c⟩
    rw [← List.take_append_drop next L, List.mem_append] at a
    rcases a with a | a
    · exact a
    · have := hdrop r a; omega
theorem Mid.sweep {L : List Rect} {ys : List Int} {k : Nat} {nw m : List Rect} {next : Nat} {y : Int} (h : Mid L y nw next) (hy : ys[k]? = some y) (hp : m.Perm nw) (hdrop : ∀ r ∈ L.drop next, y < r.y0) : Sweep L ys (k + 1) m next := by
  have one : ∀ j z, j + 1 = k + 1 → ys[j]? = some z → z = y := fun j z hj hz => by
    rw [show j = k by omega, hy] at hz; injection hz with hz; exact hz.symm
  refine ⟨h.le, by rw [hp.length_eq]; exact h.len, fun r => ?_, fun r hr j z hj hz => ?_, fun r hr j z hj hz => ?_, fun h => by omega⟩
  · rw [hp.mem_iff, h.mem]
    constructor
    · rintro ⟨a, b⟩; exact ⟨a, fun j z hj hz => by rw [one j z hj hz]; exact b⟩
    · rintro ⟨a, b⟩; exact ⟨a, b k y rfl hy⟩
  · rw [one j z hj hz]; exact h.below r hr
  · rw [one j z hj hz]; exact hdrop r hr
theorem drop_above {L : List Rect} (hs : L.Pairwise fun a b => a.y0 ≤ b.y0) {i : Nat} {r : Rect} (hr : L[i]? = some r) {y : Int} (h : y < r.y0) : ∀ q ∈ L.drop i, y < q.y0 := by
  intro q hq
  obtain ⟨hi, he⟩ := List.getElem?_eq_some_iff.1 hr
  rw [List.drop_eq_getElem_cons hi, he, List.mem_cons] at hq
  rcases hq with rfl | hq
  · exact h
  · obtain ⟨j, hj, rfl⟩ := List.getElem_of_mem hq
    rw [List.getElem_drop]
    have := List.pairwise_iff_getElem.1 hs i (i + 1 + j) hi (by rw [List.length_drop] at hj; omega) (by omega)
    rw [he] at this
    omega
end Go.Proofs.YthjfllfhagdnpaaGreatDoor.M
namespace Go.Proofs.YthjfllfhagdnpaaGreatDoor.M
open Go.AM Go.RowKit Go.Lib
open Reg (Rect Spans Band)

def Good (r : Rect) : Prop := Bd r ∧ r.x0 < r.x1 ∧ r.y0 < r.y1
theorem bandsTo_row (l : List Rect) (ys : List Int) {N : Nat} (h : ∀ y, (Reg.rowOf l y).length ≤ N) : ∀ k, ∀ t ∈ Reg.bandsTo l ys k, t.xs.length ≤ N := by
  intro k
  induction k with
  | zero => simp [Reg.bandsTo]
  | succ k ih => rw [Reg.bandsTo]; exact pushB_xs _ _ _ ih (h _)
set_option maxRecDepth 100000 in
set_option maxHeartbeats 4000000 in
theorem house_setOf' (l : List Rect) (hl : ∀ r ∈ l, Good r) (hN : l.length ≤ 4398046511104) (hH : (Reg.heights l).length ≤ 1000000000000) (hX : ∀ y, (Reg.rowOf l y).length ≤ 1000000000000) : ACalls C 56 [.pv (rects l)] (.own 204 ((Reg.bands l).map hb)) [] := by
  refine fun_go hC Tryz.func56 rfl rfl 83 rfl (by decide) (by kernel_rfl) fun _ _ _ _ _ => ?_
  have hbd : ∀ r ∈ l, Bd r := fun r hr => (hl r hr).1
  obtain ⟨hp, hsort⟩ := sortY_facts hbd
  have hpl := hp.length_eq
  (refine yS (yB rfl (yU (yP rfl (yn rfl (zqX zI ?_))))); refine ⟨_, _, (clone_rects l (by omega)), ?_⟩)
  (refine zkns (zst_ow (zo_n rfl (zs_ar rfl rfl rfl rfl rfl (yU (yq rfl (zq1 zI (zkq (zst_ow (yn rfl (zqX zI ?_)))))))))); refine ⟨_, _, (sort_y l hbd (by omega)), ?_⟩)
  generalize sortBy cfY l = L at hp hsort hpl
  have lm := len_map L rc
  (refine zkn rfl rfl (zst_e (zst_tu (yU (yn rfl (zq1 zI (zkns (zst_bx (yT (zw_s (yS (yq rfl (zq1 zI (zkq ?_))))))))))))); refine zst_ow (yP rfl (yP rfl (yT (zw_b ?_)))))
  refine loop_ok' (fun i : Nat => i ≤ L.length) (fun i => [(0, .ow 0), (14, .ow 0), (15, .p (i64 (L.map rc).length)), (16, .p (i64 i)), (3, .bx 3 0)]) (fun i => [(0, .row 73 (L.map rc)), (3, .box [.ow 90000]), (90000, .row 3 ((ends (L.take i)).map fun n => [i64 n]))]) (fun i => L.length - i) 0 _ (SLe.nilCell hC _ 3 0 90000 3 _ _ (by decide) (by decide) rfl rfl rfl (by decide)) (Nat.zero_le _) ⟨rfl, rfl, rfl, rfl, rfl, trivial⟩ ⟨rfl, rfl, rfl, trivial⟩ fun i hi t h => ?_
  have el := ends_length (L.take i)
  have em := len_map (ends (L.take i)) fun n => [i64 n]
  rw [List.length_take] at el
  (refine yS (yP rfl (yT (zw_s (zw_c rfl ?_)))); refine bcase_split (fun h1 => ?_) (fun h1 => ?_) <;> try simp only [zB] at h1)
  · rw [lm] at h1
    obtain ⟨r, hr⟩ := get_of (l := L) (i := i) (by omega)
    (refine zw_k (zt_n (zw_s (zw_b (yS (yq rfl (zqA zI ?_)))))); refine And.intro ⟨by omega, by rw [lm]; omega⟩ ?_)
    (refine zkq (zst_rp (yq rfl (zqX zI ?_))); refine ⟨(rc r), (idx rfl hr).2, ?_⟩)
    ((refine yk (yn rfl (zq1 zI (zkns (zst_bx (yq rfl (zq1 zI (zkq (zst_e (zst_0 (yT (zw_o (yq rfl (zq1 zI ?_))))))))))))); refine zkq (zst_ow (yV rfl (yP rfl (yV rfl (yP rfl (yn rfl (zq1 zI (zkns (zst_ow (yn rfl (zqA zI ?_)))))))))))); refine And.intro ⟨by simp, by simp; omega, by simp; omega⟩ ?_)
    (refine zkns (zst_e (zst_ow (yq rfl (zq1 zI (zkq (zst_e (zst_0 (zo_0 (zb_n (zt_n (zw_o (yq rfl (zqA zI ?_))))))))))))); refine And.intro ⟨by omega, by omega⟩ ?_)
    refine yk (yP rfl (yT (zaf_raw ?_)))
    refine ⟨i + 1, _, SLe.ren _ 26 90000 (by decide) (by decide), by omega, by omega, ⟨rfl, rfl, rfl, rfl, rfl, trivial⟩, ⟨rfl, rfl, ?_, trivial⟩⟩
    show AB.row _ _ = AB.row _ _
    rw [ends_step hr, List.map_append]
    rfl
  · rw [lm] at h1
    rw [List.take_of_length_le (show L.length ≤ i by omega)] at *
    (refine zw_x (zt_x (zt_x (zb_h (zt_n (yS (yV rfl (yn rfl (zqX zI ?_)))))))); refine ⟨_, _, (sort_ints (ends L) (by omega)), ?_⟩)
    (refine zkn rfl rfl (zst_e (zst_tu (yU (yq rfl (zq1 zI (zkq (zst_ow (yn rfl (zqX zI ?_))))))))); refine ⟨_, _, (compact_ints (sortI (ends L)) (by rw [sortI, List.length_mergeSort]; omega)), ?_⟩)
    have hmem : ∀ r, r ∈ L ↔ r ∈ l := fun r => hp.mem_iff
    rw [heights_eq hmem]
    have hR := heights_rising l
    have hL := heights_length l
    have hyl := len_map (Reg.heights l) fun n => [i64 n]
    have hyi : ∀ r ∈ L, r.y0 ∈ Reg.heights l := fun r hr => ((Reg.heights_facts l).2 _).2 ⟨r, (hmem r).1 hr, .inl rfl⟩
    have hbl := bandsTo_length l (Reg.heights l)
    have hbx := bandsTo_row l (Reg.heights l) hX
    have hbands : Reg.bands l = Reg.bandsTo l (Reg.heights l) ((Reg.heights l).length - 1) := rfl
    generalize Reg.heights l = ys at *
    (refine zkns (zst_e (zst_ow (yq rfl (zq1 zI (zkq (zst_e (zst_0 (yU (yB rfl (yU (yB rfl (yU (yA rfl ?_))))))))))))); refine yT (zw_s (yS (yn rfl (zq1 zI (zkns (zst_bx (yq rfl (zq1 zI (zkq (zst_e (zst_0 (yT (zw_b ?_))))))))))))))
    refine loop_ok' (fun x : Nat × List Rect × Nat => x.1 ≤ ys.length - 1 ∧ Sweep L ys x.1 x.2.1 x.2.2) (fun x => [(0, .ow 0), (3, .p (.ip [ints ys])), (6, .ow 6), (7, .ow 7), (8, .p (i64 x.2.2)), (9, .bx 9 0)]) (fun x => [(0, .row 73 (L.map rc)), (6, .row 204 ((Reg.bandsTo l ys x.1).map hb)), (7, .row 73 (x.2.1.map rc)), (9, .box [.p (i64 x.1)])]) (fun x => ys.length - x.1) (0, [], 0) _
      (SLe.trans (SLe.nilRow hC _ 6 204 _ (by decide) rfl rfl (by decide)) (SLe.trans (SLe.nilRow hC _ 7 73 _ (by decide) rfl rfl (by decide)) (SLe.trans (SLe.frzCell hC _ 3 0 31 3 _ _ (by decide) rfl rfl rfl) (SLe.toPV hC _ 3 (y := .ip [ints ys]) (fz := [(3, .fbx [ints ys])]) ⟨rfl, rfl⟩))))
      ⟨Nat.zero_le _, ⟨Nat.zero_le _, Nat.le_refl _, by simp, by simp, fun r _ j y h => by omega, fun _ => rfl⟩⟩ ⟨rfl, rfl, rfl, rfl, rfl, rfl, trivial⟩ ⟨rfl, rfl, rfl, rfl, trivial⟩ fun ⟨k, nw, next⟩ hi t h => ?_
    obtain ⟨hk, hsw⟩ := hi
    simp only at hk hsw
    (refine zw_s (yS (yP rfl (yq rfl (zqA zI ?_)))); refine And.intro ⟨by simp only; omega, by simp only; omega⟩ ?_)
    (refine yk (yP rfl (yP rfl (yP rfl (yT (zw_c rfl ?_))))); refine bcase_split (fun h2 => ?_) (fun h2 => ?_) <;> try simp only [zB] at h2)
    · rw [hyl] at h2
      obtain ⟨y, hy⟩ := get_of (l := ys) (i := k) (by omega)
      obtain ⟨y', hy'⟩ := get_of (l := ys) (i := k + 1) (by omega)
      have hmid := hsw.mid hR hy
      (refine zw_k (zt_n (zw_s (zw_b (yS (yq rfl (zq1 zI (zkq (zst_ow (yV rfl (yn rfl (zqX zI ?_))))))))))); refine ⟨_, _, (delete_rects nw (by have := hsw.len; have := hsw.le; omega) ys k y hy), ?_⟩)
      refine zkns (zst_e (zst_e (zst_ow (zo_n rfl (zs_ar rfl rfl rfl rfl rfl (yT (zw_s (zw_b ?_))))))))
      refine cutB' (fun p : List Rect × Nat => Mid L y p.1 p.2 ∧ ∀ r ∈ L.drop p.2, y < r.y0) (fun p => [(0, .ow 0), (3, .p (.ip [ints ys])), (6, .ow 6), (7, .ow 7), (8, .p (i64 p.2)), (9, .p (.ip [i64 k]))]) (fun p => [(0, .row 73 (L.map rc)), (6, .row 204 ((Reg.bandsTo l ys k).map hb)), (7, .row 73 (p.1.map rc))]) (fun ⟨nw2, next2⟩ hp2 t h => ?_) ?_
      · obtain ⟨hm2, hd2⟩ := hp2
        simp only at hm2 hd2
        have hrow := hm2.row hmem hd2
        have hb2 : ∀ r ∈ nw2, Bd r := fun r hr => (hl r ((hrow r).1 hr).1).1
        obtain ⟨hpx, hsx⟩ := sortX_facts hb2
        have est : Reg.stretch (sortBy cfX nw2) = Reg.rowOf l y := Reg.stretch_row l _ y (fun r hr => (hl r hr).2.1) hsx fun r => (hpx.mem_iff).trans (hrow r)
        have hlt : y < y' := by
          obtain ⟨b1, b2⟩ := List.getElem?_eq_some_iff.1 hy
          obtain ⟨c1, c2⟩ := List.getElem?_eq_some_iff.1 hy'
          have := (List.pairwise_iff_getElem.1 hR) k (k + 1) b1 c1 (by omega)
          omega
        ((refine zt_n (zw_d true [true, false, false, false, false, false, false, true, false, false, true, true, true, true, true] rfl (by kernel_rfl) (zp_s rfl (zp_s rfl (zp_s rfl (zp_s rfl (zp_s rfl (zp_s rfl (zp_s rfl (zp_s rfl (zp_s rfl (zp_s rfl (zp_s rfl (zp_n rfl rfl ?_))))))))))))); refine zp_s rfl (zp_n rfl rfl (zp_q rfl (dq rfl (zq1 zI (zkd (zst_ow (yD rfl (yD rfl (dq rfl (zqX zI ?_))))))))))); refine ⟨[i64 y], (idx rfl hy), ?_⟩)
        (refine zkd (zst_p (yD rfl (yD rfl (yD rfl (dq rfl (zqA zI ?_)))))); refine And.intro ⟨by omega, by omega⟩ ?_)
        (refine zkd (zst_p (dq rfl (zqX zI ?_))); refine ⟨[i64 y'], (idx (by omega) hy'), ?_⟩)
        (refine zkd (zst_p (yD rfl (dq rfl (zq1 zI (zkd (zst_ow (dq rfl (zqX zI ?_)))))))); refine ⟨_, _, (house_stretches nw2 hb2 (by have := hm2.len; have := hm2.le; omega)), ?_⟩)
        rw [est]
        (refine zkde rfl (zst_e (zst_p (yD rfl (dq rfl (zqX zI ?_))))); refine ⟨_, _, (house_push (Reg.bandsTo l ys k) ⟨y, y', Reg.rowOf l y⟩ hlt (by have := hbl k; omega) (fun t ht => by have := hbx k t ht; omega)), ?_⟩)
        ((refine zkden rfl rfl rfl (zsn_e (zsn_0 (zst_ow (dq rfl (zq1 zI (zkd (zst_ow (zd_0 (zr_s rfl (zr_s rfl (zr_s rfl (zr_s rfl (zr_s rfl ?_))))))))))))); refine zr_s rfl (zr_s rfl (zr_s rfl (zr_s rfl (zr_s rfl (zr_s rfl (zr_s rfl (zr_s rfl (zr_s rfl (zr_r rfl rfl rfl rfl rfl (zr_q rfl (zb_n (zt_n (zw_s ?_))))))))))))); refine yS (yP rfl (yT (zw_o (yn rfl (zq1 zI (zkns (zst_bx (yq rfl (zq1 zI (zkq (zst_e (zst_0 (yT ?_))))))))))))); refine zw_o (yP rfl (yq rfl (zqA zI ?_)))); refine And.intro ⟨by omega, by omega⟩ ?_)
        (refine yk (yq rfl (zq1 zI (zkq (zst_e (zst_0 (yT (zaf_raw ?_))))))); refine ⟨(k + 1, sortBy cfX nw2, next2), _, SLe.refl _ _, ?_⟩)
        refine ⟨⟨by simp only; omega, hm2.sweep hy hpx hd2⟩, by simp only; omega, ⟨rfl, rfl, rfl, rfl, rfl, rfl, trivial⟩, ⟨rfl, ?_, rfl, ?_, trivial⟩⟩
        · simp only
          rw [Reg.bandsTo, getD_of hy, getD_of hy']
          rfl
        · exact congrArg (fun z => AB.box [z]) (av_i64 (by simp only; omega))
      · refine loop_ok' (fun p : List Rect × Nat => next ≤ p.2 ∧ Mid L y p.1 p.2) (fun p => [(0, .ow 0), (3, .p (.ip [ints ys])), (6, .ow 6), (7, .ow 7), (8, .p (i64 p.2)), (9, .p (.ip [i64 k]))]) (fun p => [(0, .row 73 (L.map rc)), (6, .row 204 ((Reg.bandsTo l ys k).map hb)), (7, .row 73 (p.1.map rc))]) (fun p => L.length - p.2) (nw.filter fun r => !endsB y r, next) _ (SLe.toPV hC _ 9 (y := .ip [i64 k]) (fz := []) ⟨rfl, rfl⟩) ⟨Nat.le_refl _, hmid⟩ ⟨rfl, rfl, rfl, rfl, rfl, rfl, trivial⟩ ⟨rfl, rfl, rfl, trivial⟩ fun ⟨nw2, next2⟩ hp2 t h => ?_
        obtain ⟨hle2, hm2⟩ := hp2
        simp only at hle2 hm2
        have hn2 := hm2.le
        have hl2 := hm2.len
        (refine zw_s (zw_s (zw_d false [true, true, true, true, true, true, true, true, true, true, true, true, true, true, true, true] rfl (by kernel_rfl) (zp_q rfl (yD rfl (dq rfl (zq1 zI (zkd (zst_ow (yD rfl (yD rfl (yD rfl (dg rfl ?_)))))))))))); refine bcase_split (fun g1 => ?_) (fun g1 => ?_) <;> try simp only [zB] at g1)
        · rw [lm] at g1
          obtain ⟨r, hr⟩ := get_of (l := L) (i := next2) (by omega)
          (refine zg_t (zd_q rfl (zq1 zI (zkd (zst_ow (d1 rfl (d2 rfl (zd_q rfl (zqA zI ?_)))))))); refine And.intro ⟨by simp only; omega, by simp only; rw [lm]; omega⟩ ?_)
          (refine zkd (zst_rp (d2 rfl (zd_q rfl (zq1 zI (zkd (zst_rp (d2 rfl (zd_q rfl (zqX zI ?_))))))))); refine ⟨(rc r), (idx rfl hr).2, ?_⟩)
          (refine zkd (zst_p (d1 rfl (d1 rfl (d2 rfl (zd_q rfl (zqX zI ?_)))))); refine ⟨[i64 y], (idx rfl hy), ?_⟩)
          (refine zkd (zst_p (d1 rfl (d1 rfl (yD rfl (zd_0 (zr_q rfl (zt_n (zw_c rfl ?_)))))))); refine bcase_split (fun g2 => ?_) (fun g2 => ?_) <;> try simp only [zB] at g2)
          · have hrL : r ∈ L := List.mem_of_getElem? hr
            have e := at_height hR hy (hyi r hrL) g2 fun j z hj hz => hsw.above r (by
              refine List.mem_of_getElem? (i := next2 - next) ?_
              rw [List.getElem?_drop, ← hr]
              congr 1; omega) j z hj hz
            have hg := hl r ((hmem r).1 hrL)
            ((refine zw_k (zt_n (zw_b (zw_o (yq rfl (zq1 zI (zkq (zst_ow (yq rfl (zq1 zI (zkq (zst_ow (yP rfl (yq rfl ?_))))))))))))); refine zqA zI ?_); refine And.intro ⟨by simp only; omega, by simp only; rw [lm]; omega⟩ ?_)
            (refine zkq (zst_rp (yq rfl (zqX zI ?_))); refine ⟨(rc r), (idx rfl hr).2, ?_⟩)
            (refine yk (yn rfl (zq1 zI (zkns (zst_ow (yn rfl (zqA zI ?_)))))); refine And.intro ⟨one_row rfl, by simp; omega, by simp; omega⟩ ?_)
            (refine zkns (zst_e (zst_ow (yP rfl (yq rfl (zqA zI ?_))))); refine And.intro ⟨by simp only; omega, by simp only; omega⟩ ?_)
            (refine yk (zo_n rfl (zs_ar rfl rfl rfl rfl rfl (yA rfl (zo_0 (zb_n (zt_n (zaf_raw ?_))))))); refine ⟨(nw2 ++ [r], next2 + 1), _, SLe.refl _ _, ?_⟩)
            refine ⟨⟨by simp only; omega, hm2.next hr g2 (by have := hg.2.2; omega)⟩, by simp only; omega, ⟨rfl, rfl, rfl, rfl, av_i64 (by simp only; omega), rfl, trivial⟩, ⟨rfl, rfl, ?_, trivial⟩⟩
            show AB.row _ _ = AB.row _ _
            rw [List.map_append]
            rfl
          · refine zw_x (zt_x (zt_x (zb_h (zt_n (zaf_raw (zX zi ?_))))))
            exact ⟨(nw2, next2), ⟨hm2, drop_above hsort hr (by omega)⟩, ⟨rfl, rfl, rfl, rfl, rfl, rfl, trivial⟩, ⟨rfl, rfl, rfl, trivial⟩⟩
        · rw [lm] at g1
          (refine zg_f (zst_p (d0 rfl (d0 rfl (d0 rfl (d0 rfl (d0 rfl (d0 rfl (d0 rfl (d0 rfl (d0 rfl (yD rfl (zd_0 (zr_q rfl ?_))))))))))))); refine zt_n (zw_c rfl (zc_f (zw_x (zt_x (zt_x (zb_h (zt_n (zaf_raw (zX zi ?_))))))))))
          refine ⟨(nw2, next2), ⟨hm2, fun r hr => ?_⟩, ⟨rfl, rfl, rfl, rfl, rfl, rfl, trivial⟩, ⟨rfl, rfl, rfl, trivial⟩⟩
          rw [List.drop_of_length_le (by simp only; omega)] at hr
          cases hr
    · rw [hyl] at h2
      refine zw_x (zt_x (zt_x (zb_h (zt_n (yS (yq rfl (zq1 zI (zkq (zst_ow (zo_n rfl (zs_ar rfl rfl rfl rfl rfl (yR zi ?_))))))))))))
      rw [hbands, show ys.length - 1 = k by omega]
      exact ⟨rfl, rfl, trivial⟩
theorem house_setOf (l : List Rect) (hl : ∀ r ∈ l, Good r) (hN : l.length ≤ 400000) : ACalls C 56 [.pv (rects l)] (.own 204 ((Reg.bands l).map hb)) [] :=
  house_setOf' l hl (by omega) (by have := heights_length l; omega) (fun y => by have := rowOf_length l y; omega)
end Go.Proofs.YthjfllfhagdnpaaGreatDoor.M
namespace Go.Proofs.YthjfllfhagdnpaaGreatDoor.M
open Go.AM Go.RowKit Go.Lib
open Reg (Rect Spans Band)

theorem good_of {r : Rect} (h : Reg.isRect r = true ∧ r.x0 < r.x1 ∧ r.y0 < r.y1) : Good r := by
  obtain ⟨h1, h2, h3⟩ := h
  simp only [Reg.isRect, Reg.isAt, Bool.and_eq_true, decide_eq_true_eq] at h1
  exact ⟨⟨by omega, by omega, by omega, by omega⟩, h2, h3⟩
theorem bands_length (l : List Rect) (hN : l.length ≤ 400000) : (Reg.bands l).length ≤ 1000000 ∧ ∀ t ∈ Reg.bands l, t.xs.length ≤ 1000000 := by
  have h1 := bandsTo_length l (Reg.heights l) ((Reg.heights l).length - 1)
  have h2 := heights_length l
  exact ⟨by unfold Reg.bands; omega, fun t ht => by have := bandsTo_xs l (Reg.heights l) _ t ht; omega⟩
set_option maxRecDepth 100000 in
set_option maxHeartbeats 1000000 in
theorem house_checkRegion (l : List Rect) : ACalls C 53 [.pv (rects l)] (.p (i64 (Reg.checkRegion l))) [] := by
  refine fun_go hC Tryz.func53 rfl rfl 52 rfl (by decide) (by kernel_rfl) fun _ _ _ _ _ => ?_
  have lm := len_map l rc
  (refine yS (yA rfl (yT (zw_s (yS (yP rfl (yn rfl (zqX zI ?_))))))); refine ⟨_, _, (house_checkRects l), ?_⟩)
  (refine zkn rfl rfl (zst_p (yA rfl (yU (yP rfl (yP rfl (yT (zw_c rfl ?_))))))); refine bcase_split (fun h0 => ?_) (fun h0 => ?_) <;> try simp only [zB] at h0)
  · (refine yS (yP rfl (yA rfl (yT (zw_r (zt_r (ze_r zi ?_)))))); refine And.intro ?_ trivial)
    rw [Reg.checkRegion, if_neg h0]
  · have h0 : Reg.checkRects l = 0 := by simpa using h0
    obtain ⟨hl, hg⟩ := Reg.rects_good h0
    have hc : Reg.checkRegion l = (if Reg.ordered l = true then (if Reg.canonical l = l then 0 else 3) else 8) := by rw [Reg.checkRegion, if_pos h0]
    obtain ⟨bl, bx⟩ := bands_length l (by omega)
    refine zw_k (zt_n (zw_s (yS (yA rfl (yT (zw_b ?_))))))
    refine cutB' (fun _ : Unit => Reg.ordered l = true) (fun _ => [(0, .p (rects l))]) (fun _ => []) (fun _ hO t h => ?_) ?_
    · rw [if_pos hO] at hc
      (refine zt_n (zw_s (yS (yP rfl (yn rfl (zqX zI ?_))))); refine ⟨_, _, (house_setOf l (fun r hr => good_of (hg r hr)) (by omega)), ?_⟩)
      (refine zkns (zst_ow (yn rfl (zqX zI ?_))); refine ⟨_, _, (house_rects (Reg.bands l) bl bx), ?_⟩)
      (refine zkns (zst_e (zst_ow (yP rfl (yn rfl (zqX zI ?_))))); refine ⟨_, _, (equal_rects (Reg.told (Reg.bands l)) l (by
        have := told_length (Reg.bands l) bx
        have : (Reg.bands l).length * 1000000 ≤ 1000000 * 1000000 := Nat.mul_le_mul_right _ bl
        omega)), ?_⟩)
      (refine zkn rfl rfl (zst_p (yP rfl (yT (zw_c rfl ?_)))); refine bcase_split (fun h2 => ?_) (fun h2 => ?_) <;> try simp only [zB] at h2)
      · (refine yS (yA rfl (yT (zw_r (zt_r (ze_r zi ?_))))); refine And.intro ?_ trivial)
        rw [hc, if_neg (show ¬ Reg.canonical l = l from h2)]; rfl
      · (refine zw_k (zt_n (yS (yA rfl (yR zi ?_)))); refine And.intro ?_ trivial)
        rw [hc, if_pos (show Reg.canonical l = l from h2)]; rfl
    · refine loop_ok' (fun i : Nat => ∀ (j : Nat) a b, j < i → l[j]? = some a → l[j + 1]? = some b → Reg.before a b = true) (fun i => [(0, .p (rects l)), (4, .p (i64 ((i : Int) + 1)))]) (fun _ => []) (fun i => l.length - i) 0 _ (SLe.refl _ _) (fun j a b h => by omega) ⟨rfl, rfl, trivial⟩ trivial fun i hi t h => ?_
      (refine zw_s (yS (yP rfl (yP rfl (yP rfl (yP rfl (yT (zw_c rfl ?_))))))); refine bcase_split (fun h1 => ?_) (fun h1 => ?_) <;> try simp only [zB] at h1)
      · rw [lm] at h1
        obtain ⟨a, ha⟩ := get_of (l := l) (i := i) (by omega)
        obtain ⟨b, hb⟩ := get_of (l := l) (i := i + 1) (by omega)
        have stop : ¬ Reg.before a b = true → Reg.checkRegion l = 8 := fun hn => by
          rw [hc, if_neg]
          rw [ordered_false ha hb (by simpa using hn)]; decide
        have cont : Reg.before a b = true → ∀ (j : Nat) x y, j < i + 1 → l[j]? = some x → l[j + 1]? = some y → Reg.before x y = true := fun hy j x y hj hx hy' => by
          by_cases e : j = i
          · subst e
            rw [ha] at hx; injection hx with hx; rw [hb] at hy'; injection hy' with hy'
            rw [← hx, ← hy']; exact hy
          · exact hi j x y (by omega) hx hy'
        ((refine zw_k (zt_n (zw_s (zw_b (zw_s (zw_d false [true, true, true, true, true, true, true, false, false, true, true, true, true] rfl (by kernel_rfl) (zp_s rfl (zp_s rfl (zp_s rfl (zp_s rfl (zp_s rfl (zp_s rfl (zp_s rfl (zp_s rfl ?_))))))))))))); refine zp_s rfl (zp_n rfl rfl (zp_n rfl rfl (zp_q rfl (yD rfl (yD rfl (dq rfl (zqA zI ?_)))))))); refine And.intro ⟨by omega, by omega⟩ ?_)
        (refine zkd (zst_p (dq rfl (zqX zI ?_))); refine ⟨(rc a), (idx (show ((i : Int) + 1) - 1 = (i : Nat) by omega) ha), ?_⟩)
        (refine zkd (zst_p (yD rfl (yD rfl (yD rfl (dq rfl (zqX zI ?_)))))); refine ⟨(rc b), (idx (show ((i : Int) + 1) = ((i + 1 : Nat) : Int) by omega) hb), ?_⟩)
        ((refine zkd (zst_p (yD rfl (dq rfl (zq1 zI (zkdn rfl rfl (zst_bx (dq rfl (zq1 zI (zkdn rfl rfl (zst_bx (dq rfl (zq1 zI (zkde rfl ?_))))))))))))); refine zst_e (zst_0 (dq rfl (zq1 zI (zkde rfl (zst_e (zst_0 (zd_0 (zr_q rfl (zt_n (yS (yV rfl (yP rfl (yV rfl ?_))))))))))))); refine yP rfl (yP rfl (yP rfl (yg rfl ?_)))); refine bcase_split (fun g1 => ?_) (fun g1 => ?_) <;> try simp only [zB] at g1)
        · ((refine zg_f (zst_p (y0 rfl (y0 rfl (y0 rfl (y0 rfl (y0 rfl (zo_gu rfl rfl rfl rfl (zst_p (zo_gu rfl rfl rfl rfl (zst_p (zo_gu rfl rfl rfl rfl (zst_p (zo_gu rfl rfl rfl rfl ?_))))))))))))); refine zst_p (zo_gu rfl rfl rfl rfl (zst_p (y0 rfl (yP rfl (yT (zw_c rfl (zc_t (yS (yA rfl (yT (zw_r (zb_r (zt_r ?_))))))))))))); refine zt_r (zb_r (zt_r (zt_r (ze_r zi ?_))))); refine And.intro ?_ trivial)
          rw [stop (by simp [Reg.before]; omega)]; rfl
        ((refine zg_t (zs_q rfl rfl (zq1 zI (zkq (zst_bx (y1 rfl (y2 rfl (zs_q rfl rfl (zq1 zI (zkq (zst_bx (y1 rfl (y1 rfl (y1 rfl ?_))))))))))))); refine yg rfl ?_); refine bcase_split (fun g2 => ?_) (fun g2 => ?_) <;> try simp only [zB] at g2)
        · ((refine zg_t (zs_q rfl rfl (zq1 zI (zkq (zst_bx (y1 rfl (y2 rfl (zs_q rfl rfl (zq1 zI (zkq (zst_bx (y1 rfl (y1 rfl (y1 rfl ?_))))))))))))); refine yP rfl (yT (zw_c rfl ?_))); refine bcase_split (fun g3 => ?_) (fun g3 => ?_) <;> try simp only [zB] at g3)
          · (refine yS (yA rfl (yT (zw_r (zb_r (zt_r (zt_r (zb_r (zt_r (zt_r (ze_r zi ?_)))))))))); refine And.intro ?_ trivial)
            rw [stop (by simp [Reg.before]; omega)]; rfl
          · (refine zw_k (zb_n (zt_n (zw_o (yP rfl (yq rfl (zqA zI ?_)))))); refine And.intro ⟨by omega, by omega⟩ ?_)
            (refine yk (yA rfl (yT (zaf_raw ?_))); refine ⟨(i + 1), _, SLe.refl _ _, ?_⟩)
            exact ⟨cont (by simp [Reg.before]; omega), by omega, ⟨rfl, av_i64 (by omega), trivial⟩, trivial⟩
        · ((refine zg_f (zst_p (y0 rfl (y0 rfl (y0 rfl (y0 rfl (y1 rfl (yP rfl (yT (zw_c rfl (zc_f (zw_k (zb_n (zt_n ?_))))))))))))); refine zw_o (yP rfl (yq rfl (zqA zI ?_)))); refine And.intro ⟨by omega, by omega⟩ ?_)
          (refine yk (yA rfl (yT (zaf_raw ?_))); refine ⟨(i + 1), _, SLe.refl _ _, ?_⟩)
          exact ⟨cont (by simp [Reg.before]; omega), by omega, ⟨rfl, av_i64 (by omega), trivial⟩, trivial⟩
      · rw [lm] at h1
        refine zw_x (zt_x (zt_x (zb_h (zt_n (zaf_raw (zX zi ?_))))))
        refine ⟨(), ordered_true fun j a b ha hb => hi j a b ?_ ha hb, ⟨rfl, trivial⟩, trivial⟩
        have := (List.getElem?_eq_some_iff.1 hb).1
        omega
end Go.Proofs.YthjfllfhagdnpaaGreatDoor.M
