/- By the machine: the house's regions: clones, what is struck, stretches. -/
import Derived.Test.YtcfhiodoogkcpaaGreatDoorMSort2
set_option linter.unusedSimpArgs false
set_option linter.unusedVariables false
namespace Go.Proofs.YtcfhiodoogkcpaaGreatDoor.M
open Go.AM Go.RowKit
open Reg (Rect Spans Band)

theorem rc_rows (l : List Rect) : ∀ r ∈ l.map rc, r.length = 4 := by
  intro r hr
  obtain ⟨x, _, rfl⟩ := List.mem_map.1 hr
  rfl
theorem clone_rects (l : List Rect) (hN : l.length ≤ 4398046511104) : ACalls C 77 [.pv (rects l)] (.own 44 (l.map rc)) [] := by
  cases l with
  | nil =>
    refine fun_go hC Tryz.func77 rfl rfl 8 rfl (by decide) (by kernel_rfl) fun _ _ _ _ _ => ?_
    refine yS (yB rfl (yT (zw_s (yS (yP rfl (zo_n rfl (zs_nil rfl rfl ?_)))))))
    refine ⟨?_, ?_⟩
    · refine yT (zw_c rfl (zc_t (yS (yB rfl (yT (zw_r (zt_r (ze_r zi ?_))))))))
      exact ⟨rfl, trivial⟩
    · (refine yT (zw_c rfl (zc_f (zw_k (zt_n (yS (yn rfl (zq1 zI (zkns (zst_ow (yP rfl (yn rfl (zqA zI ?_)))))))))))); refine And.intro ⟨by simp, by simp, by simp⟩ ?_)
      refine zkns (zst_e (zst_ow (zo_n rfl (zs_ar rfl rfl rfl rfl rfl (yR zi ?_)))))
      exact ⟨rfl, rfl, trivial⟩
  | cons a l =>
    have hr := rc_rows (a :: l)
    have hl := len_map (a :: l) rc
    refine fun_go hC Tryz.func77 rfl rfl 8 rfl (by decide) (by kernel_rfl) fun _ _ _ _ _ => ?_
    ((refine yS (yB rfl (yT (zw_s (yS (yP rfl (yP rfl (yT (zw_c rfl (zc_f (zw_k (zt_n (yS (yn rfl ?_))))))))))))); refine zq1 zI (zkns (zst_ow (yP rfl (yn rfl (zqA zI ?_)))))); refine And.intro ⟨hr, by simp at hN ⊢; omega, by simp at hN ⊢; omega⟩ ?_)
    refine zkns (zst_e (zst_ow (zo_n rfl (zs_ar rfl rfl rfl rfl rfl (yR zi ?_)))))
    exact ⟨rfl, rfl, trivial⟩
/-- the closure of SetOf: what ends at a height or below -/
def endsB (y : Int) (r : Rect) : Bool := decide (r.y1 ≤ y)
theorem setOf_2 (r : Rect) (ys : List Int) (k : Nat) (y : Int) (hy : ys[k]? = some y) : ACalls C 83 [.pv (.ag (rc r)), .pv (.ip [ints ys]), .pv (.ip [i64 k])] (.p (bool (endsB y r))) [] := by
  refine fun_go hC Tryz.func83 rfl rfl 12 rfl (by decide) (by kernel_rfl) fun _ _ _ _ _ => ?_
  ((refine yS (yn rfl (zq1 zI (zkns (zst_bx (yA rfl (yT (zw_s (zw_d false [true, true, true, true, true, true, true, true] rfl (by kernel_rfl) (zp_q rfl (yW rfl (yD rfl (yD rfl (yD rfl ?_))))))))))))); refine dq rfl (zqX zI ?_)); refine ⟨[i64 y], (idx rfl hy), ?_⟩)
  ((refine zkd (zst_p (yD rfl (yD rfl (yD rfl (zd_0 (zr_s rfl (zr_s rfl (zr_s rfl (zr_s rfl (zr_s rfl (zr_s rfl (zr_s rfl (zr_k rfl rfl ?_))))))))))))); refine zr_q rfl (zt_n (zw_r (ze_r zi ?_)))); refine And.intro ?_ trivial)
  rfl
theorem index_rect2 (l : List Rect) (hN : l.length ≤ 140737488355328) (ys : List Int) (k : Nat) (y : Int) (hy : ys[k]? = some y) : ACalls C 112 [.row 44 (l.map rc), .pv (.fn 83 [.ip [ints ys], .ip [i64 k]])] (.p (i64 (firstP (endsB y) l 0))) [.row (l.map rc)] := by
  refine fun_go hC Tryz.func112 rfl rfl 19 rfl (by decide) (by kernel_rfl) fun _ _ _ _ _ => ?_
  have lm := len_map l rc
  refine yS (yA rfl (yT (zw_s (yS (yq rfl (zq1 zI (zkq (zst_ow (yP rfl (yP rfl (yT (zw_b ?_))))))))))))
  refine loop_ok' (fun i : Nat => i ≤ l.length ∧ ∀ x ∈ l.take i, endsB y x = false) (fun i => [(0, .ow 100000), (1, .p (.fn 83 [.ip [ints ys], .ip [i64 k]])), (7, .p (i64 (l.map rc).length)), (8, .p (i64 i))]) (fun _ => [(100000, .row 44 (l.map rc))]) (fun i => l.length - i) 0 _ (SLe.refl _ _) ⟨Nat.zero_le _, by simp⟩ ⟨rfl, rfl, rfl, rfl, trivial⟩ ⟨rfl, trivial⟩ fun i hi t h => ?_
  (refine yS (yP rfl (yT (zw_s (zw_c rfl ?_)))); refine bcase_split (fun h1 => ?_) (fun h1 => ?_) <;> try simp only [zB] at h1)
  · rw [lm] at h1
    obtain ⟨x, hx⟩ := get_of (l := l) (i := i) (by omega)
    ((refine zw_k (zt_n (zw_s (zw_b (yS (yP rfl (yA rfl (yU (yP rfl (yq rfl (zq1 zI (zkq (zst_ow (yP rfl ?_))))))))))))); refine yq rfl (zqA zI ?_)); refine And.intro ⟨by omega, by rw [lm]; omega⟩ ?_)
    (refine zkq (zst_rp (yq rfl (zqX zI ?_))); refine ⟨(rc x), (idx rfl hx).2, ?_⟩)
    (refine yk (yn rfl (zqX zI ?_)); refine ⟨_, _, (setOf_2 x ys k y hy), ?_⟩)
    (refine zkn rfl rfl (zst_p (yT (zw_c rfl ?_))); refine bcase_split (fun h2 => ?_) (fun h2 => ?_) <;> try simp only [zB] at h2)
    · refine yS (yP rfl (yA rfl (yT (zw_r (zb_r (zt_r (zt_r (zb_r (zt_r (ze_r zi ?_))))))))))
      exact ⟨by rw [firstP_at hx h2 hi.2, Nat.zero_add], rfl, trivial⟩
    · (refine zw_k (zb_n (zt_n (zw_o (yq rfl (zqA zI ?_))))); refine And.intro ⟨by omega, by omega⟩ ?_)
      (refine yk (yP rfl (yT (zaf_raw ?_))); refine ⟨(i + 1), _, SLe.refl _ _, ?_⟩)
      exact ⟨⟨by omega, take_no hx h2 hi.2⟩, by omega, ⟨rfl, rfl, rfl, rfl, trivial⟩, ⟨rfl, trivial⟩⟩
  · rw [lm] at h1
    refine zw_x (zt_x (zt_x (zb_h (zt_n (yS (yA rfl (yR zi ?_)))))))
    have h2 := hi.2
    rw [List.take_of_length_le (by omega)] at h2
    exact ⟨by rw [firstP_none h2]; rfl, rfl, trivial⟩
theorem first_of {α : Type} {p : α → Bool} : ∀ {l : List α}, l.any p = true → ∃ i x, l[i]? = some x ∧ p x = true ∧ ∀ z ∈ l.take i, p z = false := by
  intro l
  induction l with
  | nil => intro h; cases h
  | cons y l ih =>
    intro h
    cases hy : p y with
    | true => exact ⟨0, y, rfl, hy, by simp⟩
    | false =>
      rw [List.any_cons, hy, Bool.false_or] at h
      obtain ⟨i, x, h1, h2, h3⟩ := ih h
      refine ⟨i + 1, x, by simpa using h1, h2, fun z hz => ?_⟩
      rw [List.take_succ_cons, List.mem_cons] at hz
      rcases hz with rfl | hz
      · exact hy
      · exact h3 z hz
theorem set_take {α : Type} {m : List α} {a : Nat} {x : α} (h : a < m.length) : (m.set a x).take (a + 1) = m.take a ++ [x] := by
  apply List.ext_getElem?
  intro j
  rw [List.getElem?_take, List.getElem?_set]
  by_cases h1 : j < a
  · rw [if_pos (by omega), if_neg (by omega), List.getElem?_append_left (by rw [List.length_take]; omega), List.getElem?_take, if_pos h1]
  · by_cases h2 : j = a
    · subst h2
      rw [if_pos (by omega), if_pos rfl, if_pos h, List.getElem?_append_right (by rw [List.length_take]; omega)]
      simp [Nat.min_eq_left (Nat.le_of_lt h)]
    · rw [if_neg (by omega), List.getElem?_eq_none (by simp; omega)]
theorem filter_none {α : Type} {p : α → Bool} {l : List α} (h : ∀ x ∈ l, p x = false) : l.filter (fun x => !p x) = l := List.filter_eq_self.2 fun x hx => by simp [h x hx]
theorem filter_take {α : Type} {p : α → Bool} {l : List α} {i : Nat} {x : α} (hx : l[i]? = some x) : (l.take (i + 1)).filter p = (l.take i).filter p ++ if p x then [x] else [] := by
  rw [take_succ' hx, List.filter_append]
  congr 1
  cases h : p x <;> simp [List.filter, h]
set_option maxHeartbeats 1000000 in
theorem delete_rects (l : List Rect) (hN : l.length ≤ 4398046511104) (ys : List Int) (k : Nat) (y : Int) (hy : ys[k]? = some y) : ACalls C 82 [.row 44 (l.map rc), .pv (.fn 83 [.ip [ints ys], .ip [i64 k]])] (.own 44 ((l.filter fun r => !endsB y r).map rc)) [.gone] := by
  refine fun_go hC Tryz.func82 rfl rfl 42 rfl (by decide) (by kernel_rfl) fun _ _ _ _ _ => ?_
  have lm := len_map l rc
  (refine yS (yB rfl (yU (yq rfl (zq1 zI (zkq (zst_ow (yP rfl (yn rfl (zqX zI ?_))))))))); refine ⟨_, _, (index_rect2 l (by omega) ys k y hy), ?_⟩)
  by_cases hany : l.any (endsB y) = true
  · obtain ⟨i0, x0, hx0, hp0, hn0⟩ : ∃ i x, l[i]? = some x ∧ endsB y x = true ∧ ∀ z ∈ l.take i, endsB y z = false := first_of hany
    rw [firstP_at hx0 hp0 hn0, Nat.zero_add]
    have hi0 := (List.getElem?_eq_some_iff.1 hx0).1
    ((refine zkn rfl rfl (zst_e (zst_p (yA rfl (yT (zw_s (yS (yP rfl (yP rfl (yT (zw_c rfl (zc_f (zw_k (zt_n ?_))))))))))))); refine zw_s (yS (yP rfl (yq rfl (zqA zI ?_))))); refine And.intro ⟨by omega, by omega⟩ ?_)
    refine yk (yA rfl (yT (zw_b ?_)))
    refine loop_ok' (fun p : Nat × Nat × List Rect => p.1 < p.2.1 ∧ p.2.1 ≤ l.length ∧ p.2.2.length = l.length ∧ p.2.2.take p.1 = (l.take p.2.1).filter (fun r => !endsB y r) ∧ p.2.2.drop p.2.1 = l.drop p.2.1) (fun p => [(0, .ow 100000), (1, .p (.fn 83 [.ip [ints ys], .ip [i64 k]])), (5, .p (i64 p.1)), (6, .p (i64 p.2.1))]) (fun p => [(100000, .row 44 (p.2.2.map rc))]) (fun p => l.length - p.2.1) (i0, i0 + 1, l) _ (SLe.refl _ _) ⟨by simp, by simp only; omega, rfl, ?_, rfl⟩ ⟨rfl, rfl, rfl, av_i64 (by simp only; omega), trivial⟩ ⟨rfl, trivial⟩ fun ⟨a, b, m⟩ hi t h => ?_
    · simp only
      rw [filter_take hx0, filter_none hn0]
      simp [hp0]
    · simp only at hi
      obtain ⟨q1, q2, q3, q4, q5⟩ := hi
      have mm := len_map m rc
      (refine zw_s (yS (yP rfl (yq rfl (zq1 zI (zkq (zst_ow (yP rfl (yP rfl (yT (zw_c rfl ?_)))))))))); refine bcase_split (fun h2 => ?_) (fun h2 => ?_) <;> try simp only [zB] at h2)
      · rw [mm, q3] at h2
        obtain ⟨x, hx⟩ := get_of (l := l) (i := b) (by omega)
        have hmx : m[b]? = some x := by
          have : (m.drop b)[0]? = (l.drop b)[0]? := by rw [q5]
          simpa [hx] using this
        (refine zw_k (zt_n (zw_s (zw_b (yS (yq rfl (zq1 zI (zkq (zst_ow (yP rfl (yq rfl (zqA zI ?_))))))))))); refine And.intro ⟨by simp only; omega, by simp only; rw [mm]; omega⟩ ?_)
        (refine zkq (zst_rp (yq rfl (zqX zI ?_))); refine ⟨(rc x), (idx rfl hmx).2, ?_⟩)
        ((refine yk (yn rfl (zq1 zI (zkns (zst_bx (yq rfl (zq1 zI (zkq (zst_e (zst_0 (yU (yP rfl (yP rfl (yn rfl ?_))))))))))))); refine zqX zI ?_); refine ⟨_, _, (setOf_2 x ys k y hy), ?_⟩)
        (refine zkn rfl rfl (zst_p (yP rfl (yT (zw_c rfl ?_)))); refine bcase_split (fun h3 => ?_) (fun h3 => ?_) <;> try simp only [zB] at h3)
        · obtain ⟨z, hz⟩ := get_of (l := m) (i := a) (by omega)
          (refine yS (yq rfl (zq1 zI (zkq (zst_ow (yP rfl (yP rfl (yq rfl (zqA zI ?_)))))))); refine And.intro ⟨by simp only; omega, by simp only; rw [mm]; omega⟩ ?_)
          (refine zkq (zst_rp (yq rfl (zqX zI ?_))); refine ⟨(rc z), (idx rfl hz).2, ?_⟩)
          (refine zkq (zst_e (zst_0 (yT (zw_o (yP rfl (yq rfl (zqA zI ?_))))))); refine And.intro ⟨by simp only; omega, by simp only; omega⟩ ?_)
          (refine yk (yA rfl (zo_0 (zb_n (zt_n (zw_o (yP rfl (yq rfl (zqA zI ?_)))))))); refine And.intro ⟨by simp only; omega, by simp only; omega⟩ ?_)
          (refine yk (yA rfl (yT (zaf_raw ?_))); refine ⟨(a + 1, b + 1, m.set a x), _, SLe.refl _ _, ?_⟩)
          refine ⟨⟨by simp only; omega, by simp only; omega, by simp only; rw [List.length_set]; exact q3, ?_, ?_⟩, by simp only; omega, ⟨rfl, rfl, av_i64 (by simp only; omega), av_i64 (by simp only; omega), trivial⟩, ⟨?_, trivial⟩⟩
          · simp only
            rw [set_take (by omega), q4, filter_take hx, h3]
            rfl
          · simp only
            rw [List.drop_set_of_lt (by omega)]
            have := congrArg (List.drop 1) q5
            simpa [List.drop_drop] using this
          · show AB.row _ ((m.map rc).set a (rc x)) = AB.row _ ((m.set a x).map rc)
            rw [List.map_set]
        · (refine zw_k (zb_n (zt_n (zw_o (yP rfl (yq rfl (zqA zI ?_)))))); refine And.intro ⟨by simp only; omega, by simp only; omega⟩ ?_)
          (refine yk (yA rfl (yT (zaf_raw ?_))); refine ⟨(a, b + 1, m), _, SLe.refl _ _, ?_⟩)
          refine ⟨⟨by simp only; omega, by simp only; omega, q3, ?_, ?_⟩, by simp only; omega, ⟨rfl, rfl, rfl, av_i64 (by simp only; omega), trivial⟩, ⟨rfl, trivial⟩⟩
          · simp only
            rw [q4, filter_take hx, h3]
            simp
          · have := congrArg (List.drop 1) q5
            simpa [List.drop_drop] using this
      · rw [mm, q3] at h2
        refine zw_x (zt_x (zt_x (zb_h (zt_n (yS (yq rfl (zq1 zI (zkq (zst_ow (yP rfl (yq rfl (zqO zI ?_))))))))))))
        refine Or.inl ?_
        (refine zA zi ?_; refine And.intro ⟨by simp only; omega, by simp only; rw [mm]; omega, by simp only; omega⟩ ?_)
        (refine zkq (zst_vw (yq rfl (zqA zI ?_))); refine And.intro ⟨by simp only [Int.toNat_natCast]; omega, by simp only [Int.toNat_natCast]; omega⟩ ?_)
        refine zkq (zst_e (zst_0 (yU (yq rfl (zq1 zI (zkq (zst_ow (yP rfl (yq rfl (zqO zI ?_))))))))))
        refine Or.inl ?_
        have hlen3 : ((((m.map rc).take a ++ List.replicate ((m.map rc).length - a) [i64 0, i64 0, i64 0, i64 0] ++ (m.map rc).drop (m.map rc).length).length : Nat) : Int) = m.length := by simp; omega
        (refine zA zi ?_; refine And.intro ⟨by omega, by simp only; omega, by simp only [Int.toNat_natCast]; exact Int.le_trans (show (a : Int) ≤ m.length by omega) (Int.le_of_eq hlen3.symm)⟩ ?_)
        refine zkq (zst_vw (zo_n rfl (zs_as rfl rfl rfl (zas_n rfl) (zst_vw (yR zi ?_)))))
        refine ⟨?_, rfl, trivial⟩
        simp only [Int.toNat_natCast]
        rw [List.append_assoc, List.take_append_of_le_length (by rw [List.length_take, mm]; omega), List.take_take, Nat.min_self, ← List.map_take, q4, List.take_of_length_le (by omega)]
  · have hno : ∀ x ∈ l, endsB y x = false := fun x hx => by
      cases h : endsB y x with
      | false => rfl
      | true => exact absurd (List.any_eq_true.2 ⟨x, hx, h⟩) hany
    rw [firstP_none hno]
    (refine zkn rfl rfl (zst_e (zst_p (yA rfl (yT (zw_s (yS (yP rfl (yP rfl (yT (zw_c rfl (zc_t (yS (yq rfl ?_))))))))))))); refine zq1 zI (zkq (zst_ow (zo_n rfl (zs_ar rfl rfl rfl rfl rfl (yT (zw_r (zt_r (ze_r zi ?_)))))))))
    rw [filter_none hno]
    exact ⟨rfl, rfl, trivial⟩
end Go.Proofs.YtcfhiodoogkcpaaGreatDoor.M
