/- By the machine: the reference of regions: rows, bands, the canonical form. -/
import Derived.Test.YtcfhiodoogkcpaaGreatDoorMReg3
set_option linter.unusedSimpArgs false
set_option linter.unusedVariables false
namespace Go.Proofs.YtcfhiodoogkcpaaGreatDoor.M
open Go.AM Go.RowKit
open Reg (Rect Spans Band)

theorem absorb_length : ∀ (l : Spans) (a b : Int), (Reg.absorb l a b).length ≤ l.length + 1 := by
  intro l
  induction l with
  | nil => intro a b; simp [Reg.absorb]
  | cons p l ih =>
    intro a b
    rw [Reg.absorb]
    split
    · have := ih (min a p.1) (max b p.2)
      simp only [List.length_cons]; omega
    · simp
theorem joined_length : ∀ (l : Spans) (a b : Int), (Reg.joined l a b).length ≤ l.length + 1 := by
  intro l
  induction l with
  | nil => intro a b; simp [Reg.joined]
  | cons p l ih =>
    intro a b
    rw [Reg.joined]
    split
    · have := ih a b
      simp only [List.length_cons]; omega
    · exact absorb_length _ a b
theorem row_step {l : List Rect} {i : Nat} {r : Rect} (y : Int) (h : l[i]? = some r) : Reg.rowOf (l.take (i + 1)) y = if r.y0 ≤ y ∧ y < r.y1 then Reg.joined (Reg.rowOf (l.take i) y) r.x0 r.x1 else Reg.rowOf (l.take i) y := by
  rw [take_succ' h]
  unfold Reg.rowOf
  rw [List.filter_append, List.foldl_append]
  by_cases hc : r.y0 ≤ y ∧ y < r.y1
  · rw [if_pos hc]
    simp [hc.1, hc.2]
  · rw [if_neg hc]
    have : (decide (r.y0 ≤ y) && decide (y < r.y1)) = false := by simpa using fun h1 h2 => hc ⟨h1, h2⟩
    simp [this]
theorem row_length (l : List Rect) (y : Int) : ∀ i, i ≤ l.length → (Reg.rowOf (l.take i) y).length ≤ i := by
  intro i
  induction i with
  | zero => intro _; simp [Reg.rowOf]
  | succ i ih =>
    intro hi
    obtain ⟨r, hr⟩ := get_of (l := l) (i := i) (by omega)
    rw [row_step y hr]
    have h1 := ih (by omega)
    have h2 := joined_length (Reg.rowOf (l.take i) y) r.x0 r.x1
    split <;> omega
theorem rowOf_length (l : List Rect) (y : Int) : (Reg.rowOf l y).length ≤ l.length := by
  have := row_length l y l.length (Nat.le_refl _)
  rwa [List.take_length] at this
set_option maxRecDepth 100000 in
set_option maxHeartbeats 1000000 in
theorem ref_row (l : List Rect) (y : Int) (hN : l.length ≤ 1000000) : ACalls C 102 [.pv (rects l), .pv (i64 y)] (.p (spans (Reg.rowOf l y))) [] := by
  refine fun_go hC Tryz.func102 rfl rfl 43 rfl (by decide) (by kernel_rfl) fun _ _ _ _ _ => ?_
  have lm := len_map l rc
  refine yS (yB rfl (yU (yB rfl (yT (zw_s (yS (yA rfl (yT (zw_b ?_)))))))))
  refine loop_ok' (fun i : Nat => i ≤ l.length) (fun i => [(0, .p (rects l)), (1, .p (i64 y)), (5, .p (spans (Reg.rowOf (l.take i) y))), (6, .p (i64 i))]) (fun _ => []) (fun i => l.length - i) 0 _ (SLe.nil hC _ 5 rfl) (Nat.zero_le _) ⟨rfl, rfl, rfl, rfl, trivial⟩ trivial fun i hi t h => ?_
  (refine zw_s (yS (yP rfl (yP rfl (yP rfl (yP rfl (yT (zw_c rfl ?_))))))); refine bcase_split (fun h1 => ?_) (fun h1 => ?_) <;> try simp only [zB] at h1)
  · rw [lm] at h1
    obtain ⟨r, hr⟩ := get_of (l := l) (i := i) (by omega)
    have hs := row_step y hr
    have hL := row_length l y i hi
    (refine zw_k (zt_n (zw_s (zw_b (yS (yP rfl (yP rfl (yq rfl (zqX zI ?_)))))))); refine ⟨(rc r), (idx rfl hr), ?_⟩)
    (refine yk (yP rfl (yP rfl (yP rfl (yP rfl (yP rfl (yg rfl ?_)))))); refine bcase_split (fun h2 => ?_) (fun h2 => ?_) <;> try simp only [zB] at h2)
    · (refine zg_t (zs_q rfl rfl (zq1 zI (yk (y1 rfl (y1 rfl (y2 rfl (zs_q rfl rfl (zqX zI ?_)))))))); refine ⟨(rc r), (idx rfl hr), ?_⟩)
      (refine yk (y1 rfl (y1 rfl (y1 rfl (yP rfl (yT (zw_c rfl ?_)))))); refine bcase_split (fun h3 => ?_) (fun h3 => ?_) <;> try simp only [zB] at h3)
      · rw [if_pos ⟨h2, h3⟩] at hs
        ((refine zw_d false [true, true, true, true, true, true, true, true, true, true, true, true, true, true] rfl (by kernel_rfl) (zp_s rfl (zp_s rfl (zp_s rfl (zp_s rfl (zp_s rfl (zp_s rfl (zp_s rfl (zp_s rfl (zp_s rfl (zp_s rfl (zp_s rfl (zp_s rfl (zp_n rfl rfl ?_))))))))))))); refine zp_q rfl (yD rfl (yD rfl (yD rfl (dq rfl (zqX zI ?_)))))); refine ⟨(rc r), (idx rfl hr), ?_⟩)
        (refine zkd (zst_p (yD rfl (yD rfl (yD rfl (yD rfl (dq rfl (zqX zI ?_))))))); refine ⟨(rc r), (idx rfl hr), ?_⟩)
        (refine zkd (zst_p (yD rfl (yD rfl (yD rfl (dq rfl (zqX zI ?_)))))); refine ⟨_, _, (ref_joined _ r.x0 r.x1 (by omega)), ?_⟩)
        ((refine zkd (zst_p (yD rfl (zd_0 (zr_s rfl (zr_s rfl (zr_s rfl (zr_s rfl (zr_s rfl (zr_s rfl (zr_s rfl (zr_s rfl (zr_s rfl (zr_s rfl ?_))))))))))))); refine zr_s rfl (zr_s rfl (zr_s rfl (zr_k rfl rfl (zr_q rfl (zb_n (zt_n (zw_o (yP rfl (yq rfl (zqA zI ?_))))))))))); refine And.intro ⟨by omega, by omega⟩ ?_)
        (refine yk (yA rfl (yT (zaf_raw ?_))); refine ⟨(i + 1), _, SLe.refl _ _, ?_⟩)
        exact ⟨by omega, by omega, ⟨rfl, rfl, by rw [hs]; rfl, rfl, trivial⟩, trivial⟩
      · rw [if_neg (fun h => h3 h.2)] at hs
        (refine zw_k (zb_n (zt_n (zw_o (yP rfl (yq rfl (zqA zI ?_)))))); refine And.intro ⟨by omega, by omega⟩ ?_)
        (refine yk (yA rfl (yT (zaf_raw ?_))); refine ⟨(i + 1), _, SLe.refl _ _, ?_⟩)
        exact ⟨by omega, by omega, ⟨rfl, rfl, by rw [hs]; rfl, rfl, trivial⟩, trivial⟩
    · rw [if_neg (fun h => h2 h.1)] at hs
      ((refine zg_f (zst_p (y0 rfl (y0 rfl (y0 rfl (y0 rfl (y0 rfl (y0 rfl (yP rfl (yT (zw_c rfl (zc_f (zw_k (zb_n ?_))))))))))))); refine zt_n (zw_o (yP rfl (yq rfl (zqA zI ?_))))); refine And.intro ⟨by omega, by omega⟩ ?_)
      (refine yk (yA rfl (yT (zaf_raw ?_))); refine ⟨(i + 1), _, SLe.refl _ _, ?_⟩)
      exact ⟨by omega, by omega, ⟨rfl, rfl, by rw [hs]; rfl, rfl, trivial⟩, trivial⟩
  · rw [lm] at h1
    (refine zw_x (zt_x (zt_x (zb_h (zt_n (yS (yP rfl (yA rfl (yR zi ?_)))))))); refine And.intro ?_ trivial)
    rw [List.take_of_length_le (by omega)]
set_option maxRecDepth 100000 in
theorem ref_hasPoint (l : List Rect) (x y : Int) (hN : l.length ≤ 1000000) : ACalls C 71 [.pv (rects l), .pv (.ag [i64 x, i64 y])] (.p (bool (insideB (Reg.rowOf l y) x))) [] := by
  refine fun_go hC Tryz.func71 rfl rfl 12 rfl (by decide) (by kernel_rfl) fun _ _ _ _ _ => ?_
  have hL := rowOf_length l y
  ((refine yS (yn rfl (zq1 zI (zkns (zst_bx (yA rfl (yT (zw_s (zw_d false [true, true, true, true, true, true, true, true] rfl (by kernel_rfl) (zp_s rfl (zp_s rfl (zp_s rfl (zp_n rfl rfl (zp_s rfl ?_))))))))))))); refine zp_s rfl (zp_n rfl rfl (zp_q rfl (yD rfl (yW rfl (yD rfl (dq rfl (zqX zI ?_)))))))); refine ⟨_, _, (ref_row l y hN), ?_⟩)
  (refine zkd (zst_p (yW rfl (yD rfl (dq rfl (zqX zI ?_))))); refine ⟨_, _, (ref_inside _ x (by omega)), ?_⟩)
  ((refine zkd (zst_p (yD rfl (zd_0 (zr_s rfl (zr_s rfl (zr_s rfl (zr_s rfl (zr_s rfl (zr_s rfl (zr_s rfl (zr_k rfl rfl (zr_q rfl (zt_n ?_))))))))))))); refine zw_r (ze_r zi ?_)); refine And.intro ?_ trivial)
  rfl
/-- bands by content -/
def bd (b : Band) : List PV := [i64 b.y0, i64 b.y1, spans b.xs]
theorem last_get {α : Type} {l : List α} {n : Nat} {x : α} (hn : l.length = n + 1) (h : l[n]? = some x) : l.getLast? = some x := by
  rw [List.getLast?_eq_getElem?, hn]
  exact h
set_option maxRecDepth 100000 in
set_option maxHeartbeats 1000000 in
theorem ref_stacked (l : List Band) (b : Band) (hN : l.length ≤ 1000000) (hX : ∀ t ∈ l, t.xs.length ≤ 1000000) : ACalls C 101 [.row 123 (l.map bd), .pv (.ag (bd b))] (.own 123 ((Reg.pushB l b).map bd)) [.gone] := by
  refine fun_go hC Tryz.func101 rfl rfl 49 rfl (by decide) (by kernel_rfl) fun _ _ _ _ _ => ?_
  have lm := len_map l bd
  have sm := len_map b.xs sp
  have done : ∀ z : List Band, z = Reg.pushB l b → AB.row 123 (z.map bd) = AB.row 123 ((Reg.pushB l b).map bd) := fun z e => by rw [e]
  ((refine yS (yn rfl (zq1 zI (zkns (zst_bx (yB rfl (yT (zw_s (yS (yV rfl (yP rfl (yP rfl (yP rfl (yT ?_))))))))))))); refine zw_c rfl ?_); refine bcase_split (fun h1 => ?_) (fun h1 => ?_) <;> try simp only [zB] at h1)
  · rw [sm] at h1
    have he : b.xs = [] := List.eq_nil_of_length_eq_zero (by omega)
    refine yS (yq rfl (zq1 zI (zkq (zst_ow (zo_n rfl (zs_ar rfl rfl rfl rfl rfl (yT (zw_r (zt_r (ze_r zi ?_))))))))))
    exact ⟨done l (by rw [Reg.pushB, if_pos he]), rfl, trivial⟩
  · rw [sm] at h1
    have he : b.xs ≠ [] := fun e => h1 (by rw [e]; rfl)
    have more : l ++ [b] = Reg.pushB l b → AB.row 123 (l.map bd ++ [bd b]) = AB.row 123 ((Reg.pushB l b).map bd) := fun e => by rw [← e, List.map_append]; rfl
    ((refine zw_k (zt_n (zw_s (yS (yq rfl (zq1 zI (zkq (zst_ow (yP rfl (yA rfl (yT (zw_s (zw_d false [true, true, true, true, true, true, true, true, true, true, true, true, true, true, true, true, true, true, true, true, true, true, true, true] rfl (by kernel_rfl) (zp_s rfl ?_))))))))))))); refine zp_s rfl (zp_s rfl (zp_s rfl (zp_s rfl (zp_s rfl (zp_s rfl (zp_s rfl (zp_s rfl (zp_s rfl (zp_s rfl (zp_s rfl (zp_s rfl (zp_s rfl (zp_s rfl ?_))))))))))))); refine zp_s rfl (zp_s rfl (zp_s rfl (zp_s rfl (zp_s rfl (zp_s rfl (zp_s rfl (zp_n rfl rfl (zp_q rfl (yD rfl (yD rfl (yD rfl (dg rfl ?_))))))))))))); refine bcase_split (fun h2 => ?_) (fun h2 => ?_) <;> try simp only [zB] at h2)
    · rw [lm] at h2
      obtain ⟨m, hm⟩ : ∃ m, l.length = m + 1 := ⟨l.length - 1, by omega⟩
      have hi : ((l.map bd).length : Int) - 1 = (m : Nat) := by rw [lm]; omega
      have hp : Reg.pushB l b = match l.getLast? with
        | some t => if t.y1 = b.y0 ∧ t.xs = b.xs then l.dropLast ++ [⟨t.y0, b.y1, t.xs⟩] else l ++ [b]
        | none => [b] := by rw [Reg.pushB, if_neg he]; rfl
      obtain ⟨t, ht⟩ := get_of (l := l) (i := m) (by omega)
      rw [last_get hm ht] at hp
      simp only at hp
      (refine zg_t (zd_q rfl (zq1 zI (zkd (zst_ow (d1 rfl (d2 rfl (zd_q rfl (zqA zI ?_)))))))); refine And.intro ⟨by rw [lm]; omega, by rw [lm]; omega⟩ ?_)
      (refine zkd (zst_p (d2 rfl (zd_q rfl (zqA zI ?_)))); refine And.intro ⟨by rw [hi]; omega, by rw [hi, lm]; omega⟩ ?_)
      (refine zkd (zst_rp (d2 rfl (zd_q rfl (zq1 zI (zkd (zst_rp (d2 rfl (zd_q rfl (zqX zI ?_))))))))); refine ⟨(bd t), (idx hi ht).2, ?_⟩)
      (refine zkd (zst_p (d2 rfl (zd_q rfl (zq1 zI (zkd (zst_bx (d1 rfl (d1 rfl (yD rfl (yD rfl (dg rfl ?_))))))))))); refine bcase_split (fun h3 => ?_) (fun h3 => ?_) <;> try simp only [zB] at h3)
      · (refine zg_t (zd_q rfl (zq1 zI (zkd (zst_ow (d1 rfl (d2 rfl (zd_q rfl (zqA zI ?_)))))))); refine And.intro ⟨by rw [lm]; omega, by rw [lm]; omega⟩ ?_)
        (refine zkd (zst_p (d2 rfl (zd_q rfl (zqA zI ?_)))); refine And.intro ⟨by rw [hi]; omega, by rw [hi, lm]; omega⟩ ?_)
        (refine zkd (zst_rp (d2 rfl (zd_q rfl (zq1 zI (zkd (zst_rp (d2 rfl (zd_q rfl (zqX zI ?_))))))))); refine ⟨(bd t), (idx hi ht).2, ?_⟩)
        (refine zkd (zst_p (d2 rfl (zd_q rfl (zq1 zI (zkd (zst_bx (d1 rfl (d2 rfl (zd_q rfl (zqX zI ?_)))))))))); refine ⟨_, _, (ref_sameSpans t.xs b.xs (by have := hX t (List.mem_of_getElem? ht); omega)), ?_⟩)
        (refine zkd (zst_p (yD rfl (zd_0 (zr_q rfl (zt_n (zw_c rfl ?_)))))); refine bcase_split (fun h4 => ?_) (fun h4 => ?_) <;> try simp only [zB] at h4)
        · (refine yS (yq rfl (zq1 zI (zkq (zst_ow (yP rfl (yq rfl (zqA zI ?_))))))); refine And.intro ⟨by rw [lm]; omega, by rw [lm]; omega⟩ ?_)
          (refine yk (yV rfl (yP rfl (yq rfl (zqA zI ?_)))); refine And.intro ⟨by rw [hi]; omega, by rw [hi, lm]; omega⟩ ?_)
          (refine zkq (zst_rp (yV rfl (yq rfl (zqX zI ?_)))); refine ⟨(bd t), (idx hi ht).2, ?_⟩)
          refine zkq (zst_e (zst_0 (yU (yq rfl (zq1 zI (zkq (zst_ow (zo_n rfl (zs_ar rfl rfl rfl rfl rfl (yT (zw_r (zt_r (ze_r zi ?_)))))))))))))
          rw [if_pos ⟨h3, h4⟩] at hp
          have hset : ∀ k : Nat, k = m → AB.row 123 ((l.map bd).set k [i64 t.y0, i64 b.y1, spans t.xs]) = AB.row 123 ((Reg.pushB l b).map bd) := by
            intro k e
            subst e
            rw [hp]
            obtain ⟨d, hd⟩ := List.getLast?_eq_some_iff.1 (last_get hm ht)
            subst hd
            have hk : k = d.length := by simp at hm; omega
            subst hk
            simp [bd]
          exact ⟨hset _ (by rw [hi]; rfl), rfl, trivial⟩
        · rw [if_neg (fun h => h4 h.2)] at hp
          (refine zw_k (zt_n (yS (yq rfl (zq1 zI (zkq (zst_ow (yP rfl (yn rfl (zq1 zI (zkns (zst_ow (yn rfl (zqA zI ?_))))))))))))); refine And.intro ⟨by simp, by simp; omega, by simp; omega⟩ ?_)
          refine zkns (zst_e (zst_ow (zo_n rfl (zs_ar rfl rfl rfl rfl rfl (yR zi ?_)))))
          exact ⟨more hp.symm, rfl, trivial⟩
      · rw [if_neg (fun h => h3 h.1)] at hp
        ((refine zg_f (zst_p (d0 rfl (d0 rfl (d0 rfl (d0 rfl (d0 rfl (d0 rfl (d0 rfl (d0 rfl (yD rfl (zd_0 (zr_q rfl (zt_n ?_))))))))))))); refine zw_c rfl (zc_f (zw_k (zt_n (yS (yq rfl (zq1 zI (zkq (zst_ow (yP rfl (yn rfl (zq1 zI (zkns (zst_ow ?_))))))))))))); refine yn rfl (zqA zI ?_)); refine And.intro ⟨by simp, by simp; omega, by simp; omega⟩ ?_)
        refine zkns (zst_e (zst_ow (zo_n rfl (zs_ar rfl rfl rfl rfl rfl (yR zi ?_)))))
        exact ⟨more hp.symm, rfl, trivial⟩
    · rw [lm] at h2
      have hl : l = [] := List.eq_nil_of_length_eq_zero (by omega)
      ((refine zg_f (zst_p (d0 rfl (d0 rfl (d0 rfl (d0 rfl (d0 rfl (d0 rfl (d0 rfl (d0 rfl (yD rfl (yD rfl (d0 rfl (d0 rfl ?_))))))))))))); refine d0 rfl (d0 rfl (d0 rfl (d0 rfl (d0 rfl (d0 rfl (d0 rfl (yD rfl (zd_0 (zr_q rfl (zt_n (zw_c rfl (zc_f (zw_k ?_))))))))))))); refine zt_n (yS (yq rfl (zq1 zI (zkq (zst_ow (yP rfl (yn rfl (zq1 zI (zkns (zst_ow (yn rfl (zqA zI ?_))))))))))))); refine And.intro ⟨by simp, by simp; omega, by simp; omega⟩ ?_)
      refine zkns (zst_e (zst_ow (zo_n rfl (zs_ar rfl rfl rfl rfl rfl (yR zi ?_)))))
      exact ⟨more (by subst hl; rw [Reg.pushB, if_neg he]; rfl), rfl, trivial⟩
theorem told_step {s : List Band} {i : Nat} {b : Band} (h : s[i]? = some b) : Reg.told (s.take (i + 1)) = Reg.told (s.take i) ++ b.xs.map fun p => ⟨p.1, b.y0, p.2, b.y1⟩ := by
  rw [take_succ' h]
  simp [Reg.told]
theorem told_length (s : List Band) (hX : ∀ t ∈ s, t.xs.length ≤ 1000000) : (Reg.told s).length ≤ s.length * 1000000 := by
  induction s with
  | nil => simp [Reg.told]
  | cons b s ih =>
    have h1 := hX b (by simp)
    have h2 := ih fun t ht => hX t (by simp [ht])
    simp only [Reg.told, List.flatMap_cons, List.length_append, List.length_map, List.length_cons] at h2 ⊢
    simp only [Nat.add_mul] 
    omega
theorem one_row {r : List PV} {n : Nat} (h : r.length = n) : ∀ r' ∈ [r], r'.length = n := fun r' hr => by rw [List.mem_singleton.1 hr]; exact h
def cutR (b : Band) (k : Nat) : List Rect := (b.xs.take k).map fun p => ⟨p.1, b.y0, p.2, b.y1⟩
set_option maxRecDepth 100000 in
set_option maxHeartbeats 1000000 in
theorem ref_told (l : List Band) (hN : l.length ≤ 1000000) (hX : ∀ t ∈ l, t.xs.length ≤ 1000000) : ACalls C 103 [.pv (.sl (l.map bd))] (.p (rects (Reg.told l))) [] := by
  refine fun_go hC Tryz.func103 rfl rfl 55 rfl (by decide) (by kernel_rfl) fun _ _ _ _ _ => ?_
  have lm := len_map l bd
  have tl : ∀ i, (Reg.told (l.take i)).length ≤ 1000000000000 := fun i => by
    have h1 := told_length (l.take i) fun t ht => hX t (List.mem_of_mem_take ht)
    have h2 := List.length_take_le i l
    have h3 : (l.take i).length * 1000000 ≤ 1000000 * 1000000 := Nat.mul_le_mul_right _ (by rw [List.length_take]; omega)
    omega
  refine yS (yB rfl (yU (yB rfl (yT (zw_s (yS (yA rfl (yT (zw_b ?_)))))))))
  refine loop_ok' (fun i : Nat => i ≤ l.length) (fun i => [(0, .p (.sl (l.map bd))), (3, .ow 3), (4, .p (i64 i))]) (fun i => [(3, .row 44 ((Reg.told (l.take i)).map rc))]) (fun i => l.length - i) 0 _ (SLe.nilRow hC _ 3 44 _ (by decide) rfl rfl (by decide)) (Nat.zero_le _) ⟨rfl, rfl, rfl, trivial⟩ ⟨rfl, trivial⟩ fun i hi t h => ?_
  (refine zw_s (yS (yP rfl (yP rfl (yP rfl (yP rfl (yT (zw_c rfl ?_))))))); refine bcase_split (fun h1 => ?_) (fun h1 => ?_) <;> try simp only [zB] at h1)
  · rw [lm] at h1
    obtain ⟨b, hb⟩ := get_of (l := l) (i := i) (by omega)
    have bm := len_map b.xs sp
    have hb' := hX b (List.mem_of_getElem? hb)
    have ht := tl i
    refine zw_k (zt_n (zw_s (zw_b (yS (yA rfl (yT (zw_b ?_)))))))
    refine cutB' (fun _ : Unit => True) (fun _ => [(0, .p (.sl (l.map bd))), (3, .ow 3), (4, .p (i64 i))]) (fun _ => [(3, .row 44 ((Reg.told (l.take (i + 1))).map rc))]) (fun _ _ t h => ?_) ?_
    · (refine zb_n (zt_n (zw_o (yP rfl (yq rfl (zqA zI ?_))))); refine And.intro ⟨by omega, by omega⟩ ?_)
      (refine yk (yA rfl (yT (zaf_raw ?_))); refine ⟨(i + 1), _, SLe.refl _ _, ?_⟩)
      exact ⟨by omega, by omega, ⟨rfl, rfl, rfl, trivial⟩, ⟨rfl, trivial⟩⟩
    · refine loop_ok' (fun k : Nat => k ≤ b.xs.length) (fun k => [(0, .p (.sl (l.map bd))), (3, .ow 3), (4, .p (i64 i)), (5, .p (i64 k))]) (fun k => [(3, .row 44 ((Reg.told (l.take i) ++ cutR b k).map rc))]) (fun k => b.xs.length - k) 0 _ (SLe.refl _ _) (Nat.zero_le _) ⟨rfl, rfl, rfl, rfl, trivial⟩ ⟨by rw [cutR]; simp; rfl, trivial⟩ fun k hk t h => ?_
      have hkl : (cutR b k).length ≤ k := by simp [cutR]; omega
      (refine zw_s (yS (yP rfl (yP rfl (yP rfl (yq rfl (zqX zI ?_)))))); refine ⟨(bd b), (idx rfl hb), ?_⟩)
      (refine yk (yP rfl (yP rfl (yP rfl (yP rfl (yT (zw_c rfl ?_)))))); refine bcase_split (fun h2 => ?_) (fun h2 => ?_) <;> try simp only [zB] at h2)
      · rw [bm] at h2
        obtain ⟨p, hp⟩ := get_of (l := b.xs) (i := k) (by omega)
        ((refine zw_k (zt_n (zw_s (zw_b (zw_d true [true, true, true, true, true, true, true, true, true, true, true, true, true, true, true, true, true, true, true, true, true, true, true, true, true, true, true, true, true, true, true, true, true] rfl (by kernel_rfl) (zp_s rfl (zp_s rfl (zp_s rfl (zp_s rfl (zp_s rfl (zp_s rfl (zp_s rfl (zp_s rfl (zp_s rfl ?_))))))))))))); refine zp_s rfl (zp_s rfl (zp_s rfl (zp_s rfl (zp_s rfl (zp_s rfl (zp_s rfl (zp_s rfl (zp_s rfl (zp_s rfl (zp_s rfl (zp_s rfl (zp_s rfl (zp_s rfl ?_))))))))))))); refine zp_s rfl (zp_s rfl (zp_s rfl (zp_s rfl (zp_s rfl (zp_s rfl (zp_s rfl (zp_n rfl rfl (zp_n rfl rfl (zp_q rfl (dq rfl (zq1 zI (zkd (zst_ow ?_))))))))))))); refine yD rfl (yD rfl (dq rfl (zqX zI ?_)))); refine ⟨(bd b), (idx rfl hb), ?_⟩)
        (refine zkd (zst_p (yD rfl (yD rfl (yD rfl (dq rfl (zqX zI ?_)))))); refine ⟨(sp p), (idx rfl hp), ?_⟩)
        (refine zkd (zst_p (yD rfl (yD rfl (yD rfl (yD rfl (dq rfl (zqX zI ?_))))))); refine ⟨(bd b), (idx rfl hb), ?_⟩)
        (refine zkd (zst_p (yD rfl (yD rfl (yD rfl (yD rfl (dq rfl (zqX zI ?_))))))); refine ⟨(bd b), (idx rfl hb), ?_⟩)
        (refine zkd (zst_p (yD rfl (yD rfl (yD rfl (dq rfl (zqX zI ?_)))))); refine ⟨(sp p), (idx rfl hp), ?_⟩)
        (refine zkd (zst_p (yD rfl (yD rfl (yD rfl (yD rfl (dq rfl (zqX zI ?_))))))); refine ⟨(bd b), (idx rfl hb), ?_⟩)
        (refine zkd (zst_p (yD rfl (yD rfl (yD rfl (dq rfl (zq1 zI (zkdn rfl rfl (zst_ow (dq rfl (zqA zI ?_)))))))))); refine And.intro ⟨one_row rfl, by simp; omega, by simp; omega⟩ ?_)
        ((refine zkden rfl rfl rfl (zsn_e (zsn_0 (zst_ow (dq rfl (zq1 zI (zkd (zst_ow (zd_0 (zr_s rfl (zr_s rfl (zr_s rfl (zr_s rfl (zr_s rfl ?_))))))))))))); refine zr_s rfl (zr_s rfl (zr_s rfl (zr_s rfl (zr_s rfl (zr_s rfl (zr_s rfl (zr_s rfl (zr_s rfl (zr_s rfl (zr_s rfl (zr_s rfl (zr_s rfl (zr_s rfl ?_))))))))))))); refine zr_s rfl (zr_s rfl (zr_s rfl (zr_s rfl (zr_s rfl (zr_s rfl (zr_s rfl (zr_s rfl (zr_s rfl (zr_s rfl (zr_s rfl (zr_s rfl (zr_s rfl (zr_r rfl rfl rfl rfl rfl ?_))))))))))))); refine zr_q rfl (zb_n (zt_n (zw_o (yP rfl (yq rfl (zqA zI ?_))))))); refine And.intro ⟨by omega, by omega⟩ ?_)
        (refine yk (yA rfl (yT (zaf_raw ?_))); refine ⟨(k + 1), _, SLe.refl _ _, ?_⟩)
        refine ⟨by omega, by omega, ⟨rfl, rfl, rfl, rfl, trivial⟩, ⟨?_, trivial⟩⟩
        have hc : cutR b (k + 1) = cutR b k ++ [⟨p.1, b.y0, p.2, b.y1⟩] := by simp [cutR, take_succ' hp]
        have e : (Reg.told (l.take i) ++ cutR b k).map rc ++ [rc ⟨p.1, b.y0, p.2, b.y1⟩] = (Reg.told (l.take i) ++ cutR b (k + 1)).map rc := by
          rw [hc, ← List.append_assoc, List.map_append (l₂ := [_])]
          rfl
        exact congrArg (AB.row 44) e
      · rw [bm] at h2
        refine zw_x (zt_x (zt_x (zb_h (zt_n (zaf_raw (zX zi ?_))))))
        refine ⟨(), trivial, ⟨rfl, rfl, rfl, trivial⟩, ⟨?_, trivial⟩⟩
        rw [told_step hb]
        have : cutR b k = b.xs.map fun p => ⟨p.1, b.y0, p.2, b.y1⟩ := by rw [cutR, List.take_of_length_le (by omega)]
        rw [← this]
        rfl
  · rw [lm] at h1
    (refine zw_x (zt_x (zt_x (zb_h (zt_n (yS (yq rfl (zq1 zI (zkq (zst_ow (zo_n rfl (zs_ar rfl rfl rfl rfl rfl (yR zi ?_)))))))))))); refine And.intro ?_ trivial)
    rw [List.take_of_length_le (by omega)]
    rfl
end Go.Proofs.YtcfhiodoogkcpaaGreatDoor.M
