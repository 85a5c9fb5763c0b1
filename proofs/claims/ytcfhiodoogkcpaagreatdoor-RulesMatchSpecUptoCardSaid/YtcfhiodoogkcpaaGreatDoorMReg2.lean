/- By the machine: the reference of regions: rectangles, heights. -/
import Derived.Test.YtcfhiodoogkcpaaGreatDoorMReg1
set_option linter.unusedSimpArgs false
set_option linter.unusedVariables false
namespace Go.Proofs.YtcfhiodoogkcpaaGreatDoor.M
open Go.AM Go.RowKit
open Reg (Rect Spans)

theorem put_same (x : Int) : ∀ (l : List Int) (lo : Nat), (∀ k y, k < lo → l[k]? = some y → y < x) → l[lo]? = some x → Reg.put l x = l := by
  intro l
  induction l with
  | nil => intro lo _ h; simp at h
  | cons a l ih =>
    intro lo h1 h2
    cases lo with
    | zero =>
      simp at h2
      subst h2
      simp [Reg.put]
    | succ lo =>
      have ha : a < x := h1 0 a (by omega) rfl
      rw [Reg.put, if_pos ha, ih lo (fun k y hk hy => h1 (k + 1) y (by omega) (by simpa using hy)) (by simpa using h2)]
theorem put_new (x : Int) : ∀ (l : List Int) (lo : Nat), lo ≤ l.length → (∀ k y, k < lo → l[k]? = some y → y < x) → (∀ y, l[lo]? = some y → x < y) → Reg.put l x = l.take lo ++ [x] ++ l.drop lo := by
  intro l
  induction l with
  | nil => intro lo h0 _ _; simp at h0; subst h0; simp [Reg.put]
  | cons a l ih =>
    intro lo h0 h1 h2
    cases lo with
    | zero =>
      have ha := h2 a rfl
      rw [Reg.put, if_neg (by omega), if_neg (by omega)]
      simp
    | succ lo =>
      have ha : a < x := h1 0 a (by omega) rfl
      rw [Reg.put, if_pos ha, ih lo (by simpa using h0) (fun k y hk hy => h1 (k + 1) y (by omega) (by simpa using hy)) (fun y hy => h2 y (by simpa using hy))]
      simp
theorem rising_get {l : List Int} (h : Reg.Rising l) {i j : Nat} {a b : Int} (ha : l[i]? = some a) (hb : l[j]? = some b) (hij : i ≤ j) : a ≤ b := by
  by_cases e : i = j
  · subst e
    rw [ha] at hb
    injection hb with hb
    omega
  · have hi := (List.getElem?_eq_some_iff.1 ha)
    have hj := (List.getElem?_eq_some_iff.1 hb)
    obtain ⟨hi1, hi2⟩ := hi
    obtain ⟨hj1, hj2⟩ := hj
    have := (List.pairwise_iff_getElem.1 h) i j hi1 hj1 (by omega)
    omega
theorem put_length (x : Int) : ∀ (l : List Int), (Reg.put l x).length ≤ l.length + 1 := by
  intro l
  induction l with
  | nil => simp [Reg.put]
  | cons a l ih =>
    rw [Reg.put]
    split
    · simp; omega
    · split <;> simp
theorem heights_snoc (l : List Rect) (r : Rect) : Reg.heights (l ++ [r]) = Reg.put (Reg.put (Reg.heights l) r.y0) r.y1 := by
  unfold Reg.heights
  rw [List.foldl_append]
  rfl
theorem take_snoc {l : List Rect} {k : Nat} {r : Rect} (h : l[k]? = some r) : l.take (k + 1) = l.take k ++ [r] := by
  rw [List.take_add_one, h]
  rfl
theorem heights_step {l : List Rect} {k : Nat} {r : Rect} (h : l[k]? = some r) : Reg.heights (l.take (k + 1)) = Reg.put (Reg.put (Reg.heights (l.take k)) r.y0) r.y1 := by
  rw [take_snoc h, heights_snoc]
theorem heights_rising (l : List Rect) : Reg.Rising (Reg.heights l) := (Reg.heights_facts l).1
theorem ints_rows (l : List Int) : ∀ r ∈ (l.map fun n => [i64 n]), r.length = 1 := by
  intro r hr
  obtain ⟨n, _, rfl⟩ := List.mem_map.1 hr
  rfl
theorem int_half {a b : Nat} : ((a : Int) + (b : Int)).tdiv 2 = ((a + b) / 2 : Nat) := by
  rw [Int.tdiv_eq_ediv_of_nonneg (by omega)]; omega
theorem rows_cut {es : List (List PV)} {n a b : Nat} (h : ∀ r ∈ es, r.length = n) : ∀ r ∈ (es.take b).drop a, r.length = n := fun r hr => h r (List.mem_of_mem_take (List.mem_of_mem_drop hr))
set_option maxHeartbeats 1000000 in
theorem ref_put (l : List Int) (x : Int) (hR : Reg.Rising l) (hN : l.length ≤ 1000000) : ACalls C 125 [.pv (ints l), .pv (i64 x)] (.p (ints (Reg.put l x))) [] := by
  refine fun_go hC Tryz.func125 rfl rfl 54 rfl (by decide) (by kernel_rfl) fun _ _ _ _ _ => ?_
  refine yS (yB rfl (yU (yP rfl (yP rfl (yA rfl (yA rfl (yT (zw_s (zw_b ?_)))))))))
  refine loop_ok' (fun p : Nat × Nat => p.1 ≤ p.2 ∧ p.2 ≤ l.length ∧ (∀ k y, k < p.1 → l[k]? = some y → y < x) ∧ (∀ k y, p.2 ≤ k → l[k]? = some y → x ≤ y)) (fun p => [(0, .p (ints l)), (1, .p (i64 x)), (5, .p (i64 p.1)), (6, .p (i64 p.2))]) (fun _ => []) (fun p => p.2 - p.1) (0, l.length) _ (SLe.refl _ _) ⟨Nat.zero_le _, Nat.le_refl _, fun k y h => by omega, fun k y h1 h2 => ?_⟩ ⟨rfl, rfl, rfl, av_i64 (by rw [len_map]), trivial⟩ trivial fun ⟨lo, hi⟩ hi' t h => ?_
  · rw [List.getElem?_eq_none (by omega)] at h2; cases h2
  obtain ⟨q1, q2, q3, q4⟩ := hi'
  simp only at q1 q2 q3 q4
  have lm := len_map l fun n => [i64 n]
  (refine zw_s (yS (yP rfl (yP rfl (yP rfl (yT (zw_c rfl ?_)))))); refine bcase_split (fun h1 => ?_) (fun h1 => ?_) <;> try simp only [zB] at h1)
  · (refine zw_k (zt_n (zw_b (yS (yP rfl (yP rfl (yq rfl (zqA zI ?_))))))); refine And.intro ⟨by omega, by omega⟩ ?_)
    refine yk (yq rfl (zqA zI ?_))
    refine ⟨by decide, ⟨?_, ?_⟩, ?_⟩
    · rw [int_half]; omega
    · rw [int_half]; omega
    obtain ⟨y, hy⟩ := get_of (l := l) (i := (lo + hi) / 2) (by omega)
    (refine yk (yA rfl (yU (yP rfl (yP rfl (yq rfl (zqX zI ?_)))))); refine ⟨[i64 y], (idx int_half hy), ?_⟩)
    (refine yk (yP rfl (yP rfl (yP rfl (yT (zw_c rfl ?_))))); refine bcase_split (fun h2 => ?_) (fun h2 => ?_) <;> try simp only [zB] at h2)
    · (refine zw_o (yP rfl (yq rfl (zqA zI ?_))); refine And.intro ⟨by rw [int_half]; omega, by rw [int_half]; omega⟩ ?_)
      (refine yk (yA rfl (zo_0 (zb_n (zt_n (zaf_raw ?_))))); refine ⟨((lo + hi) / 2 + 1, hi), _, SLe.refl _ _, ?_⟩)
      refine ⟨⟨by simp only; omega, q2, fun k z hk hz => ?_, q4⟩, by simp only; omega, ⟨rfl, rfl, av_i64 (by rw [int_half]; rfl), rfl, trivial⟩, trivial⟩
      exact Int.lt_of_le_of_lt (rising_get hR hz hy (by simp only at hk; omega)) h2
    · (refine zw_o (yP rfl (yA rfl (zo_0 (zb_n (zt_n (zaf_raw ?_)))))); refine ⟨(lo, (lo + hi) / 2), _, SLe.refl _ _, ?_⟩)
      refine ⟨⟨by simp only; omega, by simp only; omega, q3, fun k z hk hz => ?_⟩, by simp only; omega, ⟨rfl, rfl, rfl, av_i64 int_half, trivial⟩, trivial⟩
      have := rising_get hR hy hz hk
      omega
  · have e : lo = hi := by omega
    subst e
    have fresh : (∀ y, l[lo]? = some y → y ≠ x) → Reg.put l x = l.take lo ++ [x] ++ l.drop lo := fun hne => put_new x l lo q2 q3 fun y hy => by
      have h5 := q4 lo y (Nat.le_refl _) hy
      have h6 := hne y hy
      omega
    (refine zw_x (zt_x (zt_x (zb_h (zt_n (zw_s (yS (yP rfl (yP rfl (yP rfl (yP rfl (yP rfl (yg rfl ?_)))))))))))); refine bcase_split (fun h2 => ?_) (fun h2 => ?_) <;> try simp only [zB] at h2)
    · rw [lm] at h2
      obtain ⟨y, hy⟩ := get_of (l := l) (i := lo) (by omega)
      (refine zg_t (zs_q rfl rfl (zq1 zI (yk (y1 rfl (y2 rfl (zs_q rfl rfl (zqX zI ?_))))))); refine ⟨[i64 y], (idx rfl hy), ?_⟩)
      (refine yk (y1 rfl (y1 rfl (y1 rfl (yP rfl (yT (zw_c rfl ?_)))))); refine bcase_split (fun h3 => ?_) (fun h3 => ?_) <;> try simp only [zB] at h3)
      · (refine yS (yP rfl (yA rfl (yT (zw_r (zt_r (ze_r zi ?_)))))); refine And.intro ?_ trivial)
        rw [put_same x l lo q3 (by rw [hy, h3])]
      · have hp := fresh fun z hz => by rw [hy] at hz; injection hz with hz; subst hz; exact h3
        (refine zw_k (zt_n (yS (yB rfl (yU (yq rfl (zq1 zI (zkq (zst_nl (yP rfl (yP rfl (yq rfl (zqA zI ?_)))))))))))); refine And.intro ⟨by decide, by omega, by rw [lm]; omega, ints_rows l⟩ ?_)
        (refine yk (yn rfl (zqA zI ?_)); refine And.intro ⟨rows_cut (ints_rows l), by simp only [List.length_drop, List.length_take, lm]; omega, by simp only [List.length_drop, List.length_take, lm]; omega⟩ ?_)
        ((refine zkns (zst_ow (zo_n rfl (zs_ar rfl rfl rfl rfl rfl (yU (yq rfl (zq1 zI (zkq (zst_ow (yP rfl (yn rfl (zq1 zI (zkns (zst_ow ?_))))))))))))); refine yn rfl (zqA zI ?_)); refine And.intro ⟨by simp, by simp [lm]; omega, by simp [lm]; omega⟩ ?_)
        (refine zkns (zst_e (zst_ow (zo_n rfl (zs_ar rfl rfl rfl rfl rfl (yU (yq rfl (zq1 zI (zkq (zst_ow (yP rfl (yP rfl (yq rfl (zqA zI ?_))))))))))))); refine And.intro ⟨by omega, by rw [lm]; omega, by omega, ints_rows l⟩ ?_)
        (refine yk (yn rfl (zqA zI ?_)); refine And.intro ⟨rows_cut (ints_rows l), by simp [lm]; omega, by simp [lm]; omega⟩ ?_)
        (refine zkns (zst_e (zst_ow (zo_n rfl (zs_ar rfl rfl rfl rfl rfl (yR zi ?_))))); refine And.intro ?_ trivial)
        rw [hp]
        simp [ints, List.map_take, List.map_drop, i64]
        rw [List.take_of_length_le (by simp)]
    · have hp := fresh fun z hz => by rw [List.getElem?_eq_none (by omega)] at hz; cases hz
      ((refine zg_f (zst_p (y0 rfl (y0 rfl (y0 rfl (y0 rfl (y0 rfl (yP rfl (yT (zw_c rfl (zc_f (zw_k (zt_n (yS ?_))))))))))))); refine yB rfl (yU (yq rfl (zq1 zI (zkq (zst_nl (yP rfl (yP rfl (yq rfl (zqA zI ?_)))))))))); refine And.intro ⟨by decide, by omega, by rw [lm]; omega, ints_rows l⟩ ?_)
      (refine yk (yn rfl (zqA zI ?_)); refine And.intro ⟨rows_cut (ints_rows l), by simp only [List.length_drop, List.length_take, lm]; omega, by simp only [List.length_drop, List.length_take, lm]; omega⟩ ?_)
      ((refine zkns (zst_ow (zo_n rfl (zs_ar rfl rfl rfl rfl rfl (yU (yq rfl (zq1 zI (zkq (zst_ow (yP rfl (yn rfl (zq1 zI (zkns (zst_ow ?_))))))))))))); refine yn rfl (zqA zI ?_)); refine And.intro ⟨by simp, by simp [lm]; omega, by simp [lm]; omega⟩ ?_)
      (refine zkns (zst_e (zst_ow (zo_n rfl (zs_ar rfl rfl rfl rfl rfl (yU (yq rfl (zq1 zI (zkq (zst_ow (yP rfl (yP rfl (yq rfl (zqA zI ?_))))))))))))); refine And.intro ⟨by omega, by rw [lm]; omega, by omega, ints_rows l⟩ ?_)
      (refine yk (yn rfl (zqA zI ?_)); refine And.intro ⟨rows_cut (ints_rows l), by simp [lm]; omega, by simp [lm]; omega⟩ ?_)
      (refine zkns (zst_e (zst_ow (zo_n rfl (zs_ar rfl rfl rfl rfl rfl (yR zi ?_))))); refine And.intro ?_ trivial)
      rw [hp]
      simp [ints, List.map_take, List.map_drop, i64]
      rw [List.take_of_length_le (by simp)]
theorem rects_fault_step {l : List Rect} {k : Nat} {r : Rect} (h : l[k]? = some r) : Reg.rectsFault (l.drop k) = if Reg.isRect r = true then (if r.x1 ≤ r.x0 ∨ r.y1 ≤ r.y0 then 13 else Reg.rectsFault (l.drop (k + 1))) else 1 := by
  obtain ⟨a, b⟩ := List.getElem?_eq_some_iff.1 h
  rw [List.drop_eq_getElem_cons a, b]
  rfl
set_option maxHeartbeats 1000000 in
theorem ref_checkRects (l : List Rect) : ACalls C 63 [.pv (rects l)] (.p (i64 (Reg.checkRects l))) [] := by
  refine fun_go hC Tryz.func63 rfl rfl 52 rfl (by decide) (by kernel_rfl) fun _ _ _ _ _ => ?_
  have lm := len_map l rc
  (refine yS (yA rfl (yT (zw_s (yS (yP rfl (yP rfl (yP rfl (yT (zw_c rfl ?_))))))))); refine bcase_split (fun h0 => ?_) (fun h0 => ?_) <;> try simp only [zB] at h0)
  · rw [lm] at h0
    (refine yS (yA rfl (yT (zw_r (zt_r (ze_r zi ?_))))); refine And.intro ?_ trivial)
    rw [Reg.checkRects, if_pos (by omega)]; rfl
  · rw [lm] at h0
    have hc : Reg.checkRects l = Reg.rectsFault l := by rw [Reg.checkRects, if_neg (by omega)]
    refine zw_k (zt_n (zw_s (yS (yA rfl (yT (zw_b ?_))))))
    refine loop_ok' (fun i : Nat => i ≤ l.length ∧ Reg.rectsFault l = Reg.rectsFault (l.drop i)) (fun i => [(0, .p (rects l)), (3, .p (i64 i))]) (fun _ => []) (fun i => l.length - i) 0 _ (SLe.refl _ _) ⟨Nat.zero_le _, rfl⟩ ⟨rfl, rfl, trivial⟩ trivial fun i hi t h => ?_
    (refine zw_s (yS (yP rfl (yP rfl (yP rfl (yP rfl (yT (zw_c rfl ?_))))))); refine bcase_split (fun h1 => ?_) (fun h1 => ?_) <;> try simp only [zB] at h1)
    · rw [lm] at h1
      obtain ⟨r, hr⟩ := get_of (l := l) (i := i) (by omega)
      have hs := rects_fault_step hr
      (refine zw_k (zt_n (zw_s (zw_b (yS (yP rfl (yP rfl (yq rfl (zqX zI ?_)))))))); refine ⟨(rc r), (idx rfl hr), ?_⟩)
      ((refine yk (yP rfl (yn rfl (zq1 zI (zkns (zst_bx (yq rfl (zq1 zI (zkq (zst_e (zst_0 (yT (zw_s (yS ?_))))))))))))); refine yV rfl (yP rfl (yn rfl (zqX zI ?_)))); refine ⟨_, _, (ref_at r.x0), ?_⟩)
      (refine zkn rfl rfl (zst_p (yP rfl (yP rfl (yg rfl ?_)))); refine bcase_split (fun g1 => ?_) (fun g1 => ?_) <;> try simp only [zB] at g1)
      · ((refine zg_f (zst_p (y0 rfl (y0 rfl (y0 rfl (yP rfl (yP rfl (y0 rfl (y0 rfl (y0 rfl (y0 rfl (yP rfl (yP rfl (y0 rfl ?_))))))))))))); refine y0 rfl (y0 rfl (y0 rfl (yP rfl (yT (zw_c rfl (zc_t (yS (yA rfl (yT (zw_r (zt_r (zb_r (zt_r ?_))))))))))))); refine zt_r (zb_r (zt_r (ze_r zi ?_)))); refine And.intro ?_ trivial)
        rw [hc, hi.2, hs, if_neg (by simp [Reg.isRect, g1])]; rfl
      (refine zg_t (zs_q rfl rfl (zq1 zI (zkq (zst_bx (y1 rfl (y2 rfl (zs_n rfl rfl rfl (zqX zI ?_)))))))); refine ⟨_, _, (ref_at r.y0), ?_⟩)
      (refine zkn rfl rfl (zst_p (y1 rfl (yP rfl (yP rfl (yg rfl ?_))))); refine bcase_split (fun g2 => ?_) (fun g2 => ?_) <;> try simp only [zB] at g2)
      · ((refine zg_f (zst_p (y0 rfl (y0 rfl (y0 rfl (yP rfl (yP rfl (y0 rfl (y0 rfl (y0 rfl (y0 rfl (yP rfl (yT (zw_c rfl ?_))))))))))))); refine zc_t (yS (yA rfl (yT (zw_r (zt_r (zb_r (zt_r (zt_r (zb_r (zt_r (ze_r zi ?_)))))))))))); refine And.intro ?_ trivial)
        rw [hc, hi.2, hs, if_neg (by simp [Reg.isRect, g2])]; rfl
      (refine zg_t (zs_q rfl rfl (zq1 zI (zkq (zst_bx (y1 rfl (y2 rfl (zs_n rfl rfl rfl (zqX zI ?_)))))))); refine ⟨_, _, (ref_at r.x1), ?_⟩)
      (refine zkn rfl rfl (zst_p (y1 rfl (yP rfl (yP rfl (yg rfl ?_))))); refine bcase_split (fun g3 => ?_) (fun g3 => ?_) <;> try simp only [zB] at g3)
      · ((refine zg_f (zst_p (y0 rfl (y0 rfl (y0 rfl (yP rfl (yT (zw_c rfl (zc_t (yS (yA rfl (yT (zw_r (zt_r ?_))))))))))))); refine zb_r (zt_r (zt_r (zb_r (zt_r (ze_r zi ?_)))))); refine And.intro ?_ trivial)
        rw [hc, hi.2, hs, if_neg (by simp [Reg.isRect, g3])]; rfl
      (refine zg_t (zs_q rfl rfl (zq1 zI (zkq (zst_bx (y1 rfl (y2 rfl (zs_n rfl rfl rfl (zqX zI ?_)))))))); refine ⟨_, _, (ref_at r.y1), ?_⟩)
      (refine zkn rfl rfl (zst_p (y1 rfl (yP rfl (yT (zw_c rfl ?_))))); refine bcase_split (fun g4 => ?_) (fun g4 => ?_) <;> try simp only [zB] at g4)
      · (refine yS (yA rfl (yT (zw_r (zt_r (zb_r (zt_r (zt_r (zb_r (zt_r (ze_r zi ?_)))))))))); refine And.intro ?_ trivial)
        rw [hc, hi.2, hs, if_neg (by simp [Reg.isRect, g4])]; rfl
      have hg : Reg.isRect r = true := by simp [Reg.isRect, g1, g2, g3, g4]
      rw [if_pos hg] at hs
      (refine zw_k (zt_n (yS (yV rfl (yP rfl (yV rfl (yP rfl (yP rfl (yP rfl (yg rfl ?_))))))))); refine bcase_split (fun e1 => ?_) (fun e1 => ?_) <;> try simp only [zB] at e1)
      · ((refine zg_f (zst_p (y0 rfl (y0 rfl (y0 rfl (y0 rfl (yP rfl (yT (zw_c rfl (zc_t (yS (yA rfl (yT (zw_r ?_))))))))))))); refine zb_r (zt_r (zt_r (zb_r (zt_r (ze_r zi ?_)))))); refine And.intro ?_ trivial)
        rw [hc, hi.2, hs, if_pos (.inl e1)]; rfl
      ((refine zg_t (zs_q rfl rfl (zq1 zI (zkq (zst_bx (y1 rfl (y2 rfl (zs_q rfl rfl (zq1 zI (zkq (zst_bx (y1 rfl (y1 rfl (yP rfl ?_))))))))))))); refine yT (zw_c rfl ?_)); refine bcase_split (fun e2 => ?_) (fun e2 => ?_) <;> try simp only [zB] at e2)
      · (refine yS (yA rfl (yT (zw_r (zb_r (zt_r (zt_r (zb_r (zt_r (ze_r zi ?_))))))))); refine And.intro ?_ trivial)
        rw [hc, hi.2, hs, if_pos (.inr e2)]; rfl
      (refine zw_k (zb_n (zt_n (zw_o (yP rfl (yq rfl (zqA zI ?_)))))); refine And.intro ⟨by omega, by omega⟩ ?_)
      (refine yk (yA rfl (yT (zaf_raw ?_))); refine ⟨(i + 1), _, SLe.refl _ _, ?_⟩)
      refine ⟨⟨by omega, ?_⟩, by omega, ⟨rfl, rfl, trivial⟩, trivial⟩
      rw [hi.2, hs, if_neg (by omega)]
    · rw [lm] at h1
      (refine zw_x (zt_x (zt_x (zb_h (zt_n (yS (yA rfl (yR zi ?_))))))); refine And.intro ?_ trivial)
      rw [hc, hi.2, List.drop_of_length_le (by omega)]; rfl
theorem drop_same {α : Type} {l m : List α} {k : Nat} {r t : α} (h : l[k]? = some r) (h' : m[k]? = some t) : (l.drop k = m.drop k) ↔ (r = t ∧ l.drop (k + 1) = m.drop (k + 1)) := by
  obtain ⟨a, b⟩ := List.getElem?_eq_some_iff.1 h
  obtain ⟨a', b'⟩ := List.getElem?_eq_some_iff.1 h'
  rw [List.drop_eq_getElem_cons a, List.drop_eq_getElem_cons a', b, b', List.cons.injEq]
set_option maxHeartbeats 1000000 in
theorem ref_sameRects (l m : List Rect) (hN : l.length ≤ 140737488355328) : ACalls C 65 [.pv (rects l), .pv (rects m)] (.p (bool (decide (l = m)))) [] := by
  refine fun_go hC Tryz.func65 rfl rfl 26 rfl (by decide) (by kernel_rfl) fun _ _ _ _ _ => ?_
  have lm := len_map l rc
  have mm := len_map m rc
  (refine yS (yA rfl (yT (zw_s (yS (yP rfl (yP rfl (yP rfl (yP rfl (yP rfl (yT (zw_c rfl ?_))))))))))); refine bcase_split (fun h0 => ?_) (fun h0 => ?_) <;> try simp only [zB] at h0)
  · rw [lm, mm] at h0
    (refine yS (yA rfl (yT (zw_r (zt_r (ze_r zi ?_))))); refine And.intro ?_ trivial)
    rw [decide_eq_false (fun e : l = m => h0 (by rw [e]))]
    rfl
  · rw [lm, mm] at h0
    refine zw_k (zt_n (zw_s (yS (yA rfl (yT (zw_b ?_))))))
    refine loop_ok' (fun i : Nat => i ≤ l.length ∧ (l = m ↔ l.drop i = m.drop i)) (fun i => [(0, .p (rects l)), (1, .p (rects m)), (5, .p (i64 i))]) (fun _ => []) (fun i => l.length - i) 0 _ (SLe.refl _ _) ⟨Nat.zero_le _, Iff.rfl⟩ ⟨rfl, rfl, rfl, trivial⟩ trivial fun i hi t h => ?_
    (refine zw_s (yS (yP rfl (yP rfl (yP rfl (yP rfl (yT (zw_c rfl ?_))))))); refine bcase_split (fun h1 => ?_) (fun h1 => ?_) <;> try simp only [zB] at h1)
    · rw [lm] at h1
      obtain ⟨r, hr⟩ := get_of (l := l) (i := i) (by omega)
      obtain ⟨q, hq⟩ := get_of (l := m) (i := i) (by omega)
      have hs := drop_same hr hq
      (refine zw_k (zt_n (zw_s (zw_b (zw_s (zw_d false [true, true, true, true, true, true, true, true, true] rfl (by kernel_rfl) (zp_q rfl (yD rfl (yD rfl (dq rfl (zqX zI ?_)))))))))); refine ⟨(rc r), (idx rfl hr), ?_⟩)
      (refine zkd (zst_p (yD rfl (yD rfl (yD rfl (dq rfl (zqX zI ?_)))))); refine ⟨(rc q), (idx rfl hq), ?_⟩)
      have he := Reg.Rect.ext_iff' r q
      (refine zkd (zst_p (yD rfl (yD rfl (zd_0 (zr_q rfl (zt_n (zw_c rfl ?_))))))); refine bcase_split (fun h2 => ?_) (fun h2 => ?_) <;> try simp only [zB] at h2)
      · (refine yS (yA rfl (yT (zw_r (zb_r (zt_r (zt_r (zb_r (zt_r (ze_r zi ?_))))))))); refine And.intro ?_ trivial)
        rw [decide_eq_false]; rfl
        rw [hi.2, hs, he]
        simp only [Bool.and_eq_false_iff, decide_eq_false_iff_not] at h2
        intro ⟨⟨e1, e2, e3, e4⟩, _⟩
        simp [e1, e2, e3, e4] at h2
      · (refine zw_k (zb_n (zt_n (zw_o (yP rfl (yq rfl (zqA zI ?_)))))); refine And.intro ⟨by omega, by omega⟩ ?_)
        (refine yk (yA rfl (yT (zaf_raw ?_))); refine ⟨(i + 1), _, SLe.refl _ _, ?_⟩)
        refine ⟨⟨by omega, ?_⟩, by omega, ⟨rfl, rfl, rfl, trivial⟩, trivial⟩
        rw [hi.2, hs, he]
        simp [decide_eq_true_eq] at h2
        exact and_iff_right h2
    · (refine zw_x (zt_x (zt_x (zb_h (zt_n (yS (yA rfl (yR zi ?_))))))); refine And.intro ?_ trivial)
      rw [lm] at h1
      rw [decide_eq_true]; rfl
      rw [hi.2, List.drop_of_length_le (by omega), List.drop_of_length_le (by omega)]
end Go.Proofs.YtcfhiodoogkcpaaGreatDoor.M
