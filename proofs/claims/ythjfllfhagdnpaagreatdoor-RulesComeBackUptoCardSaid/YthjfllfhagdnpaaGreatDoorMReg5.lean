/- By the machine: the reference of regions, its small functions. -/
import Derived.Test.YthjfllfhagdnpaaGreatDoorMTab
set_option linter.unusedSimpArgs false
set_option linter.unusedVariables false
namespace Go.Proofs.YthjfllfhagdnpaaGreatDoor.M
open Go.AM Go.RowKit
open Reg (Rect Spans)

theorem ref_within (n lo hi : Int) : ACalls C 304 [.pv (i64 n), .pv (i64 lo), .pv (i64 hi)] (.p (bool (decide (lo ≤ n) && decide (n ≤ hi)))) [] := by
  refine fun_go hC Tryz.func304 rfl rfl 15 rfl (by decide) (by kernel_rfl) fun _ _ _ _ _ => ?_
  (refine yS (yA rfl (yU (yP rfl (yP rfl (yP rfl (yP rfl (yg rfl ?_))))))); refine bcase_split (fun h => ?_) (fun h => ?_) <;> try simp only [zB] at h) <;> ((first | (refine zg_t (zs_q rfl rfl (zq1 zI (yk (y1 rfl (y1 rfl (yP rfl (yA rfl (yR zi ?_))))))))) | (refine zg_f (zst_p (y0 rfl (y0 rfl (yP rfl (yA rfl (yR zi ?_)))))))); refine And.intro ?_ trivial) <;> simp [bool, h]
theorem ref_at (n : Int) : ACalls C 224 [.pv (i64 n)] (.p (bool (Reg.isAt n))) [] := by
  refine fun_go hC Tryz.func224 rfl rfl 5 rfl (by decide) (by kernel_rfl) fun _ _ _ _ _ => ?_
  (refine yS (yA rfl (yU (yP rfl (yn rfl (zqX zI ?_))))); refine ⟨_, _, (ref_within n (-1000000) 1000000), ?_⟩)
  (refine zkn rfl rfl (zst_p (yA rfl (yR zi ?_))); refine And.intro ?_ trivial)
  rfl
theorem ref_point (x y : Int) : ACalls C 311 [.pv (.ag [i64 x, i64 y])] (.p (bool (Reg.isAt x && Reg.isAt y))) [] := by
  refine fun_go hC Tryz.func311 rfl rfl 11 rfl (by decide) (by kernel_rfl) fun _ _ _ _ _ => ?_
  (refine yS (yn rfl (zq1 zI (zkns (zst_bx (yA rfl (yU (yV rfl (yP rfl (yn rfl (zqX zI ?_)))))))))); refine ⟨_, _, (ref_at x), ?_⟩)
  (refine zkn rfl rfl (zst_p (yP rfl (yg rfl ?_))); refine bcase_split (fun h => ?_) (fun h => ?_) <;> try simp only [zB] at h)
  · (refine zg_t (zs_q rfl rfl (zq1 zI (zkq (zst_bx (y1 rfl (y2 rfl (zs_n rfl rfl rfl (zqX zI ?_)))))))); refine ⟨_, _, (ref_at y), ?_⟩)
    (refine zkn rfl rfl (zst_p (yP rfl (yA rfl (yR zi ?_)))); refine And.intro ?_ trivial)
    simp [bool, h]
  · (refine zg_f (zst_p (y0 rfl (y0 rfl (yP rfl (yA rfl (yR zi ?_)))))); refine And.intro ?_ trivial)
    simp [bool, h]
theorem ref_before (a b : Rect) : ACalls C 141 [.pv (.ag (rc a)), .pv (.ag (rc b))] (.p (bool (Reg.before a b))) [] := by
  refine fun_go hC Tryz.func141 rfl rfl 24 rfl (by decide) (by kernel_rfl) fun _ _ _ _ _ => ?_
  ((refine yS (yn rfl (zq1 zI (zkns (zst_bx (yn rfl (zq1 zI (zkns (zst_bx (yA rfl (yU (yV rfl (yP rfl (yV rfl ?_))))))))))))); refine yP rfl (yP rfl (yP rfl (yg rfl ?_)))); refine bcase_split (fun h => ?_) (fun h => ?_) <;> try simp only [zB] at h)
  · ((refine zg_f (zst_p (y0 rfl (y0 rfl (y0 rfl (y0 rfl (y0 rfl (zo_gu rfl rfl rfl rfl (zst_p (zo_gu rfl rfl rfl rfl (zst_p (zo_gu rfl rfl rfl rfl (zst_p (zo_gu rfl rfl rfl rfl ?_))))))))))))); refine zst_p (zo_gu rfl rfl rfl rfl (zst_p (y0 rfl (yP rfl (yA rfl (yR zi ?_))))))); refine And.intro ?_ trivial)
    simp [bool, Reg.before, h]
  · ((refine zg_t (zs_q rfl rfl (zq1 zI (zkq (zst_bx (y1 rfl (y2 rfl (zs_q rfl rfl (zq1 zI (zkq (zst_bx (y1 rfl (y1 rfl (y1 rfl ?_))))))))))))); refine yg rfl ?_); refine bcase_split (fun h2 => ?_) (fun h2 => ?_) <;> try simp only [zB] at h2) <;> ((first | (refine zg_t (zs_q rfl rfl (zq1 zI (zkq (zst_bx (y1 rfl (y2 rfl (zs_q rfl rfl (zq1 zI (zkq (zst_bx (y1 rfl (y1 rfl (y1 rfl ?_))))))))))))); refine yP rfl (yA rfl (yR zi ?_))) | (refine zg_f (zst_p (y0 rfl (y0 rfl (y0 rfl (y0 rfl (y1 rfl (yP rfl (yA rfl (yR zi ?_))))))))))); refine And.intro ?_ trivial) <;> simp [bool, Reg.before, h, h2]
def insideB (l : Spans) (x : Int) : Bool := l.any fun p => decide (p.1 ≤ x) && decide (x < p.2)
theorem take_succ' {α : Type} {l : List α} {i : Nat} {r : α} (h : l[i]? = some r) : l.take (i + 1) = l.take i ++ [r] := by rw [List.take_add_one, h]; rfl
theorem get_of {α : Type} {l : List α} {i : Nat} (h : i < l.length) : ∃ p, l[i]? = some p := ⟨l[i], List.getElem?_eq_getElem h⟩
theorem idx {α : Type} {l : List α} {f : α → List PV} {i : Int} {k : Nat} {x : α} (h : i = k) (hx : l[k]? = some x) : 0 ≤ i ∧ (l.map f)[i.toNat]? = some (f x) := by
  subst h
  exact ⟨by omega, by rw [Int.toNat_natCast]; exact map_get f hx⟩
theorem av_i64 {a b : Int} (h : a = b) : AV.p (i64 a) = AV.p (i64 b) := by rw [h]
theorem av_bool {a b : Bool} (h : a = b) : AV.p (bool a) = AV.p (bool b) := by rw [h]
theorem len_map {α : Type} (l : List α) (f : α → List PV) : (l.map f).length = l.length := List.length_map ..
theorem ref_inside (l : Spans) (x : Int) (hl : l.length ≤ 140737488355328) : ACalls C 258 [.pv (spans l), .pv (i64 x)] (.p (bool (insideB l x))) [] := by
  refine fun_go hC Tryz.func258 rfl rfl 28 rfl (by decide) (by kernel_rfl) fun _ _ _ _ _ => ?_
  refine yS (yA rfl (yT (zw_s (yS (yA rfl (yT (zw_b ?_)))))))
  refine loop_ok' (fun i : Nat => i ≤ l.length ∧ insideB (l.take i) x = false) (fun i => [(0, .p (spans l)), (1, .p (i64 x)), (5, .p (i64 i))]) (fun _ => []) (fun i => l.length - i) 0 _ (SLe.refl _ _) ⟨Nat.zero_le _, rfl⟩ ⟨rfl, rfl, rfl, trivial⟩ trivial fun i hi t h => ?_
  (refine zw_s (yS (yP rfl (yP rfl (yP rfl (yP rfl (yT (zw_c rfl ?_))))))); refine bcase_split (fun h1 => ?_) (fun h1 => ?_) <;> try simp only [zB] at h1)
  · simp only [List.length_map] at h1
    obtain ⟨p, hp⟩ := get_of (l := l) (i := i) (by omega)
    (refine zw_k (zt_n (zw_s (zw_b (yS (yP rfl (yP rfl (yq rfl (zqX zI ?_)))))))); refine ⟨(sp p), (idx rfl hp), ?_⟩)
    (refine yk (yP rfl (yP rfl (yP rfl (yP rfl (yP rfl (yg rfl ?_)))))); refine bcase_split (fun h3 => ?_) (fun h3 => ?_) <;> try simp only [zB] at h3)
    · (refine zg_t (zs_q rfl rfl (zq1 zI (yk (y1 rfl (y1 rfl (y2 rfl (zs_q rfl rfl (zqX zI ?_)))))))); refine ⟨(sp p), (idx rfl hp), ?_⟩)
      (refine yk (y1 rfl (y1 rfl (y1 rfl (yP rfl (yT (zw_c rfl ?_)))))); refine bcase_split (fun h4 => ?_) (fun h4 => ?_) <;> try simp only [zB] at h4)
      · (refine yS (yA rfl (yT (zw_r (zb_r (zt_r (zt_r (zb_r (zt_r (ze_r zi ?_))))))))); refine And.intro ?_ trivial)
        have : insideB l x = true := by
          unfold insideB
          rw [List.any_eq_true]
          exact ⟨p, List.mem_of_getElem? hp, by simp [h3, h4]⟩
        simp [bool, this]
      · (refine zw_k (zb_n (zt_n (zw_o (yP rfl (yq rfl (zqA zI ?_)))))); refine And.intro ⟨by omega, by omega⟩ ?_)
        (refine yk (yA rfl (yT (zaf_raw ?_))); refine ⟨(i + 1), _, SLe.refl _ _, ?_⟩)
        refine ⟨⟨by omega, ?_⟩, by omega, ⟨rfl, rfl, rfl, trivial⟩, trivial⟩
        rw [take_succ' hp]
        simp only [insideB] at hi
        simp [insideB, hi.2, h4]
    · ((refine zg_f (zst_p (y0 rfl (y0 rfl (y0 rfl (y0 rfl (y0 rfl (y0 rfl (yP rfl (yT (zw_c rfl (zc_f (zw_k (zb_n ?_))))))))))))); refine zt_n (zw_o (yP rfl (yq rfl (zqA zI ?_))))); refine And.intro ⟨by omega, by omega⟩ ?_)
      (refine yk (yA rfl (yT (zaf_raw ?_))); refine ⟨(i + 1), _, SLe.refl _ _, ?_⟩)
      refine ⟨⟨by omega, ?_⟩, by omega, ⟨rfl, rfl, rfl, trivial⟩, trivial⟩
      rw [take_succ' hp]
      simp only [insideB] at hi
      simp [insideB, hi.2, h3]
  · (refine zw_x (zt_x (zt_x (zb_h (zt_n (yS (yA rfl (yR zi ?_))))))); refine And.intro ?_ trivial)
    simp only [List.length_map] at h1
    have h2 : l.take i = l := List.take_of_length_le (by omega)
    rw [h2] at hi
    simp [bool, hi.2]
end Go.Proofs.YthjfllfhagdnpaaGreatDoor.M
namespace Go.Proofs.YthjfllfhagdnpaaGreatDoor.M
open Go.AM Go.RowKit
open Reg (Rect Spans)

theorem put_same (x : Int) : ∀ (l : List Int) (lo : Nat), (∀ k y, k < lo → l[k]? = some y → y < x) → l[lo]? = some x → Reg.put l x = l := by
  intro l
  induction l with
  | nil => intro lo _ h; simp at h
  | cons a l ih =>
    intro lo h1 h2
    cases lo with
    | zero =>
      simp at h2
      subst h2
      simp [Reg.put]
    | succ lo =>
      have ha : a < x := h1 0 a (by omega) rfl
      rw [Reg.put, if_pos ha, ih lo (fun k y hk hy => h1 (k + 1) y (by omega) (by simpa using hy)) (by simpa using h2)]
theorem put_new (x : Int) : ∀ (l : List Int) (lo : Nat), lo ≤ l.length → (∀ k y, k < lo → l[k]? = some y → y < x) → (∀ y, l[lo]? = some y → x < y) → Reg.put l x = l.take lo ++ [x] ++ l.drop lo := by
  intro l
  induction l with
  | nil => intro lo h0 _ _; simp at h0; subst h0; simp [Reg.put]
  | cons a l ih =>
    intro lo h0 h1 h2
    cases lo with
    | zero =>
      have ha := h2 a rfl
      rw [Reg.put, if_neg (by omega), if_neg (by omega)]
      simp
    | succ lo =>
      have ha : a < x := h1 0 a (by omega) rfl
      rw [Reg.put, if_pos ha, ih lo (by simpa using h0) (fun k y hk hy => h1 (k + 1) y (by omega) (by simpa using hy)) (fun y hy => h2 y (by simpa using hy))]
      simp
theorem rising_get {l : List Int} (h : Reg.Rising l) {i j : Nat} {a b : Int} (ha : l[i]? = some a) (hb : l[j]? = some b) (hij : i ≤ j) : a ≤ b := by
  by_cases e : i = j
  · subst e
    rw [ha] at hb
    injection hb with hb
    omega
  · have hi := (List.getElem?_eq_some_iff.1 ha)
    have hj := (List.getElem?_eq_some_iff.1 hb)
    obtain ⟨hi1, hi2⟩ := hi
    obtain ⟨hj1, hj2⟩ := hj
    have := (List.pairwise_iff_getElem.1 h) i j hi1 hj1 (by omega)
    omega
theorem put_length (x : Int) : ∀ (l : List Int), (Reg.put l x).length ≤ l.length + 1 := by
  intro l
  induction l with
  | nil => simp [Reg.put]
  | cons a l ih =>
    rw [Reg.put]
    split
    · simp; omega
    · split <;> simp
theorem heights_snoc (l : List Rect) (r : Rect) : Reg.heights (l ++ [r]) = Reg.put (Reg.put (Reg.heights l) r.y0) r.y1 := by
  unfold Reg.heights
  rw [List.foldl_append]
  rfl
theorem take_snoc {l : List Rect} {k : Nat} {r : Rect} (h : l[k]? = some r) : l.take (k + 1) = l.take k ++ [r] := by
  rw [List.take_add_one, h]
  rfl
theorem heights_step {l : List Rect} {k : Nat} {r : Rect} (h : l[k]? = some r) : Reg.heights (l.take (k + 1)) = Reg.put (Reg.put (Reg.heights (l.take k)) r.y0) r.y1 := by
  rw [take_snoc h, heights_snoc]
theorem heights_rising (l : List Rect) : Reg.Rising (Reg.heights l) := (Reg.heights_facts l).1
theorem ints_rows (l : List Int) : ∀ r ∈ (l.map fun n => [i64 n]), r.length = 1 := by
  intro r hr
  obtain ⟨n, _, rfl⟩ := List.mem_map.1 hr
  rfl
theorem int_half {a b : Nat} : ((a : Int) + (b : Int)).tdiv 2 = ((a + b) / 2 : Nat) := by
  rw [Int.tdiv_eq_ediv_of_nonneg (by omega)]; omega
theorem rows_cut {es : List (List PV)} {n a b : Nat} (h : ∀ r ∈ es, r.length = n) : ∀ r ∈ (es.take b).drop a, r.length = n := fun r hr => h r (List.mem_of_mem_take (List.mem_of_mem_drop hr))
set_option maxHeartbeats 1000000 in
theorem ref_put (l : List Int) (x : Int) (hR : Reg.Rising l) (hN : l.length ≤ 1000000) : ACalls C 305 [.pv (ints l), .pv (i64 x)] (.p (ints (Reg.put l x))) [] := by
  refine fun_go hC Tryz.func305 rfl rfl 54 rfl (by decide) (by kernel_rfl) fun _ _ _ _ _ => ?_
  refine yS (yB rfl (yU (yP rfl (yP rfl (yA rfl (yA rfl (yT (zw_s (zw_b ?_)))))))))
  refine loop_ok' (fun p : Nat × Nat => p.1 ≤ p.2 ∧ p.2 ≤ l.length ∧ (∀ k y, k < p.1 → l[k]? = some y → y < x) ∧ (∀ k y, p.2 ≤ k → l[k]? = some y → x ≤ y)) (fun p => [(0, .p (ints l)), (1, .p (i64 x)), (5, .p (i64 p.1)), (6, .p (i64 p.2))]) (fun _ => []) (fun p => p.2 - p.1) (0, l.length) _ (SLe.refl _ _) ⟨Nat.zero_le _, Nat.le_refl _, fun k y h => by omega, fun k y h1 h2 => ?_⟩ ⟨rfl, rfl, rfl, av_i64 (by rw [len_map]), trivial⟩ trivial fun ⟨lo, hi⟩ hi' t h => ?_
  · rw [List.getElem?_eq_none (by omega)] at h2; cases h2
  obtain ⟨q1, q2, q3, q4⟩ := hi'
  simp only at q1 q2 q3 q4
  have lm := len_map l fun n => [i64 n]
  (refine zw_s (yS (yP rfl (yP rfl (yP rfl (yT (zw_c rfl ?_)))))); refine bcase_split (fun h1 => ?_) (fun h1 => ?_) <;> try simp only [zB] at h1)
  · (refine zw_k (zt_n (zw_b (yS (yP rfl (yP rfl (yq rfl (zqA zI ?_))))))); refine And.intro ⟨by omega, by omega⟩ ?_)
    refine yk (yq rfl (zqA zI ?_))
    refine ⟨by decide, ⟨?_, ?_⟩, ?_⟩
    · rw [int_half]; omega
    · rw [int_half]; omega
    obtain ⟨y, hy⟩ := get_of (l := l) (i := (lo + hi) / 2) (by omega)
    (refine yk (yA rfl (yU (yP rfl (yP rfl (yq rfl (zqX zI ?_)))))); refine ⟨[i64 y], (idx int_half hy), ?_⟩)
    (refine yk (yP rfl (yP rfl (yP rfl (yT (zw_c rfl ?_))))); refine bcase_split (fun h2 => ?_) (fun h2 => ?_) <;> try simp only [zB] at h2)
    · (refine zw_o (yP rfl (yq rfl (zqA zI ?_))); refine And.intro ⟨by rw [int_half]; omega, by rw [int_half]; omega⟩ ?_)
      (refine yk (yA rfl (zo_0 (zb_n (zt_n (zaf_raw ?_))))); refine ⟨((lo + hi) / 2 + 1, hi), _, SLe.refl _ _, ?_⟩)
      refine ⟨⟨by simp only; omega, q2, fun k z hk hz => ?_, q4⟩, by simp only; omega, ⟨rfl, rfl, av_i64 (by rw [int_half]; rfl), rfl, trivial⟩, trivial⟩
      exact Int.lt_of_le_of_lt (rising_get hR hz hy (by simp only at hk; omega)) h2
    · (refine zw_o (yP rfl (yA rfl (zo_0 (zb_n (zt_n (zaf_raw ?_)))))); refine ⟨(lo, (lo + hi) / 2), _, SLe.refl _ _, ?_⟩)
      refine ⟨⟨by simp only; omega, by simp only; omega, q3, fun k z hk hz => ?_⟩, by simp only; omega, ⟨rfl, rfl, rfl, av_i64 int_half, trivial⟩, trivial⟩
      have := rising_get hR hy hz hk
      omega
  · have e : lo = hi := by omega
    subst e
    have fresh : (∀ y, l[lo]? = some y → y ≠ x) → Reg.put l x = l.take lo ++ [x] ++ l.drop lo := fun hne => put_new x l lo q2 q3 fun y hy => by
      have h5 := q4 lo y (Nat.le_refl _) hy
      have h6 := hne y hy
      omega
    (refine zw_x (zt_x (zt_x (zb_h (zt_n (zw_s (yS (yP rfl (yP rfl (yP rfl (yP rfl (yP rfl (yg rfl ?_)))))))))))); refine bcase_split (fun h2 => ?_) (fun h2 => ?_) <;> try simp only [zB] at h2)
    · rw [lm] at h2
      obtain ⟨y, hy⟩ := get_of (l := l) (i := lo) (by omega)
      (refine zg_t (zs_q rfl rfl (zq1 zI (yk (y1 rfl (y2 rfl (zs_q rfl rfl (zqX zI ?_))))))); refine ⟨[i64 y], (idx rfl hy), ?_⟩)
      (refine yk (y1 rfl (y1 rfl (y1 rfl (yP rfl (yT (zw_c rfl ?_)))))); refine bcase_split (fun h3 => ?_) (fun h3 => ?_) <;> try simp only [zB] at h3)
      · (refine yS (yP rfl (yA rfl (yT (zw_r (zt_r (ze_r zi ?_)))))); refine And.intro ?_ trivial)
        rw [put_same x l lo q3 (by rw [hy, h3])]
      · have hp := fresh fun z hz => by rw [hy] at hz; injection hz with hz; subst hz; exact h3
        (refine zw_k (zt_n (yS (yB rfl (yU (yq rfl (zq1 zI (zkq (zst_nl (yP rfl (yP rfl (yq rfl (zqA zI ?_)))))))))))); refine And.intro ⟨by decide, by omega, by rw [lm]; omega, ints_rows l⟩ ?_)
        (refine yk (yn rfl (zqA zI ?_)); refine And.intro ⟨rows_cut (ints_rows l), by simp only [List.length_drop, List.length_take, lm]; omega, by simp only [List.length_drop, List.length_take, lm]; omega⟩ ?_)
        ((refine zkns (zst_ow (zo_n rfl (zs_ar rfl rfl rfl rfl rfl (yU (yq rfl (zq1 zI (zkq (zst_ow (yP rfl (yn rfl (zq1 zI (zkns (zst_ow ?_))))))))))))); refine yn rfl (zqA zI ?_)); refine And.intro ⟨by simp, by simp [lm]; omega, by simp [lm]; omega⟩ ?_)
        (refine zkns (zst_e (zst_ow (zo_n rfl (zs_ar rfl rfl rfl rfl rfl (yU (yq rfl (zq1 zI (zkq (zst_ow (yP rfl (yP rfl (yq rfl (zqA zI ?_))))))))))))); refine And.intro ⟨by omega, by rw [lm]; omega, by omega, ints_rows l⟩ ?_)
        (refine yk (yn rfl (zqA zI ?_)); refine And.intro ⟨rows_cut (ints_rows l), by simp [lm]; omega, by simp [lm]; omega⟩ ?_)
        (refine zkns (zst_e (zst_ow (zo_n rfl (zs_ar rfl rfl rfl rfl rfl (yR zi ?_))))); refine And.intro ?_ trivial)
        rw [hp]
        simp [ints, List.map_take, List.map_drop, i64]
        rw [List.take_of_length_le (by simp)]
    · have hp := fresh fun z hz => by rw [List.getElem?_eq_none (by omega)] at hz; cases hz
      ((refine zg_f (zst_p (y0 rfl (y0 rfl (y0 rfl (y0 rfl (y0 rfl (yP rfl (yT (zw_c rfl (zc_f (zw_k (zt_n (yS ?_))))))))))))); refine yB rfl (yU (yq rfl (zq1 zI (zkq (zst_nl (yP rfl (yP rfl (yq rfl (zqA zI ?_)))))))))); refine And.intro ⟨by decide, by omega, by rw [lm]; omega, ints_rows l⟩ ?_)
      (refine yk (yn rfl (zqA zI ?_)); refine And.intro ⟨rows_cut (ints_rows l), by simp only [List.length_drop, List.length_take, lm]; omega, by simp only [List.length_drop, List.length_take, lm]; omega⟩ ?_)
      ((refine zkns (zst_ow (zo_n rfl (zs_ar rfl rfl rfl rfl rfl (yU (yq rfl (zq1 zI (zkq (zst_ow (yP rfl (yn rfl (zq1 zI (zkns (zst_ow ?_))))))))))))); refine yn rfl (zqA zI ?_)); refine And.intro ⟨by simp, by simp [lm]; omega, by simp [lm]; omega⟩ ?_)
      (refine zkns (zst_e (zst_ow (zo_n rfl (zs_ar rfl rfl rfl rfl rfl (yU (yq rfl (zq1 zI (zkq (zst_ow (yP rfl (yP rfl (yq rfl (zqA zI ?_))))))))))))); refine And.intro ⟨by omega, by rw [lm]; omega, by omega, ints_rows l⟩ ?_)
      (refine yk (yn rfl (zqA zI ?_)); refine And.intro ⟨rows_cut (ints_rows l), by simp [lm]; omega, by simp [lm]; omega⟩ ?_)
      (refine zkns (zst_e (zst_ow (zo_n rfl (zs_ar rfl rfl rfl rfl rfl (yR zi ?_))))); refine And.intro ?_ trivial)
      rw [hp]
      simp [ints, List.map_take, List.map_drop, i64]
      rw [List.take_of_length_le (by simp)]
theorem rects_fault_step {l : List Rect} {k : Nat} {r : Rect} (h : l[k]? = some r) : Reg.rectsFault (l.drop k) = if Reg.isRect r = true then (if r.x1 ≤ r.x0 ∨ r.y1 ≤ r.y0 then 13 else Reg.rectsFault (l.drop (k + 1))) else 1 := by
  obtain ⟨a, b⟩ := List.getElem?_eq_some_iff.1 h
  rw [List.drop_eq_getElem_cons a, b]
  rfl
set_option maxHeartbeats 1000000 in
theorem ref_checkRects (l : List Rect) : ACalls C 140 [.pv (rects l)] (.p (i64 (Reg.checkRects l))) [] := by
  refine fun_go hC Tryz.func140 rfl rfl 52 rfl (by decide) (by kernel_rfl) fun _ _ _ _ _ => ?_
  have lm := len_map l rc
  (refine yS (yA rfl (yT (zw_s (yS (yP rfl (yP rfl (yP rfl (yT (zw_c rfl ?_))))))))); refine bcase_split (fun h0 => ?_) (fun h0 => ?_) <;> try simp only [zB] at h0)
  · rw [lm] at h0
    (refine yS (yA rfl (yT (zw_r (zt_r (ze_r zi ?_))))); refine And.intro ?_ trivial)
    rw [Reg.checkRects, if_pos (by omega)]; rfl
  · rw [lm] at h0
    have hc : Reg.checkRects l = Reg.rectsFault l := by rw [Reg.checkRects, if_neg (by omega)]
    refine zw_k (zt_n (zw_s (yS (yA rfl (yT (zw_b ?_))))))
    refine loop_ok' (fun i : Nat => i ≤ l.length ∧ Reg.rectsFault l = Reg.rectsFault (l.drop i)) (fun i => [(0, .p (rects l)), (3, .p (i64 i))]) (fun _ => []) (fun i => l.length - i) 0 _ (SLe.refl _ _) ⟨Nat.zero_le _, rfl⟩ ⟨rfl, rfl, trivial⟩ trivial fun i hi t h => ?_
    (refine zw_s (yS (yP rfl (yP rfl (yP rfl (yP rfl (yT (zw_c rfl ?_))))))); refine bcase_split (fun h1 => ?_) (fun h1 => ?_) <;> try simp only [zB] at h1)
    · rw [lm] at h1
      obtain ⟨r, hr⟩ := get_of (l := l) (i := i) (by omega)
      have hs := rects_fault_step hr
      (refine zw_k (zt_n (zw_s (zw_b (yS (yP rfl (yP rfl (yq rfl (zqX zI ?_)))))))); refine ⟨(rc r), (idx rfl hr), ?_⟩)
      ((refine yk (yP rfl (yn rfl (zq1 zI (zkns (zst_bx (yq rfl (zq1 zI (zkq (zst_e (zst_0 (yT (zw_s (yS ?_))))))))))))); refine yV rfl (yP rfl (yn rfl (zqX zI ?_)))); refine ⟨_, _, (ref_at r.x0), ?_⟩)
      (refine zkn rfl rfl (zst_p (yP rfl (yP rfl (yg rfl ?_)))); refine bcase_split (fun g1 => ?_) (fun g1 => ?_) <;> try simp only [zB] at g1)
      · ((refine zg_f (zst_p (y0 rfl (y0 rfl (y0 rfl (yP rfl (yP rfl (y0 rfl (y0 rfl (y0 rfl (y0 rfl (yP rfl (yP rfl (y0 rfl ?_))))))))))))); refine y0 rfl (y0 rfl (y0 rfl (yP rfl (yT (zw_c rfl (zc_t (yS (yA rfl (yT (zw_r (zt_r (zb_r (zt_r ?_))))))))))))); refine zt_r (zb_r (zt_r (ze_r zi ?_)))); refine And.intro ?_ trivial)
        rw [hc, hi.2, hs, if_neg (by simp [Reg.isRect, g1])]; rfl
      (refine zg_t (zs_q rfl rfl (zq1 zI (zkq (zst_bx (y1 rfl (y2 rfl (zs_n rfl rfl rfl (zqX zI ?_)))))))); refine ⟨_, _, (ref_at r.y0), ?_⟩)
      (refine zkn rfl rfl (zst_p (y1 rfl (yP rfl (yP rfl (yg rfl ?_))))); refine bcase_split (fun g2 => ?_) (fun g2 => ?_) <;> try simp only [zB] at g2)
      · ((refine zg_f (zst_p (y0 rfl (y0 rfl (y0 rfl (yP rfl (yP rfl (y0 rfl (y0 rfl (y0 rfl (y0 rfl (yP rfl (yT (zw_c rfl ?_))))))))))))); refine zc_t (yS (yA rfl (yT (zw_r (zt_r (zb_r (zt_r (zt_r (zb_r (zt_r (ze_r zi ?_)))))))))))); refine And.intro ?_ trivial)
        rw [hc, hi.2, hs, if_neg (by simp [Reg.isRect, g2])]; rfl
      (refine zg_t (zs_q rfl rfl (zq1 zI (zkq (zst_bx (y1 rfl (y2 rfl (zs_n rfl rfl rfl (zqX zI ?_)))))))); refine ⟨_, _, (ref_at r.x1), ?_⟩)
      (refine zkn rfl rfl (zst_p (y1 rfl (yP rfl (yP rfl (yg rfl ?_))))); refine bcase_split (fun g3 => ?_) (fun g3 => ?_) <;> try simp only [zB] at g3)
      · ((refine zg_f (zst_p (y0 rfl (y0 rfl (y0 rfl (yP rfl (yT (zw_c rfl (zc_t (yS (yA rfl (yT (zw_r (zt_r ?_))))))))))))); refine zb_r (zt_r (zt_r (zb_r (zt_r (ze_r zi ?_)))))); refine And.intro ?_ trivial)
        rw [hc, hi.2, hs, if_neg (by simp [Reg.isRect, g3])]; rfl
      (refine zg_t (zs_q rfl rfl (zq1 zI (zkq (zst_bx (y1 rfl (y2 rfl (zs_n rfl rfl rfl (zqX zI ?_)))))))); refine ⟨_, _, (ref_at r.y1), ?_⟩)
      (refine zkn rfl rfl (zst_p (y1 rfl (yP rfl (yT (zw_c rfl ?_))))); refine bcase_split (fun g4 => ?_) (fun g4 => ?_) <;> try simp only [zB] at g4)
      · (refine yS (yA rfl (yT (zw_r (zt_r (zb_r (zt_r (zt_r (zb_r (zt_r (ze_r zi ?_)))))))))); refine And.intro ?_ trivial)
        rw [hc, hi.2, hs, if_neg (by simp [Reg.isRect, g4])]; rfl
      have hg : Reg.isRect r = true := by simp [Reg.isRect, g1, g2, g3, g4]
      rw [if_pos hg] at hs
      (refine zw_k (zt_n (yS (yV rfl (yP rfl (yV rfl (yP rfl (yP rfl (yP rfl (yg rfl ?_))))))))); refine bcase_split (fun e1 => ?_) (fun e1 => ?_) <;> try simp only [zB] at e1)
      · ((refine zg_f (zst_p (y0 rfl (y0 rfl (y0 rfl (y0 rfl (yP rfl (yT (zw_c rfl (zc_t (yS (yA rfl (yT (zw_r ?_))))))))))))); refine zb_r (zt_r (zt_r (zb_r (zt_r (ze_r zi ?_)))))); refine And.intro ?_ trivial)
        rw [hc, hi.2, hs, if_pos (.inl e1)]; rfl
      ((refine zg_t (zs_q rfl rfl (zq1 zI (zkq (zst_bx (y1 rfl (y2 rfl (zs_q rfl rfl (zq1 zI (zkq (zst_bx (y1 rfl (y1 rfl (yP rfl ?_))))))))))))); refine yT (zw_c rfl ?_)); refine bcase_split (fun e2 => ?_) (fun e2 => ?_) <;> try simp only [zB] at e2)
      · (refine yS (yA rfl (yT (zw_r (zb_r (zt_r (zt_r (zb_r (zt_r (ze_r zi ?_))))))))); refine And.intro ?_ trivial)
        rw [hc, hi.2, hs, if_pos (.inr e2)]; rfl
      (refine zw_k (zb_n (zt_n (zw_o (yP rfl (yq rfl (zqA zI ?_)))))); refine And.intro ⟨by omega, by omega⟩ ?_)
      (refine yk (yA rfl (yT (zaf_raw ?_))); refine ⟨(i + 1), _, SLe.refl _ _, ?_⟩)
      refine ⟨⟨by omega, ?_⟩, by omega, ⟨rfl, rfl, trivial⟩, trivial⟩
      rw [hi.2, hs, if_neg (by omega)]
    · rw [lm] at h1
      (refine zw_x (zt_x (zt_x (zb_h (zt_n (yS (yA rfl (yR zi ?_))))))); refine And.intro ?_ trivial)
      rw [hc, hi.2, List.drop_of_length_le (by omega)]; rfl
theorem drop_same {α : Type} {l m : List α} {k : Nat} {r t : α} (h : l[k]? = some r) (h' : m[k]? = some t) : (l.drop k = m.drop k) ↔ (r = t ∧ l.drop (k + 1) = m.drop (k + 1)) := by
  obtain ⟨a, b⟩ := List.getElem?_eq_some_iff.1 h
  obtain ⟨a', b'⟩ := List.getElem?_eq_some_iff.1 h'
  rw [List.drop_eq_getElem_cons a, List.drop_eq_getElem_cons a', b, b', List.cons.injEq]
set_option maxHeartbeats 1000000 in
theorem ref_sameRects (l m : List Rect) (hN : l.length ≤ 140737488355328) : ACalls C 19 [.pv (rects l), .pv (rects m)] (.p (bool (decide (l = m)))) [] := by
  refine fun_go hC Tryz.func19 rfl rfl 26 rfl (by decide) (by kernel_rfl) fun _ _ _ _ _ => ?_
  have lm := len_map l rc
  have mm := len_map m rc
  (refine yS (yA rfl (yT (zw_s (yS (yP rfl (yP rfl (yP rfl (yP rfl (yP rfl (yT (zw_c rfl ?_))))))))))); refine bcase_split (fun h0 => ?_) (fun h0 => ?_) <;> try simp only [zB] at h0)
  · rw [lm, mm] at h0
    (refine yS (yA rfl (yT (zw_r (zt_r (ze_r zi ?_))))); refine And.intro ?_ trivial)
    rw [decide_eq_false (fun e : l = m => h0 (by rw [e]))]
    rfl
  · rw [lm, mm] at h0
    refine zw_k (zt_n (zw_s (yS (yA rfl (yT (zw_b ?_))))))
    refine loop_ok' (fun i : Nat => i ≤ l.length ∧ (l = m ↔ l.drop i = m.drop i)) (fun i => [(0, .p (rects l)), (1, .p (rects m)), (5, .p (i64 i))]) (fun _ => []) (fun i => l.length - i) 0 _ (SLe.refl _ _) ⟨Nat.zero_le _, Iff.rfl⟩ ⟨rfl, rfl, rfl, trivial⟩ trivial fun i hi t h => ?_
    (refine zw_s (yS (yP rfl (yP rfl (yP rfl (yP rfl (yT (zw_c rfl ?_))))))); refine bcase_split (fun h1 => ?_) (fun h1 => ?_) <;> try simp only [zB] at h1)
    · rw [lm] at h1
      obtain ⟨r, hr⟩ := get_of (l := l) (i := i) (by omega)
      obtain ⟨q, hq⟩ := get_of (l := m) (i := i) (by omega)
      have hs := drop_same hr hq
      (refine zw_k (zt_n (zw_s (zw_b (zw_s (zw_d false [true, true, true, true, true, true, true, true, true] rfl (by kernel_rfl) (zp_q rfl (yD rfl (yD rfl (dq rfl (zqX zI ?_)))))))))); refine ⟨(rc r), (idx rfl hr), ?_⟩)
      (refine zkd (zst_p (yD rfl (yD rfl (yD rfl (dq rfl (zqX zI ?_)))))); refine ⟨(rc q), (idx rfl hq), ?_⟩)
      have he := Reg.Rect.ext_iff' r q
      (refine zkd (zst_p (yD rfl (yD rfl (zd_0 (zr_q rfl (zt_n (zw_c rfl ?_))))))); refine bcase_split (fun h2 => ?_) (fun h2 => ?_) <;> try simp only [zB] at h2)
      · (refine yS (yA rfl (yT (zw_r (zb_r (zt_r (zt_r (zb_r (zt_r (ze_r zi ?_))))))))); refine And.intro ?_ trivial)
        rw [decide_eq_false]; rfl
        rw [hi.2, hs, he]
        simp only [Bool.and_eq_false_iff, decide_eq_false_iff_not] at h2
        intro ⟨⟨e1, e2, e3, e4⟩, _⟩
        simp [e1, e2, e3, e4] at h2
      · (refine zw_k (zb_n (zt_n (zw_o (yP rfl (yq rfl (zqA zI ?_)))))); refine And.intro ⟨by omega, by omega⟩ ?_)
        (refine yk (yA rfl (yT (zaf_raw ?_))); refine ⟨(i + 1), _, SLe.refl _ _, ?_⟩)
        refine ⟨⟨by omega, ?_⟩, by omega, ⟨rfl, rfl, rfl, trivial⟩, trivial⟩
        rw [hi.2, hs, he]
        simp [decide_eq_true_eq] at h2
        exact and_iff_right h2
    · (refine zw_x (zt_x (zt_x (zb_h (zt_n (yS (yA rfl (yR zi ?_))))))); refine And.intro ?_ trivial)
      rw [lm] at h1
      rw [decide_eq_true]; rfl
      rw [hi.2, List.drop_of_length_le (by omega), List.drop_of_length_le (by omega)]
end Go.Proofs.YthjfllfhagdnpaaGreatDoor.M
namespace Go.Proofs.YthjfllfhagdnpaaGreatDoor.M
open Go.AM Go.RowKit
open Reg (Rect Spans)

theorem joined_past {l : Spans} {a b : Int} : ∀ (k : Nat), (∀ i p, i < k → l[i]? = some p → p.2 < a) → k ≤ l.length → Reg.joined l a b = l.take k ++ Reg.joined (l.drop k) a b := by
  induction l with
  | nil => intro k _ hk; simp at hk; subst hk; simp
  | cons p l ih =>
    intro k h hk
    cases k with
    | zero => simp
    | succ k =>
      have hp : p.2 < a := h 0 p (by omega) rfl
      rw [Reg.joined, if_pos hp, ih k (fun i q hi hq => h (i + 1) q (by omega) (by simpa using hq)) (by simpa using hk)]
      simp
theorem joined_absorb {l : Spans} {a b : Int} (h : ∀ p, l[0]? = some p → ¬ (p.2 < a)) : Reg.joined l a b = Reg.absorb l a b := by
  cases l with
  | nil => rfl
  | cons p l => rw [Reg.joined, if_neg (h p rfl)]
theorem heights_length (l : List Rect) : (Reg.heights l).length ≤ 2 * l.length := by
  unfold Reg.heights
  suffices h : ∀ (o : List Int), (l.foldl (fun out r => Reg.put (Reg.put out r.y0) r.y1) o).length ≤ o.length + 2 * l.length by
    have := h []
    simpa using this
  induction l with
  | nil => intro o; simp
  | cons r l ih =>
    intro o
    have h1 := ih (Reg.put (Reg.put o r.y0) r.y1)
    have h2 := put_length r.y0 o
    have h3 := put_length r.y1 (Reg.put o r.y0)
    simp only [List.foldl_cons, List.length_cons]
    omega
set_option maxRecDepth 100000 in
set_option maxHeartbeats 1000000 in
theorem ref_heights (l : List Rect) (hN : l.length ≤ 400000) : ACalls C 225 [.pv (rects l)] (.p (ints (Reg.heights l))) [] := by
  refine fun_go hC Tryz.func225 rfl rfl 25 rfl (by decide) (by kernel_rfl) fun _ _ _ _ _ => ?_
  have lm := len_map l rc
  refine yS (yB rfl (yU (yB rfl (yT (zw_s (yS (yA rfl (yT (zw_b ?_)))))))))
  refine loop_ok' (fun i : Nat => i ≤ l.length) (fun i => [(0, .p (rects l)), (3, .p (ints (Reg.heights (l.take i)))), (4, .p (i64 i))]) (fun _ => []) (fun i => l.length - i) 0 _ (SLe.nil hC _ 3 rfl) (Nat.zero_le _) ⟨rfl, rfl, rfl, trivial⟩ trivial fun i hi t h => ?_
  (refine zw_s (yS (yP rfl (yP rfl (yP rfl (yP rfl (yT (zw_c rfl ?_))))))); refine bcase_split (fun h1 => ?_) (fun h1 => ?_) <;> try simp only [zB] at h1)
  · rw [lm] at h1
    obtain ⟨r, hr⟩ := get_of (l := l) (i := i) (by omega)
    have hL := heights_length (l.take i)
    have hL2 := List.length_take_le i l
    ((refine zw_k (zt_n (zw_s (zw_b (zw_d false [true, true, true, true, true, true, true, true, true, true, true, true, true, true] rfl (by kernel_rfl) (zp_s rfl (zp_s rfl (zp_s rfl (zp_s rfl (zp_s rfl (zp_s rfl (zp_n rfl rfl (zp_s rfl (zp_s rfl ?_))))))))))))); refine zp_s rfl (zp_s rfl (zp_s rfl (zp_n rfl rfl (zp_q rfl (yD rfl (yD rfl (yD rfl (dq rfl (zqX zI ?_)))))))))); refine ⟨(rc r), (idx rfl hr), ?_⟩)
    have hL3 := put_length r.y0 (Reg.heights (l.take i))
    (refine zkd (zst_p (yD rfl (yD rfl (dq rfl (zqX zI ?_))))); refine ⟨_, _, (ref_put _ r.y0 (heights_rising _) (by omega)), ?_⟩)
    (refine zkd (zst_p (yD rfl (yD rfl (dq rfl (zqX zI ?_))))); refine ⟨(rc r), (idx rfl hr), ?_⟩)
    (refine zkd (zst_p (yD rfl (yD rfl (dq rfl (zqX zI ?_))))); refine ⟨_, _, (ref_put _ r.y1 (Reg.rising_put _ _ (heights_rising _)) (by omega)), ?_⟩)
    ((refine zkd (zst_p (yD rfl (zd_0 (zr_s rfl (zr_s rfl (zr_s rfl (zr_s rfl (zr_s rfl (zr_s rfl (zr_s rfl (zr_s rfl (zr_s rfl (zr_s rfl ?_))))))))))))); refine zr_s rfl (zr_s rfl (zr_s rfl (zr_k rfl rfl (zr_q rfl (zb_n (zt_n (zw_o (yP rfl (yq rfl (zqA zI ?_))))))))))); refine And.intro ⟨by omega, by omega⟩ ?_)
    (refine yk (yA rfl (yT (zaf_raw ?_))); refine ⟨(i + 1), _, SLe.refl _ _, ?_⟩)
    refine ⟨by omega, by omega, ⟨rfl, ?_, rfl, trivial⟩, trivial⟩
    rw [heights_step hr]
    rfl
  · rw [lm] at h1
    (refine zw_x (zt_x (zt_x (zb_h (zt_n (yS (yP rfl (yA rfl (yR zi ?_)))))))); refine And.intro ?_ trivial)
    rw [List.take_of_length_le (by omega)]
theorem sp_inj (a b : Int × Int) : a = b ↔ a.1 = b.1 ∧ a.2 = b.2 := Prod.ext_iff
set_option maxRecDepth 100000 in
set_option maxHeartbeats 1000000 in
theorem ref_sameSpans (l m : Spans) (hN : l.length ≤ 140737488355328) : ACalls C 306 [.pv (spans l), .pv (spans m)] (.p (bool (decide (l = m)))) [] := by
  refine fun_go hC Tryz.func306 rfl rfl 26 rfl (by decide) (by kernel_rfl) fun _ _ _ _ _ => ?_
  have lm := len_map l sp
  have mm := len_map m sp
  (refine yS (yA rfl (yT (zw_s (yS (yP rfl (yP rfl (yP rfl (yP rfl (yP rfl (yT (zw_c rfl ?_))))))))))); refine bcase_split (fun h0 => ?_) (fun h0 => ?_) <;> try simp only [zB] at h0)
  · rw [lm, mm] at h0
    (refine yS (yA rfl (yT (zw_r (zt_r (ze_r zi ?_))))); refine And.intro ?_ trivial)
    rw [decide_eq_false (fun e : l = m => h0 (by rw [e]))]
    rfl
  · rw [lm, mm] at h0
    refine zw_k (zt_n (zw_s (yS (yA rfl (yT (zw_b ?_))))))
    refine loop_ok' (fun i : Nat => i ≤ l.length ∧ (l = m ↔ l.drop i = m.drop i)) (fun i => [(0, .p (spans l)), (1, .p (spans m)), (5, .p (i64 i))]) (fun _ => []) (fun i => l.length - i) 0 _ (SLe.refl _ _) ⟨Nat.zero_le _, Iff.rfl⟩ ⟨rfl, rfl, rfl, trivial⟩ trivial fun i hi t h => ?_
    (refine zw_s (yS (yP rfl (yP rfl (yP rfl (yP rfl (yT (zw_c rfl ?_))))))); refine bcase_split (fun h1 => ?_) (fun h1 => ?_) <;> try simp only [zB] at h1)
    · rw [lm] at h1
      obtain ⟨r, hr⟩ := get_of (l := l) (i := i) (by omega)
      obtain ⟨q, hq⟩ := get_of (l := m) (i := i) (by omega)
      have hs := drop_same hr hq
      (refine zw_k (zt_n (zw_s (zw_b (zw_s (zw_d false [true, true, true, true, true, true, true, true, true] rfl (by kernel_rfl) (zp_q rfl (yD rfl (yD rfl (dq rfl (zqX zI ?_)))))))))); refine ⟨(sp r), (idx rfl hr), ?_⟩)
      (refine zkd (zst_p (yD rfl (yD rfl (yD rfl (dq rfl (zqX zI ?_)))))); refine ⟨(sp q), (idx rfl hq), ?_⟩)
      have he := sp_inj r q
      (refine zkd (zst_p (yD rfl (yD rfl (zd_0 (zr_q rfl (zt_n (zw_c rfl ?_))))))); refine bcase_split (fun h2 => ?_) (fun h2 => ?_) <;> try simp only [zB] at h2)
      · (refine yS (yA rfl (yT (zw_r (zb_r (zt_r (zt_r (zb_r (zt_r (ze_r zi ?_))))))))); refine And.intro ?_ trivial)
        rw [decide_eq_false]; rfl
        rw [hi.2, hs, he]
        simp only [Bool.and_eq_false_iff, decide_eq_false_iff_not] at h2
        intro ⟨⟨e1, e2⟩, _⟩
        simp [e1, e2] at h2
      · (refine zw_k (zb_n (zt_n (zw_o (yP rfl (yq rfl (zqA zI ?_)))))); refine And.intro ⟨by omega, by omega⟩ ?_)
        (refine yk (yA rfl (yT (zaf_raw ?_))); refine ⟨(i + 1), _, SLe.refl _ _, ?_⟩)
        refine ⟨⟨by omega, ?_⟩, by omega, ⟨rfl, rfl, rfl, trivial⟩, trivial⟩
        rw [hi.2, hs, he]
        simp [decide_eq_true_eq] at h2
        exact and_iff_right h2
    · (refine zw_x (zt_x (zt_x (zb_h (zt_n (yS (yA rfl (yR zi ?_))))))); refine And.intro ?_ trivial)
      rw [lm] at h1
      rw [decide_eq_true]; rfl
      rw [hi.2, List.drop_of_length_le (by omega), List.drop_of_length_le (by omega)]
theorem sp_rows (l : Spans) : ∀ r ∈ l.map sp, r.length = 2 := by
  intro r hr
  obtain ⟨n, _, rfl⟩ := List.mem_map.1 hr
  rfl
theorem absorb_step {l : Spans} {k : Nat} {p : Int × Int} {a b : Int} (h : l[k]? = some p) : Reg.absorb (l.drop k) a b = if p.1 ≤ b then Reg.absorb (l.drop (k + 1)) (min a p.1) (max b p.2) else (a, b) :: l.drop k := by
  obtain ⟨h1, h2⟩ := List.getElem?_eq_some_iff.1 h
  rw [List.drop_eq_getElem_cons h1, h2]
  rfl
set_option maxRecDepth 100000 in
set_option maxHeartbeats 1000000 in
theorem ref_joined (l : Spans) (a b : Int) (hN : l.length ≤ 1000000) : ACalls C 307 [.pv (spans l), .pv (.ag (sp (a, b)))] (.p (spans (Reg.joined l a b))) [] := by
  refine fun_go hC Tryz.func307 rfl rfl 73 rfl (by decide) (by kernel_rfl) fun _ _ _ _ _ => ?_
  have lm := len_map l sp
  refine yS (yn rfl (zq1 zI (zkns (zst_bx (yB rfl (yU (yB rfl (yU (yA rfl (yT (zw_s (zw_b ?_))))))))))))
  refine cutB' (fun i : Nat => i ≤ l.length ∧ Reg.joined l a b = l.take i ++ Reg.absorb (l.drop i) a b) (fun i => [(0, .p (spans l)), (3, .bx 3 0), (5, .ow 5), (6, .p (i64 i))]) (fun i => [(3, .box [.p (i64 a), .p (i64 b)]), (5, .row 345 ((l.take i).map sp))]) (fun i hi t h => ?_) ?_
  · obtain ⟨hi1, hi2⟩ := hi
    have lt := List.length_take_le i l
    refine zt_n (zw_s (zw_b ?_))
    refine cutB' (fun y : Nat × Int × Int => y.1 ≤ l.length ∧ Reg.joined l a b = l.take i ++ (y.2.1, y.2.2) :: l.drop y.1) (fun y => [(0, .p (spans l)), (3, .bx 3 0), (5, .ow 5), (6, .p (i64 y.1))]) (fun y => [(3, .box [.p (i64 y.2.1), .p (i64 y.2.2)]), (5, .row 345 ((l.take i).map sp))]) (fun y hy t h => ?_) ?_
    · obtain ⟨k, a', b'⟩ := y
      obtain ⟨hy1, hy2⟩ := hy
      simp only at hy1 hy2
      (refine zt_n (yS (yq rfl (zq1 zI (zkq (zst_ow (yP rfl (yn rfl (zq1 zI (zkns (zst_ow (yn rfl (zqA zI ?_)))))))))))); refine And.intro ⟨by simp, by simp; omega, by simp; omega⟩ ?_)
      (refine zkns (zst_e (zst_ow (zo_n rfl (zs_ar rfl rfl rfl rfl rfl (yU (yq rfl (zq1 zI (zkq (zst_ow (yP rfl (yP rfl (yq rfl (zqA zI ?_))))))))))))); refine And.intro ⟨by omega, by rw [lm]; omega, by omega, sp_rows l⟩ ?_)
      (refine yk (yn rfl (zqA zI ?_)); refine And.intro ⟨rows_cut (sp_rows l), by simp [lm]; omega, by simp [lm]; omega⟩ ?_)
      (refine zkns (zst_e (zst_ow (zo_n rfl (zs_ar rfl rfl rfl rfl rfl (yR zi ?_))))); refine And.intro ?_ trivial)
      rw [hy2]
      simp [spans, List.map_take, List.map_drop, sp, i64]
      rw [List.take_of_length_le (by simp)]
    · refine loop_ok' (fun y : Nat × Int × Int => y.1 ≤ l.length ∧ Reg.joined l a b = l.take i ++ Reg.absorb (l.drop y.1) y.2.1 y.2.2) (fun y => [(0, .p (spans l)), (3, .bx 3 0), (5, .ow 5), (6, .p (i64 y.1))]) (fun y => [(3, .box [.p (i64 y.2.1), .p (i64 y.2.2)]), (5, .row 345 ((l.take i).map sp))]) (fun y => l.length - y.1) (i, a, b) _ (SLe.refl _ _) ⟨hi1, hi2⟩ ⟨rfl, rfl, rfl, rfl, trivial⟩ ⟨rfl, rfl, trivial⟩ fun y hy t h => ?_
      obtain ⟨k, a', b'⟩ := y
      obtain ⟨hy1, hy2⟩ := hy
      simp only at hy1 hy2
      (refine zw_s (zw_s (zw_d false [true, true, true, true, true, true, true, true, true, true, true, true, true, true] rfl (by kernel_rfl) (zp_q rfl (yD rfl (yD rfl (yD rfl (yD rfl (yD rfl (dg rfl ?_))))))))); refine bcase_split (fun h1 => ?_) (fun h1 => ?_) <;> try simp only [zB] at h1)
      · rw [lm] at h1
        obtain ⟨r, hr⟩ := get_of (l := l) (i := k) (by omega)
        have hs := absorb_step (a := a') (b := b') hr
        (refine zg_t (zd_q rfl (zq1 zI (zkd (zst_p (d1 rfl (d2 rfl (zd_q rfl (zqX zI ?_)))))))); refine ⟨(sp r), (idx rfl hr), ?_⟩)
        ((refine zkd (zst_p (d1 rfl (d1 rfl (d2 rfl (zd_q rfl (zq1 zI (zkd (zst_bx (d1 rfl (d1 rfl (yD rfl (zd_0 (zr_q rfl ?_))))))))))))); refine zt_n (zw_c rfl ?_)); refine bcase_split (fun h2 => ?_) (fun h2 => ?_) <;> try simp only [zB] at h2)
        · rw [if_pos h2] at hs
          (refine zw_k (zt_n (zw_b (zw_s (zw_d false [true, true, true, true, true, true, true, true, true, true, true, true, false, true, false, true, true, true, true, true] rfl (by kernel_rfl) (zp_q rfl (yW rfl (yD rfl (yD rfl (yD rfl (dq rfl (zqX zI ?_))))))))))); refine ⟨(sp r), (idx rfl hr), ?_⟩)
          (refine zkd (zst_p (yD rfl (yD rfl (yD rfl (yW rfl (yD rfl (yD rfl (yD rfl (dq rfl (zqX zI ?_)))))))))); refine ⟨(sp r), (idx rfl hr), ?_⟩)
          ((refine zkd (zst_p (yD rfl (yD rfl (yD rfl (yW rfl (dq rfl (zq1 zI (zkde rfl (zst_e (zst_0 (yW rfl (dq rfl (zq1 zI ?_))))))))))))); refine zkde rfl (zst_e (zst_0 (zd_0 (zr_q rfl (zt_n (zw_o (yP rfl (yq rfl (zqA zI ?_)))))))))); refine And.intro ⟨by omega, by omega⟩ ?_)
          (refine yk (yA rfl (zo_0 (zb_n (zt_n (zaf_raw ?_))))); refine ⟨(k + 1, min a' r.1, max b' r.2), _, SLe.refl _ _, ?_⟩)
          exact ⟨⟨by simp only; omega, by rw [hy2, hs]⟩, by simp only; omega, ⟨rfl, rfl, rfl, rfl, trivial⟩, ⟨rfl, rfl, trivial⟩⟩
        · rw [if_neg h2] at hs
          refine zw_x (zt_x (zt_x (zb_h (zt_n (zaf_raw (zX zi ?_))))))
          exact ⟨(k, a', b'), ⟨hy1, by rw [hy2, hs]⟩, ⟨rfl, rfl, rfl, rfl, trivial⟩, ⟨rfl, rfl, trivial⟩⟩
      · rw [lm] at h1
        (refine zg_f (zst_p (d0 rfl (d0 rfl (d0 rfl (d0 rfl (d0 rfl (d0 rfl (d0 rfl (yD rfl (zd_0 (zr_q rfl (zt_n (zw_c rfl ?_))))))))))))); refine zc_f (zw_x (zt_x (zt_x (zb_h (zt_n (zaf_raw (zX zi ?_))))))))
        refine ⟨(k, a', b'), ⟨hy1, ?_⟩, ⟨rfl, rfl, rfl, rfl, trivial⟩, ⟨rfl, rfl, trivial⟩⟩
        rw [hy2, List.drop_of_length_le (show l.length ≤ k by omega)]
        rfl
  · refine loop_ok' (fun i : Nat => i ≤ l.length ∧ ∀ k p, k < i → l[k]? = some p → p.2 < a) (fun i => [(0, .p (spans l)), (3, .bx 3 0), (5, .ow 5), (6, .p (i64 i))]) (fun i => [(3, .box [.p (i64 a), .p (i64 b)]), (5, .row 345 ((l.take i).map sp))]) (fun i => l.length - i) 0 _ (SLe.nilRow hC _ 5 345 _ (by decide) rfl rfl (by decide)) ⟨Nat.zero_le _, fun k p h => by omega⟩ ⟨rfl, rfl, rfl, rfl, trivial⟩ ⟨rfl, rfl, trivial⟩ fun i hi t h => ?_
    have lt := List.length_take_le i l
    (refine zw_s (zw_s (zw_d false [true, true, true, true, true, true, true, true, true, true, true, true, true, true] rfl (by kernel_rfl) (zp_q rfl (yD rfl (yD rfl (yD rfl (yD rfl (yD rfl (dg rfl ?_))))))))); refine bcase_split (fun h1 => ?_) (fun h1 => ?_) <;> try simp only [zB] at h1)
    · rw [lm] at h1
      obtain ⟨r, hr⟩ := get_of (l := l) (i := i) (by omega)
      (refine zg_t (zd_q rfl (zq1 zI (zkd (zst_p (d1 rfl (d2 rfl (zd_q rfl (zqX zI ?_)))))))); refine ⟨(sp r), (idx rfl hr), ?_⟩)
      ((refine zkd (zst_p (d1 rfl (d1 rfl (d2 rfl (zd_q rfl (zq1 zI (zkd (zst_bx (d1 rfl (d1 rfl (yD rfl (zd_0 (zr_q rfl ?_))))))))))))); refine zt_n (zw_c rfl ?_)); refine bcase_split (fun h2 => ?_) (fun h2 => ?_) <;> try simp only [zB] at h2)
      · (refine zw_k (zt_n (zw_b (yS (yq rfl (zq1 zI (zkq (zst_ow (yP rfl (yP rfl (yq rfl (zqX zI ?_))))))))))); refine ⟨(sp r), (idx rfl hr), ?_⟩)
        (refine yk (yP rfl (yn rfl (zq1 zI (zkns (zst_ow (yn rfl (zqA zI ?_))))))); refine And.intro ⟨by simp [sp], by simp; omega, by simp; omega⟩ ?_)
        (refine zkns (zst_e (zst_ow (zo_n rfl (zs_ar rfl rfl rfl rfl rfl (yT (zw_o (yP rfl (yq rfl (zqA zI ?_))))))))); refine And.intro ⟨by omega, by omega⟩ ?_)
        (refine yk (yA rfl (zo_0 (zb_n (zt_n (zaf_raw ?_))))); refine ⟨(i + 1), _, SLe.refl _ _, ?_⟩)
        refine ⟨⟨by omega, fun k p hk hp => ?_⟩, by omega, ⟨rfl, rfl, rfl, rfl, trivial⟩, ⟨rfl, ?_, trivial⟩⟩
        · by_cases e : k = i
          · subst e; rw [hr] at hp; injection hp with hp; rw [← hp]; exact h2
          · exact hi.2 k p (by omega) hp
        · rw [take_succ' hr, List.map_append]; rfl
      · refine zw_x (zt_x (zt_x (zb_h (zt_n (zaf_raw (zX zi ?_))))))
        refine ⟨i, ⟨hi.1, ?_⟩, ⟨rfl, rfl, rfl, rfl, trivial⟩, ⟨rfl, rfl, trivial⟩⟩
        rw [joined_past i hi.2 hi.1, joined_absorb]
        intro p hp
        rw [List.getElem?_drop, Nat.add_zero, hr] at hp
        injection hp with hp
        rw [← hp]; exact h2
    · rw [lm] at h1
      (refine zg_f (zst_p (d0 rfl (d0 rfl (d0 rfl (d0 rfl (d0 rfl (d0 rfl (d0 rfl (yD rfl (zd_0 (zr_q rfl (zt_n (zw_c rfl ?_))))))))))))); refine zc_f (zw_x (zt_x (zt_x (zb_h (zt_n (zaf_raw (zX zi ?_))))))))
      refine ⟨i, ⟨hi.1, ?_⟩, ⟨rfl, rfl, rfl, rfl, trivial⟩, ⟨rfl, rfl, trivial⟩⟩
      rw [joined_past i hi.2 hi.1, joined_absorb]
      intro p hp
      rw [List.getElem?_eq_none (by simp; omega)] at hp
      cases hp
end Go.Proofs.YthjfllfhagdnpaaGreatDoor.M
namespace Go.Proofs.YthjfllfhagdnpaaGreatDoor.M
open Go.AM Go.RowKit
open Reg (Rect Spans Band)

theorem absorb_length : ∀ (l : Spans) (a b : Int), (Reg.absorb l a b).length ≤ l.length + 1 := by
  intro l
  induction l with
  | nil => intro a b; simp [Reg.absorb]
  | cons p l ih =>
    intro a b
    rw [Reg.absorb]
    split
    · have := ih (min a p.1) (max b p.2)
      simp only [List.length_cons]; omega
    · simp
theorem joined_length : ∀ (l : Spans) (a b : Int), (Reg.joined l a b).length ≤ l.length + 1 := by
  intro l
  induction l with
  | nil => intro a b; simp [Reg.joined]
  | cons p l ih =>
    intro a b
    rw [Reg.joined]
    split
    · have := ih a b
      simp only [List.length_cons]; omega
    · exact absorb_length _ a b
theorem row_step {l : List Rect} {i : Nat} {r : Rect} (y : Int) (h : l[i]? = some r) : Reg.rowOf (l.take (i + 1)) y = if r.y0 ≤ y ∧ y < r.y1 then Reg.joined (Reg.rowOf (l.take i) y) r.x0 r.x1 else Reg.rowOf (l.take i) y := by
  rw [take_succ' h]
  unfold Reg.rowOf
  rw [List.filter_append, List.foldl_append]
  by_cases hc : r.y0 ≤ y ∧ y < r.y1
  · rw [if_pos hc]
    simp [hc.1, hc.2]
  · rw [if_neg hc]
    have : (decide (r.y0 ≤ y) && decide (y < r.y1)) = false := by simpa using fun h1 h2 => hc ⟨h1, h2⟩
    simp [this]
theorem row_length (l : List Rect) (y : Int) : ∀ i, i ≤ l.length → (Reg.rowOf (l.take i) y).length ≤ i := by
  intro i
  induction i with
  | zero => intro _; simp [Reg.rowOf]
  | succ i ih =>
    intro hi
    obtain ⟨r, hr⟩ := get_of (l := l) (i := i) (by omega)
    rw [row_step y hr]
    have h1 := ih (by omega)
    have h2 := joined_length (Reg.rowOf (l.take i) y) r.x0 r.x1
    split <;> omega
theorem rowOf_length (l : List Rect) (y : Int) : (Reg.rowOf l y).length ≤ l.length := by
  have := row_length l y l.length (Nat.le_refl _)
  rwa [List.take_length] at this
set_option maxRecDepth 100000 in
set_option maxHeartbeats 1000000 in
theorem ref_row (l : List Rect) (y : Int) (hN : l.length ≤ 1000000) : ACalls C 227 [.pv (rects l), .pv (i64 y)] (.p (spans (Reg.rowOf l y))) [] := by
  refine fun_go hC Tryz.func227 rfl rfl 43 rfl (by decide) (by kernel_rfl) fun _ _ _ _ _ => ?_
  have lm := len_map l rc
  refine yS (yB rfl (yU (yB rfl (yT (zw_s (yS (yA rfl (yT (zw_b ?_)))))))))
  refine loop_ok' (fun i : Nat => i ≤ l.length) (fun i => [(0, .p (rects l)), (1, .p (i64 y)), (5, .p (spans (Reg.rowOf (l.take i) y))), (6, .p (i64 i))]) (fun _ => []) (fun i => l.length - i) 0 _ (SLe.nil hC _ 5 rfl) (Nat.zero_le _) ⟨rfl, rfl, rfl, rfl, trivial⟩ trivial fun i hi t h => ?_
  (refine zw_s (yS (yP rfl (yP rfl (yP rfl (yP rfl (yT (zw_c rfl ?_))))))); refine bcase_split (fun h1 => ?_) (fun h1 => ?_) <;> try simp only [zB] at h1)
  · rw [lm] at h1
    obtain ⟨r, hr⟩ := get_of (l := l) (i := i) (by omega)
    have hs := row_step y hr
    have hL := row_length l y i hi
    (refine zw_k (zt_n (zw_s (zw_b (yS (yP rfl (yP rfl (yq rfl (zqX zI ?_)))))))); refine ⟨(rc r), (idx rfl hr), ?_⟩)
    (refine yk (yP rfl (yP rfl (yP rfl (yP rfl (yP rfl (yg rfl ?_)))))); refine bcase_split (fun h2 => ?_) (fun h2 => ?_) <;> try simp only [zB] at h2)
    · (refine zg_t (zs_q rfl rfl (zq1 zI (yk (y1 rfl (y1 rfl (y2 rfl (zs_q rfl rfl (zqX zI ?_)))))))); refine ⟨(rc r), (idx rfl hr), ?_⟩)
      (refine yk (y1 rfl (y1 rfl (y1 rfl (yP rfl (yT (zw_c rfl ?_)))))); refine bcase_split (fun h3 => ?_) (fun h3 => ?_) <;> try simp only [zB] at h3)
      · rw [if_pos ⟨h2, h3⟩] at hs
        ((refine zw_d false [true, true, true, true, true, true, true, true, true, true, true, true, true, true] rfl (by kernel_rfl) (zp_s rfl (zp_s rfl (zp_s rfl (zp_s rfl (zp_s rfl (zp_s rfl (zp_s rfl (zp_s rfl (zp_s rfl (zp_s rfl (zp_s rfl (zp_s rfl (zp_n rfl rfl ?_))))))))))))); refine zp_q rfl (yD rfl (yD rfl (yD rfl (dq rfl (zqX zI ?_)))))); refine ⟨(rc r), (idx rfl hr), ?_⟩)
        (refine zkd (zst_p (yD rfl (yD rfl (yD rfl (yD rfl (dq rfl (zqX zI ?_))))))); refine ⟨(rc r), (idx rfl hr), ?_⟩)
        (refine zkd (zst_p (yD rfl (yD rfl (yD rfl (dq rfl (zqX zI ?_)))))); refine ⟨_, _, (ref_joined _ r.x0 r.x1 (by omega)), ?_⟩)
        ((refine zkd (zst_p (yD rfl (zd_0 (zr_s rfl (zr_s rfl (zr_s rfl (zr_s rfl (zr_s rfl (zr_s rfl (zr_s rfl (zr_s rfl (zr_s rfl (zr_s rfl ?_))))))))))))); refine zr_s rfl (zr_s rfl (zr_s rfl (zr_k rfl rfl (zr_q rfl (zb_n (zt_n (zw_o (yP rfl (yq rfl (zqA zI ?_))))))))))); refine And.intro ⟨by omega, by omega⟩ ?_)
        (refine yk (yA rfl (yT (zaf_raw ?_))); refine ⟨(i + 1), _, SLe.refl _ _, ?_⟩)
        exact ⟨by omega, by omega, ⟨rfl, rfl, by rw [hs]; rfl, rfl, trivial⟩, trivial⟩
      · rw [if_neg (fun h => h3 h.2)] at hs
        (refine zw_k (zb_n (zt_n (zw_o (yP rfl (yq rfl (zqA zI ?_)))))); refine And.intro ⟨by omega, by omega⟩ ?_)
        (refine yk (yA rfl (yT (zaf_raw ?_))); refine ⟨(i + 1), _, SLe.refl _ _, ?_⟩)
        exact ⟨by omega, by omega, ⟨rfl, rfl, by rw [hs]; rfl, rfl, trivial⟩, trivial⟩
    · rw [if_neg (fun h => h2 h.1)] at hs
      ((refine zg_f (zst_p (y0 rfl (y0 rfl (y0 rfl (y0 rfl (y0 rfl (y0 rfl (yP rfl (yT (zw_c rfl (zc_f (zw_k (zb_n ?_))))))))))))); refine zt_n (zw_o (yP rfl (yq rfl (zqA zI ?_))))); refine And.intro ⟨by omega, by omega⟩ ?_)
      (refine yk (yA rfl (yT (zaf_raw ?_))); refine ⟨(i + 1), _, SLe.refl _ _, ?_⟩)
      exact ⟨by omega, by omega, ⟨rfl, rfl, by rw [hs]; rfl, rfl, trivial⟩, trivial⟩
  · rw [lm] at h1
    (refine zw_x (zt_x (zt_x (zb_h (zt_n (yS (yP rfl (yA rfl (yR zi ?_)))))))); refine And.intro ?_ trivial)
    rw [List.take_of_length_le (by omega)]
set_option maxRecDepth 100000 in
theorem ref_hasPoint (l : List Rect) (x y : Int) (hN : l.length ≤ 1000000) : ACalls C 188 [.pv (rects l), .pv (.ag [i64 x, i64 y])] (.p (bool (insideB (Reg.rowOf l y) x))) [] := by
  refine fun_go hC Tryz.func188 rfl rfl 12 rfl (by decide) (by kernel_rfl) fun _ _ _ _ _ => ?_
  have hL := rowOf_length l y
  ((refine yS (yn rfl (zq1 zI (zkns (zst_bx (yA rfl (yT (zw_s (zw_d false [true, true, true, true, true, true, true, true] rfl (by kernel_rfl) (zp_s rfl (zp_s rfl (zp_s rfl (zp_n rfl rfl (zp_s rfl ?_))))))))))))); refine zp_s rfl (zp_n rfl rfl (zp_q rfl (yD rfl (yW rfl (yD rfl (dq rfl (zqX zI ?_)))))))); refine ⟨_, _, (ref_row l y hN), ?_⟩)
  (refine zkd (zst_p (yW rfl (yD rfl (dq rfl (zqX zI ?_))))); refine ⟨_, _, (ref_inside _ x (by omega)), ?_⟩)
  ((refine zkd (zst_p (yD rfl (zd_0 (zr_s rfl (zr_s rfl (zr_s rfl (zr_s rfl (zr_s rfl (zr_s rfl (zr_s rfl (zr_k rfl rfl (zr_q rfl (zt_n ?_))))))))))))); refine zw_r (ze_r zi ?_)); refine And.intro ?_ trivial)
  rfl
/-- bands by content -/
def bd (b : Band) : List PV := [i64 b.y0, i64 b.y1, spans b.xs]
theorem last_get {α : Type} {l : List α} {n : Nat} {x : α} (hn : l.length = n + 1) (h : l[n]? = some x) : l.getLast? = some x := by
  rw [List.getLast?_eq_getElem?, hn]
  exact h
set_option maxRecDepth 100000 in
set_option maxHeartbeats 1000000 in
theorem ref_stacked (l : List Band) (b : Band) (hN : l.length ≤ 1000000) (hX : ∀ t ∈ l, t.xs.length ≤ 1000000) : ACalls C 226 [.row 267 (l.map bd), .pv (.ag (bd b))] (.own 267 ((Reg.pushB l b).map bd)) [.gone] := by
  refine fun_go hC Tryz.func226 rfl rfl 49 rfl (by decide) (by kernel_rfl) fun _ _ _ _ _ => ?_
  have lm := len_map l bd
  have sm := len_map b.xs sp
  have done : ∀ z : List Band, z = Reg.pushB l b → AB.row 267 (z.map bd) = AB.row 267 ((Reg.pushB l b).map bd) := fun z e => by rw [e]
  ((refine yS (yn rfl (zq1 zI (zkns (zst_bx (yB rfl (yT (zw_s (yS (yV rfl (yP rfl (yP rfl (yP rfl (yT ?_))))))))))))); refine zw_c rfl ?_); refine bcase_split (fun h1 => ?_) (fun h1 => ?_) <;> try simp only [zB] at h1)
  · rw [sm] at h1
    have he : b.xs = [] := List.eq_nil_of_length_eq_zero (by omega)
    refine yS (yq rfl (zq1 zI (zkq (zst_ow (zo_n rfl (zs_ar rfl rfl rfl rfl rfl (yT (zw_r (zt_r (ze_r zi ?_))))))))))
    exact ⟨done l (by rw [Reg.pushB, if_pos he]), rfl, trivial⟩
  · rw [sm] at h1
    have he : b.xs ≠ [] := fun e => h1 (by rw [e]; rfl)
    have more : l ++ [b] = Reg.pushB l b → AB.row 267 (l.map bd ++ [bd b]) = AB.row 267 ((Reg.pushB l b).map bd) := fun e => by rw [← e, List.map_append]; rfl
    ((refine zw_k (zt_n (zw_s (yS (yq rfl (zq1 zI (zkq (zst_ow (yP rfl (yA rfl (yT (zw_s (zw_d false [true, true, true, true, true, true, true, true, true, true, true, true, true, true, true, true, true, true, true, true, true, true, true, true] rfl (by kernel_rfl) (zp_s rfl ?_))))))))))))); refine zp_s rfl (zp_s rfl (zp_s rfl (zp_s rfl (zp_s rfl (zp_s rfl (zp_s rfl (zp_s rfl (zp_s rfl (zp_s rfl (zp_s rfl (zp_s rfl (zp_s rfl (zp_s rfl ?_))))))))))))); refine zp_s rfl (zp_s rfl (zp_s rfl (zp_s rfl (zp_s rfl (zp_s rfl (zp_s rfl (zp_n rfl rfl (zp_q rfl (yD rfl (yD rfl (yD rfl (dg rfl ?_))))))))))))); refine bcase_split (fun h2 => ?_) (fun h2 => ?_) <;> try simp only [zB] at h2)
    · rw [lm] at h2
      obtain ⟨m, hm⟩ : ∃ m, l.length = m + 1 := ⟨l.length - 1, by omega⟩
      have hi : ((l.map bd).length : Int) - 1 = (m : Nat) := by rw [lm]; omega
      have hp : Reg.pushB l b = match l.getLast? with
        | some t => if t.y1 = b.y0 ∧ t.xs = b.xs then l.dropLast ++ [⟨t.y0, b.y1, t.xs⟩] else l ++ [b]
        | none => [b] := by rw [Reg.pushB, if_neg he]; rfl
      obtain ⟨t, ht⟩ := get_of (l := l) (i := m) (by omega)
      rw [last_get hm ht] at hp
      simp only at hp
      (refine zg_t (zd_q rfl (zq1 zI (zkd (zst_ow (d1 rfl (d2 rfl (zd_q rfl (zqA zI ?_)))))))); refine And.intro ⟨by rw [lm]; omega, by rw [lm]; omega⟩ ?_)
      (refine zkd (zst_p (d2 rfl (zd_q rfl (zqA zI ?_)))); refine And.intro ⟨by rw [hi]; omega, by rw [hi, lm]; omega⟩ ?_)
      (refine zkd (zst_rp (d2 rfl (zd_q rfl (zq1 zI (zkd (zst_rp (d2 rfl (zd_q rfl (zqX zI ?_))))))))); refine ⟨(bd t), (idx hi ht).2, ?_⟩)
      (refine zkd (zst_p (d2 rfl (zd_q rfl (zq1 zI (zkd (zst_bx (d1 rfl (d1 rfl (yD rfl (yD rfl (dg rfl ?_))))))))))); refine bcase_split (fun h3 => ?_) (fun h3 => ?_) <;> try simp only [zB] at h3)
      · (refine zg_t (zd_q rfl (zq1 zI (zkd (zst_ow (d1 rfl (d2 rfl (zd_q rfl (zqA zI ?_)))))))); refine And.intro ⟨by rw [lm]; omega, by rw [lm]; omega⟩ ?_)
        (refine zkd (zst_p (d2 rfl (zd_q rfl (zqA zI ?_)))); refine And.intro ⟨by rw [hi]; omega, by rw [hi, lm]; omega⟩ ?_)
        (refine zkd (zst_rp (d2 rfl (zd_q rfl (zq1 zI (zkd (zst_rp (d2 rfl (zd_q rfl (zqX zI ?_))))))))); refine ⟨(bd t), (idx hi ht).2, ?_⟩)
        (refine zkd (zst_p (d2 rfl (zd_q rfl (zq1 zI (zkd (zst_bx (d1 rfl (d2 rfl (zd_q rfl (zqX zI ?_)))))))))); refine ⟨_, _, (ref_sameSpans t.xs b.xs (by have := hX t (List.mem_of_getElem? ht); omega)), ?_⟩)
        (refine zkd (zst_p (yD rfl (zd_0 (zr_q rfl (zt_n (zw_c rfl ?_)))))); refine bcase_split (fun h4 => ?_) (fun h4 => ?_) <;> try simp only [zB] at h4)
        · (refine yS (yq rfl (zq1 zI (zkq (zst_ow (yP rfl (yq rfl (zqA zI ?_))))))); refine And.intro ⟨by rw [lm]; omega, by rw [lm]; omega⟩ ?_)
          (refine yk (yV rfl (yP rfl (yq rfl (zqA zI ?_)))); refine And.intro ⟨by rw [hi]; omega, by rw [hi, lm]; omega⟩ ?_)
          (refine zkq (zst_rp (yV rfl (yq rfl (zqX zI ?_)))); refine ⟨(bd t), (idx hi ht).2, ?_⟩)
          refine zkq (zst_e (zst_0 (yU (yq rfl (zq1 zI (zkq (zst_ow (zo_n rfl (zs_ar rfl rfl rfl rfl rfl (yT (zw_r (zt_r (ze_r zi ?_)))))))))))))
          rw [if_pos ⟨h3, h4⟩] at hp
          have hset : ∀ k : Nat, k = m → AB.row 267 ((l.map bd).set k [i64 t.y0, i64 b.y1, spans t.xs]) = AB.row 267 ((Reg.pushB l b).map bd) := by
            intro k e
            subst e
            rw [hp]
            obtain ⟨d, hd⟩ := List.getLast?_eq_some_iff.1 (last_get hm ht)
            subst hd
            have hk : k = d.length := by simp at hm; omega
            subst hk
            simp [bd]
          exact ⟨hset _ (by rw [hi]; rfl), rfl, trivial⟩
        · rw [if_neg (fun h => h4 h.2)] at hp
          (refine zw_k (zt_n (yS (yq rfl (zq1 zI (zkq (zst_ow (yP rfl (yn rfl (zq1 zI (zkns (zst_ow (yn rfl (zqA zI ?_))))))))))))); refine And.intro ⟨by simp, by simp; omega, by simp; omega⟩ ?_)
          refine zkns (zst_e (zst_ow (zo_n rfl (zs_ar rfl rfl rfl rfl rfl (yR zi ?_)))))
          exact ⟨more hp.symm, rfl, trivial⟩
      · rw [if_neg (fun h => h3 h.1)] at hp
        ((refine zg_f (zst_p (d0 rfl (d0 rfl (d0 rfl (d0 rfl (d0 rfl (d0 rfl (d0 rfl (d0 rfl (yD rfl (zd_0 (zr_q rfl (zt_n ?_))))))))))))); refine zw_c rfl (zc_f (zw_k (zt_n (yS (yq rfl (zq1 zI (zkq (zst_ow (yP rfl (yn rfl (zq1 zI (zkns (zst_ow ?_))))))))))))); refine yn rfl (zqA zI ?_)); refine And.intro ⟨by simp, by simp; omega, by simp; omega⟩ ?_)
        refine zkns (zst_e (zst_ow (zo_n rfl (zs_ar rfl rfl rfl rfl rfl (yR zi ?_)))))
        exact ⟨more hp.symm, rfl, trivial⟩
    · rw [lm] at h2
      have hl : l = [] := List.eq_nil_of_length_eq_zero (by omega)
      ((refine zg_f (zst_p (d0 rfl (d0 rfl (d0 rfl (d0 rfl (d0 rfl (d0 rfl (d0 rfl (d0 rfl (yD rfl (yD rfl (d0 rfl (d0 rfl ?_))))))))))))); refine d0 rfl (d0 rfl (d0 rfl (d0 rfl (d0 rfl (d0 rfl (d0 rfl (yD rfl (zd_0 (zr_q rfl (zt_n (zw_c rfl (zc_f (zw_k ?_))))))))))))); refine zt_n (yS (yq rfl (zq1 zI (zkq (zst_ow (yP rfl (yn rfl (zq1 zI (zkns (zst_ow (yn rfl (zqA zI ?_))))))))))))); refine And.intro ⟨by simp, by simp; omega, by simp; omega⟩ ?_)
      refine zkns (zst_e (zst_ow (zo_n rfl (zs_ar rfl rfl rfl rfl rfl (yR zi ?_)))))
      exact ⟨more (by subst hl; rw [Reg.pushB, if_neg he]; rfl), rfl, trivial⟩
theorem told_step {s : List Band} {i : Nat} {b : Band} (h : s[i]? = some b) : Reg.told (s.take (i + 1)) = Reg.told (s.take i) ++ b.xs.map fun p => ⟨p.1, b.y0, p.2, b.y1⟩ := by
  rw [take_succ' h]
  simp [Reg.told]
theorem told_length (s : List Band) (hX : ∀ t ∈ s, t.xs.length ≤ 1000000) : (Reg.told s).length ≤ s.length * 1000000 := by
  induction s with
  | nil => simp [Reg.told]
  | cons b s ih =>
    have h1 := hX b (by simp)
    have h2 := ih fun t ht => hX t (by simp [ht])
    simp only [Reg.told, List.flatMap_cons, List.length_append, List.length_map, List.length_cons] at h2 ⊢
    simp only [Nat.add_mul] 
    omega
theorem one_row {r : List PV} {n : Nat} (h : r.length = n) : ∀ r' ∈ [r], r'.length = n := fun r' hr => by rw [List.mem_singleton.1 hr]; exact h
def cutR (b : Band) (k : Nat) : List Rect := (b.xs.take k).map fun p => ⟨p.1, b.y0, p.2, b.y1⟩
set_option maxRecDepth 100000 in
set_option maxHeartbeats 1000000 in
theorem ref_told (l : List Band) (hN : l.length ≤ 1000000) (hX : ∀ t ∈ l, t.xs.length ≤ 1000000) : ACalls C 228 [.pv (.sl (l.map bd))] (.p (rects (Reg.told l))) [] := by
  refine fun_go hC Tryz.func228 rfl rfl 55 rfl (by decide) (by kernel_rfl) fun _ _ _ _ _ => ?_
  have lm := len_map l bd
  have tl : ∀ i, (Reg.told (l.take i)).length ≤ 1000000000000 := fun i => by
    have h1 := told_length (l.take i) fun t ht => hX t (List.mem_of_mem_take ht)
    have h2 := List.length_take_le i l
    have h3 : (l.take i).length * 1000000 ≤ 1000000 * 1000000 := Nat.mul_le_mul_right _ (by rw [List.length_take]; omega)
    omega
  refine yS (yB rfl (yU (yB rfl (yT (zw_s (yS (yA rfl (yT (zw_b ?_)))))))))
  refine loop_ok' (fun i : Nat => i ≤ l.length) (fun i => [(0, .p (.sl (l.map bd))), (3, .ow 3), (4, .p (i64 i))]) (fun i => [(3, .row 73 ((Reg.told (l.take i)).map rc))]) (fun i => l.length - i) 0 _ (SLe.nilRow hC _ 3 73 _ (by decide) rfl rfl (by decide)) (Nat.zero_le _) ⟨rfl, rfl, rfl, trivial⟩ ⟨rfl, trivial⟩ fun i hi t h => ?_
  (refine zw_s (yS (yP rfl (yP rfl (yP rfl (yP rfl (yT (zw_c rfl ?_))))))); refine bcase_split (fun h1 => ?_) (fun h1 => ?_) <;> try simp only [zB] at h1)
  · rw [lm] at h1
    obtain ⟨b, hb⟩ := get_of (l := l) (i := i) (by omega)
    have bm := len_map b.xs sp
    have hb' := hX b (List.mem_of_getElem? hb)
    have ht := tl i
    refine zw_k (zt_n (zw_s (zw_b (yS (yA rfl (yT (zw_b ?_)))))))
    refine cutB' (fun _ : Unit => True) (fun _ => [(0, .p (.sl (l.map bd))), (3, .ow 3), (4, .p (i64 i))]) (fun _ => [(3, .row 73 ((Reg.told (l.take (i + 1))).map rc))]) (fun _ _ t h => ?_) ?_
    · (refine zb_n (zt_n (zw_o (yP rfl (yq rfl (zqA zI ?_))))); refine And.intro ⟨by omega, by omega⟩ ?_)
      (refine yk (yA rfl (yT (zaf_raw ?_))); refine ⟨(i + 1), _, SLe.refl _ _, ?_⟩)
      exact ⟨by omega, by omega, ⟨rfl, rfl, rfl, trivial⟩, ⟨rfl, trivial⟩⟩
    · refine loop_ok' (fun k : Nat => k ≤ b.xs.length) (fun k => [(0, .p (.sl (l.map bd))), (3, .ow 3), (4, .p (i64 i)), (5, .p (i64 k))]) (fun k => [(3, .row 73 ((Reg.told (l.take i) ++ cutR b k).map rc))]) (fun k => b.xs.length - k) 0 _ (SLe.refl _ _) (Nat.zero_le _) ⟨rfl, rfl, rfl, rfl, trivial⟩ ⟨by rw [cutR]; simp; rfl, trivial⟩ fun k hk t h => ?_
      have hkl : (cutR b k).length ≤ k := by simp [cutR]; omega
      (refine zw_s (yS (yP rfl (yP rfl (yP rfl (yq rfl (zqX zI ?_)))))); refine ⟨(bd b), (idx rfl hb), ?_⟩)
      (refine yk (yP rfl (yP rfl (yP rfl (yP rfl (yT (zw_c rfl ?_)))))); refine bcase_split (fun h2 => ?_) (fun h2 => ?_) <;> try simp only [zB] at h2)
      · rw [bm] at h2
        obtain ⟨p, hp⟩ := get_of (l := b.xs) (i := k) (by omega)
        ((refine zw_k (zt_n (zw_s (zw_b (zw_d true [true, true, true, true, true, true, true, true, true, true, true, true, true, true, true, true, true, true, true, true, true, true, true, true, true, true, true, true, true, true, true, true, true] rfl (by kernel_rfl) (zp_s rfl (zp_s rfl (zp_s rfl (zp_s rfl (zp_s rfl (zp_s rfl (zp_s rfl (zp_s rfl (zp_s rfl ?_))))))))))))); refine zp_s rfl (zp_s rfl (zp_s rfl (zp_s rfl (zp_s rfl (zp_s rfl (zp_s rfl (zp_s rfl (zp_s rfl (zp_s rfl (zp_s rfl (zp_s rfl (zp_s rfl (zp_s rfl ?_))))))))))))); refine zp_s rfl (zp_s rfl (zp_s rfl (zp_s rfl (zp_s rfl (zp_s rfl (zp_s rfl (zp_n rfl rfl (zp_n rfl rfl (zp_q rfl (dq rfl (zq1 zI (zkd (zst_ow ?_))))))))))))); refine yD rfl (yD rfl (dq rfl (zqX zI ?_)))); refine ⟨(bd b), (idx rfl hb), ?_⟩)
        (refine zkd (zst_p (yD rfl (yD rfl (yD rfl (dq rfl (zqX zI ?_)))))); refine ⟨(sp p), (idx rfl hp), ?_⟩)
        (refine zkd (zst_p (yD rfl (yD rfl (yD rfl (yD rfl (dq rfl (zqX zI ?_))))))); refine ⟨(bd b), (idx rfl hb), ?_⟩)
        (refine zkd (zst_p (yD rfl (yD rfl (yD rfl (yD rfl (dq rfl (zqX zI ?_))))))); refine ⟨(bd b), (idx rfl hb), ?_⟩)
        (refine zkd (zst_p (yD rfl (yD rfl (yD rfl (dq rfl (zqX zI ?_)))))); refine ⟨(sp p), (idx rfl hp), ?_⟩)
        (refine zkd (zst_p (yD rfl (yD rfl (yD rfl (yD rfl (dq rfl (zqX zI ?_))))))); refine ⟨(bd b), (idx rfl hb), ?_⟩)
        (refine zkd (zst_p (yD rfl (yD rfl (yD rfl (dq rfl (zq1 zI (zkdn rfl rfl (zst_ow (dq rfl (zqA zI ?_)))))))))); refine And.intro ⟨one_row rfl, by simp; omega, by simp; omega⟩ ?_)
        ((refine zkden rfl rfl rfl (zsn_e (zsn_0 (zst_ow (dq rfl (zq1 zI (zkd (zst_ow (zd_0 (zr_s rfl (zr_s rfl (zr_s rfl (zr_s rfl (zr_s rfl ?_))))))))))))); refine zr_s rfl (zr_s rfl (zr_s rfl (zr_s rfl (zr_s rfl (zr_s rfl (zr_s rfl (zr_s rfl (zr_s rfl (zr_s rfl (zr_s rfl (zr_s rfl (zr_s rfl (zr_s rfl ?_))))))))))))); refine zr_s rfl (zr_s rfl (zr_s rfl (zr_s rfl (zr_s rfl (zr_s rfl (zr_s rfl (zr_s rfl (zr_s rfl (zr_s rfl (zr_s rfl (zr_s rfl (zr_s rfl (zr_r rfl rfl rfl rfl rfl ?_))))))))))))); refine zr_q rfl (zb_n (zt_n (zw_o (yP rfl (yq rfl (zqA zI ?_))))))); refine And.intro ⟨by omega, by omega⟩ ?_)
        (refine yk (yA rfl (yT (zaf_raw ?_))); refine ⟨(k + 1), _, SLe.refl _ _, ?_⟩)
        refine ⟨by omega, by omega, ⟨rfl, rfl, rfl, rfl, trivial⟩, ⟨?_, trivial⟩⟩
        have hc : cutR b (k + 1) = cutR b k ++ [⟨p.1, b.y0, p.2, b.y1⟩] := by simp [cutR, take_succ' hp]
        have e : (Reg.told (l.take i) ++ cutR b k).map rc ++ [rc ⟨p.1, b.y0, p.2, b.y1⟩] = (Reg.told (l.take i) ++ cutR b (k + 1)).map rc := by
          rw [hc, ← List.append_assoc, List.map_append (l₂ := [_])]
          rfl
        exact congrArg (AB.row 73) e
      · rw [bm] at h2
        refine zw_x (zt_x (zt_x (zb_h (zt_n (zaf_raw (zX zi ?_))))))
        refine ⟨(), trivial, ⟨rfl, rfl, rfl, trivial⟩, ⟨?_, trivial⟩⟩
        rw [told_step hb]
        have : cutR b k = b.xs.map fun p => ⟨p.1, b.y0, p.2, b.y1⟩ := by rw [cutR, List.take_of_length_le (by omega)]
        rw [← this]
        rfl
  · rw [lm] at h1
    (refine zw_x (zt_x (zt_x (zb_h (zt_n (yS (yq rfl (zq1 zI (zkq (zst_ow (zo_n rfl (zs_ar rfl rfl rfl rfl rfl (yR zi ?_)))))))))))); refine And.intro ?_ trivial)
    rw [List.take_of_length_le (by omega)]
    rfl
end Go.Proofs.YthjfllfhagdnpaaGreatDoor.M
namespace Go.Proofs.YthjfllfhagdnpaaGreatDoor.M
open Go.AM Go.RowKit
open Reg (Rect Spans Band)

theorem pushB_length (l : List Band) (b : Band) : (Reg.pushB l b).length ≤ l.length + 1 := by
  unfold Reg.pushB
  split
  · omega
  · split
    · split
      · rw [List.length_append, List.length_dropLast]; simp only [List.length_singleton]; omega
      · simp
    · simp
theorem pushB_xs (l : List Band) (b : Band) (n : Nat) (hl : ∀ t ∈ l, t.xs.length ≤ n) (hb : b.xs.length ≤ n) : ∀ t ∈ Reg.pushB l b, t.xs.length ≤ n := by
  unfold Reg.pushB
  split
  · exact hl
  · split
    · rename_i t ht
      split
      · intro u hu
        rcases List.mem_append.1 hu with h | h
        · exact hl u ((List.dropLast_sublist l).subset h)
        · rw [List.mem_singleton.1 h]; exact hl t (List.mem_of_getLast? ht)
      · intro u hu
        rcases List.mem_append.1 hu with h | h
        · exact hl u h
        · rw [List.mem_singleton.1 h]; exact hb
    · intro u hu
      rw [List.mem_singleton.1 hu]; exact hb
theorem bandsTo_length (l : List Rect) (ys : List Int) : ∀ k, (Reg.bandsTo l ys k).length ≤ k := by
  intro k
  induction k with
  | zero => simp [Reg.bandsTo]
  | succ k ih => rw [Reg.bandsTo]; have := pushB_length (Reg.bandsTo l ys k) ⟨ys.getD k 0, ys.getD (k + 1) 0, Reg.rowOf l (ys.getD k 0)⟩; omega
theorem bandsTo_xs (l : List Rect) (ys : List Int) : ∀ k, ∀ t ∈ Reg.bandsTo l ys k, t.xs.length ≤ l.length := by
  intro k
  induction k with
  | zero => simp [Reg.bandsTo]
  | succ k ih => rw [Reg.bandsTo]; exact pushB_xs _ _ _ ih (rowOf_length _ _)
theorem getD_of {l : List Int} {i : Nat} {x : Int} (h : l[i]? = some x) : l.getD i 0 = x := by rw [List.getD_eq_getElem?_getD, h]; rfl
set_option maxRecDepth 100000 in
set_option maxHeartbeats 1000000 in
theorem ref_canonical (l : List Rect) (hN : l.length ≤ 400000) : ACalls C 142 [.pv (rects l)] (.p (rects (Reg.canonical l))) [] := by
  refine fun_go hC Tryz.func142 rfl rfl 35 rfl (by decide) (by kernel_rfl) fun _ _ _ _ _ => ?_
  have lm := len_map (Reg.heights l) fun n => [i64 n]
  have hL := heights_length l
  (refine yS (yB rfl (yU (yP rfl (yn rfl (zqX zI ?_))))); refine ⟨_, _, (ref_heights l hN), ?_⟩)
  refine zkn rfl rfl (zst_p (yA rfl (yU (yB rfl (yT (zw_s (yS (yA rfl (yT (zw_b ?_))))))))))
  refine loop_ok' (fun k : Nat => k ≤ (Reg.heights l).length - 1) (fun k => [(0, .p (rects l)), (3, .p (ints (Reg.heights l))), (4, .ow 4), (5, .p (i64 ((k : Int) + 1)))]) (fun k => [(4, .row 267 ((Reg.bandsTo l (Reg.heights l) k).map bd))]) (fun k => (Reg.heights l).length - k) 0 _ (SLe.nilRow hC _ 4 267 _ (by decide) rfl rfl (by decide)) (Nat.zero_le _) ⟨rfl, rfl, rfl, rfl, trivial⟩ ⟨rfl, trivial⟩ fun k hk t h => ?_
  have bl := bandsTo_length l (Reg.heights l) k
  have bx := bandsTo_xs l (Reg.heights l) k
  (refine zw_s (yS (yP rfl (yP rfl (yP rfl (yP rfl (yT (zw_c rfl ?_))))))); refine bcase_split (fun h1 => ?_) (fun h1 => ?_) <;> try simp only [zB] at h1)
  · rw [lm] at h1
    obtain ⟨y, hy⟩ := get_of (l := Reg.heights l) (i := k) (by omega)
    obtain ⟨y', hy'⟩ := get_of (l := Reg.heights l) (i := k + 1) (by omega)
    have ek : (k : Int) + 1 - 1 = (k : Nat) := by omega
    have ek' : (k : Int) + 1 = ((k + 1 : Nat) : Int) := by omega
    ((refine zw_k (zt_n (zw_s (zw_b (zw_d true [true, true, true, true, true, true, true, true, true, true, true, true, true, true, true, true, true, true, true, true] rfl (by kernel_rfl) (zp_s rfl (zp_s rfl (zp_s rfl (zp_s rfl (zp_s rfl (zp_s rfl (zp_s rfl (zp_s rfl (zp_s rfl ?_))))))))))))); refine zp_s rfl (zp_s rfl (zp_s rfl (zp_s rfl (zp_s rfl (zp_s rfl (zp_s rfl (zp_n rfl rfl (zp_s rfl (zp_n rfl rfl (zp_q rfl (dq rfl (zq1 zI (zkd ?_))))))))))))); refine zst_ow (yD rfl (yD rfl (dq rfl (zqA zI ?_))))); refine And.intro ⟨by omega, by omega⟩ ?_)
    (refine zkd (zst_p (dq rfl (zqX zI ?_))); refine ⟨[i64 y], (idx ek hy), ?_⟩)
    (refine zkd (zst_p (yD rfl (yD rfl (yD rfl (dq rfl (zqX zI ?_)))))); refine ⟨[i64 y'], (idx ek' hy'), ?_⟩)
    (refine zkd (zst_p (yD rfl (yD rfl (yD rfl (yD rfl (dq rfl (zqA zI ?_))))))); refine And.intro ⟨by omega, by omega⟩ ?_)
    (refine zkd (zst_p (dq rfl (zqX zI ?_))); refine ⟨[i64 y], (idx ek hy), ?_⟩)
    (refine zkd (zst_p (yD rfl (dq rfl (zqX zI ?_)))); refine ⟨_, _, (ref_row l y (by omega)), ?_⟩)
    (refine zkd (zst_p (yD rfl (dq rfl (zqX zI ?_)))); refine ⟨_, _, (ref_stacked _ ⟨y, y', Reg.rowOf l y⟩ (by omega) (fun t ht => by have := bx t ht; omega)), ?_⟩)
    (refine zkden rfl rfl rfl (zsn_e (zsn_0 (zst_ow (dq rfl (zq1 zI (zkd (zst_ow (zd_0 (zr_s rfl (zr_s rfl (zr_s rfl (zr_s rfl (zr_s rfl ?_))))))))))))); refine zr_s rfl (zr_s rfl (zr_s rfl (zr_s rfl (zr_s rfl (zr_s rfl (zr_s rfl (zr_s rfl (zr_s rfl (zr_s rfl (zr_s rfl (zr_s rfl (zr_s rfl (zr_s rfl ?_))))))))))))); refine zr_r rfl rfl rfl rfl rfl (zr_q rfl (zb_n (zt_n (zw_o (yP rfl (yq rfl (zqA zI ?_))))))))
    (skip; refine And.intro ⟨by omega, by omega⟩ ?_)
    (refine yk (yA rfl (yT (zaf_raw ?_))); refine ⟨(k + 1), _, SLe.refl _ _, ?_⟩)
    refine ⟨by omega, by omega, ⟨rfl, rfl, rfl, av_i64 (by omega), trivial⟩, ⟨?_, trivial⟩⟩
    rw [Reg.bandsTo, getD_of hy, getD_of hy']
    rfl
  · rw [lm] at h1
    (refine zw_x (zt_x (zt_x (zb_h (zt_n (yS (yq rfl (zq1 zI (zkq (zst_ow (yn rfl (zqX zI ?_))))))))))); refine ⟨_, _, (ref_told _ (by omega) (fun t ht => by have := bx t ht; omega)), ?_⟩)
    (refine zkn rfl rfl (zst_e (zst_p (yA rfl (yR zi ?_)))); refine And.intro ?_ trivial)
    rw [Reg.canonical, Reg.bands, show (Reg.heights l).length - 1 = k by omega]
theorem ordered_false {l : List Rect} : ∀ {i : Nat} {a b : Rect}, l[i]? = some a → l[i + 1]? = some b → Reg.before a b = false → Reg.ordered l = false := by
  induction l with
  | nil => intro i a b h; simp at h
  | cons x l ih =>
    intro i a b h1 h2 h3
    cases l with
    | nil => simp at h2
    | cons y l =>
      rw [Reg.ordered]
      cases i with
      | zero =>
        simp at h1 h2
        subst h1; subst h2
        rw [h3]; rfl
      | succ i => rw [ih (i := i) (by simpa using h1) (by simpa using h2) h3, Bool.and_false]
theorem ordered_true {l : List Rect} : (∀ (i : Nat) a b, l[i]? = some a → l[i + 1]? = some b → Reg.before a b = true) → Reg.ordered l = true := by
  induction l with
  | nil => intro _; rfl
  | cons x l ih =>
    intro h
    cases l with
    | nil => rfl
    | cons y l =>
      rw [Reg.ordered, h 0 x y rfl rfl, ih fun i a b h1 h2 => h (i + 1) a b (by simpa using h1) (by simpa using h2)]
      rfl
set_option maxRecDepth 100000 in
set_option maxHeartbeats 1000000 in
theorem ref_checkRegion (l : List Rect) : ACalls C 58 [.pv (rects l)] (.p (i64 (Reg.checkRegion l))) [] := by
  refine fun_go hC Tryz.func58 rfl rfl 32 rfl (by decide) (by kernel_rfl) fun _ _ _ _ _ => ?_
  have lm := len_map l rc
  (refine yS (yA rfl (yT (zw_s (yS (yP rfl (yn rfl (zqX zI ?_))))))); refine ⟨_, _, (ref_checkRects l), ?_⟩)
  (refine zkn rfl rfl (zst_p (yA rfl (yU (yP rfl (yP rfl (yT (zw_c rfl ?_))))))); refine bcase_split (fun h0 => ?_) (fun h0 => ?_) <;> try simp only [zB] at h0)
  · (refine yS (yP rfl (yA rfl (yT (zw_r (zt_r (ze_r zi ?_)))))); refine And.intro ?_ trivial)
    rw [Reg.checkRegion, if_neg h0]
  · have h0 : Reg.checkRects l = 0 := by simpa using h0
    obtain ⟨hl, _⟩ := Reg.rects_good h0
    have hc : Reg.checkRegion l = (if Reg.ordered l = true then (if Reg.canonical l = l then 0 else 3) else 8) := by rw [Reg.checkRegion, if_pos h0]
    refine zw_k (zt_n (zw_s (yS (yA rfl (yT (zw_b ?_))))))
    refine cutB' (fun _ : Unit => Reg.ordered l = true) (fun _ => [(0, .p (rects l))]) (fun _ => []) (fun _ hO t h => ?_) ?_
    · rw [if_pos hO] at hc
      (refine zt_n (zw_s (yS (yP rfl (yP rfl (yn rfl (zqX zI ?_)))))); refine ⟨_, _, (ref_canonical l (by omega)), ?_⟩)
      (refine zkn rfl rfl (zst_p (yn rfl (zqX zI ?_))); refine ⟨_, _, (ref_sameRects l _ (by omega)), ?_⟩)
      (refine zkn rfl rfl (zst_p (yP rfl (yT (zw_c rfl ?_)))); refine bcase_split (fun h2 => ?_) (fun h2 => ?_) <;> try simp only [zB] at h2)
      · (refine yS (yA rfl (yT (zw_r (zt_r (ze_r zi ?_))))); refine And.intro ?_ trivial)
        rw [hc, if_neg (fun e => h2 e.symm)]; rfl
      · (refine zw_k (zt_n (yS (yA rfl (yR zi ?_)))); refine And.intro ?_ trivial)
        rw [hc, if_pos (by simpa using h2.symm)]; rfl
    · refine loop_ok' (fun i : Nat => ∀ (j : Nat) a b, j < i → l[j]? = some a → l[j + 1]? = some b → Reg.before a b = true) (fun i => [(0, .p (rects l)), (4, .p (i64 ((i : Int) + 1)))]) (fun _ => []) (fun i => l.length - i) 0 _ (SLe.refl _ _) (fun j a b h => by omega) ⟨rfl, rfl, trivial⟩ trivial fun i hi t h => ?_
      (refine zw_s (yS (yP rfl (yP rfl (yP rfl (yP rfl (yT (zw_c rfl ?_))))))); refine bcase_split (fun h1 => ?_) (fun h1 => ?_) <;> try simp only [zB] at h1)
      · rw [lm] at h1
        obtain ⟨a, ha⟩ := get_of (l := l) (i := i) (by omega)
        obtain ⟨b, hb⟩ := get_of (l := l) (i := i + 1) (by omega)
        ((refine zw_k (zt_n (zw_s (zw_b (zw_s (zw_d false [true, true, true, true, true, true, true, true, true, true, true] rfl (by kernel_rfl) (zp_s rfl (zp_s rfl (zp_s rfl (zp_s rfl (zp_s rfl (zp_s rfl (zp_s rfl (zp_s rfl ?_))))))))))))); refine zp_s rfl (zp_n rfl rfl (zp_q rfl (yD rfl (yD rfl (dq rfl (zqA zI ?_))))))); refine And.intro ⟨by omega, by omega⟩ ?_)
        (refine zkd (zst_p (dq rfl (zqX zI ?_))); refine ⟨(rc a), (idx (show ((i : Int) + 1) - 1 = (i : Nat) by omega) ha), ?_⟩)
        (refine zkd (zst_p (yD rfl (yD rfl (yD rfl (dq rfl (zqX zI ?_)))))); refine ⟨(rc b), (idx (show ((i : Int) + 1) = ((i + 1 : Nat) : Int) by omega) hb), ?_⟩)
        (refine zkd (zst_p (yD rfl (dq rfl (zqX zI ?_)))); refine ⟨_, _, (ref_before a b), ?_⟩)
        (refine zkd (zst_p (yD rfl (zd_0 (zr_q rfl (zt_n (zw_c rfl ?_)))))); refine bcase_split (fun h2 => ?_) (fun h2 => ?_) <;> try simp only [zB] at h2)
        · (refine yS (yA rfl (yT (zw_r (zb_r (zt_r (zt_r (zb_r (zt_r (zt_r (ze_r zi ?_)))))))))); refine And.intro ?_ trivial)
          rw [hc, if_neg (by rw [ordered_false ha hb h2]; decide)]; rfl
        · (refine zw_k (zb_n (zt_n (zw_o (yP rfl (yq rfl (zqA zI ?_)))))); refine And.intro ⟨by omega, by omega⟩ ?_)
          (refine yk (yA rfl (yT (zaf_raw ?_))); refine ⟨(i + 1), _, SLe.refl _ _, ?_⟩)
          refine ⟨fun j x y hj hx hy => ?_, by omega, ⟨rfl, av_i64 (by omega), trivial⟩, trivial⟩
          by_cases e : j = i
          · subst e
            rw [ha] at hx; injection hx with hx; rw [hb] at hy; injection hy with hy
            rw [← hx, ← hy]; simpa using h2
          · exact hi j x y (by omega) hx hy
      · rw [lm] at h1
        refine zw_x (zt_x (zt_x (zb_h (zt_n (zaf_raw (zX zi ?_))))))
        refine ⟨(), ordered_true fun j a b ha hb => hi j a b ?_ ha hb, ⟨rfl, trivial⟩, trivial⟩
        have := (List.getElem?_eq_some_iff.1 hb).1
        omega
end Go.Proofs.YthjfllfhagdnpaaGreatDoor.M
