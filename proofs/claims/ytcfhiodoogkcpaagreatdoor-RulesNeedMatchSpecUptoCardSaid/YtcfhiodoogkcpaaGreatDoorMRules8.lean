/- By the machine: what two nets need, of the reference. -/
import Derived.Test.YtcfhiodoogkcpaaGreatDoorMRules7
set_option linter.unusedSimpArgs false
set_option linter.unusedVariables false
namespace Go.Proofs.YtcfhiodoogkcpaaGreatDoor.M
open Go.AM Go.RowKit Go.Lib
open Reg (Rect Spans Band)

theorem path_ne {y : ByteArray} (h : pathB y = true) : y ≠ emptyS := by
  rintro rfl
  exact absurd h (by decide)
theorem has_some {r : Rules} (hg : RGood r) {c : Class} (hc : c ∈ r.classes) (x : ByteArray) : (hasB c.nets x && !decide (x = emptyS)) = hasB c.nets x := by
  by_cases hx : x = emptyS
  · have : hasB c.nets x = false := by
      rw [Bool.eq_false_iff]
      exact fun h => path_ne ((hg.cl c hc).2.2.1 x (hasB_iff.1 h)) hx
    rw [this]; rfl
  · rw [decide_eq_false hx]; simp
theorem meets_ref {l : List Rect} (h : Reg.checkRegion l = 0) (x y : Int) : insideB (Reg.rowOf l y) x = l.any (inR x y) := by
  have hr : ∀ r ∈ l, r.x0 < r.x1 := by
    unfold Reg.checkRegion at h
    by_cases h0 : Reg.checkRects l = 0
    · exact fun r hr => ((Reg.rects_good h0).2 r hr).2.1
    · rw [if_neg h0] at h; exact absurd h h0
  have hf := (Reg.row_facts l y hr).2 x
  rw [Bool.eq_iff_iff, insideB, List.any_eq_true, List.any_eq_true]
  refine Iff.trans ?_ (hf.trans ?_)
  · simp [Reg.cover]
  · constructor
    · rintro ⟨r, h1, h2, h3⟩
      exact ⟨r, h1, by simp [inR]; omega⟩
    · rintro ⟨r, h1, h2⟩
      refine ⟨r, h1, ?_⟩
      simp [inR] at h2
      omega
set_option maxRecDepth 100000 in
set_option maxHeartbeats 1000000 in
theorem ref6_class (r : Rules) (hg : RGood r) (x : ByteArray) : ACalls C 74 [.pv (.ag (rl r)), .pv (str x)] (.p (.ag (kl (classFor r.classes x)))) [] := by
  refine fun_go hC Tryz.func74 rfl rfl 27 rfl (by decide) (by kernel_rfl) fun _ _ _ _ _ => ?_
  have lm := len_map r.classes kl
  have nc := hg.nc
  (refine zw_s (zw_o (zo_n rfl (zs_n rfl rfl rfl (zq1 zI (zkns (zst_bx (zo_n rfl (zs_n rfl rfl rfl (zq1 zI (zkns (zst_bx ?_))))))))))); refine zo_0 (zt_n (zw_s (zw_s (zw_o (zo_n rfl (zs_as rfl rfl rfl (zas_n rfl) (zst_p (zo_0 (zt_n (zw_b ?_)))))))))))
  refine loop_ok' (fun i : Nat => i ≤ r.classes.length ∧ ∀ c ∈ r.classes.take i, (hasB c.nets x && !decide (x = emptyS)) = false) (fun i => [(1, .p (str x)), (2, .bx 2 0), (4, .bx 4 0), (5, .p (i64 i))]) (fun _ => [(2, .box (rbox r)), (4, .box [.p (str emptyS), .nl, .p (i64 0), .p (i64 0)])]) (fun i => r.classes.length - i) 0 _ (SLe.refl _ _) ⟨Nat.zero_le _, by simp⟩ ⟨rfl, rfl, rfl, rfl, trivial⟩ ⟨rfl, rfl, trivial⟩ fun i hi t h => ?_
  obtain ⟨q1, q2⟩ := hi
  (refine zw_s (zw_s (zw_o (zP rfl rfl rfl rfl zI (zV rfl rfl rfl rfl zI (zP rfl rfl rfl rfl zI (zP rfl rfl rfl rfl zI (zP rfl rfl rfl rfl zI (zo_0 (zt_n (zw_c rfl ?_)))))))))); refine bcase_split (fun h1 => ?_) (fun h1 => ?_) <;> try simp only [decide_eq_true_eq, decide_eq_false_iff_not, ge_iff_le, gt_iff_lt, Bool.not_eq_true', Bool.not_eq_false'] at h1)
  · obtain ⟨c, hc⟩ := get_of (l := r.classes) (i := i) (by omega)
    have cm := List.mem_of_getElem? hc
    obtain ⟨c1, c2, c3, c4, c5⟩ := hg.cl c cm
    (refine zw_k (zt_n (zw_s (zw_b (zw_s (zw_o (zV rfl rfl rfl rfl zI (zP rfl rfl rfl rfl zI (zP rfl rfl rfl rfl zI (zo_n rfl (zs_q rfl rfl (zqX zI ?_))))))))))); refine ⟨(kl c), (idx rfl hc), ?_⟩)
    (refine zkq (zst_p (zP rfl rfl rfl rfl zI (zP rfl rfl rfl rfl zI (zP rfl rfl rfl rfl zI (zo_n rfl (zs_n rfl rfl rfl (zqX zI ?_))))))); refine ⟨_, _, (ref6_has c.nets x (by omega)), ?_⟩)
    (refine zkn rfl rfl (zst_p (zo_0 (zt_n (zw_c rfl ?_)))); refine bcase_split (fun h2 => ?_) (fun h2 => ?_) <;> try simp only [decide_eq_true_eq, decide_eq_false_iff_not, ge_iff_le, gt_iff_lt, Bool.not_eq_true', Bool.not_eq_false'] at h2)
    · (refine zw_s (zw_o (zV rfl rfl rfl rfl zI (zP rfl rfl rfl rfl zI (zP rfl rfl rfl rfl zI (zo_n rfl (zs_q rfl rfl (zqX zI ?_))))))); refine ⟨(kl c), (idx rfl hc), ?_⟩)
      ((refine zkq (zst_p (zP rfl rfl rfl rfl zI (zo_n rfl (zs_q rfl rfl (zq1 zI (zkq (zst_e (zst_0 (zo_0 (zt_n (zw_r ?_))))))))))); refine zb_r (zt_r (zt_r (zb_r (zt_r (ze_r zi ?_)))))); refine And.intro ?_ trivial)
      rw [classFor, find_at hc (by rw [has_some hg cm, h2]) q2]
      rfl
    · (refine zw_k (zb_n (zt_n (zw_o (zP rfl rfl rfl rfl zI (zo_n rfl (zs_q rfl rfl (zqA zI ?_))))))); refine And.intro ⟨by omega, by omega⟩ ?_)
      (refine zkq (zst_p (zo_n rfl (zs_as rfl rfl rfl (zas_n rfl) (zst_p (zo_0 (zt_n (zaf_raw ?_))))))); refine ⟨(i + 1), _, SLe.refl _ _, ?_⟩)
      refine ⟨⟨by omega, fun d hd => ?_⟩, by omega, ⟨rfl, rfl, rfl, rfl, trivial⟩, ⟨rfl, rfl, trivial⟩⟩
      rw [take_succ' hc, List.mem_append, List.mem_singleton] at hd
      rcases hd with hd | hd
      · exact q2 d hd
      · rw [hd, has_some hg cm]; simpa using h2
  · have e : i = r.classes.length := by omega
    ((refine zw_x (zt_x (zt_x (zb_h (zt_n (zw_s (zw_o (zP rfl rfl rfl rfl zI (zo_n rfl (zs_q rfl rfl (zq1 zI (zkq ?_))))))))))); refine zst_e (zst_0 (zo_0 (zt_n (zw_r (ze_r zi ?_)))))); refine And.intro ?_ trivial)
    rw [e, List.take_length] at q2
    rw [classFor, List.find?_eq_none.2 (fun y hy => by rw [q2 y hy]; decide)]
    rfl
theorem ref6_clearOf (r : Rules) (hg : RGood r) (x : ByteArray) : ACalls C 72 [.pv (.ag (rl r)), .pv (str x)] (.p (i64 (clearFor r x))) [] := by
  refine fun_go hC Tryz.func72 rfl rfl 15 rfl (by decide) (by kernel_rfl) fun _ _ _ _ _ => ?_
  ((refine zw_s (zw_o (zo_n rfl (zs_n rfl rfl rfl (zq1 zI (zkns (zst_bx (zo_n rfl (zs_as rfl rfl rfl (zas_n rfl) (zst_p (zo_0 (zt_n ?_))))))))))); refine zw_s (zw_s (zw_o (zP rfl rfl rfl rfl zI (zP rfl rfl rfl rfl zI (zo_n rfl (zs_n rfl rfl rfl (zqX zI ?_)))))))); refine ⟨_, _, (ref6_class r hg x), ?_⟩)
  ((refine zkn rfl rfl (zst_p (zP rfl rfl rfl rfl zI (zo_n rfl (zs_as rfl rfl rfl (zas_n rfl) (zst_p (zo_0 (zt_n (zw_s (zw_o (zP rfl rfl rfl rfl zI (zP rfl rfl rfl rfl zI ?_))))))))))); refine zo_0 (zt_n (zw_c rfl ?_))); refine bcase_split (fun h1 => ?_) (fun h1 => ?_) <;> try simp only [decide_eq_true_eq, decide_eq_false_iff_not, ge_iff_le, gt_iff_lt, Bool.not_eq_true', Bool.not_eq_false'] at h1)
  · (refine zw_s (zw_o (zP rfl rfl rfl rfl zI (zo_n rfl (zs_as rfl rfl rfl (zas_n rfl) (zst_p (zo_0 (zt_n (zw_r (zt_r (ze_r zi ?_)))))))))); refine And.intro ?_ trivial)
    rw [clearFor, if_pos h1]
  · ((refine zw_k (zt_n (zw_s (zw_o (zV rfl rfl rfl rfl zI (zP rfl rfl rfl rfl zI (zo_n rfl (zs_as rfl rfl rfl (zas_n rfl) (zst_p (zo_0 (zt_n (zw_r ?_))))))))))); refine ze_r zi ?_); refine And.intro ?_ trivial)
    rw [clearFor, if_neg h1]
theorem ref6_widthOf (r : Rules) (hg : RGood r) (x : ByteArray) : ACalls C 44 [.pv (.ag (rl r)), .pv (str x)] (.p (i64 (widthFor r x))) [] := by
  refine fun_go hC Tryz.func44 rfl rfl 15 rfl (by decide) (by kernel_rfl) fun _ _ _ _ _ => ?_
  ((refine zw_s (zw_o (zo_n rfl (zs_n rfl rfl rfl (zq1 zI (zkns (zst_bx (zo_n rfl (zs_as rfl rfl rfl (zas_n rfl) (zst_p (zo_0 (zt_n ?_))))))))))); refine zw_s (zw_s (zw_o (zP rfl rfl rfl rfl zI (zP rfl rfl rfl rfl zI (zo_n rfl (zs_n rfl rfl rfl (zqX zI ?_)))))))); refine ⟨_, _, (ref6_class r hg x), ?_⟩)
  ((refine zkn rfl rfl (zst_p (zP rfl rfl rfl rfl zI (zo_n rfl (zs_as rfl rfl rfl (zas_n rfl) (zst_p (zo_0 (zt_n (zw_s (zw_o (zP rfl rfl rfl rfl zI (zP rfl rfl rfl rfl zI ?_))))))))))); refine zo_0 (zt_n (zw_c rfl ?_))); refine bcase_split (fun h1 => ?_) (fun h1 => ?_) <;> try simp only [decide_eq_true_eq, decide_eq_false_iff_not, ge_iff_le, gt_iff_lt, Bool.not_eq_true', Bool.not_eq_false'] at h1)
  · (refine zw_s (zw_o (zP rfl rfl rfl rfl zI (zo_n rfl (zs_as rfl rfl rfl (zas_n rfl) (zst_p (zo_0 (zt_n (zw_r (zt_r (ze_r zi ?_)))))))))); refine And.intro ?_ trivial)
    rw [widthFor, if_pos h1]
  · ((refine zw_k (zt_n (zw_s (zw_o (zV rfl rfl rfl rfl zI (zP rfl rfl rfl rfl zI (zo_n rfl (zs_as rfl rfl rfl (zas_n rfl) (zst_p (zo_0 (zt_n (zw_r ?_))))))))))); refine ze_r zi ?_); refine And.intro ?_ trivial)
    rw [widthFor, if_neg h1]
theorem ref6_netName (s : ByteArray) (hs : strOK s) : ACalls C 40 [.pv (str s)] (.p (bool (netB s))) [] := by
  have hs' : s.size < 4294967281 := hs
  refine fun_go hC Tryz.func40 rfl rfl 9 rfl (by decide) (by kernel_rfl) fun _ _ _ _ _ => ?_
  ((refine zw_s (zw_o (zo_n rfl (zs_as rfl rfl rfl (zas_n rfl) (zst_p (zo_0 (zt_n (zw_s (zw_o (zP rfl rfl rfl rfl zI (zP rfl rfl rfl rfl zI (zP rfl rfl rfl rfl zI ?_))))))))))); refine zo_g rfl rfl rfl rfl ?_); refine bcase_split (fun h1 => ?_) (fun h1 => ?_) <;> try simp only [decide_eq_true_eq, decide_eq_false_iff_not, ge_iff_le, gt_iff_lt, Bool.not_eq_true', Bool.not_eq_false'] at h1)
  · have h1 : s = emptyS := by simpa [emptyS] using h1
    (refine zg_f (zst_p (zo_g0 rfl rfl rfl rfl (zst_p (zP rfl rfl rfl rfl zI (zo_n rfl (zs_as rfl rfl rfl (zas_n rfl) (zst_p (zo_0 (zt_n (zw_r (ze_r zi ?_))))))))))); refine And.intro ?_ trivial)
    rw [netB, decide_eq_true h1]; rfl
  · have h1 : ¬ s = emptyS := by simpa [emptyS] using h1
    (refine zg_t (zs_q rfl rfl (zq1 zI (zkq (zst_p (zo_g1 rfl rfl rfl rfl (zs_n rfl rfl rfl (zqX zI ?_))))))); refine ⟨_, _, (ref5_isPath s hs'), ?_⟩)
    (refine zkn rfl rfl (zst_p (zP rfl rfl rfl rfl zI (zo_n rfl (zs_as rfl rfl rfl (zas_n rfl) (zst_p (zo_0 (zt_n (zw_r (ze_r zi ?_))))))))); refine And.intro ?_ trivial)
    rw [netB, decide_eq_false h1, Bool.false_or]
set_option maxRecDepth 100000 in
set_option maxHeartbeats 1000000 in
theorem ref6_needs (r : Rules) (hg : RGood r) (a b : ByteArray) (layer x y : Int) : ACalls C 42 [.pv (.ag (rl r)), .pv (str a), .pv (str b), .pv (i64 layer), .pv (.ag [i64 x, i64 y])] (.p (i64 (needFor r a b layer x y))) [] := by
  refine fun_go hC Tryz.func42 rfl rfl 55 rfl (by decide) (by kernel_rfl) fun _ _ _ _ _ => ?_
  have lm := len_map r.areas arr
  have na := hg.na
  (refine zw_s (zw_o (zo_n rfl (zs_n rfl rfl rfl (zq1 zI (zkns (zst_bx (zo_n rfl (zs_n rfl rfl rfl (zq1 zI (zkns (zst_bx ?_))))))))))); refine zo_n rfl (zs_as rfl rfl rfl (zas_n rfl) (zst_p (zo_0 (zt_n (zw_s (zw_o (zo_n rfl (zs_as rfl rfl rfl (zas_n rfl) (zst_p (zo_n rfl (zs_as rfl rfl rfl (zas_n rfl) ?_))))))))))); refine zst_p (zo_0 (zt_n (zw_s (zw_s (zw_o (zo_n rfl (zs_as rfl rfl rfl (zas_n rfl) (zst_p (zo_0 (zt_n (zw_b ?_))))))))))))
  refine loop_ok' (fun i : Nat => i ≤ r.areas.length) (fun i => [(1, .p (str a)), (2, .p (str b)), (3, .p (i64 layer)), (5, .bx 5 0), (9, .bx 9 0), (11, .p (i64 (max 0 (mostOf layer x y (r.areas.take i) (-1))))), (12, .p (bool (decide (0 ≤ mostOf layer x y (r.areas.take i) (-1))))), (13, .p (i64 i))]) (fun _ => [(5, .box (rbox r)), (9, .box [.p (i64 x), .p (i64 y)])]) (fun i => r.areas.length - i) 0 _ (SLe.refl _ _) (Nat.zero_le _) ⟨rfl, rfl, rfl, rfl, rfl, rfl, rfl, rfl, trivial⟩ ⟨rfl, rfl, trivial⟩ fun i hi t h => ?_
  (refine zw_s (zw_s (zw_o (zP rfl rfl rfl rfl zI (zV rfl rfl rfl rfl zI (zP rfl rfl rfl rfl zI (zP rfl rfl rfl rfl zI (zP rfl rfl rfl rfl zI (zo_0 (zt_n (zw_c rfl ?_)))))))))); refine bcase_split (fun h1 => ?_) (fun h1 => ?_) <;> try simp only [decide_eq_true_eq, decide_eq_false_iff_not, ge_iff_le, gt_iff_lt, Bool.not_eq_true', Bool.not_eq_false'] at h1)
  · obtain ⟨c, hc⟩ := get_of (l := r.areas) (i := i) (by omega)
    obtain ⟨g1, g2, g3⟩ := hg.ar c (List.mem_of_getElem? hc)
    have g4 : 0 ≤ c.clearance := by simp [isRule] at g3; omega
    have hl := region_len g2
    have mr := meets_ref g2 x y
    have mo : mostOf layer x y (r.areas.take (i + 1)) (-1) = (if meets layer x y c = true then max (mostOf layer x y (r.areas.take i) (-1)) c.clearance else mostOf layer x y (r.areas.take i) (-1)) := by rw [take_succ' hc, mostOf_app]; rfl
    have no : meets layer x y c = false → mostOf layer x y (r.areas.take (i + 1)) (-1) = mostOf layer x y (r.areas.take i) (-1) := fun h => by rw [mo, if_neg (by rw [h]; decide)]
    have yes : meets layer x y c = true → mostOf layer x y (r.areas.take (i + 1)) (-1) = max (mostOf layer x y (r.areas.take i) (-1)) c.clearance := fun h => by rw [mo, if_pos h]
    have y1 : meets layer x y c = true → max (max 0 (mostOf layer x y (r.areas.take i) (-1))) c.clearance = max 0 (mostOf layer x y (r.areas.take (i + 1)) (-1)) := fun h => by rw [yes h]; omega
    have y2 : meets layer x y c = true → true = decide (0 ≤ mostOf layer x y (r.areas.take (i + 1)) (-1)) := fun h => by rw [yes h]; symm; rw [decide_eq_true_eq]; omega
    (refine zw_k (zt_n (zw_s (zw_b (zw_s (zw_o (zV rfl rfl rfl rfl zI (zP rfl rfl rfl rfl zI (zP rfl rfl rfl rfl zI (zo_n rfl (zs_q rfl rfl (zqX zI ?_))))))))))); refine ⟨(arr c), (idx rfl hc), ?_⟩)
    ((refine zkq (zst_p (zP rfl rfl rfl rfl zI (zo_n rfl (zs_n rfl rfl rfl (zq1 zI (zkns (zst_bx (zo_n rfl (zs_q rfl rfl (zq1 zI (zkq ?_))))))))))); refine zst_e (zst_0 (zo_0 (zt_n (zw_s (zw_o (zV rfl rfl rfl rfl zI (zP rfl rfl rfl rfl zI (zP rfl rfl rfl rfl zI (zP rfl rfl rfl rfl zI (zo_g rfl rfl rfl rfl ?_))))))))))); refine bcase_split (fun h2 => ?_) (fun h2 => ?_) <;> try simp only [decide_eq_true_eq, decide_eq_false_iff_not, ge_iff_le, gt_iff_lt, Bool.not_eq_true', Bool.not_eq_false'] at h2)
    · have on : onB c layer = true := by rw [onB, decide_eq_true (by omega : c.layer < 0)]; rfl
      ((refine zg_f (zst_p (zo_g0 rfl rfl rfl rfl (zst_p (zo_g0 rfl rfl rfl rfl (zst_p (zo_g0 rfl rfl rfl rfl (zst_p (zP rfl rfl rfl rfl zI (zP rfl rfl rfl rfl zI (zo_g1 rfl rfl rfl rfl (zs_q rfl rfl ?_))))))))))); refine zq1 zI (zkq (zst_bx (zo_g1 rfl rfl rfl rfl (zs_q rfl rfl (zq1 zI (zkq (zst_p (zo_g1 rfl rfl rfl rfl (zs_q rfl rfl (zq1 zI (zkq ?_))))))))))); refine zst_p (zo_g1 rfl rfl rfl rfl (zs_n rfl rfl rfl (zqX zI ?_)))); refine ⟨_, _, (ref_hasPoint c.region x y hl), ?_⟩)
      (refine zkn rfl rfl (zst_p (zP rfl rfl rfl rfl zI (zo_0 (zt_n (zw_c rfl ?_))))); refine bcase_split (fun h3 => ?_) (fun h3 => ?_) <;> try simp only [decide_eq_true_eq, decide_eq_false_iff_not, ge_iff_le, gt_iff_lt, Bool.not_eq_true', Bool.not_eq_false'] at h3)
      · have m : meets layer x y c = true := by rw [meets, on, ← mr, h3]; rfl
        ((refine zw_o (zP rfl rfl rfl rfl zI (zV rfl rfl rfl rfl zI (zP rfl rfl rfl rfl zI (zP rfl rfl rfl rfl zI (zo_n rfl (zs_as rfl rfl rfl (zas_n rfl) (zst_p (zo_n rfl (zs_as rfl rfl rfl (zas_n rfl) (zst_p (zo_0 ?_))))))))))); refine zb_n (zt_n (zw_o (zP rfl rfl rfl rfl zI (zo_n rfl (zs_q rfl rfl (zqA zI ?_))))))); refine And.intro ⟨by omega, by omega⟩ ?_)
        (refine zkq (zst_p (zo_n rfl (zs_as rfl rfl rfl (zas_n rfl) (zst_p (zo_0 (zt_n (zaf_raw ?_))))))); refine ⟨(i + 1), _, SLe.refl _ _, ?_⟩)
        exact ⟨by omega, by omega, ⟨rfl, rfl, rfl, rfl, rfl, av_i64 (y1 m), av_bool (y2 m), rfl, trivial⟩, ⟨rfl, rfl, trivial⟩⟩
      · have m : meets layer x y c = false := by rw [meets, on, ← mr]; simpa using h3
        (refine zw_k (zb_n (zt_n (zw_o (zP rfl rfl rfl rfl zI (zo_n rfl (zs_q rfl rfl (zqA zI ?_))))))); refine And.intro ⟨by omega, by omega⟩ ?_)
        (refine zkq (zst_p (zo_n rfl (zs_as rfl rfl rfl (zas_n rfl) (zst_p (zo_0 (zt_n (zaf_raw ?_))))))); refine ⟨(i + 1), _, SLe.refl _ _, ?_⟩)
        exact ⟨by omega, by omega, ⟨rfl, rfl, rfl, rfl, rfl, av_i64 (by rw [no m]), av_bool (by rw [no m]), rfl, trivial⟩, ⟨rfl, rfl, trivial⟩⟩
    · ((refine zg_t (zs_q rfl rfl (zq1 zI (zkq (zst_bx (zo_g1 rfl rfl rfl rfl (zs_q rfl rfl (zq1 zI (zkq (zst_p (zo_g1 rfl rfl rfl rfl (zs_q rfl rfl ?_))))))))))); refine zq1 zI (zkq (zst_p (zo_g1 rfl rfl rfl rfl (zs_q rfl rfl (zq1 zI (zkq (zst_p (zP rfl rfl rfl rfl zI (zP rfl rfl rfl rfl zI (zo_g rfl rfl rfl rfl ?_))))))))))); refine bcase_split (fun h4 => ?_) (fun h4 => ?_) <;> try simp only [decide_eq_true_eq, decide_eq_false_iff_not, ge_iff_le, gt_iff_lt, Bool.not_eq_true', Bool.not_eq_false'] at h4)
      · have on : onB c layer = true := by rw [onB, decide_eq_true h4, Bool.or_true]
        ((refine zg_t (zs_q rfl rfl (zq1 zI (zkq (zst_bx (zo_g1 rfl rfl rfl rfl (zs_q rfl rfl (zq1 zI (zkq (zst_p (zo_g1 rfl rfl rfl rfl (zs_q rfl rfl ?_))))))))))); refine zq1 zI (zkq (zst_p (zo_g1 rfl rfl rfl rfl (zs_n rfl rfl rfl (zqX zI ?_)))))); refine ⟨_, _, (ref_hasPoint c.region x y hl), ?_⟩)
        (refine zkn rfl rfl (zst_p (zP rfl rfl rfl rfl zI (zo_0 (zt_n (zw_c rfl ?_))))); refine bcase_split (fun h3 => ?_) (fun h3 => ?_) <;> try simp only [decide_eq_true_eq, decide_eq_false_iff_not, ge_iff_le, gt_iff_lt, Bool.not_eq_true', Bool.not_eq_false'] at h3)
        · have m : meets layer x y c = true := by rw [meets, on, ← mr, h3]; rfl
          ((refine zw_o (zP rfl rfl rfl rfl zI (zV rfl rfl rfl rfl zI (zP rfl rfl rfl rfl zI (zP rfl rfl rfl rfl zI (zo_n rfl (zs_as rfl rfl rfl (zas_n rfl) (zst_p (zo_n rfl (zs_as rfl rfl rfl (zas_n rfl) (zst_p (zo_0 ?_))))))))))); refine zb_n (zt_n (zw_o (zP rfl rfl rfl rfl zI (zo_n rfl (zs_q rfl rfl (zqA zI ?_))))))); refine And.intro ⟨by omega, by omega⟩ ?_)
          (refine zkq (zst_p (zo_n rfl (zs_as rfl rfl rfl (zas_n rfl) (zst_p (zo_0 (zt_n (zaf_raw ?_))))))); refine ⟨(i + 1), _, SLe.refl _ _, ?_⟩)
          exact ⟨by omega, by omega, ⟨rfl, rfl, rfl, rfl, rfl, av_i64 (y1 m), av_bool (y2 m), rfl, trivial⟩, ⟨rfl, rfl, trivial⟩⟩
        · have m : meets layer x y c = false := by rw [meets, on, ← mr]; simpa using h3
          (refine zw_k (zb_n (zt_n (zw_o (zP rfl rfl rfl rfl zI (zo_n rfl (zs_q rfl rfl (zqA zI ?_))))))); refine And.intro ⟨by omega, by omega⟩ ?_)
          (refine zkq (zst_p (zo_n rfl (zs_as rfl rfl rfl (zas_n rfl) (zst_p (zo_0 (zt_n (zaf_raw ?_))))))); refine ⟨(i + 1), _, SLe.refl _ _, ?_⟩)
          exact ⟨by omega, by omega, ⟨rfl, rfl, rfl, rfl, rfl, av_i64 (by rw [no m]), av_bool (by rw [no m]), rfl, trivial⟩, ⟨rfl, rfl, trivial⟩⟩
      · have on : onB c layer = false := by rw [onB, decide_eq_false (by omega : ¬ c.layer < 0), decide_eq_false h4]; rfl
        have m : meets layer x y c = false := by rw [meets, on]; rfl
        ((refine zg_f (zst_p (zo_g0 rfl rfl rfl rfl (zst_p (zo_g0 rfl rfl rfl rfl (zst_p (zo_g0 rfl rfl rfl rfl (zst_p (zP rfl rfl rfl rfl zI (zo_0 (zt_n (zw_c rfl ?_))))))))))); refine zc_f (zw_k (zb_n (zt_n (zw_o (zP rfl rfl rfl rfl zI (zo_n rfl (zs_q rfl rfl (zqA zI ?_))))))))); refine And.intro ⟨by omega, by omega⟩ ?_)
        (refine zkq (zst_p (zo_n rfl (zs_as rfl rfl rfl (zas_n rfl) (zst_p (zo_0 (zt_n (zaf_raw ?_))))))); refine ⟨(i + 1), _, SLe.refl _ _, ?_⟩)
        exact ⟨by omega, by omega, ⟨rfl, rfl, rfl, rfl, rfl, av_i64 (by rw [no m]), av_bool (by rw [no m]), rfl, trivial⟩, ⟨rfl, rfl, trivial⟩⟩
  · have e : i = r.areas.length := by omega
    subst e
    have tl : r.areas.take r.areas.length = r.areas := List.take_length
    (refine zw_x (zt_x (zt_x (zb_h (zt_n (zw_s (zw_s (zw_o (zP rfl rfl rfl rfl zI (zo_0 (zt_n (zw_c rfl ?_))))))))))); refine bcase_split (fun h2 => ?_) (fun h2 => ?_) <;> try simp only [decide_eq_true_eq, decide_eq_false_iff_not, ge_iff_le, gt_iff_lt, Bool.not_eq_true', Bool.not_eq_false'] at h2)
    · have h2 : 0 ≤ mostOf layer x y (r.areas.take r.areas.length) (-1) := by simpa using h2
      (refine zw_s (zw_o (zP rfl rfl rfl rfl zI (zo_n rfl (zs_as rfl rfl rfl (zas_n rfl) (zst_p (zo_0 (zt_n (zw_r (zt_r (ze_r zi ?_)))))))))); refine And.intro ?_ trivial)
      rw [tl] at h2 ⊢
      rw [needFor, if_pos h2]
      congr 2
      omega
    · have h2 : ¬ 0 ≤ mostOf layer x y (r.areas.take r.areas.length) (-1) := by simpa using h2
      ((refine zw_k (zt_n (zw_s (zw_d false [true, true, true, true, true, true, true, true] rfl (by kernel_rfl) (zp_s rfl (zp_s rfl (zp_n rfl rfl (zp_s rfl (zp_s rfl (zp_n rfl rfl (zp_q rfl (zD rfl rfl rfl zI ?_))))))))))); refine zD rfl rfl rfl zI (zd_n rfl (zd_q rfl (zqX zI ?_)))); refine ⟨_, _, (ref6_clearOf r hg a), ?_⟩)
      (refine zkd (zst_p (zD rfl rfl rfl zI (zD rfl rfl rfl zI (zd_n rfl (zd_q rfl (zqX zI ?_)))))); refine ⟨_, _, (ref6_clearOf r hg b), ?_⟩)
      ((refine zkd (zst_p (zD rfl rfl rfl zI (zD rfl rfl rfl zI (zd_0 (zr_s rfl (zr_s rfl (zr_s rfl (zr_s rfl (zr_s rfl (zr_s rfl (zr_s rfl ?_))))))))))); refine zr_k rfl rfl (zr_q rfl (zt_n (zw_r (ze_r zi ?_))))); refine And.intro ?_ trivial)
      rw [tl] at h2
      rw [needFor, if_neg h2]; rfl
theorem ref6_Needs (r : Rules) (ho : rulesOK r) (a b : ByteArray) (ha : strOK a) (hb : strOK b) (layer x y : Int) : ACalls C 14 [.pv (.ag (rl r)), .pv (str a), .pv (str b), .pv (i64 layer), .pv (.ag [i64 x, i64 y])] (.tu [i64 (needsR r a b layer x y).1, i64 (needsR r a b layer x y).2]) [] := by
  refine fun_go hC Tryz.func14 rfl rfl 40 rfl (by decide) (by kernel_rfl) fun _ _ _ _ _ => ?_
  ((refine zw_s (zw_o (zo_n rfl (zs_n rfl rfl rfl (zq1 zI (zkns (zst_bx (zo_n rfl (zs_n rfl rfl rfl (zq1 zI (zkns (zst_bx ?_))))))))))); refine zo_n rfl (zs_as rfl rfl rfl (zas_n rfl) (zst_p (zo_n rfl (zs_as rfl rfl rfl (zas_n rfl) (zst_p (zo_0 (zt_n (zw_s (zw_s (zw_o (zP rfl rfl rfl rfl zI ?_))))))))))); refine zo_n rfl (zs_n rfl rfl rfl (zqX zI ?_))); refine ⟨_, _, (ref_checkRules r ho), ?_⟩)
  ((refine zkn rfl rfl (zst_p (zo_n rfl (zs_as rfl rfl rfl (zas_n rfl) (zst_p (zo_0 (zt_n (zw_s (zw_o (zP rfl rfl rfl rfl zI (zP rfl rfl rfl rfl zI (zo_0 ?_))))))))))); refine zt_n (zw_c rfl ?_)); refine bcase_split (fun h1 => ?_) (fun h1 => ?_) <;> try simp only [decide_eq_true_eq, decide_eq_false_iff_not, ge_iff_le, gt_iff_lt, Bool.not_eq_true', Bool.not_eq_false'] at h1)
  · ((refine zw_s (zw_o (zP rfl rfl rfl rfl zI (zo_n rfl (zs_as rfl rfl rfl (zas_n rfl) (zst_p (zo_n rfl (zs_as rfl rfl rfl (zas_n rfl) (zst_p (zo_0 (zt_n (zw_r ?_))))))))))); refine zt_r (ze_r zi ?_)); refine And.intro ?_ trivial)
    have h1 : ¬ rulesFault r = 0 := by simpa using h1
    rw [needsR, if_neg h1]; rfl
  · have h1 : rulesFault r = 0 := by simpa using h1
    have hg := rules_good h1
    rw [needsR, if_pos h1]
    (refine zw_k (zt_n (zw_s (zw_s (zw_o (zP rfl rfl rfl rfl zI (zo_n rfl (zs_n rfl rfl rfl (zqX zI ?_)))))))); refine ⟨_, _, (ref6_netName a ha), ?_⟩)
    (refine zkn rfl rfl (zst_p (zP rfl rfl rfl rfl zI (zP rfl rfl rfl rfl zI (zo_g rfl rfl rfl rfl ?_)))); refine bcase_split (fun h2 => ?_) (fun h2 => ?_) <;> try simp only [decide_eq_true_eq, decide_eq_false_iff_not, ge_iff_le, gt_iff_lt, Bool.not_eq_true', Bool.not_eq_false'] at h2)
    · ((refine zg_f (zst_p (zo_g0 rfl rfl rfl rfl (zst_p (zo_g0 rfl rfl rfl rfl (zst_p (zP rfl rfl rfl rfl zI (zo_0 (zt_n (zw_c rfl (zc_t (zw_s ?_))))))))))); refine zw_o (zo_n rfl (zs_as rfl rfl rfl (zas_n rfl) (zst_p (zo_n rfl (zs_as rfl rfl rfl (zas_n rfl) (zst_p (zo_0 (zt_n (zw_r (zt_r (ze_r zi ?_)))))))))))); refine And.intro ?_ trivial)
      rw [if_neg (by simp [h2])]; rfl
    · (refine zg_t (zs_q rfl rfl (zq1 zI (zkq (zst_p (zo_g1 rfl rfl rfl rfl (zs_n rfl rfl rfl (zqX zI ?_))))))); refine ⟨_, _, (ref6_netName b hb), ?_⟩)
      (refine zkn rfl rfl (zst_p (zo_g1 rfl rfl rfl rfl (zs_q rfl rfl (zq1 zI (zkq (zst_p (zP rfl rfl rfl rfl zI (zo_0 (zt_n (zw_c rfl ?_)))))))))); refine bcase_split (fun h3 => ?_) (fun h3 => ?_) <;> try simp only [decide_eq_true_eq, decide_eq_false_iff_not, ge_iff_le, gt_iff_lt, Bool.not_eq_true', Bool.not_eq_false'] at h3)
      · ((refine zw_s (zw_o (zo_n rfl (zs_as rfl rfl rfl (zas_n rfl) (zst_p (zo_n rfl (zs_as rfl rfl rfl (zas_n rfl) (zst_p (zo_0 (zt_n (zw_r (zt_r ?_))))))))))); refine ze_r zi ?_); refine And.intro ?_ trivial)
        rw [if_neg (by simp [h3])]; rfl
      · rw [if_pos (by simp [h2, h3])]
        (refine zw_k (zt_n (zw_s (zw_s (zw_o (zP rfl rfl rfl rfl zI (zo_n rfl (zs_n rfl rfl rfl (zqX zI ?_)))))))); refine ⟨_, _, (ref6_within layer 0 15), ?_⟩)
        (refine zkn rfl rfl (zst_p (zP rfl rfl rfl rfl zI (zP rfl rfl rfl rfl zI (zo_g rfl rfl rfl rfl ?_)))); refine bcase_split (fun h4 => ?_) (fun h4 => ?_) <;> try simp only [decide_eq_true_eq, decide_eq_false_iff_not, ge_iff_le, gt_iff_lt, Bool.not_eq_true', Bool.not_eq_false'] at h4)
        · ((refine zg_f (zst_p (zo_g0 rfl rfl rfl rfl (zst_p (zo_g0 rfl rfl rfl rfl (zst_p (zP rfl rfl rfl rfl zI (zo_0 (zt_n (zw_c rfl (zc_t (zw_s ?_))))))))))); refine zw_o (zo_n rfl (zs_as rfl rfl rfl (zas_n rfl) (zst_p (zo_n rfl (zs_as rfl rfl rfl (zas_n rfl) (zst_p (zo_0 (zt_n (zw_r (zt_r (ze_r zi ?_)))))))))))); refine And.intro ?_ trivial)
          rw [if_neg (by simp [h4])]; rfl
        · (refine zg_t (zs_q rfl rfl (zq1 zI (zkq (zst_p (zo_g1 rfl rfl rfl rfl (zs_n rfl rfl rfl (zqX zI ?_))))))); refine ⟨_, _, (ref_point x y), ?_⟩)
          (refine zkn rfl rfl (zst_p (zo_g1 rfl rfl rfl rfl (zs_q rfl rfl (zq1 zI (zkq (zst_p (zP rfl rfl rfl rfl zI (zo_0 (zt_n (zw_c rfl ?_)))))))))); refine bcase_split (fun h5 => ?_) (fun h5 => ?_) <;> try simp only [decide_eq_true_eq, decide_eq_false_iff_not, ge_iff_le, gt_iff_lt, Bool.not_eq_true', Bool.not_eq_false'] at h5)
          · ((refine zw_s (zw_o (zo_n rfl (zs_as rfl rfl rfl (zas_n rfl) (zst_p (zo_n rfl (zs_as rfl rfl rfl (zas_n rfl) (zst_p (zo_0 (zt_n (zw_r (zt_r ?_))))))))))); refine ze_r zi ?_); refine And.intro ?_ trivial)
            rw [if_neg (by simp_all)]; rfl
          · rw [if_pos (by simp_all)]
            (refine zw_k (zt_n (zw_s (zw_o (zP rfl rfl rfl rfl zI (zP rfl rfl rfl rfl zI (zP rfl rfl rfl rfl zI (zP rfl rfl rfl rfl zI (zP rfl rfl rfl rfl zI (zo_n rfl (zs_n rfl rfl rfl (zqX zI ?_))))))))))); refine ⟨_, _, (ref6_needs r hg a b layer x y), ?_⟩)
            (refine zkn rfl rfl (zst_p (zo_n rfl (zs_as rfl rfl rfl (zas_n rfl) (zst_p (zo_n rfl (zs_as rfl rfl rfl (zas_n rfl) (zst_p (zo_0 (zt_n (zw_r (ze_r zi ?_))))))))))); refine And.intro ?_ trivial)
            rfl
theorem ref6_WidthOf (r : Rules) (ho : rulesOK r) (a : ByteArray) (ha : strOK a) : ACalls C 16 [.pv (.ag (rl r)), .pv (str a)] (.tu [i64 (widthR r a).1, i64 (widthR r a).2]) [] := by
  refine fun_go hC Tryz.func16 rfl rfl 18 rfl (by decide) (by kernel_rfl) fun _ _ _ _ _ => ?_
  ((refine zw_s (zw_o (zo_n rfl (zs_n rfl rfl rfl (zq1 zI (zkns (zst_bx (zo_n rfl (zs_as rfl rfl rfl (zas_n rfl) (zst_p (zo_n rfl (zs_as rfl rfl rfl (zas_n rfl) ?_))))))))))); refine zst_p (zo_0 (zt_n (zw_s (zw_s (zw_o (zP rfl rfl rfl rfl zI (zo_n rfl (zs_n rfl rfl rfl (zqX zI ?_)))))))))); refine ⟨_, _, (ref_checkRules r ho), ?_⟩)
  ((refine zkn rfl rfl (zst_p (zo_n rfl (zs_as rfl rfl rfl (zas_n rfl) (zst_p (zo_0 (zt_n (zw_s (zw_o (zP rfl rfl rfl rfl zI (zP rfl rfl rfl rfl zI (zo_0 ?_))))))))))); refine zt_n (zw_c rfl ?_)); refine bcase_split (fun h1 => ?_) (fun h1 => ?_) <;> try simp only [decide_eq_true_eq, decide_eq_false_iff_not, ge_iff_le, gt_iff_lt, Bool.not_eq_true', Bool.not_eq_false'] at h1)
  · ((refine zw_s (zw_o (zP rfl rfl rfl rfl zI (zo_n rfl (zs_as rfl rfl rfl (zas_n rfl) (zst_p (zo_n rfl (zs_as rfl rfl rfl (zas_n rfl) (zst_p (zo_0 (zt_n (zw_r ?_))))))))))); refine zt_r (ze_r zi ?_)); refine And.intro ?_ trivial)
    have h1 : ¬ rulesFault r = 0 := by simpa using h1
    rw [widthR, if_neg h1]; rfl
  · have h1 : rulesFault r = 0 := by simpa using h1
    have hg := rules_good h1
    rw [widthR, if_pos h1]
    (refine zw_k (zt_n (zw_s (zw_s (zw_o (zP rfl rfl rfl rfl zI (zo_n rfl (zs_n rfl rfl rfl (zqX zI ?_)))))))); refine ⟨_, _, (ref6_netName a ha), ?_⟩)
    (refine zkn rfl rfl (zst_p (zP rfl rfl rfl rfl zI (zo_0 (zt_n (zw_c rfl ?_))))); refine bcase_split (fun h2 => ?_) (fun h2 => ?_) <;> try simp only [decide_eq_true_eq, decide_eq_false_iff_not, ge_iff_le, gt_iff_lt, Bool.not_eq_true', Bool.not_eq_false'] at h2)
    · ((refine zw_s (zw_o (zo_n rfl (zs_as rfl rfl rfl (zas_n rfl) (zst_p (zo_n rfl (zs_as rfl rfl rfl (zas_n rfl) (zst_p (zo_0 (zt_n (zw_r (zt_r ?_))))))))))); refine ze_r zi ?_); refine And.intro ?_ trivial)
      rw [if_neg (by simp [h2])]; rfl
    · rw [if_pos (by simpa using h2)]
      (refine zw_k (zt_n (zw_s (zw_o (zP rfl rfl rfl rfl zI (zP rfl rfl rfl rfl zI (zo_n rfl (zs_n rfl rfl rfl (zqX zI ?_)))))))); refine ⟨_, _, (ref6_widthOf r hg a), ?_⟩)
      (refine zkn rfl rfl (zst_p (zo_n rfl (zs_as rfl rfl rfl (zas_n rfl) (zst_p (zo_n rfl (zs_as rfl rfl rfl (zas_n rfl) (zst_p (zo_0 (zt_n (zw_r (ze_r zi ?_))))))))))); refine And.intro ?_ trivial)
      rfl
end Go.Proofs.YtcfhiodoogkcpaaGreatDoor.M
