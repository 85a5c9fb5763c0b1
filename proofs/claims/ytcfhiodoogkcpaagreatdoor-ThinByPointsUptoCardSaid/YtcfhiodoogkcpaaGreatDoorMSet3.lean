/- By the machine: the house's sets: what is in one alone, what is around, how many rectangles. -/
import Derived.Test.YtcfhiodoogkcpaaGreatDoorMSet2
set_option linter.unusedSimpArgs false
set_option linter.unusedVariables false
namespace Go.Proofs.YtcfhiodoogkcpaaGreatDoor.M
open Go.AM Go.RowKit Go.Lib
open Reg (Rect Spans Band cuts SOK InK BOK lessS aroundS wideR fstCut lastCut topOf told shiftR spreadS coreS thinS Canon Full RK)

theorem house_less (a b : List Band) (ha : SOK a) (hb' : SOK b) (ka : InK 2000000 a) (kb : InK 2000000 b) : ACalls C 49 [.pv (bandsV a), .pv (bandsV b)] (.p (bandsV (lessS a b))) [] := by
  refine fun_go hC Tryz.func49 rfl rfl 8 rfl (by decide) (by kernel_rfl) fun _ _ _ _ _ => ?_
  ((refine zw_s (zw_o (zo_n rfl (zs_as rfl rfl rfl (zas_n rfl) (zst_nl (zo_0 (zt_n (zw_s (zw_o (zP rfl rfl rfl rfl zI (zP rfl rfl rfl rfl zI (zo_n rfl ?_))))))))))); refine zs_n rfl rfl rfl (zqX zI ?_)); refine ⟨_, _, (house_merge a b ha hb' ka kb), ?_⟩)
  (refine zkn rfl rfl (zst_p (zo_n rfl (zs_as rfl rfl rfl (zas_n rfl) (zst_p (zo_0 (zt_n (zw_r (ze_r zi ?_)))))))); refine And.intro ?_ trivial)
  rfl
theorem cut_get {b : Band} (h : BOK b) : ∃ u, flat b.xs = fstCut b :: (cuts b.xs).getD 1 0 :: u ∧ (flat b.xs)[(flat b.xs).length - 1]? = some (lastCut b) := by
  have hne := h.ne
  unfold fstCut lastCut
  rw [flat_cuts]
  cases hx : b.xs with
  | nil => exact absurd hx hne
  | cons p u =>
    refine ⟨cuts u, rfl, ?_⟩
    rw [← List.getLast?_eq_getElem?]
    cases hl : (cuts (p :: u)).getLast? with
    | none => rw [List.getLast?_eq_none_iff] at hl; cases hl
    | some c => rfl
set_option maxRecDepth 100000 in
set_option maxHeartbeats 2000000 in
theorem house_around (s : List Band) (hs : SOK s) (ks : InK 2000000 s) (hn : s ≠ []) : ACalls C 108 [.pv (bandsV s)] (.p (.ag (rc (aroundS s)))) [] := by
  refine fun_go hC Tryz.func108 rfl rfl 58 rfl (by decide) (by kernel_rfl) fun _ _ _ _ _ => ?_
  have ls := Reg.bands_len hs (by omega) ks
  have ms := len_map s hb
  rcases s with _ | ⟨b, s⟩
  · exact absurd rfl hn
  · obtain ⟨u, hu, hl⟩ := cut_get hs.head
    obtain ⟨t1, ht1, ht2⟩ := Reg.top_get b s
    obtain ⟨r0, hr0⟩ : ∃ r0 : Rect, r0 = ⟨fstCut b, b.y0, (cuts b.xs).getD 1 0, t1.y1⟩ := ⟨_, rfl⟩
    have hA : aroundS (b :: s) = (b :: s).foldl wideR r0 := by rw [hr0, ht2]; rfl
    simp at ls
    have lbs : (b :: s).length ≤ 4000000 := by simp; omega
    have g0 : (flat b.xs)[0]? = some (fstCut b) := by rw [hu]; rfl
    have g1 : (flat b.xs)[1]? = some ((cuts b.xs).getD 1 0) := by rw [hu]; rfl
    ((refine zw_s (zw_o (zo_n rfl (zs_n rfl rfl rfl (zq1 zI (zkns (zst_bx (zo_0 (zt_n (zw_s (zw_d false [true, true, true, true, true, true, true, true, true, true, true, true, true, true, true, true, true, true, true, true, true, true, true, true, true, true] rfl (by kernel_rfl) (zp_s rfl ?_))))))))))); refine zp_s rfl (zp_s rfl (zp_s rfl (zp_s rfl (zp_s rfl (zp_s rfl (zp_s rfl (zp_s rfl (zp_s rfl (zp_s rfl (zp_s rfl (zp_s rfl ?_))))))))))); refine zp_s rfl (zp_s rfl (zp_s rfl (zp_s rfl (zp_s rfl (zp_s rfl (zp_s rfl (zp_s rfl (zp_s rfl (zp_s rfl (zp_s rfl (zp_n rfl rfl ?_))))))))))); refine zp_q rfl (zD rfl rfl rfl zI (zd_n rfl (zd_q rfl (zqX zI ?_))))); refine ⟨(hb b), (idx (i := 0) rfl rfl), ?_⟩)
    (refine zkd (zst_p (zD rfl rfl rfl zI (zD rfl rfl rfl zI (zd_n rfl (zd_q rfl (zqX zI ?_)))))); refine ⟨[i64 (fstCut b)], (idx (i := 0) rfl g0), ?_⟩)
    (refine zkd (zst_p (zD rfl rfl rfl zI (zD rfl rfl rfl zI (zd_n rfl (zd_q rfl (zqX zI ?_)))))); refine ⟨(hb b), (idx (i := 0) rfl rfl), ?_⟩)
    (refine zkd (zst_p (zD rfl rfl rfl zI (zD rfl rfl rfl zI (zD rfl rfl rfl zI (zd_n rfl (zd_q rfl (zqX zI ?_))))))); refine ⟨(hb b), (idx (i := 0) rfl rfl), ?_⟩)
    (refine zkd (zst_p (zD rfl rfl rfl zI (zD rfl rfl rfl zI (zd_n rfl (zd_q rfl (zqX zI ?_)))))); refine ⟨[i64 ((cuts b.xs).getD 1 0)], (idx (i := 1) rfl g1), ?_⟩)
    (refine zkd (zst_p (zD rfl rfl rfl zI (zD rfl rfl rfl zI (zD rfl rfl rfl zI (zD rfl rfl rfl zI (zd_n rfl (zd_q rfl (zqA zI ?_)))))))); refine And.intro ⟨by simp, by simp; omega⟩ ?_)
    (refine zkd (zst_p (zd_n rfl (zd_q rfl (zqX zI ?_)))); refine ⟨(hb t1), (idx (show (((b :: s).map hb).length : Int) - 1 = ((s.length : Nat) : Int) by simp) ht1), ?_⟩)
    (refine zkd (zst_p (zD rfl rfl rfl zI (zD rfl rfl rfl zI (zD rfl rfl rfl zI (zd_n rfl (zd_q rfl (zq1 zI (zkdn rfl rfl (zst_bx (zd_n rfl (zd_q rfl ?_))))))))))); refine zq1 zI (zkde rfl (zst_e (zst_0 (zd_0 (zr_q rfl (zt_n (zw_s (zw_s (zw_o (zP rfl rfl rfl rfl zI (zP rfl rfl rfl rfl zI ?_))))))))))); refine zP rfl rfl rfl rfl zI (zo_0 (zt_n (zw_b ?_))))
    refine loop_ok' (fun i : Nat => i ≤ (b :: s).length) (fun i => [(2, .bx 2 0), (3, .bx 3 0), (30, .p (bandsV (b :: s))), (31, .p (i64 ((b :: s).map hb).length)), (32, .p (i64 i))]) (fun i => [(2, .box [.p (i64 0), .p (i64 0), .p (i64 0), .p (i64 0)]), (3, .box [.p (i64 (((b :: s).take i).foldl wideR r0).x0), .p (i64 (((b :: s).take i).foldl wideR r0).y0), .p (i64 (((b :: s).take i).foldl wideR r0).x1), .p (i64 (((b :: s).take i).foldl wideR r0).y1)])]) (fun i => (b :: s).length - i) 0 _ (SLe.refl _ _) (Nat.zero_le _) ⟨rfl, rfl, rfl, rfl, rfl, trivial⟩ ⟨rfl, by rw [hr0]; rfl, trivial⟩ fun i hi t h => ?_
    (refine zw_s (zw_o (zP rfl rfl rfl rfl zI (zo_0 (zt_n (zw_s (zw_c rfl ?_)))))); refine bcase_split (fun g2 => ?_) (fun g2 => ?_) <;> try simp only [decide_eq_true_eq, decide_eq_false_iff_not, ge_iff_le, gt_iff_lt, Bool.not_eq_true', Bool.not_eq_false'] at g2)
    · rw [ms] at g2
      obtain ⟨c, hc⟩ := get_of (l := b :: s) (i := i) (by omega)
      have cb := hs.mem c (List.mem_of_getElem? hc)
      obtain ⟨u', hu', hl'⟩ := cut_get cb
      have lx := Reg.xs_len hs (by omega) ks c (List.mem_of_getElem? hc)
      have fl := flat_length c.xs
      have fm := len_map (flat c.xs) fun n => [i64 n]
      have fne : 1 ≤ (flat c.xs).length := by rw [hu']; simp
      have g3 : (flat c.xs)[0]? = some (fstCut c) := by rw [hu']; rfl
      have e1 : ((b :: s).take (i + 1)).foldl wideR r0 = wideR (((b :: s).take i).foldl wideR r0) c := by rw [take_succ' hc, List.foldl_append]; rfl
      generalize ((b :: s).take i).foldl wideR r0 = acc at *
      refine zw_k ?_
      refine zt_n ?_
      refine zw_s ?_
      refine zw_b ?_
      refine zw_sl ?_
      (refine zw_o (zo_n rfl (zs_q rfl rfl (zqX zI ?_))); refine ⟨(hb c), (idx rfl hc), ?_⟩)
      (refine zkq (zst_p (zP rfl rfl rfl rfl zI (zo_n rfl (zs_n rfl rfl rfl (zq1 zI (zkns (zst_bx (zo_n rfl (zs_q rfl rfl (zq1 zI (zkq ?_))))))))))); refine zst_e (zst_0 (zo_0 (zt_n (zaf_raw ?_)))))
      refine zPV 5 (y := .ip (hb c)) (fz := [(5, .fbx (hb c))]) (by exact hC) (by exact ⟨rfl, rfl⟩) ?_
      (refine zw_d false [true, true, true, true, true, true, true, true, true, true, false, true, false, false, true, false, false, true, true, true, true, true] rfl (by kernel_rfl) (zp_q rfl (zW rfl rfl rfl zI (zD rfl rfl rfl zI (zD rfl rfl rfl zI (zD rfl rfl rfl zI (zd_n rfl (zd_q rfl (zqX zI ?_)))))))); refine ⟨[i64 (fstCut c)], (idx (i := 0) rfl g3), ?_⟩)
      ((refine zkd (zst_p (zD rfl rfl rfl zI (zD rfl rfl rfl zI (zW rfl rfl rfl zI (zD rfl rfl rfl zI (zD rfl rfl rfl zI (zD rfl rfl rfl zI (zD rfl rfl rfl zI (zD rfl rfl rfl zI (zD rfl rfl rfl zI (zd_n rfl ?_))))))))))); refine zd_q rfl (zqA zI ?_)); refine And.intro ⟨by rw [fm]; omega, by rw [fm]; omega⟩ ?_)
      (refine zkd (zst_p (zd_n rfl (zd_q rfl (zqX zI ?_)))); refine ⟨[i64 (lastCut c)], (idx (show (((flat c.xs).map fun n => [i64 n]).length : Int) - 1 = (((flat c.xs).length - 1 : Nat) : Int) by rw [fm]; omega) hl'), ?_⟩)
      ((refine zkd (zst_p (zD rfl rfl rfl zI (zD rfl rfl rfl zI (zW rfl rfl rfl zI (zd_n rfl (zd_q rfl (zq1 zI (zkde rfl (zst_e (zst_0 (zW rfl rfl rfl zI ?_))))))))))); refine zd_n rfl (zd_q rfl (zq1 zI (zkde rfl (zst_e (zst_0 (zd_0 (zr_q rfl (zb_n (zt_n (zw_o (zo_n rfl ?_))))))))))); refine zs_q rfl rfl (zqA zI ?_)); refine And.intro ⟨by omega, by omega⟩ ?_)
      (refine zkq (zst_p (zP rfl rfl rfl rfl zI (zo_0 (zt_n (zaf_raw ?_))))); refine ⟨(i + 1), _, SLe.refl _ _, ?_⟩)
      rw [e1]
      exact ⟨by omega, by omega, ⟨rfl, rfl, rfl, rfl, rfl, trivial⟩, ⟨rfl, rfl, trivial⟩⟩
    · rw [ms] at g2
      ((refine zw_x (zt_x (zt_x (zb_h (zt_n (zw_s (zw_o (zP rfl rfl rfl rfl zI (zo_n rfl (zs_q rfl rfl (zq1 zI (zkq ?_))))))))))); refine zst_e (zst_0 (zo_0 (zt_n (zw_r (ze_r zi ?_)))))); refine And.intro ?_ trivial)
      rw [List.take_of_length_le (by omega), ← hA]
      rfl
theorem told_snoc {s : List Band} {i : Nat} {b : Band} (h : s[i]? = some b) : (told (s.take (i + 1))).length = (told (s.take i)).length + b.xs.length := by
  rw [told_step h, List.length_append, List.length_map]
set_option maxRecDepth 100000 in
theorem house_many (s : List Band) (hN : s.length ≤ 1000000000000) (hX : ∀ t ∈ s, t.xs.length ≤ 1000000000000) (hT : (told s).length ≤ 4398046511104) : ACalls C 86 [.pv (bandsV s)] (.p (i64 (told s).length)) [] := by
  refine fun_go hC Tryz.func86 rfl rfl 20 rfl (by decide) (by kernel_rfl) fun _ _ _ _ _ => ?_
  have ms := len_map s hb
  have tl : ∀ i, (told (s.take i)).length ≤ (told s).length := fun i => by
    have e : told s = told (s.take i) ++ told (s.drop i) := by
      unfold told
      rw [← List.flatMap_append, List.take_append_drop]
    rw [e, List.length_append]
    omega
  (refine zw_s (zw_o (zo_n rfl (zs_as rfl rfl rfl (zas_n rfl) (zst_p (zo_0 (zt_n (zw_s (zw_o (zo_n rfl (zs_as rfl rfl rfl (zas_n rfl) (zst_p ?_))))))))))); refine zo_0 (zt_n (zw_s (zw_s (zw_o (zP rfl rfl rfl rfl zI (zP rfl rfl rfl rfl zI (zP rfl rfl rfl rfl zI (zo_0 (zt_n (zw_b ?_)))))))))))
  refine loop_ok' (fun i : Nat => i ≤ s.length) (fun i => [(3, .p (i64 (told (s.take i)).length)), (6, .p (bandsV s)), (7, .p (i64 (s.map hb).length)), (8, .p (i64 i))]) (fun i => []) (fun i => s.length - i) 0 _ (SLe.refl _ _) (Nat.zero_le _) ⟨rfl, rfl, rfl, rfl, trivial⟩ trivial fun i hi t h => ?_
  (refine zw_s (zw_o (zP rfl rfl rfl rfl zI (zo_0 (zt_n (zw_s (zw_c rfl ?_)))))); refine bcase_split (fun g2 => ?_) (fun g2 => ?_) <;> try simp only [decide_eq_true_eq, decide_eq_false_iff_not, ge_iff_le, gt_iff_lt, Bool.not_eq_true', Bool.not_eq_false'] at g2)
  · rw [ms] at g2
    obtain ⟨c, hc⟩ := get_of (l := s) (i := i) (by omega)
    have fl := flat_length c.xs
    have fm := len_map (flat c.xs) fun n => [i64 n]
    have e1 := told_snoc hc
    have t1 := tl (i + 1)
    have q : ((((flat c.xs).map fun n => [i64 n]).length : Nat) : Int).tdiv 2 = (c.xs.length : Int) := by
      rw [fm, fl, Int.tdiv_eq_ediv_of_nonneg (by omega)]
      omega
    (refine zw_k (zt_n (zw_s (zw_b (zw_s (zw_o (zo_n rfl (zs_q rfl rfl (zqX zI ?_)))))))); refine ⟨(hb c), (idx rfl hc), ?_⟩)
    ((refine zkq (zst_p (zP rfl rfl rfl rfl zI (zo_n rfl (zs_n rfl rfl rfl (zq1 zI (zkns (zst_bx (zo_n rfl (zs_q rfl rfl (zq1 zI (zkq ?_))))))))))); refine zst_e (zst_0 (zo_0 (zt_n (zw_o (zP rfl rfl rfl rfl zI (zV rfl rfl rfl rfl zI (zP rfl rfl rfl rfl zI (zP rfl rfl rfl rfl zI (zo_n rfl (zs_q rfl rfl (zqA zI ?_)))))))))))); refine And.intro (by decide) ?_)
    (refine zA zi ?_; refine And.intro ⟨by rw [q]; omega, by rw [q]; omega⟩ ?_)
    (refine zkq (zst_p (zo_n rfl (zs_q rfl rfl (zqA zI ?_)))); refine And.intro ⟨by rw [q]; omega, by rw [q]; omega⟩ ?_)
    (refine zkq (zst_p (zo_n rfl (zs_as rfl rfl rfl (zas_n rfl) (zst_p (zo_0 (zb_n (zt_n (zw_o (zo_n rfl (zs_q rfl rfl (zqA zI ?_))))))))))); refine And.intro ⟨by omega, by omega⟩ ?_)
    (refine zkq (zst_p (zP rfl rfl rfl rfl zI (zo_0 (zt_n (zaf_raw ?_))))); refine ⟨(i + 1), _, SLe.refl _ _, ?_⟩)
    exact ⟨by omega, by omega, ⟨av_i64 (by rw [q, e1]; omega), rfl, rfl, rfl, trivial⟩, trivial⟩
  · rw [ms] at g2
    ((refine zw_x (zt_x (zt_x (zb_h (zt_n (zw_s (zw_o (zP rfl rfl rfl rfl zI (zo_n rfl (zs_as rfl rfl rfl (zas_n rfl) (zst_p (zo_0 ?_))))))))))); refine zt_n (zw_r (ze_r zi ?_))); refine And.intro ?_ trivial)
    rw [List.take_of_length_le (by omega)]
end Go.Proofs.YtcfhiodoogkcpaaGreatDoor.M
