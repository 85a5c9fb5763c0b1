/- By the machine: the house's sets: merging. -/
import Derived.Test.YtcfhiodoogkcpaaGreatDoorMSet1
import Derived.Test.YtcfhiodoogkcpaaGreatDoorPlainSet5
set_option linter.unusedSimpArgs false
set_option linter.unusedVariables false
namespace Go.Proofs.YtcfhiodoogkcpaaGreatDoor.M
open Go.AM Go.RowKit Go.Lib
open Reg (Rect Spans Band lineF lineS lessK atS dropTo mergeF mergeS loOf hiOf topOf cuts pairUp SOK InK pushB lessS Canon)

theorem flat_cuts : ∀ s : Spans, flat s = cuts s
  | [] => rfl
  | p :: s => by rw [flat, cuts, flat_cuts s]
def bandsV (s : List Band) : PV := .sl (s.map hb)
set_option maxRecDepth 100000 in
theorem house_at (s : List Band) (y e : Int) : ACalls C 115 [.pv (bandsV s), .pv (i64 y), .pv (i64 e)] (.tu [ints (cuts (atS s y e).1), i64 (atS s y e).2]) [] := by
  refine fun_go hC Tryz.func115 rfl rfl 36 rfl (by decide) (by kernel_rfl) fun _ _ _ _ _ => ?_
  rcases s with _ | ⟨b, s⟩
  · ((refine zw_s (zw_o (zo_n rfl (zs_as rfl rfl rfl (zas_n rfl) (zst_nl (zo_n rfl (zs_as rfl rfl rfl (zas_n rfl) (zst_p (zo_0 (zt_n (zw_s (zw_b ?_))))))))))); refine zw_s (zw_o (zP rfl rfl rfl rfl zI (zP rfl rfl rfl rfl zI (zP rfl rfl rfl rfl zI (zo_n rfl (zs_as rfl rfl rfl (zas_n rfl) (zst_p (zo_0 (zt_n (zw_c rfl (zc_t ?_))))))))))); refine zw_s (zw_o (zP rfl rfl rfl rfl zI (zo_n rfl (zs_as rfl rfl rfl (zas_n rfl) (zst_nl (zo_n rfl (zs_as rfl rfl rfl (zas_n rfl) (zst_p (zo_0 (zt_n (zw_r ?_))))))))))); refine zb_r (zt_r (ze_r zi ?_))); refine And.intro ?_ trivial)
    rfl
  · have e1 : atS (b :: s) y e = if y < b.y0 then ([], min e b.y0) else (b.xs, min e b.y1) := rfl
    · ((refine zw_s (zw_o (zo_n rfl (zs_as rfl rfl rfl (zas_n rfl) (zst_nl (zo_n rfl (zs_as rfl rfl rfl (zas_n rfl) (zst_p (zo_0 (zt_n (zw_s (zw_b ?_))))))))))); refine zw_s (zw_o (zP rfl rfl rfl rfl zI (zP rfl rfl rfl rfl zI (zP rfl rfl rfl rfl zI (zo_n rfl (zs_as rfl rfl rfl (zas_n rfl) (zst_p (zo_0 (zt_n (zw_c rfl (zc_f ?_))))))))))); refine zw_s (zw_o (zP rfl rfl rfl rfl zI (zP rfl rfl rfl rfl zI (zo_n rfl (zs_q rfl rfl (zqX zI ?_))))))); refine ⟨(hb b), (idx (i := 0) rfl rfl), ?_⟩)
      (refine zkq (zst_p (zP rfl rfl rfl rfl zI (zP rfl rfl rfl rfl zI (zP rfl rfl rfl rfl zI (zo_n rfl (zs_as rfl rfl rfl (zas_n rfl) (zst_p (zo_0 (zt_n (zw_c rfl ?_)))))))))); refine bcase_split (fun g2 => ?_) (fun g2 => ?_) <;> try simp only [decide_eq_true_eq, decide_eq_false_iff_not, ge_iff_le, gt_iff_lt, Bool.not_eq_true', Bool.not_eq_false'] at g2)
      · rw [e1, if_pos g2]
        (refine zw_s (zw_d false [true, true, true, true, true, true, true, true] rfl (by kernel_rfl) (zp_q rfl (zD rfl rfl rfl zI (zD rfl rfl rfl zI (zd_n rfl (zd_q rfl (zqX zI ?_))))))); refine ⟨(hb b), (idx (i := 0) rfl rfl), ?_⟩)
        ((refine zkd (zst_p (zD rfl rfl rfl zI (zD rfl rfl rfl zI (zD rfl rfl rfl zI (zd_n rfl (zd_q rfl (zq1 zI (zkd (zst_nl (zD rfl rfl rfl zI (zd_0 ?_))))))))))); refine zr_s rfl (zr_s rfl (zr_s rfl (zr_s rfl (zr_s rfl (zr_s rfl (zr_k rfl rfl (zr_k rfl rfl (zr_q rfl (zt_n (zw_r (zb_r ?_))))))))))); refine zt_r (ze_r zi ?_)); refine And.intro ?_ trivial)
        rfl
      · rw [e1, if_neg g2, ← flat_cuts]
        (refine zw_k (zb_n (zt_n (zw_s (zw_d false [true, true, true, true, true, true, true, true, true, true, true, true] rfl (by kernel_rfl) (zp_q rfl (zD rfl rfl rfl zI (zd_n rfl (zd_q rfl (zqX zI ?_))))))))); refine ⟨(hb b), (idx (i := 0) rfl rfl), ?_⟩)
        (refine zkd (zst_p (zD rfl rfl rfl zI (zD rfl rfl rfl zI (zD rfl rfl rfl zI (zD rfl rfl rfl zI (zd_n rfl (zd_q rfl (zqX zI ?_)))))))); refine ⟨(hb b), (idx (i := 0) rfl rfl), ?_⟩)
        ((refine zkd (zst_p (zD rfl rfl rfl zI (zD rfl rfl rfl zI (zD rfl rfl rfl zI (zD rfl rfl rfl zI (zD rfl rfl rfl zI (zd_0 (zr_s rfl (zr_s rfl (zr_s rfl (zr_s rfl ?_))))))))))); refine zr_s rfl (zr_s rfl (zr_s rfl (zr_s rfl (zr_s rfl (zr_s rfl (zr_k rfl rfl (zr_k rfl rfl (zr_q rfl (zt_n (zw_r (ze_r zi ?_)))))))))))); refine And.intro ?_ trivial)
        rfl
theorem hb_rows {l : List Band} : ∀ r ∈ l.map hb, r.length = 3 := fun r hr => by
  obtain ⟨b, _, rfl⟩ := List.mem_map.1 hr
  rfl
/-- the range of heights, as the loop makes it -/
def st (a b : List Band) : Nat → Int × Int
  | 0 => (0, 0)
  | 1 => match a with
    | [] => (0, 0)
    | p :: r => (p.y0, topOf (p :: r))
  | _ => (loOf a b, hiOf a b)
set_option maxRecDepth 100000 in
set_option maxHeartbeats 4000000 in
theorem house_merge (a b : List Band) (ha : SOK a) (hb' : SOK b) (ka : InK 2000000 a) (kb : InK 2000000 b) : ACalls C 87 [.pv (bandsV a), .pv (bandsV b), .pv (fnv 88)] (.p (bandsV (lessS a b))) [] := by
  refine fun_go hC Tryz.func87 rfl rfl 126 rfl (by decide) (by kernel_rfl) fun _ _ _ _ _ => ?_
  have la := Reg.bands_len ha (by omega) ka
  have lb := Reg.bands_len hb' (by omega) kb
  have ma := len_map a hb
  have mb := len_map b hb
  ((refine zw_s (zw_o (zo_n rfl (zs_as rfl rfl rfl (zas_n rfl) (zst_nl (zo_0 (zt_n (zw_s (zw_o (zo_n rfl (zs_as rfl rfl rfl (zas_n rfl) (zst_nl ?_))))))))))); refine zo_0 (zt_n (zw_s (zw_s (zw_o (zP rfl rfl rfl rfl zI (zP rfl rfl rfl rfl zI (zP rfl rfl rfl rfl zI (zP rfl rfl rfl rfl zI (zo_n rfl (zs_q rfl rfl (zqA zI ?_)))))))))))); refine And.intro ⟨by rw [ma, mb]; omega, by rw [ma, mb]; omega⟩ ?_)
  (refine zkq (zst_p (zP rfl rfl rfl rfl zI (zo_0 (zt_n (zw_c rfl ?_))))); refine bcase_split (fun g0 => ?_) (fun g0 => ?_) <;> try simp only [decide_eq_true_eq, decide_eq_false_iff_not, ge_iff_le, gt_iff_lt, Bool.not_eq_true', Bool.not_eq_false'] at g0)
  · rw [ma, mb] at g0
    (refine zw_s (zw_o (zo_n rfl (zs_as rfl rfl rfl (zas_n rfl) (zst_nl (zo_0 (zt_n (zw_r (zt_r (ze_r zi ?_))))))))); refine And.intro ?_ trivial)
    rw [lessS, mergeS, if_pos (by omega)]
    rfl
  · rw [ma, mb] at g0
    have hn : a.length + b.length ≠ 0 := by omega
    (refine zw_k (zt_n (zw_s (zw_o (zo_n rfl (zs_as rfl rfl rfl (zas_n rfl) (zst_p (zo_n rfl (zs_as rfl rfl rfl (zas_n rfl) (zst_p (zo_0 (zt_n ?_))))))))))); refine zw_s (zw_s (zw_o (zP rfl rfl rfl rfl zI (zP rfl rfl rfl rfl zI (zo_n rfl (zs_n rfl rfl rfl (zq1 zI (zkns (zst_ow (zP rfl rfl rfl rfl zI (zP rfl rfl rfl rfl zI ?_))))))))))); refine zo_0 (zt_n (zw_b ?_)))
    refine loop_ok' (fun i : Nat => i ≤ 2) (fun i => [(0, .p (bandsV a)), (1, .p (bandsV b)), (2, .p (fnv 88)), (7, .nl), (8, .p (i64 (st a b i).1)), (9, .p (i64 (st a b i).2)), (25, .ow 25), (26, .p (i64 (2 : Nat))), (27, .p (i64 i))]) (fun i => [(25, .row 79 [[bandsV a], [bandsV b]])]) (fun i => 2 - i) 0 _ (SLe.refl _ _) (by omega) ⟨rfl, rfl, rfl, rfl, rfl, rfl, rfl, rfl, rfl, trivial⟩ ⟨rfl, trivial⟩ fun i hi t h => ?_
    (refine zw_s (zw_o (zP rfl rfl rfl rfl zI (zo_0 (zt_n (zw_s (zw_c rfl ?_)))))); refine bcase_split (fun g1 => ?_) (fun g1 => ?_) <;> try simp only [decide_eq_true_eq, decide_eq_false_iff_not, ge_iff_le, gt_iff_lt, Bool.not_eq_true', Bool.not_eq_false'] at g1)
    · obtain rfl | rfl : i = 0 ∨ i = 1 := by omega
      · (refine zw_k (zt_n (zw_s (zw_b (zw_s (zw_o (zP rfl rfl rfl rfl zI (zo_n rfl (zs_q rfl rfl (zqA zI ?_))))))))); refine And.intro ⟨by simp, by simp⟩ ?_)
        (refine zkq (zst_rp (zo_n rfl (zs_q rfl rfl (zqX zI ?_)))); refine ⟨[bandsV a], rfl, ?_⟩)
        rcases a with _ | ⟨p, r⟩
        · ((refine zkq (zst_p (zo_n rfl (zs_as rfl rfl rfl (zas_n rfl) (zst_p (zo_n rfl (zs_as rfl rfl rfl (zas_n rfl) (zst_p (zo_0 (zt_n (zw_s (zw_o ?_))))))))))); refine zP rfl rfl rfl rfl zI (zP rfl rfl rfl rfl zI (zP rfl rfl rfl rfl zI (zo_0 (zt_n (zw_c rfl (zc_f (zw_k (zb_n (zt_n (zw_o (zo_n rfl ?_))))))))))); refine zs_q rfl rfl (zqA zI ?_)); refine And.intro ⟨by omega, by omega⟩ ?_)
          (refine zkq (zst_p (zP rfl rfl rfl rfl zI (zo_0 (zt_n (zaf_raw ?_))))); refine ⟨1, _, SLe.refl _ _, ?_⟩)
          exact ⟨by omega, by omega, ⟨rfl, rfl, rfl, rfl, rfl, rfl, rfl, rfl, rfl, trivial⟩, ⟨rfl, trivial⟩⟩
        · obtain ⟨t1, ht1, ht2⟩ := Reg.top_get p r
          simp at la
          ((refine zkq (zst_p (zo_n rfl (zs_as rfl rfl rfl (zas_n rfl) (zst_p (zo_n rfl (zs_as rfl rfl rfl (zas_n rfl) (zst_p (zo_0 (zt_n (zw_s (zw_o ?_))))))))))); refine zP rfl rfl rfl rfl zI (zP rfl rfl rfl rfl zI (zP rfl rfl rfl rfl zI (zo_0 (zt_n (zw_c rfl ?_)))))); refine bcase_split (fun g2 => ?_) (fun g2 => ?_) <;> try simp only [decide_eq_true_eq, decide_eq_false_iff_not, ge_iff_le, gt_iff_lt, Bool.not_eq_true', Bool.not_eq_false'] at g2)
          · (refine zw_s (zw_s (zw_o (zP rfl rfl rfl rfl zI (zP rfl rfl rfl rfl zI (zP rfl rfl rfl rfl zI (zo_g0 rfl rfl rfl rfl (zst_p (zo_g0 rfl rfl rfl rfl (zst_p (zo_g0 rfl rfl rfl rfl (zst_p ?_))))))))))); refine zP rfl rfl rfl rfl zI (zo_0 (zt_n (zw_c rfl (zc_t (zw_d false [true, true, true, true, true, true, true, true, true, true, true, true, true] rfl (by kernel_rfl) (zp_q rfl (zD rfl rfl rfl zI (zd_n rfl (zd_q rfl (zqX zI ?_)))))))))))
            (skip; refine ⟨(hb p), (idx (i := 0) rfl rfl), ?_⟩)
            (refine zkd (zst_p (zD rfl rfl rfl zI (zD rfl rfl rfl zI (zD rfl rfl rfl zI (zD rfl rfl rfl zI (zD rfl rfl rfl zI (zd_n rfl (zd_q rfl (zqA zI ?_))))))))); refine And.intro ⟨by simp, by simp; omega⟩ ?_)
            (refine zkd (zst_p (zd_n rfl (zd_q rfl (zqX zI ?_)))); refine ⟨(hb t1), (idx (show (((p :: r).map hb).length : Int) - 1 = ((r.length : Nat) : Int) by simp) ht1), ?_⟩)
            ((refine zkd (zst_p (zD rfl rfl rfl zI (zD rfl rfl rfl zI (zD rfl rfl rfl zI (zD rfl rfl rfl zI (zd_0 (zr_s rfl (zr_s rfl (zr_s rfl (zr_s rfl (zr_s rfl ?_))))))))))); refine zr_s rfl (zr_s rfl (zr_s rfl (zr_s rfl (zr_s rfl (zr_s rfl (zr_k rfl rfl (zr_k rfl rfl (zr_q rfl (zt_n (zw_d false [true, true, true, true, true, true, true, true, true, true, true, true, true, true, true, true, true] rfl (by kernel_rfl) (zp_q rfl ?_))))))))))); refine zD rfl rfl rfl zI (zD rfl rfl rfl zI (zd_n rfl (zd_q rfl (zqX zI ?_))))); refine ⟨(hb p), (idx (i := 0) rfl rfl), ?_⟩)
            (refine zkd (zst_p (zD rfl rfl rfl zI (zD rfl rfl rfl zI (zD rfl rfl rfl zI (zD rfl rfl rfl zI (zD rfl rfl rfl zI (zD rfl rfl rfl zI (zD rfl rfl rfl zI (zd_n rfl (zd_q rfl (zqA zI ?_))))))))))); refine And.intro ⟨by simp, by simp; omega⟩ ?_)
            (refine zkd (zst_p (zd_n rfl (zd_q rfl (zqX zI ?_)))); refine ⟨(hb t1), (idx (show (((p :: r).map hb).length : Int) - 1 = ((r.length : Nat) : Int) by simp) ht1), ?_⟩)
            ((refine zkd (zst_p (zD rfl rfl rfl zI (zD rfl rfl rfl zI (zD rfl rfl rfl zI (zD rfl rfl rfl zI (zD rfl rfl rfl zI (zd_0 (zr_s rfl (zr_s rfl (zr_s rfl (zr_s rfl ?_))))))))))); refine zr_s rfl (zr_s rfl (zr_s rfl (zr_s rfl (zr_s rfl (zr_s rfl (zr_s rfl (zr_s rfl (zr_s rfl (zr_s rfl (zr_s rfl (zr_k rfl rfl ?_))))))))))); refine zr_k rfl rfl (zr_q rfl (zb_n (zt_n (zw_o (zo_n rfl (zs_q rfl rfl (zqA zI ?_)))))))); refine And.intro ⟨by omega, by omega⟩ ?_)
            (refine zkq (zst_p (zP rfl rfl rfl rfl zI (zo_0 (zt_n (zaf_raw ?_))))); refine ⟨1, _, SLe.refl _ _, ?_⟩)
            exact ⟨by omega, by omega, ⟨rfl, rfl, rfl, rfl, av_i64 (show min p.y0 p.y0 = p.y0 by omega), av_i64 (show max t1.y1 t1.y1 = topOf (p :: r) by omega), rfl, rfl, rfl, trivial⟩, ⟨rfl, trivial⟩⟩
          · simp at g2
      · (refine zw_k (zt_n (zw_s (zw_b (zw_s (zw_o (zP rfl rfl rfl rfl zI (zo_n rfl (zs_q rfl rfl (zqA zI ?_))))))))); refine And.intro ⟨by simp, by simp⟩ ?_)
        (refine zkq (zst_rp (zo_n rfl (zs_q rfl rfl (zqX zI ?_)))); refine ⟨[bandsV b], rfl, ?_⟩)
        rcases b with _ | ⟨q, u⟩
        · ((refine zkq (zst_p (zo_n rfl (zs_as rfl rfl rfl (zas_n rfl) (zst_p (zo_n rfl (zs_as rfl rfl rfl (zas_n rfl) (zst_p (zo_0 (zt_n (zw_s (zw_o ?_))))))))))); refine zP rfl rfl rfl rfl zI (zP rfl rfl rfl rfl zI (zP rfl rfl rfl rfl zI (zo_0 (zt_n (zw_c rfl (zc_f (zw_k (zb_n (zt_n (zw_o (zo_n rfl ?_))))))))))); refine zs_q rfl rfl (zqA zI ?_)); refine And.intro ⟨by omega, by omega⟩ ?_)
          (refine zkq (zst_p (zP rfl rfl rfl rfl zI (zo_0 (zt_n (zaf_raw ?_))))); refine ⟨2, _, SLe.refl _ _, ?_⟩)
          have e1 : st a [] 1 = st a [] 2 := by
            rcases a with _ | ⟨p, r⟩
            · simp at hn
            · rfl
          exact ⟨by omega, by omega, ⟨rfl, rfl, rfl, rfl, av_i64 (by rw [e1]), av_i64 (by rw [e1]), rfl, rfl, rfl, trivial⟩, ⟨rfl, trivial⟩⟩
        · obtain ⟨t1, ht1, ht2⟩ := Reg.top_get q u
          simp at lb
          ((refine zkq (zst_p (zo_n rfl (zs_as rfl rfl rfl (zas_n rfl) (zst_p (zo_n rfl (zs_as rfl rfl rfl (zas_n rfl) (zst_p (zo_0 (zt_n (zw_s (zw_o ?_))))))))))); refine zP rfl rfl rfl rfl zI (zP rfl rfl rfl rfl zI (zP rfl rfl rfl rfl zI (zo_0 (zt_n (zw_c rfl ?_)))))); refine bcase_split (fun g2 => ?_) (fun g2 => ?_) <;> try simp only [decide_eq_true_eq, decide_eq_false_iff_not, ge_iff_le, gt_iff_lt, Bool.not_eq_true', Bool.not_eq_false'] at g2)
          · rcases a with _ | ⟨p, r⟩
            · (refine zw_s (zw_s (zw_o (zP rfl rfl rfl rfl zI (zP rfl rfl rfl rfl zI (zP rfl rfl rfl rfl zI (zo_g1 rfl rfl rfl rfl (zs_q rfl rfl (zq1 zI (zkq (zst_p (zo_g1 rfl rfl rfl rfl ?_))))))))))); refine zs_q rfl rfl (zq1 zI (zkq (zst_p (zo_g1 rfl rfl rfl rfl (zs_q rfl rfl (zq1 zI (zkq (zst_p (zP rfl rfl rfl rfl zI (zo_0 (zt_n ?_))))))))))); refine zw_c rfl (zc_t (zw_d false [true, true, true, true, true, true, true, true, true, true, true, true, true] rfl (by kernel_rfl) (zp_q rfl (zD rfl rfl rfl zI (zd_n rfl (zd_q rfl (zqX zI ?_))))))))
              (skip; refine ⟨(hb q), (idx (i := 0) rfl rfl), ?_⟩)
              (refine zkd (zst_p (zD rfl rfl rfl zI (zD rfl rfl rfl zI (zD rfl rfl rfl zI (zD rfl rfl rfl zI (zD rfl rfl rfl zI (zd_n rfl (zd_q rfl (zqA zI ?_))))))))); refine And.intro ⟨by simp, by simp; omega⟩ ?_)
              (refine zkd (zst_p (zd_n rfl (zd_q rfl (zqX zI ?_)))); refine ⟨(hb t1), (idx (show (((q :: u).map hb).length : Int) - 1 = ((u.length : Nat) : Int) by simp) ht1), ?_⟩)
              ((refine zkd (zst_p (zD rfl rfl rfl zI (zD rfl rfl rfl zI (zD rfl rfl rfl zI (zD rfl rfl rfl zI (zd_0 (zr_s rfl (zr_s rfl (zr_s rfl (zr_s rfl (zr_s rfl ?_))))))))))); refine zr_s rfl (zr_s rfl (zr_s rfl (zr_s rfl (zr_s rfl (zr_s rfl (zr_k rfl rfl (zr_k rfl rfl (zr_q rfl (zt_n (zw_d false [true, true, true, true, true, true, true, true, true, true, true, true, true, true, true, true, true] rfl (by kernel_rfl) (zp_q rfl ?_))))))))))); refine zD rfl rfl rfl zI (zD rfl rfl rfl zI (zd_n rfl (zd_q rfl (zqX zI ?_))))); refine ⟨(hb q), (idx (i := 0) rfl rfl), ?_⟩)
              (refine zkd (zst_p (zD rfl rfl rfl zI (zD rfl rfl rfl zI (zD rfl rfl rfl zI (zD rfl rfl rfl zI (zD rfl rfl rfl zI (zD rfl rfl rfl zI (zD rfl rfl rfl zI (zd_n rfl (zd_q rfl (zqA zI ?_))))))))))); refine And.intro ⟨by simp, by simp; omega⟩ ?_)
              (refine zkd (zst_p (zd_n rfl (zd_q rfl (zqX zI ?_)))); refine ⟨(hb t1), (idx (show (((q :: u).map hb).length : Int) - 1 = ((u.length : Nat) : Int) by simp) ht1), ?_⟩)
              ((refine zkd (zst_p (zD rfl rfl rfl zI (zD rfl rfl rfl zI (zD rfl rfl rfl zI (zD rfl rfl rfl zI (zD rfl rfl rfl zI (zd_0 (zr_s rfl (zr_s rfl (zr_s rfl (zr_s rfl ?_))))))))))); refine zr_s rfl (zr_s rfl (zr_s rfl (zr_s rfl (zr_s rfl (zr_s rfl (zr_s rfl (zr_s rfl (zr_s rfl (zr_s rfl (zr_s rfl (zr_k rfl rfl ?_))))))))))); refine zr_k rfl rfl (zr_q rfl (zb_n (zt_n (zw_o (zo_n rfl (zs_q rfl rfl (zqA zI ?_)))))))); refine And.intro ⟨by omega, by omega⟩ ?_)
              (refine zkq (zst_p (zP rfl rfl rfl rfl zI (zo_0 (zt_n (zaf_raw ?_))))); refine ⟨2, _, SLe.refl _ _, ?_⟩)
              exact ⟨by omega, by omega, ⟨rfl, rfl, rfl, rfl, av_i64 (show min q.y0 q.y0 = q.y0 by omega), av_i64 (show max t1.y1 t1.y1 = topOf (q :: u) by omega), rfl, rfl, rfl, trivial⟩, ⟨rfl, trivial⟩⟩
            · (refine zw_s (zw_s (zw_o (zP rfl rfl rfl rfl zI (zP rfl rfl rfl rfl zI (zP rfl rfl rfl rfl zI (zo_g1 rfl rfl rfl rfl (zs_q rfl rfl (zq1 zI (zkq (zst_p (zo_g1 rfl rfl rfl rfl ?_))))))))))); refine zs_q rfl rfl (zq1 zI (zkq (zst_p (zo_g1 rfl rfl rfl rfl (zs_q rfl rfl (zq1 zI (zkq (zst_p (zP rfl rfl rfl rfl zI (zo_0 (zt_n ?_))))))))))); refine zw_c rfl (zc_f (zw_k (zt_n (zw_d false [true, true, true, true, true, true, true, true, true, true, true, true, true, true, true, true, true] rfl (by kernel_rfl) (zp_q rfl (zD rfl rfl rfl zI (zD rfl rfl rfl zI (zd_n rfl (zd_q rfl (zqX zI ?_)))))))))))
              (skip; refine ⟨(hb q), (idx (i := 0) rfl rfl), ?_⟩)
              (refine zkd (zst_p (zD rfl rfl rfl zI (zD rfl rfl rfl zI (zD rfl rfl rfl zI (zD rfl rfl rfl zI (zD rfl rfl rfl zI (zD rfl rfl rfl zI (zD rfl rfl rfl zI (zd_n rfl (zd_q rfl (zqA zI ?_))))))))))); refine And.intro ⟨by simp, by simp; omega⟩ ?_)
              (refine zkd (zst_p (zd_n rfl (zd_q rfl (zqX zI ?_)))); refine ⟨(hb t1), (idx (show (((q :: u).map hb).length : Int) - 1 = ((u.length : Nat) : Int) by simp) ht1), ?_⟩)
              ((refine zkd (zst_p (zD rfl rfl rfl zI (zD rfl rfl rfl zI (zD rfl rfl rfl zI (zD rfl rfl rfl zI (zD rfl rfl rfl zI (zd_0 (zr_s rfl (zr_s rfl (zr_s rfl (zr_s rfl ?_))))))))))); refine zr_s rfl (zr_s rfl (zr_s rfl (zr_s rfl (zr_s rfl (zr_s rfl (zr_s rfl (zr_s rfl (zr_s rfl (zr_s rfl (zr_s rfl (zr_k rfl rfl ?_))))))))))); refine zr_k rfl rfl (zr_q rfl (zb_n (zt_n (zw_o (zo_n rfl (zs_q rfl rfl (zqA zI ?_)))))))); refine And.intro ⟨by omega, by omega⟩ ?_)
              (refine zkq (zst_p (zP rfl rfl rfl rfl zI (zo_0 (zt_n (zaf_raw ?_))))); refine ⟨2, _, SLe.refl _ _, ?_⟩)
              exact ⟨by omega, by omega, ⟨rfl, rfl, rfl, rfl, rfl, av_i64 (show max (topOf (p :: r)) t1.y1 = max (topOf (p :: r)) (topOf (q :: u)) by rw [ht2]), rfl, rfl, rfl, trivial⟩, ⟨rfl, trivial⟩⟩
          · simp at g2
    · have e : i = 2 := by omega
      subst e
      have hlo := Reg.lo_ge ka kb hn
      have hhi := Reg.hi_le ka kb hn
      have e2 : lessS a b = mergeF lessK (hiOf a b - loOf a b).toNat a b (loOf a b) (hiOf a b) [] := by rw [lessS, mergeS, if_neg hn]
      rw [e2]
      obtain ⟨lo, hlo'⟩ : ∃ lo, lo = loOf a b := ⟨_, rfl⟩
      obtain ⟨e, he'⟩ : ∃ e, e = hiOf a b := ⟨_, rfl⟩
      rw [← hlo'] at hlo
      rw [← he'] at hhi
      rw [← hlo', ← he']
      have hR : ∃ R, R = mergeF lessK (e - lo).toNat a b lo e [] := ⟨_, rfl⟩
      obtain ⟨R, hR⟩ := hR
      rw [← hR]
      refine zw_x (zt_x (zt_x (zb_h (zt_n (zw_s (zw_b ?_))))))
      refine loop_ok' (fun x : Nat × List Band × List Band × Int × List Band => (e - x.2.2.2.1).toNat ≤ x.1 ∧ mergeF lessK x.1 x.2.1 x.2.2.1 x.2.2.2.1 e x.2.2.2.2 = R ∧ SOK x.2.1 ∧ SOK x.2.2.1 ∧ SOK x.2.2.2.2 ∧ (∀ t ∈ x.2.2.2.2, t.y1 ≤ x.2.2.2.1) ∧ InK 2000000 x.2.1 ∧ InK 2000000 x.2.2.1 ∧ InK 2000000 x.2.2.2.2 ∧ -2000000 ≤ x.2.2.2.1)
        (fun x => [(0, .p (bandsV x.2.1)), (1, .p (bandsV x.2.2.1)), (2, .p (fnv 88)), (7, .ow 7), (8, .p (i64 x.2.2.2.1)), (9, .p (i64 e))]) (fun x => [(7, .row 108 (x.2.2.2.2.map hb))]) (fun x => x.1) ((e - lo).toNat, a, b, lo, []) _
        (SLe.nilRow hC _ 7 108 _ (by decide) rfl rfl (by decide)) ⟨Nat.le_refl _, hR.symm, ha, hb', trivial, fun t ht => (by cases ht), ka, kb, fun t ht => (by cases ht), hlo⟩ ⟨rfl, rfl, rfl, rfl, av_i64 hlo'.symm, av_i64 he'.symm, trivial⟩ ⟨rfl, trivial⟩ fun ⟨n, a', b', y, out⟩ hi t h => ?_
      obtain ⟨i1, i2, i3, i4, i5, i6, i7, i8, i9, i10⟩ := hi
      simp only at i1 i2 i3 i4 i5 i6 i7 i8 i9 i10
      have la' := Reg.bands_len i3 (by omega) i7
      have lb' := Reg.bands_len i4 (by omega) i8
      have lo' := Reg.bands_len i5 (by omega) i9
      have lx' := Reg.xs_len i5 (by omega) i9
      (refine zw_s (zw_s (zw_o (zP rfl rfl rfl rfl zI (zP rfl rfl rfl rfl zI (zP rfl rfl rfl rfl zI (zo_0 (zt_n (zw_c rfl ?_)))))))); refine bcase_split (fun g2 => ?_) (fun g2 => ?_) <;> try simp only [decide_eq_true_eq, decide_eq_false_iff_not, ge_iff_le, gt_iff_lt, Bool.not_eq_true', Bool.not_eq_false'] at g2)
      · obtain ⟨m, rfl⟩ : ∃ m, n = m + 1 := ⟨n - 1, by omega⟩
        obtain ⟨nx, L, hnx, hL, j1, j2, j3, j4, j5, j6, j7, j8, j9, j10, j11, j12, j13, j14⟩ := Reg.merge_round g2 i3 i4 i5 i6 i7 i8 i9 i10 hhi
        rw [mergeF, if_pos g2, ← hnx, ← hL] at i2
        refine zw_k (zt_n (zw_b (zw_s (zw_b ?_))))
        refine cutB' (fun _ : Unit => True) (fun _ => [(0, .p (bandsV (dropTo y a'))), (1, .p (bandsV b')), (2, .p (fnv 88)), (7, .ow 7), (8, .p (i64 y)), (9, .p (i64 e))]) (fun _ => [(7, .row 108 (out.map hb))]) (fun _ _ t h => ?_) ?_
        rotate_left
        · refine loop_ok' (fun s : List Band => dropTo y s = dropTo y a' ∧ (s.length : Int) ≤ 4000000) (fun s => [(0, .p (bandsV s)), (1, .p (bandsV b')), (2, .p (fnv 88)), (7, .ow 7), (8, .p (i64 y)), (9, .p (i64 e))]) (fun _ => [(7, .row 108 (out.map hb))]) (fun s => s.length) a' _ (SLe.refl _ _) ⟨rfl, by omega⟩ ⟨rfl, rfl, rfl, rfl, rfl, rfl, trivial⟩ ⟨rfl, trivial⟩ fun s hs t h => ?_
          obtain ⟨s1, s2⟩ := hs
          rcases s with _ | ⟨c, s⟩
          · (refine zw_s (zw_s (zw_o (zP rfl rfl rfl rfl zI (zP rfl rfl rfl rfl zI (zP rfl rfl rfl rfl zI (zP rfl rfl rfl rfl zI (zo_g0 rfl rfl rfl rfl (zst_p (zo_g0 rfl rfl rfl rfl (zst_p (zo_g0 rfl rfl rfl rfl ?_))))))))))); refine zst_p (zo_g0 rfl rfl rfl rfl (zst_p (zo_g0 rfl rfl rfl rfl (zst_p (zo_g0 rfl rfl rfl rfl (zst_p (zP rfl rfl rfl rfl zI (zo_0 (zt_n (zw_c rfl (zc_f ?_))))))))))); refine zw_x (zt_x (zt_x (zb_h (zt_n (zaf_raw (zX zi ?_)))))))
            rw [← s1]
            exact ⟨(), trivial, ⟨rfl, rfl, rfl, rfl, rfl, rfl, trivial⟩, ⟨rfl, trivial⟩⟩
          · simp at s2
            (refine zw_s (zw_s (zw_o (zP rfl rfl rfl rfl zI (zP rfl rfl rfl rfl zI (zP rfl rfl rfl rfl zI (zP rfl rfl rfl rfl zI (zo_g rfl rfl rfl rfl ?_))))))); refine bcase_split (fun d1 => ?_) (fun d1 => ?_) <;> try simp only [decide_eq_true_eq, decide_eq_false_iff_not, ge_iff_le, gt_iff_lt, Bool.not_eq_true', Bool.not_eq_false'] at d1)
            · (refine zg_t (zs_q rfl rfl (zq1 zI (zkq (zst_p (zo_g1 rfl rfl rfl rfl (zs_q rfl rfl (zqX zI ?_))))))); refine ⟨(hb c), (idx (i := 0) rfl rfl), ?_⟩)
              ((refine zkq (zst_p (zo_g1 rfl rfl rfl rfl (zs_q rfl rfl (zq1 zI (zkq (zst_p (zo_g1 rfl rfl rfl rfl (zs_q rfl rfl (zq1 zI (zkq (zst_p ?_))))))))))); refine zo_g1 rfl rfl rfl rfl (zs_q rfl rfl (zq1 zI (zkq (zst_p (zo_g1 rfl rfl rfl rfl (zs_q rfl rfl (zq1 zI (zkq (zst_p (zP rfl rfl rfl rfl zI (zo_0 ?_))))))))))); refine zt_n (zw_c rfl ?_)); refine bcase_split (fun d2 => ?_) (fun d2 => ?_) <;> try simp only [decide_eq_true_eq, decide_eq_false_iff_not, ge_iff_le, gt_iff_lt, Bool.not_eq_true', Bool.not_eq_false'] at d2)
              · (refine zw_k (zt_n (zw_b (zw_o (zP rfl rfl rfl rfl zI (zo_n rfl (zs_q rfl rfl (zqA zI ?_))))))); refine And.intro ⟨by simp, (by first | omega | (simp; done) | (simp; omega)), (by first | omega | (simp; done) | (simp; omega)), hb_rows⟩ ?_)
                (refine zkq (zst_p (zo_n rfl (zs_as rfl rfl rfl (zas_n rfl) (zst_p (zo_0 (zb_n (zt_n (zaf_raw ?_)))))))); refine ⟨s, _, SLe.refl _ _, ?_⟩)
                rw [dropTo, if_pos d2] at s1
                exact ⟨⟨s1, by omega⟩, by simp, ⟨tail_av (hb c) _, rfl, rfl, rfl, rfl, rfl, trivial⟩, ⟨rfl, trivial⟩⟩
              · refine zw_x (zt_x (zt_x (zb_h (zt_n (zaf_raw (zX zi ?_))))))
                rw [dropTo, if_neg d2] at s1
                rw [← s1]
                exact ⟨(), trivial, ⟨rfl, rfl, rfl, rfl, rfl, rfl, trivial⟩, ⟨rfl, trivial⟩⟩
            · simp at d1
        refine zt_n (zw_s (zw_b ?_))
        refine cutB' (fun _ : Unit => True) (fun _ => [(0, .p (bandsV (dropTo y a'))), (1, .p (bandsV (dropTo y b'))), (2, .p (fnv 88)), (7, .ow 7), (8, .p (i64 y)), (9, .p (i64 e))]) (fun _ => [(7, .row 108 (out.map hb))]) (fun _ _ t h => ?_) ?_
        rotate_left
        · refine loop_ok' (fun s : List Band => dropTo y s = dropTo y b' ∧ (s.length : Int) ≤ 4000000) (fun s => [(0, .p (bandsV (dropTo y a'))), (1, .p (bandsV s)), (2, .p (fnv 88)), (7, .ow 7), (8, .p (i64 y)), (9, .p (i64 e))]) (fun _ => [(7, .row 108 (out.map hb))]) (fun s => s.length) b' _ (SLe.refl _ _) ⟨rfl, by omega⟩ ⟨rfl, rfl, rfl, rfl, rfl, rfl, trivial⟩ ⟨rfl, trivial⟩ fun s hs t h => ?_
          obtain ⟨s1, s2⟩ := hs
          rcases s with _ | ⟨c, s⟩
          · (refine zw_s (zw_s (zw_o (zP rfl rfl rfl rfl zI (zP rfl rfl rfl rfl zI (zP rfl rfl rfl rfl zI (zP rfl rfl rfl rfl zI (zo_g0 rfl rfl rfl rfl (zst_p (zo_g0 rfl rfl rfl rfl (zst_p (zo_g0 rfl rfl rfl rfl ?_))))))))))); refine zst_p (zo_g0 rfl rfl rfl rfl (zst_p (zo_g0 rfl rfl rfl rfl (zst_p (zo_g0 rfl rfl rfl rfl (zst_p (zP rfl rfl rfl rfl zI (zo_0 (zt_n (zw_c rfl (zc_f ?_))))))))))); refine zw_x (zt_x (zt_x (zb_h (zt_n (zaf_raw (zX zi ?_)))))))
            rw [← s1]
            exact ⟨(), trivial, ⟨rfl, rfl, rfl, rfl, rfl, rfl, trivial⟩, ⟨rfl, trivial⟩⟩
          · simp at s2
            (refine zw_s (zw_s (zw_o (zP rfl rfl rfl rfl zI (zP rfl rfl rfl rfl zI (zP rfl rfl rfl rfl zI (zP rfl rfl rfl rfl zI (zo_g rfl rfl rfl rfl ?_))))))); refine bcase_split (fun d1 => ?_) (fun d1 => ?_) <;> try simp only [decide_eq_true_eq, decide_eq_false_iff_not, ge_iff_le, gt_iff_lt, Bool.not_eq_true', Bool.not_eq_false'] at d1)
            · (refine zg_t (zs_q rfl rfl (zq1 zI (zkq (zst_p (zo_g1 rfl rfl rfl rfl (zs_q rfl rfl (zqX zI ?_))))))); refine ⟨(hb c), (idx (i := 0) rfl rfl), ?_⟩)
              ((refine zkq (zst_p (zo_g1 rfl rfl rfl rfl (zs_q rfl rfl (zq1 zI (zkq (zst_p (zo_g1 rfl rfl rfl rfl (zs_q rfl rfl (zq1 zI (zkq (zst_p ?_))))))))))); refine zo_g1 rfl rfl rfl rfl (zs_q rfl rfl (zq1 zI (zkq (zst_p (zo_g1 rfl rfl rfl rfl (zs_q rfl rfl (zq1 zI (zkq (zst_p (zP rfl rfl rfl rfl zI (zo_0 ?_))))))))))); refine zt_n (zw_c rfl ?_)); refine bcase_split (fun d2 => ?_) (fun d2 => ?_) <;> try simp only [decide_eq_true_eq, decide_eq_false_iff_not, ge_iff_le, gt_iff_lt, Bool.not_eq_true', Bool.not_eq_false'] at d2)
              · (refine zw_k (zt_n (zw_b (zw_o (zP rfl rfl rfl rfl zI (zo_n rfl (zs_q rfl rfl (zqA zI ?_))))))); refine And.intro ⟨by simp, (by first | omega | (simp; done) | (simp; omega)), (by first | omega | (simp; done) | (simp; omega)), hb_rows⟩ ?_)
                (refine zkq (zst_p (zo_n rfl (zs_as rfl rfl rfl (zas_n rfl) (zst_p (zo_0 (zb_n (zt_n (zaf_raw ?_)))))))); refine ⟨s, _, SLe.refl _ _, ?_⟩)
                rw [dropTo, if_pos d2] at s1
                exact ⟨⟨s1, by omega⟩, by simp, ⟨rfl, tail_av (hb c) _, rfl, rfl, rfl, rfl, trivial⟩, ⟨rfl, trivial⟩⟩
              · refine zw_x (zt_x (zt_x (zb_h (zt_n (zaf_raw (zX zi ?_))))))
                rw [dropTo, if_neg d2] at s1
                rw [← s1]
                exact ⟨(), trivial, ⟨rfl, rfl, rfl, rfl, rfl, rfl, trivial⟩, ⟨rfl, trivial⟩⟩
            · simp at d1
        have q1 := Reg.spans_len j11 (by omega) j13
        have q2 := Reg.spans_len j12 (by omega) j14
        have q3 := Reg.cuts_length (atS (dropTo y a') y e).1
        have q4 := Reg.cuts_length (atS (dropTo y b') y e).1
        have hp : ACalls C 84 [.row 108 (out.map hb), .pv (.ag [i64 y, i64 (min (atS (dropTo y a') y e).2 (atS (dropTo y b') y e).2), ints (lineS lessK (cuts (atS (dropTo y a') y e).1) (cuts (atS (dropTo y b') y e).1))])] (.own 108 ((pushB out ⟨y, nx, pairUp L⟩).map hb)) [.gone] := by
          rw [← hnx, ← hL, show [i64 y, i64 nx, ints L] = hb ⟨y, nx, pairUp L⟩ by rw [hb, flat_cuts, j3]]
          exact house_push out ⟨y, nx, pairUp L⟩ j1 (by omega) (fun t ht => by have := lx' t ht; omega)
        (refine zt_n (zw_s (zw_o (zP rfl rfl rfl rfl zI (zP rfl rfl rfl rfl zI (zP rfl rfl rfl rfl zI (zo_n rfl (zs_n rfl rfl rfl (zqX zI ?_)))))))); refine ⟨_, _, (house_at (dropTo y a') y e), ?_⟩)
        ((refine zkn rfl rfl (zst_tu (zo_n rfl (zs_q rfl rfl (zq1 zI (zkq (zst_tu (zP rfl rfl rfl rfl zI (zP rfl rfl rfl rfl zI (zo_n rfl (zs_as rfl rfl rfl (zas_n rfl) (zst_p ?_))))))))))); refine zo_n rfl (zs_as rfl rfl rfl (zas_n rfl) (zst_p (zo_0 (zt_n (zw_s (zw_o (zP rfl rfl rfl rfl zI (zP rfl rfl rfl rfl zI (zP rfl rfl rfl rfl zI (zo_n rfl (zs_n rfl rfl rfl ?_))))))))))); refine zqX zI ?_); refine ⟨_, _, (house_at (dropTo y b') y e), ?_⟩)
        ((refine zkn rfl rfl (zst_tu (zo_n rfl (zs_q rfl rfl (zq1 zI (zkq (zst_tu (zP rfl rfl rfl rfl zI (zP rfl rfl rfl rfl zI (zo_n rfl (zs_as rfl rfl rfl (zas_n rfl) (zst_p ?_))))))))))); refine zo_n rfl (zs_as rfl rfl rfl (zas_n rfl) (zst_p (zo_0 (zt_n (zw_s (zw_o (zP rfl rfl rfl rfl zI (zP rfl rfl rfl rfl zI (zP rfl rfl rfl rfl zI (zo_n rfl (zs_as rfl rfl rfl (zas_n rfl) ?_))))))))))); refine zst_p (zo_0 (zt_n (zw_s (zw_o (zo_n rfl (zs_q rfl rfl (zq1 zI (zkq (zst_ow (zP rfl rfl rfl rfl zI (zP rfl rfl rfl rfl zI ?_))))))))))); refine zP rfl rfl rfl rfl zI (zP rfl rfl rfl rfl zI (zP rfl rfl rfl rfl zI (zo_n rfl (zs_n rfl rfl rfl (zqX zI ?_)))))); refine ⟨_, _, (house_line (cuts (atS (dropTo y a') y e).1) (cuts (atS (dropTo y b') y e).1) (by omega)), ?_⟩)
        (refine zkn rfl rfl (zst_p (zP rfl rfl rfl rfl zI (zo_n rfl (zs_n rfl rfl rfl (zqX zI ?_))))); refine ⟨_, _, hp, ?_⟩)
        ((refine zkns (zst_e (zst_ow (zo_n rfl (zs_ar rfl rfl rfl rfl rfl (zo_0 (zt_n (zw_o (zP rfl rfl rfl rfl zI (zo_n rfl (zs_as rfl rfl rfl (zas_n rfl) (zst_p ?_))))))))))); refine zo_0 (zb_n (zt_n (zaf_raw ?_)))); refine ⟨(m, dropTo y a', dropTo y b', nx, pushB out ⟨y, nx, pairUp L⟩), _, SLe.refl _ _, ?_⟩)
        exact ⟨⟨by simp only; omega, i2, j4, j5, j8, j9, j6, j7, j10, by simp only; omega⟩, by simp only; omega, ⟨rfl, rfl, rfl, rfl, av_i64 hnx.symm, rfl, trivial⟩, ⟨rfl, trivial⟩⟩
      · have e3 : mergeF lessK n a' b' y e out = out := by
          cases n with
          | zero => rfl
          | succ n => rw [mergeF, if_neg g2]
        rw [e3] at i2
        ((refine zw_x (zt_x (zt_x (zb_h (zt_n (zw_s (zw_o (zo_n rfl (zs_q rfl rfl (zq1 zI (zkq (zst_ow ?_))))))))))); refine zo_n rfl (zs_ar rfl rfl rfl rfl rfl (zo_0 (zt_n (zw_r (ze_r zi ?_)))))); refine And.intro ?_ trivial)
        rw [← i2]
        rfl
end Go.Proofs.YtcfhiodoogkcpaaGreatDoor.M
