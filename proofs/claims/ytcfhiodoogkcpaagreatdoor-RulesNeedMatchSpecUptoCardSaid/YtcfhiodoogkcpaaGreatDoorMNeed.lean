/- By the machine: the law on what two nets need. -/
import Derived.Test.YtcfhiodoogkcpaaGreatDoorMRules8
import Derived.Test.YtcfhiodoogkcpaaGreatDoorMText
set_option linter.unusedSimpArgs false
set_option linter.unusedVariables false
namespace Go.Proofs.YtcfhiodoogkcpaaGreatDoor.M
open Go.AM Go.RowKit Go.Lib
open Reg (Rect Spans Band)

theorem law_needMatch (r : Rules) (ho : rulesOK r) (a b : ByteArray) (ha : strOK a) (hb : strOK b) (layer x y : Int) : ACalls C 5 [.pv (.ag (rl r)), .pv (str a), .pv (str b), .pv (i64 layer), .pv (.ag [i64 x, i64 y])] (.p (bool true)) [] := by
  refine fun_go hC Tryz.func5 rfl rfl 70 rfl (by decide) (by kernel_rfl) fun _ _ _ _ _ => ?_
  have h1 := house_Needs r ho a b ha hb layer x y
  have h2 := ref6_Needs r ho a b ha hb layer x y
  have h3 := house_WidthOf r ho a ha
  have h4 := ref6_WidthOf r ho a ha
  generalize needsR r a b layer x y = p at h1 h2
  generalize widthR r a = q at h3 h4
  ((refine zw_s (zw_o (zo_n rfl (zs_n rfl rfl rfl (zq1 zI (zkns (zst_bx (zo_n rfl (zs_n rfl rfl rfl (zq1 zI (zkns (zst_bx ?_))))))))))); refine zo_n rfl (zs_as rfl rfl rfl (zas_n rfl) (zst_p (zo_0 (zt_n (zw_s (zw_o (zP rfl rfl rfl rfl zI (zP rfl rfl rfl rfl zI (zP rfl rfl rfl rfl zI (zP rfl rfl rfl rfl zI (zP rfl rfl rfl rfl zI ?_))))))))))); refine zo_n rfl (zs_n rfl rfl rfl (zqX zI ?_))); refine ⟨_, _, h1, ?_⟩)
  ((refine zkn rfl rfl (zst_tu (zo_n rfl (zs_q rfl rfl (zq1 zI (zkq (zst_tu (zP rfl rfl rfl rfl zI (zP rfl rfl rfl rfl zI (zo_n rfl (zs_as rfl rfl rfl (zas_n rfl) (zst_p ?_))))))))))); refine zo_n rfl (zs_as rfl rfl rfl (zas_n rfl) (zst_p (zo_0 (zt_n (zw_s (zw_o (zP rfl rfl rfl rfl zI (zP rfl rfl rfl rfl zI (zP rfl rfl rfl rfl zI (zP rfl rfl rfl rfl zI (zP rfl rfl rfl rfl zI ?_))))))))))); refine zo_n rfl (zs_n rfl rfl rfl (zqX zI ?_))); refine ⟨_, _, h2, ?_⟩)
  ((refine zkn rfl rfl (zst_tu (zo_n rfl (zs_q rfl rfl (zq1 zI (zkq (zst_tu (zP rfl rfl rfl rfl zI (zP rfl rfl rfl rfl zI (zo_n rfl (zs_as rfl rfl rfl (zas_n rfl) (zst_p ?_))))))))))); refine zo_n rfl (zs_as rfl rfl rfl (zas_n rfl) (zst_p (zo_0 (zt_n (zw_s (zw_o (zP rfl rfl rfl rfl zI (zP rfl rfl rfl rfl zI (zo_n rfl (zs_n rfl rfl rfl (zqX zI ?_)))))))))))); refine ⟨_, _, h3, ?_⟩)
  ((refine zkn rfl rfl (zst_tu (zo_n rfl (zs_q rfl rfl (zq1 zI (zkq (zst_tu (zP rfl rfl rfl rfl zI (zP rfl rfl rfl rfl zI (zo_n rfl (zs_as rfl rfl rfl (zas_n rfl) (zst_p ?_))))))))))); refine zo_n rfl (zs_as rfl rfl rfl (zas_n rfl) (zst_p (zo_0 (zt_n (zw_s (zw_o (zP rfl rfl rfl rfl zI (zP rfl rfl rfl rfl zI (zo_n rfl (zs_n rfl rfl rfl (zqX zI ?_)))))))))))); refine ⟨_, _, h4, ?_⟩)
  ((refine zkn rfl rfl (zst_tu (zo_n rfl (zs_q rfl rfl (zq1 zI (zkq (zst_tu (zP rfl rfl rfl rfl zI (zP rfl rfl rfl rfl zI (zo_n rfl (zs_as rfl rfl rfl (zas_n rfl) (zst_p ?_))))))))))); refine zo_n rfl (zs_as rfl rfl rfl (zas_n rfl) (zst_p (zo_0 (zt_n (zw_s (zw_o (zP rfl rfl rfl rfl zI (zP rfl rfl rfl rfl zI (zP rfl rfl rfl rfl zI (zP rfl rfl rfl rfl zI (zo_g rfl rfl rfl rfl ?_)))))))))))); refine bcase_split (fun g1 => ?_) (fun g1 => ?_) <;> try simp only [decide_eq_true_eq, decide_eq_false_iff_not, ge_iff_le, gt_iff_lt, Bool.not_eq_true', Bool.not_eq_false'] at g1)
  · ((refine zg_t (zs_q rfl rfl (zq1 zI (zkq (zst_p (zo_g1 rfl rfl rfl rfl (zs_q rfl rfl (zq1 zI (zkq (zst_p (zo_g1 rfl rfl rfl rfl (zs_q rfl rfl ?_))))))))))); refine zq1 zI (zkq (zst_p (zP rfl rfl rfl rfl zI (zP rfl rfl rfl rfl zI (zo_g rfl rfl rfl rfl ?_)))))); refine bcase_split (fun g2 => ?_) (fun g2 => ?_) <;> try simp only [decide_eq_true_eq, decide_eq_false_iff_not, ge_iff_le, gt_iff_lt, Bool.not_eq_true', Bool.not_eq_false'] at g2)
    · ((refine zg_t (zs_q rfl rfl (zq1 zI (zkq (zst_p (zo_g1 rfl rfl rfl rfl (zs_q rfl rfl (zq1 zI (zkq (zst_p (zo_g1 rfl rfl rfl rfl (zs_q rfl rfl ?_))))))))))); refine zq1 zI (zkq (zst_p (zP rfl rfl rfl rfl zI (zP rfl rfl rfl rfl zI (zo_g rfl rfl rfl rfl ?_)))))); refine bcase_split (fun g3 => ?_) (fun g3 => ?_) <;> try simp only [decide_eq_true_eq, decide_eq_false_iff_not, ge_iff_le, gt_iff_lt, Bool.not_eq_true', Bool.not_eq_false'] at g3)
      · ((refine zg_t (zs_q rfl rfl (zq1 zI (zkq (zst_p (zo_g1 rfl rfl rfl rfl (zs_q rfl rfl (zq1 zI (zkq (zst_p (zo_g1 rfl rfl rfl rfl (zs_q rfl rfl ?_))))))))))); refine zq1 zI (zkq (zst_p (zP rfl rfl rfl rfl zI (zP rfl rfl rfl rfl zI (zo_g rfl rfl rfl rfl ?_)))))); refine bcase_split (fun g4 => ?_) (fun g4 => ?_) <;> try simp only [decide_eq_true_eq, decide_eq_false_iff_not, ge_iff_le, gt_iff_lt, Bool.not_eq_true', Bool.not_eq_false'] at g4)
        · (refine zg_t (zs_n rfl rfl rfl (zqX zI ?_)); refine ⟨_, _, awake_yes, ?_⟩)
          (refine zkn rfl rfl (zst_p (zP rfl rfl rfl rfl zI (zo_n rfl (zs_as rfl rfl rfl (zas_n rfl) (zst_p (zo_0 (zt_n (zw_r (ze_r zi ?_))))))))); refine And.intro ?_ trivial)
          rfl
        · exact absurd trivial g4
      · exact absurd trivial g3
    · exact absurd trivial g2
  · exact absurd trivial g1
end Go.Proofs.YtcfhiodoogkcpaaGreatDoor.M
