/- By the machine: the law on rules and their text. -/
import Derived.Test.YtcfhiodoogkcpaaGreatDoorMTextM
set_option linter.unusedSimpArgs false
set_option linter.unusedVariables false
namespace Go.Proofs.YtcfhiodoogkcpaaGreatDoor.M
open Go.AM Go.RowKit Go.Lib
open Reg (Rect Spans Band)

theorem law_rulesMatch (r : Rules) (ho : rulesOK r) : ACalls C 3 [.pv (.ag (rl r))] (.p (bool true)) [] := by
  refine fun_go hC Tryz.func3 rfl rfl 35 rfl (by decide) (by kernel_rfl) fun _ _ _ _ _ => ?_
  have h1 := house_Text r ho
  have h2 := ref6_Text r ho
  have h3 := house_checkRules r ho
  have h4 := ref_checkRules r ho
  generalize textR r = p at h1 h2
  generalize rulesFault r = q at h3 h4
  (refine yS (yn rfl (zq1 zI (zkns (zst_bx (yA rfl (yU (yP rfl (yn rfl (zqX zI ?_))))))))); refine ⟨_, _, h1, ?_⟩)
  (refine zkn rfl rfl (zst_tu (yq rfl (zq1 zI (zkq (zst_tu (yP rfl (yP rfl (yA rfl (yA rfl (yU (yP rfl (yn rfl (zqX zI ?_))))))))))))); refine ⟨_, _, h2, ?_⟩)
  ((refine zkn rfl rfl (zst_tu (yq rfl (zq1 zI (zkq (zst_tu (yP rfl (yP rfl (yA rfl (yA rfl (yT (zw_s (zw_d false [true, true, true, true, true, true, true, true, true, true, true, true, true, true, true, true, true, true, true] rfl (by kernel_rfl) (zp_s rfl ?_))))))))))))); refine zp_n rfl rfl (zp_s rfl (zp_n rfl rfl (zp_s rfl (zp_s rfl (zp_s rfl (zp_s rfl (zp_s rfl (zp_s rfl (zp_s rfl (zp_s rfl (zp_s rfl (zp_s rfl (zp_s rfl ?_))))))))))))); refine zp_s rfl (zp_n rfl rfl (zp_q rfl (yD rfl (dq rfl (zqX zI ?_)))))); refine ⟨_, _, h3, ?_⟩)
  (refine zkd (zst_p (yD rfl (dq rfl (zqX zI ?_)))); refine ⟨_, _, h4, ?_⟩)
  (refine zkd (zst_p (yD rfl (yD rfl (dg rfl ?_)))); refine bcase_split (fun g1 => ?_) (fun g1 => ?_) <;> try simp only [zB] at g1)
  · (refine zg_t (zd_q rfl (zq1 zI (zkd (zst_p (d1 rfl (d1 rfl (yD rfl (yD rfl (dg rfl ?_))))))))); refine bcase_split (fun g2 => ?_) (fun g2 => ?_) <;> try simp only [zB] at g2)
    · (refine zg_t (zd_q rfl (zq1 zI (zkd (zst_p (d1 rfl (d1 rfl (yD rfl (yD rfl (dg rfl ?_))))))))); refine bcase_split (fun g3 => ?_) (fun g3 => ?_) <;> try simp only [zB] at g3)
      · (refine zg_t (zd_q rfl (zqX zI ?_)); refine ⟨_, _, awake_yes, ?_⟩)
        ((refine zkd (zst_p (yD rfl (yD rfl (zd_0 (zr_s rfl (zr_s rfl (zr_s rfl (zr_s rfl (zr_s rfl (zr_s rfl (zr_s rfl (zr_s rfl (zr_s rfl ?_))))))))))))); refine zr_s rfl (zr_s rfl (zr_s rfl (zr_s rfl (zr_s rfl (zr_s rfl (zr_s rfl (zr_s rfl (zr_s rfl (zr_k rfl rfl (zr_q rfl (zt_n (zw_r (ze_r zi ?_)))))))))))))); refine And.intro ?_ trivial)
        rfl
      · exact absurd trivial g3
    · exact absurd trivial g2
  · exact absurd trivial g1
end Go.Proofs.YtcfhiodoogkcpaaGreatDoor.M
