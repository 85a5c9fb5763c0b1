/- By the machine: CheckRules of the reference, joined. -/
import Derived.Test.YtcfhiodoogkcpaaGreatDoorMRules5
set_option linter.unusedSimpArgs false
set_option linter.unusedVariables false
namespace Go.Proofs.YtcfhiodoogkcpaaGreatDoor.M
open Go.AM Go.RowKit Go.Lib
open Reg (Rect Spans Band)

set_option maxRecDepth 100000 in
set_option maxHeartbeats 1000000 in
theorem ref_checkRules (r : Rules) (ho : rulesOK r) : ACalls C 11 [.pv (.ag (rl r))] (.p (i64 (rulesFault r))) [] := by
  refine fun_go hC Tryz.func11 rfl rfl 92 rfl (by decide) (by kernel_rfl) fun _ _ _ _ _ => ?_
  obtain ⟨o1, o2, o3⟩ := ho
  have lm := len_map r.areas arr
  have lc := len_map r.classes kl
  (refine yS (yn rfl (zq1 zI (zkns (zst_bx (yA rfl (yT (zw_s (yS (yV rfl (yP rfl (yn rfl (zqX zI ?_)))))))))))); refine ⟨_, _, (ref6_rule r.clearance), ?_⟩)
  (refine zkn rfl rfl (zst_p (yP rfl (yP rfl (yg rfl ?_)))); refine bcase_split (fun h1 => ?_) (fun h1 => ?_) <;> try simp only [zB] at h1)
  · ((refine zg_f (zst_p (y0 rfl (y0 rfl (y0 rfl (yP rfl (yP rfl (y0 rfl (y0 rfl (y0 rfl (y0 rfl (yP rfl (yP rfl (y0 rfl ?_))))))))))))); refine y0 rfl (y0 rfl (y0 rfl (yP rfl (yP rfl (y0 rfl (y0 rfl (y0 rfl (y0 rfl (yP rfl (yT (zw_c rfl (zc_t (yS ?_))))))))))))); refine yA rfl (yT (zw_r (zt_r (ze_r zi ?_))))); refine And.intro ?_ trivial)
    rw [rulesFault, if_neg (by simp [numsOK, h1])]; rfl
  (refine zg_t (zs_q rfl rfl (zq1 zI (zkq (zst_bx (y1 rfl (y2 rfl (zs_n rfl rfl rfl (zqX zI ?_)))))))); refine ⟨_, _, (ref6_rule r.width), ?_⟩)
  (refine zkn rfl rfl (zst_p (y1 rfl (yP rfl (yP rfl (yg rfl ?_))))); refine bcase_split (fun h2 => ?_) (fun h2 => ?_) <;> try simp only [zB] at h2)
  · ((refine zg_f (zst_p (y0 rfl (y0 rfl (y0 rfl (yP rfl (yP rfl (y0 rfl (y0 rfl (y0 rfl (y0 rfl (yP rfl (yP rfl (y0 rfl ?_))))))))))))); refine y0 rfl (y0 rfl (y0 rfl (yP rfl (yT (zw_c rfl (zc_t (yS (yA rfl (yT (zw_r (zt_r (ze_r zi ?_))))))))))))); refine And.intro ?_ trivial)
    rw [rulesFault, if_neg (by simp [numsOK, h2])]; rfl
  (refine zg_t (zs_q rfl rfl (zq1 zI (zkq (zst_bx (y1 rfl (y2 rfl (zs_n rfl rfl rfl (zqX zI ?_)))))))); refine ⟨_, _, (ref6_rule r.ring), ?_⟩)
  (refine zkn rfl rfl (zst_p (y1 rfl (yP rfl (yP rfl (yg rfl ?_))))); refine bcase_split (fun h3 => ?_) (fun h3 => ?_) <;> try simp only [zB] at h3)
  · ((refine zg_f (zst_p (y0 rfl (y0 rfl (y0 rfl (yP rfl (yP rfl (y0 rfl (y0 rfl (y0 rfl (y0 rfl (yP rfl (yT (zw_c rfl ?_))))))))))))); refine zc_t (yS (yA rfl (yT (zw_r (zt_r (ze_r zi ?_))))))); refine And.intro ?_ trivial)
    rw [rulesFault, if_neg (by simp [numsOK, h3])]; rfl
  (refine zg_t (zs_q rfl rfl (zq1 zI (zkq (zst_bx (y1 rfl (y2 rfl (zs_n rfl rfl rfl (zqX zI ?_)))))))); refine ⟨_, _, (ref6_rule r.edge), ?_⟩)
  (refine zkn rfl rfl (zst_p (y1 rfl (yP rfl (yP rfl (yg rfl ?_))))); refine bcase_split (fun h4 => ?_) (fun h4 => ?_) <;> try simp only [zB] at h4)
  · ((refine zg_f (zst_p (y0 rfl (y0 rfl (y0 rfl (yP rfl (yT (zw_c rfl (zc_t (yS (yA rfl (yT (zw_r (zt_r ?_))))))))))))); refine ze_r zi ?_); refine And.intro ?_ trivial)
    rw [rulesFault, if_neg (by simp [numsOK, h4])]; rfl
  (refine zg_t (zs_q rfl rfl (zq1 zI (zkq (zst_bx (y1 rfl (y2 rfl (zs_n rfl rfl rfl (zqX zI ?_)))))))); refine ⟨_, _, (ref6_rule r.holeGap), ?_⟩)
  (refine zkn rfl rfl (zst_p (y1 rfl (yP rfl (yT (zw_c rfl ?_))))); refine bcase_split (fun h5 => ?_) (fun h5 => ?_) <;> try simp only [zB] at h5)
  · (refine yS (yA rfl (yT (zw_r (zt_r (ze_r zi ?_))))); refine And.intro ?_ trivial)
    rw [rulesFault, if_neg (by simp [numsOK, h5])]; rfl
  rw [rulesFault, if_pos (by simp [numsOK, h1, h2, h3, h4, h5])]
  (refine zw_k (zt_n (zw_s (yS (yV rfl (yP rfl (yP rfl (yP rfl (yT (zw_c rfl ?_))))))))); refine bcase_split (fun h6 => ?_) (fun h6 => ?_) <;> try simp only [zB] at h6)
  · (refine yS (yA rfl (yT (zw_r (zt_r (ze_r zi ?_))))); refine And.intro ?_ trivial)
    rw [show classesFault r.classes = 2 by rw [classesFault, if_pos (by omega)]]; rfl
  have ce : classesFault r.classes = firstN (classFault r.classes) 0 r.classes.length := by rw [classesFault, if_neg (by omega)]
  rw [ce]
  refine zw_k (zt_n (zw_s (yS (yA rfl (yT (zw_b ?_))))))
  refine loop_ok' (fun i : Nat => i ≤ r.classes.length ∧ ∀ k, k < i → classFault r.classes k = 0) (fun i => [(1, .bx 1 0), (3, .p (i64 i))]) (fun _ => [(1, .box (rbox r))]) (fun i => r.classes.length - i) 0 _ (SLe.refl _ _) ⟨Nat.zero_le _, fun k h => by omega⟩ ⟨rfl, rfl, trivial⟩ ⟨rfl, trivial⟩ fun i hi t h => ?_
  obtain ⟨q1, q2⟩ := hi
  (refine zw_s (yS (yP rfl (yV rfl (yP rfl (yP rfl (yP rfl (yT (zw_c rfl ?_)))))))); refine bcase_split (fun h7 => ?_) (fun h7 => ?_) <;> try simp only [zB] at h7)
  · (refine zw_k (zt_n (zw_s (zw_b (yS (yV rfl (yP rfl (yP rfl (yn rfl (zqX zI ?_))))))))); refine ⟨_, _, (ref_checkClass r.classes o1 o2 i (by omega)), ?_⟩)
    (refine zkn rfl rfl (zst_p (yA rfl (yU (yP rfl (yP rfl (yT (zw_c rfl ?_))))))); refine bcase_split (fun h8 => ?_) (fun h8 => ?_) <;> try simp only [zB] at h8)
    · have h8 : ¬ classFault r.classes i = 0 := by simpa using h8
      have e := firstN_at (f := classFault r.classes) (m := i) h8 (n := r.classes.length) (i := 0) (fun k _ hk => q2 k hk) (Nat.zero_le _) (by omega)
      (refine yS (yP rfl (yA rfl (yT (zw_r (zb_r (zt_r (zt_r (zb_r (zt_r (ze_r zi ?_)))))))))); refine And.intro ?_ trivial)
      rw [e, if_neg h8]
    · have h8 : classFault r.classes i = 0 := by simpa using h8
      (refine zw_k (zb_n (zt_n (zw_o (yP rfl (yq rfl (zqA zI ?_)))))); refine And.intro ⟨by omega, by omega⟩ ?_)
      (refine yk (yA rfl (yT (zaf_raw ?_))); refine ⟨(i + 1), _, SLe.refl _ _, ?_⟩)
      refine ⟨⟨by omega, fun k hk => ?_⟩, by omega, ⟨rfl, rfl, trivial⟩, ⟨rfl, trivial⟩⟩
      by_cases e : k = i
      · subst e; exact h8
      · exact q2 k (by omega)
  · rw [if_pos (firstN_none fun k _ hk => q2 k (by omega))]
    (refine zw_x (zt_x (zt_x (zb_h (zt_n (zw_s (yS (yV rfl (yP rfl (yP rfl (yP rfl (yT (zw_c rfl ?_)))))))))))); refine bcase_split (fun h9 => ?_) (fun h9 => ?_) <;> try simp only [zB] at h9)
    · (refine yS (yA rfl (yT (zw_r (zt_r (ze_r zi ?_))))); refine And.intro ?_ trivial)
      rw [areasFault, if_pos (by omega)]; rfl
    · rw [areasFault, if_neg (by omega)]
      refine zw_k (zt_n (yS (yA rfl (yT (zw_s (yS (yA rfl (yT (zw_b ?_)))))))))
      refine loop_ok' (fun i : Nat => i ≤ r.areas.length ∧ (∀ k, k < i → areaFault r.areas k = 0) ∧ rectSum (r.areas.take i) ≤ i * 1000000) (fun i => [(1, .bx 1 0), (5, .p (i64 (rectSum (r.areas.take i)))), (6, .p (i64 i))]) (fun _ => [(1, .box (rbox r))]) (fun i => r.areas.length - i) 0 _ (SLe.refl _ _) ⟨Nat.zero_le _, fun k h => by omega, by simp [rectSum]⟩ ⟨rfl, rfl, rfl, trivial⟩ ⟨rfl, trivial⟩ fun i hi t h => ?_
      obtain ⟨q1, q2, q3⟩ := hi
      (refine zw_s (yS (yP rfl (yV rfl (yP rfl (yP rfl (yP rfl (yT (zw_c rfl ?_)))))))); refine bcase_split (fun h3 => ?_) (fun h3 => ?_) <;> try simp only [zB] at h3)
      · obtain ⟨a, ha⟩ := get_of (l := r.areas) (i := i) (by omega)
        have bad : areaFault r.areas i ≠ 0 → firstN (areaFault r.areas) 0 r.areas.length = areaFault r.areas i := fun hb => firstN_at hb (fun k _ hk => q2 k hk) (Nat.zero_le _) (by omega)
        have cf : areaFault r.areas i = (if (decide (-1 ≤ a.layer) && decide (a.layer ≤ 15)) = true then (if Reg.checkRegion a.region = 0 then (if isRule a.clearance = true then 0 else 1) else Reg.checkRegion a.region) else 1) := by rw [areaFault, ha]
        have la := len_map a.region rc
        (refine zw_k (zt_n (zw_s (zw_b (yS (yV rfl (yP rfl (yP rfl (yq rfl (zqX zI ?_))))))))); refine ⟨(arr a), (idx rfl ha), ?_⟩)
        ((refine yk (yP rfl (yn rfl (zq1 zI (zkns (zst_bx (yq rfl (zq1 zI (zkq (zst_e (zst_0 (yT (zw_s (yS ?_))))))))))))); refine yV rfl (yP rfl (yn rfl (zqX zI ?_)))); refine ⟨_, _, (ref6_within a.layer (-1) 15), ?_⟩)
        (refine zkn rfl rfl (zst_p (yP rfl (yT (zw_c rfl ?_)))); refine bcase_split (fun h4 => ?_) (fun h4 => ?_) <;> try simp only [zB] at h4)
        · (refine yS (yA rfl (yT (zw_r (zt_r (zb_r (zt_r (zt_r (zb_r (zt_r (ze_r zi ?_)))))))))); refine And.intro ?_ trivial)
          rw [if_neg (by simpa using h4)] at cf
          rw [bad (by rw [cf]; decide), cf]; rfl
        · rw [if_pos (by simpa using h4)] at cf
          (refine zw_k (zt_n (zw_s (yS (yV rfl (yP rfl (yn rfl (zqX zI ?_))))))); refine ⟨_, _, (ref_checkRegion a.region), ?_⟩)
          (refine zkn rfl rfl (zst_p (yA rfl (yU (yP rfl (yP rfl (yT (zw_c rfl ?_))))))); refine bcase_split (fun h5 => ?_) (fun h5 => ?_) <;> try simp only [zB] at h5)
          · (refine yS (yP rfl (yA rfl (yT (zw_r (zt_r (zb_r (zt_r (zt_r (zb_r (zt_r (ze_r zi ?_))))))))))); refine And.intro ?_ trivial)
            have h5 : ¬ Reg.checkRegion a.region = 0 := by simpa using h5
            rw [if_neg h5] at cf
            rw [bad (by rw [cf]; exact h5), cf, if_neg h5]
          · have h5 : Reg.checkRegion a.region = 0 := by simpa using h5
            rw [if_pos h5] at cf
            have hl := region_len h5
            (refine zw_k (zt_n (zw_s (yS (yV rfl (yP rfl (yn rfl (zqX zI ?_))))))); refine ⟨_, _, (ref6_rule a.clearance), ?_⟩)
            (refine zkn rfl rfl (zst_p (yP rfl (yT (zw_c rfl ?_)))); refine bcase_split (fun h6 => ?_) (fun h6 => ?_) <;> try simp only [zB] at h6)
            · (refine yS (yA rfl (yT (zw_r (zt_r (zb_r (zt_r (zt_r (zb_r (zt_r (ze_r zi ?_)))))))))); refine And.intro ?_ trivial)
              rw [if_neg (by simp [h6])] at cf
              rw [bad (by rw [cf]; decide), cf]; rfl
            · rw [if_pos (by simpa using h6)] at cf
              have s1 : rectSum (r.areas.take (i + 1)) = rectSum (r.areas.take i) + a.region.length := by
                rw [take_succ' ha, rectSum_app]; simp [rectSum]
              (refine zw_k (zt_n (zw_o (yP rfl (yV rfl (yP rfl (yP rfl (yq rfl (zqA zI ?_)))))))); refine And.intro ⟨by omega, by omega⟩ ?_)
              (refine yk (yA rfl (zo_0 (zb_n (zt_n (zw_o (yP rfl (yq rfl (zqA zI ?_)))))))); refine And.intro ⟨by omega, by omega⟩ ?_)
              (refine yk (yA rfl (yT (zaf_raw ?_))); refine ⟨(i + 1), _, SLe.refl _ _, ?_⟩)
              refine ⟨⟨by omega, fun k hk => ?_, by omega⟩, by omega, ⟨rfl, av_i64 (by omega), rfl, trivial⟩, ⟨rfl, trivial⟩⟩
              by_cases e : k = i
              · subst e; exact cf
              · exact q2 k (by omega)
      · have e : i = r.areas.length := by omega
        subst e
        have z0 : firstN (areaFault r.areas) 0 r.areas.length = 0 := firstN_none fun k _ hk => q2 k (by omega)
        rw [if_pos z0]
        have tl : r.areas.take r.areas.length = r.areas := List.take_length
        (refine zw_x (zt_x (zt_x (zb_h (zt_n (zw_s (yS (yP rfl (yP rfl (yT (zw_c rfl ?_)))))))))); refine bcase_split (fun h7 => ?_) (fun h7 => ?_) <;> try simp only [zB] at h7)
        · (refine yS (yA rfl (yT (zw_r (zt_r (ze_r zi ?_))))); refine And.intro ?_ trivial)
          rw [tl] at h7
          rw [if_pos (by omega)]; rfl
        · (refine zw_k (zt_n (yS (yA rfl (yR zi ?_)))); refine And.intro ?_ trivial)
          rw [tl] at h7
          rw [if_neg (by omega)]; rfl
end Go.Proofs.YtcfhiodoogkcpaaGreatDoor.M
