/- By the machine: CheckRules of the house. -/
import Derived.Test.YtcfhiodoogkcpaaGreatDoorMRules3
set_option linter.unusedSimpArgs false
set_option linter.unusedVariables false
namespace Go.Proofs.YtcfhiodoogkcpaaGreatDoor.M
open Go.AM Go.RowKit Go.Lib
open Reg (Rect Spans Band)

def areaFault (al : List Area) (i : Nat) : Int := match al[i]? with
  | some a => if (decide (-1 ≤ a.layer) && decide (a.layer ≤ 15)) = true then (if Reg.checkRegion a.region = 0 then (if isRule a.clearance = true then 0 else 1) else Reg.checkRegion a.region) else 1
  | none => 0
def rectSum : List Area → Nat
  | [] => 0
  | a :: r => a.region.length + rectSum r
theorem rectSum_app (a b : List Area) : rectSum (a ++ b) = rectSum a + rectSum b := by
  induction a with
  | nil => simp [rectSum]
  | cons x r ih => simp [rectSum, ih]; omega
def numsOK (r : Rules) : Bool := isRule r.clearance && isRule r.width && isRule r.ring && isRule r.edge && isRule r.holeGap
def classesFault (cs : List Class) : Int := if 50 < cs.length then 2 else firstN (classFault cs) 0 cs.length
def areasFault (al : List Area) : Int := if 50 < al.length then 2 else if firstN (areaFault al) 0 al.length = 0 then (if 2000 < rectSum al then 2 else 0) else firstN (areaFault al) 0 al.length
/-- what is wrong with the rules -/
def rulesFault (r : Rules) : Int := if numsOK r = true then (if classesFault r.classes = 0 then areasFault r.areas else classesFault r.classes) else 1
theorem region_len {l : List Rect} (h : Reg.checkRegion l = 0) : l.length ≤ 1000000 := by
  unfold Reg.checkRegion at h
  by_cases h0 : Reg.checkRects l = 0
  · have := (Reg.rects_good h0).1
    omega
  · rw [if_neg h0] at h; exact absurd h h0
def rulesOK (r : Rules) : Prop := (∀ c ∈ r.classes, classOK c) ∧ r.classes.length ≤ 1048576 ∧ r.areas.length ≤ 1048576
def rbox (r : Rules) : List AV := [.p (i64 r.clearance), .p (i64 r.width), .p (i64 r.ring), .p (i64 r.edge), .p (i64 r.holeGap), .p (.sl (r.classes.map kl)), .p (.sl (r.areas.map arr))]
set_option maxRecDepth 100000 in
set_option maxHeartbeats 1000000 in
theorem house_checkRules (r : Rules) (ho : rulesOK r) : ACalls C 10 [.pv (.ag (rl r))] (.p (i64 (rulesFault r))) [] := by
  refine fun_go hC Tryz.func10 rfl rfl 59 rfl (by decide) (by kernel_rfl) fun _ _ _ _ _ => ?_
  obtain ⟨o1, o2, o3⟩ := ho
  ((refine yS (yn rfl (zq1 zI (zkns (zst_bx (yA rfl (yT (zw_s (yS (yV rfl (yP rfl (yV rfl (yP rfl (yV rfl ?_))))))))))))); refine yP rfl (yV rfl (yP rfl (yV rfl (yP rfl (yn rfl (zq1 zI (zkns (zst_ow (yn rfl (zqX zI ?_))))))))))); refine ⟨_, _, (contains_int [r.clearance, r.width, r.ring, r.edge, r.holeGap] (by simp)), ?_⟩)
  have nb : ([r.clearance, r.width, r.ring, r.edge, r.holeGap].any fun n => !isRule n) = !numsOK r := by
    simp [numsOK, Bool.not_and, Bool.or_assoc]
  rw [nb]
  (refine zkn rfl rfl (zst_p (yT (zw_c rfl ?_))); refine bcase_split (fun h0 => ?_) (fun h0 => ?_) <;> try simp only [zB] at h0)
  · (refine yS (yA rfl (yT (zw_r (zt_r (ze_r zi ?_))))); refine And.intro ?_ trivial)
    rw [rulesFault, if_neg (by simp [h0])]; rfl
  · rw [rulesFault, if_pos (by simpa using h0)]
    (refine zw_k (zt_n (zw_s (yS (yV rfl (yP rfl (yn rfl (zqX zI ?_))))))); refine ⟨_, _, (house_checkClasses r.classes o1 o2), ?_⟩)
    (refine zkn rfl rfl (zst_p (yA rfl (yU (yP rfl (yP rfl (yT (zw_c rfl ?_))))))); refine bcase_split (fun h1 => ?_) (fun h1 => ?_) <;> try simp only [zB] at h1)
    · (refine yS (yP rfl (yA rfl (yT (zw_r (zt_r (ze_r zi ?_)))))); refine And.intro ?_ trivial)
      rw [if_neg (show ¬ classesFault r.classes = 0 from by simpa [classesFault] using h1)]; rfl
    · rw [if_pos (show classesFault r.classes = 0 from by simpa [classesFault] using h1)]
      have lm := len_map r.areas arr
      (refine zw_k (zt_n (zw_s (yS (yV rfl (yP rfl (yP rfl (yP rfl (yT (zw_c rfl ?_))))))))); refine bcase_split (fun h2 => ?_) (fun h2 => ?_) <;> try simp only [zB] at h2)
      · (refine yS (yA rfl (yT (zw_r (zt_r (ze_r zi ?_))))); refine And.intro ?_ trivial)
        rw [areasFault, if_pos (by omega)]; rfl
      · rw [areasFault, if_neg (by omega)]
        refine zw_k (zt_n (yS (yA rfl (yT (zw_s (yS (yV rfl (yP rfl (yP rfl (yP rfl (yT (zw_b ?_))))))))))))
        refine loop_ok' (fun i : Nat => i ≤ r.areas.length ∧ (∀ k, k < i → areaFault r.areas k = 0) ∧ rectSum (r.areas.take i) ≤ i * 1000000) (fun i => [(4, .p (i64 (rectSum (r.areas.take i)))), (31, .p (.sl (r.areas.map arr))), (32, .p (i64 (r.areas.map arr).length)), (33, .p (i64 i))]) (fun _ => []) (fun i => r.areas.length - i) 0 _ (SLe.refl _ _) ⟨Nat.zero_le _, fun k h => by omega, by simp [rectSum]⟩ ⟨rfl, rfl, rfl, rfl, trivial⟩ trivial fun i hi t h => ?_
        obtain ⟨q1, q2, q3⟩ := hi
        (refine yS (yP rfl (yT (zw_s (zw_c rfl ?_)))); refine bcase_split (fun h3 => ?_) (fun h3 => ?_) <;> try simp only [zB] at h3)
        · obtain ⟨a, ha⟩ := get_of (l := r.areas) (i := i) (by omega)
          have bad : areaFault r.areas i ≠ 0 → firstN (areaFault r.areas) 0 r.areas.length = areaFault r.areas i := fun hb => firstN_at hb (fun k _ hk => q2 k hk) (Nat.zero_le _) (by omega)
          have cf : areaFault r.areas i = (if (decide (-1 ≤ a.layer) && decide (a.layer ≤ 15)) = true then (if Reg.checkRegion a.region = 0 then (if isRule a.clearance = true then 0 else 1) else Reg.checkRegion a.region) else 1) := by rw [areaFault, ha]
          have la := len_map a.region rc
          (refine zw_k (zt_n (zw_s (zw_b (yS (yq rfl (zqX zI ?_)))))); refine ⟨(arr a), (idx rfl ha), ?_⟩)
          ((refine yk (yP rfl (yn rfl (zq1 zI (zkns (zst_bx (yq rfl (zq1 zI (zkq (zst_e (zst_0 (yT (zw_s (yS ?_))))))))))))); refine yV rfl (yP rfl (yn rfl (zqX zI ?_)))); refine ⟨_, _, (rules_within a.layer (-1) 15), ?_⟩)
          (refine zkn rfl rfl (zst_p (yP rfl (yT (zw_c rfl ?_)))); refine bcase_split (fun h4 => ?_) (fun h4 => ?_) <;> try simp only [zB] at h4)
          · (refine yS (yA rfl (yT (zw_r (zt_r (zb_r (zt_r (zt_r (zb_r (zt_r (ze_r zi ?_)))))))))); refine And.intro ?_ trivial)
            rw [if_neg (by simpa using h4)] at cf
            rw [bad (by rw [cf]; decide), cf]; rfl
          · rw [if_pos (by simpa using h4)] at cf
            (refine zw_k (zt_n (zw_s (yS (yV rfl (yP rfl (yn rfl (zqX zI ?_))))))); refine ⟨_, _, (house_checkRegion a.region), ?_⟩)
            (refine zkn rfl rfl (zst_p (yA rfl (yU (yP rfl (yP rfl (yT (zw_c rfl ?_))))))); refine bcase_split (fun h5 => ?_) (fun h5 => ?_) <;> try simp only [zB] at h5)
            · (refine yS (yP rfl (yA rfl (yT (zw_r (zt_r (zb_r (zt_r (zt_r (zb_r (zt_r (ze_r zi ?_))))))))))); refine And.intro ?_ trivial)
              have h5 : ¬ Reg.checkRegion a.region = 0 := by simpa using h5
              rw [if_neg h5] at cf
              rw [bad (by rw [cf]; exact h5), cf, if_neg h5]
            · have h5 : Reg.checkRegion a.region = 0 := by simpa using h5
              rw [if_pos h5] at cf
              have hl := region_len h5
              (refine zw_k (zt_n (zw_s (yS (yV rfl (yP rfl (yn rfl (zqX zI ?_))))))); refine ⟨_, _, (rules_isRule a.clearance), ?_⟩)
              (refine zkn rfl rfl (zst_p (yP rfl (yT (zw_c rfl ?_)))); refine bcase_split (fun h6 => ?_) (fun h6 => ?_) <;> try simp only [zB] at h6)
              · (refine yS (yA rfl (yT (zw_r (zt_r (zb_r (zt_r (zt_r (zb_r (zt_r (ze_r zi ?_)))))))))); refine And.intro ?_ trivial)
                rw [if_neg (by simp [h6])] at cf
                rw [bad (by rw [cf]; decide), cf]; rfl
              · rw [if_pos (by simpa using h6)] at cf
                have s1 : rectSum (r.areas.take (i + 1)) = rectSum (r.areas.take i) + a.region.length := by
                  rw [take_succ' ha, rectSum_app]; simp [rectSum]
                (refine zw_k (zt_n (zw_o (yP rfl (yV rfl (yP rfl (yP rfl (yq rfl (zqA zI ?_)))))))); refine And.intro ⟨by omega, by omega⟩ ?_)
                (refine yk (yA rfl (zo_0 (zb_n (zt_n (zw_o (yq rfl (zqA zI ?_))))))); refine And.intro ⟨by omega, by omega⟩ ?_)
                (refine yk (yP rfl (yT (zaf_raw ?_))); refine ⟨(i + 1), _, SLe.refl _ _, ?_⟩)
                refine ⟨⟨by omega, fun k hk => ?_, by omega⟩, by omega, ⟨av_i64 (by omega), rfl, rfl, rfl, trivial⟩, trivial⟩
                by_cases e : k = i
                · subst e; exact cf
                · exact q2 k (by omega)
        · have e : i = r.areas.length := by omega
          subst e
          have z0 : firstN (areaFault r.areas) 0 r.areas.length = 0 := firstN_none fun k _ hk => q2 k (by omega)
          rw [if_pos z0]
          have tl : r.areas.take r.areas.length = r.areas := List.take_length
          (refine zw_x (zt_x (zt_x (zb_h (zt_n (zw_s (yS (yP rfl (yP rfl (yT (zw_c rfl ?_)))))))))); refine bcase_split (fun h7 => ?_) (fun h7 => ?_) <;> try simp only [zB] at h7)
          · (refine yS (yA rfl (yT (zw_r (zt_r (ze_r zi ?_))))); refine And.intro ?_ trivial)
            rw [tl] at h7
            rw [if_pos (by omega)]; rfl
          · (refine zw_k (zt_n (yS (yA rfl (yR zi ?_)))); refine And.intro ?_ trivial)
            rw [tl] at h7
            rw [if_neg (by omega)]; rfl
end Go.Proofs.YtcfhiodoogkcpaaGreatDoor.M
