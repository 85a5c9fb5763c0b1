/- By the machine: CheckRules of the reference. -/
import Derived.Test.YthjfllfhagdnpaaGreatDoorMRules4
set_option linter.unusedSimpArgs false
set_option linter.unusedVariables false
namespace Go.Proofs.YthjfllfhagdnpaaGreatDoor.M
open Go.AM Go.RowKit Go.Lib
open Reg (Rect Spans Band)

set_option maxRecDepth 100000 in
set_option maxHeartbeats 1000000 in
theorem ref_checkClass (cs : List Class) (hok : ∀ c ∈ cs, classOK c) (hN : cs.length ≤ 1048576) (i : Nat) (hi : i < cs.length) : ACalls C 209 [.pv (.sl (cs.map kl)), .pv (i64 i)] (.p (i64 (classFault cs i))) [] := by
  refine fun_go hC Tryz.func209 rfl rfl 89 rfl (by decide) (by kernel_rfl) fun _ _ _ _ _ => ?_
  have lm := len_map cs kl
  obtain ⟨c, hc⟩ := get_of (l := cs) (i := i) hi
  obtain ⟨o1, o2, o3⟩ := hok c (List.mem_of_getElem? hc)
  have cf : classFault cs i = (if wordB c.name = true then (if 1000 < c.nets.length then 2 else
      if firstN (netFault cs i c.nets) 0 c.nets.length = 0 then
        (if (isRule c.clearance && isRule c.width) = true then (if backAt (cs.map Class.name) i = true then 8 else 0) else 1)
      else firstN (netFault cs i c.nets) 0 c.nets.length) else 5) := by rw [classFault, hc]
  have lc := len_map c.nets fun s => [str s]
  rw [cf]
  (refine yS (yA rfl (yU (yP rfl (yP rfl (yq rfl (zqX zI ?_)))))); refine ⟨(kl c), (idx rfl hc), ?_⟩)
  ((refine yk (yP rfl (yn rfl (zq1 zI (zkns (zst_bx (yq rfl (zq1 zI (zkq (zst_e (zst_0 (yT (zw_s (yS ?_))))))))))))); refine yV rfl (yP rfl (yn rfl (zqX zI ?_)))); refine ⟨_, _, (ref5_isWord c.name (by have : c.name.size < 4294967281 := o1; omega)), ?_⟩)
  (refine zkn rfl rfl (zst_p (yP rfl (yT (zw_c rfl ?_)))); refine bcase_split (fun h2 => ?_) (fun h2 => ?_) <;> try simp only [zB] at h2)
  · (refine yS (yA rfl (yT (zw_r (zt_r (ze_r zi ?_))))); refine And.intro ?_ trivial)
    rw [if_neg (by simp [h2])]; rfl
  · rw [if_pos (by simpa using h2)]
    (refine zw_k (zt_n (zw_s (yS (yV rfl (yP rfl (yP rfl (yP rfl (yT (zw_c rfl ?_))))))))); refine bcase_split (fun h3 => ?_) (fun h3 => ?_) <;> try simp only [zB] at h3)
    · (refine yS (yA rfl (yT (zw_r (zt_r (ze_r zi ?_))))); refine And.intro ?_ trivial)
      rw [if_pos (by omega)]; rfl
    · rw [if_neg (by omega)]
      refine zw_k (zt_n (zw_s (yS (yA rfl (yT (zw_b ?_))))))
      refine loop_ok' (fun j : Nat => j ≤ c.nets.length ∧ ∀ k, k < j → netFault cs i c.nets k = 0) (fun j => [(0, .p (.sl (cs.map kl))), (1, .p (i64 i)), (5, .bx 5 0), (6, .p (i64 j))]) (fun _ => [(5, .box [.p (str c.name), .p (strs c.nets), .p (i64 c.clearance), .p (i64 c.width)])]) (fun j => c.nets.length - j) 0 _ (SLe.refl _ _) ⟨Nat.zero_le _, fun k h => by omega⟩ ⟨rfl, rfl, rfl, rfl, trivial⟩ ⟨rfl, trivial⟩ fun j hj t h => ?_
      obtain ⟨p1, p2⟩ := hj
      (refine zw_s (yS (yP rfl (yV rfl (yP rfl (yP rfl (yP rfl (yT (zw_c rfl ?_)))))))); refine bcase_split (fun h4 => ?_) (fun h4 => ?_) <;> try simp only [zB] at h4)
      · obtain ⟨y, hy⟩ := get_of (l := c.nets) (i := j) (by omega)
        have nbad : netFault cs i c.nets j ≠ 0 → (if firstN (netFault cs i c.nets) 0 c.nets.length = 0 then
          (if (isRule c.clearance && isRule c.width) = true then (if backAt (cs.map Class.name) i = true then 8 else 0) else 1)
          else firstN (netFault cs i c.nets) 0 c.nets.length) = netFault cs i c.nets j := fun hb => by
          have e : firstN (netFault cs i c.nets) 0 c.nets.length = netFault cs i c.nets j := firstN_at hb (fun k _ hk => p2 k hk) (Nat.zero_le _) (by omega)
          rw [e, if_neg hb]
        have nf : netFault cs i c.nets j = (if pathB y = true then (if backAt c.nets j = true then 8 else if seenIn (cs.take i) y = true then 7 else 0) else 5) := by rw [netFault, hy]
        (refine zw_k (zt_n (zw_s (zw_b (zw_s (yS (yV rfl (yP rfl (yP rfl (yq rfl (zqX zI ?_)))))))))); refine ⟨[str y], (idx rfl hy), ?_⟩)
        (refine yk (yP rfl (yn rfl (zqX zI ?_))); refine ⟨_, _, (ref5_isPath y (o3 y (List.mem_of_getElem? hy))), ?_⟩)
        (refine zkn rfl rfl (zst_p (yP rfl (yT (zw_c rfl ?_)))); refine bcase_split (fun h5 => ?_) (fun h5 => ?_) <;> try simp only [zB] at h5)
        · (refine yS (yA rfl (yT (zw_r (zt_r (zb_r (zt_r (zt_r (zb_r (zt_r (ze_r zi ?_)))))))))); refine And.intro ?_ trivial)
          rw [if_neg (by simp [h5])] at nf
          rw [nbad (by rw [nf]; decide), nf]; rfl
        · rw [if_pos (by simpa using h5)] at nf
          have next : netFault cs i c.nets j = 0 → ∀ k, k < j + 1 → netFault cs i c.nets k = 0 := fun h0 k hk => by
            by_cases e : k = j
            · subst e; exact h0
            · exact p2 k (by omega)
          (refine zw_k (zt_n (zw_s (zw_s (zw_d false [true, true, true, true, true, true, true, true, true, true, true, true, true, true, true, true] rfl (by kernel_rfl) (zp_q rfl (yD rfl (yD rfl (yD rfl (dg rfl ?_))))))))); refine bcase_split (fun h6 => ?_) (fun h6 => ?_) <;> try simp only [zB] at h6)
          · obtain ⟨z, hz⟩ := get_of (l := c.nets) (i := j - 1) (by omega)
            have bk : backAt c.nets j = (ltS y z || decide (y = z)) := by
              simp only [backAt, hy, hz]
              rw [decide_eq_true (by omega : 0 < j)]; rfl
            (refine zg_t (zd_q rfl (zq1 zI (zkd (zst_bx (d1 rfl (d1 rfl (d2 rfl (zd_q rfl (zqX zI ?_))))))))); refine ⟨[str y], (idx rfl hy), ?_⟩)
            (refine zkd (zst_p (d1 rfl (d2 rfl (zd_q rfl (zq1 zI (zkd (zst_bx (d1 rfl (d1 rfl (d2 rfl (zd_q rfl (zqA zI ?_)))))))))))); refine And.intro ⟨by omega, by omega⟩ ?_)
            (refine zkd (zst_p (d2 rfl (zd_q rfl (zqX zI ?_)))); refine ⟨[str z], (idx (show (j : Int) - 1 = ((j - 1 : Nat) : Int) by omega) hz), ?_⟩)
            (refine zkd (zst_p (d1 rfl (d1 rfl (yD rfl (zd_0 (zr_q rfl (zt_n (zw_c rfl ?_)))))))); refine bcase_split (fun h7 => ?_) (fun h7 => ?_) <;> try simp only [zB] at h7)
            · (refine yS (yA rfl (yT (zw_r (zt_r (zb_r (zt_r (zt_r (zb_r (zt_r (ze_r zi ?_)))))))))); refine And.intro ?_ trivial)
              have h7 : (ltS y z || decide (y = z)) = true := by simpa [ltS] using h7
              rw [bk, h7, if_pos rfl] at nf
              rw [nbad (by rw [nf]; decide), nf]; rfl
            · have h7 : (ltS y z || decide (y = z)) = false := by simpa [ltS] using h7
              rw [bk, h7, if_neg (by decide)] at nf
              refine zw_k (zt_n (yS (yA rfl (yT (zw_b ?_)))))
              refine loop_ok' (fun k : Nat => k ≤ i ∧ seenIn (cs.take k) y = false) (fun k => [(0, .p (.sl (cs.map kl))), (1, .p (i64 i)), (5, .bx 5 0), (6, .p (i64 j)), (7, .p (i64 k))]) (fun _ => [(5, .box [.p (str c.name), .p (strs c.nets), .p (i64 c.clearance), .p (i64 c.width)])]) (fun k => i - k) 0 _ (SLe.refl _ _) ⟨Nat.zero_le _, rfl⟩ ⟨rfl, rfl, rfl, rfl, rfl, trivial⟩ ⟨rfl, trivial⟩ fun k hk t h => ?_
              obtain ⟨u1, u2⟩ := hk
              (refine zw_s (yS (yP rfl (yP rfl (yP rfl (yT (zw_c rfl ?_)))))); refine bcase_split (fun h8 => ?_) (fun h8 => ?_) <;> try simp only [zB] at h8)
              · obtain ⟨d, hd⟩ := get_of (l := cs) (i := k) (by omega)
                have st : seenIn (cs.take (k + 1)) y = hasB d.nets y := by
                  rw [take_succ' hd]
                  unfold seenIn at *
                  rw [List.any_append, u2]
                  simp
                ((refine zw_k (zt_n (zw_s (zw_b (zw_s (zw_d false [true, true, true, true, true, true, true, true, true, true, true] rfl (by kernel_rfl) (zp_s rfl (zp_s rfl (zp_s rfl (zp_s rfl (zp_s rfl (zp_s rfl (zp_s rfl (zp_s rfl ?_))))))))))))); refine zp_s rfl (zp_s rfl (zp_n rfl rfl (zp_q rfl (yD rfl (yD rfl (dq rfl (zqX zI ?_)))))))); refine ⟨(kl d), (idx rfl hd), ?_⟩)
                (refine zkd (zst_p (yD rfl (yD rfl (yW rfl (yD rfl (yD rfl (dq rfl (zqX zI ?_)))))))); refine ⟨[str y], (idx rfl hy), ?_⟩)
                (refine zkd (zst_p (yD rfl (dq rfl (zqX zI ?_)))); refine ⟨_, _, (ref6_has d.nets y (by have := (hok d (List.mem_of_getElem? hd)).2.1; omega)), ?_⟩)
                (refine zkd (zst_p (zd_0 (zr_q rfl (zt_n (zw_c rfl ?_))))); refine bcase_split (fun h9 => ?_) (fun h9 => ?_) <;> try simp only [zB] at h9)
                · have sn : seenIn (cs.take i) y = true := by
                    unfold seenIn
                    rw [List.any_eq_true]
                    exact ⟨d, List.mem_iff_getElem?.2 ⟨k, by rw [List.getElem?_take, if_pos (by omega)]; exact hd⟩, h9⟩
                  rw [sn, if_pos rfl] at nf
                  (refine yS (yA rfl (yT (zw_r (zb_r (zt_r (zt_r (zb_r (zb_r (zt_r (zt_r (zb_r (zt_r (ze_r zi ?_))))))))))))); refine And.intro ?_ trivial)
                  rw [nbad (by rw [nf]; decide), nf]; rfl
                · (refine zw_k (zb_n (zt_n (zw_o (yP rfl (yq rfl (zqA zI ?_)))))); refine And.intro ⟨by omega, by omega⟩ ?_)
                  (refine yk (yA rfl (yT (zaf_raw ?_))); refine ⟨(k + 1), _, SLe.refl _ _, ?_⟩)
                  exact ⟨⟨by omega, by rw [st]; simpa using h9⟩, by omega, ⟨rfl, rfl, rfl, rfl, rfl, trivial⟩, ⟨rfl, trivial⟩⟩
              · have e : k = i := by omega
                subst e
                rw [u2, if_neg (by decide)] at nf
                (refine zw_x (zt_x (zt_x (zb_h (zb_n (zt_n (zw_o (yP rfl (yq rfl (zqA zI ?_))))))))); refine And.intro ⟨by omega, by omega⟩ ?_)
                (refine yk (yA rfl (yT (zaf_raw ?_))); refine ⟨(j + 1), _, SLe.refl _ _, ?_⟩)
                exact ⟨⟨by omega, next nf⟩, by omega, ⟨rfl, rfl, rfl, rfl, trivial⟩, ⟨rfl, trivial⟩⟩
          · have h0 : j = 0 := by omega
            have bk : backAt c.nets j = false := by
              subst h0
              simp only [backAt, hy]
              rfl
            rw [bk, if_neg (by decide)] at nf
            (refine zg_f (zst_p (d0 rfl (d0 rfl (d0 rfl (d0 rfl (d0 rfl (d0 rfl (d0 rfl (d0 rfl (d0 rfl (d0 rfl (d0 rfl (yD rfl ?_))))))))))))); refine zd_0 (zr_q rfl (zt_n (zw_c rfl (zc_f (zw_k (zt_n (yS (yA rfl (yT (zw_b ?_)))))))))))
            refine loop_ok' (fun k : Nat => k ≤ i ∧ seenIn (cs.take k) y = false) (fun k => [(0, .p (.sl (cs.map kl))), (1, .p (i64 i)), (5, .bx 5 0), (6, .p (i64 j)), (7, .p (i64 k))]) (fun _ => [(5, .box [.p (str c.name), .p (strs c.nets), .p (i64 c.clearance), .p (i64 c.width)])]) (fun k => i - k) 0 _ (SLe.refl _ _) ⟨Nat.zero_le _, rfl⟩ ⟨rfl, rfl, rfl, rfl, rfl, trivial⟩ ⟨rfl, trivial⟩ fun k hk t h => ?_
            obtain ⟨u1, u2⟩ := hk
            (refine zw_s (yS (yP rfl (yP rfl (yP rfl (yT (zw_c rfl ?_)))))); refine bcase_split (fun h8 => ?_) (fun h8 => ?_) <;> try simp only [zB] at h8)
            · obtain ⟨d, hd⟩ := get_of (l := cs) (i := k) (by omega)
              have st : seenIn (cs.take (k + 1)) y = hasB d.nets y := by
                rw [take_succ' hd]
                unfold seenIn at *
                rw [List.any_append, u2]
                simp
              ((refine zw_k (zt_n (zw_s (zw_b (zw_s (zw_d false [true, true, true, true, true, true, true, true, true, true, true] rfl (by kernel_rfl) (zp_s rfl (zp_s rfl (zp_s rfl (zp_s rfl (zp_s rfl (zp_s rfl (zp_s rfl (zp_s rfl ?_))))))))))))); refine zp_s rfl (zp_s rfl (zp_n rfl rfl (zp_q rfl (yD rfl (yD rfl (dq rfl (zqX zI ?_)))))))); refine ⟨(kl d), (idx rfl hd), ?_⟩)
              (refine zkd (zst_p (yD rfl (yD rfl (yW rfl (yD rfl (yD rfl (dq rfl (zqX zI ?_)))))))); refine ⟨[str y], (idx rfl hy), ?_⟩)
              (refine zkd (zst_p (yD rfl (dq rfl (zqX zI ?_)))); refine ⟨_, _, (ref6_has d.nets y (by have := (hok d (List.mem_of_getElem? hd)).2.1; omega)), ?_⟩)
              (refine zkd (zst_p (zd_0 (zr_q rfl (zt_n (zw_c rfl ?_))))); refine bcase_split (fun h9 => ?_) (fun h9 => ?_) <;> try simp only [zB] at h9)
              · have sn : seenIn (cs.take i) y = true := by
                  unfold seenIn
                  rw [List.any_eq_true]
                  exact ⟨d, List.mem_iff_getElem?.2 ⟨k, by rw [List.getElem?_take, if_pos (by omega)]; exact hd⟩, h9⟩
                rw [sn, if_pos rfl] at nf
                (refine yS (yA rfl (yT (zw_r (zb_r (zt_r (zt_r (zb_r (zb_r (zt_r (zt_r (zb_r (zt_r (ze_r zi ?_))))))))))))); refine And.intro ?_ trivial)
                rw [nbad (by rw [nf]; decide), nf]; rfl
              · (refine zw_k (zb_n (zt_n (zw_o (yP rfl (yq rfl (zqA zI ?_)))))); refine And.intro ⟨by omega, by omega⟩ ?_)
                (refine yk (yA rfl (yT (zaf_raw ?_))); refine ⟨(k + 1), _, SLe.refl _ _, ?_⟩)
                exact ⟨⟨by omega, by rw [st]; simpa using h9⟩, by omega, ⟨rfl, rfl, rfl, rfl, rfl, trivial⟩, ⟨rfl, trivial⟩⟩
            · have e : k = i := by omega
              subst e
              rw [u2, if_neg (by decide)] at nf
              (refine zw_x (zt_x (zt_x (zb_h (zb_n (zt_n (zw_o (yP rfl (yq rfl (zqA zI ?_))))))))); refine And.intro ⟨by omega, by omega⟩ ?_)
              (refine yk (yA rfl (yT (zaf_raw ?_))); refine ⟨(j + 1), _, SLe.refl _ _, ?_⟩)
              exact ⟨⟨by omega, next nf⟩, by omega, ⟨rfl, rfl, rfl, rfl, trivial⟩, ⟨rfl, trivial⟩⟩
      · have z0 : firstN (netFault cs i c.nets) 0 c.nets.length = 0 := firstN_none fun k _ hk => p2 k (by omega)
        rw [if_pos z0]
        have bn : ∀ d, cs[i - 1]? = some d → 0 < i → backAt (cs.map Class.name) i = (ltS c.name d.name || decide (c.name = d.name)) := fun d hd h0 => by
          simp only [backAt, List.getElem?_map, hc, hd, Option.map_some]
          rw [decide_eq_true h0]; rfl
        (refine zw_x (zt_x (zt_x (zb_h (zt_n (zw_s (yS (yV rfl (yP rfl (yn rfl (zqX zI ?_)))))))))); refine ⟨_, _, (ref6_rule c.clearance), ?_⟩)
        (refine zkn rfl rfl (zst_p (yP rfl (yP rfl (yg rfl ?_)))); refine bcase_split (fun g1 => ?_) (fun g1 => ?_) <;> try simp only [zB] at g1)
        · ((refine zg_f (zst_p (y0 rfl (y0 rfl (y0 rfl (yP rfl (yT (zw_c rfl (zc_t (yS (yA rfl (yT (zw_r (zt_r ?_))))))))))))); refine ze_r zi ?_); refine And.intro ?_ trivial)
          rw [if_neg (by simp [g1])]; rfl
        · (refine zg_t (zs_q rfl rfl (zq1 zI (zkq (zst_bx (y1 rfl (y2 rfl (zs_n rfl rfl rfl (zqX zI ?_)))))))); refine ⟨_, _, (ref6_rule c.width), ?_⟩)
          (refine zkn rfl rfl (zst_p (y1 rfl (yP rfl (yT (zw_c rfl ?_))))); refine bcase_split (fun g2 => ?_) (fun g2 => ?_) <;> try simp only [zB] at g2)
          · (refine yS (yA rfl (yT (zw_r (zt_r (ze_r zi ?_))))); refine And.intro ?_ trivial)
            rw [if_neg (by simp [g2])]; rfl
          · rw [if_pos (by simp [g1, g2])]
            (refine zw_k (zt_n (zw_s (zw_s (zw_d false [true, true, true, true, true, true, true, true, true, true, true, true, true] rfl (by kernel_rfl) (zp_q rfl (yD rfl (yD rfl (yD rfl (dg rfl ?_))))))))); refine bcase_split (fun g3 => ?_) (fun g3 => ?_) <;> try simp only [zB] at g3)
            · obtain ⟨d, hd⟩ := get_of (l := cs) (i := i - 1) (by omega)
              (refine zg_t (zd_q rfl (zq1 zI (zkd (zst_bx (d1 rfl (d1 rfl (d1 rfl (d2 rfl (zd_q rfl (zqA zI ?_)))))))))); refine And.intro ⟨by omega, by omega⟩ ?_)
              (refine zkd (zst_p (d2 rfl (zd_q rfl (zqX zI ?_)))); refine ⟨(kl d), (idx (show (i : Int) - 1 = ((i - 1 : Nat) : Int) by omega) hd), ?_⟩)
              rw [bn d hd (by omega)]
              (refine zkd (zst_p (d1 rfl (d1 rfl (d1 rfl (yD rfl (zd_0 (zr_q rfl (zt_n (zw_c rfl ?_))))))))); refine bcase_split (fun g4 => ?_) (fun g4 => ?_) <;> try simp only [zB] at g4)
              · (refine yS (yA rfl (yT (zw_r (zt_r (ze_r zi ?_))))); refine And.intro ?_ trivial)
                have g4 : (ltS c.name d.name || decide (c.name = d.name)) = true := by simpa [ltS] using g4
                rw [g4]; rfl
              · have g4 : (ltS c.name d.name || decide (c.name = d.name)) = false := by simpa [ltS] using g4
                (refine zw_k (zt_n (yS (yA rfl (yR zi ?_)))); refine And.intro ?_ trivial)
                rw [g4]; rfl
            · have h0 : i = 0 := by omega
              have bk : backAt (cs.map Class.name) i = false := by
                subst h0
                simp only [backAt, List.getElem?_map, hc]
                rfl
              ((refine zg_f (zst_p (d0 rfl (d0 rfl (d0 rfl (d0 rfl (d0 rfl (d0 rfl (d0 rfl (d0 rfl (yD rfl (zd_0 (zr_q rfl (zt_n ?_))))))))))))); refine zw_c rfl (zc_f (zw_k (zt_n (yS (yA rfl (yR zi ?_))))))); refine And.intro ?_ trivial)
              rw [bk]; rfl
end Go.Proofs.YthjfllfhagdnpaaGreatDoor.M
namespace Go.Proofs.YthjfllfhagdnpaaGreatDoor.M
open Go.AM Go.RowKit Go.Lib
open Reg (Rect Spans Band)

set_option maxRecDepth 100000 in
set_option maxHeartbeats 1000000 in
theorem ref_checkRules (r : Rules) (ho : rulesOK r) : ACalls C 115 [.pv (.ag (rl r))] (.p (i64 (rulesFault r))) [] := by
  refine fun_go hC Tryz.func115 rfl rfl 92 rfl (by decide) (by kernel_rfl) fun _ _ _ _ _ => ?_
  obtain ⟨o1, o2, o3⟩ := ho
  have lm := len_map r.areas arr
  have lc := len_map r.classes kl
  (refine yS (yn rfl (zq1 zI (zkns (zst_bx (yA rfl (yT (zw_s (yS (yV rfl (yP rfl (yn rfl (zqX zI ?_)))))))))))); refine ⟨_, _, (ref6_rule r.clearance), ?_⟩)
  (refine zkn rfl rfl (zst_p (yP rfl (yP rfl (yg rfl ?_)))); refine bcase_split (fun h1 => ?_) (fun h1 => ?_) <;> try simp only [zB] at h1)
  · ((refine zg_f (zst_p (y0 rfl (y0 rfl (y0 rfl (yP rfl (yP rfl (y0 rfl (y0 rfl (y0 rfl (y0 rfl (yP rfl (yP rfl (y0 rfl ?_))))))))))))); refine y0 rfl (y0 rfl (y0 rfl (yP rfl (yP rfl (y0 rfl (y0 rfl (y0 rfl (y0 rfl (yP rfl (yT (zw_c rfl (zc_t (yS ?_))))))))))))); refine yA rfl (yT (zw_r (zt_r (ze_r zi ?_))))); refine And.intro ?_ trivial)
    rw [rulesFault, if_neg (by simp [numsOK, h1])]; rfl
  (refine zg_t (zs_q rfl rfl (zq1 zI (zkq (zst_bx (y1 rfl (y2 rfl (zs_n rfl rfl rfl (zqX zI ?_)))))))); refine ⟨_, _, (ref6_rule r.width), ?_⟩)
  (refine zkn rfl rfl (zst_p (y1 rfl (yP rfl (yP rfl (yg rfl ?_))))); refine bcase_split (fun h2 => ?_) (fun h2 => ?_) <;> try simp only [zB] at h2)
  · ((refine zg_f (zst_p (y0 rfl (y0 rfl (y0 rfl (yP rfl (yP rfl (y0 rfl (y0 rfl (y0 rfl (y0 rfl (yP rfl (yP rfl (y0 rfl ?_))))))))))))); refine y0 rfl (y0 rfl (y0 rfl (yP rfl (yT (zw_c rfl (zc_t (yS (yA rfl (yT (zw_r (zt_r (ze_r zi ?_))))))))))))); refine And.intro ?_ trivial)
    rw [rulesFault, if_neg (by simp [numsOK, h2])]; rfl
  (refine zg_t (zs_q rfl rfl (zq1 zI (zkq (zst_bx (y1 rfl (y2 rfl (zs_n rfl rfl rfl (zqX zI ?_)))))))); refine ⟨_, _, (ref6_rule r.ring), ?_⟩)
  (refine zkn rfl rfl (zst_p (y1 rfl (yP rfl (yP rfl (yg rfl ?_))))); refine bcase_split (fun h3 => ?_) (fun h3 => ?_) <;> try simp only [zB] at h3)
  · ((refine zg_f (zst_p (y0 rfl (y0 rfl (y0 rfl (yP rfl (yP rfl (y0 rfl (y0 rfl (y0 rfl (y0 rfl (yP rfl (yT (zw_c rfl ?_))))))))))))); refine zc_t (yS (yA rfl (yT (zw_r (zt_r (ze_r zi ?_))))))); refine And.intro ?_ trivial)
    rw [rulesFault, if_neg (by simp [numsOK, h3])]; rfl
  (refine zg_t (zs_q rfl rfl (zq1 zI (zkq (zst_bx (y1 rfl (y2 rfl (zs_n rfl rfl rfl (zqX zI ?_)))))))); refine ⟨_, _, (ref6_rule r.edge), ?_⟩)
  (refine zkn rfl rfl (zst_p (y1 rfl (yP rfl (yP rfl (yg rfl ?_))))); refine bcase_split (fun h4 => ?_) (fun h4 => ?_) <;> try simp only [zB] at h4)
  · ((refine zg_f (zst_p (y0 rfl (y0 rfl (y0 rfl (yP rfl (yT (zw_c rfl (zc_t (yS (yA rfl (yT (zw_r (zt_r ?_))))))))))))); refine ze_r zi ?_); refine And.intro ?_ trivial)
    rw [rulesFault, if_neg (by simp [numsOK, h4])]; rfl
  (refine zg_t (zs_q rfl rfl (zq1 zI (zkq (zst_bx (y1 rfl (y2 rfl (zs_n rfl rfl rfl (zqX zI ?_)))))))); refine ⟨_, _, (ref6_rule r.holeGap), ?_⟩)
  (refine zkn rfl rfl (zst_p (y1 rfl (yP rfl (yT (zw_c rfl ?_))))); refine bcase_split (fun h5 => ?_) (fun h5 => ?_) <;> try simp only [zB] at h5)
  · (refine yS (yA rfl (yT (zw_r (zt_r (ze_r zi ?_))))); refine And.intro ?_ trivial)
    rw [rulesFault, if_neg (by simp [numsOK, h5])]; rfl
  rw [rulesFault, if_pos (by simp [numsOK, h1, h2, h3, h4, h5])]
  (refine zw_k (zt_n (zw_s (yS (yV rfl (yP rfl (yP rfl (yP rfl (yT (zw_c rfl ?_))))))))); refine bcase_split (fun h6 => ?_) (fun h6 => ?_) <;> try simp only [zB] at h6)
  · (refine yS (yA rfl (yT (zw_r (zt_r (ze_r zi ?_))))); refine And.intro ?_ trivial)
    rw [show classesFault r.classes = 2 by rw [classesFault, if_pos (by omega)]]; rfl
  have ce : classesFault r.classes = firstN (classFault r.classes) 0 r.classes.length := by rw [classesFault, if_neg (by omega)]
  rw [ce]
  refine zw_k (zt_n (zw_s (yS (yA rfl (yT (zw_b ?_))))))
  refine loop_ok' (fun i : Nat => i ≤ r.classes.length ∧ ∀ k, k < i → classFault r.classes k = 0) (fun i => [(1, .bx 1 0), (3, .p (i64 i))]) (fun _ => [(1, .box (rbox r))]) (fun i => r.classes.length - i) 0 _ (SLe.refl _ _) ⟨Nat.zero_le _, fun k h => by omega⟩ ⟨rfl, rfl, trivial⟩ ⟨rfl, trivial⟩ fun i hi t h => ?_
  obtain ⟨q1, q2⟩ := hi
  (refine zw_s (yS (yP rfl (yV rfl (yP rfl (yP rfl (yP rfl (yT (zw_c rfl ?_)))))))); refine bcase_split (fun h7 => ?_) (fun h7 => ?_) <;> try simp only [zB] at h7)
  · (refine zw_k (zt_n (zw_s (zw_b (yS (yV rfl (yP rfl (yP rfl (yn rfl (zqX zI ?_))))))))); refine ⟨_, _, (ref_checkClass r.classes o1 o2 i (by omega)), ?_⟩)
    (refine zkn rfl rfl (zst_p (yA rfl (yU (yP rfl (yP rfl (yT (zw_c rfl ?_))))))); refine bcase_split (fun h8 => ?_) (fun h8 => ?_) <;> try simp only [zB] at h8)
    · have h8 : ¬ classFault r.classes i = 0 := by simpa using h8
      have e := firstN_at (f := classFault r.classes) (m := i) h8 (n := r.classes.length) (i := 0) (fun k _ hk => q2 k hk) (Nat.zero_le _) (by omega)
      (refine yS (yP rfl (yA rfl (yT (zw_r (zb_r (zt_r (zt_r (zb_r (zt_r (ze_r zi ?_)))))))))); refine And.intro ?_ trivial)
      rw [e, if_neg h8]
    · have h8 : classFault r.classes i = 0 := by simpa using h8
      (refine zw_k (zb_n (zt_n (zw_o (yP rfl (yq rfl (zqA zI ?_)))))); refine And.intro ⟨by omega, by omega⟩ ?_)
      (refine yk (yA rfl (yT (zaf_raw ?_))); refine ⟨(i + 1), _, SLe.refl _ _, ?_⟩)
      refine ⟨⟨by omega, fun k hk => ?_⟩, by omega, ⟨rfl, rfl, trivial⟩, ⟨rfl, trivial⟩⟩
      by_cases e : k = i
      · subst e; exact h8
      · exact q2 k (by omega)
  · rw [if_pos (firstN_none fun k _ hk => q2 k (by omega))]
    (refine zw_x (zt_x (zt_x (zb_h (zt_n (zw_s (yS (yV rfl (yP rfl (yP rfl (yP rfl (yT (zw_c rfl ?_)))))))))))); refine bcase_split (fun h9 => ?_) (fun h9 => ?_) <;> try simp only [zB] at h9)
    · (refine yS (yA rfl (yT (zw_r (zt_r (ze_r zi ?_))))); refine And.intro ?_ trivial)
      rw [areasFault, if_pos (by omega)]; rfl
    · rw [areasFault, if_neg (by omega)]
      refine zw_k (zt_n (yS (yA rfl (yT (zw_s (yS (yA rfl (yT (zw_b ?_)))))))))
      refine loop_ok' (fun i : Nat => i ≤ r.areas.length ∧ (∀ k, k < i → areaFault r.areas k = 0) ∧ rectSum (r.areas.take i) ≤ i * 1000000) (fun i => [(1, .bx 1 0), (5, .p (i64 (rectSum (r.areas.take i)))), (6, .p (i64 i))]) (fun _ => [(1, .box (rbox r))]) (fun i => r.areas.length - i) 0 _ (SLe.refl _ _) ⟨Nat.zero_le _, fun k h => by omega, by simp [rectSum]⟩ ⟨rfl, rfl, rfl, trivial⟩ ⟨rfl, trivial⟩ fun i hi t h => ?_
      obtain ⟨q1, q2, q3⟩ := hi
      (refine zw_s (yS (yP rfl (yV rfl (yP rfl (yP rfl (yP rfl (yT (zw_c rfl ?_)))))))); refine bcase_split (fun h3 => ?_) (fun h3 => ?_) <;> try simp only [zB] at h3)
      · obtain ⟨a, ha⟩ := get_of (l := r.areas) (i := i) (by omega)
        have bad : areaFault r.areas i ≠ 0 → firstN (areaFault r.areas) 0 r.areas.length = areaFault r.areas i := fun hb => firstN_at hb (fun k _ hk => q2 k hk) (Nat.zero_le _) (by omega)
        have cf : areaFault r.areas i = (if (decide (-1 ≤ a.layer) && decide (a.layer ≤ 15)) = true then (if Reg.checkRegion a.region = 0 then (if isRule a.clearance = true then 0 else 1) else Reg.checkRegion a.region) else 1) := by rw [areaFault, ha]
        have la := len_map a.region rc
        (refine zw_k (zt_n (zw_s (zw_b (yS (yV rfl (yP rfl (yP rfl (yq rfl (zqX zI ?_))))))))); refine ⟨(arr a), (idx rfl ha), ?_⟩)
        ((refine yk (yP rfl (yn rfl (zq1 zI (zkns (zst_bx (yq rfl (zq1 zI (zkq (zst_e (zst_0 (yT (zw_s (yS ?_))))))))))))); refine yV rfl (yP rfl (yn rfl (zqX zI ?_)))); refine ⟨_, _, (ref6_within a.layer (-1) 15), ?_⟩)
        (refine zkn rfl rfl (zst_p (yP rfl (yT (zw_c rfl ?_)))); refine bcase_split (fun h4 => ?_) (fun h4 => ?_) <;> try simp only [zB] at h4)
        · (refine yS (yA rfl (yT (zw_r (zt_r (zb_r (zt_r (zt_r (zb_r (zt_r (ze_r zi ?_)))))))))); refine And.intro ?_ trivial)
          rw [if_neg (by simpa using h4)] at cf
          rw [bad (by rw [cf]; decide), cf]; rfl
        · rw [if_pos (by simpa using h4)] at cf
          (refine zw_k (zt_n (zw_s (yS (yV rfl (yP rfl (yn rfl (zqX zI ?_))))))); refine ⟨_, _, (ref_checkRegion a.region), ?_⟩)
          (refine zkn rfl rfl (zst_p (yA rfl (yU (yP rfl (yP rfl (yT (zw_c rfl ?_))))))); refine bcase_split (fun h5 => ?_) (fun h5 => ?_) <;> try simp only [zB] at h5)
          · (refine yS (yP rfl (yA rfl (yT (zw_r (zt_r (zb_r (zt_r (zt_r (zb_r (zt_r (ze_r zi ?_))))))))))); refine And.intro ?_ trivial)
            have h5 : ¬ Reg.checkRegion a.region = 0 := by simpa using h5
            rw [if_neg h5] at cf
            rw [bad (by rw [cf]; exact h5), cf, if_neg h5]
          · have h5 : Reg.checkRegion a.region = 0 := by simpa using h5
            rw [if_pos h5] at cf
            have hl := region_len h5
            (refine zw_k (zt_n (zw_s (yS (yV rfl (yP rfl (yn rfl (zqX zI ?_))))))); refine ⟨_, _, (ref6_rule a.clearance), ?_⟩)
            (refine zkn rfl rfl (zst_p (yP rfl (yT (zw_c rfl ?_)))); refine bcase_split (fun h6 => ?_) (fun h6 => ?_) <;> try simp only [zB] at h6)
            · (refine yS (yA rfl (yT (zw_r (zt_r (zb_r (zt_r (zt_r (zb_r (zt_r (ze_r zi ?_)))))))))); refine And.intro ?_ trivial)
              rw [if_neg (by simp [h6])] at cf
              rw [bad (by rw [cf]; decide), cf]; rfl
            · rw [if_pos (by simpa using h6)] at cf
              have s1 : rectSum (r.areas.take (i + 1)) = rectSum (r.areas.take i) + a.region.length := by
                rw [take_succ' ha, rectSum_app]; simp [rectSum]
              (refine zw_k (zt_n (zw_o (yP rfl (yV rfl (yP rfl (yP rfl (yq rfl (zqA zI ?_)))))))); refine And.intro ⟨by omega, by omega⟩ ?_)
              (refine yk (yA rfl (zo_0 (zb_n (zt_n (zw_o (yP rfl (yq rfl (zqA zI ?_)))))))); refine And.intro ⟨by omega, by omega⟩ ?_)
              (refine yk (yA rfl (yT (zaf_raw ?_))); refine ⟨(i + 1), _, SLe.refl _ _, ?_⟩)
              refine ⟨⟨by omega, fun k hk => ?_, by omega⟩, by omega, ⟨rfl, av_i64 (by omega), rfl, trivial⟩, ⟨rfl, trivial⟩⟩
              by_cases e : k = i
              · subst e; exact cf
              · exact q2 k (by omega)
      · have e : i = r.areas.length := by omega
        subst e
        have z0 : firstN (areaFault r.areas) 0 r.areas.length = 0 := firstN_none fun k _ hk => q2 k (by omega)
        rw [if_pos z0]
        have tl : r.areas.take r.areas.length = r.areas := List.take_length
        (refine zw_x (zt_x (zt_x (zb_h (zt_n (zw_s (yS (yP rfl (yP rfl (yT (zw_c rfl ?_)))))))))); refine bcase_split (fun h7 => ?_) (fun h7 => ?_) <;> try simp only [zB] at h7)
        · (refine yS (yA rfl (yT (zw_r (zt_r (ze_r zi ?_))))); refine And.intro ?_ trivial)
          rw [tl] at h7
          rw [if_pos (by omega)]; rfl
        · (refine zw_k (zt_n (yS (yA rfl (yR zi ?_)))); refine And.intro ?_ trivial)
          rw [tl] at h7
          rw [if_neg (by omega)]; rfl
end Go.Proofs.YthjfllfhagdnpaaGreatDoor.M
namespace Go.Proofs.YthjfllfhagdnpaaGreatDoor.M
open Go.AM Go.RowKit Go.Lib
open Reg (Rect Spans Band)

theorem bytesLess_tri : ∀ a b : List UInt8, Op.bytesLess a b = true ∨ a = b ∨ Op.bytesLess b a = true
  | [], [] => .inr (.inl rfl)
  | [], y :: ys => .inl rfl
  | x :: xs, [] => .inr (.inr rfl)
  | x :: xs, y :: ys => by
    rw [bytesLess_eq, bytesLess_eq]
    simp only [decide_eq_true_eq, List.cons_lt_cons_iff]
    have ih := bytesLess_tri xs ys
    rw [bytesLess_eq, bytesLess_eq] at ih
    simp only [decide_eq_true_eq] at ih
    rcases Nat.lt_trichotomy x.toNat y.toNat with h | h | h
    · exact .inl (.inl (UInt8.lt_iff_toNat_lt.2 h))
    · have e : x = y := UInt8.toNat_inj.1 h
      subst e
      rcases ih with h | h | h
      · exact .inl (.inr ⟨rfl, h⟩)
      · exact .inr (.inl (by rw [h]))
      · exact .inr (.inr (.inr ⟨rfl, h⟩))
    · exact .inr (.inr (.inl (UInt8.lt_iff_toNat_lt.2 h)))
theorem ltS_of_not {a b : ByteArray} (h : (ltS a b || decide (a = b)) = false) : ltS b a = true := by
  rw [Bool.or_eq_false_iff] at h
  rcases bytesLess_tri a.data.toList b.data.toList with h1 | h1 | h1
  · rw [ltS, h1] at h; cases h.1
  · have : a = b := by
      cases a with | mk a => cases b with | mk b =>
      simp only at h1
      rw [Array.toList_inj.1 h1]
    exact absurd this (of_decide_eq_false h.2)
  · exact h1
theorem sorted_of_steps {l : List ByteArray} (h : ∀ (j : Nat) a b, l[j]? = some a → l[j + 1]? = some b → ltS a b = true) : SortedS l := by
  have key : ∀ (d i : Nat) a b, l[i]? = some a → l[i + 1 + d]? = some b → ltS a b = true := fun d => by
    induction d with
    | zero => intro i a b ha hb; exact h i a b ha hb
    | succ d ih =>
      intro i a b ha hb
      have hl := (List.getElem?_eq_some_iff.1 hb).1
      obtain ⟨c, hc⟩ := get_of (l := l) (i := i + 1 + d) (by omega)
      exact ltS_trans (ih i a c ha hc) (h _ c b hc hb)
  refine List.pairwise_iff_getElem.2 fun i j hi hj hij => ?_
  exact key (j - i - 1) i _ _ (List.getElem?_eq_getElem hi) (by rw [show i + 1 + (j - i - 1) = j by omega]; exact List.getElem?_eq_getElem hj)
theorem firstN_zero {f : Nat → Int} : ∀ {n i : Nat}, firstN f i n = 0 → ∀ k, i ≤ k → k < i + n → f k = 0
  | 0, i, _, k, h1, h2 => by omega
  | n + 1, i, h, k, h1, h2 => by
    rw [firstN] at h
    split at h
    · by_cases e : k = i
      · subst e; assumption
      · exact firstN_zero h k (by omega) (by omega)
    · contradiction
/-- what CheckRules has said of a class -/
def classGood (c : Class) : Prop := SortedS c.nets ∧ c.nets.length ≤ 1000 ∧ (∀ y ∈ c.nets, pathB y = true) ∧ isRule c.clearance = true ∧ isRule c.width = true
theorem net_zero {cs : List Class} {i : Nat} {l : List ByteArray} {j : Nat} {y : ByteArray} (h : netFault cs i l j = 0) (hy : l[j]? = some y) : pathB y = true ∧ backAt l j = false := by
  rw [netFault, hy] at h
  simp only at h
  split at h
  · split at h
    · cases h
    · exact ⟨by assumption, by simpa using ‹¬ backAt l j = true›⟩
  · cases h
theorem class_good {cs : List Class} {i : Nat} {c : Class} (h : classFault cs i = 0) (hc : cs[i]? = some c) : classGood c := by
  rw [classFault, hc] at h
  simp only at h
  split at h
  · split at h
    · cases h
    · split at h
      · rename_i h0
        have hz := firstN_zero h0
        split at h
        · rename_i h2
          rw [Bool.and_eq_true] at h2
          refine ⟨sorted_of_steps fun j a b ha hb => ?_, by omega, fun y hy => ?_, h2.1, h2.2⟩
          · have hl := (List.getElem?_eq_some_iff.1 hb).1
            have := (net_zero (hz (j + 1) (Nat.zero_le _) (by omega)) hb).2
            rw [backAt, hb, Nat.add_sub_cancel, ha] at this
            simp only at this
            rw [decide_eq_true (by omega : 0 < j + 1), Bool.true_and] at this
            exact ltS_of_not this
          · obtain ⟨j, hj⟩ := List.mem_iff_getElem?.1 hy
            exact (net_zero (hz j (Nat.zero_le _) (by have := (List.getElem?_eq_some_iff.1 hj).1; omega)) hj).1
        · cases h
      · contradiction
  · cases h
/-- what CheckRules has said of rules -/
structure RGood (r : Rules) : Prop where
  cl : ∀ c ∈ r.classes, classGood c
  nc : r.classes.length ≤ 50
  na : r.areas.length ≤ 50
  ar : ∀ a ∈ r.areas, -1 ≤ a.layer ∧ Reg.checkRegion a.region = 0 ∧ isRule a.clearance = true
  nums : numsOK r = true
theorem rules_good {r : Rules} (h : rulesFault r = 0) : RGood r := by
  rw [rulesFault] at h
  split at h
  · rename_i h1
    split at h
    · rename_i h2
      rw [classesFault] at h2
      split at h2
      · cases h2
      · rw [areasFault] at h
        split at h
        · cases h
        · split at h
          · rename_i h3
            refine ⟨fun c hc => ?_, by omega, by omega, fun a ha => ?_, h1⟩
            · obtain ⟨i, hi⟩ := List.mem_iff_getElem?.1 hc
              exact class_good (firstN_zero h2 i (Nat.zero_le _) (by have := (List.getElem?_eq_some_iff.1 hi).1; omega)) hi
            · obtain ⟨i, hi⟩ := List.mem_iff_getElem?.1 ha
              have := firstN_zero h3 i (Nat.zero_le _) (by have := (List.getElem?_eq_some_iff.1 hi).1; omega)
              rw [areaFault, hi] at this
              simp only at this
              split at this
              · rename_i h4
                rw [Bool.and_eq_true, decide_eq_true_eq] at h4
                split at this
                · split at this
                  · exact ⟨h4.1, by assumption, by assumption⟩
                  · cases this
                · contradiction
              · cases this
          · contradiction
    · contradiction
  · cases h
def noClass : Class := ⟨emptyS, [], 0, 0⟩
/-- the class of a net -/
def classFor (cs : List Class) (x : ByteArray) : Class := (cs.find? fun c => hasB c.nets x && !decide (x = emptyS)).getD noClass
theorem find_at {α : Type} {p : α → Bool} {l : List α} {i : Nat} {x : α} (hx : l[i]? = some x) (hp : p x = true) (h : ∀ y ∈ l.take i, p y = false) : l.find? p = some x := by
  rw [← List.take_append_drop i l, List.find?_append, List.find?_eq_none.2 (fun y hy => by rw [h y hy]; decide), Option.none_or]
  have : l.drop i = x :: l.drop (i + 1) := by
    obtain ⟨hi, rfl⟩ := List.getElem?_eq_some_iff.1 hx
    exact List.drop_eq_getElem_cons hi
  rw [this, List.find?_cons, hp]
set_option maxRecDepth 100000 in
set_option maxHeartbeats 1000000 in
theorem house_classOf (r : Rules) (hg : RGood r) (x : ByteArray) : ACalls C 184 [.pv (.ag (rl r)), .pv (str x)] (.p (.ag (kl (classFor r.classes x)))) [] := by
  refine fun_go hC Tryz.func184 rfl rfl 31 rfl (by decide) (by kernel_rfl) fun _ _ _ _ _ => ?_
  have lm := len_map r.classes kl
  have nc := hg.nc
  (refine yS (yn rfl (zq1 zI (zkns (zst_bx (yn rfl (zq1 zI (zkns (zst_bx (yT (zw_s (yS (yV rfl (yP rfl ?_))))))))))))); refine yP rfl (yP rfl (yT (zw_b ?_))))
  refine loop_ok' (fun i : Nat => i ≤ r.classes.length ∧ ∀ c ∈ r.classes.take i, (hasB c.nets x && !decide (x = emptyS)) = false) (fun i => [(1, .p (str x)), (4, .bx 4 0), (10, .p (.sl (r.classes.map kl))), (11, .p (i64 (r.classes.map kl).length)), (12, .p (i64 i))]) (fun _ => [(4, .box [.p (str emptyS), .nl, .p (i64 0), .p (i64 0)])]) (fun i => r.classes.length - i) 0 _ (SLe.refl _ _) ⟨Nat.zero_le _, by simp⟩ ⟨rfl, rfl, rfl, rfl, rfl, trivial⟩ ⟨rfl, trivial⟩ fun i hi t h => ?_
  obtain ⟨q1, q2⟩ := hi
  (refine yS (yP rfl (yT (zw_s (zw_c rfl ?_)))); refine bcase_split (fun h1 => ?_) (fun h1 => ?_) <;> try simp only [zB] at h1)
  · obtain ⟨c, hc⟩ := get_of (l := r.classes) (i := i) (by omega)
    obtain ⟨c1, c2, c3, c4, c5⟩ := hg.cl c (List.mem_of_getElem? hc)
    (refine zw_k (zt_n (zw_s (zw_b (yS (yq rfl (zqX zI ?_)))))); refine ⟨(kl c), (idx rfl hc), ?_⟩)
    ((refine yk (yP rfl (yn rfl (zq1 zI (zkns (zst_bx (yq rfl (zq1 zI (zkq (zst_e (zst_0 (yU (yV rfl (yP rfl ?_))))))))))))); refine yP rfl (yn rfl (zqX zI ?_))); refine ⟨_, _, (binarySearch c.nets x c1 (by omega)), ?_⟩)
    have round : (hasB c.nets x && !decide (x = emptyS)) = false → ∀ d ∈ r.classes.take (i + 1), (hasB d.nets x && !decide (x = emptyS)) = false := fun hb d hd => by
      rw [take_succ' hc, List.mem_append, List.mem_singleton] at hd
      rcases hd with hd | hd
      · exact q2 d hd
      · rw [hd]; exact hb
    (refine zkn rfl rfl (zst_tu (yq rfl (zq1 zI (zkq (zst_tu (yP rfl (yP rfl (yA rfl (yA rfl (yU (yP rfl (yP rfl (yg rfl ?_))))))))))))); refine bcase_split (fun h2 => ?_) (fun h2 => ?_) <;> try simp only [zB] at h2)
    · (refine zg_t (zs_q rfl rfl (zq1 zI (yk (y1 rfl (yP rfl (yT (zw_c rfl ?_))))))); refine bcase_split (fun h3 => ?_) (fun h3 => ?_) <;> try simp only [zB] at h3)
      · have h3 : ¬ x = emptyS := h3
        ((refine yS (yP rfl (yq rfl (zq1 zI (zkq (zst_e (zst_0 (yT (zw_r (zb_r (zt_r (zt_r (zb_r (zt_r ?_))))))))))))); refine ze_r zi ?_); refine And.intro ?_ trivial)
        rw [classFor, find_at hc (by rw [h2, decide_eq_false h3]; rfl) q2]
        rfl
      · have h3 : x = emptyS := by simpa [emptyS] using h3
        (refine zw_k (zb_n (zt_n (zw_o (yq rfl (zqA zI ?_))))); refine And.intro ⟨by omega, by omega⟩ ?_)
        (refine yk (yP rfl (yT (zaf_raw ?_))); refine ⟨(i + 1), _, SLe.refl _ _, ?_⟩)
        exact ⟨⟨by omega, round (by rw [decide_eq_true h3]; simp)⟩, by omega, ⟨rfl, rfl, rfl, rfl, rfl, trivial⟩, ⟨rfl, trivial⟩⟩
    · (refine zg_f (zst_p (y0 rfl (yP rfl (yT (zw_c rfl (zc_f (zw_k (zb_n (zt_n (zw_o (yq rfl (zqA zI ?_)))))))))))); refine And.intro ⟨by omega, by omega⟩ ?_)
      (refine yk (yP rfl (yT (zaf_raw ?_))); refine ⟨(i + 1), _, SLe.refl _ _, ?_⟩)
      exact ⟨⟨by omega, round (by rw [h2]; rfl)⟩, by omega, ⟨rfl, rfl, rfl, rfl, rfl, trivial⟩, ⟨rfl, trivial⟩⟩
  · have e : i = r.classes.length := by omega
    (refine zw_x (zt_x (zt_x (zb_h (zt_n (yS (yP rfl (yq rfl (zq1 zI (zkq (zst_e (zst_0 (yR zi ?_)))))))))))); refine And.intro ?_ trivial)
    rw [e, List.take_length] at q2
    rw [classFor, List.find?_eq_none.2 (fun y hy => by rw [q2 y hy]; decide)]
    rfl
def clearFor (r : Rules) (x : ByteArray) : Int := if 0 < (classFor r.classes x).clearance then (classFor r.classes x).clearance else r.clearance
def widthFor (r : Rules) (x : ByteArray) : Int := if 0 < (classFor r.classes x).width then (classFor r.classes x).width else r.width
theorem house_clearance (r : Rules) (hg : RGood r) (x : ByteArray) : ACalls C 176 [.pv (.ag (rl r)), .pv (str x)] (.p (i64 (clearFor r x))) [] := by
  refine fun_go hC Tryz.func176 rfl rfl 15 rfl (by decide) (by kernel_rfl) fun _ _ _ _ _ => ?_
  (refine yS (yn rfl (zq1 zI (zkns (zst_bx (yA rfl (yT (zw_s (yS (yP rfl (yP rfl (yn rfl (zqX zI ?_)))))))))))); refine ⟨_, _, (house_classOf r hg x), ?_⟩)
  (refine zkn rfl rfl (zst_p (yP rfl (yA rfl (yU (yP rfl (yP rfl (yT (zw_c rfl ?_)))))))); refine bcase_split (fun h1 => ?_) (fun h1 => ?_) <;> try simp only [zB] at h1)
  · (refine yS (yP rfl (yA rfl (yT (zw_r (zt_r (ze_r zi ?_)))))); refine And.intro ?_ trivial)
    rw [clearFor, if_pos h1]
  · (refine zw_k (zt_n (yS (yV rfl (yP rfl (yA rfl (yR zi ?_)))))); refine And.intro ?_ trivial)
    rw [clearFor, if_neg h1]
theorem house_width (r : Rules) (hg : RGood r) (x : ByteArray) : ACalls C 88 [.pv (.ag (rl r)), .pv (str x)] (.p (i64 (widthFor r x))) [] := by
  refine fun_go hC Tryz.func88 rfl rfl 15 rfl (by decide) (by kernel_rfl) fun _ _ _ _ _ => ?_
  (refine yS (yn rfl (zq1 zI (zkns (zst_bx (yA rfl (yT (zw_s (yS (yP rfl (yP rfl (yn rfl (zqX zI ?_)))))))))))); refine ⟨_, _, (house_classOf r hg x), ?_⟩)
  (refine zkn rfl rfl (zst_p (yP rfl (yA rfl (yU (yP rfl (yP rfl (yT (zw_c rfl ?_)))))))); refine bcase_split (fun h1 => ?_) (fun h1 => ?_) <;> try simp only [zB] at h1)
  · (refine yS (yP rfl (yA rfl (yT (zw_r (zt_r (ze_r zi ?_)))))); refine And.intro ?_ trivial)
    rw [widthFor, if_pos h1]
  · (refine zw_k (zt_n (yS (yV rfl (yP rfl (yA rfl (yR zi ?_)))))); refine And.intro ?_ trivial)
    rw [widthFor, if_neg h1]
def meets (layer x y : Int) (a : Area) : Bool := onB a layer && a.region.any (inR x y)
/-- the most that areas ask; −1: none -/
def mostOf (layer x y : Int) : List Area → Int → Int
  | [], m => m
  | a :: l, m => mostOf layer x y l (if meets layer x y a = true then max m a.clearance else m)
theorem mostOf_app (layer x y : Int) : ∀ (l r : List Area) (m : Int), mostOf layer x y (l ++ r) m = mostOf layer x y r (mostOf layer x y l m)
  | [], _, _ => rfl
  | _ :: l, r, _ => mostOf_app layer x y l r _
def needFor (r : Rules) (a b : ByteArray) (layer x y : Int) : Int := if 0 ≤ mostOf layer x y r.areas (-1) then mostOf layer x y r.areas (-1) else max (clearFor r a) (clearFor r b)
set_option maxRecDepth 100000 in
set_option maxHeartbeats 1000000 in
theorem house_needs (r : Rules) (hg : RGood r) (a b : ByteArray) (layer x y : Int) : ACalls C 124 [.pv (.ag (rl r)), .pv (str a), .pv (str b), .pv (i64 layer), .pv (.ag [i64 x, i64 y])] (.p (i64 (needFor r a b layer x y))) [] := by
  refine fun_go hC Tryz.func124 rfl rfl 45 rfl (by decide) (by kernel_rfl) fun _ _ _ _ _ => ?_
  have lm := len_map r.areas arr
  have na := hg.na
  (refine yS (yn rfl (zq1 zI (zkns (zst_bx (yn rfl (zq1 zI (zkns (zst_bx (yA rfl (yU (yA rfl (yT (zw_s ?_))))))))))))); refine yS (yV rfl (yP rfl (yP rfl (yP rfl (yT (zw_b ?_)))))))
  refine loop_ok' (fun i : Nat => i ≤ r.areas.length) (fun i => [(1, .p (str a)), (2, .p (str b)), (3, .p (i64 layer)), (5, .bx 5 0), (9, .bx 9 0), (11, .p (i64 (mostOf layer x y (r.areas.take i) (-1)))), (15, .p (.sl (r.areas.map arr))), (16, .p (i64 (r.areas.map arr).length)), (17, .p (i64 i))]) (fun _ => [(5, .box (rbox r)), (9, .box [.p (i64 x), .p (i64 y)])]) (fun i => r.areas.length - i) 0 _ (SLe.refl _ _) (Nat.zero_le _) ⟨rfl, rfl, rfl, rfl, rfl, rfl, rfl, rfl, rfl, trivial⟩ ⟨rfl, rfl, trivial⟩ fun i hi t h => ?_
  (refine yS (yP rfl (yT (zw_s (zw_c rfl ?_)))); refine bcase_split (fun h1 => ?_) (fun h1 => ?_) <;> try simp only [zB] at h1)
  · obtain ⟨c, hc⟩ := get_of (l := r.areas) (i := i) (by omega)
    have hl := region_len (hg.ar c (List.mem_of_getElem? hc)).2.1
    have mo : mostOf layer x y (r.areas.take (i + 1)) (-1) = (if meets layer x y c = true then max (mostOf layer x y (r.areas.take i) (-1)) c.clearance else mostOf layer x y (r.areas.take i) (-1)) := by rw [take_succ' hc, mostOf_app]; rfl
    (refine zw_k (zt_n (zw_s (zw_b (yS (yq rfl (zqX zI ?_)))))); refine ⟨(arr c), (idx rfl hc), ?_⟩)
    ((refine yk (yP rfl (yn rfl (zq1 zI (zkns (zst_bx (yq rfl (zq1 zI (zkq (zst_e (zst_0 (yU (yP rfl (yP rfl ?_))))))))))))); refine yn rfl (zqX zI ?_)); refine ⟨_, _, (house_isOn c layer), ?_⟩)
    (refine zkn rfl rfl (zst_p (yP rfl (yg rfl ?_))); refine bcase_split (fun h2 => ?_) (fun h2 => ?_) <;> try simp only [zB] at h2)
    · (refine zg_t (zs_q rfl rfl (zq1 zI (zkq (zst_bx (y1 rfl (y1 rfl (y2 rfl (zs_n rfl rfl rfl (zqX zI ?_))))))))); refine ⟨_, _, (house_hasSquare c.region (by omega) x y), ?_⟩)
      (refine zkn rfl rfl (zst_p (yP rfl (yT (zw_c rfl ?_)))); refine bcase_split (fun h3 => ?_) (fun h3 => ?_) <;> try simp only [zB] at h3)
      · (refine zw_o (yP rfl (yV rfl (yP rfl (yP rfl (yA rfl (zo_0 (zb_n (zt_n (zw_o (yq rfl (zqA zI ?_))))))))))); refine And.intro ⟨by omega, by omega⟩ ?_)
        (refine yk (yP rfl (yT (zaf_raw ?_))); refine ⟨(i + 1), _, SLe.refl _ _, ?_⟩)
        rw [if_pos (by rw [meets, h2, h3]; rfl)] at mo
        exact ⟨by omega, by omega, ⟨rfl, rfl, rfl, rfl, rfl, av_i64 (by rw [mo]), rfl, rfl, rfl, trivial⟩, ⟨rfl, rfl, trivial⟩⟩
      · (refine zw_k (zb_n (zt_n (zw_o (yq rfl (zqA zI ?_))))); refine And.intro ⟨by omega, by omega⟩ ?_)
        (refine yk (yP rfl (yT (zaf_raw ?_))); refine ⟨(i + 1), _, SLe.refl _ _, ?_⟩)
        rw [if_neg (by rw [meets, h2, h3]; decide)] at mo
        exact ⟨by omega, by omega, ⟨rfl, rfl, rfl, rfl, rfl, av_i64 (by rw [mo]), rfl, rfl, rfl, trivial⟩, ⟨rfl, rfl, trivial⟩⟩
    · ((refine zg_f (zst_p (y0 rfl (y0 rfl (y0 rfl (yP rfl (yT (zw_c rfl (zc_f (zw_k (zb_n (zt_n (zw_o (yq rfl ?_))))))))))))); refine zqA zI ?_); refine And.intro ⟨by omega, by omega⟩ ?_)
      (refine yk (yP rfl (yT (zaf_raw ?_))); refine ⟨(i + 1), _, SLe.refl _ _, ?_⟩)
      rw [if_neg (by rw [meets, h2]; simp)] at mo
      exact ⟨by omega, by omega, ⟨rfl, rfl, rfl, rfl, rfl, av_i64 (by rw [mo]), rfl, rfl, rfl, trivial⟩, ⟨rfl, rfl, trivial⟩⟩
  · have e : i = r.areas.length := by omega
    subst e
    have tl : r.areas.take r.areas.length = r.areas := List.take_length
    (refine zw_x (zt_x (zt_x (zb_h (zt_n (zw_s (yS (yP rfl (yP rfl (yT (zw_c rfl ?_)))))))))); refine bcase_split (fun h2 => ?_) (fun h2 => ?_) <;> try simp only [zB] at h2)
    · (refine yS (yP rfl (yA rfl (yT (zw_r (zt_r (ze_r zi ?_)))))); refine And.intro ?_ trivial)
      rw [tl] at h2 ⊢
      rw [needFor, if_pos h2]
    · ((refine zw_k (zt_n (zw_s (zw_d false [true, true, true, true, true, true, true, true] rfl (by kernel_rfl) (zp_s rfl (zp_s rfl (zp_n rfl rfl (zp_s rfl (zp_s rfl (zp_n rfl rfl (zp_q rfl (yD rfl (yD rfl (dq rfl ?_))))))))))))); refine zqX zI ?_); refine ⟨_, _, (house_clearance r hg a), ?_⟩)
      (refine zkd (zst_p (yD rfl (yD rfl (dq rfl (zqX zI ?_))))); refine ⟨_, _, (house_clearance r hg b), ?_⟩)
      ((refine zkd (zst_p (yD rfl (yD rfl (zd_0 (zr_s rfl (zr_s rfl (zr_s rfl (zr_s rfl (zr_s rfl (zr_s rfl (zr_s rfl (zr_k rfl rfl (zr_q rfl ?_))))))))))))); refine zt_n (zw_r (ze_r zi ?_))); refine And.intro ?_ trivial)
      rw [tl] at h2
      rw [needFor, if_neg h2]; rfl
theorem house_isNet' (s : ByteArray) (hs : strOK s) : ACalls C 122 [.pv (str s)] (.p (bool (netB s))) [] := house_isNet s hs
def needsR (r : Rules) (a b : ByteArray) (layer x y : Int) : Int × Int :=
  if rulesFault r = 0 then
    (if (netB a && netB b) = true then (if (decide (0 ≤ layer) && decide (layer ≤ 15) && (Reg.isAt x && Reg.isAt y)) = true then (needFor r a b layer x y, 0) else (0, 1)) else (0, 5))
  else (0, rulesFault r)
theorem house_Needs (r : Rules) (ho : rulesOK r) (a b : ByteArray) (ha : strOK a) (hb : strOK b) (layer x y : Int) : ACalls C 52 [.pv (.ag (rl r)), .pv (str a), .pv (str b), .pv (i64 layer), .pv (.ag [i64 x, i64 y])] (.tu [i64 (needsR r a b layer x y).1, i64 (needsR r a b layer x y).2]) [] := by
  refine fun_go hC Tryz.func52 rfl rfl 40 rfl (by decide) (by kernel_rfl) fun _ _ _ _ _ => ?_
  ((refine yS (yn rfl (zq1 zI (zkns (zst_bx (yn rfl (zq1 zI (zkns (zst_bx (yA rfl (yA rfl (yT (zw_s (yS ?_))))))))))))); refine yP rfl (yn rfl (zqX zI ?_))); refine ⟨_, _, (house_checkRules r ho), ?_⟩)
  (refine zkn rfl rfl (zst_p (yA rfl (yU (yP rfl (yP rfl (yT (zw_c rfl ?_))))))); refine bcase_split (fun h1 => ?_) (fun h1 => ?_) <;> try simp only [zB] at h1)
  · (refine yS (yP rfl (yA rfl (yA rfl (yT (zw_r (zt_r (ze_r zi ?_))))))); refine And.intro ?_ trivial)
    have h1 : ¬ rulesFault r = 0 := by simpa using h1
    rw [needsR, if_neg h1]; rfl
  · have h1 : rulesFault r = 0 := by simpa using h1
    have hg := rules_good h1
    rw [needsR, if_pos h1]
    (refine zw_k (zt_n (zw_s (yS (yP rfl (yn rfl (zqX zI ?_)))))); refine ⟨_, _, (house_isNet a ha), ?_⟩)
    (refine zkn rfl rfl (zst_p (yP rfl (yP rfl (yg rfl ?_)))); refine bcase_split (fun h2 => ?_) (fun h2 => ?_) <;> try simp only [zB] at h2)
    · ((refine zg_f (zst_p (y0 rfl (y0 rfl (yP rfl (yT (zw_c rfl (zc_t (yS (yA rfl (yA rfl (yT (zw_r (zt_r ?_))))))))))))); refine ze_r zi ?_); refine And.intro ?_ trivial)
      rw [if_neg (by simp [h2])]; rfl
    · (refine zg_t (zs_q rfl rfl (zq1 zI (yk (y2 rfl (zs_n rfl rfl rfl (zqX zI ?_)))))); refine ⟨_, _, (house_isNet b hb), ?_⟩)
      (refine zkn rfl rfl (zst_p (y1 rfl (yP rfl (yT (zw_c rfl ?_))))); refine bcase_split (fun h3 => ?_) (fun h3 => ?_) <;> try simp only [zB] at h3)
      · (refine yS (yA rfl (yA rfl (yT (zw_r (zt_r (ze_r zi ?_)))))); refine And.intro ?_ trivial)
        rw [if_neg (by simp [h3])]; rfl
      · rw [if_pos (by simp [h2, h3])]
        (refine zw_k (zt_n (zw_s (yS (yP rfl (yn rfl (zqX zI ?_)))))); refine ⟨_, _, (rules_within layer 0 15), ?_⟩)
        (refine zkn rfl rfl (zst_p (yP rfl (yP rfl (yg rfl ?_)))); refine bcase_split (fun h4 => ?_) (fun h4 => ?_) <;> try simp only [zB] at h4)
        · ((refine zg_f (zst_p (y0 rfl (y0 rfl (yP rfl (yT (zw_c rfl (zc_t (yS (yA rfl (yA rfl (yT (zw_r (zt_r ?_))))))))))))); refine ze_r zi ?_); refine And.intro ?_ trivial)
          rw [if_neg (by simp [h4])]; rfl
        · (refine zg_t (zs_q rfl rfl (zq1 zI (yk (y2 rfl (zs_n rfl rfl rfl (zqX zI ?_)))))); refine ⟨_, _, (shape_isPoint x y), ?_⟩)
          (refine zkn rfl rfl (zst_p (y1 rfl (yP rfl (yT (zw_c rfl ?_))))); refine bcase_split (fun h5 => ?_) (fun h5 => ?_) <;> try simp only [zB] at h5)
          · (refine yS (yA rfl (yA rfl (yT (zw_r (zt_r (ze_r zi ?_)))))); refine And.intro ?_ trivial)
            rw [if_neg (by simp_all)]; rfl
          · rw [if_pos (by simp_all)]
            (refine zw_k (zt_n (yS (yP rfl (yP rfl (yP rfl (yP rfl (yP rfl (yn rfl (zqX zI ?_))))))))); refine ⟨_, _, (house_needs r hg a b layer x y), ?_⟩)
            (refine zkn rfl rfl (zst_p (yA rfl (yA rfl (yR zi ?_)))); refine And.intro ?_ trivial)
            rfl
def widthR (r : Rules) (a : ByteArray) : Int × Int :=
  if rulesFault r = 0 then (if netB a = true then (widthFor r a, 0) else (0, 5)) else (0, rulesFault r)
theorem needFor_even (r : Rules) (a b : ByteArray) (layer x y : Int) : needFor r a b layer x y = needFor r b a layer x y := by
  unfold needFor
  rw [Int.max_comm (clearFor r a)]
theorem needsR_even (r : Rules) (a b : ByteArray) (layer x y : Int) : needsR r a b layer x y = needsR r b a layer x y := by
  unfold needsR
  rw [needFor_even, Bool.and_comm (netB a)]
end Go.Proofs.YthjfllfhagdnpaaGreatDoor.M
