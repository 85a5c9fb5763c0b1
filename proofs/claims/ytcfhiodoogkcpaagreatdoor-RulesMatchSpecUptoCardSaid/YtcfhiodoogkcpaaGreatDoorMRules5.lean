/- By the machine: CheckRules of the reference. -/
import Derived.Test.YtcfhiodoogkcpaaGreatDoorMRules4
set_option linter.unusedSimpArgs false
set_option linter.unusedVariables false
namespace Go.Proofs.YtcfhiodoogkcpaaGreatDoor.M
open Go.AM Go.RowKit Go.Lib
open Reg (Rect Spans Band)

set_option maxRecDepth 100000 in
set_option maxHeartbeats 1000000 in
theorem ref_checkClass (cs : List Class) (hok : ∀ c ∈ cs, classOK c) (hN : cs.length ≤ 1048576) (i : Nat) (hi : i < cs.length) : ACalls C 34 [.pv (.sl (cs.map kl)), .pv (i64 i)] (.p (i64 (classFault cs i))) [] := by
  refine fun_go hC Tryz.func34 rfl rfl 89 rfl (by decide) (by kernel_rfl) fun _ _ _ _ _ => ?_
  have lm := len_map cs kl
  obtain ⟨c, hc⟩ := get_of (l := cs) (i := i) hi
  obtain ⟨o1, o2, o3⟩ := hok c (List.mem_of_getElem? hc)
  have cf : classFault cs i = (if wordB c.name = true then (if 1000 < c.nets.length then 2 else
      if firstN (netFault cs i c.nets) 0 c.nets.length = 0 then
        (if (isRule c.clearance && isRule c.width) = true then (if backAt (cs.map Class.name) i = true then 8 else 0) else 1)
      else firstN (netFault cs i c.nets) 0 c.nets.length) else 5) := by rw [classFault, hc]
  have lc := len_map c.nets fun s => [str s]
  rw [cf]
  (refine yS (yA rfl (yU (yP rfl (yP rfl (yq rfl (zqX zI ?_)))))); refine ⟨(kl c), (idx rfl hc), ?_⟩)
  ((refine yk (yP rfl (yn rfl (zq1 zI (zkns (zst_bx (yq rfl (zq1 zI (zkq (zst_e (zst_0 (yT (zw_s (yS ?_))))))))))))); refine yV rfl (yP rfl (yn rfl (zqX zI ?_)))); refine ⟨_, _, (ref5_isWord c.name (by have : c.name.size < 4294967281 := o1; omega)), ?_⟩)
  (refine zkn rfl rfl (zst_p (yP rfl (yT (zw_c rfl ?_)))); refine bcase_split (fun h2 => ?_) (fun h2 => ?_) <;> try simp only [zB] at h2)
  · (refine yS (yA rfl (yT (zw_r (zt_r (ze_r zi ?_))))); refine And.intro ?_ trivial)
    rw [if_neg (by simp [h2])]; rfl
  · rw [if_pos (by simpa using h2)]
    (refine zw_k (zt_n (zw_s (yS (yV rfl (yP rfl (yP rfl (yP rfl (yT (zw_c rfl ?_))))))))); refine bcase_split (fun h3 => ?_) (fun h3 => ?_) <;> try simp only [zB] at h3)
    · (refine yS (yA rfl (yT (zw_r (zt_r (ze_r zi ?_))))); refine And.intro ?_ trivial)
      rw [if_pos (by omega)]; rfl
    · rw [if_neg (by omega)]
      refine zw_k (zt_n (zw_s (yS (yA rfl (yT (zw_b ?_))))))
      refine loop_ok' (fun j : Nat => j ≤ c.nets.length ∧ ∀ k, k < j → netFault cs i c.nets k = 0) (fun j => [(0, .p (.sl (cs.map kl))), (1, .p (i64 i)), (5, .bx 5 0), (6, .p (i64 j))]) (fun _ => [(5, .box [.p (str c.name), .p (strs c.nets), .p (i64 c.clearance), .p (i64 c.width)])]) (fun j => c.nets.length - j) 0 _ (SLe.refl _ _) ⟨Nat.zero_le _, fun k h => by omega⟩ ⟨rfl, rfl, rfl, rfl, trivial⟩ ⟨rfl, trivial⟩ fun j hj t h => ?_
      obtain ⟨p1, p2⟩ := hj
      (refine zw_s (yS (yP rfl (yV rfl (yP rfl (yP rfl (yP rfl (yT (zw_c rfl ?_)))))))); refine bcase_split (fun h4 => ?_) (fun h4 => ?_) <;> try simp only [zB] at h4)
      · obtain ⟨y, hy⟩ := get_of (l := c.nets) (i := j) (by omega)
        have nbad : netFault cs i c.nets j ≠ 0 → (if firstN (netFault cs i c.nets) 0 c.nets.length = 0 then
          (if (isRule c.clearance && isRule c.width) = true then (if backAt (cs.map Class.name) i = true then 8 else 0) else 1)
          else firstN (netFault cs i c.nets) 0 c.nets.length) = netFault cs i c.nets j := fun hb => by
          have e : firstN (netFault cs i c.nets) 0 c.nets.length = netFault cs i c.nets j := firstN_at hb (fun k _ hk => p2 k hk) (Nat.zero_le _) (by omega)
          rw [e, if_neg hb]
        have nf : netFault cs i c.nets j = (if pathB y = true then (if backAt c.nets j = true then 8 else if seenIn (cs.take i) y = true then 7 else 0) else 5) := by rw [netFault, hy]
        (refine zw_k (zt_n (zw_s (zw_b (zw_s (yS (yV rfl (yP rfl (yP rfl (yq rfl (zqX zI ?_)))))))))); refine ⟨[str y], (idx rfl hy), ?_⟩)
        (refine yk (yP rfl (yn rfl (zqX zI ?_))); refine ⟨_, _, (ref5_isPath y (o3 y (List.mem_of_getElem? hy))), ?_⟩)
        (refine zkn rfl rfl (zst_p (yP rfl (yT (zw_c rfl ?_)))); refine bcase_split (fun h5 => ?_) (fun h5 => ?_) <;> try simp only [zB] at h5)
        · (refine yS (yA rfl (yT (zw_r (zt_r (zb_r (zt_r (zt_r (zb_r (zt_r (ze_r zi ?_)))))))))); refine And.intro ?_ trivial)
          rw [if_neg (by simp [h5])] at nf
          rw [nbad (by rw [nf]; decide), nf]; rfl
        · rw [if_pos (by simpa using h5)] at nf
          have next : netFault cs i c.nets j = 0 → ∀ k, k < j + 1 → netFault cs i c.nets k = 0 := fun h0 k hk => by
            by_cases e : k = j
            · subst e; exact h0
            · exact p2 k (by omega)
          (refine zw_k (zt_n (zw_s (zw_s (zw_d false [true, true, true, true, true, true, true, true, true, true, true, true, true, true, true, true] rfl (by kernel_rfl) (zp_q rfl (yD rfl (yD rfl (yD rfl (dg rfl ?_))))))))); refine bcase_split (fun h6 => ?_) (fun h6 => ?_) <;> try simp only [zB] at h6)
          · obtain ⟨z, hz⟩ := get_of (l := c.nets) (i := j - 1) (by omega)
            have bk : backAt c.nets j = (ltS y z || decide (y = z)) := by
              simp only [backAt, hy, hz]
              rw [decide_eq_true (by omega : 0 < j)]; rfl
            (refine zg_t (zd_q rfl (zq1 zI (zkd (zst_bx (d1 rfl (d1 rfl (d2 rfl (zd_q rfl (zqX zI ?_))))))))); refine ⟨[str y], (idx rfl hy), ?_⟩)
            (refine zkd (zst_p (d1 rfl (d2 rfl (zd_q rfl (zq1 zI (zkd (zst_bx (d1 rfl (d1 rfl (d2 rfl (zd_q rfl (zqA zI ?_)))))))))))); refine And.intro ⟨by omega, by omega⟩ ?_)
            (refine zkd (zst_p (d2 rfl (zd_q rfl (zqX zI ?_)))); refine ⟨[str z], (idx (show (j : Int) - 1 = ((j - 1 : Nat) : Int) by omega) hz), ?_⟩)
            (refine zkd (zst_p (d1 rfl (d1 rfl (yD rfl (zd_0 (zr_q rfl (zt_n (zw_c rfl ?_)))))))); refine bcase_split (fun h7 => ?_) (fun h7 => ?_) <;> try simp only [zB] at h7)
            · (refine yS (yA rfl (yT (zw_r (zt_r (zb_r (zt_r (zt_r (zb_r (zt_r (ze_r zi ?_)))))))))); refine And.intro ?_ trivial)
              have h7 : (ltS y z || decide (y = z)) = true := by simpa [ltS] using h7
              rw [bk, h7, if_pos rfl] at nf
              rw [nbad (by rw [nf]; decide), nf]; rfl
            · have h7 : (ltS y z || decide (y = z)) = false := by simpa [ltS] using h7
              rw [bk, h7, if_neg (by decide)] at nf
              refine zw_k (zt_n (yS (yA rfl (yT (zw_b ?_)))))
              refine loop_ok' (fun k : Nat => k ≤ i ∧ seenIn (cs.take k) y = false) (fun k => [(0, .p (.sl (cs.map kl))), (1, .p (i64 i)), (5, .bx 5 0), (6, .p (i64 j)), (7, .p (i64 k))]) (fun _ => [(5, .box [.p (str c.name), .p (strs c.nets), .p (i64 c.clearance), .p (i64 c.width)])]) (fun k => i - k) 0 _ (SLe.refl _ _) ⟨Nat.zero_le _, rfl⟩ ⟨rfl, rfl, rfl, rfl, rfl, trivial⟩ ⟨rfl, trivial⟩ fun k hk t h => ?_
              obtain ⟨u1, u2⟩ := hk
              (refine zw_s (yS (yP rfl (yP rfl (yP rfl (yT (zw_c rfl ?_)))))); refine bcase_split (fun h8 => ?_) (fun h8 => ?_) <;> try simp only [zB] at h8)
              · obtain ⟨d, hd⟩ := get_of (l := cs) (i := k) (by omega)
                have st : seenIn (cs.take (k + 1)) y = hasB d.nets y := by
                  rw [take_succ' hd]
                  unfold seenIn at *
                  rw [List.any_append, u2]
                  simp
                ((refine zw_k (zt_n (zw_s (zw_b (zw_s (zw_d false [true, true, true, true, true, true, true, true, true, true, true] rfl (by kernel_rfl) (zp_s rfl (zp_s rfl (zp_s rfl (zp_s rfl (zp_s rfl (zp_s rfl (zp_s rfl (zp_s rfl ?_))))))))))))); refine zp_s rfl (zp_s rfl (zp_n rfl rfl (zp_q rfl (yD rfl (yD rfl (dq rfl (zqX zI ?_)))))))); refine ⟨(kl d), (idx rfl hd), ?_⟩)
                (refine zkd (zst_p (yD rfl (yD rfl (yW rfl (yD rfl (yD rfl (dq rfl (zqX zI ?_)))))))); refine ⟨[str y], (idx rfl hy), ?_⟩)
                (refine zkd (zst_p (yD rfl (dq rfl (zqX zI ?_)))); refine ⟨_, _, (ref6_has d.nets y (by have := (hok d (List.mem_of_getElem? hd)).2.1; omega)), ?_⟩)
                (refine zkd (zst_p (zd_0 (zr_q rfl (zt_n (zw_c rfl ?_))))); refine bcase_split (fun h9 => ?_) (fun h9 => ?_) <;> try simp only [zB] at h9)
                · have sn : seenIn (cs.take i) y = true := by
                    unfold seenIn
                    rw [List.any_eq_true]
                    exact ⟨d, List.mem_iff_getElem?.2 ⟨k, by rw [List.getElem?_take, if_pos (by omega)]; exact hd⟩, h9⟩
                  rw [sn, if_pos rfl] at nf
                  (refine yS (yA rfl (yT (zw_r (zb_r (zt_r (zt_r (zb_r (zb_r (zt_r (zt_r (zb_r (zt_r (ze_r zi ?_))))))))))))); refine And.intro ?_ trivial)
                  rw [nbad (by rw [nf]; decide), nf]; rfl
                · (refine zw_k (zb_n (zt_n (zw_o (yP rfl (yq rfl (zqA zI ?_)))))); refine And.intro ⟨by omega, by omega⟩ ?_)
                  (refine yk (yA rfl (yT (zaf_raw ?_))); refine ⟨(k + 1), _, SLe.refl _ _, ?_⟩)
                  exact ⟨⟨by omega, by rw [st]; simpa using h9⟩, by omega, ⟨rfl, rfl, rfl, rfl, rfl, trivial⟩, ⟨rfl, trivial⟩⟩
              · have e : k = i := by omega
                subst e
                rw [u2, if_neg (by decide)] at nf
                (refine zw_x (zt_x (zt_x (zb_h (zb_n (zt_n (zw_o (yP rfl (yq rfl (zqA zI ?_))))))))); refine And.intro ⟨by omega, by omega⟩ ?_)
                (refine yk (yA rfl (yT (zaf_raw ?_))); refine ⟨(j + 1), _, SLe.refl _ _, ?_⟩)
                exact ⟨⟨by omega, next nf⟩, by omega, ⟨rfl, rfl, rfl, rfl, trivial⟩, ⟨rfl, trivial⟩⟩
          · have h0 : j = 0 := by omega
            have bk : backAt c.nets j = false := by
              subst h0
              simp only [backAt, hy]
              rfl
            rw [bk, if_neg (by decide)] at nf
            (refine zg_f (zst_p (d0 rfl (d0 rfl (d0 rfl (d0 rfl (d0 rfl (d0 rfl (d0 rfl (d0 rfl (d0 rfl (d0 rfl (d0 rfl (yD rfl ?_))))))))))))); refine zd_0 (zr_q rfl (zt_n (zw_c rfl (zc_f (zw_k (zt_n (yS (yA rfl (yT (zw_b ?_)))))))))))
            refine loop_ok' (fun k : Nat => k ≤ i ∧ seenIn (cs.take k) y = false) (fun k => [(0, .p (.sl (cs.map kl))), (1, .p (i64 i)), (5, .bx 5 0), (6, .p (i64 j)), (7, .p (i64 k))]) (fun _ => [(5, .box [.p (str c.name), .p (strs c.nets), .p (i64 c.clearance), .p (i64 c.width)])]) (fun k => i - k) 0 _ (SLe.refl _ _) ⟨Nat.zero_le _, rfl⟩ ⟨rfl, rfl, rfl, rfl, rfl, trivial⟩ ⟨rfl, trivial⟩ fun k hk t h => ?_
            obtain ⟨u1, u2⟩ := hk
            (refine zw_s (yS (yP rfl (yP rfl (yP rfl (yT (zw_c rfl ?_)))))); refine bcase_split (fun h8 => ?_) (fun h8 => ?_) <;> try simp only [zB] at h8)
            · obtain ⟨d, hd⟩ := get_of (l := cs) (i := k) (by omega)
              have st : seenIn (cs.take (k + 1)) y = hasB d.nets y := by
                rw [take_succ' hd]
                unfold seenIn at *
                rw [List.any_append, u2]
                simp
              ((refine zw_k (zt_n (zw_s (zw_b (zw_s (zw_d false [true, true, true, true, true, true, true, true, true, true, true] rfl (by kernel_rfl) (zp_s rfl (zp_s rfl (zp_s rfl (zp_s rfl (zp_s rfl (zp_s rfl (zp_s rfl (zp_s rfl ?_))))))))))))); refine zp_s rfl (zp_s rfl (zp_n rfl rfl (zp_q rfl (yD rfl (yD rfl (dq rfl (zqX zI ?_)))))))); refine ⟨(kl d), (idx rfl hd), ?_⟩)
              (refine zkd (zst_p (yD rfl (yD rfl (yW rfl (yD rfl (yD rfl (dq rfl (zqX zI ?_)))))))); refine ⟨[str y], (idx rfl hy), ?_⟩)
              (refine zkd (zst_p (yD rfl (dq rfl (zqX zI ?_)))); refine ⟨_, _, (ref6_has d.nets y (by have := (hok d (List.mem_of_getElem? hd)).2.1; omega)), ?_⟩)
              (refine zkd (zst_p (zd_0 (zr_q rfl (zt_n (zw_c rfl ?_))))); refine bcase_split (fun h9 => ?_) (fun h9 => ?_) <;> try simp only [zB] at h9)
              · have sn : seenIn (cs.take i) y = true := by
                  unfold seenIn
                  rw [List.any_eq_true]
                  exact ⟨d, List.mem_iff_getElem?.2 ⟨k, by rw [List.getElem?_take, if_pos (by omega)]; exact hd⟩, h9⟩
                rw [sn, if_pos rfl] at nf
                (refine yS (yA rfl (yT (zw_r (zb_r (zt_r (zt_r (zb_r (zb_r (zt_r (zt_r (zb_r (zt_r (ze_r zi ?_))))))))))))); refine And.intro ?_ trivial)
                rw [nbad (by rw [nf]; decide), nf]; rfl
              · (refine zw_k (zb_n (zt_n (zw_o (yP rfl (yq rfl (zqA zI ?_)))))); refine And.intro ⟨by omega, by omega⟩ ?_)
                (refine yk (yA rfl (yT (zaf_raw ?_))); refine ⟨(k + 1), _, SLe.refl _ _, ?_⟩)
                exact ⟨⟨by omega, by rw [st]; simpa using h9⟩, by omega, ⟨rfl, rfl, rfl, rfl, rfl, trivial⟩, ⟨rfl, trivial⟩⟩
            · have e : k = i := by omega
              subst e
              rw [u2, if_neg (by decide)] at nf
              (refine zw_x (zt_x (zt_x (zb_h (zb_n (zt_n (zw_o (yP rfl (yq rfl (zqA zI ?_))))))))); refine And.intro ⟨by omega, by omega⟩ ?_)
              (refine yk (yA rfl (yT (zaf_raw ?_))); refine ⟨(j + 1), _, SLe.refl _ _, ?_⟩)
              exact ⟨⟨by omega, next nf⟩, by omega, ⟨rfl, rfl, rfl, rfl, trivial⟩, ⟨rfl, trivial⟩⟩
      · have z0 : firstN (netFault cs i c.nets) 0 c.nets.length = 0 := firstN_none fun k _ hk => p2 k (by omega)
        rw [if_pos z0]
        have bn : ∀ d, cs[i - 1]? = some d → 0 < i → backAt (cs.map Class.name) i = (ltS c.name d.name || decide (c.name = d.name)) := fun d hd h0 => by
          simp only [backAt, List.getElem?_map, hc, hd, Option.map_some]
          rw [decide_eq_true h0]; rfl
        (refine zw_x (zt_x (zt_x (zb_h (zt_n (zw_s (yS (yV rfl (yP rfl (yn rfl (zqX zI ?_)))))))))); refine ⟨_, _, (ref6_rule c.clearance), ?_⟩)
        (refine zkn rfl rfl (zst_p (yP rfl (yP rfl (yg rfl ?_)))); refine bcase_split (fun g1 => ?_) (fun g1 => ?_) <;> try simp only [zB] at g1)
        · ((refine zg_f (zst_p (y0 rfl (y0 rfl (y0 rfl (yP rfl (yT (zw_c rfl (zc_t (yS (yA rfl (yT (zw_r (zt_r ?_))))))))))))); refine ze_r zi ?_); refine And.intro ?_ trivial)
          rw [if_neg (by simp [g1])]; rfl
        · (refine zg_t (zs_q rfl rfl (zq1 zI (zkq (zst_bx (y1 rfl (y2 rfl (zs_n rfl rfl rfl (zqX zI ?_)))))))); refine ⟨_, _, (ref6_rule c.width), ?_⟩)
          (refine zkn rfl rfl (zst_p (y1 rfl (yP rfl (yT (zw_c rfl ?_))))); refine bcase_split (fun g2 => ?_) (fun g2 => ?_) <;> try simp only [zB] at g2)
          · (refine yS (yA rfl (yT (zw_r (zt_r (ze_r zi ?_))))); refine And.intro ?_ trivial)
            rw [if_neg (by simp [g2])]; rfl
          · rw [if_pos (by simp [g1, g2])]
            (refine zw_k (zt_n (zw_s (zw_s (zw_d false [true, true, true, true, true, true, true, true, true, true, true, true, true] rfl (by kernel_rfl) (zp_q rfl (yD rfl (yD rfl (yD rfl (dg rfl ?_))))))))); refine bcase_split (fun g3 => ?_) (fun g3 => ?_) <;> try simp only [zB] at g3)
            · obtain ⟨d, hd⟩ := get_of (l := cs) (i := i - 1) (by omega)
              (refine zg_t (zd_q rfl (zq1 zI (zkd (zst_bx (d1 rfl (d1 rfl (d1 rfl (d2 rfl (zd_q rfl (zqA zI ?_)))))))))); refine And.intro ⟨by omega, by omega⟩ ?_)
              (refine zkd (zst_p (d2 rfl (zd_q rfl (zqX zI ?_)))); refine ⟨(kl d), (idx (show (i : Int) - 1 = ((i - 1 : Nat) : Int) by omega) hd), ?_⟩)
              rw [bn d hd (by omega)]
              (refine zkd (zst_p (d1 rfl (d1 rfl (d1 rfl (yD rfl (zd_0 (zr_q rfl (zt_n (zw_c rfl ?_))))))))); refine bcase_split (fun g4 => ?_) (fun g4 => ?_) <;> try simp only [zB] at g4)
              · (refine yS (yA rfl (yT (zw_r (zt_r (ze_r zi ?_))))); refine And.intro ?_ trivial)
                have g4 : (ltS c.name d.name || decide (c.name = d.name)) = true := by simpa [ltS] using g4
                rw [g4]; rfl
              · have g4 : (ltS c.name d.name || decide (c.name = d.name)) = false := by simpa [ltS] using g4
                (refine zw_k (zt_n (yS (yA rfl (yR zi ?_)))); refine And.intro ?_ trivial)
                rw [g4]; rfl
            · have h0 : i = 0 := by omega
              have bk : backAt (cs.map Class.name) i = false := by
                subst h0
                simp only [backAt, List.getElem?_map, hc]
                rfl
              ((refine zg_f (zst_p (d0 rfl (d0 rfl (d0 rfl (d0 rfl (d0 rfl (d0 rfl (d0 rfl (d0 rfl (yD rfl (zd_0 (zr_q rfl (zt_n ?_))))))))))))); refine zw_c rfl (zc_f (zw_k (zt_n (yS (yA rfl (yR zi ?_))))))); refine And.intro ?_ trivial)
              rw [bk]; rfl
end Go.Proofs.YtcfhiodoogkcpaaGreatDoor.M
