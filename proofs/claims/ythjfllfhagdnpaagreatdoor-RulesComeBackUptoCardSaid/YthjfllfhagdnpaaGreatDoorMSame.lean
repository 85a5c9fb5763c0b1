/- By the machine: rules are the same as themselves. -/
import Derived.Test.YthjfllfhagdnpaaGreatDoorMReadP
set_option linter.unusedSimpArgs false
set_option linter.unusedVariables false
namespace Go.Proofs.YthjfllfhagdnpaaGreatDoor.M
open Go.AM Go.RowKit Go.Lib
open Reg (Rect Spans Band)

theorem same_strings (l : List ByteArray) (hl : l.length ≤ 1048576) : ACalls C 113 [.pv (strs l), .pv (strs l)] (.p (bool true)) [] := by
  refine fun_go hC Tryz.func113 rfl rfl 26 rfl (by decide) (by kernel_rfl) fun _ _ _ _ _ => ?_
  have lm := len_map l fun s => [str s]
  (refine yS (yA rfl (yT (zw_s (yS (yP rfl (yP rfl (yP rfl (yP rfl (yP rfl (yT (zw_c rfl ?_))))))))))); refine bcase_split (fun h1 => ?_) (fun h1 => ?_) <;> try simp only [zB] at h1)
  · exact absurd trivial h1
  · refine zw_k (zt_n (zw_s (yS (yA rfl (yT (zw_b ?_))))))
    refine loop_ok' (fun i : Nat => i ≤ l.length) (fun i => [(0, .p (strs l)), (1, .p (strs l)), (5, .p (i64 i))]) (fun _ => []) (fun i => l.length - i) 0 _ (SLe.refl _ _) (Nat.zero_le _) ⟨rfl, rfl, rfl, trivial⟩ trivial fun i hi t h => ?_
    (refine zw_s (yS (yP rfl (yP rfl (yP rfl (yP rfl (yT (zw_c rfl ?_))))))); refine bcase_split (fun h2 => ?_) (fun h2 => ?_) <;> try simp only [zB] at h2)
    · rw [lm] at h2
      obtain ⟨x, hx⟩ := get_of (l := l) (i := i) (by omega)
      (refine zw_k (zt_n (zw_s (zw_b (zw_s (zw_d false [true, true, true, true, true, true, true, true, true] rfl (by kernel_rfl) (zp_q rfl (yD rfl (yD rfl (dq rfl (zqX zI ?_)))))))))); refine ⟨[str x], (idx rfl hx), ?_⟩)
      (refine zkd (zst_p (yD rfl (yD rfl (yD rfl (dq rfl (zqX zI ?_)))))); refine ⟨[str x], (idx rfl hx), ?_⟩)
      (refine zkd (zst_p (yD rfl (yD rfl (zd_0 (zr_q rfl (zt_n (zw_c rfl ?_))))))); refine bcase_split (fun h3 => ?_) (fun h3 => ?_) <;> try simp only [zB] at h3)
      · exact absurd trivial h3
      · (refine zw_k (zb_n (zt_n (zw_o (yP rfl (yq rfl (zqA zI ?_)))))); refine And.intro ⟨by omega, by omega⟩ ?_)
        (refine yk (yA rfl (yT (zaf_raw ?_))); refine ⟨(i + 1), _, SLe.refl _ _, ?_⟩)
        exact ⟨by omega, by omega, ⟨rfl, rfl, rfl, trivial⟩, trivial⟩
    · (refine zw_x (zt_x (zt_x (zb_h (zt_n (yS (yA rfl (yR zi ?_))))))); refine And.intro ?_ trivial)
      rfl
theorem same_rects (l : List Rect) (hN : l.length ≤ 140737488355328) : ACalls C 19 [.pv (rects l), .pv (rects l)] (.p (bool true)) [] := by
  have := ref_sameRects l l hN
  rw [show decide (l = l) = true by simp] at this
  exact this
/-- bounds that a list's length keeps to -/
def sameOK (r : Rules) : Prop := rulesOK r ∧ ∀ a ∈ r.areas, a.region.length ≤ 1048576
set_option maxRecDepth 100000 in
set_option maxHeartbeats 2000000 in
theorem same_rules (r : Rules) (ho : sameOK r) : ACalls C 44 [.pv (.ag (rl r)), .pv (.ag (rl r))] (.p (bool true)) [] := by
  obtain ⟨⟨ho, n1, n2⟩, n3⟩ := ho
  refine fun_go hC Tryz.func44 rfl rfl 141 rfl (by decide) (by kernel_rfl) fun _ _ _ _ _ => ?_
  have lc := len_map r.classes kl
  have la := len_map r.areas arr
  refine zw_sl ?_
  refine zw_o (yn rfl (zq1 zI (zkns (zst_bx (yn rfl (zq1 zI (zkns (zst_bx (yA rfl (yT (zaf_raw ?_)))))))))))
  refine zSL ((SLe.toPV (by exact hC) _ 2 (y := .ip (rl r)) (fz := [(2, .fbx (rl r))]) (by exact ⟨rfl, rfl⟩)).trans (SLe.toPV (by exact hC) _ 3 (y := .ip (rl r)) (fz := [(3, .fbx (rl r))]) (by exact ⟨rfl, rfl⟩))) ?_
  (refine zw_s (yS (yP rfl (yP rfl (yP rfl (yP rfl (yP rfl (yP rfl (yP rfl (yP rfl (yg rfl ?_)))))))))); refine bcase_split (fun h1 => ?_) (fun h1 => ?_) <;> try simp only [zB] at h1)
  · exact absurd trivial h1
  · (refine zg_t (zs_q rfl rfl (zq1 zI (yk (y1 rfl (y1 rfl (y1 rfl (y1 rfl (y1 rfl (y1 rfl (yP rfl (yT (zw_c rfl ?_)))))))))))); refine bcase_split (fun h2 => ?_) (fun h2 => ?_) <;> try simp only [zB] at h2)
    · exact absurd trivial h2
    · refine zw_k (zt_n (zw_s (yS (yA rfl (yT (zw_b ?_))))))
      refine loop_ok' (fun i : Nat => i ≤ r.classes.length) (fun i => [(2, .p (.ip (rl r))), (3, .p (.ip (rl r))), (5, .p (i64 i))]) (fun _ => []) (fun i => r.classes.length - i) 0 _ (SLe.refl _ _) (Nat.zero_le _) ⟨rfl, rfl, rfl, trivial⟩ trivial fun i hi t h => ?_
      (refine zw_s (yS (yP rfl (yP rfl (yP rfl (yP rfl (yP rfl (yT (zw_c rfl ?_)))))))); refine bcase_split (fun h3 => ?_) (fun h3 => ?_) <;> try simp only [zB] at h3)
      · rw [lc] at h3
        obtain ⟨c, hc⟩ := get_of (l := r.classes) (i := i) (by omega)
        have hco := ho c (List.mem_of_getElem? hc)
        ((refine zw_k (zt_n (zw_s (zw_b (zw_s (zw_d false [true, true, true, true, true, true, false, true, false, false, true, true, true, true] rfl (by kernel_rfl) (zp_s rfl (zp_s rfl (zp_s rfl (zp_s rfl (zp_s rfl (zp_s rfl (zp_s rfl (zp_s rfl ?_))))))))))))); refine zp_s rfl (zp_s rfl (zp_n rfl rfl (zp_n rfl rfl (zp_q rfl (yD rfl (yD rfl (yD rfl (dq rfl (zqX zI ?_)))))))))); refine ⟨(kl c), (idx rfl hc), ?_⟩)
        (refine zkd (zst_p (yD rfl (yD rfl (yD rfl (yD rfl (dq rfl (zqX zI ?_))))))); refine ⟨(kl c), (idx rfl hc), ?_⟩)
        ((refine zkd (zst_p (yD rfl (dq rfl (zq1 zI (zkdn rfl rfl (zst_bx (dq rfl (zq1 zI (zkdn rfl rfl (zst_bx (dq rfl (zq1 zI (zkde rfl ?_))))))))))))); refine zst_e (zst_0 (dq rfl (zq1 zI (zkde rfl (zst_e (zst_0 (zd_0 (zr_q rfl (zt_n (yS (yV rfl (yP rfl (yV rfl ?_))))))))))))); refine yP rfl (yP rfl (yP rfl (yg rfl ?_)))); refine bcase_split (fun h4 => ?_) (fun h4 => ?_) <;> try simp only [zB] at h4)
        · exact absurd trivial h4
        · ((refine zg_t (zs_q rfl rfl (zq1 zI (zkq (zst_bx (y1 rfl (y2 rfl (zs_q rfl rfl (zq1 zI (zkq (zst_bx (y1 rfl (y1 rfl (yP rfl ?_))))))))))))); refine yP rfl (yg rfl ?_)); refine bcase_split (fun h5 => ?_) (fun h5 => ?_) <;> try simp only [zB] at h5)
          · exact absurd trivial h5
          · ((refine zg_t (zs_q rfl rfl (zq1 zI (zkq (zst_bx (y1 rfl (y2 rfl (zs_q rfl rfl (zq1 zI (zkq (zst_bx (y1 rfl (y1 rfl (yP rfl ?_))))))))))))); refine yP rfl (yg rfl ?_)); refine bcase_split (fun h6 => ?_) (fun h6 => ?_) <;> try simp only [zB] at h6)
            · exact absurd trivial h6
            · ((refine zg_t (zs_q rfl rfl (zq1 zI (zkq (zst_bx (y1 rfl (y2 rfl (zs_q rfl rfl (zq1 zI (zkq (zst_bx (y1 rfl (y2 rfl (zs_n rfl rfl rfl ?_))))))))))))); refine zqX zI ?_); refine ⟨_, _, (same_strings c.nets hco.2.1), ?_⟩)
              (refine zkn rfl rfl (zst_p (y1 rfl (yP rfl (yT (zw_c rfl (zc_f (zw_k (zb_n (zt_n (zw_o (yP rfl (yq rfl (zqA zI ?_))))))))))))); refine And.intro ⟨by omega, by omega⟩ ?_)
              (refine yk (yA rfl (yT (zaf_raw ?_))); refine ⟨(i + 1), _, SLe.refl _ _, ?_⟩)
              exact ⟨by omega, by omega, ⟨rfl, rfl, rfl, trivial⟩, trivial⟩
      · refine zw_x (zt_x (zt_x (zb_h (zt_n (zw_s (yS (yA rfl (yT (zw_b ?_)))))))))
        refine loop_ok' (fun i : Nat => i ≤ r.areas.length) (fun i => [(2, .p (.ip (rl r))), (3, .p (.ip (rl r))), (8, .p (i64 i))]) (fun _ => []) (fun i => r.areas.length - i) 0 _ (SLe.refl _ _) (Nat.zero_le _) ⟨rfl, rfl, rfl, trivial⟩ trivial fun i hi t h => ?_
        (refine zw_s (yS (yP rfl (yP rfl (yP rfl (yP rfl (yP rfl (yT (zw_c rfl ?_)))))))); refine bcase_split (fun h4 => ?_) (fun h4 => ?_) <;> try simp only [zB] at h4)
        · rw [la] at h4
          obtain ⟨a, ha⟩ := get_of (l := r.areas) (i := i) (by omega)
          have hao := n3 a (List.mem_of_getElem? ha)
          ((refine zw_k (zt_n (zw_s (zw_b (zw_s (zw_d false [true, true, true, true, true, true, false, true, false, false, true, true, true, true] rfl (by kernel_rfl) (zp_s rfl (zp_s rfl (zp_s rfl (zp_s rfl (zp_s rfl (zp_s rfl (zp_s rfl (zp_s rfl ?_))))))))))))); refine zp_s rfl (zp_s rfl (zp_n rfl rfl (zp_n rfl rfl (zp_q rfl (yD rfl (yD rfl (yD rfl (dq rfl (zqX zI ?_)))))))))); refine ⟨(arr a), (idx rfl ha), ?_⟩)
          (refine zkd (zst_p (yD rfl (yD rfl (yD rfl (yD rfl (dq rfl (zqX zI ?_))))))); refine ⟨(arr a), (idx rfl ha), ?_⟩)
          ((refine zkd (zst_p (yD rfl (dq rfl (zq1 zI (zkdn rfl rfl (zst_bx (dq rfl (zq1 zI (zkdn rfl rfl (zst_bx (dq rfl (zq1 zI (zkde rfl ?_))))))))))))); refine zst_e (zst_0 (dq rfl (zq1 zI (zkde rfl (zst_e (zst_0 (zd_0 (zr_q rfl (zt_n (yS (yV rfl (yP rfl (yV rfl ?_))))))))))))); refine yP rfl (yP rfl (yP rfl (yg rfl ?_)))); refine bcase_split (fun h5 => ?_) (fun h5 => ?_) <;> try simp only [zB] at h5)
          · exact absurd trivial h5
          · ((refine zg_t (zs_q rfl rfl (zq1 zI (zkq (zst_bx (y1 rfl (y2 rfl (zs_q rfl rfl (zq1 zI (zkq (zst_bx (y1 rfl (y1 rfl (yP rfl ?_))))))))))))); refine yP rfl (yg rfl ?_)); refine bcase_split (fun h6 => ?_) (fun h6 => ?_) <;> try simp only [zB] at h6)
            · exact absurd trivial h6
            · ((refine zg_t (zs_q rfl rfl (zq1 zI (zkq (zst_bx (y1 rfl (y2 rfl (zs_q rfl rfl (zq1 zI (zkq (zst_bx (y1 rfl (y2 rfl (zs_n rfl rfl rfl ?_))))))))))))); refine zqX zI ?_); refine ⟨_, _, (same_rects a.region (by omega)), ?_⟩)
              (refine zkn rfl rfl (zst_p (y1 rfl (yP rfl (yT (zw_c rfl (zc_f (zw_k (zb_n (zt_n (zw_o (yP rfl (yq rfl (zqA zI ?_))))))))))))); refine And.intro ⟨by omega, by omega⟩ ?_)
              (refine yk (yA rfl (yT (zaf_raw ?_))); refine ⟨(i + 1), _, SLe.refl _ _, ?_⟩)
              exact ⟨by omega, by omega, ⟨rfl, rfl, rfl, trivial⟩, trivial⟩
        · (refine zw_x (zt_x (zt_x (zb_h (zt_n (yS (yP rfl (yP rfl (yP rfl (yP rfl (yP rfl (yP rfl (yg rfl ?_)))))))))))); refine bcase_split (fun g1 => ?_) (fun g1 => ?_) <;> try simp only [zB] at g1)
          · (refine zg_t (zs_q rfl rfl (zq1 zI (yk (y1 rfl (y1 rfl (y1 rfl (y1 rfl (yP rfl (yP rfl (yg rfl ?_)))))))))); refine bcase_split (fun g2 => ?_) (fun g2 => ?_) <;> try simp only [zB] at g2)
            · (refine zg_t (zs_q rfl rfl (zq1 zI (yk (y1 rfl (y1 rfl (y1 rfl (y1 rfl (yP rfl (yP rfl (yg rfl ?_)))))))))); refine bcase_split (fun g3 => ?_) (fun g3 => ?_) <;> try simp only [zB] at g3)
              · (refine zg_t (zs_q rfl rfl (zq1 zI (yk (y1 rfl (y1 rfl (y1 rfl (y1 rfl (yP rfl (yP rfl (yg rfl ?_)))))))))); refine bcase_split (fun g4 => ?_) (fun g4 => ?_) <;> try simp only [zB] at g4)
                · (refine zg_t (zs_q rfl rfl (zq1 zI (yk (y1 rfl (y1 rfl (y1 rfl (y1 rfl (yP rfl (yA rfl (yR zi ?_)))))))))); refine And.intro ?_ trivial)
                  exact congrArg (fun z => PV.im (Value.bool z)) (by simp)
                · exact absurd trivial g4
              · exact absurd trivial g3
            · exact absurd trivial g2
          · exact absurd trivial g1
end Go.Proofs.YthjfllfhagdnpaaGreatDoor.M
