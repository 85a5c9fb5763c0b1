/- By the machine: the law on yields, waits and traces. -/
import Derived.Test.YtngikpapepnkaaaGreatDoorMLong2
import Derived.Test.YtngikpapepnkaaaGreatDoorMYield
import Derived.Test.YtngikpapepnkaaaGreatDoorMReads
set_option linter.unusedSimpArgs false
set_option linter.unusedVariables false
namespace Go.Proofs.YtngikpapepnkaaaGreatDoor.M
open Go.AM Go.RowKit

theorem equal_same (l : List Doing) (hN : l.length ≤ 140737488355328) : ACalls C 10 [.pv (.sl (l.map dc)), .pv (.sl (l.map dc))] (.p (bool true)) [] := by
  refine fun_go hC Tryz.func10 rfl rfl 26 rfl (by decide) (by kernel_rfl) fun _ _ _ _ _ => ?_
  have lm := len_map l dc
  (refine yS (yA rfl (yT (zw_s (yS (yP rfl (yP rfl (yP rfl (yP rfl (yP rfl (yT (zw_c rfl ?_))))))))))); refine bcase_split (fun h0 => ?_) (fun h0 => ?_) <;> try simp only [zB] at h0)
  · exact absurd trivial h0
  · refine zw_k (zt_n (zw_s (yS (yP rfl (yP rfl (yP rfl (yT (zw_b ?_))))))))
    refine loop_ok' (fun i : Nat => i ≤ l.length) (fun i => [(0, .p (.sl (l.map dc))), (1, .p (.sl (l.map dc))), (12, .p (i64 l.length)), (13, .p (i64 i))]) (fun _ => []) (fun i => l.length - i) 0 _ (SLe.refl _ _) (Nat.zero_le _) ⟨rfl, rfl, congrArg (fun n : Nat => AV.p (i64 n)) lm, rfl, trivial⟩ trivial fun i hi t h => ?_
    (refine yS (yP rfl (yT (zw_s (zw_c rfl ?_)))); refine bcase_split (fun h1 => ?_) (fun h1 => ?_) <;> try simp only [zB] at h1)
    · obtain ⟨d, hd⟩ := get_of (l := l) (i := i) (by omega)
      ((refine zw_k (zt_n (zw_s (zw_b (yS (yP rfl (yA rfl (yT (zw_s (zw_d [] false [true, true, true, true, true, true, true, true, true] rfl (by kernel_rfl) (zp_q rfl (yD rfl (yD rfl (dq rfl ?_))))))))))))); refine zqX zI ?_); refine ⟨(dc d), (idx rfl hd), ?_⟩)
      (refine zkd (zst_p (yD rfl (yD rfl (yD rfl (dq rfl (zqX zI ?_)))))); refine ⟨(dc d), (idx rfl hd), ?_⟩)
      (refine zkd (zst_p (yD rfl (yD rfl (zd_0 (zr_q rfl (zt_n (zw_c rfl ?_))))))); refine bcase_split (fun h2 => ?_) (fun h2 => ?_) <;> try simp only [zB] at h2)
      · exact absurd h2 (by simp)
      · (refine zw_k (zb_n (zt_n (zw_o (yq rfl (zqA zI ?_))))); refine And.intro ⟨by omega, by omega⟩ ?_)
        (refine yk (yP rfl (yT (zaf_raw ?_))); refine ⟨(i + 1), _, SLe.refl _ _, ?_⟩)
        exact ⟨by omega, by omega, ⟨rfl, rfl, rfl, rfl, trivial⟩, trivial⟩
    · (refine zw_x (zt_x (zt_x (zb_h (zt_n (yS (yA rfl (yR zi ?_))))))); refine And.intro ?_ trivial)
      rfl
theorem law_made (m : List Made) (d : List Doing) (lot : ByteArray) (panel : Int) (hM : ∀ x ∈ m, strOK x.lot) (hm : m.length ≤ 140737488355328) (hD : ∀ x ∈ d, DOK x) (hd : d.length ≤ 140737488355328) (hl : strOK lot) : ACalls C 3 [.pv (.sl (m.map mc)), .pv (.sl (d.map dc)), .pv (str lot), .pv (i64 panel)] (.p (bool true)) [] := by
  refine fun_go hC Tryz.func3 rfl rfl 82 rfl (by decide) (by kernel_rfl) fun _ _ _ _ _ => ?_
  have hY1 := house_Yield m hM hm
  have hY2 := ref12_Yield m hM hm
  have l1 := house_Longest d hD hd
  have l2 := ref12_Longest d hD hd
  have t1 := house_Trace d lot panel (fun x hx => (hD x hx).1) hd hl
  have t2 := ref12_Trace d lot panel (fun x hx => (hD x hx).1) hd hl
  have eq := equal_same (traceF d lot panel).1 (by
    unfold traceF
    split
    · split
      · split
        · exact Nat.le_trans (trace_len d lot panel) hd
        · exact Nat.zero_le _
      · exact Nat.zero_le _
    · exact Nat.zero_le _)
  generalize traceF d lot panel = T at t1 t2 eq
  generalize longestF d = L at l1 l2
  generalize yieldF m = Y at hY1 hY2
  obtain ⟨Y1, Y2, Y3⟩ := Y
  obtain ⟨L1, L2⟩ := L
  obtain ⟨T1, T2⟩ := T
  (refine yS (yA rfl (yU (yP rfl (yn rfl (zqX zI ?_))))); refine ⟨_, _, hY1, ?_⟩)
  ((refine zkn rfl rfl (zst_tu (yq rfl (zq1 zI (zkq (zst_tu (yP rfl (yP rfl (yn rfl (zq1 zI (zkns (zst_bx (yq rfl (zq1 zI ?_))))))))))))); refine zkq (zst_e (zst_0 (yA rfl (yU (yP rfl (yn rfl (zqX zI ?_)))))))); refine ⟨_, _, hY2, ?_⟩)
  ((refine zkn rfl rfl (zst_tu (yq rfl (zq1 zI (zkq (zst_tu (yP rfl (yP rfl (yn rfl (zq1 zI (zkns (zst_bx (yq rfl (zq1 zI ?_))))))))))))); refine zkq (zst_e (zst_0 (yA rfl (yU (yP rfl (yn rfl (zqX zI ?_)))))))); refine ⟨_, _, l1, ?_⟩)
  (refine zkn rfl rfl (zst_tu (yq rfl (zq1 zI (zkq (zst_tu (yP rfl (yP rfl (yA rfl (yA rfl (yU (yP rfl (yn rfl (zqX zI ?_))))))))))))); refine ⟨_, _, l2, ?_⟩)
  ((refine zkn rfl rfl (zst_tu (yq rfl (zq1 zI (zkq (zst_tu (yP rfl (yP rfl (yA rfl (yA rfl (yT (zw_s (yS (yP rfl ?_))))))))))))); refine yP rfl (yP rfl (yP rfl (yg rfl ?_)))); refine bcase_split (fun g1 => ?_) (fun g1 => ?_) <;> try simp only [zB] at g1)
  · first | exact absurd trivial g1 | exact absurd g1 (by simp) | simp at g1
  · (refine zg_t (zs_q rfl rfl (zq1 zI (yk (y1 rfl (y1 rfl (yP rfl (yP rfl (yg rfl ?_)))))))); refine bcase_split (fun g2 => ?_) (fun g2 => ?_) <;> try simp only [zB] at g2)
    · first | exact absurd trivial g2 | exact absurd g2 (by simp) | simp at g2
    · (refine zg_t (zs_q rfl rfl (zq1 zI (yk (y1 rfl (y1 rfl (yP rfl (yP rfl (yg rfl ?_)))))))); refine bcase_split (fun g3 => ?_) (fun g3 => ?_) <;> try simp only [zB] at g3)
      · first | exact absurd trivial g3 | exact absurd g3 (by simp) | simp at g3
      · (refine zg_t (zs_q rfl rfl (zq1 zI (yk (y1 rfl (y1 rfl (yP rfl (yT (zw_c rfl ?_)))))))); refine bcase_split (fun g4 => ?_) (fun g4 => ?_) <;> try simp only [zB] at g4)
        · first | exact absurd trivial g4 | exact absurd g4 (by simp) | simp at g4
        · (refine zw_k (zt_n (yS (yP rfl (yP rfl (yP rfl (yn rfl (zqX zI ?_))))))); refine ⟨_, _, t1, ?_⟩)
          ((refine zkn rfl rfl (zst_tu (yq rfl (zq1 zI (zkq (zst_tu (yP rfl (yP rfl (yA rfl (yA rfl (yU (yP rfl (yP rfl (yP rfl ?_))))))))))))); refine yn rfl (zqX zI ?_)); refine ⟨_, _, t2, ?_⟩)
          ((refine zkn rfl rfl (zst_tu (yq rfl (zq1 zI (zkq (zst_tu (yP rfl (yP rfl (yA rfl (yA rfl (yU (yP rfl (yP rfl (yn rfl ?_))))))))))))); refine zqX zI ?_); refine ⟨_, _, eq, ?_⟩)
          (refine zkn rfl rfl (zst_p (yP rfl (y1 rfl (y1 rfl (y1 rfl (yP rfl (yP rfl (yg rfl ?_)))))))); refine bcase_split (fun g5 => ?_) (fun g5 => ?_) <;> try simp only [zB] at g5)
          · (refine zg_t (zs_n rfl rfl rfl (zqX zI ?_)); refine ⟨_, _, reads_yes, ?_⟩)
            (refine zkn rfl rfl (zst_p (yP rfl (yA rfl (yR zi ?_)))); refine And.intro ?_ trivial)
            rfl
          · first | exact absurd trivial g5 | exact absurd g5 (by simp) | simp at g5
end Go.Proofs.YtngikpapepnkaaaGreatDoor.M
