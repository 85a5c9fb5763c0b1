/- By the machine: Trace, of both sides. -/
import Derived.Test.YtngikpapepnkaaaGreatDoorMTrace2
set_option linter.unusedSimpArgs false
set_option linter.unusedVariables false
namespace Go.Proofs.YtngikpapepnkaaaGreatDoor.M
open Go.AM Go.RowKit
open Reg (stab SortedL SameKinds)

/-- Trace's answer -/
def traceF (l : List Doing) (lot : ByteArray) (panel : Int) : List Doing × Int := if doingsFault l = 0 then (if wordB lot = true then (if inR panel 0 199 = true then (traceD l lot panel, 0) else ([], 1)) else ([], 5)) else ([], doingsFault l)
theorem fault_len {l : List Doing} (h : doingsFault l = 0) : l.length ≤ maxD := by
  unfold maxD
  unfold doingsFault at h
  split at h
  · cases h
  · omega
theorem ref12_Trace (l : List Doing) (lot : ByteArray) (panel : Int) (hS : ∀ d ∈ l, strOK d.lot) (hN : l.length ≤ 140737488355328) (hl : strOK lot) : ACalls C 9 [.pv (.sl (l.map dc)), .pv (str lot), .pv (i64 panel)] (.tu [.sl ((traceF l lot panel).1.map dc), i64 (traceF l lot panel).2]) [] := by
  refine fun_go hC Tryz.func9 rfl rfl 24 rfl (by decide) (by kernel_rfl) fun _ _ _ _ _ => ?_
  have hf := ref12_checkDoings l hS hN
  by_cases h0 : doingsFault l = 0
  · rw [h0] at hf
    (refine yS (yB rfl (yA rfl (yT (zw_s (yS (yP rfl (yn rfl (zqX zI ?_)))))))); refine ⟨_, _, hf, ?_⟩)
    ((refine zkn rfl rfl (zst_p (yA rfl (yU (yP rfl (yP rfl (yT (zw_c rfl (zc_f (zw_k (zt_n (zw_s (yS (yP rfl ?_))))))))))))); refine yn rfl (zqX zI ?_)); refine ⟨_, _, (ref5_isWord lot (by have : lot.size < 4294967281 := hl; omega)), ?_⟩)
    (refine zkn rfl rfl (zst_p (yP rfl (yT (zw_c rfl ?_)))); refine bcase_split (fun h1 => ?_) (fun h1 => ?_) <;> try simp only [zB] at h1)
    · (refine yS (yB rfl (yA rfl (yT (zw_r (zt_r (ze_r zi ?_)))))); refine And.intro ?_ trivial)
      rw [traceF, if_pos h0, if_neg (by simp [h1])]; rfl
    · (refine zw_k (zt_n (zw_s (yS (yP rfl (yn rfl (zqX zI ?_)))))); refine ⟨_, _, (ref12_inRange panel 0 199), ?_⟩)
      (refine zkn rfl rfl (zst_p (yP rfl (yT (zw_c rfl ?_)))); refine bcase_split (fun h2 => ?_) (fun h2 => ?_) <;> try simp only [zB] at h2)
      · (refine yS (yB rfl (yA rfl (yT (zw_r (zt_r (ze_r zi ?_)))))); refine And.intro ?_ trivial)
        rw [traceF, if_pos h0, if_pos (by simpa using h1), if_neg (by simp [h2])]; rfl
      · (refine zw_k (zt_n (yS (yP rfl (yP rfl (yP rfl (yn rfl (zqX zI ?_))))))); refine ⟨_, _, (ref12_trace l lot panel (fault_len h0)), ?_⟩)
        (refine zkn rfl rfl (zst_p (yA rfl (yA rfl (yR zi ?_)))); refine And.intro ?_ trivial)
        rw [traceF, if_pos h0, if_pos (by simpa using h1), if_pos (by simpa using h2)]; rfl
  · have e : traceF l lot panel = ([], doingsFault l) := by rw [traceF, if_neg h0]
    rw [e]
    (refine yS (yB rfl (yA rfl (yT (zw_s (yS (yP rfl (yn rfl (zqX zI ?_)))))))); refine ⟨_, _, hf, ?_⟩)
    (refine zkn rfl rfl (zst_p (yA rfl (yU (yP rfl (yP rfl (yT (zw_c rfl ?_))))))); refine bcase_split (fun h1 => ?_) (fun h1 => ?_) <;> try simp only [zB] at h1)
    · (refine yS (yP rfl (yB rfl (yA rfl (yT (zw_r (zt_r (ze_r zi ?_))))))); refine And.intro ?_ trivial)
      rfl
    · exact absurd (by simpa using h1) h0
theorem row_app {e : TypeId} (W : List Doing) (d : Doing) : AB.row e (W.map dc ++ [dc d]) = AB.row e ((W ++ [d]).map dc) := by rw [List.map_append]; rfl
set_option maxRecDepth 100000 in
set_option maxHeartbeats 1000000 in
theorem house_Trace (l : List Doing) (lot : ByteArray) (panel : Int) (hS : ∀ d ∈ l, strOK d.lot) (hN : l.length ≤ 140737488355328) (hl : strOK lot) : ACalls C 8 [.pv (.sl (l.map dc)), .pv (str lot), .pv (i64 panel)] (.tu [.sl ((traceF l lot panel).1.map dc), i64 (traceF l lot panel).2]) [] := by
  refine fun_go hC Tryz.func8 rfl rfl 47 rfl (by decide) (by kernel_rfl) fun _ _ _ _ _ => ?_
  have hf := house_checkDoings l hS hN
  have lm := len_map l dc
  by_cases h0 : doingsFault l = 0
  · rw [h0] at hf
    have hlen := fault_len h0
    (refine yS (yB rfl (yA rfl (yT (zw_s (yS (yP rfl (yn rfl (zqX zI ?_)))))))); refine ⟨_, _, hf, ?_⟩)
    ((refine zkn rfl rfl (zst_p (yA rfl (yU (yP rfl (yP rfl (yT (zw_c rfl (zc_f (zw_k (zt_n (zw_s (yS (yP rfl ?_))))))))))))); refine yn rfl (zqX zI ?_)); refine ⟨_, _, (house_isWord lot (by have : lot.size < 4294967281 := hl; omega)), ?_⟩)
    (refine zkn rfl rfl (zst_p (yP rfl (yT (zw_c rfl ?_)))); refine bcase_split (fun h1 => ?_) (fun h1 => ?_) <;> try simp only [zB] at h1)
    · (refine yS (yB rfl (yA rfl (yT (zw_r (zt_r (ze_r zi ?_)))))); refine And.intro ?_ trivial)
      rw [traceF, if_pos h0, if_neg (by simp [h1])]; rfl
    · (refine zw_k (zt_n (zw_s (yS (yP rfl (yn rfl (zqX zI ?_)))))); refine ⟨_, _, (house_isPanel panel), ?_⟩)
      (refine zkn rfl rfl (zst_p (yP rfl (yT (zw_c rfl ?_)))); refine bcase_split (fun h2 => ?_) (fun h2 => ?_) <;> try simp only [zB] at h2)
      · (refine yS (yB rfl (yA rfl (yT (zw_r (zt_r (ze_r zi ?_)))))); refine And.intro ?_ trivial)
        rw [traceF, if_pos h0, if_pos (by simpa using h1), if_neg (by simp [h2])]; rfl
      · have e : traceF l lot panel = (traceD l lot panel, 0) := by rw [traceF, if_pos h0, if_pos (by simpa using h1), if_pos (by simpa using h2)]
        rw [e]
        unfold maxD at hlen
        refine zw_k (zt_n (yS (yB rfl (yT (zw_s (yS (yP rfl (yP rfl (yP rfl (yT (zw_b ?_)))))))))))
        refine loop_ok' (fun p : Nat × List Doing => p.1 ≤ l.length ∧ p.2 = (l.take p.1).filter (sameK lot panel) ∧ p.2.length ≤ p.1) (fun p => [(1, .p (str lot)), (2, .p (i64 panel)), (9, .ow 9), (23, .p (.sl (l.map dc))), (24, .p (i64 l.length)), (25, .p (i64 p.1))]) (fun p => [(9, .row 35 (p.2.map dc))]) (fun p => l.length - p.1) (0, []) _ (SLe.nilRow hC _ 9 35 _ (by decide) rfl rfl (by decide)) ⟨Nat.zero_le _, rfl, Nat.le_refl _⟩ ⟨rfl, rfl, rfl, rfl, congrArg (fun n : Nat => AV.p (i64 n)) lm, rfl, trivial⟩ ⟨rfl, trivial⟩ fun ⟨i, W⟩ hi t h => ?_
        obtain ⟨q1, q2, q3⟩ := hi
        simp only at q1 q2 q3
        (refine yS (yP rfl (yT (zw_s (zw_c rfl ?_)))); refine bcase_split (fun h3 => ?_) (fun h3 => ?_) <;> try simp only [zB] at h3)
        · obtain ⟨d, hd⟩ := get_of (l := l) (i := i) (by omega)
          (refine zw_k (zt_n (zw_s (zw_b (yS (yq rfl (zqX zI ?_)))))); refine ⟨(dc d), (idx rfl hd), ?_⟩)
          ((refine yk (yP rfl (yn rfl (zq1 zI (zkns (zst_bx (yq rfl (zq1 zI (zkq (zst_e (zst_0 (yU (yV rfl (yP rfl ?_))))))))))))); refine yP rfl (yP rfl (yP rfl (yg rfl ?_)))); refine bcase_split (fun h4 => ?_) (fun h4 => ?_) <;> try simp only [zB] at h4)
          · (refine zg_t (zs_q rfl rfl (zq1 zI (zkq (zst_bx (y1 rfl (y1 rfl (y1 rfl (yP rfl (yT (zw_c rfl ?_)))))))))); refine bcase_split (fun h5 => ?_) (fun h5 => ?_) <;> try simp only [zB] at h5)
            · have hk : sameK lot panel d = true := by simp_all [sameK]
              (refine zw_o (yq rfl (zq1 zI (zkq (zst_ow (yP rfl (yn rfl (zq1 zI (zkns (zst_ow (yn rfl (zqA zI ?_))))))))))); refine And.intro ⟨fun r hr => by simp at hr; subst hr; rfl, by simp only [List.length_append, List.length_map, List.length_set, List.length_replicate]; omega, by simp only [List.length_append, List.length_map, List.length_set, List.length_replicate]; omega⟩ ?_)
              (refine zkns (zst_e (zst_ow (zo_n rfl (zs_ar rfl rfl rfl rfl rfl (zo_0 (zb_n (zt_n (zw_o (yq rfl (zqA zI ?_)))))))))); refine And.intro ⟨by dsimp only; omega, by dsimp only; omega⟩ ?_)
              (refine yk (yP rfl (yT (zaf_raw ?_))); refine ⟨(i + 1, W ++ [d]), _, SLe.refl _ _, ?_⟩)
              exact ⟨⟨by dsimp only; omega, by dsimp only; rw [filter_more hd hk, q2], by dsimp only; rw [List.length_append, List.length_singleton]; omega⟩, by dsimp only; omega, ⟨rfl, rfl, rfl, rfl, rfl, rfl, trivial⟩, ⟨row_app W d, trivial⟩⟩
            · have hk : sameK lot panel d = false := by simp_all [sameK]
              (refine zw_k (zb_n (zt_n (zw_o (yq rfl (zqA zI ?_))))); refine And.intro ⟨by dsimp only; omega, by dsimp only; omega⟩ ?_)
              (refine yk (yP rfl (yT (zaf_raw ?_))); refine ⟨(i + 1, W), _, SLe.refl _ _, ?_⟩)
              exact ⟨⟨by dsimp only; omega, by dsimp only; rw [filter_skip hd hk, q2], by dsimp only; omega⟩, by dsimp only; omega, ⟨rfl, rfl, rfl, rfl, rfl, rfl, trivial⟩, ⟨rfl, trivial⟩⟩
          · have hk : sameK lot panel d = false := by simp_all [sameK]
            ((refine zg_f (zst_p (y0 rfl (y0 rfl (y0 rfl (yP rfl (yT (zw_c rfl (zc_f (zw_k (zb_n (zt_n (zw_o (yq rfl ?_))))))))))))); refine zqA zI ?_); refine And.intro ⟨by dsimp only; omega, by dsimp only; omega⟩ ?_)
            (refine yk (yP rfl (yT (zaf_raw ?_))); refine ⟨(i + 1, W), _, SLe.refl _ _, ?_⟩)
            exact ⟨⟨by dsimp only; omega, by dsimp only; rw [filter_skip hd hk, q2], by dsimp only; omega⟩, by dsimp only; omega, ⟨rfl, rfl, rfl, rfl, rfl, rfl, trivial⟩, ⟨rfl, trivial⟩⟩
        · have e1 : i = l.length := by omega
          have e2 : W = l.filter (sameK lot panel) := by rw [q2, e1, List.take_length]
          (refine zw_x (zt_x (zt_x (zb_h (zt_n (yS (yq rfl (zq1 zI (zkq (zst_ow (yn rfl (zqX zI ?_))))))))))); refine ⟨_, _, (sortStable W (by unfold maxD; omega)), ?_⟩)
          (refine zkn rfl rfl (zst_e (zst_tu (yU (yq rfl (zq1 zI (zkq (zst_ow (zo_n rfl (zs_ar rfl rfl rfl rfl rfl (yA rfl (yR zi ?_))))))))))); refine And.intro ?_ trivial)
          rw [traceD, ← e2]; rfl
  · have e : traceF l lot panel = ([], doingsFault l) := by rw [traceF, if_neg h0]
    rw [e]
    (refine yS (yB rfl (yA rfl (yT (zw_s (yS (yP rfl (yn rfl (zqX zI ?_)))))))); refine ⟨_, _, hf, ?_⟩)
    (refine zkn rfl rfl (zst_p (yA rfl (yU (yP rfl (yP rfl (yT (zw_c rfl ?_))))))); refine bcase_split (fun h1 => ?_) (fun h1 => ?_) <;> try simp only [zB] at h1)
    · (refine yS (yP rfl (yB rfl (yA rfl (yT (zw_r (zt_r (ze_r zi ?_))))))); refine And.intro ?_ trivial)
      rfl
    · exact absurd (by simpa using h1) h0
end Go.Proofs.YtngikpapepnkaaaGreatDoor.M
