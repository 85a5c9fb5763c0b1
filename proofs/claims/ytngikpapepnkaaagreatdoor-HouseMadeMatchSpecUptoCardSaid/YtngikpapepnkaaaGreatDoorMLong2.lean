/- By the machine: Longest, of both sides. -/
import Derived.Test.YtngikpapepnkaaaGreatDoorMLong1
set_option linter.unusedSimpArgs false
set_option linter.unusedVariables false
namespace Go.Proofs.YtngikpapepnkaaaGreatDoor.M
open Go.AM Go.RowKit
open Reg (stab SortedL SameKinds)

theorem flat_succ {l : List Doing} {i : Nat} {d : Doing} (hd : l[i]? = some d) (f : Doing → List Int) : (l.take (i + 1)).flatMap f = (l.take i).flatMap f ++ f d := by
  rw [take_succ' hd, List.flatMap_append]; simp
theorem maxL_snoc {m : Int} {G : List Int} {k : Nat} {g : Int} (hg : G[k]? = some g) : maxL m (G.take (k + 1)) = max (maxL m (G.take k)) g := by
  rw [take_succ' hg, maxL_app]; rfl
theorem filter_mem {l : List Doing} {lot : ByteArray} {panel : Int} {d : Doing} (h : d ∈ traceD l lot panel) : d ∈ l := (List.mem_filter.1 ((Reg.stab_mem preD).1 h)).1
set_option maxRecDepth 100000 in
set_option maxHeartbeats 1000000 in
theorem ref12_Longest (l : List Doing) (hS : ∀ d ∈ l, DOK d) (hN : l.length ≤ 140737488355328) : ACalls C 7 [.pv (.sl (l.map dc))] (.tu [i64 (longestF l).1, i64 (longestF l).2]) [] := by
  refine fun_go hC Tryz.func7 rfl rfl 53 rfl (by decide) (by kernel_rfl) fun _ _ _ _ _ => ?_
  have hf := ref12_checkDoings l (fun d hd => (hS d hd).1) hN
  have lm := len_map l dc
  by_cases h0 : doingsFault l = 0
  · rw [h0] at hf
    have hlen := fault_len h0
    have htm := fault_times h0
    have e : longestF l = (maxL 0 (l.flatMap fun d => gapsL (traceD l d.lot d.panel)), 0) := by rw [longestF, if_pos h0, gaps_same]
    rw [e]
    (refine yS (yA rfl (yA rfl (yT (zw_s (yS (yP rfl (yn rfl (zqX zI ?_)))))))); refine ⟨_, _, hf, ?_⟩)
    (refine zkn rfl rfl (zst_p (yA rfl (yU (yP rfl (yP rfl (yT (zw_c rfl (zc_f (zw_k (zt_n (yS (yA rfl (yT ?_))))))))))))); refine zw_s (yS (yA rfl (yT (zw_b ?_)))))
    refine loop_ok' (fun p : Nat × Int => p.1 ≤ l.length ∧ p.2 = maxL 0 ((l.take p.1).flatMap fun d => gapsL (traceD l d.lot d.panel))) (fun p => [(0, .p (.sl (l.map dc))), (5, .p (i64 p.2)), (6, .p (i64 p.1))]) (fun _ => []) (fun p => l.length - p.1) (0, 0) _ (SLe.refl _ _) ⟨Nat.zero_le _, rfl⟩ ⟨rfl, rfl, rfl, trivial⟩ trivial fun ⟨i, m⟩ hi t h => ?_
    obtain ⟨q1, q2⟩ := hi
    simp only at q1 q2
    (refine zw_s (yS (yP rfl (yP rfl (yP rfl (yP rfl (yT (zw_c rfl ?_))))))); refine bcase_split (fun h1 => ?_) (fun h1 => ?_) <;> try simp only [zB] at h1)
    · obtain ⟨d, hd⟩ := get_of (l := l) (i := i) (by omega)
      obtain ⟨W, hW⟩ : ∃ W, W = traceD l d.lot d.panel := ⟨_, rfl⟩
      have ht := ref12_trace l d.lot d.panel hlen
      rw [← hW] at ht
      have lw := len_map W dc
      have wl : W.length ≤ l.length := by rw [hW]; exact trace_len _ _ _
      have gl := gaps_len W
      unfold maxD at hlen
      ((refine zw_k (zt_n (zw_s (zw_b (zw_s (zw_d [] false [true, true, true, true, true, true, true, true, true, true, true, true, true] rfl (by kernel_rfl) (zp_s rfl (zp_s rfl (zp_s rfl (zp_s rfl (zp_s rfl (zp_s rfl (zp_s rfl (zp_s rfl ?_))))))))))))); refine zp_s rfl (zp_s rfl (zp_s rfl (zp_n rfl rfl (zp_q rfl (yD rfl (yD rfl (yD rfl (dq rfl (zqX zI ?_)))))))))); refine ⟨(dc d), (idx rfl hd), ?_⟩)
      (refine zkd (zst_p (yD rfl (yD rfl (yD rfl (yD rfl (dq rfl (zqX zI ?_))))))); refine ⟨(dc d), (idx rfl hd), ?_⟩)
      (refine zkd (zst_p (yD rfl (yD rfl (dq rfl (zqX zI ?_))))); refine ⟨_, _, ht, ?_⟩)
      (refine zkd (zst_p (yD rfl (zd_0 (zr_s rfl (zr_s rfl (zr_s rfl (zr_s rfl (zr_s rfl (zr_s rfl (zr_s rfl (zr_s rfl (zr_s rfl (zr_s rfl ?_))))))))))))); refine zr_s rfl (zr_s rfl (zr_k rfl rfl (zr_q rfl (zt_n (yS (yA rfl (yT (zw_b ?_)))))))))
      refine loop_ok' (fun p : Nat × Int => 1 ≤ p.1 ∧ (p.1 ≤ W.length ∨ W.length = 0 ∧ p.1 = 1) ∧ p.2 = maxL m ((gapsL W).take (p.1 - 1))) (fun p => [(0, .p (.sl (l.map dc))), (5, .p (i64 p.2)), (6, .p (i64 i)), (7, .p (.sl (W.map dc))), (8, .p (i64 p.1))]) (fun _ => []) (fun p => W.length - p.1) (1, m) _ (SLe.refl _ _) ⟨Nat.le_refl _, by dsimp only; omega, rfl⟩ ⟨rfl, rfl, rfl, rfl, rfl, trivial⟩ trivial fun ⟨k, m'⟩ hk t h => ?_
      obtain ⟨k1, k2, k3⟩ := hk
      simp only at k1 k2 k3
      (refine zw_s (yS (yP rfl (yP rfl (yP rfl (yP rfl (yT (zw_c rfl ?_))))))); refine bcase_split (fun h2 => ?_) (fun h2 => ?_) <;> try simp only [zB] at h2)
      · obtain ⟨b, hb⟩ := get_of (l := W) (i := k) (by omega)
        obtain ⟨a, ha⟩ := get_of (l := W) (i := k - 1) (by omega)
        have ma := List.mem_of_getElem? ha
        have mb := List.mem_of_getElem? hb
        rw [hW] at ma mb
        have ma := filter_mem ma
        have mb := filter_mem mb
        have ta := htm a ma
        have tb := htm b mb
        have oa := (hS a ma).2.2
        have ob := (hS b mb).2.1
        have hg := gaps_get W (k - 1) a b ha (by rw [show k - 1 + 1 = k by omega]; exact hb)
        (refine zw_k (zt_n (zw_s (zw_b (zw_d [] false [true, true, true, true, true, true, true, true, true, true, true, true, true, true, true] rfl (by kernel_rfl) (zp_q rfl (yD rfl (yD rfl (yD rfl (dq rfl (zqX zI ?_)))))))))); refine ⟨(dc b), (idx rfl hb), ?_⟩)
        (refine zkd (zst_p (yD rfl (yD rfl (yD rfl (yD rfl (dq rfl (zqA zI ?_))))))); refine And.intro ⟨by dsimp only; omega, by dsimp only; omega⟩ ?_)
        (refine zkd (zst_p (dq rfl (zqX zI ?_))); refine ⟨(dc a), (idx (show (k : Int) - 1 = ((k - 1 : Nat) : Int) by omega) ha), ?_⟩)
        (refine zkd (zst_p (yD rfl (yD rfl (dq rfl (zqA zI ?_))))); refine And.intro ⟨by omega, by omega⟩ ?_)
        ((refine zkd (zst_p (yD rfl (yD rfl (zd_0 (zr_s rfl (zr_s rfl (zr_s rfl (zr_s rfl (zr_s rfl (zr_s rfl (zr_s rfl (zr_s rfl (zr_s rfl ?_))))))))))))); refine zr_s rfl (zr_s rfl (zr_s rfl (zr_s rfl (zr_s rfl (zr_k rfl rfl (zr_q rfl (zb_n (zt_n (zw_o (yP rfl (yq rfl (zqA zI ?_))))))))))))); refine And.intro ⟨by dsimp only; omega, by dsimp only; omega⟩ ?_)
        (refine yk (yA rfl (yT (zaf_raw ?_))); refine ⟨(k + 1, max m' (b.from_ - a.till)), _, SLe.refl _ _, ?_⟩)
        exact ⟨⟨by dsimp only; omega, by dsimp only; omega, by dsimp only; rw [show k + 1 - 1 = k - 1 + 1 by omega, maxL_snoc hg, k3]⟩, by dsimp only; omega, ⟨rfl, rfl, rfl, rfl, rfl, trivial⟩, trivial⟩
      · (refine zw_x (zt_x (zt_x (zb_h (zb_n (zt_n (zw_o (yP rfl (yq rfl (zqA zI ?_))))))))); refine And.intro ⟨by omega, by omega⟩ ?_)
        (refine yk (yA rfl (yT (zaf_raw ?_))); refine ⟨(i + 1, m'), _, SLe.refl _ _, ?_⟩)
        exact ⟨⟨by dsimp only; omega, by dsimp only; rw [flat_succ hd, maxL_app, ← q2, k3, List.take_of_length_le (by rw [gl]; omega), hW]⟩, by dsimp only; omega, ⟨rfl, rfl, rfl, trivial⟩, trivial⟩
    · (refine zw_x (zt_x (zt_x (zb_h (zt_n (yS (yP rfl (yA rfl (yA rfl (yR zi ?_))))))))); refine And.intro ?_ trivial)
      have e1 : i = l.length := by omega
      rw [q2, e1, List.take_length]
      rfl
  · have e : longestF l = (0, doingsFault l) := by rw [longestF, if_neg h0]
    rw [e]
    (refine yS (yA rfl (yA rfl (yT (zw_s (yS (yP rfl (yn rfl (zqX zI ?_)))))))); refine ⟨_, _, hf, ?_⟩)
    (refine zkn rfl rfl (zst_p (yA rfl (yU (yP rfl (yP rfl (yT (zw_c rfl ?_))))))); refine bcase_split (fun h1 => ?_) (fun h1 => ?_) <;> try simp only [zB] at h1)
    · (refine yS (yP rfl (yA rfl (yA rfl (yT (zw_r (zt_r (ze_r zi ?_))))))); refine And.intro ?_ trivial)
      rfl
    · exact absurd (by simpa using h1) h0
theorem clone_calls (l : List Doing) (hN : l.length ≤ maxD) : ACalls C 17 [.pv (.sl (l.map dc))] (.own 35 (l.map dc)) [] := by
  refine fun_go hC Tryz.func17 rfl rfl 8 rfl (by decide) (by kernel_rfl) fun _ _ _ _ _ => ?_
  unfold maxD at hN
  cases l with
  | nil =>
    refine yS (yB rfl (yT (zw_s (yS (yP rfl (zo_n rfl (zs_nil rfl rfl ?_)))))))
    refine And.intro ?_ ?_
    · refine yT (zw_c rfl (zc_t (yS (yB rfl (yT (zw_r (zt_r (ze_r zi ?_))))))))
      exact ⟨rfl, trivial⟩
    · (refine yT (zw_c rfl (zc_f (zw_k (zt_n (yS (yn rfl (zq1 zI (zkns (zst_ow (yP rfl (yn rfl (zqA zI ?_)))))))))))); refine And.intro ⟨fun r hr => by simp at hr, by simp, by simp⟩ ?_)
      refine zkns (zst_e (zst_ow (zo_n rfl (zs_ar rfl rfl rfl rfl rfl (yR zi ?_)))))
      exact ⟨rfl, rfl, trivial⟩
  | cons x l =>
    ((refine yS (yB rfl (yT (zw_s (yS (yP rfl (yP rfl (yT (zw_c rfl (zc_f (zw_k (zt_n (yS (yn rfl ?_))))))))))))); refine zq1 zI (zkns (zst_ow (yP rfl (yn rfl (zqA zI ?_)))))); refine And.intro ⟨fun r hr => rows7 hr, by simp only [List.length_map, List.length_set, List.length_replicate, List.length_cons] at *; omega, by simp only [List.length_map, List.length_set, List.length_replicate, List.length_cons] at *; omega⟩ ?_)
    refine zkns (zst_e (zst_ow (zo_n rfl (zs_ar rfl rfl rfl rfl rfl (yR zi ?_)))))
    exact ⟨rfl, rfl, trivial⟩
/-- a panel, as a key -/
def kKey (lot : ByteArray) (panel : Int) : Value := .agg #[.string lot, .int .i64 panel]
theorem vEq0_symm (a b : Value) : vEq0 a b = vEq0 b a := by
  cases a <;> cases b <;> first | rfl | exact decide_eq_decide.2 ⟨Eq.symm, Eq.symm⟩
theorem vEqs_symm : ∀ a b : List Value, vEqs a b = vEqs b a
  | [], [] => rfl
  | [], _ :: _ => rfl
  | _ :: _, [] => rfl
  | x :: a, y :: b => by rw [vEqs, vEqs, vEq0_symm, vEqs_symm a b]
theorem vEq_symm (a b : Value) : vEq a b = vEq b a := by
  cases a <;> cases b <;> first | rfl | exact decide_eq_decide.2 ⟨Eq.symm, Eq.symm⟩ | exact vEqs_symm _ _
theorem vEq0_of {a b : Value} (h : vEq0 a b = true) (c : Value) : vEq0 c a = vEq0 c b := by
  cases a <;> cases b <;> simp [vEq0] at h <;> subst h <;> cases c <;> rfl
theorem vEqs_of : ∀ {a b : List Value}, vEqs a b = true → ∀ c, vEqs c a = vEqs c b
  | [], [], _, _ => rfl
  | [], _ :: _, h, _ => by cases h
  | _ :: _, [], h, _ => by cases h
  | x :: a, y :: b, h, c => by
    simp only [vEqs, Bool.and_eq_true] at h
    cases c with
    | nil => rfl
    | cons z c => rw [vEqs, vEqs, vEq0_of h.1, vEqs_of h.2]
theorem vEq_same {a b : Value} (h : vEq a b = true) (c : Value) : vEq c a = vEq c b := by
  cases a <;> cases b <;> simp [vEq] at h
  all_goals first
    | (subst h; cases c <;> rfl)
    | (cases c <;> first | rfl | exact vEqs_of h _)
theorem mget_mput' (v : PV) (k n : Value) : ∀ es : List (Value × PV), mget (mput es k v) n = if vEq n k = true then some v else mget es n
  | [] => by
    simp only [mput, mget]
    cases vEq n k <;> rfl
  | (k', u) :: r => by
    simp only [mput]
    cases h : vEq k k'
    · simp only [mget, mget_mput' v k n r]
      cases h2 : vEq n k'
      · rfl
      · cases h3 : vEq n k
        · rfl
        · have e1 := vEq_same h3 k'
          rw [vEq_symm k' n, h2, vEq_symm k' k, h] at e1
          cases e1
    · simp only [mget]
      rw [vEq_same h n]
      cases vEq n k' <;> rfl
theorem vEq_key (a b : ByteArray) (p q : Int) : vEq (kKey a p) (kKey b q) = (decide (a = b) && (decide (p = q) && true)) := rfl
theorem last_succ {S : List Doing} {i : Nat} {d : Doing} (hd : S[i]? = some d) (lot : ByteArray) (panel : Int) : lastTill (S.take (i + 1)) lot panel = if vEq (kKey lot panel) (kKey d.lot d.panel) = true then some d.till else lastTill (S.take i) lot panel := by
  unfold lastTill
  cases hk : sameK lot panel d with
  | true =>
    obtain ⟨rfl, rfl⟩ := sameK_eq hk
    rw [filter_more hd hk, vEq_key, if_pos (by simp), List.getLast?_concat]; rfl
  | false =>
    rw [filter_skip hd hk, vEq_key, if_neg]
    simp [sameK] at hk
    simp
    intro h1 h2
    exact hk h1.symm h2.symm
set_option maxRecDepth 100000 in
set_option maxHeartbeats 1000000 in
theorem house_Longest (l : List Doing) (hS : ∀ d ∈ l, DOK d) (hN : l.length ≤ 140737488355328) : ACalls C 6 [.pv (.sl (l.map dc))] (.tu [i64 (longestF l).1, i64 (longestF l).2]) [] := by
  refine fun_go hC Tryz.func6 rfl rfl 53 rfl (by decide) (by kernel_rfl) fun _ _ _ _ _ => ?_
  have hf := house_checkDoings l (fun d hd => (hS d hd).1) hN
  by_cases h0 : doingsFault l = 0
  · rw [h0] at hf
    have hlen := fault_len h0
    have htm := fault_times h0
    have e : longestF l = (maxL 0 (gapsTo (stab leD l) l.length), 0) := by rw [longestF, if_pos h0]
    rw [e]
    have hcl := clone_calls l hlen
    have hso := sortStable l hlen
    obtain ⟨S, hSt⟩ : ∃ S, S = stab leD l := ⟨_, rfl⟩
    have sl : S.length = l.length := by rw [hSt, Reg.stab_length]
    have sm : ∀ d ∈ S, d ∈ l := fun d hd => by rw [hSt] at hd; exact (Reg.stab_mem preD).1 hd
    rw [← hSt] at hso
    rw [← hSt]
    have lm := len_map S dc
    unfold maxD at hlen
    (refine yS (yA rfl (yA rfl (yT (zw_s (yS (yP rfl (yn rfl (zqX zI ?_)))))))); refine ⟨_, _, hf, ?_⟩)
    ((refine zkn rfl rfl (zst_p (yA rfl (yU (yP rfl (yP rfl (yT (zw_c rfl (zc_f (zw_k (zt_n (yS (yn rfl (zq1 zI ?_))))))))))))); refine zkns (zst_ow (zo_n rfl (zs_as rfl rfl rfl (zas_o rfl) (zst_ow (yU (yA rfl (yU (yP rfl (yn rfl (zqX zI ?_))))))))))); refine ⟨_, _, hcl, ?_⟩)
    (refine zkns (zst_ow (zo_n rfl (zs_ar rfl rfl rfl rfl rfl (yU (yq rfl (zq1 zI (zkq (zst_ow (yn rfl (zqX zI ?_)))))))))); refine ⟨_, _, hso, ?_⟩)
    refine zkn rfl rfl (zst_e (zst_tu (yT (zw_s (yS (yq rfl (zq1 zI (zkq (zst_ow (yP rfl (yP rfl (yT (zw_b ?_)))))))))))))
    refine loop_ok' (fun p : Nat × Int × List (Value × PV) => p.1 ≤ S.length ∧ p.2.1 = maxL 0 (gapsTo S p.1) ∧ (∀ lot panel, mget p.2.2 (kKey lot panel) = (lastTill (S.take p.1) lot panel).map i64)) (fun p => [(5, .ow 18), (6, .p (i64 p.2.1)), (23, .p (.sl (S.map dc))), (24, .p (i64 S.length)), (25, .p (i64 p.1))]) (fun p => [(18, .map (.st [0, 1]) p.2.2)]) (fun p => S.length - p.1) (0, 0, []) _ (SLe.own (by exact hC) _ 23 (by exact rfl) (by exact rfl)) ⟨Nat.zero_le _, rfl, fun lot panel => rfl⟩ ⟨rfl, rfl, rfl, congrArg (fun n : Nat => AV.p (i64 n)) lm, rfl, trivial⟩ ⟨rfl, trivial⟩ fun ⟨i, m, es⟩ hi t h => ?_
    obtain ⟨q1, q2, q3⟩ := hi
    simp only at q1 q2 q3
    (refine yS (yP rfl (yT (zw_s (zw_c rfl ?_)))); refine bcase_split (fun h1 => ?_) (fun h1 => ?_) <;> try simp only [zB] at h1)
    · obtain ⟨d, hd⟩ := get_of (l := S) (i := i) (by omega)
      have td := htm d (sm d (List.mem_of_getElem? hd))
      have od := (hS d (sm d (List.mem_of_getElem? hd))).2
      have q := q3 d.lot d.panel
      have next : ∀ lot panel, mget (mput es (kKey d.lot d.panel) (i64 d.till)) (kKey lot panel) = (lastTill (S.take (i + 1)) lot panel).map i64 := fun lot panel => by
        rw [mget_mput', last_succ hd, q3 lot panel]
        split <;> rfl
      (refine zw_k (zt_n (zw_s (zw_b (yS (yq rfl (zqX zI ?_)))))); refine ⟨(dc d), (idx rfl hd), ?_⟩)
      cases hq : lastTill (S.take i) d.lot d.panel with
      | none =>
        have hg : gapAt S i = [] := by unfold gapAt; rw [hd]; simp only [hq]
        rw [hq] at q
        ((refine yk (yP rfl (yn rfl (zq1 zI (zkns (zst_bx (yq rfl (zq1 zI (zkq (zst_e (zst_0 (yU (yV rfl (yP rfl ?_))))))))))))); refine yV rfl (yP rfl (yP rfl (yn rfl (zq1 zI (zkns (zst_bx (yq rfl (zq1 zI (zkq (zst_e (zst_0 (yT (zw_s ?_))))))))))))); refine yS (yq rfl (zq1 zI (zkq (zst_ow (yP rfl (yq rfl (zqX zI ?_)))))))); refine ⟨none, q, ?_⟩)
        ((refine zkq (zst_tu (yq rfl (zq1 zI (zkq (zst_tu (yP rfl (yP rfl (yA rfl (yA rfl (yU (yP rfl (yT (zw_c rfl ?_))))))))))))); refine zc_f (zw_k (zt_n (zw_o (yq rfl (zq1 zI (zkq (zst_ow (yP rfl (yV rfl (yP rfl (yq rfl (zq1 zI (zkq ?_))))))))))))); refine zst_e (zst_0 (zo_0 (zb_n (zt_n (zw_o (yq rfl (zqA zI ?_)))))))); refine And.intro ⟨by dsimp only; omega, by dsimp only; omega⟩ ?_)
        (refine yk (yP rfl (yT (zaf_raw ?_))); refine ⟨(i + 1, m, mput es (kKey d.lot d.panel) (i64 d.till)), _, SLe.refl _ _, ?_⟩)
        exact ⟨⟨by dsimp only; omega, by dsimp only; rw [gapsTo, hg, List.append_nil, q2], next⟩, by dsimp only; omega, ⟨rfl, rfl, rfl, rfl, rfl, trivial⟩, ⟨rfl, trivial⟩⟩
      | some u =>
        have hg : gapAt S i = [d.from_ - u] := by unfold gapAt; rw [hd]; simp only [hq]
        have hu : 0 ≤ u ∧ u ≤ 9223372036854775807 := by
          unfold lastTill at hq
          obtain ⟨y, hy, rfl⟩ := Option.map_eq_some_iff.1 hq
          have my := sm y (List.mem_of_mem_take (List.mem_filter.1 (List.mem_of_getLast? hy)).1)
          exact ⟨(htm y my).2, (hS y my).2.2⟩
        rw [hq] at q
        ((refine yk (yP rfl (yn rfl (zq1 zI (zkns (zst_bx (yq rfl (zq1 zI (zkq (zst_e (zst_0 (yU (yV rfl (yP rfl ?_))))))))))))); refine yV rfl (yP rfl (yP rfl (yn rfl (zq1 zI (zkns (zst_bx (yq rfl (zq1 zI (zkq (zst_e (zst_0 (yT (zw_s ?_))))))))))))); refine yS (yq rfl (zq1 zI (zkq (zst_ow (yP rfl (yq rfl (zqX zI ?_)))))))); refine ⟨(some (i64 u)), q, ?_⟩)
        ((refine zkq (zst_tu (yq rfl (zq1 zI (zkq (zst_tu (yP rfl (yP rfl (yA rfl (yA rfl (yU (yP rfl (yT (zw_c rfl ?_))))))))))))); refine zc_t (zw_o (yP rfl (yV rfl (yP rfl (yP rfl (yq rfl (zqA zI ?_)))))))); refine And.intro ⟨by omega, by omega⟩ ?_)
        ((refine yk (yP rfl (yA rfl (yT (zw_o (yq rfl (zq1 zI (zkq (zst_ow (yP rfl (yV rfl (yP rfl (yq rfl (zq1 zI ?_))))))))))))); refine zkq (zst_e (zst_0 (zo_0 (zb_n (zt_n (zw_o (yq rfl (zqA zI ?_))))))))); refine And.intro ⟨by dsimp only; omega, by dsimp only; omega⟩ ?_)
        (refine yk (yP rfl (yT (zaf_raw ?_))); refine ⟨(i + 1, max m (d.from_ - u), mput es (kKey d.lot d.panel) (i64 d.till)), _, SLe.refl _ _, ?_⟩)
        exact ⟨⟨by dsimp only; omega, by dsimp only; rw [gapsTo, hg, maxL_app, q2]; rfl, next⟩, by dsimp only; omega, ⟨rfl, rfl, rfl, rfl, rfl, trivial⟩, ⟨rfl, trivial⟩⟩
    · (refine zw_x (zt_x (zt_x (zb_h (zt_n (yS (yP rfl (yA rfl (yA rfl (yR zi ?_))))))))); refine And.intro ?_ trivial)
      have e1 : i = l.length := by omega
      rw [q2, e1]
      rfl
  · have e : longestF l = (0, doingsFault l) := by rw [longestF, if_neg h0]
    rw [e]
    (refine yS (yA rfl (yA rfl (yT (zw_s (yS (yP rfl (yn rfl (zqX zI ?_)))))))); refine ⟨_, _, hf, ?_⟩)
    (refine zkn rfl rfl (zst_p (yA rfl (yU (yP rfl (yP rfl (yT (zw_c rfl ?_))))))); refine bcase_split (fun h1 => ?_) (fun h1 => ?_) <;> try simp only [zB] at h1)
    · (refine yS (yP rfl (yA rfl (yA rfl (yT (zw_r (zt_r (ze_r zi ?_))))))); refine And.intro ?_ trivial)
      rfl
    · exact absurd (by simpa using h1) h0
end Go.Proofs.YtngikpapepnkaaaGreatDoor.M
