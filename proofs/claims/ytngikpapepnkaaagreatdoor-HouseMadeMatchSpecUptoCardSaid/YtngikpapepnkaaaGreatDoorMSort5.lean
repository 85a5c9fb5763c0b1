/- By the machine: slices.SortStableFunc at doings. -/
import Derived.Test.YtngikpapepnkaaaGreatDoorMSort4
set_option linter.unusedSimpArgs false
set_option linter.unusedVariables false
namespace Go.Proofs.YtngikpapepnkaaaGreatDoor.M
open Go.AM Go.RowKit
open Reg (stab SortedL SameKinds)

/-- sorted, block by block, from `lo` to `hi` -/
def Blk (w lo hi : Nat) (d : List Doing) : Prop := ∀ i j u v, lo ≤ i → i < j → j < hi → i / w = j / w → d[i]? = some u → d[j]? = some v → leD u v = true
theorem get_mid {A S D : List Doing} {q : Nat} (h1 : A.length ≤ q) (h2 : q < A.length + S.length) : (A ++ (S ++ D))[q]? = S[q - A.length]? := by
  rw [List.getElem?_append_right h1, List.getElem?_append_left (by omega)]
theorem get_end {A S D : List Doing} {q : Nat} (h2 : A.length + S.length ≤ q) : (A ++ (S ++ D))[q]? = D[q - A.length - S.length]? := by
  rw [List.getElem?_append_right (by omega), List.getElem?_append_right (by omega)]
theorem sorted_get {S : List Doing} (hs : SortedL leD S) {i j : Nat} {u v : Doing} (h : i < j) (hu : S[i]? = some u) (hv : S[j]? = some v) : leD u v = true := by
  have hi := Reg.lt_of_getS hu
  have hj := Reg.lt_of_getS hv
  have := List.pairwise_iff_getElem.1 hs i j hi hj h
  rw [List.getElem?_eq_getElem hi] at hu
  rw [List.getElem?_eq_getElem hj] at hv
  injection hu with hu
  injection hv with hv
  rw [← hu, ← hv]; exact this
theorem blk_put {w k : Nat} {A S S' D : List Doing} (hw : 0 < w) (hb : Blk w 0 A.length (A ++ (S ++ D))) (hA : A.length = w * k) (hl : S'.length = S.length) (hS : S.length ≤ w) (hs : SortedL leD S') : Blk w 0 (A.length + S.length) (A ++ (S' ++ D)) := by
  intro i j u v _ hij hj he hu hv
  by_cases h1 : j < A.length
  · refine hb i j u v (Nat.zero_le _) hij h1 he ?_ ?_
    · rw [List.getElem?_append_left (by omega)] at hu ⊢; exact hu
    · rw [List.getElem?_append_left (by omega)] at hv ⊢; exact hv
  · by_cases h2 : i < A.length
    · exfalso
      have e1 : i / w < k := (Nat.div_lt_iff_lt_mul hw).2 (by rw [Nat.mul_comm]; omega)
      have e2 : k ≤ j / w := (Nat.le_div_iff_mul_le hw).2 (by rw [Nat.mul_comm]; omega)
      omega
    · rw [get_mid (by omega) (by omega)] at hu hv
      exact sorted_get hs (by omega) hu hv
theorem blk_rest {w hi : Nat} {A S S' D : List Doing} (hb : Blk w A.length hi (A ++ (S ++ D))) (hl : S'.length = S.length) : Blk w (A.length + S.length) hi (A ++ (S' ++ D)) := by
  intro i j u v h0 hij hj he hu hv
  refine hb i j u v (by omega) hij hj he ?_ ?_
  · rw [get_end (by omega)] at hu ⊢; rw [hl] at hu; exact hu
  · rw [get_end (by omega)] at hv ⊢; rw [hl] at hv; exact hv
theorem blk_seg {w k lo hi : Nat} {A S D : List Doing} (hw : 0 < w) (hb : Blk w lo hi (A ++ (S ++ D))) (hA : A.length = w * k) (hlo : lo ≤ A.length) (hhi : A.length + S.length ≤ hi) (hS : S.length ≤ w) : SortedL leD S := by
  refine List.pairwise_iff_getElem.2 fun i j hi' hj' hij => ?_
  refine hb (A.length + i) (A.length + j) S[i] S[j] (by omega) (by omega) (by omega) ?_ ?_ ?_
  · rw [hA, Nat.mul_add_div hw, Nat.mul_add_div hw, Nat.div_eq_of_lt (by omega), Nat.div_eq_of_lt (by omega)]
  · rw [get_mid (by omega) (by omega), Nat.add_sub_cancel_left, List.getElem?_eq_getElem]
  · rw [get_mid (by omega) (by omega), Nat.add_sub_cancel_left, List.getElem?_eq_getElem]
theorem kinds_put {l A S S' D : List Doing} (h : SameKinds leD l (A ++ (S ++ D))) (hs : SameKinds leD S S') : SameKinds leD l (A ++ (S' ++ D)) :=
  h.trans (SameKinds.app (SameKinds.refl A) (SameKinds.app hs (SameKinds.refl D)))
theorem parts3 (d : List Doing) (a n : Nat) : d = d.take a ++ ((d.drop a).take n ++ d.drop (a + n)) := by
  rw [← List.drop_drop, List.take_append_drop, List.take_append_drop]
theorem blk_up {w lo hi lo' hi' : Nat} {d : List Doing} (h : Blk w lo hi d) (h1 : lo ≤ lo') (h2 : hi' ≤ hi) : Blk w lo' hi' d := fun i j u v h0 hij hj => h i j u v (by omega) hij (by omega)
theorem blk_wide {w k hi : Nat} {d : List Doing} (hb : Blk (2 * w) 0 (2 * w * k) d) (hr : Blk w (2 * w * k) hi d) (hw : 0 < w) (hhi : hi ≤ 2 * w * k + w) : Blk (2 * w) 0 hi d := by
  intro i j u v _ hij hj he hu hv
  by_cases h1 : j < 2 * w * k
  · exact hb i j u v (Nat.zero_le _) hij h1 he hu hv
  · by_cases h2 : i < 2 * w * k
    · exfalso
      have e1 : i / (2 * w) < k := (Nat.div_lt_iff_lt_mul (by omega)).2 (by rw [Nat.mul_comm]; omega)
      have e2 : k ≤ j / (2 * w) := (Nat.le_div_iff_mul_le (by omega)).2 (by rw [Nat.mul_comm]; omega)
      omega
    · refine hr i j u v (by omega) hij hj ?_ hu hv
      have e : 2 * w * k = w * (2 * k) := by rw [Nat.mul_comm 2 w, Nat.mul_assoc]
      have f : ∀ q, 2 * w * k ≤ q → q < hi → q / w = 2 * k := fun q h3 h4 => by
        have : q = w * (2 * k) + (q - 2 * w * k) := by omega
        rw [this, Nat.mul_add_div hw, Nat.div_eq_of_lt (by omega)]; rfl
      rw [f i (by omega) (by omega), f j (by omega) hj]
set_option maxRecDepth 100000 in
set_option maxHeartbeats 2000000 in
theorem stableCmp (l : List Doing) (hN : l.length ≤ maxD) : ACalls C 29 [.row 35 (l.map dc), .pv (i64 l.length), .pv cmpF] (.tu []) [.row ((stab leD l).map dc)] := by
  refine fun_go hC Tryz.func29 rfl rfl 63 rfl (by decide) (by kernel_rfl) fun _ _ _ _ _ => ?_
  have hN' := hN
  unfold maxD at hN
  refine yS (yA rfl (yU (yP rfl (yA rfl (yA rfl (yT (zw_s (zw_b ?_))))))))
  refine loop_ok' (fun p : Nat × List Doing => 20 * p.1 ≤ l.length ∧ SameKinds leD l p.2 ∧ p.2.length = l.length ∧ Blk 20 0 (20 * p.1) p.2) (fun p => [(0, .ow 100000), (1, .p (i64 l.length)), (2, .p cmpF), (6, .p (i64 20)), (7, .p (i64 (20 * (p.1 : Int)))), (8, .p (i64 (20 * (p.1 : Int) + 20)))]) (fun p => [(100000, .row 35 (p.2.map dc))]) (fun p => l.length - 20 * p.1) (0, l) _ (SLe.refl _ _) ⟨Nat.zero_le _, SameKinds.refl _, rfl, fun i j u v _ _ h => by omega⟩ ⟨rfl, rfl, rfl, rfl, rfl, rfl, trivial⟩ ⟨rfl, trivial⟩ fun ⟨k, d⟩ hi t h => ?_
  obtain ⟨q1, q2, q3, q4⟩ := hi
  simp only at q1 q2 q3 q4
  (refine zw_s (yS (yP rfl (yP rfl (yP rfl (yT (zw_c rfl ?_)))))); refine bcase_split (fun h1 => ?_) (fun h1 => ?_) <;> try simp only [zB] at h1)
  · have e0 := parts3 d (20 * k) 20
    generalize hA : d.take (20 * k) = A at e0
    generalize hS : (d.drop (20 * k)).take 20 = S at e0
    generalize hD : d.drop (20 * k + 20) = D at e0
    have nA : A.length = 20 * k := by rw [← hA, List.length_take]; omega
    have nS : S.length = 20 := by rw [← hS, List.length_take, List.length_drop]; omega
    subst e0
    (refine zw_k (zt_n (zw_b (yS (yq rfl (zq1 zI (zkq (zst_ow (yP rfl (yP rfl (yP rfl (yn rfl (zqX zI ?_)))))))))))); refine ⟨_, _, (insertionSort A S D _ _ rfl rfl (20 * (k : Int)) (20 * (k : Int) + 20) (by omega) (by omega) (by rw [q3]; exact hN')), ?_⟩)
    (refine zkn rfl rfl (zst_e (zst_tu (yU (yP rfl (yA rfl (yT (zw_o (yP rfl (yP rfl (yq rfl (zqA zI ?_))))))))))); refine And.intro ⟨by dsimp only; omega, by dsimp only; omega⟩ ?_)
    (refine yk (yA rfl (zo_0 (zb_n (zt_n (zaf_raw ?_))))); refine ⟨(k + 1, A ++ (stab leD S ++ D)), _, SLe.refl _ _, ?_⟩)
    refine ⟨⟨by dsimp only; omega, kinds_put q2 (Reg.stab_facts preD S).2, ?_, ?_⟩, by dsimp only; omega, ⟨rfl, rfl, rfl, rfl, av_int (by dsimp only; omega), av_int (by dsimp only; omega), trivial⟩, ⟨rfl, trivial⟩⟩
    · dsimp only
      rw [← q3]; simp only [List.length_append, Reg.stab_length]
    · have := blk_put (k := k) (by decide) (by rw [nA]; exact q4) nA (Reg.stab_length S) (by omega) (Reg.stab_facts preD S).1
      rw [nA, nS] at this
      exact this
  · have e0 : d = d.take (20 * k) ++ (d.drop (20 * k) ++ []) := by rw [List.append_nil, List.take_append_drop]
    generalize hA : d.take (20 * k) = A at e0
    generalize hS : d.drop (20 * k) = S at e0
    have nA : A.length = 20 * k := by rw [← hA, List.length_take]; omega
    have nS : S.length = l.length - 20 * k := by rw [← hS, List.length_drop, q3]
    subst e0
    ((refine zw_x (zt_x (zt_x (zb_h (zt_n (yS (yq rfl (zq1 zI (zkq (zst_ow (yP rfl (yP rfl (yP rfl (yn rfl ?_))))))))))))); refine zqX zI ?_); refine ⟨_, _, (insertionSort A S [] _ _ rfl rfl (20 * (k : Int)) l.length (by omega) (by omega) (by rw [q3]; exact hN')), ?_⟩)
    have b0 := blk_put (k := k) (by decide) (by rw [nA]; exact q4) nA (Reg.stab_length S) (by omega) (Reg.stab_facts preD S).1
    have c0 := kinds_put q2 (Reg.stab_facts preD S).2
    have z0 : (A ++ (stab leD S ++ [])).length = l.length := by rw [← q3]; simp only [List.length_append, Reg.stab_length]
    rw [nA, nS, show 20 * k + (l.length - 20 * k) = l.length by omega] at b0
    generalize A ++ (stab leD S ++ []) = d0 at b0 c0 z0
    refine zkn rfl rfl (zst_e (zst_tu (yT (zw_b ?_))))
    refine loop_ok' (fun p : Nat × List Doing => 20 ≤ p.1 ∧ SameKinds leD l p.2 ∧ p.2.length = l.length ∧ Blk p.1 0 l.length p.2) (fun p => [(0, .ow 100000), (1, .p (i64 l.length)), (2, .p cmpF), (6, .p (i64 p.1))]) (fun p => [(100000, .row 35 (p.2.map dc))]) (fun p => l.length - p.1) (20, d0) _ (SLe.refl _ _) ⟨Nat.le_refl _, c0, z0, b0⟩ ⟨rfl, rfl, rfl, rfl, trivial⟩ ⟨rfl, trivial⟩ fun ⟨w, d⟩ hi t h => ?_
    obtain ⟨w1, w2, w3, w4⟩ := hi
    simp only at w1 w2 w3 w4
    (refine zw_s (yS (yP rfl (yP rfl (yP rfl (yT (zw_c rfl ?_)))))); refine bcase_split (fun h2 => ?_) (fun h2 => ?_) <;> try simp only [zB] at h2)
    · (refine zw_k (zt_n (zw_b (yS (yP rfl (yq rfl (zqA zI ?_)))))); refine And.intro ⟨by dsimp only; omega, by dsimp only; omega⟩ ?_)
      refine yk (yA rfl (yA rfl (yT (zw_s (zw_b ?_)))))
      refine loop_ok' (fun p : Nat × Nat × List Doing => p.2.1 = 2 * w * p.1 ∧ p.2.1 ≤ l.length ∧ SameKinds leD l p.2.2 ∧ p.2.2.length = l.length ∧ Blk (2 * w) 0 p.2.1 p.2.2 ∧ Blk w p.2.1 l.length p.2.2) (fun p => [(0, .ow 100000), (1, .p (i64 l.length)), (2, .p cmpF), (6, .p (i64 w)), (7, .p (i64 p.2.1)), (8, .p (i64 ((p.2.1 : Int) + 2 * w)))]) (fun p => [(100000, .row 35 (p.2.2.map dc))]) (fun p => l.length - p.2.1) (0, 0, d) _ (SLe.refl _ _) ⟨rfl, Nat.zero_le _, w2, w3, fun i j u v _ _ h => by dsimp only at h; omega, w4⟩ ⟨rfl, rfl, rfl, rfl, rfl, av_int (by dsimp only; omega), trivial⟩ ⟨rfl, trivial⟩ fun ⟨k, P, d⟩ hi t h => ?_
      obtain ⟨hP, p1, p2, p3, p4, p5⟩ := hi
      simp only at hP p1 p2 p3 p4 p5
      have hP2 : P = w * (2 * k) := by rw [hP, Nat.mul_comm 2 w, Nat.mul_assoc]
      (refine zw_s (yS (yP rfl (yP rfl (yP rfl (yT (zw_c rfl ?_)))))); refine bcase_split (fun h3 => ?_) (fun h3 => ?_) <;> try simp only [zB] at h3)
      · have e0 := parts3 d P w
        have e1 := parts3 (d.drop (P + w)) 0 w
        rw [List.take_zero, List.nil_append, List.drop_zero, Nat.zero_add, List.drop_drop] at e1
        rw [e1] at e0
        generalize hA : d.take P = A at e0
        generalize hS : (d.drop P).take w = S at e0
        generalize hT : (d.drop (P + w)).take w = T at e0
        generalize hD : d.drop (P + w + w) = D at e0
        have nA : A.length = P := by rw [← hA, List.length_take]; omega
        have nS : S.length = w := by rw [← hS, List.length_take, List.length_drop]; omega
        have nT : T.length = w := by rw [← hT, List.length_take, List.length_drop]; omega
        subst e0
        have sS : SortedL leD S := blk_seg (k := 2 * k) (by omega) p5 (by omega) (by omega) (by omega) (by omega)
        have sT : SortedL leD T := blk_seg (w := w) (lo := P) (hi := l.length) (A := A ++ S) (D := D) (k := 2 * k + 1) (by omega) (by rw [List.append_assoc]; exact p5) (by rw [List.length_append, nA, nS, Nat.mul_succ]; omega) (by rw [List.length_append]; omega) (by rw [List.length_append]; omega) (by omega)
        (refine zw_k (zt_n (zw_b (yS (yq rfl (zq1 zI (zkq (zst_ow (yP rfl (yP rfl (yP rfl (yq rfl (zqA zI ?_)))))))))))); refine And.intro ⟨by first | omega | (dsimp only; omega), by first | omega | (dsimp only; omega)⟩ ?_)
        (refine yk (yP rfl (yP rfl (yn rfl (zqX zI ?_)))); refine ⟨_, _, (symMerge _ A S T D _ _ (Nat.le_refl _) rfl rfl sS sT (by omega) (by omega) P ((P : Int) + w) ((P : Int) + 2 * w) (by omega) (by omega) (by omega) (by rw [p3]; exact hN')), ?_⟩)
        (refine zkn rfl rfl (zst_e (zst_tu (yU (yP rfl (yA rfl (yT (zw_o (yP rfl (yP rfl (yq rfl (zqA zI ?_))))))))))); refine And.intro ⟨by first | omega | (dsimp only; omega), by first | omega | (dsimp only; omega)⟩ ?_)
        (refine yk (yq rfl (zqA zI ?_)); refine And.intro ⟨by first | omega | (dsimp only; omega), by first | omega | (dsimp only; omega)⟩ ?_)
        (refine yk (yA rfl (zo_0 (zb_n (zt_n (zaf_raw ?_))))); refine ⟨(k + 1, P + 2 * w, A ++ (stab leD (S ++ T) ++ D)), _, SLe.refl _ _, ?_⟩)
        refine ⟨⟨by dsimp only; rw [hP, Nat.mul_succ], by dsimp only; omega, kinds_put (by rw [List.append_assoc]; exact p2) (Reg.stab_facts preD (S ++ T)).2, ?_, ?_, ?_⟩, by dsimp only; omega, ⟨rfl, rfl, rfl, rfl, av_int (by dsimp only; omega), av_int (by dsimp only; omega), trivial⟩, ⟨rfl, trivial⟩⟩
        · dsimp only
          rw [← p3]; simp only [List.length_append, Reg.stab_length]; omega
        · have := blk_put (k := k) (w := 2 * w) (A := A) (S := S ++ T) (S' := stab leD (S ++ T)) (D := D) (by omega) (by rw [nA, List.append_assoc]; exact p4) (by rw [nA]; exact hP) (Reg.stab_length _) (by rw [List.length_append]; omega) (Reg.stab_facts preD (S ++ T)).1
          rw [nA, List.length_append, nS, nT, ← Nat.two_mul] at this
          exact this
        · have := blk_rest (w := w) (hi := l.length) (A := A) (S := S ++ T) (S' := stab leD (S ++ T)) (D := D) (by rw [nA, List.append_assoc]; exact p5) (Reg.stab_length _)
          rw [nA, List.length_append, nS, nT, ← Nat.two_mul] at this
          exact this
      · (refine zw_x (zt_x (zt_x (zb_h (zt_n (zw_s (yS (yP rfl (yP rfl (yq rfl (zqA zI ?_)))))))))); refine And.intro ⟨by dsimp only; omega, by dsimp only; omega⟩ ?_)
        (refine yk (yA rfl (yU (yP rfl (yP rfl (yP rfl (yT (zw_c rfl ?_))))))); refine bcase_split (fun h4 => ?_) (fun h4 => ?_) <;> try simp only [zB] at h4)
        · have e0 := parts3 d P w
          generalize hA : d.take P = A at e0
          generalize hS : (d.drop P).take w = S at e0
          generalize hT : d.drop (P + w) = T at e0
          rw [← List.append_nil T] at e0
          have nA : A.length = P := by rw [← hA, List.length_take]; omega
          have nS : S.length = w := by rw [← hS, List.length_take, List.length_drop]; omega
          have nT : T.length = l.length - (P + w) := by rw [← hT, List.length_drop, p3]
          subst e0
          have sS : SortedL leD S := blk_seg (k := 2 * k) (by omega) p5 (by omega) (by omega) (by omega) (by omega)
          have sT : SortedL leD T := blk_seg (w := w) (lo := P) (hi := l.length) (A := A ++ S) (D := []) (k := 2 * k + 1) (by omega) (by rw [List.append_assoc]; exact p5) (by rw [List.length_append, nA, nS, Nat.mul_succ]; omega) (by rw [List.length_append]; omega) (by rw [List.length_append]; omega) (by omega)
          (refine zw_o (yq rfl (zq1 zI (zkq (zst_ow (yP rfl (yP rfl (yP rfl (yP rfl (yn rfl (zqX zI ?_)))))))))); refine ⟨_, _, (symMerge _ A S T [] _ _ (Nat.le_refl _) rfl rfl sS sT (by omega) (by omega) P ((P : Int) + w) l.length (by omega) (by omega) (by omega) (by rw [p3]; exact hN')), ?_⟩)
          (refine zkn rfl rfl (zst_e (zst_tu (yT (zw_o (yP rfl (yq rfl (zqA zI ?_))))))); refine And.intro ⟨by first | omega | (dsimp only; omega), by first | omega | (dsimp only; omega)⟩ ?_)
          (refine yk (yA rfl (zo_0 (zb_n (zt_n (zaf_raw ?_))))); refine ⟨(2 * w, A ++ (stab leD (S ++ T) ++ [])), _, SLe.refl _ _, ?_⟩)
          refine ⟨⟨by dsimp only; omega, kinds_put (by rw [List.append_assoc]; exact p2) (Reg.stab_facts preD (S ++ T)).2, ?_, ?_⟩, by dsimp only; omega, ⟨rfl, rfl, rfl, av_int (by dsimp only; omega), trivial⟩, ⟨rfl, trivial⟩⟩
          · dsimp only
            rw [← p3]; simp only [List.length_append, Reg.stab_length]; omega
          · have := blk_put (k := k) (w := 2 * w) (A := A) (S := S ++ T) (S' := stab leD (S ++ T)) (D := []) (by omega) (by rw [nA, List.append_assoc]; exact p4) (by rw [nA]; exact hP) (Reg.stab_length _) (by rw [List.length_append]; omega) (Reg.stab_facts preD (S ++ T)).1
            exact blk_up this (Nat.le_refl _) (by rw [List.length_append]; omega)
        · (refine zw_k (zt_n (zw_o (yP rfl (yq rfl (zqA zI ?_))))); refine And.intro ⟨by first | omega | (dsimp only; omega), by first | omega | (dsimp only; omega)⟩ ?_)
          (refine yk (yA rfl (zo_0 (zb_n (zt_n (zaf_raw ?_))))); refine ⟨(2 * w, d), _, SLe.refl _ _, ?_⟩)
          exact ⟨⟨by dsimp only; omega, p2, p3, blk_wide (k := k) (by rw [← hP]; exact p4) (by rw [← hP]; exact p5) (by omega) (by omega)⟩, by dsimp only; omega, ⟨rfl, rfl, rfl, av_int (by dsimp only; omega), trivial⟩, ⟨rfl, trivial⟩⟩
    · refine zw_x (zt_x (zt_x (zb_h (ze_n zi ?_))))
      refine And.intro rfl ⟨rows_eq ?_, trivial⟩
      refine (Reg.stab_eq preD ?_ w2).symm
      refine List.pairwise_iff_getElem.2 fun i j hi hj hij => ?_
      exact w4 i j _ _ (Nat.zero_le _) hij (by omega) (by rw [Nat.div_eq_of_lt (by omega), Nat.div_eq_of_lt (by omega)]) (List.getElem?_eq_getElem hi) (List.getElem?_eq_getElem hj)
theorem sortStable (l : List Doing) (hN : l.length ≤ maxD) : ACalls C 18 [.row 35 (l.map dc), .pv cmpF] (.tu []) [.row ((stab leD l).map dc)] := by
  refine fun_go hC Tryz.func18 rfl rfl 9 rfl (by decide) (by kernel_rfl) fun _ _ _ _ _ => ?_
  have h := stableCmp l hN
  rw [← len_map l dc] at h
  (refine zw_o (yq rfl (zq1 zI (zkq (zst_ow (yq rfl (zq1 zI (zkq (zst_ow (yP rfl (yP rfl (yn rfl (zqX zI ?_)))))))))))); refine ⟨_, _, h, ?_⟩)
  refine zkn rfl rfl (zst_e (zst_tu (zo_0 (ze_n zi ?_))))
  exact And.intro rfl ⟨rfl, trivial⟩
end Go.Proofs.YtngikpapepnkaaaGreatDoor.M
