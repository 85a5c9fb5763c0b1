/- By the machine: stable sorting, ranges swapped and turned. -/
import Derived.Test.YtngikpapepnkaaaGreatDoorMShop2
set_option linter.unusedSimpArgs false
set_option linter.unusedVariables false
namespace Go.Proofs.YtngikpapepnkaaaGreatDoor.M
open Go.AM Go.RowKit

/-- the comparison, as it is handed over -/
def cmpF : PV := .im (.func (.func 19) #[] #[])
def maxD : Nat := 3600000
theorem get_set {d : List Doing} {x y : Doing} {i j : Int} {k m : Nat} (hi : i = (k : Int)) (hj : j = (m : Int)) (hne : k ≠ m) (h : d[m]? = some y) : ((d.map dc).set i.toNat (dc x))[j.toNat]? = some (dc y) := by
  subst hi hj
  rw [Int.toNat_natCast, Int.toNat_natCast, List.getElem?_set_ne hne]
  exact map_get dc h
/-- two cells changed, by content -/
theorem rows_set2 {d : List Doing} {x y : Doing} {e : TypeId} {i j : Int} {k m : Nat} (hi : i = (k : Int)) (hj : j = (m : Int)) : AB.row e (((d.map dc).set i.toNat (dc x)).set j.toNat (dc y)) = AB.row e (((d.set k x).set m y).map dc) := by
  subst hi hj
  rw [Int.toNat_natCast, Int.toNat_natCast, List.map_set, List.map_set]
theorem rows_eq {d r : List Doing} {e : TypeId} (h : d = r) : AB.row e (d.map dc) = AB.row e (r.map dc) := by rw [h]
theorem take_drop_eq {α : Type} {l : List α} {i : Nat} {x : α} (h : l[i]? = some x) : l.drop i = x :: l.drop (i + 1) := by
  have hi := Reg.lt_of_getS h
  rw [List.getElem?_eq_getElem hi] at h
  injection h with h
  rw [← h, List.drop_eq_getElem_cons hi]
set_option maxRecDepth 100000 in
theorem swapRange (A U B V D l r : List Doing) (n : Nat) (hU : U.length = n) (hV : V.length = n) (hl : l = A ++ (U ++ (B ++ (V ++ D)))) (hr : r = A ++ (V ++ (B ++ (U ++ D)))) (a b : Int) (ha : a = A.length) (hb : b = (A.length : Int) + n + B.length) (hN : l.length ≤ maxD) :
    ACalls C 64 [.row 35 (l.map dc), .pv (i64 a), .pv (i64 b), .pv (i64 n), .pv cmpF] (.tu []) [.row (r.map dc)] := by
  refine fun_go hC Tryz.func64 rfl rfl 38 rfl (by decide) (by kernel_rfl) fun _ _ _ _ _ => ?_
  have hlen : l.length = A.length + n + B.length + n + D.length := by rw [hl]; simp only [List.length_append]; omega
  unfold maxD at hN
  refine yS (yA rfl (yT (zw_b ?_)))
  refine loop_ok' (fun p : Nat × List Doing => p.1 ≤ n ∧ p.2 = A ++ ((V.take p.1 ++ U.drop p.1) ++ (B ++ ((U.take p.1 ++ V.drop p.1) ++ D)))) (fun p => [(0, .ow 100000), (1, .p (i64 a)), (2, .p (i64 b)), (3, .p (i64 n)), (10, .p (i64 p.1))]) (fun p => [(100000, .row 35 (p.2.map dc))]) (fun p => n - p.1) (0, l) _ (SLe.refl _ _) ⟨Nat.zero_le _, hl⟩ ⟨rfl, rfl, rfl, rfl, rfl, trivial⟩ ⟨rfl, trivial⟩ fun ⟨i, d⟩ hi t h => ?_
  obtain ⟨hi, hd⟩ := hi
  simp only at hi hd
  (refine zw_s (yS (yP rfl (yP rfl (yP rfl (yT (zw_c rfl ?_)))))); refine bcase_split (fun h1 => ?_) (fun h1 => ?_) <;> try simp only [zB] at h1)
  · obtain ⟨u, hu⟩ := get_of (l := U) (i := i) (by omega)
    obtain ⟨v, hv⟩ := get_of (l := V) (i := i) (by omega)
    have e0 : d = (A ++ V.take i) ++ u :: ((U.drop (i + 1) ++ B ++ U.take i) ++ v :: (V.drop (i + 1) ++ D)) := by
      rw [hd, take_drop_eq hu, take_drop_eq hv]; simp
    have e1 : A ++ ((V.take (i + 1) ++ U.drop (i + 1)) ++ (B ++ ((U.take (i + 1) ++ V.drop (i + 1)) ++ D))) = (A ++ V.take i) ++ v :: ((U.drop (i + 1) ++ B ++ U.take i) ++ u :: (V.drop (i + 1) ++ D)) := by
      rw [take_succ' hu, take_succ' hv]; simp
    have l1 : (A ++ V.take i).length = A.length + i := by simp; omega
    have l2 : (U.drop (i + 1) ++ B ++ U.take i).length = n - 1 + B.length := by simp; omega
    have g1 : d[A.length + i]? = some u := by rw [e0]; exact Reg.get_at _ _ _ _ l1.symm
    have g2 : d[A.length + n + B.length + i]? = some v := by rw [e0]; exact Reg.get_at2 _ _ _ _ _ _ (by rw [l1, l2]; omega)
    have lm := len_map d dc
    have i1 : a + i = ((A.length + i : Nat) : Int) := by omega
    have i2 : b + i = ((A.length + n + B.length + i : Nat) : Int) := by omega
    have b1 := Reg.lt_of_getS g1
    have b2 := Reg.lt_of_getS g2
    (refine zw_k (zt_n (zw_s (zw_b (zw_d [] false [true, true, true, true, true, true, true, true, true, true, true, true, true, true, true, true, true, true, true, true, true, true, true, true] rfl (by kernel_rfl) (zp_q rfl (dq rfl (zq1 zI (zkd (zst_ow (yD rfl (yD rfl (dq rfl (zqA zI ?_))))))))))))); refine And.intro ⟨by omega, by omega⟩ ?_)
    (refine zkd (zst_p (dq rfl (zq1 zI (zkd (zst_ow (yD rfl (yD rfl (dq rfl (zqA zI ?_))))))))); refine And.intro ⟨by omega, by omega⟩ ?_)
    (refine zkd (zst_p (dq rfl (zq1 zI (zkd (zst_ow (yD rfl (yD rfl (dq rfl (zqA zI ?_))))))))); refine And.intro ⟨by omega, by omega⟩ ?_)
    (refine zkd (zst_p (dq rfl (zqA zI ?_))); refine And.intro ⟨by omega, by rw [lm]; omega⟩ ?_)
    (refine zkd (zst_rp (dq rfl (zqX zI ?_))); refine ⟨(dc v), (idx i2 g2).2, ?_⟩)
    (refine zkd (zst_p (dq rfl (zq1 zI (zkd (zst_ow (yD rfl (yD rfl (dq rfl (zqA zI ?_))))))))); refine And.intro ⟨by omega, by omega⟩ ?_)
    (refine zkd (zst_p (dq rfl (zqA zI ?_))); refine And.intro ⟨by omega, by rw [lm]; omega⟩ ?_)
    (refine zkd (zst_rp (dq rfl (zqX zI ?_))); refine ⟨(dc u), (idx i1 g1).2, ?_⟩)
    (refine zkd (zst_p (dq rfl (zqA zI ?_))); refine And.intro ⟨by omega, by rw [lm]; omega⟩ ?_)
    (refine zkd (zst_rp (dq rfl (zqX zI ?_))); refine ⟨(dc u), (idx i1 g1).2, ?_⟩)
    (refine zkde rfl (zst_e (zst_0 (dq rfl (zqA zI ?_)))); refine And.intro ⟨by omega, by rw [List.length_set, lm]; omega⟩ ?_)
    (refine zkd (zst_rp (dq rfl (zqX zI ?_))); refine ⟨(dc v), (get_set i1 i2 (by omega) g2), ?_⟩)
    (refine zkde rfl (zst_e (zst_0 (zd_0 (zr_q rfl (zb_n (zt_n (zw_o (yP rfl (yq rfl (zqA zI ?_)))))))))); refine And.intro ⟨by omega, by omega⟩ ?_)
    (refine yk (yA rfl (yT (zaf_raw ?_))); refine ⟨(i + 1, (d.set (A.length + i) v).set (A.length + n + B.length + i) u), _, SLe.refl _ _, ?_⟩)
    refine ⟨⟨by simp only; omega, ?_⟩, by simp only; omega, ⟨rfl, rfl, rfl, rfl, rfl, trivial⟩, ⟨rows_set2 i1 i2, trivial⟩⟩
    simp only
    rw [e1, e0]
    exact Reg.swap_set _ _ _ _ _ _ _ l1.symm (by rw [l1, l2]; omega)
  · have e : i = n := by omega
    refine zw_x (zt_x (zt_x (zb_h (ze_n zi ?_))))
    refine And.intro rfl ⟨rows_eq ?_, trivial⟩
    rw [hr, hd, e, List.take_of_length_le (by omega), List.drop_eq_nil_of_le (by omega), List.take_of_length_le (by omega), List.drop_eq_nil_of_le (by omega)]
    simp
/-- a range whose halves change places -/
theorem rotate (A U V D l r : List Doing) (hl : l = A ++ (U ++ (V ++ D))) (hr : r = A ++ (V ++ (U ++ D))) (hU : 0 < U.length) (hV : 0 < V.length) (a m b : Int) (ha : a = A.length) (hm : m = (A.length : Int) + U.length) (hb : b = (A.length : Int) + U.length + V.length) (hN : l.length ≤ maxD) :
    ACalls C 50 [.row 35 (l.map dc), .pv (i64 a), .pv (i64 m), .pv (i64 b), .pv cmpF] (.tu []) [.row (r.map dc)] := by
  refine fun_go hC Tryz.func50 rfl rfl 58 rfl (by decide) (by kernel_rfl) fun _ _ _ _ _ => ?_
  have hlen : l.length = A.length + U.length + V.length + D.length := by rw [hl]; simp only [List.length_append]; omega
  unfold maxD at hN
  (refine yS (yP rfl (yP rfl (yq rfl (zqA zI ?_)))); refine And.intro ⟨by omega, by omega⟩ ?_)
  (refine yk (yA rfl (yU (yP rfl (yP rfl (yq rfl (zqA zI ?_)))))); refine And.intro ⟨by omega, by omega⟩ ?_)
  refine yk (yA rfl (yT (zw_s (zw_b ?_))))
  refine loop_ok' (fun p : (List Doing × List Doing) × (List Doing × List Doing) × List Doing => p.2.2 = p.1.1 ++ (p.2.1.1 ++ (p.2.1.2 ++ p.1.2)) ∧ r = p.1.1 ++ (p.2.1.2 ++ (p.2.1.1 ++ p.1.2)) ∧ 0 < p.2.1.1.length ∧ 0 < p.2.1.2.length ∧ m = (p.1.1.length : Int) + p.2.1.1.length ∧ p.2.2.length = l.length) (fun p => [(0, .ow 100000), (2, .p (i64 m)), (4, .p cmpF), (10, .p (i64 p.2.1.1.length)), (11, .p (i64 p.2.1.2.length))]) (fun p => [(100000, .row 35 (p.2.2.map dc))]) (fun p => p.2.1.1.length + p.2.1.2.length) ((A, D), (U, V), l) _ (SLe.refl _ _) ⟨hl, hr, hU, hV, hm, rfl⟩ ⟨rfl, rfl, rfl, congrArg (fun n : Int => AV.p (i64 n)) (by dsimp only; omega), congrArg (fun n : Int => AV.p (i64 n)) (by dsimp only; omega), trivial⟩ ⟨rfl, trivial⟩ fun ⟨⟨A', D'⟩, ⟨U', V'⟩, d⟩ hi t h => ?_
  obtain ⟨i1, i2, i3, i4, i5, i6⟩ := hi
  simp only at i1 i2 i3 i4 i5 i6
  have hlen' : d.length = A'.length + U'.length + V'.length + D'.length := by rw [i1]; simp only [List.length_append]; omega
  (refine zw_s (yS (yP rfl (yP rfl (yP rfl (yT (zw_c rfl ?_)))))); refine bcase_split (fun h1 => ?_) (fun h1 => ?_) <;> try simp only [zB] at h1)
  · (refine zw_k (zt_n (zw_b (yS (yP rfl (yP rfl (yP rfl (yT (zw_c rfl ?_)))))))); refine bcase_split (fun h2 => ?_) (fun h2 => ?_) <;> try simp only [zB] at h2)
    · have e1 : U' ++ (V' ++ D') = U'.take V'.length ++ (U'.drop V'.length ++ (V' ++ D')) := by rw [← List.append_assoc (U'.take _), List.take_append_drop]
      have e2 : V' ++ (U' ++ D') = V' ++ (U'.take V'.length ++ (U'.drop V'.length ++ D')) := by rw [← List.append_assoc (U'.take _), List.take_append_drop]
      have e3 : (U'.drop V'.length).length = U'.length - V'.length := List.length_drop ..
      have e4 : (U'.take V'.length).length = V'.length := by simp; omega
      (refine yS (yq rfl (zq1 zI (zkq (zst_ow (yP rfl (yP rfl (yq rfl (zqA zI ?_)))))))); refine And.intro ⟨by dsimp only; omega, by dsimp only; omega⟩ ?_)
      (refine yk (yP rfl (yP rfl (yP rfl (yn rfl (zqX zI ?_))))); refine ⟨_, _, (swapRange A' (U'.take V'.length) (U'.drop V'.length) V' D' d _ V'.length e4 rfl (by rw [i1, e1]) rfl _ _ (show m - (U'.length : Int) = A'.length by omega) (show m = (A'.length : Int) + V'.length + (U'.drop V'.length).length by omega) (by rw [i6]; exact hN)), ?_⟩)
      (refine zkn rfl rfl (zst_e (zst_tu (yT (zw_o (yP rfl (yP rfl (yq rfl (zqA zI ?_)))))))); refine And.intro ⟨by dsimp only; omega, by dsimp only; omega⟩ ?_)
      (refine yk (yA rfl (zo_0 (zb_n (zt_n (zaf_raw ?_))))); refine ⟨((A' ++ V', D'), (U'.drop V'.length, U'.take V'.length), A' ++ (V' ++ (U'.drop V'.length ++ (U'.take V'.length ++ D')))), _, SLe.refl _ _, ?_⟩)
      refine ⟨⟨by simp, by rw [i2, e2]; simp, by dsimp only; omega, by dsimp only; omega, by dsimp only; rw [List.length_append]; omega, ?_⟩, by dsimp only; omega, ⟨rfl, rfl, rfl, congrArg (fun n : Int => AV.p (i64 n)) (by dsimp only; omega), congrArg (fun n : Nat => AV.p (i64 n)) e4.symm, trivial⟩, ⟨rfl, trivial⟩⟩
      rw [← i6, hlen']
      simp only [List.length_append]
      omega
    · have e1 : U' ++ (V' ++ D') = U' ++ (V'.take (V'.length - U'.length) ++ (V'.drop (V'.length - U'.length) ++ D')) := by rw [← List.append_assoc (V'.take _), List.take_append_drop]
      have e2 : V' ++ (U' ++ D') = V'.take (V'.length - U'.length) ++ (V'.drop (V'.length - U'.length) ++ (U' ++ D')) := by rw [← List.append_assoc (V'.take _), List.take_append_drop]
      have e3 : (V'.take (V'.length - U'.length)).length = V'.length - U'.length := by simp
      have e4 : (V'.drop (V'.length - U'.length)).length = U'.length := by simp; omega
      (refine yS (yq rfl (zq1 zI (zkq (zst_ow (yP rfl (yP rfl (yq rfl (zqA zI ?_)))))))); refine And.intro ⟨by dsimp only; omega, by dsimp only; omega⟩ ?_)
      (refine yk (yP rfl (yP rfl (yq rfl (zqA zI ?_)))); refine And.intro ⟨by dsimp only; omega, by dsimp only; omega⟩ ?_)
      (refine yk (yP rfl (yq rfl (zqA zI ?_))); refine And.intro ⟨by dsimp only; omega, by dsimp only; omega⟩ ?_)
      (refine yk (yP rfl (yP rfl (yn rfl (zqX zI ?_)))); refine ⟨_, _, (swapRange A' U' (V'.take (V'.length - U'.length)) (V'.drop (V'.length - U'.length)) D' d _ U'.length rfl e4 (by rw [i1, e1]) rfl _ _ (show m - (U'.length : Int) = A'.length by omega) (show m + (V'.length : Int) - U'.length = (A'.length : Int) + U'.length + (V'.take (V'.length - U'.length)).length by omega) (by rw [i6]; exact hN)), ?_⟩)
      (refine zkn rfl rfl (zst_e (zst_tu (yT (zw_o (yP rfl (yP rfl (yq rfl (zqA zI ?_)))))))); refine And.intro ⟨by dsimp only; omega, by dsimp only; omega⟩ ?_)
      (refine yk (yA rfl (zo_0 (zb_n (zt_n (zaf_raw ?_))))); refine ⟨((A', U' ++ D'), (V'.drop (V'.length - U'.length), V'.take (V'.length - U'.length)), A' ++ (V'.drop (V'.length - U'.length) ++ (V'.take (V'.length - U'.length) ++ (U' ++ D')))), _, SLe.refl _ _, ?_⟩)
      refine ⟨⟨by simp, by rw [i2, e2], by dsimp only; omega, by dsimp only; omega, by dsimp only; omega, ?_⟩, by dsimp only; omega, ⟨rfl, rfl, rfl, congrArg (fun n : Nat => AV.p (i64 n)) e4.symm, congrArg (fun n : Int => AV.p (i64 n)) (by dsimp only; omega), trivial⟩, ⟨rfl, trivial⟩⟩
      rw [← i6, hlen']
      simp only [List.length_append]
      omega
  · have e : U'.length = V'.length := by omega
    (refine zw_x (zt_x (zt_x (zb_h (zt_n (zw_o (yq rfl (zq1 zI (zkq (zst_ow (yP rfl (yP rfl (yq rfl (zqA zI ?_))))))))))))); refine And.intro ⟨by dsimp only; omega, by dsimp only; omega⟩ ?_)
    (refine yk (yP rfl (yP rfl (yP rfl (yn rfl (zqX zI ?_))))); refine ⟨_, _, (swapRange A' U' [] V' D' d _ U'.length rfl e.symm (by rw [i1]; rfl) rfl _ _ (show m - (U'.length : Int) = A'.length by omega) (show m = (A'.length : Int) + U'.length + ([] : List Doing).length by simp; omega) (by rw [i6]; exact hN)), ?_⟩)
    refine zkn rfl rfl (zst_e (zst_tu (zo_0 (ze_n zi ?_))))
    refine And.intro rfl ⟨rows_eq ?_, trivial⟩
    rw [i2]
    rfl
end Go.Proofs.YtngikpapepnkaaaGreatDoor.M
