/- By the machine: stable sorting, by insertion. -/
import Derived.Test.YtngikpapepnkaaaGreatDoorMSort1
set_option linter.unusedSimpArgs false
set_option linter.unusedVariables false
namespace Go.Proofs.YtngikpapepnkaaaGreatDoor.M
open Go.AM Go.RowKit
open Reg (stab SortedL SameKinds)

theorem stab_one (l : List Doing) : stab leD (l.take 1) = l.take 1 := Reg.stab_id preD (by cases l <;> simp [SortedL])
set_option maxRecDepth 100000 in
set_option maxHeartbeats 1000000 in
theorem insertionSort (A S D l r : List Doing) (hl : l = A ++ (S ++ D)) (hr : r = A ++ (stab leD S ++ D)) (a b : Int) (ha : a = A.length) (hb : b = (A.length : Int) + S.length) (hN : l.length ≤ maxD) :
    ACalls C 41 [.row 35 (l.map dc), .pv (i64 a), .pv (i64 b), .pv cmpF] (.tu []) [.row (r.map dc)] := by
  refine fun_go hC Tryz.func41 rfl rfl 53 rfl (by decide) (by kernel_rfl) fun _ _ _ _ _ => ?_
  have hlen : l.length = A.length + S.length + D.length := by rw [hl]; simp only [List.length_append]; omega
  unfold maxD at hN
  (refine yS (yP rfl (yq rfl (zqA zI ?_))); refine And.intro ⟨by omega, by omega⟩ ?_)
  refine yk (yA rfl (yT (zw_b ?_)))
  refine loop_ok' (fun p : Nat × List Doing => 1 ≤ p.1 ∧ (p.1 ≤ S.length ∨ S.length = 0 ∧ p.1 = 1) ∧ p.2 = A ++ (stab leD (S.take p.1) ++ (S.drop p.1 ++ D))) (fun p => [(0, .ow 100000), (1, .p (i64 a)), (2, .p (i64 b)), (3, .p cmpF), (8, .p (i64 (a + p.1)))]) (fun p => [(100000, .row 35 (p.2.map dc))]) (fun p => S.length - p.1) (1, l) _ (SLe.refl _ _) ⟨Nat.le_refl _, by dsimp only; omega, by dsimp only; rw [stab_one, ← List.append_assoc (S.take 1), List.take_append_drop, hl]⟩ ⟨rfl, rfl, rfl, rfl, rfl, trivial⟩ ⟨rfl, trivial⟩ fun ⟨k, d⟩ hi t h => ?_
  obtain ⟨k1, k2, hd⟩ := hi
  simp only at k1 k2 hd
  have hdl : d.length = l.length := by rw [hd, hlen]; simp only [List.length_append, Reg.stab_length, List.length_take, List.length_drop]; omega
  (refine zw_s (yS (yP rfl (yP rfl (yP rfl (yT (zw_c rfl ?_)))))); refine bcase_split (fun h1 => ?_) (fun h1 => ?_) <;> try simp only [zB] at h1)
  · obtain ⟨x, hx⟩ := get_of (l := S) (i := k) (by omega)
    obtain ⟨W, hW⟩ : ∃ W, W = stab leD (S.take k) := ⟨_, rfl⟩
    have hWl : W.length = k := by rw [hW, Reg.stab_length, List.length_take]; omega
    have next : ∀ q, q ≤ k → (∀ e ∈ W.drop q, leD e x = false) → (q = 0 ∨ ∃ y, W[q - 1]? = some y ∧ leD y x = true) → A ++ (W.take q ++ x :: (W.drop q ++ (S.drop (k + 1) ++ D))) = A ++ (stab leD (S.take (k + 1)) ++ (S.drop (k + 1) ++ D)) := by
      intro q hq h1 h2
      have := Reg.put_eq preD (l := S.take k) (u := W.take q) (v := W.drop q) (x := x) (by rw [List.take_append_drop, hW]) (Reg.take_down (by rw [hW]; exact (Reg.stab_facts preD _).1) (fun a b h3 h4 => preD.trans _ _ _ h3 h4) h2) h1
      rw [take_succ' hx, this]
      simp
    refine zw_k (zt_n (zw_s (zw_b (yS (yP rfl (yA rfl (yT (zw_b ?_))))))))
    refine loop_ok' (fun p : Nat × List Doing => p.1 ≤ k ∧ (∀ e ∈ W.drop p.1, leD e x = false) ∧ p.2 = A ++ (W.take p.1 ++ x :: (W.drop p.1 ++ (S.drop (k + 1) ++ D)))) (fun p => [(0, .ow 100000), (1, .p (i64 a)), (2, .p (i64 b)), (3, .p cmpF), (8, .p (i64 (a + k))), (9, .p (i64 (a + p.1)))]) (fun p => [(100000, .row 35 (p.2.map dc))]) (fun p => p.1) (k, d) _ (SLe.refl _ _) ⟨Nat.le_refl _, by simp [List.drop_eq_nil_of_le (Nat.le_of_eq hWl)], by dsimp only; rw [List.take_of_length_le (by omega), List.drop_eq_nil_of_le (Nat.le_of_eq hWl), hd, hW, take_drop_eq hx]; rfl⟩ ⟨rfl, rfl, rfl, rfl, rfl, rfl, trivial⟩ ⟨rfl, trivial⟩ fun ⟨q, d'⟩ hj t h => ?_
    obtain ⟨q1, q2, hd'⟩ := hj
    simp only at q1 q2 hd'
    have hdl' : d'.length = l.length := by rw [hd', hlen]; simp only [List.length_append, List.length_cons, List.length_take, List.length_drop]; omega
    have lm := len_map d' dc
    have lt : (A ++ W.take q).length = A.length + q := by simp; omega
    have g1 : d'[A.length + q]? = some x := by rw [hd', ← List.append_assoc]; exact Reg.get_at _ _ _ _ lt.symm
    have i1 : a + q = ((A.length + q : Nat) : Int) := by omega
    have b1 := Reg.lt_of_getS g1
    ((refine zw_s (zw_s (zw_d [] true [true, true, true, true, true, true, true, true, true, true, true, true, true, true, true, true, true] rfl (by kernel_rfl) (zp_s rfl (zp_s rfl (zp_s rfl (zp_s rfl (zp_s rfl (zp_s rfl (zp_s rfl (zp_s rfl (zp_s rfl (zp_s rfl (zp_s rfl ?_))))))))))))); refine zp_s rfl (zp_s rfl (zp_s rfl (zp_n rfl rfl (zp_q rfl (yD rfl (yD rfl (yD rfl (yD rfl (dg rfl ?_)))))))))); refine bcase_split (fun h2 => ?_) (fun h2 => ?_) <;> try simp only [zB] at h2)
    · obtain ⟨y, hy⟩ := get_of (l := W) (i := q - 1) (by omega)
      have ty : W.take q = W.take (q - 1) ++ [y] := by rw [← take_succ' hy]; congr 1; omega
      have e0 : d' = (A ++ W.take (q - 1)) ++ y :: ([] ++ x :: (W.drop q ++ (S.drop (k + 1) ++ D))) := by rw [hd', ty]; simp
      have lt' : (A ++ W.take (q - 1)).length = A.length + (q - 1) := by simp; omega
      have g2 : d'[A.length + (q - 1)]? = some y := by rw [e0]; exact Reg.get_at _ _ _ _ lt'.symm
      have i2 : a + q - 1 = ((A.length + (q - 1) : Nat) : Int) := by omega
      (refine zg_t (zd_q rfl (zq1 zI (zkd (zst_p (d2 rfl (zd_q rfl (zq1 zI (zkd (zst_ow (d1 rfl (d2 rfl (zd_q rfl (zqA zI ?_))))))))))))); refine And.intro ⟨by dsimp only; omega, by dsimp only; rw [lm]; omega⟩ ?_)
      (refine zkd (zst_rp (d2 rfl (zd_q rfl (zqX zI ?_)))); refine ⟨(dc x), (idx i1 g1).2, ?_⟩)
      have b2 := Reg.lt_of_getS g2
      (refine zkd (zst_p (d2 rfl (zd_q rfl (zq1 zI (zkd (zst_ow (d1 rfl (d2 rfl (zd_q rfl (zqA zI ?_)))))))))); refine And.intro ⟨by dsimp only; omega, by dsimp only; omega⟩ ?_)
      (refine zkd (zst_p (d2 rfl (zd_q rfl (zqA zI ?_)))); refine And.intro ⟨by dsimp only; omega, by dsimp only; rw [lm]; omega⟩ ?_)
      (refine zkd (zst_rp (d2 rfl (zd_q rfl (zqX zI ?_)))); refine ⟨(dc y), (idx i2 g2).2, ?_⟩)
      (refine zkd (zst_p (d2 rfl (zd_q rfl (zqX zI ?_)))); refine ⟨_, _, (house_compare x y), ?_⟩)
      (refine zkd (zst_p (d1 rfl (yD rfl (zd_0 (zr_q rfl (zt_n (zw_c rfl ?_))))))); refine bcase_split (fun h3 => ?_) (fun h3 => ?_) <;> try simp only [zB] at h3)
      · have hxy : leD y x = false := (cmpD_lt x y).1 h3
        ((refine zw_k (zt_n (zw_s (zw_b (zw_d [] false [true, true, true, true, true, true, true, true, true, true, true, true, true, true, true, true, true, true] rfl (by kernel_rfl) (zp_q rfl (dq rfl (zq1 zI (zkd (zst_ow (yD rfl (dq rfl (zq1 zI (zkd ?_))))))))))))); refine zst_ow (yD rfl (dq rfl (zqA zI ?_)))); refine And.intro ⟨by dsimp only; omega, by dsimp only; omega⟩ ?_)
        (refine zkd (zst_p (dq rfl (zq1 zI (zkd (zst_ow (yD rfl (dq rfl (zqA zI ?_)))))))); refine And.intro ⟨by dsimp only; omega, by dsimp only; omega⟩ ?_)
        (refine zkd (zst_p (dq rfl (zqA zI ?_))); refine And.intro ⟨by dsimp only; omega, by dsimp only; rw [lm]; omega⟩ ?_)
        (refine zkd (zst_rp (dq rfl (zqX zI ?_))); refine ⟨(dc y), (idx i2 g2).2, ?_⟩)
        (refine zkd (zst_p (dq rfl (zq1 zI (zkd (zst_ow (yD rfl (dq rfl (zqA zI ?_)))))))); refine And.intro ⟨by dsimp only; omega, by dsimp only; rw [lm]; omega⟩ ?_)
        (refine zkd (zst_rp (dq rfl (zqX zI ?_))); refine ⟨(dc x), (idx i1 g1).2, ?_⟩)
        (refine zkd (zst_p (dq rfl (zqA zI ?_))); refine And.intro ⟨by dsimp only; omega, by dsimp only; rw [lm]; omega⟩ ?_)
        (refine zkd (zst_rp (dq rfl (zqX zI ?_))); refine ⟨(dc x), (idx i1 g1).2, ?_⟩)
        (refine zkde rfl (zst_e (zst_0 (dq rfl (zqA zI ?_)))); refine And.intro ⟨by dsimp only; omega, by dsimp only; rw [List.length_set, lm]; omega⟩ ?_)
        (refine zkd (zst_rp (dq rfl (zqX zI ?_))); refine ⟨(dc y), (get_set i1 i2 (by omega) g2), ?_⟩)
        (refine zkde rfl (zst_e (zst_0 (zd_0 (zr_q rfl (zb_n (zt_n (zw_o (yP rfl (yq rfl (zqA zI ?_)))))))))); refine And.intro ⟨by dsimp only; omega, by dsimp only; omega⟩ ?_)
        (refine yk (yA rfl (yT (zaf_raw ?_))); refine ⟨(q - 1, (d'.set (A.length + q) y).set (A.length + (q - 1)) x), _, SLe.refl _ _, ?_⟩)
        refine ⟨⟨by dsimp only; omega, fun e he => ?_, ?_⟩, by dsimp only; omega, ⟨rfl, rfl, rfl, rfl, rfl, congrArg (fun n : Int => AV.p (i64 n)) (by dsimp only; omega), trivial⟩, ⟨rows_set2 i1 i2, trivial⟩⟩
        · dsimp only at he
          rw [take_drop_eq hy, show q - 1 + 1 = q by omega] at he
          rcases List.mem_cons.1 he with e1 | he
          · rw [e1]; exact hxy
          · exact q2 e he
        · dsimp only
          rw [e0, Reg.swap_set' (A ++ W.take (q - 1)) [] (W.drop q ++ (S.drop (k + 1) ++ D)) y x (A.length + (q - 1)) (A.length + q) lt'.symm (by rw [lt']; simp; omega), take_drop_eq hy, show q - 1 + 1 = q by omega]
          simp
      · have hxy : leD y x = true := by
          cases hh : leD y x with
          | true => rfl
          | false => exact absurd ((cmpD_lt x y).2 hh) h3
        (refine zw_x (zt_x (zt_x (zb_h (zb_n (zt_n (zw_o (yP rfl (yq rfl (zqA zI ?_))))))))); refine And.intro ⟨by omega, by omega⟩ ?_)
        (refine yk (yA rfl (yT (zaf_raw ?_))); refine ⟨(k + 1, d'), _, SLe.refl _ _, ?_⟩)
        refine ⟨⟨by dsimp only; omega, by dsimp only; omega, ?_⟩, by dsimp only; omega, ⟨rfl, rfl, rfl, rfl, congrArg (fun n : Int => AV.p (i64 n)) (by dsimp only; omega), trivial⟩, ⟨rfl, trivial⟩⟩
        rw [hd']
        exact next q q1 q2 (.inr ⟨y, hy, hxy⟩)
    · ((refine zg_f (zst_p (d0 rfl (d0 rfl (d0 rfl (d0 rfl (d0 rfl (d0 rfl (d0 rfl (d0 rfl (d0 rfl (d0 rfl (d0 rfl (yD rfl ?_))))))))))))); refine zd_0 (zr_q rfl (zt_n (zw_c rfl (zc_f (zw_x (zt_x (zt_x (zb_h (zb_n (zt_n (zw_o (yP rfl (yq rfl ?_))))))))))))); refine zqA zI ?_); refine And.intro ⟨by omega, by omega⟩ ?_)
      (refine yk (yA rfl (yT (zaf_raw ?_))); refine ⟨(k + 1, d'), _, SLe.refl _ _, ?_⟩)
      refine ⟨⟨by dsimp only; omega, by dsimp only; omega, ?_⟩, by dsimp only; omega, ⟨rfl, rfl, rfl, rfl, congrArg (fun n : Int => AV.p (i64 n)) (by dsimp only; omega), trivial⟩, ⟨rfl, trivial⟩⟩
      rw [hd']
      exact next q q1 q2 (.inl (by omega))
  · refine zw_x (zt_x (zt_x (zb_h (ze_n zi ?_))))
    refine And.intro rfl ⟨rows_eq ?_, trivial⟩
    have e : S.drop k = [] := List.drop_eq_nil_of_le (by omega)
    rw [hd, hr, e, List.take_of_length_le (by omega)]
    rfl
end Go.Proofs.YtngikpapepnkaaaGreatDoor.M
