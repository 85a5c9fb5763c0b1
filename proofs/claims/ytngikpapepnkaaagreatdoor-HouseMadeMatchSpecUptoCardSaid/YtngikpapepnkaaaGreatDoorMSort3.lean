/- By the machine: stable sorting, two sorted lists merged in place, one of them of one alone. -/
import Derived.Test.YtngikpapepnkaaaGreatDoorMSort2s
set_option linter.unusedSimpArgs false
set_option linter.unusedVariables false
namespace Go.Proofs.YtngikpapepnkaaaGreatDoor.M
open Go.AM Go.RowKit
open Reg (stab SortedL SameKinds)

theorem shr_half {a b : Nat} (h : a + b < 4611686018427387904) : (IntKind.u64.wrap ((a : Int) + (b : Int))).fdiv (2 ^ min (Int.toNat 1) IntKind.u64.bits) = (((a + b) / 2 : Nat) : Int) := by
  have h1 : IntKind.u64.wrap ((a : Int) + (b : Int)) = ((a + b : Nat) : Int) := by simp [IntKind.wrap, IntKind.bits, IntKind.signed]; omega
  rw [h1]
  have h2 : (2 : Int) ^ min (Int.toNat 1) IntKind.u64.bits = 2 := by decide
  rw [h2, Int.fdiv_eq_ediv_of_nonneg _ (by decide)]
  omega
theorem av_int {a b : Int} (h : a = b) : AV.p (i64 a) = AV.p (i64 b) := by rw [h]
theorem get_in {A S D l : List Doing} {q : Nat} {y : Doing} (hl : l = A ++ (S ++ D)) (h : S[q]? = some y) : l[A.length + q]? = some y := by
  rw [hl, List.getElem?_append_right (by omega), show A.length + q - A.length = q by omega, List.getElem?_append_left (Reg.lt_of_getS h)]
  exact h
set_option maxRecDepth 100000 in
set_option maxHeartbeats 1000000 in
theorem symMerge_left (A S D l r : List Doing) (x : Doing) (hl : l = A ++ ([x] ++ (S ++ D))) (hr : r = A ++ (stab leD ([x] ++ S) ++ D)) (hs : SortedL leD S) (h0 : 0 < S.length) (a m b : Int) (ha : a = A.length) (hm : m = (A.length : Int) + 1) (hb : b = (A.length : Int) + 1 + S.length) (hN : l.length ≤ maxD) :
    ACalls C 42 [.row 35 (l.map dc), .pv (i64 a), .pv (i64 m), .pv (i64 b), .pv cmpF] (.tu []) [.row (r.map dc)] := by
  refine fun_go hC Tryz.func42 rfl rfl 220 rfl (by decide) (by kernel_rfl) fun _ _ _ _ _ => ?_
  have hlen : l.length = A.length + 1 + S.length + D.length := by rw [hl]; simp only [List.length_append, List.length_singleton]; omega
  have hl2 : l = (A ++ [x]) ++ (S ++ D) := by rw [hl]; simp
  have gx : l[A.length]? = some x := by rw [hl]; exact Reg.get_at _ _ _ _ rfl
  have lm := len_map l dc
  unfold maxD at hN
  (refine zw_s (yS (yP rfl (yP rfl (yq rfl (zqA zI ?_))))); refine And.intro ⟨by omega, by omega⟩ ?_)
  (refine yk (yP rfl (yT (zw_c rfl ?_))); refine bcase_split (fun g0 => ?_) (fun g0 => ?_) <;> try simp only [zB] at g0)
  · refine yS (yP rfl (yA rfl (yU (yP rfl (yA rfl (yT (zw_s (zw_b ?_))))))))
    refine loop_ok' (fun p : Nat × Nat => A.length + 1 ≤ p.1 ∧ p.1 ≤ p.2 ∧ p.2 ≤ A.length + 1 + S.length ∧ (p.1 - (A.length + 1) = 0 ∨ ∃ y, S[p.1 - (A.length + 1) - 1]? = some y ∧ leD x y = false) ∧ (S.length ≤ p.2 - (A.length + 1) ∨ ∃ y, S[p.2 - (A.length + 1)]? = some y ∧ leD x y = true)) (fun p => [(0, .ow 100000), (1, .p (i64 a)), (4, .p cmpF), (10, .p (i64 p.1)), (11, .p (i64 p.2))]) (fun _ => [(100000, .row 35 (l.map dc))]) (fun p => p.2 - p.1) (A.length + 1, A.length + 1 + S.length) _ (SLe.refl _ _) ⟨by dsimp only; omega, by dsimp only; omega, by dsimp only; omega, .inl (by dsimp only; omega), .inl (by dsimp only; omega)⟩ ⟨rfl, rfl, rfl, av_int (by dsimp only; omega), av_int (by dsimp only; omega), trivial⟩ ⟨rfl, trivial⟩ fun ⟨i, j⟩ hi t h => ?_
    obtain ⟨q1, q2, q3, q4, q5⟩ := hi
    simp only at q1 q2 q3 q4 q5
    (refine zw_s (yS (yP rfl (yP rfl (yP rfl (yT (zw_c rfl ?_)))))); refine bcase_split (fun h1 => ?_) (fun h1 => ?_) <;> try simp only [zB] at h1)
    · have hm := shr_half (a := i) (b := j) (by omega)
      obtain ⟨y, hy⟩ := get_of (l := S) (i := (i + j) / 2 - (A.length + 1)) (by omega)
      have gy : l[(i + j) / 2]? = some y := by
        have := get_in hl2 hy
        rw [List.length_append, List.length_singleton] at this
        rw [← this]; congr 1; omega
      have b2 := Reg.lt_of_getS gy
      (refine zw_k (zt_n (zw_b (yS (yP rfl (yP rfl (yq rfl (zqA zI ?_))))))); refine And.intro ⟨by dsimp only; omega, by dsimp only; omega⟩ ?_)
      (refine yk (yP rfl (yq rfl (zqA zI ?_))); refine And.intro ⟨by decide, by decide⟩ ?_)
      (refine yk (yq rfl (zqA zI ?_)); refine And.intro ⟨by dsimp only; rw [hm]; omega, by dsimp only; rw [hm]; omega⟩ ?_)
      ((refine yk (yA rfl (yT (zw_s (zw_d [] true [true, true, true, true, true, true, true, true, true, true, true] rfl (by kernel_rfl) (zp_s rfl (zp_s rfl (zp_s rfl (zp_s rfl (zp_s rfl (zp_s rfl (zp_s rfl (zp_s rfl (zp_s rfl ?_))))))))))))); refine zp_n rfl rfl (zp_q rfl (yD rfl (dq rfl (zq1 zI (zkd (zst_ow (yD rfl (dq rfl (zqA zI ?_)))))))))); refine And.intro ⟨by dsimp only; rw [hm]; omega, by dsimp only; rw [hm, lm]; omega⟩ ?_)
      (refine zkd (zst_rp (dq rfl (zqX zI ?_))); refine ⟨(dc y), (idx hm gy).2, ?_⟩)
      (refine zkd (zst_p (dq rfl (zq1 zI (zkd (zst_ow (yD rfl (dq rfl (zqA zI ?_)))))))); refine And.intro ⟨by omega, by rw [lm]; omega⟩ ?_)
      (refine zkd (zst_rp (dq rfl (zqX zI ?_))); refine ⟨(dc x), (idx ha gx).2, ?_⟩)
      (refine zkd (zst_p (dq rfl (zqX zI ?_))); refine ⟨_, _, (house_compare y x), ?_⟩)
      (refine zkd (zst_p (yD rfl (zd_0 (zr_q rfl (zt_n (zw_c rfl ?_)))))); refine bcase_split (fun h2 => ?_) (fun h2 => ?_) <;> try simp only [zB] at h2)
      · have hxy : leD x y = false := (cmpD_lt y x).1 h2
        (refine zw_o (yP rfl (yq rfl (zqA zI ?_))); refine And.intro ⟨by dsimp only; rw [hm]; omega, by dsimp only; rw [hm]; omega⟩ ?_)
        (refine yk (yA rfl (zo_0 (zb_n (zt_n (zaf_raw ?_))))); refine ⟨((i + j) / 2 + 1, j), _, SLe.refl _ _, ?_⟩)
        exact ⟨⟨by dsimp only; omega, by dsimp only; omega, q3, .inr ⟨y, by dsimp only; rw [← hy]; congr 1; omega, hxy⟩, q5⟩, by dsimp only; omega, ⟨rfl, rfl, rfl, av_int (by dsimp only; rw [hm]; omega), rfl, trivial⟩, ⟨rfl, trivial⟩⟩
      · have hxy : leD x y = true := by
          cases hh : leD x y with
          | true => rfl
          | false => exact absurd ((cmpD_lt y x).2 hh) h2
        (refine zw_o (yP rfl (yA rfl (zo_0 (zb_n (zt_n (zaf_raw ?_)))))); refine ⟨(i, (i + j) / 2), _, SLe.refl _ _, ?_⟩)
        exact ⟨⟨q1, by dsimp only; omega, by dsimp only; omega, q4, .inr ⟨y, hy, hxy⟩⟩, by dsimp only; omega, ⟨rfl, rfl, rfl, rfl, av_int hm, trivial⟩, ⟨rfl, trivial⟩⟩
    · have e : j = i := by omega
      subst e
      obtain ⟨n, hn⟩ : ∃ n, n = j - (A.length + 1) := ⟨_, rfl⟩
      rw [← hn] at q4 q5
      have p1 : ∀ e ∈ S.take n, leD x e = false := Reg.take_down hs (fun u v h3 h4 => by
        cases hh : leD x u with
        | false => rfl
        | true => rw [preD.trans _ _ _ hh h3] at h4; cases h4) q4
      have p2 : ∀ e ∈ S.drop n, leD x e = true := Reg.drop_up preD hs (fun u v h3 h4 => preD.trans _ _ _ h4 h3) q5
      have fe := Reg.front_eq preD (p := S.take n) (q := S.drop n) (x := x) (by rw [List.take_append_drop]; exact hs) p1 p2
      rw [List.take_append_drop] at fe
      refine zw_x (zt_x (zt_x (zb_h (zt_n (zw_s (yS (yP rfl (yA rfl (yT (zw_b ?_))))))))))
      refine loop_ok' (fun p : Nat × List Doing => p.1 ≤ n ∧ p.2 = A ++ (S.take p.1 ++ x :: (S.drop p.1 ++ D))) (fun p => [(0, .ow 100000), (10, .p (i64 j)), (13, .p (i64 (a + p.1)))]) (fun p => [(100000, .row 35 (p.2.map dc))]) (fun p => n - p.1) (0, l) _ (SLe.refl _ _) ⟨Nat.zero_le _, hl⟩ ⟨rfl, rfl, av_int (by dsimp only; omega), trivial⟩ ⟨rfl, trivial⟩ fun ⟨k, d⟩ hk t h => ?_
      obtain ⟨k1, hd⟩ := hk
      simp only at k1 hd
      (refine zw_s (yS (yP rfl (yP rfl (yq rfl (zqA zI ?_))))); refine And.intro ⟨by omega, by omega⟩ ?_)
      (refine yk (yP rfl (yT (zw_c rfl ?_))); refine bcase_split (fun h3 => ?_) (fun h3 => ?_) <;> try simp only [zB] at h3)
      · obtain ⟨y, hy⟩ := get_of (l := S) (i := k) (by omega)
        have lt : (A ++ S.take k).length = A.length + k := by simp; omega
        have e0 : d = (A ++ S.take k) ++ x :: ([] ++ y :: (S.drop (k + 1) ++ D)) := by rw [hd, take_drop_eq hy]; simp
        have g1 : d[A.length + k]? = some x := by rw [e0]; exact Reg.get_at _ _ _ _ lt.symm
        have g2 : d[A.length + k + 1]? = some y := by rw [e0]; exact Reg.get_at2 _ _ _ _ _ _ (by rw [lt]; simp)
        have i1 : a + k = ((A.length + k : Nat) : Int) := by omega
        have i2 : a + k + 1 = ((A.length + k + 1 : Nat) : Int) := by omega
        have b1 := Reg.lt_of_getS g1
        have b2 := Reg.lt_of_getS g2
        have ld := len_map d dc
        have hdl : d.length = l.length := by rw [hd, hlen]; simp only [List.length_append, List.length_cons, List.length_take, List.length_drop]; omega
        ((refine zw_k (zt_n (zw_s (zw_b (zw_d [] false [true, true, true, true, true, true, true, true, true, true, true, true, true, true, true, true, true, true] rfl (by kernel_rfl) (zp_q rfl (dq rfl (zq1 zI (zkd (zst_ow (yD rfl (dq rfl (zq1 zI (zkd ?_))))))))))))); refine zst_ow (yD rfl (dq rfl (zqA zI ?_)))); refine And.intro ⟨by dsimp only; omega, by dsimp only; omega⟩ ?_)
        (refine zkd (zst_p (dq rfl (zq1 zI (zkd (zst_ow (yD rfl (dq rfl (zqA zI ?_)))))))); refine And.intro ⟨by dsimp only; omega, by dsimp only; omega⟩ ?_)
        (refine zkd (zst_p (dq rfl (zqA zI ?_))); refine And.intro ⟨by dsimp only; omega, by dsimp only; rw [ld]; omega⟩ ?_)
        (refine zkd (zst_rp (dq rfl (zqX zI ?_))); refine ⟨(dc y), (idx i2 g2).2, ?_⟩)
        (refine zkd (zst_p (dq rfl (zq1 zI (zkd (zst_ow (yD rfl (dq rfl (zqA zI ?_)))))))); refine And.intro ⟨by dsimp only; omega, by dsimp only; rw [ld]; omega⟩ ?_)
        (refine zkd (zst_rp (dq rfl (zqX zI ?_))); refine ⟨(dc x), (idx i1 g1).2, ?_⟩)
        (refine zkd (zst_p (dq rfl (zqA zI ?_))); refine And.intro ⟨by dsimp only; omega, by dsimp only; rw [ld]; omega⟩ ?_)
        (refine zkd (zst_rp (dq rfl (zqX zI ?_))); refine ⟨(dc x), (idx i1 g1).2, ?_⟩)
        (refine zkde rfl (zst_e (zst_0 (dq rfl (zqA zI ?_)))); refine And.intro ⟨by dsimp only; omega, by dsimp only; rw [List.length_set, ld]; omega⟩ ?_)
        (refine zkd (zst_rp (dq rfl (zqX zI ?_))); refine ⟨(dc y), (get_set i1 i2 (by omega) g2), ?_⟩)
        (refine zkde rfl (zst_e (zst_0 (zd_0 (zr_q rfl (zb_n (zt_n (zw_o (yP rfl (yq rfl (zqA zI ?_)))))))))); refine And.intro ⟨by dsimp only; omega, by dsimp only; omega⟩ ?_)
        (refine yk (yA rfl (yT (zaf_raw ?_))); refine ⟨(k + 1, (d.set (A.length + k) y).set (A.length + k + 1) x), _, SLe.refl _ _, ?_⟩)
        refine ⟨⟨by dsimp only; omega, ?_⟩, by dsimp only; omega, ⟨rfl, rfl, av_int (by dsimp only; omega), trivial⟩, ⟨rows_set2 i1 i2, trivial⟩⟩
        dsimp only
        rw [e0, Reg.swap_set (A ++ S.take k) [] (S.drop (k + 1) ++ D) x y (A.length + k) (A.length + k + 1) lt.symm (by rw [lt]; simp), take_succ' hy]
        simp
      · refine zw_x (zt_x (zt_x (zb_h (zt_n (zw_r (zt_r (ze_r zi ?_)))))))
        refine And.intro rfl ⟨rows_eq ?_, trivial⟩
        have e : k = n := by omega
        rw [hd, hr, e, List.singleton_append, fe]
        simp
  · omega
set_option maxRecDepth 100000 in
set_option maxHeartbeats 1000000 in
theorem symMerge_right (A S D l r : List Doing) (x : Doing) (hl : l = A ++ (S ++ ([x] ++ D))) (hr : r = A ++ (stab leD (S ++ [x]) ++ D)) (hs : SortedL leD S) (h0 : 0 < S.length) (h01 : S.length ≠ 1) (a m b : Int) (ha : a = A.length) (hm : m = (A.length : Int) + S.length) (hb : b = (A.length : Int) + S.length + 1) (hN : l.length ≤ maxD) :
    ACalls C 42 [.row 35 (l.map dc), .pv (i64 a), .pv (i64 m), .pv (i64 b), .pv cmpF] (.tu []) [.row (r.map dc)] := by
  refine fun_go hC Tryz.func42 rfl rfl 220 rfl (by decide) (by kernel_rfl) fun _ _ _ _ _ => ?_
  have hlen : l.length = A.length + S.length + 1 + D.length := by rw [hl]; simp only [List.length_append, List.length_singleton]; omega
  have gx : l[A.length + S.length]? = some x := by rw [hl, ← List.append_assoc, List.singleton_append]; exact Reg.get_at _ _ _ _ (by simp)
  have lm := len_map l dc
  unfold maxD at hN
  (refine zw_s (yS (yP rfl (yP rfl (yq rfl (zqA zI ?_))))); refine And.intro ⟨by omega, by omega⟩ ?_)
  (refine yk (yP rfl (yT (zw_c rfl ?_))); refine bcase_split (fun g0 => ?_) (fun g0 => ?_) <;> try simp only [zB] at g0)
  · omega
  · (refine zw_k (zt_n (zw_s (yS (yP rfl (yP rfl (yq rfl (zqA zI ?_))))))); refine And.intro ⟨by omega, by omega⟩ ?_)
    (refine yk (yP rfl (yT (zw_c rfl ?_))); refine bcase_split (fun g1 => ?_) (fun g1 => ?_) <;> try simp only [zB] at g1)
    · refine yS (yP rfl (yA rfl (yU (yP rfl (yA rfl (yT (zw_s (zw_b ?_))))))))
      refine loop_ok' (fun p : Nat × Nat => A.length ≤ p.1 ∧ p.1 ≤ p.2 ∧ p.2 ≤ A.length + S.length ∧ (p.1 - A.length = 0 ∨ ∃ y, S[p.1 - A.length - 1]? = some y ∧ leD y x = true) ∧ (S.length ≤ p.2 - A.length ∨ ∃ y, S[p.2 - A.length]? = some y ∧ leD y x = false)) (fun p => [(0, .ow 100000), (2, .p (i64 m)), (4, .p cmpF), (14, .p (i64 p.1)), (15, .p (i64 p.2))]) (fun _ => [(100000, .row 35 (l.map dc))]) (fun p => p.2 - p.1) (A.length, A.length + S.length) _ (SLe.refl _ _) ⟨by dsimp only; omega, by dsimp only; omega, by dsimp only; omega, .inl (by dsimp only; omega), .inl (by dsimp only; omega)⟩ ⟨rfl, rfl, rfl, av_int (by dsimp only; omega), av_int (by dsimp only; omega), trivial⟩ ⟨rfl, trivial⟩ fun ⟨i, j⟩ hi t h => ?_
      obtain ⟨q1, q2, q3, q4, q5⟩ := hi
      simp only at q1 q2 q3 q4 q5
      (refine zw_s (yS (yP rfl (yP rfl (yP rfl (yT (zw_c rfl ?_)))))); refine bcase_split (fun h1 => ?_) (fun h1 => ?_) <;> try simp only [zB] at h1)
      · have hs2 := shr_half (a := i) (b := j) (by omega)
        obtain ⟨y, hy⟩ := get_of (l := S) (i := (i + j) / 2 - A.length) (by omega)
        have gy : l[(i + j) / 2]? = some y := by
          have := get_in hl hy
          rw [← this]; congr 1; omega
        have b2 := Reg.lt_of_getS gy
        (refine zw_k (zt_n (zw_b (yS (yP rfl (yP rfl (yq rfl (zqA zI ?_))))))); refine And.intro ⟨by dsimp only; omega, by dsimp only; omega⟩ ?_)
        (refine yk (yP rfl (yq rfl (zqA zI ?_))); refine And.intro ⟨by decide, by decide⟩ ?_)
        (refine yk (yq rfl (zqA zI ?_)); refine And.intro ⟨by dsimp only; rw [hs2]; omega, by dsimp only; rw [hs2]; omega⟩ ?_)
        ((refine yk (yA rfl (yT (zw_s (zw_d [] true [true, true, true, true, true, true, true, true, true, true, true, true] rfl (by kernel_rfl) (zp_s rfl (zp_s rfl (zp_s rfl (zp_s rfl (zp_s rfl (zp_s rfl (zp_s rfl (zp_s rfl (zp_s rfl ?_))))))))))))); refine zp_n rfl rfl (zp_q rfl (yD rfl (dq rfl (zq1 zI (zkd (zst_ow (yD rfl (dq rfl (zqA zI ?_)))))))))); refine And.intro ⟨by omega, by rw [lm]; omega⟩ ?_)
        (refine zkd (zst_rp (dq rfl (zqX zI ?_))); refine ⟨(dc x), (idx (show m = ((A.length + S.length : Nat) : Int) by omega) gx).2, ?_⟩)
        (refine zkd (zst_p (dq rfl (zq1 zI (zkd (zst_ow (yD rfl (dq rfl (zqA zI ?_)))))))); refine And.intro ⟨by dsimp only; rw [hs2]; omega, by dsimp only; rw [hs2, lm]; omega⟩ ?_)
        (refine zkd (zst_rp (dq rfl (zqX zI ?_))); refine ⟨(dc y), (idx hs2 gy).2, ?_⟩)
        (refine zkd (zst_p (dq rfl (zqX zI ?_))); refine ⟨_, _, (house_compare x y), ?_⟩)
        (refine zkd (zst_p (yD rfl (yD rfl (zd_0 (zr_q rfl (zt_n (zw_c rfl ?_))))))); refine bcase_split (fun h2 => ?_) (fun h2 => ?_) <;> try simp only [zB] at h2)
        · have hxy : leD y x = true := by
            cases hh : leD y x with
            | true => rfl
            | false => exact absurd ((cmpD_lt x y).2 hh) (by simpa using h2)
          (refine zw_o (yP rfl (yq rfl (zqA zI ?_))); refine And.intro ⟨by dsimp only; rw [hs2]; omega, by dsimp only; rw [hs2]; omega⟩ ?_)
          (refine yk (yA rfl (zo_0 (zb_n (zt_n (zaf_raw ?_))))); refine ⟨((i + j) / 2 + 1, j), _, SLe.refl _ _, ?_⟩)
          exact ⟨⟨by dsimp only; omega, by dsimp only; omega, q3, .inr ⟨y, by dsimp only; rw [← hy]; congr 1; omega, hxy⟩, q5⟩, by dsimp only; omega, ⟨rfl, rfl, rfl, av_int (by dsimp only; rw [hs2]; omega), rfl, trivial⟩, ⟨rfl, trivial⟩⟩
        · have hxy : leD y x = false := (cmpD_lt x y).1 (by simpa using h2)
          (refine zw_o (yP rfl (yA rfl (zo_0 (zb_n (zt_n (zaf_raw ?_)))))); refine ⟨(i, (i + j) / 2), _, SLe.refl _ _, ?_⟩)
          exact ⟨⟨q1, by dsimp only; omega, by dsimp only; omega, q4, .inr ⟨y, hy, hxy⟩⟩, by dsimp only; omega, ⟨rfl, rfl, rfl, rfl, av_int hs2, trivial⟩, ⟨rfl, trivial⟩⟩
      · have e : j = i := by omega
        subst e
        obtain ⟨n, hn⟩ : ∃ n, n = j - A.length := ⟨_, rfl⟩
        rw [← hn] at q4 q5
        have p1 : ∀ e ∈ S.take n, leD e x = true := Reg.take_down hs (fun u v h3 h4 => preD.trans _ _ _ h3 h4) q4
        have p2 : ∀ e ∈ S.drop n, leD e x = false := Reg.drop_up preD hs (fun u v h3 h4 => by
          cases hh : leD v x with
          | false => rfl
          | true => rw [preD.trans _ _ _ h3 hh] at h4; cases h4) q5
        have fe := Reg.put_eq preD (l := S) (u := S.take n) (v := S.drop n) (x := x) (by rw [List.take_append_drop, Reg.stab_id preD hs]) p1 p2
        refine zw_x (zt_x (zt_x (zb_h (zt_n (zw_s (yS (yP rfl (yA rfl (yT (zw_b ?_))))))))))
        refine loop_ok' (fun p : Nat × List Doing => n ≤ p.1 ∧ p.1 ≤ S.length ∧ p.2 = A ++ (S.take p.1 ++ x :: (S.drop p.1 ++ D))) (fun p => [(0, .ow 100000), (14, .p (i64 j)), (17, .p (i64 (a + p.1)))]) (fun p => [(100000, .row 35 (p.2.map dc))]) (fun p => p.1) (S.length, l) _ (SLe.refl _ _) ⟨by dsimp only; omega, Nat.le_refl _, by dsimp only; rw [List.take_length, List.drop_length, hl]; rfl⟩ ⟨rfl, rfl, av_int (by dsimp only; omega), trivial⟩ ⟨rfl, trivial⟩ fun ⟨k, d⟩ hk t h => ?_
        obtain ⟨k0, k1, hd⟩ := hk
        simp only at k0 k1 hd
        (refine zw_s (yS (yP rfl (yP rfl (yP rfl (yT (zw_c rfl ?_)))))); refine bcase_split (fun h3 => ?_) (fun h3 => ?_) <;> try simp only [zB] at h3)
        · obtain ⟨y, hy⟩ := get_of (l := S) (i := k - 1) (by omega)
          have ty : S.take k = S.take (k - 1) ++ [y] := by rw [← take_succ' hy]; congr 1; omega
          have lt : (A ++ S.take (k - 1)).length = A.length + (k - 1) := by simp; omega
          have e0 : d = (A ++ S.take (k - 1)) ++ y :: ([] ++ x :: (S.drop k ++ D)) := by rw [hd, ty]; simp
          have g1 : d[A.length + k]? = some x := by rw [e0]; exact Reg.get_at2 _ _ _ _ _ _ (by rw [lt]; simp; omega)
          have g2 : d[A.length + (k - 1)]? = some y := by rw [e0]; exact Reg.get_at _ _ _ _ lt.symm
          have i1 : a + k = ((A.length + k : Nat) : Int) := by omega
          have i2 : a + k - 1 = ((A.length + (k - 1) : Nat) : Int) := by omega
          have b1 := Reg.lt_of_getS g1
          have b2 := Reg.lt_of_getS g2
          have ld := len_map d dc
          have hdl : d.length = l.length := by rw [hd, hlen]; simp only [List.length_append, List.length_cons, List.length_take, List.length_drop]; omega
          ((refine zw_k (zt_n (zw_s (zw_b (zw_d [] false [true, true, true, true, true, true, true, true, true, true, true, true, true, true, true, true, true, true] rfl (by kernel_rfl) (zp_q rfl (dq rfl (zq1 zI (zkd (zst_ow (yD rfl (dq rfl (zq1 zI (zkd ?_))))))))))))); refine zst_ow (yD rfl (dq rfl (zqA zI ?_)))); refine And.intro ⟨by dsimp only; omega, by dsimp only; omega⟩ ?_)
          (refine zkd (zst_p (dq rfl (zq1 zI (zkd (zst_ow (yD rfl (dq rfl (zqA zI ?_)))))))); refine And.intro ⟨by dsimp only; omega, by dsimp only; omega⟩ ?_)
          (refine zkd (zst_p (dq rfl (zqA zI ?_))); refine And.intro ⟨by dsimp only; omega, by dsimp only; rw [ld]; omega⟩ ?_)
          (refine zkd (zst_rp (dq rfl (zqX zI ?_))); refine ⟨(dc y), (idx i2 g2).2, ?_⟩)
          (refine zkd (zst_p (dq rfl (zq1 zI (zkd (zst_ow (yD rfl (dq rfl (zqA zI ?_)))))))); refine And.intro ⟨by dsimp only; omega, by dsimp only; rw [ld]; omega⟩ ?_)
          (refine zkd (zst_rp (dq rfl (zqX zI ?_))); refine ⟨(dc x), (idx i1 g1).2, ?_⟩)
          (refine zkd (zst_p (dq rfl (zqA zI ?_))); refine And.intro ⟨by dsimp only; omega, by dsimp only; rw [ld]; omega⟩ ?_)
          (refine zkd (zst_rp (dq rfl (zqX zI ?_))); refine ⟨(dc x), (idx i1 g1).2, ?_⟩)
          (refine zkde rfl (zst_e (zst_0 (dq rfl (zqA zI ?_)))); refine And.intro ⟨by dsimp only; omega, by dsimp only; rw [List.length_set, ld]; omega⟩ ?_)
          (refine zkd (zst_rp (dq rfl (zqX zI ?_))); refine ⟨(dc y), (get_set i1 i2 (by omega) g2), ?_⟩)
          (refine zkde rfl (zst_e (zst_0 (zd_0 (zr_q rfl (zb_n (zt_n (zw_o (yP rfl (yq rfl (zqA zI ?_)))))))))); refine And.intro ⟨by dsimp only; omega, by dsimp only; omega⟩ ?_)
          (refine yk (yA rfl (yT (zaf_raw ?_))); refine ⟨(k - 1, (d.set (A.length + k) y).set (A.length + (k - 1)) x), _, SLe.refl _ _, ?_⟩)
          refine ⟨⟨by dsimp only; omega, by dsimp only; omega, ?_⟩, by dsimp only; omega, ⟨rfl, rfl, av_int (by dsimp only; omega), trivial⟩, ⟨rows_set2 i1 i2, trivial⟩⟩
          dsimp only
          rw [e0, Reg.swap_set' (A ++ S.take (k - 1)) [] (S.drop k ++ D) y x (A.length + (k - 1)) (A.length + k) lt.symm (by rw [lt]; simp; omega), take_drop_eq hy, show k - 1 + 1 = k by omega]
          simp
        · refine zw_x (zt_x (zt_x (zb_h (zt_n (zw_r (zt_r (ze_r zi ?_)))))))
          refine And.intro rfl ⟨rows_eq ?_, trivial⟩
          have e : k = n := by omega
          rw [hd, hr, e, fe]
          simp
    · omega
end Go.Proofs.YtngikpapepnkaaaGreatDoor.M
