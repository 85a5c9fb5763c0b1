/- By the machine: stable sorting, two sorted lists merged in place. -/
import Derived.Test.YtngikpapepnkaaaGreatDoorMSort3
set_option linter.unusedSimpArgs false
set_option linter.unusedVariables false
namespace Go.Proofs.YtngikpapepnkaaaGreatDoor.M
open Go.AM Go.RowKit
open Reg (stab SortedL SameKinds)

/-- where two sorted lists are parted -/
theorem parted {S T : List Doing} (hs : SortedL leD S) (ht : SortedL leD T) (i j : Nat) (c1 : i = 0 ∨ T.length ≤ j ∨ ∃ u v, S[i - 1]? = some u ∧ T[j]? = some v ∧ leD u v = true) (c2 : S.length ≤ i ∨ j = 0 ∨ ∃ u v, S[i]? = some u ∧ T[j - 1]? = some v ∧ leD u v = false) :
    stab leD (S ++ T) = stab leD (S.take i ++ T.take j) ++ stab leD (S.drop i ++ T.drop j) := by
  have := Reg.merge_eq preD (a1 := S.take i) (a2 := S.drop i) (b1 := T.take j) (b2 := T.drop j) (by rw [List.take_append_drop]; exact hs) (by rw [List.take_append_drop]; exact ht)
    (fun x hx y hy => by
      rcases c1 with c | c | ⟨u, v, h1, h2, h3⟩
      · rw [c, List.take_zero] at hx; cases hx
      · rw [List.drop_eq_nil_of_le c] at hy; cases hy
      · have q1 := Reg.take_down hs (P := fun e => leD e v = true) (fun a b h4 h5 => preD.trans _ _ _ h4 h5) (.inr ⟨u, h1, h3⟩) x hx
        have q2 := Reg.drop_up preD ht (P := fun e => leD v e = true) (fun a b h4 h5 => preD.trans _ _ _ h5 h4) (.inr ⟨v, h2, preD.refl v⟩) y hy
        exact preD.trans _ _ _ q1 q2)
    (fun x hx y hy => by
      rcases c2 with c | c | ⟨u, v, h1, h2, h3⟩
      · rw [List.drop_eq_nil_of_le c] at hx; cases hx
      · rw [c, List.take_zero] at hy; cases hy
      · have q1 := Reg.drop_up preD hs (P := fun e => leD u e = true) (fun a b h4 h5 => preD.trans _ _ _ h5 h4) (.inr ⟨u, h1, preD.refl u⟩) x hx
        have q2 := Reg.take_down ht (P := fun e => leD e v = true) (fun a b h4 h5 => preD.trans _ _ _ h4 h5) (.inr ⟨v, h2, preD.refl v⟩) y hy
        cases hh : leD x y with
        | false => rfl
        | true => rw [preD.trans _ _ _ q1 (preD.trans _ _ _ hh q2)] at h3; cases h3)
  rw [List.take_append_drop, List.take_append_drop] at this
  exact this
theorem sorted_take {S : List Doing} (hs : SortedL leD S) (i : Nat) : SortedL leD (S.take i) := hs.sublist (List.take_sublist _ _)
theorem sorted_drop {S : List Doing} (hs : SortedL leD S) (i : Nat) : SortedL leD (S.drop i) := hs.sublist (List.drop_sublist _ _)
set_option maxRecDepth 100000 in
set_option maxHeartbeats 2000000 in
theorem symMerge : ∀ (N : Nat) (A S T D l r : List Doing), S.length + T.length ≤ N → l = A ++ (S ++ (T ++ D)) → r = A ++ (stab leD (S ++ T) ++ D) → SortedL leD S → SortedL leD T → 0 < S.length → 0 < T.length → ∀ (a m b : Int), a = A.length → m = (A.length : Int) + S.length → b = (A.length : Int) + S.length + T.length → l.length ≤ maxD →
    ACalls C 42 [.row 35 (l.map dc), .pv (i64 a), .pv (i64 m), .pv (i64 b), .pv cmpF] (.tu []) [.row (r.map dc)] := by
  intro N
  induction N with
  | zero => intro A S T D l r h _ _ _ _ h1; omega
  | succ N ih =>
  intro A S T D l r hn hl hr hs ht s0 t0 a m b ha hm hb hN
  by_cases s1 : S.length = 1
  · obtain ⟨x, rfl⟩ := List.length_eq_one_iff.1 s1
    exact symMerge_left A T D l r x hl hr ht t0 a m b ha (by simpa using hm) (by simpa using hb) hN
  by_cases t1 : T.length = 1
  · obtain ⟨x, rfl⟩ := List.length_eq_one_iff.1 t1
    exact symMerge_right A S D l r x hl hr hs s0 s1 a m b ha hm (by simpa using hb) hN
  have hlen : l.length = A.length + S.length + T.length + D.length := by rw [hl]; simp only [List.length_append]; omega
  have hl2 : l = (A ++ S) ++ (T ++ D) := by rw [hl]; simp
  have lm := len_map l dc
  have hN' := hN
  unfold maxD at hN
  have hs2 := shr_half (a := A.length) (b := A.length + S.length + T.length) (by omega)
  obtain ⟨mid, hmid⟩ : ∃ mid, mid = (A.length + (A.length + S.length + T.length)) / 2 := ⟨_, rfl⟩
  rw [← hmid] at hs2
  have hsa : (IntKind.u64.wrap (a + b)).fdiv (2 ^ min (Int.toNat 1) IntKind.u64.bits) = (mid : Int) := by
    rw [← hs2, ha, hb]; norm_cast
  refine fun_go hC Tryz.func42 rfl rfl 220 rfl (by decide) (by kernel_rfl) fun _ _ _ _ _ => ?_
  (refine zw_s (yS (yP rfl (yP rfl (yq rfl (zqA zI ?_))))); refine And.intro ⟨by omega, by omega⟩ ?_)
  (refine yk (yP rfl (yT (zw_c rfl ?_))); refine bcase_split (fun g0 => ?_) (fun g0 => ?_) <;> try simp only [zB] at g0)
  · omega
  · (refine zw_k (zt_n (zw_s (yS (yP rfl (yP rfl (yq rfl (zqA zI ?_))))))); refine And.intro ⟨by omega, by omega⟩ ?_)
    (refine yk (yP rfl (yT (zw_c rfl ?_))); refine bcase_split (fun g1 => ?_) (fun g1 => ?_) <;> try simp only [zB] at g1)
    · omega
    · (refine zw_k (zt_n (yS (yP rfl (yP rfl (yq rfl (zqA zI ?_)))))); refine And.intro ⟨by omega, by omega⟩ ?_)
      (refine yk (yP rfl (yq rfl (zqA zI ?_))); refine And.intro ⟨by decide, by decide⟩ ?_)
      (refine yk (yq rfl (zqA zI ?_)); refine And.intro ⟨by rw [hsa]; omega, by rw [hsa]; omega⟩ ?_)
      (refine yk (yA rfl (yU (yP rfl (yP rfl (yq rfl (zqA zI ?_)))))); refine And.intro ⟨by rw [hsa]; omega, by rw [hsa]; omega⟩ ?_)
      refine yk (yA rfl (yU (yA rfl (yA rfl (yT ?_)))))
      refine zw_s (cut' (fun p : Nat × Nat => A.length ≤ p.1 ∧ p.1 ≤ p.2 ∧ p.2 ≤ mid ∧ p.2 ≤ A.length + S.length ∧ mid + S.length ≤ p.1 + S.length + T.length ∧ (p.1 = A.length ∨ mid + (A.length + S.length) = p.1 + (A.length + S.length + T.length)) ∧ (p.2 = mid ∨ p.2 = A.length + S.length)) (fun p => [(0, .ow 100000), (1, .p (i64 a)), (2, .p (i64 m)), (3, .p (i64 b)), (4, .p cmpF), (18, .p (i64 mid)), (19, .p (i64 (mid + m))), (20, .p (i64 p.1)), (21, .p (i64 p.2))]) (fun _ => [(100000, .row 35 (l.map dc))]) (fun ⟨lo, hi⟩ hp t h => ?_) ?_)
      · obtain ⟨p1, p2, p3, p4, p5, p6, p7⟩ := hp
        simp only at p1 p2 p3 p4 p5 p6 p7
        have cp : ((mid : Int) + m - 1) = ((mid + (A.length + S.length) - 1 : Nat) : Int) := by omega
        (refine yS (yP rfl (yq rfl (zqA zI ?_))); refine And.intro ⟨by omega, by omega⟩ ?_)
        refine yk (yA rfl (yT (zw_s (zw_b ?_))))
        refine loop_ok' (fun p : Nat × Nat => lo ≤ p.1 ∧ p.1 ≤ p.2 ∧ p.2 ≤ hi ∧ (p.1 = lo ∨ ∃ u v, S[p.1 - A.length - 1]? = some u ∧ T[mid - p.1]? = some v ∧ leD u v = true) ∧ (p.2 = hi ∨ ∃ u v, S[p.2 - A.length]? = some u ∧ T[mid - p.2 - 1]? = some v ∧ leD u v = false)) (fun p => [(0, .ow 100000), (1, .p (i64 a)), (2, .p (i64 m)), (3, .p (i64 b)), (4, .p cmpF), (18, .p (i64 mid)), (19, .p (i64 (mid + m))), (20, .p (i64 p.1)), (21, .p (i64 p.2)), (22, .p (i64 (mid + m - 1)))]) (fun _ => [(100000, .row 35 (l.map dc))]) (fun p => p.2 - p.1) (lo, hi) _ (SLe.refl _ _) ⟨Nat.le_refl _, p2, Nat.le_refl _, .inl rfl, .inl rfl⟩ ⟨rfl, rfl, rfl, rfl, rfl, rfl, rfl, rfl, rfl, rfl, trivial⟩ ⟨rfl, trivial⟩ fun ⟨i, j⟩ hi' t h => ?_
        obtain ⟨q1, q2, q3, q4, q5⟩ := hi'
        simp only at q1 q2 q3 q4 q5
        (refine zw_s (yS (yP rfl (yP rfl (yP rfl (yT (zw_c rfl ?_)))))); refine bcase_split (fun h1 => ?_) (fun h1 => ?_) <;> try simp only [zB] at h1)
        · have hs3 := shr_half (a := i) (b := j) (by omega)
          obtain ⟨c, hc⟩ : ∃ c, c = (i + j) / 2 := ⟨_, rfl⟩
          rw [← hc] at hs3
          obtain ⟨u, hu⟩ := get_of (l := S) (i := c - A.length) (by omega)
          obtain ⟨v, hv⟩ := get_of (l := T) (i := mid - c - 1) (by omega)
          have gu : l[c]? = some u := by
            have := get_in hl hu
            rw [← this]; congr 1; omega
          have gv : l[mid + (A.length + S.length) - 1 - c]? = some v := by
            have := get_in hl2 hv
            rw [← this, List.length_append]; congr 1; omega
          have b1 := Reg.lt_of_getS gu
          have b2 := Reg.lt_of_getS gv
          have iv : (mid : Int) + m - 1 - c = ((mid + (A.length + S.length) - 1 - c : Nat) : Int) := by omega
          (refine zw_k (zt_n (zw_b (yS (yP rfl (yP rfl (yq rfl (zqA zI ?_))))))); refine And.intro ⟨by dsimp only; omega, by dsimp only; omega⟩ ?_)
          (refine yk (yP rfl (yq rfl (zqA zI ?_))); refine And.intro ⟨by decide, by decide⟩ ?_)
          (refine yk (yq rfl (zqA zI ?_)); refine And.intro ⟨by dsimp only; rw [hs3]; omega, by dsimp only; rw [hs3]; omega⟩ ?_)
          ((refine yk (yA rfl (yT (zw_s (zw_d [] true [true, true, true, true, true, true, true, true, true, true, true, true, true, true] rfl (by kernel_rfl) (zp_s rfl (zp_s rfl (zp_s rfl (zp_s rfl (zp_s rfl (zp_s rfl (zp_s rfl (zp_s rfl (zp_s rfl ?_))))))))))))); refine zp_s rfl (zp_s rfl (zp_n rfl rfl (zp_q rfl (yD rfl (dq rfl (zq1 zI (zkd (zst_ow (yD rfl (yD rfl (dq rfl (zqA zI ?_))))))))))))); refine And.intro ⟨by dsimp only; rw [hs3]; omega, by dsimp only; rw [hs3]; omega⟩ ?_)
          (refine zkd (zst_p (dq rfl (zqA zI ?_))); refine And.intro ⟨by dsimp only; rw [hs3]; omega, by dsimp only; rw [hs3, lm]; omega⟩ ?_)
          (refine zkd (zst_rp (dq rfl (zqX zI ?_))); refine ⟨(dc v), (idx (by dsimp only; rw [hs3]; exact iv) gv).2, ?_⟩)
          (refine zkd (zst_p (dq rfl (zq1 zI (zkd (zst_ow (yD rfl (dq rfl (zqA zI ?_)))))))); refine And.intro ⟨by dsimp only; rw [hs3]; omega, by dsimp only; rw [hs3, lm]; omega⟩ ?_)
          (refine zkd (zst_rp (dq rfl (zqX zI ?_))); refine ⟨(dc u), (idx hs3 gu).2, ?_⟩)
          (refine zkd (zst_p (dq rfl (zqX zI ?_))); refine ⟨_, _, (house_compare v u), ?_⟩)
          (refine zkd (zst_p (yD rfl (yD rfl (zd_0 (zr_q rfl (zt_n (zw_c rfl ?_))))))); refine bcase_split (fun h2 => ?_) (fun h2 => ?_) <;> try simp only [zB] at h2)
          · have hxy : leD u v = true := by
              cases hh : leD u v with
              | true => rfl
              | false => exact absurd ((cmpD_lt v u).2 hh) (by simpa using h2)
            (refine zw_o (yP rfl (yq rfl (zqA zI ?_))); refine And.intro ⟨by dsimp only; rw [hs3]; omega, by dsimp only; rw [hs3]; omega⟩ ?_)
            (refine yk (yA rfl (zo_0 (zb_n (zt_n (zaf_raw ?_))))); refine ⟨(c + 1, j), _, SLe.refl _ _, ?_⟩)
            exact ⟨⟨by dsimp only; omega, by dsimp only; omega, q3, .inr ⟨u, v, by dsimp only; rw [← hu]; congr 1; omega, by dsimp only; rw [← hv]; congr 1, hxy⟩, q5⟩, by dsimp only; omega, ⟨rfl, rfl, rfl, rfl, rfl, rfl, rfl, av_int (by dsimp only; rw [hs3]; omega), rfl, rfl, trivial⟩, ⟨rfl, trivial⟩⟩
          · have hxy : leD u v = false := (cmpD_lt v u).1 (by simpa using h2)
            (refine zw_o (yP rfl (yA rfl (zo_0 (zb_n (zt_n (zaf_raw ?_)))))); refine ⟨(i, c), _, SLe.refl _ _, ?_⟩)
            exact ⟨⟨q1, by dsimp only; omega, by dsimp only; omega, q4, .inr ⟨u, v, hu, hv, hxy⟩⟩, by dsimp only; omega, ⟨rfl, rfl, rfl, rfl, rfl, rfl, rfl, rfl, av_int hs3, rfl, trivial⟩, ⟨rfl, trivial⟩⟩
        · have e : j = i := by omega
          subst e
          have part := parted hs ht (j - A.length) (mid - j) (by
            rcases q4 with q | ⟨u, v, q⟩
            · omega
            · exact .inr (.inr ⟨u, v, q⟩)) (by
            rcases q5 with q | ⟨u, v, q⟩
            · omega
            · exact .inr (.inr ⟨u, v, q⟩))
          (refine zw_x (zt_x (zt_x (zb_h (zt_n (yS (yP rfl (yP rfl (yq rfl (zqA zI ?_))))))))); refine And.intro ⟨by dsimp only; omega, by dsimp only; omega⟩ ?_)
          obtain ⟨A1, hA1⟩ : ∃ A1, A1 = S.take (j - A.length) := ⟨_, rfl⟩
          obtain ⟨A2, hA2⟩ : ∃ A2, A2 = S.drop (j - A.length) := ⟨_, rfl⟩
          obtain ⟨B1, hB1⟩ : ∃ B1, B1 = T.take (mid - j) := ⟨_, rfl⟩
          obtain ⟨B2, hB2⟩ : ∃ B2, B2 = T.drop (mid - j) := ⟨_, rfl⟩
          have eS : S = A1 ++ A2 := by rw [hA1, hA2, List.take_append_drop]
          have eT : T = B1 ++ B2 := by rw [hB1, hB2, List.take_append_drop]
          have n1 : A1.length = j - A.length := by rw [hA1, List.length_take]; omega
          have n2 : A2.length = A.length + S.length - j := by rw [hA2, List.length_drop]; omega
          have n3 : B1.length = mid - j := by rw [hB1, List.length_take]; omega
          have n4 : B2.length = T.length - (mid - j) := by rw [hB2, List.length_drop]
          have sA1 : SortedL leD A1 := by rw [hA1]; exact sorted_take hs _
          have sA2 : SortedL leD A2 := by rw [hA2]; exact sorted_drop hs _
          have sB1 : SortedL leD B1 := by rw [hB1]; exact sorted_take ht _
          have sB2 : SortedL leD B2 := by rw [hB2]; exact sorted_drop ht _
          rw [← hA1, ← hA2, ← hB1, ← hB2] at part
          have r3 : r = A ++ (stab leD (A1 ++ B1) ++ (stab leD (A2 ++ B2) ++ D)) := by rw [hr, part]; simp
          have l0 : l = (A ++ A1) ++ (A2 ++ (B1 ++ (B2 ++ D))) := by rw [hl, eS, eT]; simp
          obtain ⟨d1, e1⟩ : ∃ d1, d1 = (A ++ A1) ++ (B1 ++ (A2 ++ (B2 ++ D))) := ⟨_, rfl⟩
          obtain ⟨d2, e2⟩ : ∃ d2, d2 = A ++ (stab leD (A1 ++ B1) ++ (A2 ++ (B2 ++ D))) := ⟨_, rfl⟩
          have m1 : d1.length = l.length := by rw [e1, l0]; simp only [List.length_append]; omega
          have m2 : d2.length = l.length := by rw [e2, l0]; simp only [List.length_append, Reg.stab_length]; omega
          have lA : (A ++ A1).length = j := by rw [List.length_append]; omega
          have lB : (A ++ stab leD (A1 ++ B1)).length = mid := by rw [List.length_append, Reg.stab_length, List.length_append]; omega
          refine yk (yA rfl (yT ?_))
          refine zw_s (cut' (fun _ : Unit => True) (fun _ => [(0, .ow 100000), (1, .p (i64 a)), (3, .p (i64 b)), (4, .p cmpF), (18, .p (i64 mid)), (20, .p (i64 j)), (24, .p (i64 (mid + m - j)))]) (fun _ => [(100000, .row 35 (d1.map dc))]) (fun _ _ t h => ?_) ?_)
          · skip
            refine zw_s (cut' (fun _ : Unit => True) (fun _ => [(0, .ow 100000), (3, .p (i64 b)), (4, .p cmpF), (18, .p (i64 mid)), (24, .p (i64 (mid + m - j)))]) (fun _ => [(100000, .row 35 (d2.map dc))]) (fun _ _ t h => ?_) ?_)
            · (refine yS (yP rfl (yP rfl (yP rfl (yP rfl (yg rfl ?_))))); refine bcase_split (fun k5 => ?_) (fun k5 => ?_) <;> try simp only [zB] at k5)
              · (refine zg_t (zs_q rfl rfl (zq1 zI (yk (y1 rfl (y1 rfl (yP rfl (yT (zw_c rfl ?_)))))))); refine bcase_split (fun k6 => ?_) (fun k6 => ?_) <;> try simp only [zB] at k6)
                · (refine zw_o (yq rfl (zq1 zI (zkq (zst_ow (yP rfl (yP rfl (yP rfl (yP rfl (yn rfl (zqX zI ?_)))))))))); refine ⟨_, _, (ih (A ++ stab leD (A1 ++ B1)) A2 B2 D d2 r (by omega) (by rw [e2]; simp) (by rw [r3]; simp) sA2 sB2 (by omega) (by omega) mid (mid + m - j) b (by omega) (by omega) (by omega) (by rw [m2]; exact hN')), ?_⟩)
                  refine zkn rfl rfl (zst_e (zst_tu (zo_0 (ze_n zi ?_))))
                  exact And.intro rfl ⟨rfl, trivial⟩
                · refine zw_k (ze_n zi ?_)
                  refine And.intro rfl ⟨rows_eq ?_, trivial⟩
                  have e : B2 = [] := List.eq_nil_of_length_eq_zero (by omega)
                  rw [e2, r3, e, List.append_nil, Reg.stab_id preD sA2]
                  simp
              · refine zg_f (zst_p (y0 rfl (y0 rfl (yP rfl (yT (zw_c rfl (zc_f (zw_k (ze_n zi ?_)))))))))
                refine And.intro rfl ⟨rows_eq ?_, trivial⟩
                have e : A2 = [] := List.eq_nil_of_length_eq_zero (by omega)
                rw [e2, r3, e, List.nil_append, List.nil_append, Reg.stab_id preD sB2]
            · (refine yS (yP rfl (yP rfl (yP rfl (yP rfl (yg rfl ?_))))); refine bcase_split (fun k3 => ?_) (fun k3 => ?_) <;> try simp only [zB] at k3)
              · (refine zg_t (zs_q rfl rfl (zq1 zI (yk (y1 rfl (y1 rfl (yP rfl (yT (zw_c rfl ?_)))))))); refine bcase_split (fun k4 => ?_) (fun k4 => ?_) <;> try simp only [zB] at k4)
                · (refine zw_o (yq rfl (zq1 zI (zkq (zst_ow (yP rfl (yP rfl (yP rfl (yP rfl (yn rfl (zqX zI ?_)))))))))); refine ⟨_, _, (ih A A1 B1 (A2 ++ (B2 ++ D)) d1 d2 (by omega) (by rw [e1]; simp) e2 sA1 sB1 (by omega) (by omega) a j mid ha (by omega) (by omega) (by rw [m1]; exact hN')), ?_⟩)
                  refine zkn rfl rfl (zst_e (zst_tu (yT (zaf_raw (zX zi ?_)))))
                  exact ⟨(), trivial, ⟨rfl, rfl, rfl, rfl, rfl, trivial⟩, ⟨rfl, trivial⟩⟩
                · refine zw_k (zt_n (zaf_raw (zX zi ?_)))
                  refine ⟨(), trivial, ⟨rfl, rfl, rfl, rfl, rfl, trivial⟩, ⟨rows_eq ?_, trivial⟩⟩
                  have e : B1 = [] := List.eq_nil_of_length_eq_zero (by omega)
                  rw [e1, e2, e, List.append_nil, Reg.stab_id preD sA1]
                  simp
              · refine zg_f (zst_p (y0 rfl (y0 rfl (yP rfl (yT (zw_c rfl (zc_f (zw_k (zt_n (zaf_raw (zX zi ?_)))))))))))
                refine ⟨(), trivial, ⟨rfl, rfl, rfl, rfl, rfl, trivial⟩, ⟨rows_eq ?_, trivial⟩⟩
                have e : A1 = [] := List.eq_nil_of_length_eq_zero (by omega)
                rw [e1, e2, e, List.nil_append, Reg.stab_id preD sB1]
                simp
          · (refine yS (yP rfl (yP rfl (yP rfl (yP rfl (yg rfl ?_))))); refine bcase_split (fun k1 => ?_) (fun k1 => ?_) <;> try simp only [zB] at k1)
            · (refine zg_t (zs_q rfl rfl (zq1 zI (yk (y1 rfl (y1 rfl (yP rfl (yT (zw_c rfl ?_)))))))); refine bcase_split (fun k2 => ?_) (fun k2 => ?_) <;> try simp only [zB] at k2)
              · (refine zw_o (yq rfl (zq1 zI (zkq (zst_ow (yP rfl (yP rfl (yP rfl (yP rfl (yn rfl (zqX zI ?_)))))))))); refine ⟨_, _, (rotate (A ++ A1) A2 B1 (B2 ++ D) l d1 l0 e1 (by omega) (by omega) j m (mid + m - j) (by omega) (by omega) (by omega) hN'), ?_⟩)
                refine zkn rfl rfl (zst_e (zst_tu (yT (zaf_raw (zX zi ?_)))))
                exact ⟨(), trivial, ⟨rfl, rfl, rfl, rfl, rfl, rfl, rfl, trivial⟩, ⟨rfl, trivial⟩⟩
              · refine zw_k (zt_n (zaf_raw (zX zi ?_)))
                refine ⟨(), trivial, ⟨rfl, rfl, rfl, rfl, rfl, rfl, rfl, trivial⟩, ⟨rows_eq ?_, trivial⟩⟩
                have e : B1 = [] := List.eq_nil_of_length_eq_zero (by omega)
                rw [e1, l0, e]; rfl
            · refine zg_f (zst_p (y0 rfl (y0 rfl (yP rfl (yT (zw_c rfl (zc_f (zw_k (zt_n (zaf_raw (zX zi ?_)))))))))))
              refine ⟨(), trivial, ⟨rfl, rfl, rfl, rfl, rfl, rfl, rfl, trivial⟩, ⟨rows_eq ?_, trivial⟩⟩
              have e : A2 = [] := List.eq_nil_of_length_eq_zero (by omega)
              rw [e1, l0, e]; rfl
      · (refine yS (yP rfl (yP rfl (yP rfl (yT (zw_c rfl ?_))))); refine bcase_split (fun g2 => ?_) (fun g2 => ?_) <;> try simp only [zB] at g2)
        · rw [hsa] at g2
          (refine yS (yP rfl (yP rfl (yq rfl (zqA zI ?_)))); refine And.intro ⟨by rw [hsa]; omega, by rw [hsa]; omega⟩ ?_)
          refine yk (yA rfl (yT (zw_o (yP rfl (yA rfl (yT (zaf_raw (zX zi ?_))))))))
          exact ⟨(mid - T.length, mid), ⟨by dsimp only; omega, by dsimp only; omega, by dsimp only; omega, by dsimp only; omega, by dsimp only; omega, by dsimp only; omega, by dsimp only; omega⟩, ⟨rfl, rfl, rfl, rfl, rfl, av_int hsa, av_int (by rw [hsa]), av_int (by dsimp only; rw [hsa]; omega), av_int hsa, trivial⟩, ⟨rfl, trivial⟩⟩
        · rw [hsa] at g2
          refine yS (yP rfl (yA rfl (yT (zw_o (yP rfl (yA rfl (yT (zaf_raw (zX zi ?_)))))))))
          exact ⟨(A.length, A.length + S.length), ⟨by dsimp only; omega, by dsimp only; omega, by dsimp only; omega, by dsimp only; omega, by dsimp only; omega, by dsimp only; omega, by dsimp only; omega⟩, ⟨rfl, rfl, rfl, rfl, rfl, av_int hsa, av_int (by rw [hsa]), av_int ha, av_int (by dsimp only; omega), trivial⟩, ⟨rfl, trivial⟩⟩
end Go.Proofs.YtngikpapepnkaaaGreatDoor.M
