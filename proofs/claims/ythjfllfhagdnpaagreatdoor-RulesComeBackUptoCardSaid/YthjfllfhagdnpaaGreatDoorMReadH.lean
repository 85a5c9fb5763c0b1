/- By the machine: rules read, of the house. -/
import Derived.Test.YthjfllfhagdnpaaGreatDoorMReadA
import Derived.Test.YthjfllfhagdnpaaGreatDoorMLineH
set_option linter.unusedSimpArgs false
set_option linter.unusedVariables false
namespace Go.Proofs.YthjfllfhagdnpaaGreatDoor.M
open Go.AM Go.RowKit Go.Lib Go.Proofs.YthjfllfhagdnpaaGreatDoor.Num
open Reg (Rect Spans Band)

set_option maxRecDepth 100000 in
set_option maxHeartbeats 4000000 in
theorem house_Read (s : ByteArray) (hs : s.size < 4294967281) : ACalls C 43 [.pv (str s)] (.tu [.ag (rl (readR s).1), i64 (readR s).2.1, i64 (readR s).2.2]) [] := by
  refine fun_go hC Tryz.func43 rfl rfl 48 rfl (by decide) (by kernel_rfl) fun _ _ _ _ _ => ?_
  ((refine yS (yn rfl (zq1 zI (zkns (zst_bx (yA rfl (yA rfl (yT (zw_s (yS (yP rfl (yP rfl (yP rfl (yT ?_))))))))))))); refine zw_c rfl ?_); refine bcase_split (fun h1 => ?_) (fun h1 => ?_) <;> try simp only [zB] at h1)
  · have h1 : 200000 < s.size := by have : (200000 : Int) < s.size := h1; omega
    rw [read_big h1]
    (refine yS (yP rfl (yq rfl (zq1 zI (zkq (zst_e (zst_0 (yA rfl (yA rfl (yT (zw_r (zt_r (ze_r zi ?_)))))))))))); refine And.intro ?_ trivial)
    rfl
  · have h1 : ¬ 200000 < s.size := by have : ¬ (200000 : Int) < s.size := h1; omega
    have e0 : readR s = endR (readF (s.size + 1) r0 s 0) := by rw [readR, if_neg h1]
    generalize readR s = R at e0 ⊢
    generalize hZ : readF (s.size + 1) r0 s 0 = Z at e0
    refine zw_k (zt_n (zw_sl ?_))
    refine zw_o (yn rfl (zq1 zI (zkns (zst_bx (yT (zaf_raw ?_))))))
    refine zSL ((SLe.nilCell (by exact hC) _ 5 5 90000 169 _ _ (by decide) (by decide) (by exact rfl) (by exact rfl) (by exact rfl) (by decide)).trans ((SLe.nilCell (by exact hC) _ 5 6 90001 171 _ _ (by decide) (by decide) (by exact rfl) (by exact rfl) (by exact rfl) (by decide)).trans (SLe.pack (by exact hC) _ 5 (cs := hr r0) (by exact rfl) (by exact rfl) (by exact ⟨rfl, rfl, rfl, rfl, rfl, rfl, rfl, trivial⟩)))) ?_
    refine zw_sl ?_
    refine yS (yA rfl (yT (zw_b ?_)))
    refine loop_ok' (fun x : Nat × Rules × ByteArray × Nat => x.2.2.1.size < x.1 ∧ x.2.2.2 + x.2.2.1.size ≤ 200000 ∧ rdOK x.2.1 x.2.2.2 ∧ readF x.1 x.2.1 x.2.2.1 x.2.2.2 = Z)
      (fun x => [(0, .p (str x.2.2.1)), (2, .bx 2 0), (5, .bx 5 0), (6, .p (i64 x.2.2.2))])
      (fun x => [(2, .box [.p (i64 0), .p (i64 0), .p (i64 0), .p (i64 0), .p (i64 0), .nl, .nl]), (5, .hbox (hr x.2.1))]) (fun x => x.1) (s.size + 1, r0, s, 0) _ (SLe.refl _ _) ⟨Nat.lt_succ_self _, by simp only; omega, ⟨(fun c h => by cases h), Nat.zero_le _, Nat.zero_le _⟩, hZ⟩ ⟨rfl, rfl, rfl, rfl, trivial⟩ ⟨rfl, rfl, trivial⟩ fun ⟨f, r, t, k⟩ hi t' h' => ?_
    obtain ⟨g1, g2, g3, g4⟩ := hi
    simp only at g1 g2 g3 g4
    obtain ⟨f, rfl⟩ : ∃ m, f = m + 1 := ⟨f - 1, by omega⟩
    have fail : Z = .inl k → [PV.ag (rl r0), i64 ((k : Int) + 1), i64 10] = [PV.ag (rl R.1), i64 R.2.1, i64 R.2.2] := fun h => by
      rw [e0, h]; rfl
    refine zw_s ?_
    refine cut' (fun _ : Unit => ¬ (t = ByteArray.empty ∧ k ≠ 0)) (fun _ => [(0, .p (str t)), (2, .bx 2 0), (5, .bx 5 0), (6, .p (i64 k))]) (fun _ => [(2, .box [.p (i64 0), .p (i64 0), .p (i64 0), .p (i64 0), .p (i64 0), .nl, .nl]), (5, .hbox (hr r))]) (fun _ hgo t' h' => ?_) ?_
    · have hcut := cut_calls t (by omega)
      cases hcb : cutB t with
      | false =>
        rw [hcb] at hcut
        have hz := g4.symm.trans (readF_cut hgo hcb)
        (refine zw_s (zw_b (yS (yP rfl (yn rfl (zqX zI ?_))))); refine ⟨_, _, hcut, ?_⟩)
        ((refine zkn rfl rfl (zst_tu (yq rfl (zq1 zI (zkq (zst_tu (yP rfl (yP rfl (yP rfl (yA rfl (yA rfl (yA rfl (yT (zw_s ?_))))))))))))); refine yS (yP rfl (yP rfl (yP rfl (y0 rfl (y0 rfl (y0 rfl (y0 rfl (yP rfl (yT (zw_c rfl (zc_t (yS (yP rfl ?_))))))))))))); refine yP rfl (yq rfl (zqA zI ?_))); refine And.intro ⟨by omega, by omega⟩ ?_)
        ((refine yk (yq rfl (zq1 zI (zkq (zst_e (zst_0 (yA rfl (yA rfl (yT (zw_r (zt_r (zb_r (zt_r (zt_r ?_))))))))))))); refine zb_r (zt_r (ze_r zi ?_))); refine And.intro ?_ trivial)
        exact fail hz
      | true =>
        rw [hcb] at hcut
        obtain ⟨c1, c2⟩ := cut_sizes hcb
        have hline := house_line r (by have := g3.2.1; omega) (by have := g3.2.2; omega) (cutA t) (by omega) k
        (refine zw_s (zw_b (yS (yP rfl (yn rfl (zqX zI ?_))))); refine ⟨_, _, hcut, ?_⟩)
        cases hl : lineR r (cutA t) k with
        | none =>
          rw [hl] at hline
          have hz := g4.symm.trans (readF_bad hgo hcb hl)
          ((refine zkn rfl rfl (zst_tu (yq rfl (zq1 zI (zkq (zst_tu (yP rfl (yP rfl (yP rfl (yA rfl (yA rfl (yA rfl (yT (zw_s ?_))))))))))))); refine yS (yP rfl (yP rfl (yP rfl (y1 rfl (y1 rfl (y2 rfl (zs_n rfl rfl rfl (zqX zI ?_))))))))); refine ⟨_, _, hline, ?_⟩)
          (refine zkn rfl rfl (zst_e (zst_p (y1 rfl (yP rfl (yT (zw_c rfl (zc_t (yS (yP rfl (yP rfl (yq rfl (zqA zI ?_)))))))))))); refine And.intro ⟨by omega, by omega⟩ ?_)
          ((refine yk (yq rfl (zq1 zI (zkq (zst_e (zst_0 (yA rfl (yA rfl (yT (zw_r (zt_r (zb_r (zt_r (zt_r ?_))))))))))))); refine zb_r (zt_r (ze_r zi ?_))); refine And.intro ?_ trivial)
          exact fail hz
        | some r' =>
          rw [hl] at hline
          have hz := (readF_go hgo hcb hl).symm.trans g4
          have g5 := line_ok g3 (by omega) hl
          ((refine zkn rfl rfl (zst_tu (yq rfl (zq1 zI (zkq (zst_tu (yP rfl (yP rfl (yP rfl (yA rfl (yA rfl (yA rfl (yT (zw_s ?_))))))))))))); refine yS (yP rfl (yP rfl (yP rfl (y1 rfl (y1 rfl (y2 rfl (zs_n rfl rfl rfl (zqX zI ?_))))))))); refine ⟨_, _, hline, ?_⟩)
          ((refine zkn rfl rfl (zst_e (zst_p (y1 rfl (yP rfl (yT (zw_c rfl (zc_f (zw_k (zt_n (zw_o (yP rfl (yA rfl (zo_0 ?_))))))))))))); refine zb_n (zt_n (zw_o (yP rfl (yq rfl (zqA zI ?_)))))); refine And.intro ⟨by omega, by omega⟩ ?_)
          (refine yk (yA rfl (yT (zaf_raw ?_))); refine ⟨(f, r', cutZ t, k + 1), _, SLe.refl _ _, ?_⟩)
          exact ⟨⟨by simp only; omega, by simp only; omega, g5, hz⟩, by simp only; omega, ⟨rfl, rfl, rfl, rfl, trivial⟩, ⟨rfl, rfl, trivial⟩⟩
    · have last : (t = ByteArray.empty ∧ k ≠ 0) → R = endR (.inr r) := fun h => by rw [e0, ← g4, readF_end h]
      have ho : rulesOK r := rd_rules g3 (by omega)
      (refine yS (yP rfl (yP rfl (yP rfl (yg rfl ?_)))); refine bcase_split (fun h3 => ?_) (fun h3 => ?_) <;> try simp only [zB] at h3)
      · have h3 : (k : Int) = 0 := h3
        refine zg_f (zst_p (y0 rfl (yP rfl (yT (zw_c rfl (zc_t (zw_k (zt_n (zaf_raw (zX zi ?_))))))))))
        exact ⟨(), fun h => h.2 (by omega), ⟨rfl, rfl, rfl, rfl, trivial⟩, ⟨rfl, rfl, trivial⟩⟩
      · have h3 : ¬ (k : Int) = 0 := h3
        (refine zg_t (zs_q rfl rfl (zq1 zI (yk (y1 rfl (yP rfl (yT (zw_c rfl ?_))))))); refine bcase_split (fun h2 => ?_) (fun h2 => ?_) <;> try simp only [zB] at h2)
        · have h2 : ¬ t = ByteArray.empty := h2
          refine zw_k (zt_n (zaf_raw (zX zi ?_)))
          exact ⟨(), fun h => h2 h.1, ⟨rfl, rfl, rfl, rfl, trivial⟩, ⟨rfl, rfl, trivial⟩⟩
        · have h2 : t = ByteArray.empty := by first | exact h2 | exact Classical.not_not.1 h2
          have e1 := last ⟨h2, by omega⟩
          subst e1
          refine zw_x (zt_x (zt_x (zb_h (zt_n (zaf_raw ?_)))))
          refine zSL ((SLe.open (by exact hC) _ 5 [90003, 90004] (by exact rfl) rfl rfl rfl).trans ((SLe.frzCell (by exact hC) _ 5 5 90003 169 _ _ (by decide) (by exact rfl) (by exact rfl) (by exact rfl)).trans (SLe.frzCell (by exact hC) _ 5 6 90004 171 _ _ (by decide) (by exact rfl) (by exact rfl) (by exact rfl)))) ?_
          (refine zw_s (yS (yP rfl (yn rfl (zqX zI ?_)))); refine ⟨_, _, (house_checkRules r ho), ?_⟩)
          rw [endR]
          (refine zkn rfl rfl (zst_p (yA rfl (yU (yP rfl (yP rfl (yT (zw_c rfl ?_))))))); refine bcase_split (fun h4 => ?_) (fun h4 => ?_) <;> try simp only [zB] at h4)
          · have h4 : ¬ rulesFault r = 0 := by simpa using h4
            rw [if_neg h4]
            (refine yS (yP rfl (yP rfl (yq rfl (zq1 zI (zkq (zst_e (zst_0 (yA rfl (yA rfl (yT (zw_r (zt_r (ze_r zi ?_))))))))))))); refine And.intro ?_ trivial)
            rfl
          · have h4 : rulesFault r = 0 := by simpa using h4
            rw [if_pos h4]
            (refine zw_k (zt_n (yS (yP rfl (yq rfl (zq1 zI (zkq (zst_e (zst_0 (yA rfl (yA rfl (yR zi ?_))))))))))); refine And.intro ?_ trivial)
            rfl
end Go.Proofs.YthjfllfhagdnpaaGreatDoor.M
