/- By the machine: the law that rules come back. -/
import Derived.Test.YthjfllfhagdnpaaGreatDoorMLawRead
import Derived.Test.YthjfllfhagdnpaaGreatDoorMCome2
set_option linter.unusedSimpArgs false
set_option linter.unusedVariables false
namespace Go.Proofs.YthjfllfhagdnpaaGreatDoor.M
open Go.AM Go.RowKit Go.Lib Go.Proofs.YthjfllfhagdnpaaGreatDoor.Num
open Reg (Rect Spans Band)

theorem read_fail {s : ByteArray} (h : (readR s).2.2 ≠ 0) : (readR s).1 = r0 := by
  unfold readR at h ⊢
  split at h
  · rename_i hs
    rw [if_pos hs]
  · rename_i hs
    rw [if_neg hs]
    cases hz : readF (s.size + 1) r0 s 0 with
    | inl k => rfl
    | inr r =>
      rw [hz] at h
      unfold endR at h ⊢
      simp only at h ⊢
      by_cases h0 : rulesFault r = 0
      · rw [if_pos h0] at h; exact absurd rfl h
      · rw [if_neg h0]
theorem text_same {r : Rules} (ho : rulesOK r) (h : (textR r).2 = 0) : sameOK r := by
  unfold textR at h
  split at h
  case isFalse h0 => exact absurd h h0
  rename_i h0
  have hg := rules_good h0
  refine ⟨ho, fun a ha => ?_⟩
  have := (region_rects (hg.ar a ha).2.1).1
  omega
theorem text_size {r : Rules} (h : (textR r).2 = 0) : (textR r).1.size < 4294967281 := by
  unfold textR at h ⊢
  split at h
  case isFalse h0 => exact absurd h h0
  rename_i h0
  rw [if_pos h0]
  split at h
  · cases h
  rename_i hl
  rw [if_neg hl]
  have : (ofL (textB r)).size = (textB r).length := ofL_size _
  simp only
  omega
theorem law_come (r : Rules) (ho : rulesOK r) (s : ByteArray) (hs : strOK s) : ACalls C 8 [.pv (.ag (rl r)), .pv (str s)] (.p (bool true)) [] := by
  refine fun_go hC Tryz.func8 rfl rfl 69 rfl (by decide) (by kernel_rfl) fun _ _ _ _ _ => ?_
  have h1 := house_Text r ho
  have k1 : (textR r).2 = 0 → ACalls C 43 [.pv (str (textR r).1)] (.tu [.ag (rl r), i64 0, i64 0]) [] := fun h0 => by
    have := house_Read (textR r).1 (text_size h0)
    rw [text_read h0] at this
    exact this
  have k2 : (textR r).2 = 0 → sameOK r := text_same ho
  have h2 := house_Read s hs
  have k3 : (readR s).2.2 = 0 → ACalls C 42 [.pv (.ag (rl (readR s).1))] (.tu [str s, i64 0]) [] := fun h0 => by
    have := house_Text (readR s).1 (read_same s).1
    rw [read_text h0] at this
    exact this
  have k4 : (readR s).2.2 ≠ 0 → (readR s).1 = r0 := read_fail
  generalize textR r = T at h1 k1 k2
  generalize readR s = R at h2 k3 k4
  obtain ⟨t, e⟩ := T
  obtain ⟨g, n, f⟩ := R
  (refine yS (yn rfl (zq1 zI (zkns (zst_bx (yA rfl (yT (zw_s (yS (yP rfl (yn rfl (zqX zI ?_))))))))))); refine ⟨_, _, h1, ?_⟩)
  ((refine zkn rfl rfl (zst_tu (yq rfl (zq1 zI (zkq (zst_tu (yP rfl (yP rfl (yA rfl (yA rfl (yU (yP rfl (yP rfl (yT ?_))))))))))))); refine zw_c rfl ?_); refine bcase_split (fun g1 => ?_) (fun g1 => ?_) <;> try simp only [zB] at g1)
  · (refine yS (yP rfl (yn rfl (zqX zI ?_))); refine ⟨_, _, (k1 g1), ?_⟩)
    ((refine zkn rfl rfl (zst_tu (yq rfl (zq1 zI (zkq (zst_tu (yP rfl (yP rfl (yP rfl (yn rfl (zq1 zI (zkns (zst_bx (yq rfl ?_))))))))))))); refine zq1 zI (zkq (zst_e (zst_0 (yA rfl (yA rfl (yU (yP rfl (yP rfl (yP rfl (y1 rfl (y1 rfl (yP rfl (yP rfl ?_))))))))))))); refine y1 rfl (y1 rfl (y2 rfl (zs_n rfl rfl rfl (zqX zI ?_))))); refine ⟨_, _, (same_rules r (k2 g1)), ?_⟩)
    (refine zkn rfl rfl (zst_p (y1 rfl (yP rfl (yT (zw_c rfl (zc_f (zw_k (zt_n (yS (yP rfl (yn rfl (zqX zI ?_)))))))))))); refine ⟨_, _, h2, ?_⟩)
    ((refine zkn rfl rfl (zst_tu (yq rfl (zq1 zI (zkq (zst_tu (yP rfl (yP rfl (yP rfl (yn rfl (zq1 zI (zkns (zst_bx (yq rfl ?_))))))))))))); refine zq1 zI (zkq (zst_e (zst_0 (yA rfl (yA rfl (yT (zw_s (yS (yP rfl (yP rfl (yT (zw_c rfl ?_))))))))))))); refine bcase_split (fun g2 => ?_) (fun g2 => ?_) <;> try simp only [zB] at g2)
    · have e0 := k4 g2
      simp only at e0
      subst e0
      (refine yS (yV rfl (yP rfl (yP rfl (yP rfl (yP rfl (y2 rfl (zs_n rfl rfl rfl (zqX zI ?_)))))))); refine ⟨_, _, awake_yes, ?_⟩)
      (refine zkn rfl rfl (zst_p (yP rfl (yA rfl (yT (zw_r (zt_r (ze_r zi ?_))))))); refine And.intro ?_ trivial)
      rfl
    · have e0 : f = 0 := g2
      subst e0
      (refine zw_k (zt_n (yS (yP rfl (yn rfl (zqX zI ?_))))); refine ⟨_, _, (k3 rfl), ?_⟩)
      (refine zkn rfl rfl (zst_tu (yq rfl (zq1 zI (zkq (zst_tu (yP rfl (yP rfl (yA rfl (yA rfl (yU (yP rfl (yP rfl (yP rfl ?_))))))))))))); refine y1 rfl (y1 rfl (y1 rfl (yP rfl (yP rfl (yg rfl ?_))))))
      rw [decide_eq_true (rfl : s = s)]
      (refine zc_t (zg_t (zs_n rfl rfl rfl (zqX zI ?_))); refine ⟨_, _, awake_yes, ?_⟩)
      (refine zkn rfl rfl (zst_p (yP rfl (yA rfl (yR zi ?_)))); refine And.intro ?_ trivial)
      rfl
  · (refine zw_k (zt_n (yS (yP rfl (yn rfl (zqX zI ?_))))); refine ⟨_, _, h2, ?_⟩)
    ((refine zkn rfl rfl (zst_tu (yq rfl (zq1 zI (zkq (zst_tu (yP rfl (yP rfl (yP rfl (yn rfl (zq1 zI (zkns (zst_bx (yq rfl ?_))))))))))))); refine zq1 zI (zkq (zst_e (zst_0 (yA rfl (yA rfl (yT (zw_s (yS (yP rfl (yP rfl (yT (zw_c rfl ?_))))))))))))); refine bcase_split (fun g2 => ?_) (fun g2 => ?_) <;> try simp only [zB] at g2)
    · have e0 := k4 g2
      simp only at e0
      subst e0
      (refine yS (yV rfl (yP rfl (yP rfl (yP rfl (yP rfl (y2 rfl (zs_n rfl rfl rfl (zqX zI ?_)))))))); refine ⟨_, _, awake_yes, ?_⟩)
      (refine zkn rfl rfl (zst_p (yP rfl (yA rfl (yT (zw_r (zt_r (ze_r zi ?_))))))); refine And.intro ?_ trivial)
      rfl
    · have e0 : f = 0 := g2
      subst e0
      (refine zw_k (zt_n (yS (yP rfl (yn rfl (zqX zI ?_))))); refine ⟨_, _, (k3 rfl), ?_⟩)
      (refine zkn rfl rfl (zst_tu (yq rfl (zq1 zI (zkq (zst_tu (yP rfl (yP rfl (yA rfl (yA rfl (yU (yP rfl (yP rfl (yP rfl ?_))))))))))))); refine y1 rfl (y1 rfl (y1 rfl (yP rfl (yP rfl (yg rfl ?_))))))
      rw [decide_eq_true (rfl : s = s)]
      (refine zc_t (zg_t (zs_n rfl rfl rfl (zqX zI ?_))); refine ⟨_, _, awake_yes, ?_⟩)
      (refine zkn rfl rfl (zst_p (yP rfl (yA rfl (yR zi ?_)))); refine And.intro ?_ trivial)
      rfl
end Go.Proofs.YthjfllfhagdnpaaGreatDoor.M
