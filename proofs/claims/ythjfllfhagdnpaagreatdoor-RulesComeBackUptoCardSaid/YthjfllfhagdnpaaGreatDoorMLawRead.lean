/- By the machine: the law on rules read. -/
import Derived.Test.YthjfllfhagdnpaaGreatDoorMReadH
import Derived.Test.YthjfllfhagdnpaaGreatDoorMSame
import Derived.Test.YthjfllfhagdnpaaGreatDoorMAwake
set_option linter.unusedSimpArgs false
set_option linter.unusedVariables false
namespace Go.Proofs.YthjfllfhagdnpaaGreatDoor.M
open Go.AM Go.RowKit Go.Lib
open Reg (Rect Spans Band)

theorem readF_ok : ∀ (f : Nat) (r : Rules) (s : ByteArray) (k : Nat) (r' : Rules), rdOK r k → s.size < f → k + s.size ≤ 200000 → readF f r s k = .inr r' → rdOK r' 200000
  | 0, r, s, k, r', _, h, _, _ => by omega
  | f + 1, r, s, k, r', h1, h2, h3, h4 => by
    by_cases h5 : s = ByteArray.empty ∧ k ≠ 0
    · rw [readF_end h5] at h4
      cases h4
      exact rd_mono h1 (by omega)
    · cases hc : cutB s with
      | false => rw [readF_cut h5 hc] at h4; cases h4
      | true =>
        obtain ⟨c1, c2⟩ := cut_sizes hc
        cases hl : lineR r (cutA s) k with
        | none => rw [readF_bad h5 hc hl] at h4; cases h4
        | some q =>
          rw [readF_go h5 hc hl] at h4
          exact readF_ok f q (cutZ s) (k + 1) r' (line_ok h1 (by omega) hl) (by omega) (by omega) h4
theorem same_r0 : sameOK r0 := ⟨⟨(fun c h => by cases h), by decide, by decide⟩, fun a h => by cases h⟩
theorem read_same (s : ByteArray) : sameOK (readR s).1 := by
  unfold readR
  split
  · exact same_r0
  · rename_i h
    cases hz : readF (s.size + 1) r0 s 0 with
    | inl k => exact same_r0
    | inr r =>
      have hr := readF_ok _ r0 s 0 r ⟨(fun c h => by cases h), Nat.zero_le _, Nat.zero_le _⟩ (Nat.lt_succ_self _) (by omega) hz
      unfold endR
      simp only
      split
      · rename_i h0
        have hg := rules_good h0
        refine ⟨rd_rules hr (by omega), fun a ha => ?_⟩
        have := (region_rects (hg.ar a ha).2.1).1
        omega
      · exact same_r0
theorem law_read (s : ByteArray) (hs : strOK s) : ACalls C 9 [.pv (str s)] (.p (bool true)) [] := by
  refine fun_go hC Tryz.func9 rfl rfl 37 rfl (by decide) (by kernel_rfl) fun _ _ _ _ _ => ?_
  have h1 := house_Read s hs
  have h2 := ref6_Read s hs
  have h3 := read_same s
  generalize readR s = R at h1 h2 h3
  obtain ⟨r, n, f⟩ := R
  (refine yS (yA rfl (yU (yP rfl (yn rfl (zqX zI ?_))))); refine ⟨_, _, h1, ?_⟩)
  ((refine zkn rfl rfl (zst_tu (yq rfl (zq1 zI (zkq (zst_tu (yP rfl (yP rfl (yP rfl (yn rfl (zq1 zI (zkns (zst_bx (yq rfl ?_))))))))))))); refine zq1 zI (zkq (zst_e (zst_0 (yA rfl (yA rfl (yU (yP rfl (yn rfl (zqX zI ?_)))))))))); refine ⟨_, _, h2, ?_⟩)
  ((refine zkn rfl rfl (zst_tu (yq rfl (zq1 zI (zkq (zst_tu (yP rfl (yP rfl (yP rfl (yn rfl (zq1 zI (zkns (zst_bx (yq rfl ?_))))))))))))); refine zq1 zI (zkq (zst_e (zst_0 (yA rfl (yA rfl (yU (yP rfl (yP rfl (yn rfl (zqX zI ?_))))))))))); refine ⟨_, _, (same_rules r h3), ?_⟩)
  (refine zkn rfl rfl (zst_p (yP rfl (y1 rfl (y1 rfl (y1 rfl (yP rfl (yP rfl (yg rfl ?_)))))))); refine bcase_split (fun g1 => ?_) (fun g1 => ?_) <;> try simp only [zB] at g1)
  · (refine zg_t (zs_q rfl rfl (zq1 zI (yk (y1 rfl (y1 rfl (yP rfl (yP rfl (yg rfl ?_)))))))); refine bcase_split (fun g2 => ?_) (fun g2 => ?_) <;> try simp only [zB] at g2)
    · (refine zg_t (zs_n rfl rfl rfl (zqX zI ?_)); refine ⟨_, _, awake_yes, ?_⟩)
      (refine zkn rfl rfl (zst_p (yP rfl (yA rfl (yR zi ?_)))); refine And.intro ?_ trivial)
      rfl
    · exact absurd trivial g2
  · exact absurd trivial g1
end Go.Proofs.YthjfllfhagdnpaaGreatDoor.M
