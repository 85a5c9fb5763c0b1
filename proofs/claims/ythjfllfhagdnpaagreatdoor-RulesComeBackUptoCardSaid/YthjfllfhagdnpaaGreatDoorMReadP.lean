/- What a text says as rules, line by line. -/
import Derived.Test.YthjfllfhagdnpaaGreatDoorMLineP
set_option linter.unusedSimpArgs false
set_option linter.unusedVariables false
namespace Go.Proofs.YthjfllfhagdnpaaGreatDoor.M
open Go.AM Go.RowKit Go.Lib Go.Proofs.YthjfllfhagdnpaaGreatDoor.Num
open Reg (Rect Spans Band)

/-- the lines of a text, one by one: where it fails, or the rules -/
def readF : Nat → Rules → ByteArray → Nat → Nat ⊕ Rules
  | 0, r, _, _ => .inr r
  | f + 1, r, s, k => if s = ByteArray.empty ∧ k ≠ 0 then .inr r else if cutB s = true then (match lineR r (cutA s) k with
    | some r' => readF f r' (cutZ s) (k + 1)
    | none => .inl k) else .inl k
def r0 : Rules := ⟨0, 0, 0, 0, 0, [], []⟩
def endR : Nat ⊕ Rules → Rules × Int × Int
  | .inl k => (r0, (k : Int) + 1, 10)
  | .inr r => if rulesFault r = 0 then (r, 0, 0) else (r0, 0, rulesFault r)
def readR (s : ByteArray) : Rules × Int × Int := if 200000 < s.size then (r0, 0, 2) else endR (readF (s.size + 1) r0 s 0)
theorem readF_end {f : Nat} {r : Rules} {s : ByteArray} {k : Nat} (h : s = ByteArray.empty ∧ k ≠ 0) : readF (f + 1) r s k = .inr r := by rw [readF, if_pos h]
theorem readF_cut {f : Nat} {r : Rules} {s : ByteArray} {k : Nat} (h : ¬ (s = ByteArray.empty ∧ k ≠ 0)) (hc : cutB s = false) : readF (f + 1) r s k = .inl k := by rw [readF, if_neg h, hc]; rfl
theorem readF_bad {f : Nat} {r : Rules} {s : ByteArray} {k : Nat} (h : ¬ (s = ByteArray.empty ∧ k ≠ 0)) (hc : cutB s = true) (hl : lineR r (cutA s) k = none) : readF (f + 1) r s k = .inl k := by rw [readF, if_neg h, hc, if_pos rfl, hl]
theorem readF_go {f : Nat} {r r' : Rules} {s : ByteArray} {k : Nat} (h : ¬ (s = ByteArray.empty ∧ k ≠ 0)) (hc : cutB s = true) (hl : lineR r (cutA s) k = some r') : readF (f + 1) r s k = readF f r' (cutZ s) (k + 1) := by rw [readF, if_neg h, hc, if_pos rfl, hl]
theorem cut_sizes {s : ByteArray} (h : cutB s = true) : (cutA s).size ≤ s.size ∧ (cutZ s).size < s.size := by
  have hsz : s.data.toList.length = s.size := by simp
  have hA : (cutA s).size = (Lib.cut s.data.toList [10]).1.length := by simp [cutA, ByteArray.size]
  have hZ : (cutZ s).size = (Lib.cut s.data.toList [10]).2.1.length := by simp [cutZ, ByteArray.size]
  rw [hA, hZ]
  unfold cutB at h
  unfold Lib.cut at h ⊢
  split at h
  · rename_i hi
    rw [if_pos hi]
    have hne : s.data.toList ≠ [] := fun e => by
      rw [e] at hi
      exact absurd hi (by decide)
    have : 0 < s.data.toList.length := List.length_pos_iff.2 hne
    simp only [List.length_take, List.length_drop, List.length_cons, List.length_nil]
    omega
  · cases h
/-- bounds of rules that are being read -/
def rdOK (r : Rules) (k : Nat) : Prop := (∀ c ∈ r.classes, classOK c) ∧ r.classes.length ≤ k ∧ r.areas.length ≤ k
theorem rd_mono {r : Rules} {k m : Nat} (h : rdOK r k) (hm : k ≤ m) : rdOK r m := ⟨h.1, by have := h.2.1; omega, by have := h.2.2; omega⟩
theorem rd_rules {r : Rules} {k : Nat} (h : rdOK r k) (hk : k ≤ 1048576) : rulesOK r := ⟨h.1, by have := h.2.1; omega, by have := h.2.2; omega⟩
theorem line_ok {r r' : Rules} {k : Nat} {s : ByteArray} {a : Int} (h : rdOK r k) (hs : s.size ≤ 900000) (hr : lineR r s a = some r') : rdOK r' (k + 1) := by
  obtain ⟨h1, h2, h3⟩ := h
  have pl := words_le s
  have hz : ∀ x ∈ wordsS s, x.size ≤ 900000 := fun x hx => by have := splitB_size _ _ _ x hx; omega
  unfold lineR at hr
  generalize wordsS s = w at hr pl hz
  unfold lineW at hr
  split at hr
  · split at hr
    · unfold headR at hr
      split at hr
      · split at hr
        · cases hr
          exact ⟨h1, by simp only; omega, by simp only; omega⟩
        · cases hr
      · cases hr
    · split at hr
      · unfold classR at hr
        split at hr
        · split at hr
          · cases hr
            refine ⟨fun c hc => ?_, by simp; omega, by simp only; omega⟩
            rcases List.mem_append.1 hc with hc | hc
            · exact h1 c hc
            · rcases List.mem_singleton.1 hc with rfl
              refine ⟨?_, ?_, fun x hx => ?_⟩
              · have := hz _ (List.mem_cons_of_mem _ List.mem_cons_self)
                show _ < _
                simp only
                omega
              · simp at pl ⊢; omega
              · have := hz x (by simp [hx])
                show _ < _
                omega
          · cases hr
        · cases hr
      · unfold areaR at hr
        split at hr
        · split at hr
          · split at hr
            · cases hr
              exact ⟨h1, by simp only; omega, by simp; omega⟩
            · cases hr
          · cases hr
        · cases hr
  · cases hr
end Go.Proofs.YthjfllfhagdnpaaGreatDoor.M
