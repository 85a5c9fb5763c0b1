/- Walks: what a word is, in the program and in the reference. -/
import Derived.Test.YtneggmggiepnoaaDoorPlainSerial
import Derived.Test.YtneggmggiepnoaaDoorShelf
import Derived.WalkKit
import Derived.WalkSpells
import Derived.WalkLawsBesides
import Derived.Lib.Hide
namespace Go.Proofs.YtneggmggiepnoaaDoor
open Go.RowKit
theorem ret_bool {a b : Bool} (h : a = b) : Ending.returned (.bool a) = .returned (.bool b) := by rw [h]
theorem word_iff (c : UInt8) : Plain.wordByte c = true ↔ ((65 ≤ (c.toNat : Int) ∧ (c.toNat : Int) ≤ 90) ∨ (97 ≤ (c.toNat : Int) ∧ (c.toNat : Int) ≤ 122) ∨ (48 ≤ (c.toNat : Int) ∧ (c.toNat : Int) ≤ 57) ∨ 0 ≤ Lib.indexByte [95, 43, 45, 35] c) := by
  have h : (0 ≤ Lib.indexByte [95, 43, 45, 35] c) ↔ [95, 43, 45, 35].contains c = true := by
    rw [List.contains_iff_mem]
    have := Lib.indexByte_ge [95, 43, 45, 35] c
    constructor
    · intro h0
      obtain ⟨o, ho⟩ : ∃ o : Nat, Lib.indexByte [95, 43, 45, 35] c = o := ⟨_, (Int.toNat_of_nonneg h0).symm⟩
      exact List.mem_of_getElem? (Lib.indexByte_some ho).1
    · intro hm
      rcases (Classical.em (Lib.indexByte [95, 43, 45, 35] c < 0)) with hl | hl
      · have hn := Lib.indexByte_none (show Lib.indexByte [95, 43, 45, 35] c = -1 by omega)
        obtain ⟨i, hi⟩ := List.getElem?_of_mem hm
        exact absurd hi (hn i)
      · omega
  rw [h]
  unfold Plain.wordByte
  simp only [Bool.or_eq_true, decide_eq_true_eq]
  constructor
  · rintro (((h | h) | h) | h)
    · exact .inl h
    · exact .inr (.inl h)
    · exact .inr (.inr (.inl h))
    · exact .inr (.inr (.inr h))
  · rintro (h | h | h | h)
    · exact .inl (.inl (.inl h))
    · exact .inl (.inl (.inr h))
    · exact .inl (.inr h)
    · exact .inr h
theorem word_no {c : UInt8} (h : ¬ ((65 ≤ (c.toNat : Int) ∧ (c.toNat : Int) ≤ 90) ∨ (97 ≤ (c.toNat : Int) ∧ (c.toNat : Int) ≤ 122) ∨ (48 ≤ (c.toNat : Int) ∧ (c.toNat : Int) ≤ 57) ∨ 0 ≤ Lib.indexByte [95, 43, 45, 35] c)) : Plain.wordByte c = false := by
  cases hc : Plain.wordByte c with
  | false => rfl
  | true => exact absurd ((word_iff c).1 hc) h
theorem words_next {s : ByteArray} {k : Nat} (h : k < s.size) (hall : ∀ c ∈ s.data.toList.take k, Plain.wordByte c = true) (hc : Plain.wordByte (s[k]) = true) : ∀ c ∈ s.data.toList.take (k + 1), Plain.wordByte c = true := by
  intro c hm
  rw [List.take_succ_eq_append_getElem (by simpa using h)] at hm
  rcases List.mem_append.1 hm with hm | hm
  · exact hall c hm
  · have : c = s[k] := List.mem_singleton.1 hm
    rw [this]
    exact hc
theorem isWord_no {s : ByteArray} {k : Nat} (h : k < s.size) (hc : Plain.wordByte (s[k]) = false) : Plain.isWord s.data.toList = false := by
  cases hw : Plain.isWord s.data.toList with
  | false => rfl
  | true =>
    have := (Plain.isWord_bounds hw).1 (s[k]) (by simp [ByteArray.getElem_eq_getElem_data])
    rw [this] at hc
    cases hc
theorem isWord_end {s : ByteArray} {k : Nat} (hk : k ≤ s.size) (h : ¬ k < s.size) (hall : ∀ c ∈ s.data.toList.take k, Plain.wordByte c = true) : Plain.isWord s.data.toList = (decide (1 ≤ (s.size : Int)) && decide ((s.size : Int) ≤ 40)) := by
  rw [List.take_of_length_le (by simp; omega)] at hall
  have h1 : s.data.toList.all Plain.wordByte = true := List.all_eq_true.2 hall
  have h2 : s.data.toList.length = s.size := by simp
  unfold Plain.isWord
  rw [h1, h2]
  simp
  congr 1
  · rw [decide_eq_decide]; omega
  · rw [decide_eq_decide]; omega
set_option maxHeartbeats 1000000 in
theorem isword_any (s : ByteArray) (w : World) (hs : s.size ≤ 2097152) :
    Calls Tryd.prog 11 #[.string s] w fun e w' => e = .returned (.bool (Plain.isWord s.data.toList)) ∧ w = w' := by
  go_enter Tryd.func11, Tryd.ntmps11
  go_wp2
  go_loop [2, 7] (fun t i => ∃ k : Nat, k ≤ s.size ∧ i = .int .i64 k ∧ t = .bool false ∧ ∀ c ∈ s.data.toList.take k, Plain.wordByte c = true) (fun _ i => s.size - (intOf i).toNat)
  case atStart => exact ⟨0, Nat.zero_le _, rfl, rfl, by simp⟩
  case round =>
    obtain ⟨k, hk, rfl, rfl, hall⟩ := hrel
    have H := Lib.hid hall; clear hall
    by_cases hlt : k < s.size
    · go_wp2_with (go_at_call 25; refine (Tryd.strings_IndexByte _ _ _).mono ?_; rintro e w' ⟨rfl, rfl⟩)
      all_goals first
        | (go_round
           case rel => exact ⟨k + 1, by omega, by go_num, rfl, words_next hlt H.out ((word_iff _).2 (by omega))⟩
           case measure => simp [intOf]; omega)
        | (go_ret
           exact ⟨ret_bool (isWord_no hlt (word_no (by omega))).symm, rfl⟩)
    · have he := Lib.hid (isWord_end hk hlt H.out)
      go_wp2
      all_goals
        go_ret
        refine ⟨ret_bool ?_, rfl⟩
        rw [he.out]
        first
          | rw [show decide (1 ≤ (s.size : Int)) = true from by rw [decide_eq_true_eq]; omega, Bool.true_and]
          | rw [show decide (1 ≤ (s.size : Int)) = false from by rw [decide_eq_false_iff_not]; omega, Bool.false_and]
set_option maxHeartbeats 1000000 in
theorem refword_any (s : ByteArray) (w : World) (hs : s.size ≤ 2097152) :
    Calls Tryd.prog 14 #[.string s] w fun e w' => e = .returned (.bool (Plain.isWord s.data.toList)) ∧ w = w' := by
  go_enter Tryd.func14, Tryd.ntmps14
  go_wp2
  go_loop [2, 3] (fun t i => ∃ k : Nat, k ≤ s.size ∧ i = .int .i64 k ∧ t = .bool false ∧ ∀ c ∈ s.data.toList.take k, Plain.wordByte c = true) (fun _ i => s.size - (intOf i).toNat)
  case atStart => exact ⟨0, Nat.zero_le _, rfl, rfl, by simp⟩
  case round =>
    obtain ⟨k, hk, rfl, rfl, hall⟩ := hrel
    have H := Lib.hid hall; clear hall
    by_cases hlt : k < s.size
    · go_wp2_with (go_at_call 25; refine (Tryd.strings_IndexByte _ _ _).mono ?_; rintro e w' ⟨rfl, rfl⟩)
      all_goals first
        | (go_round
           case rel => exact ⟨k + 1, by omega, by go_num, rfl, words_next hlt H.out ((word_iff _).2 (by omega))⟩
           case measure => simp [intOf]; omega)
        | (go_round
           case rel => exact ⟨k + 1, by omega, by go_num, rfl, words_next hlt H.out ((word_iff _).2 (by simp only [Bool.not_eq_false', decide_eq_true_eq] at *; omega))⟩
           case measure => simp [intOf]; omega)
        | (go_ret
           exact ⟨ret_bool (isWord_no hlt (word_no (by omega))).symm, rfl⟩)
    · have he := Lib.hid (isWord_end hk hlt H.out)
      go_wp2
      all_goals
        go_ret
        refine ⟨ret_bool ?_, rfl⟩
        rw [he.out]
        first
          | rw [show decide (1 ≤ (s.size : Int)) = true from by rw [decide_eq_true_eq]; omega, Bool.true_and]
          | rw [show decide (1 ≤ (s.size : Int)) = false from by rw [decide_eq_false_iff_not]; omega, Bool.false_and]
end Go.Proofs.YtneggmggiepnoaaDoor
