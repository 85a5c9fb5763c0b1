/- Walks: Serial, in the program and in the reference. -/
import Derived.Test.YtneggmggiepnoaaDoorWalkWord
import Derived.Test.YtneggmggiepnoaaDoorWalkSign
import Derived.Test.YtneggmggiepnoaaDoorWalkDigits
namespace Go.Proofs.YtneggmggiepnoaaDoor
open Go.RowKit
theorem ret_two {k : IntKind} {a : ByteArray} {b : ByteArray} {c : Int} (h : a.data.toList = b.data.toList) : Ending.returned (.tuple #[.string a, .int k c]) = .returned (.tuple #[.string b, .int k c]) := by rw [Plain.ext_list h]
theorem size_three {n : Nat} {S : ByteArray} (h : S.data.toList = Plain.three n) : S.size = 3 := by
  have h4 : S.data.toList.length = S.size := by simp
  rw [h] at h4
  exact h4.symm
theorem digits_S (n : Int) (w : World) (h0 : 0 ≤ n) (h1 : n ≤ 999) (he : Env w) :
    Calls Tryd.prog 26 #[.int .i64 n] w fun e w' => ∃ S : ByteArray, e = .returned (.string S) ∧ Hid (S.data.toList = Plain.three n.toNat) ∧ S.size = 3 ∧ Below w.heap.size w w' := by
  refine (digits_any n w h0 h1 he).mono ?_
  rintro e w' ⟨rfl, hb⟩
  exact ⟨_, rfl, Plain.toList_mk _, size_three (Plain.toList_mk _), hb⟩
theorem refthree_S (n : Int) (w : World) (h0 : 0 ≤ n) (h1 : n ≤ 999) (he : Env w) :
    Calls Tryd.prog 16 #[.int .i64 n] w fun e w' => ∃ S : ByteArray, e = .returned (.string S) ∧ Hid (S.data.toList = Plain.three n.toNat) ∧ S.size = 3 ∧ Below w.heap.size w w' := by
  refine (refthree_any n w h0 h1 he).mono ?_
  rintro e w' ⟨rfl, hb⟩
  exact ⟨_, rfl, Plain.toList_mk _, size_three (Plain.toList_mk _), hb⟩
theorem sign_S (s : ByteArray) (w : World) (hs : s.size ≤ 2097152) :
    Calls Tryd.prog 21 #[.string s] w fun e w' => ∃ c : UInt8, e = .returned (.int .u8 (c.toNat : Int)) ∧ Utf8.encode (c.toNat : Int) = ⟨#[c]⟩ ∧ Hid (c = Plain.signOf s.data.toList) ∧ w = w' := by
  refine (sign_any s w hs).mono ?_
  rintro e w' ⟨rfl, rfl⟩
  exact ⟨_, rfl, Plain.encode_byte _ (Plain.sign_small _), rfl, rfl⟩
theorem refsign_S (s : ByteArray) (w : World) (hs : s.size ≤ 2097152) :
    Calls Tryd.prog 17 #[.string s] w fun e w' => ∃ c : UInt8, e = .returned (.string ⟨#[c]⟩) ∧ Hid (c = Plain.signOf s.data.toList) ∧ w = w' := by
  refine (refsign_any s w hs).mono ?_
  rintro e w' ⟨rfl, rfl⟩
  exact ⟨_, rfl, rfl, rfl⟩
theorem front_size (lot S T : ByteArray) : (lot ++ ByteArray.mk #[46] ++ S ++ ByteArray.mk #[46] ++ T).size = lot.size + S.size + T.size + 2 := by
  have d1 : (ByteArray.mk #[46]).size = 1 := rfl
  simp only [ByteArray.size_append, d1]
  omega
theorem front_bytes {lot S T : ByteArray} {p s : Nat} (hS : S.data.toList = Plain.three p) (hT : T.data.toList = Plain.three s) :
    (lot ++ ByteArray.mk #[46] ++ S ++ ByteArray.mk #[46] ++ T).data.toList = Plain.front lot.data.toList (Plain.three p) (Plain.three s) := by
  simp [ByteArray.data_append, hS, hT, Plain.front]
theorem serial_bytes {lot S T : ByteArray} {p s : Nat} {c : UInt8} (hS : S.data.toList = Plain.three p) (hT : T.data.toList = Plain.three s) (hc : c = Plain.signOf (lot ++ ByteArray.mk #[46] ++ S ++ ByteArray.mk #[46] ++ T).data.toList) :
    (lot ++ ByteArray.mk #[46] ++ S ++ ByteArray.mk #[46] ++ T ++ ByteArray.mk #[46] ++ ByteArray.mk #[c]).data.toList = Plain.serial lot.data.toList p s := by
  rw [front_bytes hS hT] at hc
  subst hc
  unfold Plain.serial
  rw [ByteArray.data_append, ByteArray.data_append]
  simp only [Array.toList_append, front_bytes hS hT]
  simp
set_option maxHeartbeats 400000 in
theorem within_yes (n lo hi : Int) (w : World) (h0 : lo ≤ n) (h1 : n ≤ hi) : Calls Tryd.prog 12 #[.int .i64 n, .int .i64 lo, .int .i64 hi] w fun e w' => e = .returned (.bool true) ∧ w = w' := by
  go_enter Tryd.func12, Tryd.ntmps12
  go_wp2
  go_ret
  exact ⟨by simp, rfl⟩
set_option maxHeartbeats 400000 in
theorem within_no (n lo hi : Int) (w : World) (h : n < lo ∨ hi < n) : Calls Tryd.prog 12 #[.int .i64 n, .int .i64 lo, .int .i64 hi] w fun e w' => e = .returned (.bool false) ∧ w = w' := by
  by_cases h0 : lo ≤ n
  · have h1 : decide (n ≤ hi) = false := by rw [decide_eq_false_iff_not]; omega
    clear h
    go_enter Tryd.func12, Tryd.ntmps12
    go_wp2
    go_ret
    exact ⟨by simp, rfl⟩
  · have h1 : decide (lo ≤ n) = false := by rw [decide_eq_false_iff_not]; omega
    clear h
    go_enter Tryd.func12, Tryd.ntmps12
    go_wp2
    go_ret
    exact ⟨by simp, rfl⟩
set_option maxHeartbeats 400000 in
theorem inrange_yes (n lo hi : Int) (w : World) (h0 : lo ≤ n) (h1 : n ≤ hi) : Calls Tryd.prog 15 #[.int .i64 n, .int .i64 lo, .int .i64 hi] w fun e w' => e = .returned (.bool true) ∧ w = w' := by
  go_enter Tryd.func15, Tryd.ntmps15
  go_wp2
  go_ret
  exact ⟨by simp, rfl⟩
set_option maxHeartbeats 400000 in
theorem inrange_no (n lo hi : Int) (w : World) (h : n < lo ∨ hi < n) : Calls Tryd.prog 15 #[.int .i64 n, .int .i64 lo, .int .i64 hi] w fun e w' => e = .returned (.bool false) ∧ w = w' := by
  by_cases h0 : lo ≤ n
  · have h1 : decide (n ≤ hi) = false := by rw [decide_eq_false_iff_not]; omega
    clear h
    go_enter Tryd.func15, Tryd.ntmps15
    go_wp2
    go_ret
    exact ⟨by simp, rfl⟩
  · have h1 : decide (lo ≤ n) = false := by rw [decide_eq_false_iff_not]; omega
    clear h
    go_enter Tryd.func15, Tryd.ntmps15
    go_wp2
    go_ret
    exact ⟨by simp, rfl⟩
set_option maxHeartbeats 400000 in
theorem serial_any (lot : ByteArray) (p s : Int) (w : World) (hl : lot.size ≤ 2000000) (h0 : 0 ≤ p) (h1 : p ≤ 999) (h2 : 0 ≤ s) (h3 : s ≤ 999) (he : Env w) :
    Calls Tryd.prog 13 #[.string lot, .int .i64 p, .int .i64 s] w fun e w' => e = .returned (.string ⟨(Plain.serial lot.data.toList p.toNat s.toNat).toArray⟩) ∧ Below w.heap.size w w' := by
  go_enter Tryd.func13, Tryd.ntmps13
  go_wp2_with fail
  refine (digits_S p _ h0 h1 he).mono ?_
  rintro e w1 ⟨S, rfl, hS, zS, hb1⟩
  go_wp2_with fail
  refine (digits_S s _ h2 h3 (he.below hb1)).mono ?_
  rintro e w2 ⟨T, rfl, hT, zT, hb2⟩
  go_wp2_with fail
  refine (sign_S _ _ (by rw [front_size]; omega)).mono ?_
  rintro e w3 ⟨c, rfl, hE, hc, rfl⟩
  go_wp2_with fail
  go_ret
  exact ⟨ret_str ((serial_bytes hS hT hc).trans (Plain.toList_mk _).symm), hb1.trans (hb2.mono hb1.size)⟩

theorem Serial_word {lot : List UInt8} (p s : Int) (h : Plain.isWord lot = false) : Plain.Serial lot p s = ([], 5) := by
  unfold Plain.Serial
  rw [h]
  rfl
theorem Serial_range {lot : List UInt8} (p s : Int) (h : Plain.isWord lot = true) (h2 : ¬ (0 ≤ p ∧ p ≤ 999 ∧ 0 ≤ s ∧ s ≤ 999)) : Plain.Serial lot p s = ([], 1) := by
  unfold Plain.Serial
  rw [if_pos h, if_neg h2]
theorem Serial_ok {lot : List UInt8} (p s : Int) (h : Plain.isWord lot = true) (h2 : 0 ≤ p ∧ p ≤ 999 ∧ 0 ≤ s ∧ s ≤ 999) : Plain.Serial lot p s = (Plain.serial lot p.toNat s.toNat, 0) := by
  unfold Plain.Serial
  rw [if_pos h, if_pos h2]
theorem word_size {lot : ByteArray} (h : Plain.isWord lot.data.toList = true) : lot.size ≤ 40 := by
  have := (Plain.isWord_bounds h).2.2
  simpa using this
theorem isword_yes (s : ByteArray) (w : World) (hs : s.size ≤ 2097152) (h : Plain.isWord s.data.toList = true) :
    Calls Tryd.prog 11 #[.string s] w fun e w' => e = .returned (.bool true) ∧ w = w' := by rw [← h]; exact isword_any s w hs
theorem isword_not (s : ByteArray) (w : World) (hs : s.size ≤ 2097152) (h : Plain.isWord s.data.toList = false) :
    Calls Tryd.prog 11 #[.string s] w fun e w' => e = .returned (.bool false) ∧ w = w' := by rw [← h]; exact isword_any s w hs
theorem refword_yes (s : ByteArray) (w : World) (hs : s.size ≤ 2097152) (h : Plain.isWord s.data.toList = true) :
    Calls Tryd.prog 14 #[.string s] w fun e w' => e = .returned (.bool true) ∧ w = w' := by rw [← h]; exact refword_any s w hs
theorem refword_not (s : ByteArray) (w : World) (hs : s.size ≤ 2097152) (h : Plain.isWord s.data.toList = false) :
    Calls Tryd.prog 14 #[.string s] w fun e w' => e = .returned (.bool false) ∧ w = w' := by rw [← h]; exact refword_any s w hs

/-- what Serial gives, as a value -/
def SerialV (r : List UInt8 × Int) : Value := .tuple #[.string ⟨r.1.toArray⟩, .int .i64 r.2]
set_option maxHeartbeats 400000 in
theorem Serial_any (lot : ByteArray) (p s : Int) (w : World) (hl : lot.size ≤ 2000000) (he : Env w) :
    Calls Tryd.prog 6 #[.string lot, .int .i64 p, .int .i64 s] w fun e w' => e = .returned (SerialV (Plain.Serial lot.data.toList p s)) ∧ Below w.heap.size w w' := by
  by_cases hw : Plain.isWord lot.data.toList = true
  · have HW := Lib.hid hw
    have hz := word_size hw
    by_cases h0 : 0 ≤ p ∧ p ≤ 999 ∧ 0 ≤ s ∧ s ≤ 999
    · rw [Serial_ok p s hw h0]
      obtain ⟨h1, h2, h3, h4⟩ := h0
      clear hw
      go_enter Tryd.func6, Tryd.ntmps6
      go_wp2_with (first
        | (go_at_call 11; refine (isword_yes _ _ (by omega) HW.out).mono ?_; rintro e w1 ⟨rfl, rfl⟩)
        | (go_at_call 13; refine (serial_any lot p s _ hl h1 h2 h3 h4 he).mono ?_; rintro e w1 ⟨rfl, hb⟩)
        | (go_at_call 12; refine (within_yes _ _ _ _ (by omega) (by omega)).mono ?_; rintro e w1 ⟨rfl, rfl⟩) | (go_at_call 12; refine (within_no _ _ _ _ (by omega)).mono ?_; rintro e w1 ⟨rfl, rfl⟩))
      go_ret2
      exact ⟨rfl, hb⟩
    · rw [Serial_range p s hw h0]
      clear hw
      by_cases a1 : 0 ≤ p
      · by_cases a2 : p ≤ 999
        · by_cases a3 : 0 ≤ s
          · have a4 : 999 < s := by omega
            go_enter Tryd.func6, Tryd.ntmps6
            go_wp2_with (first | (go_at_call 11; refine (isword_yes _ _ (by omega) HW.out).mono ?_; rintro e w1 ⟨rfl, rfl⟩) | (go_at_call 12; refine (within_yes _ _ _ _ (by omega) (by omega)).mono ?_; rintro e w1 ⟨rfl, rfl⟩) | (go_at_call 12; refine (within_no _ _ _ _ (by omega)).mono ?_; rintro e w1 ⟨rfl, rfl⟩))
            go_ret2
            exact ⟨rfl, Below.refl _ _⟩
          · go_enter Tryd.func6, Tryd.ntmps6
            go_wp2_with (first | (go_at_call 11; refine (isword_yes _ _ (by omega) HW.out).mono ?_; rintro e w1 ⟨rfl, rfl⟩) | (go_at_call 12; refine (within_yes _ _ _ _ (by omega) (by omega)).mono ?_; rintro e w1 ⟨rfl, rfl⟩) | (go_at_call 12; refine (within_no _ _ _ _ (by omega)).mono ?_; rintro e w1 ⟨rfl, rfl⟩))
            go_ret2
            exact ⟨rfl, Below.refl _ _⟩
        · go_enter Tryd.func6, Tryd.ntmps6
          go_wp2_with (first | (go_at_call 11; refine (isword_yes _ _ (by omega) HW.out).mono ?_; rintro e w1 ⟨rfl, rfl⟩) | (go_at_call 12; refine (within_yes _ _ _ _ (by omega) (by omega)).mono ?_; rintro e w1 ⟨rfl, rfl⟩) | (go_at_call 12; refine (within_no _ _ _ _ (by omega)).mono ?_; rintro e w1 ⟨rfl, rfl⟩))
          go_ret2
          exact ⟨rfl, Below.refl _ _⟩
      · go_enter Tryd.func6, Tryd.ntmps6
        go_wp2_with (first | (go_at_call 11; refine (isword_yes _ _ (by omega) HW.out).mono ?_; rintro e w1 ⟨rfl, rfl⟩) | (go_at_call 12; refine (within_yes _ _ _ _ (by omega) (by omega)).mono ?_; rintro e w1 ⟨rfl, rfl⟩) | (go_at_call 12; refine (within_no _ _ _ _ (by omega)).mono ?_; rintro e w1 ⟨rfl, rfl⟩))
        go_ret2
        exact ⟨rfl, Below.refl _ _⟩
  · have hw2 : Plain.isWord lot.data.toList = false := by simpa using hw
    have HW := Lib.hid hw2
    rw [Serial_word p s hw2]
    clear hw hw2
    go_enter Tryd.func6, Tryd.ntmps6
    go_wp2_with (go_at_call 11; refine (isword_not _ _ (by omega) HW.out).mono ?_; rintro e w1 ⟨rfl, rfl⟩)
    go_ret2
    exact ⟨rfl, Below.refl _ _⟩
set_option maxHeartbeats 400000 in
theorem refSerial_any (lot : ByteArray) (p s : Int) (w : World) (hl : lot.size ≤ 2000000) (he : Env w) :
    Calls Tryd.prog 7 #[.string lot, .int .i64 p, .int .i64 s] w fun e w' => e = .returned (SerialV (Plain.Serial lot.data.toList p s)) ∧ Below w.heap.size w w' := by
  by_cases hw : Plain.isWord lot.data.toList = true
  · have HW := Lib.hid hw
    have hz := word_size hw
    by_cases h0 : 0 ≤ p ∧ p ≤ 999 ∧ 0 ≤ s ∧ s ≤ 999
    · rw [Serial_ok p s hw h0]
      obtain ⟨h1, h2, h3, h4⟩ := h0
      clear hw
      go_enter Tryd.func7, Tryd.ntmps7
      go_wp2_with fail
      refine (refword_yes _ _ (by omega) HW.out).mono ?_
      rintro e w0 ⟨rfl, rfl⟩
      go_wp2_with (go_at_call 15; refine (inrange_yes _ _ _ _ (by omega) (by omega)).mono ?_; rintro e w1 ⟨rfl, rfl⟩)
      refine (refthree_S p _ h1 h2 he).mono ?_
      rintro e w1 ⟨S, rfl, hS, zS, hb1⟩
      go_wp2_with fail
      refine (refthree_S s _ h3 h4 (he.below hb1)).mono ?_
      rintro e w2 ⟨T, rfl, hT, zT, hb2⟩
      go_wp2_with fail
      refine (refsign_S _ _ (by rw [front_size]; omega)).mono ?_
      rintro e w3 ⟨c, rfl, hc, rfl⟩
      go_wp2_with fail
      go_ret2
      exact ⟨ret_two ((serial_bytes hS hT hc).trans (Plain.toList_mk _).symm), hb1.trans (hb2.mono hb1.size)⟩
    · rw [Serial_range p s hw h0]
      clear hw
      by_cases a1 : 0 ≤ p
      · by_cases a2 : p ≤ 999
        · by_cases a3 : 0 ≤ s
          · have a4 : 999 < s := by omega
            go_enter Tryd.func7, Tryd.ntmps7
            go_wp2_with (first | (go_at_call 14; refine (refword_yes _ _ (by omega) HW.out).mono ?_; rintro e w1 ⟨rfl, rfl⟩) | (go_at_call 15; refine (inrange_yes _ _ _ _ (by omega) (by omega)).mono ?_; rintro e w1 ⟨rfl, rfl⟩) | (go_at_call 15; refine (inrange_no _ _ _ _ (by omega)).mono ?_; rintro e w1 ⟨rfl, rfl⟩))
            go_ret2
            exact ⟨rfl, Below.refl _ _⟩
          · go_enter Tryd.func7, Tryd.ntmps7
            go_wp2_with (first | (go_at_call 14; refine (refword_yes _ _ (by omega) HW.out).mono ?_; rintro e w1 ⟨rfl, rfl⟩) | (go_at_call 15; refine (inrange_yes _ _ _ _ (by omega) (by omega)).mono ?_; rintro e w1 ⟨rfl, rfl⟩) | (go_at_call 15; refine (inrange_no _ _ _ _ (by omega)).mono ?_; rintro e w1 ⟨rfl, rfl⟩))
            go_ret2
            exact ⟨rfl, Below.refl _ _⟩
        · go_enter Tryd.func7, Tryd.ntmps7
          go_wp2_with (first | (go_at_call 14; refine (refword_yes _ _ (by omega) HW.out).mono ?_; rintro e w1 ⟨rfl, rfl⟩) | (go_at_call 15; refine (inrange_yes _ _ _ _ (by omega) (by omega)).mono ?_; rintro e w1 ⟨rfl, rfl⟩) | (go_at_call 15; refine (inrange_no _ _ _ _ (by omega)).mono ?_; rintro e w1 ⟨rfl, rfl⟩))
          go_ret2
          exact ⟨rfl, Below.refl _ _⟩
      · go_enter Tryd.func7, Tryd.ntmps7
        go_wp2_with (first | (go_at_call 14; refine (refword_yes _ _ (by omega) HW.out).mono ?_; rintro e w1 ⟨rfl, rfl⟩) | (go_at_call 15; refine (inrange_yes _ _ _ _ (by omega) (by omega)).mono ?_; rintro e w1 ⟨rfl, rfl⟩) | (go_at_call 15; refine (inrange_no _ _ _ _ (by omega)).mono ?_; rintro e w1 ⟨rfl, rfl⟩))
        go_ret2
        exact ⟨rfl, Below.refl _ _⟩
  · have hw2 : Plain.isWord lot.data.toList = false := by simpa using hw
    have HW := Lib.hid hw2
    rw [Serial_word p s hw2]
    clear hw hw2
    go_enter Tryd.func7, Tryd.ntmps7
    go_wp2_with (go_at_call 14; refine (refword_not _ _ (by omega) HW.out).mono ?_; rintro e w1 ⟨rfl, rfl⟩)
    go_ret2
    exact ⟨rfl, Below.refl _ _⟩
end Go.Proofs.YtneggmggiepnoaaDoor
