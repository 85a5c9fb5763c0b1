/- The walks of the three laws on serial numbers, out of the contracts. -/
import Derived.Test.YtneggmggiepnoaaDoorWalkRead2
namespace Go.Proofs.YtneggmggiepnoaaDoor
open Go.RowKit
theorem read_const (w : World) (he : Env w) :
    Calls Tryd.prog 8 #[.string ⟨#[97, 46, 48, 48, 49, 46, 48, 48, 50, 46, 48]⟩] w fun e w' => e = .returned (.tuple #[.string ⟨#[]⟩, .int .i64 0, .int .i64 0, .int .i64 15]) ∧ Below w.heap.size w w' := by
  have h : ReadV (Plain.ReadSerial (ByteArray.mk #[97, 46, 48, 48, 49, 46, 48, 48, 50, 46, 48]).data.toList) = .tuple #[.string ⟨#[]⟩, .int .i64 0, .int .i64 0, .int .i64 15] := by
    rw [show Plain.ReadSerial (ByteArray.mk #[97, 46, 48, 48, 49, 46, 48, 48, 50, 46, 48]).data.toList = ([], 0, 0, 15) by decide +kernel]
    rfl
  rw [← h]
  exact Read_any _ w (by decide) he
theorem serial_const (w : World) (he : Env w) :
    Calls Tryd.prog 6 #[.string ⟨#[97]⟩, .int .i64 1, .int .i64 2] w fun e w' => ∃ c : UInt8, e = .returned (.tuple #[.string ⟨#[97, 46, 48, 48, 49, 46, 48, 48, 50, 46, c]⟩, .int .i64 0]) ∧ Below w.heap.size w w' := by
  refine (Serial_any ⟨#[97]⟩ 1 2 w (by decide) he).mono ?_
  rintro e w' ⟨rfl, hb⟩
  refine ⟨Plain.signOf [97, 46, 48, 48, 49, 46, 48, 48, 50], ?_, hb⟩
  rw [show Plain.Serial (ByteArray.mk #[97]).data.toList 1 2 = ([97, 46, 48, 48, 49, 46, 48, 48, 50, 46, Plain.signOf [97, 46, 48, 48, 49, 46, 48, 48, 50]], 0) by decide +kernel]
  rfl
theorem prefix_const (c : UInt8) (w : World) :
    Calls Tryd.prog 24 #[.string ⟨#[97, 46, 48, 48, 49, 46, 48, 48, 50, 46, c]⟩, .string ⟨#[97, 46, 48, 48, 49, 46, 48, 48, 50, 46]⟩] w fun e w' => e = .returned (.bool true) ∧ w = w' := by
  refine (Tryd.strings_HasPrefix _ _ w).mono ?_
  rintro e w' ⟨rfl, rfl⟩
  exact ⟨rfl, rfl⟩
set_option maxHeartbeats 400000 in
theorem reads_any (w : World) (he : Env w) :
    Calls Tryd.prog 10 #[] w fun e w' => e = .returned (.bool true) ∧ Below w.heap.size w w' := by
  go_enter Tryd.func10, Tryd.ntmps10
  go_wp2_with fail
  refine (read_const _ he).mono ?_
  rintro e w1 ⟨rfl, hb1⟩
  go_wp2_with fail
  refine (serial_const _ (he.below hb1)).mono ?_
  rintro e w2 ⟨c, rfl, hb2⟩
  go_wp2_with (go_at_call 24; refine (prefix_const c _).mono ?_; rintro e w3 ⟨rfl, rfl⟩)
  go_ret
  exact ⟨rfl, hb1.trans (hb2.mono hb1.size)⟩
set_option maxHeartbeats 400000 in
theorem match_walk (lot text : ByteArray) (p s : Int) (w : World) (hl : lot.size ≤ 2000000) (ht : text.size ≤ 2000000) (he : Env w) :
    Calls Tryd.prog 3 #[.string lot, .int .i64 p, .int .i64 s, .string text] w fun e w' => e = .returned (.bool true) ∧ Below w.heap.size w w' := by
  have h1 := Serial_any lot p s
  have h2 := refSerial_any lot p s
  have h3 := Read_any text
  have h4 := refRead_any text
  generalize Plain.Serial lot.data.toList p s = r at h1 h2
  generalize Plain.ReadSerial text.data.toList = q at h3 h4
  obtain ⟨X, F⟩ := r
  obtain ⟨Y, a, b, G⟩ := q
  have H1 := Lib.hid h1
  have H2 := Lib.hid h2
  have H3 := Lib.hid h3
  have H4 := Lib.hid h4
  clear h1 h2 h3 h4
  go_enter Tryd.func3, Tryd.ntmps3
  go_wp2_with fail
  refine (H1.out _ hl he).mono ?_
  rintro e w1 ⟨rfl, hb1⟩
  have he1 := he.below hb1
  unfold SerialV
  go_wp2_with fail
  refine (H2.out _ hl he1).mono ?_
  rintro e w2 ⟨rfl, hb2⟩
  have he2 := he1.below hb2
  unfold SerialV
  go_wp2_with fail
  refine (H3.out _ (by omega) he2).mono ?_
  rintro e w3 ⟨rfl, hb3⟩
  have he3 := he2.below hb3
  unfold ReadV
  go_wp2_with fail
  refine (H4.out _ (by omega) he3).mono ?_
  rintro e w4 ⟨rfl, hb4⟩
  have he4 := he3.below hb4
  unfold ReadV
  go_wp2_with (go_at_call 10; refine (reads_any _ he4).mono ?_; rintro e w5 ⟨rfl, hb5⟩)
  go_ret
  exact ⟨rfl, hb1.trans ((hb2.trans ((hb3.trans ((hb4.trans (hb5.mono hb4.size)).mono hb3.size)).mono hb2.size)).mono hb1.size)⟩
theorem serial_len (lot : List UInt8) (p s : Nat) : (Plain.serial lot p s).length = lot.length + 10 := by
  simp [Plain.serial, Plain.front_len, Plain.three]
theorem read_size {text : List UInt8} {a : List UInt8} {P Q : Int} (h : Plain.ReadSerial text = (a, P, Q, 0)) : a.length ≤ text.length := by
  unfold Plain.ReadSerial at h
  have hl := split_len 46 text
  revert h hl
  generalize Plain.splitOn1 46 text = W
  intro h hl
  unfold Plain.readParts at h
  split at h
  · rename_i x b c d
    have := hl x (by simp)
    split at h
    · split at h
      · split at h
        · simp only [Prod.mk.injEq] at h
          rw [← h.1]
          exact this
        · simp at h
      · simp at h
    · simp at h
  · simp at h
set_option maxHeartbeats 800000 in
theorem come_11 (lot text : ByteArray) (p s : Int) (w : World) (hl : lot.size ≤ 2000000) (ht : text.size ≤ 2000000) (he : Env w) (hw : Plain.isWord lot.data.toList = true) (hr : 0 ≤ p ∧ p ≤ 999 ∧ 0 ≤ s ∧ s ≤ 999) (a : List UInt8) (P Q : Int) (hq : Plain.ReadSerial text.data.toList = (a, P, Q, 0)) :
    Calls Tryd.prog 4 #[.string lot, .int .i64 p, .int .i64 s, .string text] w fun e w' => e = .returned (.bool true) ∧ Below w.heap.size w w' := by
  have E1 := Lib.hid (Serial_ok p s hw hr)
  have E2 := Lib.hid (Plain.read_serial hw (show p.toNat ≤ 999 by omega) (show s.toNat ≤ 999 by omega))
  have hz := word_size hw
  obtain ⟨h0, h1, h2, h3⟩ := hr
  clear hw
  have D1 := Lib.hid hq
  have D2 := Lib.hid (Plain.serial_read hq)
  have D3 := Lib.hid (read_size hq)
  clear hq
  go_enter Tryd.func4, Tryd.ntmps4
  go_wp2_with fail
  refine (Serial_any lot p s _ hl he).mono ?_
  rintro e w1 ⟨rfl, hb1⟩
  have he1 := he.below hb1
  rw [E1.out]
  unfold SerialV
  go_wp2_with fail
  refine (Read_any _ _ (by rw [← size_list, Plain.toList_mk, serial_len, size_list]; omega) he1).mono ?_
  rintro e w2 ⟨rfl, hb2⟩
  have he2 := he1.below hb2
  rw [Plain.toList_mk, E2.out]
  unfold ReadV
  rw [Plain.mk_toList, show ((p.toNat : Nat) : Int) = p by omega, show ((s.toNat : Nat) : Int) = s by omega]
  go_wp2_with fail
  refine (Read_any text _ (by omega) he2).mono ?_
  rintro e w3 ⟨rfl, hb3⟩
  have he3 := he2.below hb3
  rw [D1.out]
  unfold ReadV
  go_wp2_with fail
  refine (Serial_any ⟨a.toArray⟩ P Q _ (by rw [← size_list, Plain.toList_mk]; have := D3.out; rw [size_list] at this; omega) he3).mono ?_
  rintro e w4 ⟨rfl, hb4⟩
  have he4 := he3.below hb4
  rw [Plain.toList_mk, D2.out]
  unfold SerialV
  rw [Plain.mk_toList]
  go_wp2_with (go_at_call 10; refine (reads_any _ he4).mono ?_; rintro e w5 ⟨rfl, hb5⟩)
  go_ret
  exact ⟨rfl, hb1.trans ((hb2.trans ((hb3.trans ((hb4.trans (hb5.mono hb4.size)).mono hb3.size)).mono hb2.size)).mono hb1.size)⟩
set_option maxHeartbeats 800000 in
theorem come_10 (lot text : ByteArray) (p s : Int) (w : World) (hl : lot.size ≤ 2000000) (ht : text.size ≤ 2000000) (he : Env w) (hw : Plain.isWord lot.data.toList = true) (hr : 0 ≤ p ∧ p ≤ 999 ∧ 0 ≤ s ∧ s ≤ 999) (G : Int) (hG0 : G ≠ 0) (hq : Plain.ReadSerial text.data.toList = ([], 0, 0, G)) :
    Calls Tryd.prog 4 #[.string lot, .int .i64 p, .int .i64 s, .string text] w fun e w' => e = .returned (.bool true) ∧ Below w.heap.size w w' := by
  have E1 := Lib.hid (Serial_ok p s hw hr)
  have E2 := Lib.hid (Plain.read_serial hw (show p.toNat ≤ 999 by omega) (show s.toNat ≤ 999 by omega))
  have hz := word_size hw
  obtain ⟨h0, h1, h2, h3⟩ := hr
  clear hw
  have D1 := Lib.hid hq
  have hG : (G != 0) = true := by rw [bne_iff_ne]; exact hG0
  clear hq hG0
  go_enter Tryd.func4, Tryd.ntmps4
  go_wp2_with fail
  refine (Serial_any lot p s _ hl he).mono ?_
  rintro e w1 ⟨rfl, hb1⟩
  have he1 := he.below hb1
  rw [E1.out]
  unfold SerialV
  go_wp2_with fail
  refine (Read_any _ _ (by rw [← size_list, Plain.toList_mk, serial_len, size_list]; omega) he1).mono ?_
  rintro e w2 ⟨rfl, hb2⟩
  have he2 := he1.below hb2
  rw [Plain.toList_mk, E2.out]
  unfold ReadV
  rw [Plain.mk_toList, show ((p.toNat : Nat) : Int) = p by omega, show ((s.toNat : Nat) : Int) = s by omega]
  go_wp2_with fail
  refine (Read_any text _ (by omega) he2).mono ?_
  rintro e w3 ⟨rfl, hb3⟩
  have he3 := he2.below hb3
  rw [D1.out]
  unfold ReadV
  go_wp2_with (go_at_call 10; refine (reads_any _ he3).mono ?_; rintro e w5 ⟨rfl, hb5⟩)
  go_ret
  exact ⟨rfl, hb1.trans ((hb2.trans ((hb3.trans (hb5.mono hb3.size)).mono hb2.size)).mono hb1.size)⟩
set_option maxHeartbeats 800000 in
theorem come_01 (lot text : ByteArray) (p s : Int) (w : World) (hl : lot.size ≤ 2000000) (ht : text.size ≤ 2000000) (he : Env w) (F : Int) (hF0 : F ≠ 0) (hf : Plain.Serial lot.data.toList p s = ([], F)) (a : List UInt8) (P Q : Int) (hq : Plain.ReadSerial text.data.toList = (a, P, Q, 0)) :
    Calls Tryd.prog 4 #[.string lot, .int .i64 p, .int .i64 s, .string text] w fun e w' => e = .returned (.bool true) ∧ Below w.heap.size w w' := by
  have E1 := Lib.hid hf
  have hF : (F == 0) = false := by rw [beq_eq_false_iff_ne]; exact hF0
  clear hf hF0
  have D1 := Lib.hid hq
  have D2 := Lib.hid (Plain.serial_read hq)
  have D3 := Lib.hid (read_size hq)
  clear hq
  go_enter Tryd.func4, Tryd.ntmps4
  go_wp2_with fail
  refine (Serial_any lot p s _ hl he).mono ?_
  rintro e w2 ⟨rfl, hb2⟩
  have he2 := he.below hb2
  rw [E1.out]
  unfold SerialV
  go_wp2_with fail
  refine (Read_any text _ (by omega) he2).mono ?_
  rintro e w3 ⟨rfl, hb3⟩
  have he3 := he2.below hb3
  rw [D1.out]
  unfold ReadV
  go_wp2_with fail
  refine (Serial_any ⟨a.toArray⟩ P Q _ (by rw [← size_list, Plain.toList_mk]; have := D3.out; rw [size_list] at this; omega) he3).mono ?_
  rintro e w4 ⟨rfl, hb4⟩
  have he4 := he3.below hb4
  rw [Plain.toList_mk, D2.out]
  unfold SerialV
  rw [Plain.mk_toList]
  go_wp2_with (go_at_call 10; refine (reads_any _ he4).mono ?_; rintro e w5 ⟨rfl, hb5⟩)
  go_ret
  exact ⟨rfl, hb2.trans ((hb3.trans ((hb4.trans (hb5.mono hb4.size)).mono hb3.size)).mono hb2.size)⟩
set_option maxHeartbeats 800000 in
theorem come_00 (lot text : ByteArray) (p s : Int) (w : World) (hl : lot.size ≤ 2000000) (ht : text.size ≤ 2000000) (he : Env w) (F : Int) (hF0 : F ≠ 0) (hf : Plain.Serial lot.data.toList p s = ([], F)) (G : Int) (hG0 : G ≠ 0) (hq : Plain.ReadSerial text.data.toList = ([], 0, 0, G)) :
    Calls Tryd.prog 4 #[.string lot, .int .i64 p, .int .i64 s, .string text] w fun e w' => e = .returned (.bool true) ∧ Below w.heap.size w w' := by
  have E1 := Lib.hid hf
  have hF : (F == 0) = false := by rw [beq_eq_false_iff_ne]; exact hF0
  clear hf hF0
  have D1 := Lib.hid hq
  have hG : (G != 0) = true := by rw [bne_iff_ne]; exact hG0
  clear hq hG0
  go_enter Tryd.func4, Tryd.ntmps4
  go_wp2_with fail
  refine (Serial_any lot p s _ hl he).mono ?_
  rintro e w2 ⟨rfl, hb2⟩
  have he2 := he.below hb2
  rw [E1.out]
  unfold SerialV
  go_wp2_with fail
  refine (Read_any text _ (by omega) he2).mono ?_
  rintro e w3 ⟨rfl, hb3⟩
  have he3 := he2.below hb3
  rw [D1.out]
  unfold ReadV
  go_wp2_with (go_at_call 10; refine (reads_any _ he3).mono ?_; rintro e w5 ⟨rfl, hb5⟩)
  go_ret
  exact ⟨rfl, hb2.trans ((hb3.trans (hb5.mono hb3.size)).mono hb2.size)⟩
theorem come_walk (lot text : ByteArray) (p s : Int) (w : World) (hl : lot.size ≤ 2000000) (ht : text.size ≤ 2000000) (he : Env w) :
    Calls Tryd.prog 4 #[.string lot, .int .i64 p, .int .i64 s, .string text] w fun e w' => e = .returned (.bool true) ∧ Below w.heap.size w w' := by
  obtain ⟨q1, q2, q3, G, hq⟩ : ∃ q1 q2 q3 G, Plain.ReadSerial text.data.toList = (q1, q2, q3, G) := ⟨_, _, _, _, rfl⟩
  have hread : (G = 0) ∨ (G ≠ 0 ∧ Plain.ReadSerial text.data.toList = ([], 0, 0, G)) := by
    by_cases hG : G = 0
    · exact .inl hG
    · have h := Plain.read_fault (text := text.data.toList) (by rw [hq]; exact hG)
      rw [hq] at h
      simp only at h
      obtain ⟨rfl, rfl, rfl⟩ := h
      exact .inr ⟨hG, hq⟩
  cases hw : Plain.isWord lot.data.toList with
  | false =>
    have hf := Serial_word p s hw
    rcases hread with rfl | ⟨hG, hq⟩
    · exact come_01 lot text p s w hl ht he 5 (by decide) hf q1 q2 q3 hq
    · exact come_00 lot text p s w hl ht he 5 (by decide) hf G hG hq
  | true =>
    by_cases hr : 0 ≤ p ∧ p ≤ 999 ∧ 0 ≤ s ∧ s ≤ 999
    · rcases hread with rfl | ⟨hG, hq⟩
      · exact come_11 lot text p s w hl ht he hw hr q1 q2 q3 hq
      · exact come_10 lot text p s w hl ht he hw hr G hG hq
    · have hf := Serial_range p s hw hr
      rcases hread with rfl | ⟨hG, hq⟩
      · exact come_01 lot text p s w hl ht he 1 (by decide) hf q1 q2 q3 hq
      · exact come_00 lot text p s w hl ht he 1 (by decide) hf G hG hq
end Go.Proofs.YtneggmggiepnoaaDoor
