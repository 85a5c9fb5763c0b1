/- The walk of the law that one wrong digit is found. -/
import Derived.Test.YtneggmggiepnoaaDoorLawSerial
import Derived.Deep.RegionWith
namespace Go.Proofs.YtneggmggiepnoaaDoor
open Go.RowKit
set_option maxHeartbeats 400000 in
theorem find_fault (lot : ByteArray) (p s k d : Int) (w : World) (hl : lot.size ≤ 2000000) (he : Env w) (F : Int) (hF0 : F ≠ 0) (hf : Plain.Serial lot.data.toList p s = ([], F)) :
    Calls Tryd.prog 5 #[.string lot, .int .i64 p, .int .i64 s, .int .i64 k, .int .u8 d] w fun e w' => e = .returned (.bool true) ∧ Below w.heap.size w w' := by
  have E1 := Lib.hid hf
  have hF : (F == 0) = false := by rw [beq_eq_false_iff_ne]; exact hF0
  have hG : (F != 0) = true := by rw [bne_iff_ne]; exact hF0
  clear hf hF0
  go_enter Tryd.func5, Tryd.ntmps5
  go_wp2_with fail
  refine (Serial_any lot p s _ hl he).mono ?_
  rintro e w2 ⟨rfl, hb2⟩
  have he2 := he.below hb2
  rw [E1.out]
  unfold SerialV
  go_wp2_with (go_at_call 10; refine (reads_any _ he2).mono ?_; rintro e w5 ⟨rfl, hb5⟩)
  go_ret
  exact ⟨rfl, hb2.trans (hb5.mono hb2.size)⟩
theorem Serial_at (lot : ByteArray) (p s : Int) (w : World) (hl : lot.size ≤ 2000000) (he : Env w) (hw : Plain.isWord lot.data.toList = true) (hr : 0 ≤ p ∧ p ≤ 999 ∧ 0 ≤ s ∧ s ≤ 999) :
    Calls Tryd.prog 6 #[.string lot, .int .i64 p, .int .i64 s] w fun e w' => ∃ X : ByteArray, e = .returned (.tuple #[.string X, .int .i64 0]) ∧ Hid (X.data.toList = Plain.serial lot.data.toList p.toNat s.toNat) ∧ X.size = lot.size + 10 ∧ Below w.heap.size w w' := by
  refine (Serial_any lot p s w hl he).mono ?_
  rintro e w' ⟨rfl, hb⟩
  rw [Serial_ok p s hw hr]
  exact ⟨_, rfl, Plain.toList_mk _, by rw [← size_list, Plain.toList_mk, serial_len, size_list], hb⟩
set_option maxHeartbeats 400000 in
theorem find_out (lot : ByteArray) (p s k : Int) (g : UInt8) (w : World) (hl : lot.size ≤ 2000000) (he : Env w) (hw : Plain.isWord lot.data.toList = true) (hr : 0 ≤ p ∧ p ≤ 999 ∧ 0 ≤ s ∧ s ≤ 999)
    (ho : (g.toNat : Int) < 48 ∨ 57 < (g.toNat : Int) ∨ k < lot.size + 1 ∨ lot.size + 1 + 6 < k ∨ k = lot.size + 1 + 3 ∨ 36 ≤ k) :
    Calls Tryd.prog 5 #[.string lot, .int .i64 p, .int .i64 s, .int .i64 k, .int .u8 (g.toNat : Int)] w fun e w' => e = .returned (.bool true) ∧ Below w.heap.size w w' := by
  have hlen := word_size hw
  have HW := Lib.hid hw
  have HR := Lib.hid hr
  clear hw hr
  by_cases a1 : (g.toNat : Int) < 48
  · clear ho
    go_enter Tryd.func5, Tryd.ntmps5
    go_wp2_with fail
    refine (Serial_at lot p s _ hl he HW.out HR.out).mono ?_
    rintro e w2 ⟨X, rfl, hX, hz, hb2⟩
    have he2 := he.below hb2
    go_wp2_with (go_at_call 10; refine (reads_any _ he2).mono ?_; rintro e w5 ⟨rfl, hb5⟩)
    go_ret
    exact ⟨rfl, hb2.trans (hb5.mono hb2.size)⟩
  · by_cases a2 : 57 < (g.toNat : Int)
    · clear ho
      go_enter Tryd.func5, Tryd.ntmps5
      go_wp2_with fail
      refine (Serial_at lot p s _ hl he HW.out HR.out).mono ?_
      rintro e w2 ⟨X, rfl, hX, hz, hb2⟩
      have he2 := he.below hb2
      go_wp2_with (go_at_call 10; refine (reads_any _ he2).mono ?_; rintro e w5 ⟨rfl, hb5⟩)
      go_ret
      exact ⟨rfl, hb2.trans (hb5.mono hb2.size)⟩
    · by_cases a3 : k < lot.size + 1
      · clear ho
        go_enter Tryd.func5, Tryd.ntmps5
        go_wp2_with fail
        refine (Serial_at lot p s _ hl he HW.out HR.out).mono ?_
        rintro e w2 ⟨X, rfl, hX, hz, hb2⟩
        have he2 := he.below hb2
        go_wp2_with (go_at_call 10; refine (reads_any _ he2).mono ?_; rintro e w5 ⟨rfl, hb5⟩)
        go_ret
        exact ⟨rfl, hb2.trans (hb5.mono hb2.size)⟩
      · by_cases a4 : lot.size + 1 + 6 < k
        · clear ho
          go_enter Tryd.func5, Tryd.ntmps5
          go_wp2_with fail
          refine (Serial_at lot p s _ hl he HW.out HR.out).mono ?_
          rintro e w2 ⟨X, rfl, hX, hz, hb2⟩
          have he2 := he.below hb2
          go_wp2_with (go_at_call 10; refine (reads_any _ he2).mono ?_; rintro e w5 ⟨rfl, hb5⟩)
          go_ret
          exact ⟨rfl, hb2.trans (hb5.mono hb2.size)⟩
        · by_cases a5 : k = lot.size + 1 + 3
          · have e5 : (k == (lot.size : Int) + 1 + 3) = true := by rw [beq_iff_eq]; exact a5
            clear ho a5
            go_enter Tryd.func5, Tryd.ntmps5
            go_wp2_with fail
            refine (Serial_at lot p s _ hl he HW.out HR.out).mono ?_
            rintro e w2 ⟨X, rfl, hX, hz, hb2⟩
            have he2 := he.below hb2
            go_wp2_with (go_at_call 10; refine (reads_any _ he2).mono ?_; rintro e w5 ⟨rfl, hb5⟩)
            go_ret
            exact ⟨rfl, hb2.trans (hb5.mono hb2.size)⟩
          · have e5 : (k == (lot.size : Int) + 1 + 3) = false := by rw [beq_eq_false_iff_ne]; exact a5
            have a6 : 36 ≤ k := by omega
            clear ho a5
            go_enter Tryd.func5, Tryd.ntmps5
            go_wp2_with fail
            refine (Serial_at lot p s _ hl he HW.out HR.out).mono ?_
            rintro e w2 ⟨X, rfl, hX, hz, hb2⟩
            have he2 := he.below hb2
            go_wp2_with (go_at_call 10; refine (reads_any _ he2).mono ?_; rintro e w5 ⟨rfl, hb5⟩)
            go_ret
            exact ⟨rfl, hb2.trans (hb5.mono hb2.size)⟩
theorem damaged_text {lot X : ByteArray} {p s : Int} {g : UInt8} {j : Nat} (hw : Plain.isWord lot.data.toList = true) (_hr : 0 ≤ p ∧ p ≤ 999 ∧ 0 ≤ s ∧ s ≤ 999) (hX : X.data.toList = Plain.serial lot.data.toList p.toNat s.toNat) (hj : j < X.size)
    (g0 : 48 ≤ (g.toNat : Int)) (g1 : (g.toNat : Int) ≤ 57) (j0 : lot.size + 1 ≤ j) (j1 : j ≤ lot.size + 7) (j2 : j ≠ lot.size + 4) (j3 : j < 36) (hne : X[j] ≠ g) :
    Plain.ReadSerial (X.extract 0 j ++ ByteArray.mk #[g] ++ X.extract (j + 1) X.size).data.toList = ([], 0, 0, 15) := by
  have h := Plain.find_digits (lot := lot.data.toList) (p := p.toNat) (s := s.toNat) (k := j) (d := g) hw (digit_yes g0 g1) (by rw [size_list]; omega) (by rw [size_list]; omega) (by rw [size_list]; omega) j3
    (by
      rw [← hX]
      intro e
      rw [List.getElem?_eq_getElem (by rw [size_list]; exact hj)] at e
      exact hne (Option.some.inj e))
  rw [← h, ← hX]
  congr 1
  rw [ByteArray.data_append, ByteArray.data_append]
  simp only [Array.toList_append, Lib.extract_data]
  rw [List.drop_zero, Nat.sub_zero]
  rw [List.take_of_length_le (l := List.drop (j + 1) X.data.toList) (by rw [List.length_drop, size_list]; omega)]
  simp
theorem read_dam (T : ByteArray) (w : World) (hs : T.size ≤ 2097152) (he : Env w) (h : Plain.ReadSerial T.data.toList = ([], 0, 0, 15)) :
    Calls Tryd.prog 8 #[.string T] w fun e w' => e = .returned (.tuple #[.string ⟨#[]⟩, .int .i64 0, .int .i64 0, .int .i64 15]) ∧ Below w.heap.size w w' := by
  refine (Read_any T w hs he).mono ?_
  rintro e w' ⟨rfl, hb⟩
  rw [h]
  exact ⟨rfl, hb⟩
/-- the text with another digit is damaged, and not too long -/
def Damaged (X : ByteArray) (g : UInt8) (j : Nat) : Prop :=
  Plain.ReadSerial (X.extract 0 j ++ ByteArray.mk #[g] ++ X.extract (j + 1) X.size).data.toList = ([], 0, 0, 15) ∧ (X.extract 0 j ++ ByteArray.mk #[g] ++ X.extract (j + 1) X.size).size ≤ 2097152
theorem damaged_mk {lot X : ByteArray} {p s : Int} {g : UInt8} {j : Nat} (hw : Plain.isWord lot.data.toList = true) (hr : 0 ≤ p ∧ p ≤ 999 ∧ 0 ≤ s ∧ s ≤ 999) (hX : X.data.toList = Plain.serial lot.data.toList p.toNat s.toNat) (hj : j < X.size)
    (g0 : 48 ≤ (g.toNat : Int)) (g1 : (g.toNat : Int) ≤ 57) (j0 : lot.size + 1 ≤ j) (j1 : j ≤ lot.size + 7) (j2 : j ≠ lot.size + 4) (j3 : j < 36) (hne : X[j] ≠ g) (hz : X.size ≤ 2000000) : Damaged X g j := by
  refine ⟨damaged_text hw hr hX hj g0 g1 j0 j1 j2 j3 hne, ?_⟩
  have d1 : (ByteArray.mk #[g]).size = 1 := rfl
  simp only [ByteArray.size_append, ByteArray.size_extract, d1]
  omega
set_option maxRecDepth 100000 in
set_option maxHeartbeats 1600000 in
theorem find_in (lot : ByteArray) (p s : Int) (j : Nat) (g : UInt8) (w : World) (hl : lot.size ≤ 2000000) (he : Env w) (hw : Plain.isWord lot.data.toList = true) (hr : 0 ≤ p ∧ p ≤ 999 ∧ 0 ≤ s ∧ s ≤ 999)
    (g0 : 48 ≤ (g.toNat : Int)) (g1 : (g.toNat : Int) ≤ 57) (j0 : lot.size + 1 ≤ j) (j1 : j ≤ lot.size + 7) (j2 : j ≠ lot.size + 4) (j3 : j < 36) :
    Calls Tryd.prog 5 #[.string lot, .int .i64 p, .int .i64 s, .int .i64 (j : Int), .int .u8 (g.toNat : Int)] w fun e w' => e = .returned (.bool true) ∧ Below w.heap.size w w' := by
  have hlen := word_size hw
  have HW := Lib.hid hw
  have HR := Lib.hid hr
  have e5 : ((j : Int) == (lot.size : Int) + 1 + 3) = false := by rw [beq_eq_false_iff_ne]; omega
  clear hw hr
  go_enter Tryd.func5, Tryd.ntmps5
  go_wp2_with fail
  refine (Serial_at lot p s _ hl he HW.out HR.out).mono ?_
  rintro e w2 ⟨X, rfl, hX, hz, hb2⟩
  have he2 := he.below hb2
  have hz1 : X.size ≤ lot.size + 10 := by omega
  have hz2 : lot.size + 10 ≤ X.size := by omega
  clear hz
  have hj : j < X.size := by omega
  by_cases hq : X[j] = g
  · have hq2 : (((X[j]).toNat : Int) == (g.toNat : Int)) = true := by rw [hq]; simp
    clear hq
    go_wp2_with (go_at_call 10; refine (reads_any _ he2).mono ?_; rintro e w5 ⟨rfl, hb5⟩)
    go_ret
    exact ⟨rfl, hb2.trans (hb5.mono hb2.size)⟩
  · have hq2 : (((X[j]).toNat : Int) == (g.toNat : Int)) = false := by
      rw [beq_eq_false_iff_ne]
      intro e
      exact hq (UInt8.toNat_inj.1 (by omega))
    have HD := damaged_mk HW.out HR.out hX.out hj g0 g1 j0 j1 j2 j3 hq (by omega)
    clear hq
    go_wp2
    have hE : Utf8.encode (g.toNat : Int) = ⟨#[g]⟩ := Plain.encode_byte g (by omega)
    clear e5 hX
    have n1 : IntKind.i64.wrap ((j : Int) + 1) = (j : Int) + 1 := IntWalk.i64_in _ (by omega)
    have n2 : 0 ≤ (j : Int) + 1 := by omega
    have n3 : ((j : Int) + 1).toNat = j + 1 := by omega
    have n4 : IntKind.i32.wrap (g.toNat : Int) = (g.toNat : Int) := IntWalk.i32_in _ (by omega)
    have m1 : j ≤ X.size := by omega
    have m3 : (j : Int) + 1 ≤ (X.size : Int) := by omega
    have m2 : j + 1 ≤ X.size := by omega
    have k1 : ¬ (9223372036854775807 < j + 1) := by omega
    have k2 : ¬ (9223372036854775807 < X.size) := by omega
    go_region_with (go_at_call 8; refine (read_dam _ _ HD.2 he2.drew HD.1).mono ?_; rintro e w3 ⟨rfl, hb3⟩)
    all_goals
      clear n1 n2 n3 n4 k1 k2
      have he3 := he2.drew.below hb3
      go_wp2_with (go_at_call 10; refine (reads_any _ he3).mono ?_; rintro e w5 ⟨rfl, hb5⟩)
      go_ret
      exact ⟨rfl, hb2.trans (((below_drewN _ w2 1).trans (hb3.trans (hb5.mono hb3.size))).mono hb2.size)⟩
theorem find_walk (lot : ByteArray) (p s k : Int) (g : UInt8) (w : World) (hl : lot.size ≤ 2000000) (he : Env w) :
    Calls Tryd.prog 5 #[.string lot, .int .i64 p, .int .i64 s, .int .i64 k, .int .u8 (g.toNat : Int)] w fun e w' => e = .returned (.bool true) ∧ Below w.heap.size w w' := by
  cases hw : Plain.isWord lot.data.toList with
  | false => exact find_fault lot p s k _ w hl he 5 (by decide) (Serial_word p s hw)
  | true =>
    by_cases hr : 0 ≤ p ∧ p ≤ 999 ∧ 0 ≤ s ∧ s ≤ 999
    · by_cases ho : (g.toNat : Int) < 48 ∨ 57 < (g.toNat : Int) ∨ k < lot.size + 1 ∨ lot.size + 1 + 6 < k ∨ k = lot.size + 1 + 3 ∨ 36 ≤ k
      · exact find_out lot p s k g w hl he hw hr ho
      · obtain ⟨j, rfl⟩ := Int.eq_ofNat_of_zero_le (show 0 ≤ k by omega)
        exact find_in lot p s j g w hl he hw hr (by omega) (by omega) (by omega) (by omega) (by omega) (by omega)
    · exact find_fault lot p s k _ w hl he 1 (by decide) (Serial_range p s hw hr)
end Go.Proofs.YtneggmggiepnoaaDoor
