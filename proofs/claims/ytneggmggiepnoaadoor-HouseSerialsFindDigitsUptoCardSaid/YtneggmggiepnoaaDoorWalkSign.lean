/- Walks: the sign of a serial number, in the program and in the reference. -/
import Derived.Test.YtneggmggiepnoaaDoorBase
namespace Go.Proofs.YtneggmggiepnoaaDoor
open Go.RowKit
theorem sum_small (l : List UInt8) (h : l.length ≤ 2097152) : Plain.sumFrom 0 l ≤ 1121501860331520 := by
  have := Plain.sumFrom_le l 0
  have h2 : l.length * l.length ≤ 2097152 * 2097152 := Nat.mul_le_mul h h
  have h3 : (0 + l.length) * 255 * l.length = 255 * (l.length * l.length) := by rw [Nat.zero_add, Nat.mul_comm l.length 255, Nat.mul_assoc]
  omega
theorem sum_step (s : ByteArray) (k : Nat) (h : k < s.size) (hs : s.size ≤ 2097152) :
    wrap64 (↑(Plain.sumFrom 0 (List.take k s.data.toList)) + wrap64 ((↑k + 1) * wrap64 ↑(s[k].toNat))) = ((Plain.sumFrom 0 (s.data.toList.take (k + 1)) : Nat) : Int) := by
  have hl : s.data.toList.length = s.size := by simp
  have hb : s[k].toNat ≤ 255 := by have := s[k].toNat_lt; omega
  have h1 := Plain.sumFrom_take s.data.toList k (by omega)
  have h2 := sum_small (s.data.toList.take (k + 1)) (by simp; omega)
  have e : (s.data.toList[k]'(by omega)) = s[k] := rfl
  rw [e] at h1
  rw [wrap_in (s[k].toNat : Int) (by omega) (by omega)]
  have hm : ((k : Int) + 1) * (s[k].toNat : Int) = (((k + 1) * s[k].toNat : Nat) : Int) := by
    rw [Int.natCast_mul, Int.natCast_add]
    rfl
  rw [hm, wrap_in (((k + 1) * s[k].toNat : Nat) : Int) (by omega) (by omega), wrap_in _ (by omega) (by omega), h1]
  rw [Int.natCast_add]
theorem sign_at (n : Nat) (h : n % 37 < (ByteArray.mk #[48, 49, 50, 51, 52, 53, 54, 55, 56, 57, 65, 66, 67, 68, 69, 70, 71, 72, 73, 74, 75, 76, 77, 78, 79, 80, 81, 82, 83, 84, 85, 86, 87, 88, 89, 90, 42]).size) :
    ((((ByteArray.mk #[48, 49, 50, 51, 52, 53, 54, 55, 56, 57, 65, 66, 67, 68, 69, 70, 71, 72, 73, 74, 75, 76, 77, 78, 79, 80, 81, 82, 83, 84, 85, 86, 87, 88, 89, 90, 42])[n % 37]'h).toNat : Nat) : Int) = ((Plain.signs.getD (n % 37) 0).toNat : Int) := by
  rw [List.getD_eq_getElem?_getD, List.getElem?_eq_getElem (show n % 37 < Plain.signs.length from Nat.mod_lt _ (by decide))]
  rfl
theorem signs_cut (n : Nat) : ((ByteArray.mk #[48, 49, 50, 51, 52, 53, 54, 55, 56, 57, 65, 66, 67, 68, 69, 70, 71, 72, 73, 74, 75, 76, 77, 78, 79, 80, 81, 82, 83, 84, 85, 86, 87, 88, 89, 90, 42]).extract (n % 37) (n % 37 + 1)).data.toList = [Plain.signs.getD (n % 37) 0] := by
  have h : ∀ k : Fin 37, ((ByteArray.mk #[48, 49, 50, 51, 52, 53, 54, 55, 56, 57, 65, 66, 67, 68, 69, 70, 71, 72, 73, 74, 75, 76, 77, 78, 79, 80, 81, 82, 83, 84, 85, 86, 87, 88, 89, 90, 42]).extract k.val (k.val + 1)).data.toList = [Plain.signs.getD k.val 0] := by decide +kernel
  exact h ⟨n % 37, Nat.mod_lt _ (by decide)⟩
set_option maxHeartbeats 400000 in
theorem sign_any (s : ByteArray) (w : World) (hs : s.size ≤ 2097152) :
    Calls Tryd.prog 21 #[.string s] w fun e w' => e = .returned (.int .u8 ((Plain.signOf s.data.toList).toNat : Int)) ∧ w = w' := by
  go_enter Tryd.func21, Tryd.ntmps21
  go_wp2
  go_loop [3, 7] (fun t i => ∃ k : Nat, k ≤ s.size ∧ i = .int .i64 k ∧ t = .int .i64 (Plain.sumFrom 0 (s.data.toList.take k) : Nat)) (fun _ i => s.size - (intOf i).toNat)
  case atStart => exact ⟨0, Nat.zero_le _, rfl, rfl⟩
  case round =>
    obtain ⟨k, hk, rfl, rfl⟩ := hrel
    by_cases hlt : k < s.size
    · go_wp2
      go_round
      case rel => exact ⟨k + 1, by omega, by go_num, by rw [sum_step s k hlt hs]⟩
      case measure => simp [intOf]; omega
    · go_wp2
      go_ret
      refine ⟨ret_int ?_, rfl⟩
      exact (sign_at _ _).trans (by rw [List.take_of_length_le (by simp; omega)]; rfl)
set_option maxHeartbeats 400000 in
theorem refsign_any (s : ByteArray) (w : World) (hs : s.size ≤ 2097152) :
    Calls Tryd.prog 17 #[.string s] w fun e w' => e = .returned (.string ⟨#[Plain.signOf s.data.toList]⟩) ∧ w = w' := by
  go_enter Tryd.func17, Tryd.ntmps17
  go_wp2
  go_loop [3, 4] (fun t i => ∃ k : Nat, k ≤ s.size ∧ i = .int .i64 k ∧ t = .int .i64 (Plain.sumFrom 0 (s.data.toList.take k) : Nat)) (fun _ i => s.size - (intOf i).toNat)
  case atStart => exact ⟨0, Nat.zero_le _, rfl, rfl⟩
  case round =>
    obtain ⟨k, hk, rfl, rfl⟩ := hrel
    by_cases hlt : k < s.size
    · go_wp2
      go_round
      case rel => exact ⟨k + 1, by omega, by go_num, by rw [sum_step s k hlt hs]⟩
      case measure => simp [intOf]; omega
    · go_wp2
      go_ret
      refine ⟨ret_str ?_, rfl⟩
      exact (signs_cut _).trans (by rw [List.take_of_length_le (by simp; omega)]; rfl)
end Go.Proofs.YtneggmggiepnoaaDoor
