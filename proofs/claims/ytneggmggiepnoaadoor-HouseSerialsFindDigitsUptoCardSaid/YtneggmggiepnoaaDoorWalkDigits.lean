/- Walks: three digits, written and read, in the program and in the reference. -/
import Derived.Test.YtneggmggiepnoaaDoorBase
namespace Go.Proofs.YtneggmggiepnoaaDoor
open Go.RowKit
theorem ret_pair {k : IntKind} {a c : Int} {b d : Bool} (h : a = c) (h2 : b = d) : Ending.returned (.tuple #[.int k a, .bool b]) = .returned (.tuple #[.int k c, .bool d]) := by rw [h, h2]
theorem itoa_any (n : Int) (w : World) (h0 : 0 ≤ n) (h1 : n ≤ 100000) (he : Env w) :
    Calls Tryd.prog 28 #[.int .i64 n] w fun e w' => ∃ S : ByteArray, e = .returned (.string S) ∧ S.data.toList = Lib.itoa n ∧ S.size = (Lib.itoa n).length ∧ Below w.heap.size w w' := by
  refine (Tryd.strconv_Itoa n (by omega) (by omega) w he.2).mono ?_
  rintro e w' ⟨rfl, k, os, rfl⟩
  refine ⟨_, rfl, Plain.toList_mk _, ?_, Lib.below_grow _ _ (Nat.le_refl _) _ _⟩
  show (Lib.itoa n).toArray.size = _
  simp
theorem itoa_th (n : Int) (w : World) (h0 : 0 ≤ n) (h1 : n ≤ 999) (he : Env w) :
    Calls Tryd.prog 28 #[.int .i64 (1000 + n)] w fun e w' => ∃ S : ByteArray, e = .returned (.string S) ∧ Hid (S.data.toList = 49 :: Plain.three n.toNat) ∧ S.size = 4 ∧ Below w.heap.size w w' := by
  refine (itoa_any (1000 + n) w (by omega) (by omega) he).mono ?_
  rintro e w' ⟨S, rfl, hS, hz, hb⟩
  have e1 := Plain.itoa_thousand n.toNat (by omega)
  rw [show (1000 + ((n.toNat : Nat) : Int)) = 1000 + n from by omega] at e1
  rw [e1] at hS hz
  exact ⟨S, rfl, hS, hz, hb⟩
theorem cut_front {S : ByteArray} {b : UInt8} {l : List UInt8} (h : S.data.toList = b :: l) (hz : S.size = 4) : (S.extract 1 4).data.toList = l := by
  have h4 : S.data.toList.length = S.size := by simp
  rw [Lib.extract_data, h]
  have : (b :: l).length = 4 := by rw [← h, h4, hz]
  have h3 : l.length = 3 := by simpa using this
  show (List.drop 1 (List.take 4 (b :: l))) = l
  rw [List.take_of_length_le (by omega)]
  rfl
theorem nought_size (T : ByteArray) : (ByteArray.mk #[48] ++ T).size = T.size + 1 := by
  rw [ByteArray.size_append]
  exact Nat.add_comm _ _
theorem nought_list (T : ByteArray) : (ByteArray.mk #[48] ++ T).data.toList = 48 :: T.data.toList := by
  rw [ByteArray.data_append]
  simp
set_option maxHeartbeats 400000 in
theorem digits_any (n : Int) (w : World) (h0 : 0 ≤ n) (h1 : n ≤ 999) (he : Env w) :
    Calls Tryd.prog 26 #[.int .i64 n] w fun e w' => e = .returned (.string ⟨(Plain.three n.toNat).toArray⟩) ∧ Below w.heap.size w w' := by
  go_enter Tryd.func26, Tryd.ntmps26
  go_wp2_with (go_at_call 28; refine (itoa_th n _ h0 h1 he).mono ?_; rintro e w' ⟨S, rfl, hS, hz, hb⟩)
  go_ret
  exact ⟨ret_str ((cut_front hS hz).trans (Plain.toList_mk _).symm), hb⟩
set_option maxHeartbeats 400000 in
theorem refthree_any (n : Int) (w : World) (h0 : 0 ≤ n) (h1 : n ≤ 999) (he : Env w) :
    Calls Tryd.prog 16 #[.int .i64 n] w fun e w' => e = .returned (.string ⟨(Plain.three n.toNat).toArray⟩) ∧ Below w.heap.size w w' := by
  have hp := Plain.pad_itoa n.toNat (by omega)
  rw [show ((n.toNat : Nat) : Int) = n from by omega] at hp
  have HP := Lib.hid hp
  clear hp
  go_enter Tryd.func16, Tryd.ntmps16
  go_wp2_with (go_at_call 28; refine (itoa_any n _ h0 (by omega) he).mono ?_; rintro e w' ⟨S, rfl, hS, hz, hb⟩; have HS := Lib.hid hS; have HZ := Lib.hid hz; clear hS hz)
  go_loop [3] (fun t => ∃ T : ByteArray, t = .string T ∧ T.size ≤ 3 ∧ Plain.pad T.data.toList = Plain.three n.toNat) (fun t => 3 - (match t with | .string T => T.size | _ => 0))
  case atStart => exact ⟨S, rfl, by rw [HZ.out]; exact HP.out.2, by rw [HS.out]; exact HP.out.1⟩
  case round =>
    obtain ⟨T, rfl, hT, hpad⟩ := hrel
    have HT := Lib.hid hpad
    clear hpad
    by_cases hlt : T.size < 3
    · go_wp2
      go_round
      case rel =>
        refine ⟨_, rfl, by rw [nought_size]; omega, ?_⟩
        rw [← HT.out, nought_list]
        exact Plain.pad_step (by simp; omega)
      case measure =>
        simp only [nought_size]
        omega
    · go_wp2
      go_ret
      refine ⟨ret_str ?_, hb⟩
      rw [← HT.out, Plain.pad_end (by simp; omega)]
/-- digits trimmed off: nothing is left, or something -/
theorem trim_info : (Tryd.prog.info? (Tryd.laysTrim_ren.t 116)).map (fun i => (i.zero, i.size)) = some (some (.agg (Array.replicate 256 (.bool false))), 256) := by kernel_rfl
theorem trim_yes (s : ByteArray) (w : World) (hs : s.size ≤ 2097152) (h : Lib.trimS s.data.toList Plain.digs = []) :
    Calls Tryd.prog 30 #[.string s, .string ⟨#[48, 49, 50, 51, 52, 53, 54, 55, 56, 57]⟩] w fun e w' => e = .returned (.string ⟨#[]⟩) ∧ Below w.heap.size w w' := by
  refine (Tryd.strings_Trim_laid trim_info s ⟨#[48, 49, 50, 51, 52, 53, 54, 55, 56, 57]⟩ w (by omega) (by decide) (ascii_of_all (by decide))).mono ?_
  rintro e w' ⟨rfl, hb⟩
  have h2 : Lib.trimS s.data.toList (ByteArray.mk #[48, 49, 50, 51, 52, 53, 54, 55, 56, 57]).data.toList = [] := h
  exact ⟨by rw [h2], hb⟩
theorem trim_no (s : ByteArray) (w : World) (hs : s.size ≤ 2097152) (h : Lib.trimS s.data.toList Plain.digs ≠ []) :
    Calls Tryd.prog 30 #[.string s, .string ⟨#[48, 49, 50, 51, 52, 53, 54, 55, 56, 57]⟩] w fun e w' => ∃ a r, e = .returned (.string ⟨(a :: r : List UInt8).toArray⟩) ∧ Below w.heap.size w w' := by
  refine (Tryd.strings_Trim_laid trim_info s ⟨#[48, 49, 50, 51, 52, 53, 54, 55, 56, 57]⟩ w (by omega) (by decide) (ascii_of_all (by decide))).mono ?_
  rintro e w' ⟨rfl, hb⟩
  obtain ⟨a, r, e1⟩ := List.exists_cons_of_ne_nil h
  have h2 : Lib.trimS s.data.toList (ByteArray.mk #[48, 49, 50, 51, 52, 53, 54, 55, 56, 57]).data.toList = a :: r := e1
  exact ⟨a, r, by rw [h2], hb⟩
set_option maxHeartbeats 400000 in
theorem three_yes (s : ByteArray) (n : Nat) (w : World) (h : Plain.read3 s.data.toList = some n) :
    Calls Tryd.prog 20 #[.string s] w fun e w' => e = .returned (.tuple #[.int .i64 (n : Int), .bool true]) ∧ Below w.heap.size w w' := by
  obtain ⟨h1, h2, _⟩ := Plain.read3_some h
  have h4 : s.data.toList.length = s.size := by simp
  have hz : s.size = 3 := by omega
  have HT := Lib.hid h2
  have HA := Lib.hid (Plain.atoi_three h)
  clear h h1 h2 h4
  go_enter Tryd.func20, Tryd.ntmps20
  go_wp2_with (first
    | (go_at_call 30; refine (trim_yes s _ (by omega) HT.out).mono ?_; rintro e w1 ⟨rfl, hb1⟩)
    | (go_at_call 31; refine (Tryd.strconv_Atoi s n (by omega) HA.out _).mono ?_; rintro e w2 ⟨rfl, t, rfl⟩))
  go_ret2
  exact ⟨rfl, hb1.trans (Joins.below_bytesWorld _ _ _ _ hb1.size)⟩
set_option maxHeartbeats 400000 in
theorem three_no (s : ByteArray) (w : World) (hs : s.size ≤ 2097152) (h : Plain.read3 s.data.toList = none) :
    Calls Tryd.prog 20 #[.string s] w fun e w' => e = .returned (.tuple #[.int .i64 0, .bool false]) ∧ Below w.heap.size w w' := by
  by_cases hz : s.size = 3
  · have HT := Lib.hid (Plain.read3_none h (by simp; omega))
    clear h
    go_enter Tryd.func20, Tryd.ntmps20
    go_wp2_with (go_at_call 30; refine (trim_no s _ (by omega) HT.out).mono ?_; rintro e w1 ⟨a, r, rfl, hb1⟩)
    go_ret2
    exact ⟨rfl, hb1⟩
  · have hne : ((s.size : Int) != 3) = true := by rw [bne_iff_ne]; omega
    clear h
    go_enter Tryd.func20, Tryd.ntmps20
    go_wp2
    go_ret2
    exact ⟨rfl, Below.refl _ _⟩
theorem digit_yes {c : UInt8} (h0 : 48 ≤ (c.toNat : Int)) (h1 : (c.toNat : Int) ≤ 57) : Plain.isDigit c = true := by simp [Plain.isDigit]; omega
theorem digit_no {c : UInt8} (h : (c.toNat : Int) < 48 ∨ 57 < (c.toNat : Int)) : Plain.isDigit c = false := by
  cases hc : Plain.isDigit c with
  | false => rfl
  | true => have := Plain.digit_val hc; omega
theorem digits_next {s : ByteArray} {k : Nat} (h : k < s.size) (hall : ∀ c ∈ s.data.toList.take k, Plain.isDigit c = true) (hc : Plain.isDigit (s[k]) = true) : ∀ c ∈ s.data.toList.take (k + 1), Plain.isDigit c = true := by
  intro c hm
  rw [List.take_succ_eq_append_getElem (by simpa using h)] at hm
  rcases List.mem_append.1 hm with hm | hm
  · exact hall c hm
  · have : c = s[k] := List.mem_singleton.1 hm
    rw [this]
    exact hc
set_option maxHeartbeats 400000 in
theorem refdigits_yes (s : ByteArray) (n : Nat) (w : World) (h : Plain.read3 s.data.toList = some n) :
    Calls Tryd.prog 23 #[.string s] w fun e w' => e = .returned (.tuple #[.int .i64 (n : Int), .bool true]) ∧ Below w.heap.size w w' := by
  obtain ⟨h1, _, h3⟩ := Plain.read3_some h
  have h4 : s.data.toList.length = s.size := by simp
  have hz : s.size = 3 := by omega
  have HA := Lib.hid (Plain.atoi_three h)
  have HD := Lib.hid h3
  clear h h1 h4 h3
  go_enter Tryd.func23, Tryd.ntmps23
  go_wp2
  go_loop [4] (fun i => ∃ k : Nat, k ≤ 3 ∧ i = .int .i64 k) (fun i => 3 - (intOf i).toNat)
  case atStart => exact ⟨0, by omega, rfl⟩
  case round =>
    obtain ⟨k, hk, rfl⟩ := hrel
    by_cases hlt : k < 3
    · have hks : k < s.size := by omega
      have hd : 48 ≤ ((s[k]).toNat : Int) ∧ ((s[k]).toNat : Int) ≤ 57 := by
        have := Plain.digit_val (HD.out (s[k]) (by simp [ByteArray.getElem_eq_getElem_data]))
        omega
      obtain ⟨d0, d1⟩ := hd
      go_wp2
      go_round
      case rel => exact ⟨k + 1, by omega, by go_num⟩
      case measure => simp [intOf]; omega
    · go_wp2_with (go_at_call 31; refine (Tryd.strconv_Atoi s n (by omega) HA.out _).mono ?_; rintro e w2 ⟨rfl, t, rfl⟩)
      go_ret2
      exact ⟨rfl, Joins.below_bytesWorld _ _ _ _ (Nat.le_refl _)⟩
set_option maxHeartbeats 400000 in
theorem refdigits_no (s : ByteArray) (w : World) (_hs : s.size ≤ 2097152) (h : Plain.read3 s.data.toList = none) :
    Calls Tryd.prog 23 #[.string s] w fun e w' => e = .returned (.tuple #[.int .i64 0, .bool false]) ∧ Below w.heap.size w w' := by
  by_cases hz : s.size = 3
  · have HT := Lib.hid (show ¬ ∀ c ∈ s.data.toList, Plain.isDigit c = true from fun hall => Plain.read3_none h (by simp; omega) ((Plain.trim_digs _).2 hall))
    clear h
    go_enter Tryd.func23, Tryd.ntmps23
    go_wp2
    go_loop [4] (fun i => ∃ k : Nat, k ≤ 3 ∧ i = .int .i64 k ∧ ∀ c ∈ s.data.toList.take k, Plain.isDigit c = true) (fun i => 3 - (intOf i).toNat)
    case atStart => exact ⟨0, by omega, rfl, by simp⟩
    case round =>
      obtain ⟨k, hk, rfl, hall⟩ := hrel
      have H := Lib.hid hall
      clear hall
      by_cases hlt : k < 3
      · have hks : k < s.size := by omega
        go_wp2
        all_goals first
          | (go_round
             case rel => exact ⟨k + 1, by omega, by go_num, digits_next hks H.out (digit_yes (by omega) (by omega))⟩
             case measure => simp [intOf]; omega)
          | (go_ret2
             exact ⟨rfl, Below.refl _ _⟩)
      · exact absurd (fun c hc => H.out c (by rw [List.take_of_length_le (by simp; omega)]; exact hc)) HT.out
  · have hne : ((s.size : Int) != 3) = true := by rw [bne_iff_ne]; omega
    clear h
    go_enter Tryd.func23, Tryd.ntmps23
    go_wp2
    go_ret2
    exact ⟨rfl, Below.refl _ _⟩
end Go.Proofs.YtneggmggiepnoaaDoor
