/- Walks: ReadSerial, in the program and in the reference. -/
import Derived.Test.YtneggmggiepnoaaDoorWalkSerial
import Derived.BigQuiet
import Derived.Deep.QuietTactic
namespace Go.Proofs.YtneggmggiepnoaaDoor
open Go.RowKit
theorem split_len (c : UInt8) (l : List UInt8) : ∀ x ∈ Plain.splitOn1 c l, x.length ≤ l.length := by
  induction l with
  | nil => simp [Plain.splitOn1]
  | cons b r ih =>
    by_cases hb : b = c
    · intro x hx
      simp [Plain.splitOn1, hb] at hx
      rcases hx with rfl | hx
      · simp
      · have := ih x hx
        simp
        omega
    · have hb' : ¬ (b == c) = true := by simpa using hb
      intro x hx
      rw [Plain.splitOn1, if_neg hb'] at hx
      cases hs : Plain.splitOn1 c r with
      | nil => exact absurd hs (Plain.splitOn1_ne c r)
      | cons h t =>
        rw [hs] at hx ih
        simp at hx
        rcases hx with rfl | hx
        · have := ih h (by simp)
          simp
          omega
        · have := ih x (by simp [hx])
          simp
          omega
theorem split_one (c : UInt8) (s : ByteArray) (w : World) (hs : s.size ≤ 2097152) (he : Env w) :
    Calls Tryd.prog 18 #[.string s, .string ⟨#[c]⟩] w fun e w' => ∃ P : List ByteArray, e = .returned (.slice (some ⟨w.heap.size, 0, none⟩) P.length P.length) ∧ Hid (P.map (·.data.toList) = Plain.splitOn1 c s.data.toList) ∧
      (∀ (i : Nat) u, P[i]? = some u → w'.cell? ⟨w.heap.size, i, none⟩ = some (.string u)) ∧ w.heap.size < w'.heap.size ∧ Below w.heap.size w w' := by
  obtain ⟨m, hm⟩ := he.1
  refine (Tryd.strings_Split s ⟨#[c]⟩ m w (by omega) hm (by show 1 ≤ 1; omega)).mono ?_
  rintro e w' ⟨rfl, rfl⟩
  have hc : Lib.countB s ⟨#[c]⟩ = s.data.toList.count c := Lib.count_one c s.data.toList
  have hd := Lib.splitB_data ⟨#[c]⟩ 0 (Lib.countB s ⟨#[c]⟩) s
  have hk : Lib.splitK [c] 0 (Lib.countB s ⟨#[c]⟩) s.data.toList = Plain.splitOn1 c s.data.toList := Plain.splitK_eq c _ _ (by rw [hc]; exact Nat.le_refl _)
  have hl : (Lib.splitB ⟨#[c]⟩ 0 (Lib.countB s ⟨#[c]⟩) s).length = Lib.countB s ⟨#[c]⟩ + 1 := by
    have h1 : ((Lib.splitB ⟨#[c]⟩ 0 (Lib.countB s ⟨#[c]⟩) s).map (·.data.toList)).length = _ := congrArg List.length (hd.trans hk)
    rw [List.length_map, Plain.splitOn1_length] at h1
    omega
  refine ⟨Lib.splitB ⟨#[c]⟩ 0 (Lib.countB s ⟨#[c]⟩) s, by rw [hl], hd.trans hk, fun i u hu => ?_, by simp, (Below.refl _ _).alloc (Nat.le_refl _) _⟩
  rw [World.cell?_alloc_at _ _ _ _ rfl]
  simp [hu]
/-- what ReadSerial gives, as a value -/
def ReadV (r : List UInt8 × Int × Int × Int) : Value := .tuple #[.string ⟨r.1.toArray⟩, .int .i64 r.2.1, .int .i64 r.2.2.1, .int .i64 r.2.2.2]
theorem quiet_left {P : Program} {f : FuncId} {args : Array Value} {w : World} {n : Nat} {v : Value}
    (h : Calls P f args (w.drewN n) fun e w' => e = .returned v ∧ w.drewN n = w') : Calls P f args (w.drewN n) fun e w'' => e = .returned v ∧ ∃ m, w'' = w.drewN m :=
  h.mono fun _ _ ⟨he, hm⟩ => ⟨he, n, hm.symm⟩
theorem parts_short {W : List (List UInt8)} (h : W.length ≠ 4) : Plain.readParts W = ([], 0, 0, 10) := by
  unfold Plain.readParts
  split
  · simp at h
  · rfl
theorem parts_bad {a b c d : List UInt8} (h : ¬ (Plain.isWord a = true ∧ d.length = 1 ∧ d.getD 0 0 ∈ Plain.signs)) : Plain.readParts [a, b, c, d] = ([], 0, 0, 10) := by
  simp only [Plain.readParts]
  rw [if_neg h]
theorem parts_digits {a b c d : List UInt8} (h : Plain.read3 b = none ∨ Plain.read3 c = none) : Plain.readParts [a, b, c, d] = ([], 0, 0, 10) := by
  simp only [Plain.readParts]
  split
  · rcases h with h | h
    · rw [h]
    · rw [h]
      cases Plain.read3 b <;> rfl
  · rfl
theorem parts_full {a b c d : List UInt8} {p s : Nat} (h : Plain.isWord a = true ∧ d.length = 1 ∧ d.getD 0 0 ∈ Plain.signs) (hb : Plain.read3 b = some p) (hc : Plain.read3 c = some s) :
    Plain.readParts [a, b, c, d] = if d.getD 0 0 = Plain.signOf (Plain.front a b c) then (a, (p : Int), (s : Int), 0) else ([], 0, 0, 15) := by
  simp only [Plain.readParts]
  rw [if_pos h, hb, hc]
set_option maxHeartbeats 400000 in
theorem Read_short (text : ByteArray) (w : World) (hs : text.size ≤ 2097152) (he : Env w) (h : (Plain.splitOn1 46 text.data.toList).length ≠ 4) :
    Calls Tryd.prog 8 #[.string text] w fun e w' => e = .returned (ReadV ([], 0, 0, 10)) ∧ Below w.heap.size w w' := by
  go_enter Tryd.func8, Tryd.ntmps8
  go_wp2_with fail
  refine (split_one 46 text _ hs he).mono ?_
  rintro e w1 ⟨P, rfl, hP, hcell, hlt, hb⟩
  have hne : ((P.length : Int) != 4) = true := by
    have := congrArg List.length hP.out
    rw [List.length_map] at this
    rw [bne_iff_ne]
    omega
  clear hcell
  go_wp2
  refine bodyPost_ret (results_tmp4 rfl _ _ _) rfl ?_
  exact ⟨rfl, hb⟩
theorem four_of {P : List ByteArray} {a b c d : List UInt8} (h : P.map (·.data.toList) = [a, b, c, d]) : ∃ A B C D : ByteArray, P = [A, B, C, D] ∧ A.data.toList = a ∧ B.data.toList = b ∧ C.data.toList = c ∧ D.data.toList = d := by
  match P, h with
  | [A, B, C, D], h =>
    simp at h
    exact ⟨A, B, C, D, rfl, h.1, h.2.1, h.2.2.1, h.2.2.2⟩
theorem size_list (s : ByteArray) : s.data.toList.length = s.size := by simp
theorem contains_yes (D : ByteArray) (w : World) (he : Env w) (h : Lib.contains Plain.signs D.data.toList = true) :
    Calls Tryd.prog 19 #[.string ⟨#[48, 49, 50, 51, 52, 53, 54, 55, 56, 57, 65, 66, 67, 68, 69, 70, 71, 72, 73, 74, 75, 76, 77, 78, 79, 80, 81, 82, 83, 84, 85, 86, 87, 88, 89, 90, 42]⟩, .string D] w fun e w' => e = .returned (.bool true) ∧ w = w' := by
  obtain ⟨m, hm⟩ := he.1
  refine (Tryd.strings_Contains _ D m w (by decide) hm).mono ?_
  rintro e w' ⟨rfl, rfl⟩
  exact ⟨by rw [show (ByteArray.mk #[48, 49, 50, 51, 52, 53, 54, 55, 56, 57, 65, 66, 67, 68, 69, 70, 71, 72, 73, 74, 75, 76, 77, 78, 79, 80, 81, 82, 83, 84, 85, 86, 87, 88, 89, 90, 42]).data.toList = Plain.signs from rfl, h], rfl⟩
theorem contains_no (D : ByteArray) (w : World) (he : Env w) (h : Lib.contains Plain.signs D.data.toList = false) :
    Calls Tryd.prog 19 #[.string ⟨#[48, 49, 50, 51, 52, 53, 54, 55, 56, 57, 65, 66, 67, 68, 69, 70, 71, 72, 73, 74, 75, 76, 77, 78, 79, 80, 81, 82, 83, 84, 85, 86, 87, 88, 89, 90, 42]⟩, .string D] w fun e w' => e = .returned (.bool false) ∧ w = w' := by
  obtain ⟨m, hm⟩ := he.1
  refine (Tryd.strings_Contains _ D m w (by decide) hm).mono ?_
  rintro e w' ⟨rfl, rfl⟩
  exact ⟨by rw [show (ByteArray.mk #[48, 49, 50, 51, 52, 53, 54, 55, 56, 57, 65, 66, 67, 68, 69, 70, 71, 72, 73, 74, 75, 76, 77, 78, 79, 80, 81, 82, 83, 84, 85, 86, 87, 88, 89, 90, 42]).data.toList = Plain.signs from rfl, h], rfl⟩
theorem index_yes (D : ByteArray) (w : World) (he : Env w) (h : Lib.contains Plain.signs D.data.toList = true) :
    Calls Tryd.prog 22 #[.string ⟨#[48, 49, 50, 51, 52, 53, 54, 55, 56, 57, 65, 66, 67, 68, 69, 70, 71, 72, 73, 74, 75, 76, 77, 78, 79, 80, 81, 82, 83, 84, 85, 86, 87, 88, 89, 90, 42]⟩, .string D] w fun e w' => ∃ n : Int, e = .returned (.int .i64 n) ∧ 0 ≤ n ∧ w = w' := by
  obtain ⟨m, hm⟩ := he.1
  refine (Tryd.strings_Index _ D m w (by decide) hm).mono ?_
  rintro e w' ⟨rfl, rfl⟩
  exact ⟨_, rfl, of_decide_eq_true h, rfl⟩
theorem index_no (D : ByteArray) (w : World) (he : Env w) (h : Lib.contains Plain.signs D.data.toList = false) :
    Calls Tryd.prog 22 #[.string ⟨#[48, 49, 50, 51, 52, 53, 54, 55, 56, 57, 65, 66, 67, 68, 69, 70, 71, 72, 73, 74, 75, 76, 77, 78, 79, 80, 81, 82, 83, 84, 85, 86, 87, 88, 89, 90, 42]⟩, .string D] w fun e w' => ∃ n : Int, e = .returned (.int .i64 n) ∧ n < 0 ∧ w = w' := by
  obtain ⟨m, hm⟩ := he.1
  refine (Tryd.strings_Index _ D m w (by decide) hm).mono ?_
  rintro e w' ⟨rfl, rfl⟩
  exact ⟨_, rfl, Int.not_le.1 (of_decide_eq_false h), rfl⟩
theorem cell_on {W W' : World} {B : Nat} {i : Nat} {v : Value} (hb : Below W.heap.size W W') (hlt : B < W.heap.size) (h : W.cell? ⟨B, i, none⟩ = some v) : W'.cell? ⟨B, i, none⟩ = some v := (hb.cell (p := ⟨B, i, none⟩) hlt).trans h
set_option maxHeartbeats 400000 in
theorem Read_word (text : ByteArray) (w : World) (a b c d : List UInt8) (hs : text.size ≤ 2097152) (he : Env w) (hsp : Plain.splitOn1 46 text.data.toList = [a, b, c, d]) (hw : Plain.isWord a = false) : Calls Tryd.prog 8 #[.string text] w fun e w' => e = .returned (ReadV ([], 0, 0, 10)) ∧ Below w.heap.size w w' := by
  go_enter Tryd.func8, Tryd.ntmps8
  go_wp2_with fail
  refine (split_one 46 text _ hs he).mono ?_
  rintro e w1 ⟨P, rfl, hP, hcell, hlt, hb⟩
  obtain ⟨A, B, C, D, rfl, hA, hB, hC, hD⟩ := four_of (hP.out.trans hsp)
  subst hA hB hC hD
  have c0 := hcell 0 A rfl
  have c1 := hcell 1 B rfl
  have c2 := hcell 2 C rfl
  have c3 := hcell 3 D rfl
  have z0 : A.size ≤ 2097152 := by have := split_len 46 text.data.toList A.data.toList (by rw [hsp]; simp); rw [size_list, size_list] at this; omega
  have z1 : B.size ≤ 2097152 := by have := split_len 46 text.data.toList B.data.toList (by rw [hsp]; simp); rw [size_list, size_list] at this; omega
  have z2 : C.size ≤ 2097152 := by have := split_len 46 text.data.toList C.data.toList (by rw [hsp]; simp); rw [size_list, size_list] at this; omega
  clear hcell hP hsp
  have HW := Lib.hid hw
  clear hw
  go_wp2_with (go_at_call 11; refine (isword_not _ _ (by omega) HW.out).mono ?_; rintro e w2 ⟨rfl, rfl⟩)
  refine bodyPost_ret (results_tmp4 rfl _ _ _) rfl ?_
  exact ⟨rfl, hb⟩
set_option maxHeartbeats 400000 in
theorem Read_sized (text : ByteArray) (w : World) (a b c d : List UInt8) (hs : text.size ≤ 2097152) (he : Env w) (hsp : Plain.splitOn1 46 text.data.toList = [a, b, c, d]) (hw : Plain.isWord a = true) (hd : d.length ≠ 1) : Calls Tryd.prog 8 #[.string text] w fun e w' => e = .returned (ReadV ([], 0, 0, 10)) ∧ Below w.heap.size w w' := by
  go_enter Tryd.func8, Tryd.ntmps8
  go_wp2_with fail
  refine (split_one 46 text _ hs he).mono ?_
  rintro e w1 ⟨P, rfl, hP, hcell, hlt, hb⟩
  obtain ⟨A, B, C, D, rfl, hA, hB, hC, hD⟩ := four_of (hP.out.trans hsp)
  subst hA hB hC hD
  have c0 := hcell 0 A rfl
  have c1 := hcell 1 B rfl
  have c2 := hcell 2 C rfl
  have c3 := hcell 3 D rfl
  have z0 : A.size ≤ 2097152 := by have := split_len 46 text.data.toList A.data.toList (by rw [hsp]; simp); rw [size_list, size_list] at this; omega
  have z1 : B.size ≤ 2097152 := by have := split_len 46 text.data.toList B.data.toList (by rw [hsp]; simp); rw [size_list, size_list] at this; omega
  have z2 : C.size ≤ 2097152 := by have := split_len 46 text.data.toList C.data.toList (by rw [hsp]; simp); rw [size_list, size_list] at this; omega
  clear hcell hP hsp
  have HW := Lib.hid hw
  have hne : ((D.size : Int) != 1) = true := by rw [size_list] at hd; rw [bne_iff_ne]; omega
  clear hw hd
  go_wp2_with (go_at_call 11; refine (isword_yes _ _ (by omega) HW.out).mono ?_; rintro e w2 ⟨rfl, rfl⟩)
  refine bodyPost_ret (results_tmp4 rfl _ _ _) rfl ?_
  exact ⟨rfl, hb⟩
set_option maxHeartbeats 400000 in
theorem Read_nosign (text : ByteArray) (w : World) (a b c d : List UInt8) (hs : text.size ≤ 2097152) (he : Env w) (hsp : Plain.splitOn1 46 text.data.toList = [a, b, c, d]) (hw : Plain.isWord a = true) (hd : d.length = 1) (hc : Lib.contains Plain.signs d = false) : Calls Tryd.prog 8 #[.string text] w fun e w' => e = .returned (ReadV ([], 0, 0, 10)) ∧ Below w.heap.size w w' := by
  go_enter Tryd.func8, Tryd.ntmps8
  go_wp2_with fail
  refine (split_one 46 text _ hs he).mono ?_
  rintro e w1 ⟨P, rfl, hP, hcell, hlt, hb⟩
  obtain ⟨A, B, C, D, rfl, hA, hB, hC, hD⟩ := four_of (hP.out.trans hsp)
  subst hA hB hC hD
  have c0 := hcell 0 A rfl
  have c1 := hcell 1 B rfl
  have c2 := hcell 2 C rfl
  have c3 := hcell 3 D rfl
  have z0 : A.size ≤ 2097152 := by have := split_len 46 text.data.toList A.data.toList (by rw [hsp]; simp); rw [size_list, size_list] at this; omega
  have z1 : B.size ≤ 2097152 := by have := split_len 46 text.data.toList B.data.toList (by rw [hsp]; simp); rw [size_list, size_list] at this; omega
  have z2 : C.size ≤ 2097152 := by have := split_len 46 text.data.toList C.data.toList (by rw [hsp]; simp); rw [size_list, size_list] at this; omega
  clear hcell hP hsp
  have HW := Lib.hid hw
  have HC := Lib.hid hc
  have hz : D.size = 1 := by rw [size_list] at hd; exact hd
  clear hw hd hc
  go_wp2_with (first | (go_at_call 11; refine (isword_yes _ _ (by omega) HW.out).mono ?_; rintro e w2 ⟨rfl, rfl⟩) | (go_at_call 19; refine (contains_no D _ (he.below hb) HC.out).mono ?_; rintro e w2 ⟨rfl, rfl⟩))
  refine bodyPost_ret (results_tmp4 rfl _ _ _) rfl ?_
  exact ⟨rfl, hb⟩
set_option maxHeartbeats 800000 in
theorem Read_digits (text : ByteArray) (w : World) (a b c d : List UInt8) (hs : text.size ≤ 2097152) (he : Env w) (hsp : Plain.splitOn1 46 text.data.toList = [a, b, c, d]) (hw : Plain.isWord a = true) (hd : d.length = 1) (hc : Lib.contains Plain.signs d = true) (hr : Plain.read3 b = none ∨ Plain.read3 c = none) : Calls Tryd.prog 8 #[.string text] w fun e w' => e = .returned (ReadV ([], 0, 0, 10)) ∧ Below w.heap.size w w' := by
  go_enter Tryd.func8, Tryd.ntmps8
  go_wp2_with fail
  refine (split_one 46 text _ hs he).mono ?_
  rintro e w1 ⟨P, rfl, hP, hcell, hlt, hb⟩
  obtain ⟨A, B, C, D, rfl, hA, hB, hC, hD⟩ := four_of (hP.out.trans hsp)
  subst hA hB hC hD
  have c0 := hcell 0 A rfl
  have c1 := hcell 1 B rfl
  have c2 := hcell 2 C rfl
  have c3 := hcell 3 D rfl
  have z0 : A.size ≤ 2097152 := by have := split_len 46 text.data.toList A.data.toList (by rw [hsp]; simp); rw [size_list, size_list] at this; omega
  have z1 : B.size ≤ 2097152 := by have := split_len 46 text.data.toList B.data.toList (by rw [hsp]; simp); rw [size_list, size_list] at this; omega
  have z2 : C.size ≤ 2097152 := by have := split_len 46 text.data.toList C.data.toList (by rw [hsp]; simp); rw [size_list, size_list] at this; omega
  clear hcell hP hsp
  have HW := Lib.hid hw
  have HC := Lib.hid hc
  have hz : D.size = 1 := by rw [size_list] at hd; exact hd
  clear hw hd hc
  cases h3 : Plain.read3 B.data.toList with
  | none =>
    have H3 := Lib.hid h3
    clear h3 hr
    cases h4 : Plain.read3 C.data.toList with
    | none =>
      have H4 := Lib.hid h4
      clear h4
      go_wp2_with (first | (go_at_call 11; refine (isword_yes _ _ (by omega) HW.out).mono ?_; rintro e w2 ⟨rfl, rfl⟩) | (go_at_call 19; refine (contains_yes D _ (he.below hb) HC.out).mono ?_; rintro e w2 ⟨rfl, rfl⟩))
      refine (three_no B _ z1 H3.out).mono ?_
      rintro e w3 ⟨rfl, hb3⟩
      have d2 := cell_on hb3 hlt c2
      go_wp2_with fail
      refine (three_no C _ z2 H4.out).mono ?_
      rintro e w4 ⟨rfl, hb4⟩
      go_wp2
      refine bodyPost_ret (results_tmp4 rfl _ _ _) rfl ?_
      exact ⟨rfl, hb.trans ((hb3.trans (hb4.mono hb3.size)).mono hb.size)⟩
    | some n =>
      have H4 := Lib.hid h4
      clear h4
      go_wp2_with (first | (go_at_call 11; refine (isword_yes _ _ (by omega) HW.out).mono ?_; rintro e w2 ⟨rfl, rfl⟩) | (go_at_call 19; refine (contains_yes D _ (he.below hb) HC.out).mono ?_; rintro e w2 ⟨rfl, rfl⟩))
      refine (three_no B _ z1 H3.out).mono ?_
      rintro e w3 ⟨rfl, hb3⟩
      have d2 := cell_on hb3 hlt c2
      go_wp2_with fail
      refine (three_yes C n _ H4.out).mono ?_
      rintro e w4 ⟨rfl, hb4⟩
      go_wp2
      refine bodyPost_ret (results_tmp4 rfl _ _ _) rfl ?_
      exact ⟨rfl, hb.trans ((hb3.trans (hb4.mono hb3.size)).mono hb.size)⟩
  | some m =>
    have h4 : Plain.read3 C.data.toList = none := by
      rcases hr with h | h
      · rw [h] at h3; cases h3
      · exact h
    have H3 := Lib.hid h3
    have H4 := Lib.hid h4
    clear h3 hr h4
    go_wp2_with (first | (go_at_call 11; refine (isword_yes _ _ (by omega) HW.out).mono ?_; rintro e w2 ⟨rfl, rfl⟩) | (go_at_call 19; refine (contains_yes D _ (he.below hb) HC.out).mono ?_; rintro e w2 ⟨rfl, rfl⟩))
    refine (three_yes B m _ H3.out).mono ?_
    rintro e w3 ⟨rfl, hb3⟩
    have d2 := cell_on hb3 hlt c2
    go_wp2_with fail
    refine (three_no C _ z2 H4.out).mono ?_
    rintro e w4 ⟨rfl, hb4⟩
    go_wp2
    refine bodyPost_ret (results_tmp4 rfl _ _ _) rfl ?_
    exact ⟨rfl, hb.trans ((hb3.trans (hb4.mono hb3.size)).mono hb.size)⟩
set_option maxHeartbeats 400000 in
theorem refRead_short (text : ByteArray) (w : World) (hs : text.size ≤ 2097152) (he : Env w) (h : (Plain.splitOn1 46 text.data.toList).length ≠ 4) :
    Calls Tryd.prog 9 #[.string text] w fun e w' => e = .returned (ReadV ([], 0, 0, 10)) ∧ Below w.heap.size w w' := by
  go_enter Tryd.func9, Tryd.ntmps9
  go_wp2_with fail
  refine (split_one 46 text _ hs he).mono ?_
  rintro e w1 ⟨P, rfl, hP, hcell, hlt, hb⟩
  have hne : ((P.length : Int) != 4) = true := by
    have := congrArg List.length hP.out
    rw [List.length_map] at this
    rw [bne_iff_ne]
    omega
  clear hcell
  go_wp2
  refine bodyPost_ret (results_tmp4 rfl _ _ _) rfl ?_
  exact ⟨rfl, hb⟩
set_option maxHeartbeats 400000 in
theorem refRead_word (text : ByteArray) (w : World) (a b c d : List UInt8) (hs : text.size ≤ 2097152) (he : Env w) (hsp : Plain.splitOn1 46 text.data.toList = [a, b, c, d]) (hw : Plain.isWord a = false) : Calls Tryd.prog 9 #[.string text] w fun e w' => e = .returned (ReadV ([], 0, 0, 10)) ∧ Below w.heap.size w w' := by
  go_enter Tryd.func9, Tryd.ntmps9
  go_wp2_with fail
  refine (split_one 46 text _ hs he).mono ?_
  rintro e w1 ⟨P, rfl, hP, hcell, hlt, hb⟩
  obtain ⟨A, B, C, D, rfl, hA, hB, hC, hD⟩ := four_of (hP.out.trans hsp)
  subst hA hB hC hD
  have c0 := hcell 0 A rfl
  have c1 := hcell 1 B rfl
  have c2 := hcell 2 C rfl
  have c3 := hcell 3 D rfl
  have z0 : A.size ≤ 2097152 := by have := split_len 46 text.data.toList A.data.toList (by rw [hsp]; simp); rw [size_list, size_list] at this; omega
  have z1 : B.size ≤ 2097152 := by have := split_len 46 text.data.toList B.data.toList (by rw [hsp]; simp); rw [size_list, size_list] at this; omega
  have z2 : C.size ≤ 2097152 := by have := split_len 46 text.data.toList C.data.toList (by rw [hsp]; simp); rw [size_list, size_list] at this; omega
  clear hcell hP hsp
  have HW := Lib.hid hw
  clear hw
  go_wp2_with (go_at_call 14; refine (refword_not _ _ (by omega) HW.out).mono ?_; rintro e w2 ⟨rfl, rfl⟩)
  refine bodyPost_ret (results_tmp4 rfl _ _ _) rfl ?_
  exact ⟨rfl, hb⟩
set_option maxHeartbeats 400000 in
theorem refRead_sized (text : ByteArray) (w : World) (a b c d : List UInt8) (hs : text.size ≤ 2097152) (he : Env w) (hsp : Plain.splitOn1 46 text.data.toList = [a, b, c, d]) (hw : Plain.isWord a = true) (hd : d.length ≠ 1) : Calls Tryd.prog 9 #[.string text] w fun e w' => e = .returned (ReadV ([], 0, 0, 10)) ∧ Below w.heap.size w w' := by
  go_enter Tryd.func9, Tryd.ntmps9
  go_wp2_with fail
  refine (split_one 46 text _ hs he).mono ?_
  rintro e w1 ⟨P, rfl, hP, hcell, hlt, hb⟩
  obtain ⟨A, B, C, D, rfl, hA, hB, hC, hD⟩ := four_of (hP.out.trans hsp)
  subst hA hB hC hD
  have c0 := hcell 0 A rfl
  have c1 := hcell 1 B rfl
  have c2 := hcell 2 C rfl
  have c3 := hcell 3 D rfl
  have z0 : A.size ≤ 2097152 := by have := split_len 46 text.data.toList A.data.toList (by rw [hsp]; simp); rw [size_list, size_list] at this; omega
  have z1 : B.size ≤ 2097152 := by have := split_len 46 text.data.toList B.data.toList (by rw [hsp]; simp); rw [size_list, size_list] at this; omega
  have z2 : C.size ≤ 2097152 := by have := split_len 46 text.data.toList C.data.toList (by rw [hsp]; simp); rw [size_list, size_list] at this; omega
  clear hcell hP hsp
  have HW := Lib.hid hw
  have hne : ((D.size : Int) != 1) = true := by rw [size_list] at hd; rw [bne_iff_ne]; omega
  clear hw hd
  go_wp2_with (go_at_call 14; refine (refword_yes _ _ (by omega) HW.out).mono ?_; rintro e w2 ⟨rfl, rfl⟩)
  refine bodyPost_ret (results_tmp4 rfl _ _ _) rfl ?_
  exact ⟨rfl, hb⟩
set_option maxHeartbeats 400000 in
theorem refRead_nosign (text : ByteArray) (w : World) (a b c d : List UInt8) (hs : text.size ≤ 2097152) (he : Env w) (hsp : Plain.splitOn1 46 text.data.toList = [a, b, c, d]) (hw : Plain.isWord a = true) (hd : d.length = 1) (hc : Lib.contains Plain.signs d = false) : Calls Tryd.prog 9 #[.string text] w fun e w' => e = .returned (ReadV ([], 0, 0, 10)) ∧ Below w.heap.size w w' := by
  go_enter Tryd.func9, Tryd.ntmps9
  go_wp2_with fail
  refine (split_one 46 text _ hs he).mono ?_
  rintro e w1 ⟨P, rfl, hP, hcell, hlt, hb⟩
  obtain ⟨A, B, C, D, rfl, hA, hB, hC, hD⟩ := four_of (hP.out.trans hsp)
  subst hA hB hC hD
  have c0 := hcell 0 A rfl
  have c1 := hcell 1 B rfl
  have c2 := hcell 2 C rfl
  have c3 := hcell 3 D rfl
  have z0 : A.size ≤ 2097152 := by have := split_len 46 text.data.toList A.data.toList (by rw [hsp]; simp); rw [size_list, size_list] at this; omega
  have z1 : B.size ≤ 2097152 := by have := split_len 46 text.data.toList B.data.toList (by rw [hsp]; simp); rw [size_list, size_list] at this; omega
  have z2 : C.size ≤ 2097152 := by have := split_len 46 text.data.toList C.data.toList (by rw [hsp]; simp); rw [size_list, size_list] at this; omega
  clear hcell hP hsp
  have HW := Lib.hid hw
  have HC := Lib.hid hc
  have hz : D.size = 1 := by rw [size_list] at hd; exact hd
  clear hw hd hc
  go_wp2_with (first | (go_at_call 14; refine (refword_yes _ _ (by omega) HW.out).mono ?_; rintro e w2 ⟨rfl, rfl⟩) | (go_at_call 22; refine (index_no D _ (he.below hb) HC.out).mono ?_; rintro e w2 ⟨ni, rfl, hn, rfl⟩))
  refine bodyPost_ret (results_tmp4 rfl _ _ _) rfl ?_
  exact ⟨rfl, hb⟩
set_option maxHeartbeats 800000 in
theorem refRead_digits (text : ByteArray) (w : World) (a b c d : List UInt8) (hs : text.size ≤ 2097152) (he : Env w) (hsp : Plain.splitOn1 46 text.data.toList = [a, b, c, d]) (hw : Plain.isWord a = true) (hd : d.length = 1) (hc : Lib.contains Plain.signs d = true) (hr : Plain.read3 b = none ∨ Plain.read3 c = none) : Calls Tryd.prog 9 #[.string text] w fun e w' => e = .returned (ReadV ([], 0, 0, 10)) ∧ Below w.heap.size w w' := by
  go_enter Tryd.func9, Tryd.ntmps9
  go_wp2_with fail
  refine (split_one 46 text _ hs he).mono ?_
  rintro e w1 ⟨P, rfl, hP, hcell, hlt, hb⟩
  obtain ⟨A, B, C, D, rfl, hA, hB, hC, hD⟩ := four_of (hP.out.trans hsp)
  subst hA hB hC hD
  have c0 := hcell 0 A rfl
  have c1 := hcell 1 B rfl
  have c2 := hcell 2 C rfl
  have c3 := hcell 3 D rfl
  have z0 : A.size ≤ 2097152 := by have := split_len 46 text.data.toList A.data.toList (by rw [hsp]; simp); rw [size_list, size_list] at this; omega
  have z1 : B.size ≤ 2097152 := by have := split_len 46 text.data.toList B.data.toList (by rw [hsp]; simp); rw [size_list, size_list] at this; omega
  have z2 : C.size ≤ 2097152 := by have := split_len 46 text.data.toList C.data.toList (by rw [hsp]; simp); rw [size_list, size_list] at this; omega
  clear hcell hP hsp
  have HW := Lib.hid hw
  have HC := Lib.hid hc
  have hz : D.size = 1 := by rw [size_list] at hd; exact hd
  clear hw hd hc
  cases h3 : Plain.read3 B.data.toList with
  | none =>
    have H3 := Lib.hid h3
    clear h3 hr
    cases h4 : Plain.read3 C.data.toList with
    | none =>
      have H4 := Lib.hid h4
      clear h4
      go_wp2_with (first | (go_at_call 14; refine (refword_yes _ _ (by omega) HW.out).mono ?_; rintro e w2 ⟨rfl, rfl⟩) | (go_at_call 22; refine (index_yes D _ (he.below hb) HC.out).mono ?_; rintro e w2 ⟨ni, rfl, hn, rfl⟩))
      refine (refdigits_no B _ z1 H3.out).mono ?_
      rintro e w3 ⟨rfl, hb3⟩
      have d2 := cell_on hb3 hlt c2
      go_wp2_with fail
      refine (refdigits_no C _ z2 H4.out).mono ?_
      rintro e w4 ⟨rfl, hb4⟩
      go_wp2
      refine bodyPost_ret (results_tmp4 rfl _ _ _) rfl ?_
      exact ⟨rfl, hb.trans ((hb3.trans (hb4.mono hb3.size)).mono hb.size)⟩
    | some n =>
      have H4 := Lib.hid h4
      clear h4
      go_wp2_with (first | (go_at_call 14; refine (refword_yes _ _ (by omega) HW.out).mono ?_; rintro e w2 ⟨rfl, rfl⟩) | (go_at_call 22; refine (index_yes D _ (he.below hb) HC.out).mono ?_; rintro e w2 ⟨ni, rfl, hn, rfl⟩))
      refine (refdigits_no B _ z1 H3.out).mono ?_
      rintro e w3 ⟨rfl, hb3⟩
      have d2 := cell_on hb3 hlt c2
      go_wp2_with fail
      refine (refdigits_yes C n _ H4.out).mono ?_
      rintro e w4 ⟨rfl, hb4⟩
      go_wp2
      refine bodyPost_ret (results_tmp4 rfl _ _ _) rfl ?_
      exact ⟨rfl, hb.trans ((hb3.trans (hb4.mono hb3.size)).mono hb.size)⟩
  | some m =>
    have h4 : Plain.read3 C.data.toList = none := by
      rcases hr with h | h
      · rw [h] at h3; cases h3
      · exact h
    have H3 := Lib.hid h3
    have H4 := Lib.hid h4
    clear h3 hr h4
    go_wp2_with (first | (go_at_call 14; refine (refword_yes _ _ (by omega) HW.out).mono ?_; rintro e w2 ⟨rfl, rfl⟩) | (go_at_call 22; refine (index_yes D _ (he.below hb) HC.out).mono ?_; rintro e w2 ⟨ni, rfl, hn, rfl⟩))
    refine (refdigits_yes B m _ H3.out).mono ?_
    rintro e w3 ⟨rfl, hb3⟩
    have d2 := cell_on hb3 hlt c2
    go_wp2_with fail
    refine (refdigits_no C _ z2 H4.out).mono ?_
    rintro e w4 ⟨rfl, hb4⟩
    go_wp2
    refine bodyPost_ret (results_tmp4 rfl _ _ _) rfl ?_
    exact ⟨rfl, hb.trans ((hb3.trans (hb4.mono hb3.size)).mono hb.size)⟩
end Go.Proofs.YtneggmggiepnoaaDoor
