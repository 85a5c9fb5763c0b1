/- Walks: ReadSerial where the form is right, in the program and in the reference. -/
import Derived.Test.YtneggmggiepnoaaDoorWalkRead
namespace Go.Proofs.YtneggmggiepnoaaDoor
open Go.RowKit
theorem one_byte {D : ByteArray} {g : UInt8} (h : D.data.toList = [g]) : D = ⟨#[g]⟩ := Plain.ext_list h
theorem front_text {text : ByteArray} {a b c : List UInt8} {g : UInt8} (h : Plain.splitOn1 46 text.data.toList = [a, b, c, [g]]) : (text.data.toList.take (text.size - 2)) = Plain.front a b c ∧ 2 ≤ text.size := by
  have hj := Plain.join_split 46 text.data.toList
  rw [h] at hj
  have he : text.data.toList = Plain.front a b c ++ [46, g] := by rw [← hj]; simp [Plain.join1, Plain.front]
  have hl := congrArg List.length he
  rw [size_list] at hl
  simp only [List.length_append, List.length_cons, List.length_nil] at hl
  refine ⟨?_, by omega⟩
  rw [he]
  exact List.take_left' (by omega)
theorem sign_is (s : ByteArray) (c : UInt8) (w : World) (hs : s.size ≤ 2097152) (h : Plain.signOf s.data.toList = c) :
    Calls Tryd.prog 21 #[.string s] w fun e w' => e = .returned (.int .u8 (c.toNat : Int)) ∧ w = w' := by rw [← h]; exact sign_any s w hs
theorem refsign_is (s : ByteArray) (c : UInt8) (w : World) (hs : s.size ≤ 2097152) (h : Plain.signOf s.data.toList = c) :
    Calls Tryd.prog 17 #[.string s] w fun e w' => e = .returned (.string ⟨#[c]⟩) ∧ w = w' := by rw [← h]; exact refsign_any s w hs
theorem first_one (g : UInt8) : ((ByteArray.mk #[g])[0]'(by show 0 < 1; omega)) = g := rfl
theorem front_cat (A B C : ByteArray) : (A ++ ByteArray.mk #[46] ++ B ++ ByteArray.mk #[46] ++ C).data.toList = Plain.front A.data.toList B.data.toList C.data.toList := by
  simp [ByteArray.data_append, Plain.front]
theorem below_drewN (B : Nat) (w : World) (n : Nat) : Below B w (w.drewN n) := ⟨rfl, rfl, rfl, Nat.le_refl _, fun _ _ => rfl⟩
theorem read_eq {A : ByteArray} {p q : Int} {V : Value} (h : V = .tuple #[.string A, .int .i64 p, .int .i64 q, .int .i64 0]) : Ending.returned V = .returned (ReadV (A.data.toList, p, q, 0)) := by
  rw [h]
  unfold ReadV
  rw [Plain.mk_toList]
set_option maxHeartbeats 800000 in
theorem Read_full (text : ByteArray) (w : World) (a b c : List UInt8) (g : UInt8) (p q : Nat) (hs : text.size ≤ 2097152) (he : Env w) (hsp : Plain.splitOn1 46 text.data.toList = [a, b, c, [g]])
    (hw : Plain.isWord a = true) (hc : Lib.contains Plain.signs [g] = true) (h3 : Plain.read3 b = some p) (h4 : Plain.read3 c = some q) (hg : Plain.signOf (Plain.front a b c) = g) :
    Calls Tryd.prog 8 #[.string text] w fun e w' => e = .returned (ReadV (a, (p : Int), (q : Int), 0)) ∧ Below w.heap.size w w' := by
  have hf := front_text hsp
  go_enter Tryd.func8, Tryd.ntmps8
  go_wp2_with fail
  refine (split_one 46 text _ hs he).mono ?_
  rintro e w1 ⟨P, rfl, hP, hcell, hlt, hb⟩
  obtain ⟨A, B, C, D, rfl, hA, hB, hC, hD⟩ := four_of (hP.out.trans hsp)
  subst hA hB hC
  obtain rfl := one_byte hD
  have c0 := hcell 0 A rfl
  have c1 := hcell 1 B rfl
  have c2 := hcell 2 C rfl
  have c3 := hcell 3 ⟨#[g]⟩ rfl
  have z0 : A.size ≤ 2097152 := by have := split_len 46 text.data.toList A.data.toList (by rw [hsp]; simp); rw [size_list, size_list] at this; omega
  have z1 : B.size ≤ 2097152 := by have := split_len 46 text.data.toList B.data.toList (by rw [hsp]; simp); rw [size_list, size_list] at this; omega
  have z2 : C.size ≤ 2097152 := by have := split_len 46 text.data.toList C.data.toList (by rw [hsp]; simp); rw [size_list, size_list] at this; omega
  clear hcell hP hsp hD
  have HW := Lib.hid hw
  have HC := Lib.hid hc
  have H3 := Lib.hid h3
  have H4 := Lib.hid h4
  obtain ⟨hf1, hf2⟩ := hf
  have HF := Lib.hid hf1
  have HG := Lib.hid hg
  clear hw hc h3 h4 hf1 hg
  go_wp2_with (first | (go_at_call 11; refine (isword_yes _ _ (by omega) HW.out).mono ?_; rintro e w2 ⟨rfl, rfl⟩) | (go_at_call 19; refine (contains_yes ⟨#[g]⟩ _ (he.below hb) HC.out).mono ?_; rintro e w2 ⟨rfl, rfl⟩))
  refine (three_yes B p _ H3.out).mono ?_
  rintro e w3 ⟨rfl, hb3⟩
  have d0 := cell_on hb3 hlt c0
  have d2 := cell_on hb3 hlt c2
  have d3 := cell_on hb3 hlt c3
  have hlt3 : w.heap.size < w3.heap.size := Nat.lt_of_lt_of_le hlt hb3.size
  go_wp2_with fail
  refine (three_yes C q _ H4.out).mono ?_
  rintro e w4 ⟨rfl, hb4⟩
  have e0 := cell_on hb4 hlt3 d0
  have e3 := cell_on hb4 hlt3 d3
  clear c0 c1 c2 c3 d0 d2 d3
  go_wp2
  have n1 : IntKind.i64.wrap ((text.size : Int) - 2) = (text.size : Int) - 2 := IntWalk.i64_in _ (by omega)
  have n2 : 0 ≤ (text.size : Int) - 2 := by omega
  have n3 : ((text.size : Int) - 2).toNat = text.size - 2 := by omega
  have HX : Hid (Plain.signOf (text.extract 0 (text.size - 2)).data.toList = g) := by
    rw [Lib.extract_data]
    exact (congrArg Plain.signOf HF.out).trans HG.out
  have ht : (((ByteArray.mk #[g])[0]'(by show 0 < 1; omega)).toNat : Int) = (g.toNat : Int) := rfl
  go_quiet ((go_at_call 21; exact quiet_left (sign_is (text.extract 0 (text.size - 2)) g _ (by simp; omega) HX.out)))
  clear n1 n2 n3 ht
  go_wp2
  refine bodyPost_ret (results_tmp4 rfl _ _ _) rfl ?_
  exact ⟨read_eq rfl, (hb.trans ((hb3.trans (hb4.mono hb3.size)).mono hb.size)).trans (below_drewN _ _ _)⟩
set_option maxHeartbeats 800000 in
theorem Read_damaged (text : ByteArray) (w : World) (a b c : List UInt8) (g : UInt8) (p q : Nat) (hs : text.size ≤ 2097152) (he : Env w) (hsp : Plain.splitOn1 46 text.data.toList = [a, b, c, [g]])
    (hw : Plain.isWord a = true) (hc : Lib.contains Plain.signs [g] = true) (h3 : Plain.read3 b = some p) (h4 : Plain.read3 c = some q) (v : UInt8) (hv : Plain.signOf (Plain.front a b c) = v) (hg : g ≠ v) :
    Calls Tryd.prog 8 #[.string text] w fun e w' => e = .returned (ReadV ([], 0, 0, 15)) ∧ Below w.heap.size w w' := by
  have hf := front_text hsp
  go_enter Tryd.func8, Tryd.ntmps8
  go_wp2_with fail
  refine (split_one 46 text _ hs he).mono ?_
  rintro e w1 ⟨P, rfl, hP, hcell, hlt, hb⟩
  obtain ⟨A, B, C, D, rfl, hA, hB, hC, hD⟩ := four_of (hP.out.trans hsp)
  subst hA hB hC
  obtain rfl := one_byte hD
  have c0 := hcell 0 A rfl
  have c1 := hcell 1 B rfl
  have c2 := hcell 2 C rfl
  have c3 := hcell 3 ⟨#[g]⟩ rfl
  have z0 : A.size ≤ 2097152 := by have := split_len 46 text.data.toList A.data.toList (by rw [hsp]; simp); rw [size_list, size_list] at this; omega
  have z1 : B.size ≤ 2097152 := by have := split_len 46 text.data.toList B.data.toList (by rw [hsp]; simp); rw [size_list, size_list] at this; omega
  have z2 : C.size ≤ 2097152 := by have := split_len 46 text.data.toList C.data.toList (by rw [hsp]; simp); rw [size_list, size_list] at this; omega
  clear hcell hP hsp hD
  have HW := Lib.hid hw
  have HC := Lib.hid hc
  have H3 := Lib.hid h3
  have H4 := Lib.hid h4
  obtain ⟨hf1, hf2⟩ := hf
  have HF := Lib.hid hf1
  have HV := Lib.hid hv
  clear hw hc h3 h4 hf1 hv
  go_wp2_with (first | (go_at_call 11; refine (isword_yes _ _ (by omega) HW.out).mono ?_; rintro e w2 ⟨rfl, rfl⟩) | (go_at_call 19; refine (contains_yes ⟨#[g]⟩ _ (he.below hb) HC.out).mono ?_; rintro e w2 ⟨rfl, rfl⟩))
  refine (three_yes B p _ H3.out).mono ?_
  rintro e w3 ⟨rfl, hb3⟩
  have d0 := cell_on hb3 hlt c0
  have d2 := cell_on hb3 hlt c2
  have d3 := cell_on hb3 hlt c3
  have hlt3 : w.heap.size < w3.heap.size := Nat.lt_of_lt_of_le hlt hb3.size
  go_wp2_with fail
  refine (three_yes C q _ H4.out).mono ?_
  rintro e w4 ⟨rfl, hb4⟩
  have e0 := cell_on hb4 hlt3 d0
  have e3 := cell_on hb4 hlt3 d3
  clear c0 c1 c2 c3 d0 d2 d3
  go_wp2
  have n1 : IntKind.i64.wrap ((text.size : Int) - 2) = (text.size : Int) - 2 := IntWalk.i64_in _ (by omega)
  have n2 : 0 ≤ (text.size : Int) - 2 := by omega
  have n3 : ((text.size : Int) - 2).toNat = text.size - 2 := by omega
  have HX : Hid (Plain.signOf (text.extract 0 (text.size - 2)).data.toList = v) := by
    rw [Lib.extract_data]
    exact (congrArg Plain.signOf HF.out).trans HV.out
  have ht : ((((ByteArray.mk #[g])[0]'(by show 0 < 1; omega)).toNat : Int) != (v.toNat : Int)) = true := by
    rw [bne_iff_ne]
    intro e
    exact hg (UInt8.toNat_inj.1 (by rw [first_one] at e; omega))
  go_quiet ((go_at_call 21; exact quiet_left (sign_is (text.extract 0 (text.size - 2)) v _ (by simp; omega) HX.out)))
  clear n1 n2 n3 ht
  go_wp2
  refine bodyPost_ret (results_tmp4 rfl _ _ _) rfl ?_
  exact ⟨rfl, (hb.trans ((hb3.trans (hb4.mono hb3.size)).mono hb.size)).trans (below_drewN _ _ _)⟩
set_option maxHeartbeats 800000 in
theorem refRead_full (text : ByteArray) (w : World) (a b c : List UInt8) (g : UInt8) (p q : Nat) (hs : text.size ≤ 2097152) (he : Env w) (hsp : Plain.splitOn1 46 text.data.toList = [a, b, c, [g]])
    (hw : Plain.isWord a = true) (hc : Lib.contains Plain.signs [g] = true) (h3 : Plain.read3 b = some p) (h4 : Plain.read3 c = some q) (hg : Plain.signOf (Plain.front a b c) = g) :
    Calls Tryd.prog 9 #[.string text] w fun e w' => e = .returned (ReadV (a, (p : Int), (q : Int), 0)) ∧ Below w.heap.size w w' := by
  have hf := front_text hsp
  go_enter Tryd.func9, Tryd.ntmps9
  go_wp2_with fail
  refine (split_one 46 text _ hs he).mono ?_
  rintro e w1 ⟨P, rfl, hP, hcell, hlt, hb⟩
  obtain ⟨A, B, C, D, rfl, hA, hB, hC, hD⟩ := four_of (hP.out.trans hsp)
  subst hA hB hC
  obtain rfl := one_byte hD
  have c0 := hcell 0 A rfl
  have c1 := hcell 1 B rfl
  have c2 := hcell 2 C rfl
  have c3 := hcell 3 ⟨#[g]⟩ rfl
  have z0 : A.size ≤ 2097152 := by have := split_len 46 text.data.toList A.data.toList (by rw [hsp]; simp); rw [size_list, size_list] at this; omega
  have z1 : B.size ≤ 2097152 := by have := split_len 46 text.data.toList B.data.toList (by rw [hsp]; simp); rw [size_list, size_list] at this; omega
  have z2 : C.size ≤ 2097152 := by have := split_len 46 text.data.toList C.data.toList (by rw [hsp]; simp); rw [size_list, size_list] at this; omega
  clear hcell hP hsp hD
  have HW := Lib.hid hw
  have HC := Lib.hid hc
  have H3 := Lib.hid h3
  have H4 := Lib.hid h4
  obtain ⟨hf1, hf2⟩ := hf
  have HF := Lib.hid hf1
  have HG := Lib.hid hg
  clear hw hc h3 h4 hf1 hg
  go_wp2_with (first | (go_at_call 14; refine (refword_yes _ _ (by omega) HW.out).mono ?_; rintro e w2 ⟨rfl, rfl⟩) | (go_at_call 22; refine (index_yes ⟨#[g]⟩ _ (he.below hb) HC.out).mono ?_; rintro e w2 ⟨ni, rfl, hn, rfl⟩))
  refine (refdigits_yes B p _ H3.out).mono ?_
  rintro e w3 ⟨rfl, hb3⟩
  have d0 := cell_on hb3 hlt c0
  have d1 := cell_on hb3 hlt c1
  have d2 := cell_on hb3 hlt c2
  have d3 := cell_on hb3 hlt c3
  have hlt3 : w.heap.size < w3.heap.size := Nat.lt_of_lt_of_le hlt hb3.size
  go_wp2_with fail
  refine (refdigits_yes C q _ H4.out).mono ?_
  rintro e w4 ⟨rfl, hb4⟩
  have e0 := cell_on hb4 hlt3 d0
  have e1 := cell_on hb4 hlt3 d1
  have e2 := cell_on hb4 hlt3 d2
  have e3 := cell_on hb4 hlt3 d3
  clear c0 c1 c2 c3 d0 d1 d2 d3
  go_wp2
  have d1 : (ByteArray.mk #[46]).size = 1 := rfl
  have HX : Hid (Plain.signOf (A ++ ByteArray.mk #[46] ++ B ++ ByteArray.mk #[46] ++ C).data.toList = g) := by
    rw [front_cat]
    exact HG.out
  have HZ : Hid ((A ++ ByteArray.mk #[46] ++ B ++ ByteArray.mk #[46] ++ C).size ≤ 2097152) := by
    have := size_list (A ++ ByteArray.mk #[46] ++ B ++ ByteArray.mk #[46] ++ C)
    rw [front_cat, ← HF.out, List.length_take] at this
    show _ ≤ _
    omega
  go_quiet ((go_at_call 17; exact quiet_left (refsign_is (A ++ ByteArray.mk #[46] ++ B ++ ByteArray.mk #[46] ++ C) g _ HZ.out HX.out)))
  go_wp2
  refine bodyPost_ret (results_tmp4 rfl _ _ _) rfl ?_
  exact ⟨read_eq rfl, (hb.trans ((hb3.trans (hb4.mono hb3.size)).mono hb.size)).trans (below_drewN _ _ _)⟩
set_option maxHeartbeats 800000 in
theorem refRead_damaged (text : ByteArray) (w : World) (a b c : List UInt8) (g : UInt8) (p q : Nat) (hs : text.size ≤ 2097152) (he : Env w) (hsp : Plain.splitOn1 46 text.data.toList = [a, b, c, [g]])
    (hw : Plain.isWord a = true) (hc : Lib.contains Plain.signs [g] = true) (h3 : Plain.read3 b = some p) (h4 : Plain.read3 c = some q) (v : UInt8) (hv : Plain.signOf (Plain.front a b c) = v) (hg : g ≠ v) :
    Calls Tryd.prog 9 #[.string text] w fun e w' => e = .returned (ReadV ([], 0, 0, 15)) ∧ Below w.heap.size w w' := by
  have hf := front_text hsp
  go_enter Tryd.func9, Tryd.ntmps9
  go_wp2_with fail
  refine (split_one 46 text _ hs he).mono ?_
  rintro e w1 ⟨P, rfl, hP, hcell, hlt, hb⟩
  obtain ⟨A, B, C, D, rfl, hA, hB, hC, hD⟩ := four_of (hP.out.trans hsp)
  subst hA hB hC
  obtain rfl := one_byte hD
  have c0 := hcell 0 A rfl
  have c1 := hcell 1 B rfl
  have c2 := hcell 2 C rfl
  have c3 := hcell 3 ⟨#[g]⟩ rfl
  have z0 : A.size ≤ 2097152 := by have := split_len 46 text.data.toList A.data.toList (by rw [hsp]; simp); rw [size_list, size_list] at this; omega
  have z1 : B.size ≤ 2097152 := by have := split_len 46 text.data.toList B.data.toList (by rw [hsp]; simp); rw [size_list, size_list] at this; omega
  have z2 : C.size ≤ 2097152 := by have := split_len 46 text.data.toList C.data.toList (by rw [hsp]; simp); rw [size_list, size_list] at this; omega
  clear hcell hP hsp hD
  have HW := Lib.hid hw
  have HC := Lib.hid hc
  have H3 := Lib.hid h3
  have H4 := Lib.hid h4
  obtain ⟨hf1, hf2⟩ := hf
  have HF := Lib.hid hf1
  have HV := Lib.hid hv
  clear hw hc h3 h4 hf1 hv
  go_wp2_with (first | (go_at_call 14; refine (refword_yes _ _ (by omega) HW.out).mono ?_; rintro e w2 ⟨rfl, rfl⟩) | (go_at_call 22; refine (index_yes ⟨#[g]⟩ _ (he.below hb) HC.out).mono ?_; rintro e w2 ⟨ni, rfl, hn, rfl⟩))
  refine (refdigits_yes B p _ H3.out).mono ?_
  rintro e w3 ⟨rfl, hb3⟩
  have d0 := cell_on hb3 hlt c0
  have d1 := cell_on hb3 hlt c1
  have d2 := cell_on hb3 hlt c2
  have d3 := cell_on hb3 hlt c3
  have hlt3 : w.heap.size < w3.heap.size := Nat.lt_of_lt_of_le hlt hb3.size
  go_wp2_with fail
  refine (refdigits_yes C q _ H4.out).mono ?_
  rintro e w4 ⟨rfl, hb4⟩
  have e0 := cell_on hb4 hlt3 d0
  have e1 := cell_on hb4 hlt3 d1
  have e2 := cell_on hb4 hlt3 d2
  have e3 := cell_on hb4 hlt3 d3
  clear c0 c1 c2 c3 d0 d1 d2 d3
  go_wp2
  have d1 : (ByteArray.mk #[46]).size = 1 := rfl
  have HX : Hid (Plain.signOf (A ++ ByteArray.mk #[46] ++ B ++ ByteArray.mk #[46] ++ C).data.toList = v) := by
    rw [front_cat]
    exact HV.out
  have HZ : Hid ((A ++ ByteArray.mk #[46] ++ B ++ ByteArray.mk #[46] ++ C).size ≤ 2097152) := by
    have := size_list (A ++ ByteArray.mk #[46] ++ B ++ ByteArray.mk #[46] ++ C)
    rw [front_cat, ← HF.out, List.length_take] at this
    show _ ≤ _
    omega
  have ht : (v == g) = false := by rw [beq_eq_false_iff_ne]; exact fun e => hg e.symm
  go_quiet ((go_at_call 17; exact quiet_left (refsign_is (A ++ ByteArray.mk #[46] ++ B ++ ByteArray.mk #[46] ++ C) v _ HZ.out HX.out)))
  go_wp2
  refine bodyPost_ret (results_tmp4 rfl _ _ _) rfl ?_
  exact ⟨rfl, (hb.trans ((hb3.trans (hb4.mono hb3.size)).mono hb.size)).trans (below_drewN _ _ _)⟩
theorem Read_any (text : ByteArray) (w : World) (hs : text.size ≤ 2097152) (he : Env w) :
    Calls Tryd.prog 8 #[.string text] w fun e w' => e = .returned (ReadV (Plain.ReadSerial text.data.toList)) ∧ Below w.heap.size w w' := by
  unfold Plain.ReadSerial
  by_cases hl : (Plain.splitOn1 46 text.data.toList).length = 4
  · match hsp : Plain.splitOn1 46 text.data.toList, hl with
    | [a, b, c, d], _ =>
      cases hw : Plain.isWord a with
      | false =>
        rw [parts_bad (by rw [hw]; simp)]
        exact Read_word text w a b c d hs he hsp hw
      | true =>
        by_cases hd : d.length = 1
        · cases hc : Lib.contains Plain.signs d with
          | false =>
            rw [parts_bad (fun h => by rw [(Plain.contains_read d hd).2 h.2.2] at hc; cases hc)]
            exact Read_nosign text w a b c d hs he hsp hw hd hc
          | true =>
            have hall : Plain.isWord a = true ∧ d.length = 1 ∧ d.getD 0 0 ∈ Plain.signs := ⟨hw, hd, (Plain.contains_read d hd).1 hc⟩
            cases h3 : Plain.read3 b with
            | none =>
              rw [parts_digits (.inl h3)]
              exact Read_digits text w a b c d hs he hsp hw hd hc (.inl h3)
            | some p =>
              cases h4 : Plain.read3 c with
              | none =>
                rw [parts_digits (.inr h4)]
                exact Read_digits text w a b c d hs he hsp hw hd hc (.inr h4)
              | some q =>
                rw [parts_full hall h3 h4]
                match d, hd with
                | [g], _ =>
                  by_cases hg : g = Plain.signOf (Plain.front a b c)
                  · rw [if_pos (show ([g] : List UInt8).getD 0 0 = _ from hg)]
                    exact Read_full text w a b c g p q hs he hsp hw hc h3 h4 hg.symm
                  · rw [if_neg (show ¬ ([g] : List UInt8).getD 0 0 = _ from hg)]
                    exact Read_damaged text w a b c g p q hs he hsp hw hc h3 h4 _ rfl hg
        · rw [parts_bad (fun h => hd h.2.1)]
          exact Read_sized text w a b c d hs he hsp hw hd
  · rw [parts_short hl]
    exact Read_short text w hs he hl
theorem refRead_any (text : ByteArray) (w : World) (hs : text.size ≤ 2097152) (he : Env w) :
    Calls Tryd.prog 9 #[.string text] w fun e w' => e = .returned (ReadV (Plain.ReadSerial text.data.toList)) ∧ Below w.heap.size w w' := by
  unfold Plain.ReadSerial
  by_cases hl : (Plain.splitOn1 46 text.data.toList).length = 4
  · match hsp : Plain.splitOn1 46 text.data.toList, hl with
    | [a, b, c, d], _ =>
      cases hw : Plain.isWord a with
      | false =>
        rw [parts_bad (by rw [hw]; simp)]
        exact refRead_word text w a b c d hs he hsp hw
      | true =>
        by_cases hd : d.length = 1
        · cases hc : Lib.contains Plain.signs d with
          | false =>
            rw [parts_bad (fun h => by rw [(Plain.contains_read d hd).2 h.2.2] at hc; cases hc)]
            exact refRead_nosign text w a b c d hs he hsp hw hd hc
          | true =>
            have hall : Plain.isWord a = true ∧ d.length = 1 ∧ d.getD 0 0 ∈ Plain.signs := ⟨hw, hd, (Plain.contains_read d hd).1 hc⟩
            cases h3 : Plain.read3 b with
            | none =>
              rw [parts_digits (.inl h3)]
              exact refRead_digits text w a b c d hs he hsp hw hd hc (.inl h3)
            | some p =>
              cases h4 : Plain.read3 c with
              | none =>
                rw [parts_digits (.inr h4)]
                exact refRead_digits text w a b c d hs he hsp hw hd hc (.inr h4)
              | some q =>
                rw [parts_full hall h3 h4]
                match d, hd with
                | [g], _ =>
                  by_cases hg : g = Plain.signOf (Plain.front a b c)
                  · rw [if_pos (show ([g] : List UInt8).getD 0 0 = _ from hg)]
                    exact refRead_full text w a b c g p q hs he hsp hw hc h3 h4 hg.symm
                  · rw [if_neg (show ¬ ([g] : List UInt8).getD 0 0 = _ from hg)]
                    exact refRead_damaged text w a b c g p q hs he hsp hw hc h3 h4 _ rfl hg
        · rw [parts_bad (fun h => hd h.2.1)]
          exact refRead_sized text w a b c d hs he hsp hw hd
  · rw [parts_short hl]
    exact refRead_short text w hs he hl
end Go.Proofs.YtneggmggiepnoaaDoor
