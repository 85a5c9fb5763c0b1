/- Numbers of three digits as Go's library writes and reads them; small facts on byte arrays. No program in sight. -/
import Derived.Test.YtneggmggiepnoaaDoorPlainSerial
import Derived.Lib.ItoaNum
import Derived.Lib.Atoi
import Derived.Lib.SlTrimSet
import Derived.Lib.IndexMore
import GoSem.Core.Utf8
namespace Go.Proofs.YtneggmggiepnoaaDoor.Plain
open Go

theorem itoa_nat (n : Nat) : Lib.itoa (n : Int) = Lib.decDigits n := by
  unfold Lib.itoa
  rw [if_neg (by omega)]
  rfl
theorem dec1 (n : Nat) (h : n < 10) : Lib.decDigits n = [UInt8.ofNat (48 + n)] := by rw [Lib.decDigits, dif_pos h]
theorem decS (n : Nat) (h : 10 ≤ n) : Lib.decDigits n = Lib.decDigits (n / 10) ++ [UInt8.ofNat (48 + n % 10)] := by rw [Lib.decDigits, dif_neg (by omega)]
theorem itoa_thousand (n : Nat) (h : n ≤ 999) : Lib.itoa (1000 + (n : Int)) = 49 :: three n := by
  rw [show (1000 + (n : Int)) = ((1000 + n : Nat) : Int) from by omega, itoa_nat, decS _ (by omega), decS _ (by omega), decS _ (by omega), dec1 _ (by omega)]
  have e1 : (1000 + n) / 10 / 10 / 10 = 1 := by omega
  have e2 : (1000 + n) / 10 / 10 % 10 = n / 100 % 10 := by omega
  have e3 : (1000 + n) / 10 % 10 = n / 10 % 10 := by omega
  have e4 : (1000 + n) % 10 = n % 10 := by omega
  rw [e1, e2, e3, e4]
  rfl
/-- noughts ahead, up to three digits -/
def pad (l : List UInt8) : List UInt8 := List.replicate (3 - l.length) 48 ++ l
theorem pad_step {l : List UInt8} (h : l.length < 3) : pad (48 :: l) = pad l := by
  unfold pad
  rw [List.length_cons, show 3 - l.length = (3 - (l.length + 1)) + 1 from by omega, List.replicate_succ']
  simp
theorem pad_end {l : List UInt8} (h : 3 ≤ l.length) : pad l = l := by
  unfold pad
  rw [show 3 - l.length = 0 from by omega]
  rfl
theorem pad_itoa (n : Nat) (h : n ≤ 999) : pad (Lib.itoa (n : Int)) = three n ∧ (Lib.itoa (n : Int)).length ≤ 3 := by
  rw [itoa_nat]
  by_cases h1 : n < 10
  · rw [dec1 n h1]
    have e1 : n / 100 % 10 = 0 := by omega
    have e2 : n / 10 % 10 = 0 := by omega
    have e3 : n % 10 = n := by omega
    refine ⟨?_, by simp⟩
    unfold three
    rw [e1, e2, e3]
    rfl
  · by_cases h2 : n < 100
    · rw [decS n (by omega), dec1 _ (by omega)]
      have e1 : n / 100 % 10 = 0 := by omega
      have e2 : n / 10 % 10 = n / 10 := by omega
      refine ⟨?_, by simp⟩
      unfold three
      rw [e1, e2]
      rfl
    · rw [decS n (by omega), decS _ (by omega), dec1 _ (by omega)]
      have e1 : n / 100 % 10 = n / 10 / 10 := by omega
      refine ⟨?_, by simp⟩
      unfold three
      rw [e1]
      rfl
theorem digitVal_of {c : UInt8} (h : isDigit c = true) : Lib.digitVal c = some (c.toNat - 48) := by
  have := digit_val h
  unfold Lib.digitVal
  rw [if_pos (by omega)]
theorem atoi_three {l : List UInt8} {n : Nat} (h : read3 l = some n) : Lib.atoi l = some (n : Int) := by
  unfold read3 at h
  split at h
  · rename_i a b c
    split at h
    · rename_i hd
      simp only [Bool.and_eq_true] at hd
      have ha := digit_val hd.1.1
      have h45 : ¬ (a == 45) = true := by
        intro e
        have : a = 45 := by simpa using e
        subst this
        simp at ha
      have h43 : ¬ (a == 43) = true := by
        intro e
        have : a = 43 := by simpa using e
        subst this
        simp at ha
      have hn : (a.toNat - 48) * 100 + (b.toNat - 48) * 10 + (c.toNat - 48) = n := Option.some.inj h
      unfold Lib.atoi
      simp only []
      rw [if_neg h45, if_neg h43]
      simp only [Lib.decNat, List.isEmpty_cons, Bool.false_eq_true, if_false, Lib.decFrom, digitVal_of hd.1.1, digitVal_of hd.1.2, digitVal_of hd.2, Option.map_some]
      congr 1
      omega
    · cases h
  · cases h
/-- the digits -/
def digs : List UInt8 := [48, 49, 50, 51, 52, 53, 54, 55, 56, 57]
theorem digs_iff (c : UInt8) : digs.contains c = isDigit c := by
  have h : ∀ c : Fin 256, digs.contains (UInt8.ofNat c) = isDigit (UInt8.ofNat c) := by decide +kernel
  have := h ⟨c.toNat, c.toNat_lt⟩
  simpa using this
theorem dropWhile_nil {p : UInt8 → Bool} (l : List UInt8) : l.dropWhile p = [] ↔ ∀ c ∈ l, p c = true := by
  induction l with
  | nil => simp
  | cons a r ih =>
    by_cases h : p a = true
    · rw [List.dropWhile_cons_of_pos h, ih]
      simp [h]
    · rw [List.dropWhile_cons_of_neg h]
      simp [h]
theorem trim_digs (l : List UInt8) : Lib.trimS l digs = [] ↔ ∀ c ∈ l, isDigit c = true := by
  unfold Lib.trimS Lib.trimLeftS Lib.trimRightS
  rw [dropWhile_nil]
  simp only [digs_iff]
  constructor
  · intro h c hc
    by_cases hall : ∀ c ∈ l.reverse, isDigit c = true
    · exact hall c (List.mem_reverse.2 hc)
    · exfalso
      have hne : l.reverse.dropWhile isDigit ≠ [] := fun e => hall ((dropWhile_nil _).1 e)
      have h2 := List.head_dropWhile_not isDigit hne
      have h3 := h _ (List.mem_reverse.2 (List.head_mem hne))
      rw [h3] at h2
      cases h2
  · intro h c hc
    have hc := List.mem_reverse.1 hc
    exact h c (List.mem_reverse.1 ((List.dropWhile_sublist isDigit).mem hc))
theorem read3_none {l : List UInt8} (h : read3 l = none) (hl : l.length = 3) : Lib.trimS l digs ≠ [] := by
  intro e
  have ha := (trim_digs l).1 e
  match l, hl with
  | [a, b, c], _ =>
    obtain ⟨n, hn⟩ := read3_digits (ha a (by simp)) (ha b (by simp)) (ha c (by simp))
    rw [hn] at h
    cases h
theorem read3_some {l : List UInt8} {n : Nat} (h : read3 l = some n) : l.length = 3 ∧ Lib.trimS l digs = [] ∧ ∀ c ∈ l, isDigit c = true := by
  have hl : l.length = 3 := by rw [(three_read h).1]; rfl
  have hall : ∀ c ∈ l, isDigit c = true := by
    unfold read3 at h
    split at h
    · split at h
      · rename_i hd
        simp only [Bool.and_eq_true] at hd
        intro x hx
        simp only [List.mem_cons, List.not_mem_nil, or_false] at hx
        rcases hx with rfl | rfl | rfl
        · exact hd.1.1
        · exact hd.1.2
        · exact hd.2
      · cases h
    · cases h
  exact ⟨hl, (trim_digs l).2 hall, hall⟩
theorem encode_byte (c : UInt8) (h : c.toNat < 128) : Utf8.encode (c.toNat : Int) = ⟨#[c]⟩ := by
  have h2 : ∀ k : Fin 128, Utf8.encode ((k.val : Nat) : Int) = ⟨#[UInt8.ofNat k.val]⟩ := by decide +kernel
  have := h2 ⟨c.toNat, h⟩
  simpa using this
theorem sign_small (l : List UInt8) : (signOf l).toNat < 128 := by
  have h : ∀ c ∈ signs, c.toNat < 128 := by decide
  exact h _ (sign_mem l)
theorem contains_one (l : List UInt8) (c : UInt8) : Lib.contains l [c] = true ↔ c ∈ l := by
  unfold Lib.contains
  rw [decide_eq_true_eq]
  rcases index1_spec c l with ⟨h1, h2⟩ | ⟨a, b, h1, _, h3⟩
  · rw [h1]
    exact ⟨fun h => by omega, fun h => absurd h h2⟩
  · rw [h3, h1]
    simp
theorem contains_read (d : List UInt8) (hd : d.length = 1) : Lib.contains signs d = true ↔ d.getD 0 0 ∈ signs := by
  match d, hd with
  | [c], _ => exact contains_one signs c
theorem toList_mk (l : List UInt8) : (ByteArray.mk l.toArray).data.toList = l := by simp
theorem mk_toList (s : ByteArray) : ByteArray.mk s.data.toList.toArray = s := by cases s; simp
theorem ext_list {s t : ByteArray} (h : s.data.toList = t.data.toList) : s = t := by rw [← mk_toList s, ← mk_toList t, h]
end Go.Proofs.YtneggmggiepnoaaDoor.Plain
