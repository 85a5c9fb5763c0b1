/- Rows of signs and numbers as texts: what a rune, a trimmed text, a text's number say, byte by byte. No program in sight. -/
import Derived.Lib.ItoaNum
import Derived.Lib.Atoi
import Derived.Lib.AtoiBound
import Derived.Lib.SlTrimSet
import Derived.Lib.Strings
import Derived.Lib.DecodeN
import Derived.Shelf.GgClosure.StringsIndexFunc
set_option linter.unusedSimpArgs false
set_option linter.unusedVariables false
namespace Go.Proofs.YthjfllfhagdnpaaGreatDoor.Num
open Go

/-- a byte from 33 to 126 -/
def okR (b : UInt8) : Bool := decide ((33 : Int) ≤ b.toNat) && decide ((b.toNat : Int) ≤ 126)
def rowB (s : ByteArray) : Bool := !decide (s = ByteArray.empty) && s.data.toList.all okR
/-- what the predicate on runes asks -/
def badR (r : Nat) : Bool := decide ((r : Int) < 33) || decide ((r : Int) > 126)
theorem decodeN_low (n b0 b1 b2 b3 : Nat) (h : b0 < 128) : Lib.decodeN n b0 b1 b2 b3 = (b0, 1) := by
  unfold Lib.decodeN; rw [if_pos h]
theorem decodeN_high (n b0 b1 b2 b3 : Nat) (h : ¬ b0 < 128) : 128 ≤ (Lib.decodeN n b0 b1 b2 b3).1 := by
  unfold Lib.decodeN
  rw [if_neg h]
  repeat' split
  all_goals (first | (simp only; omega) | omega)
theorem get_bang (s : ByteArray) (i : Nat) (b : UInt8) (h : s.data.toList[i]? = some b) : s.get! i = b := by
  rw [Array.getElem?_toList] at h
  cases s with
  | mk a =>
    show a[i]! = b
    rw [getElem!_def, h]
theorem idx_from (s : ByteArray) : ∀ (f pos : Nat), s.size ≤ pos + f → (0 ≤ Lib.idxFuncFrom badR true s f pos ↔ (s.data.toList.drop pos).all okR = false) := by
  have hsz : s.data.toList.length = s.size := by simp
  intro f
  induction f with
  | zero =>
    intro pos h
    rw [List.drop_eq_nil_of_le (by omega)]
    simp [Lib.idxFuncFrom]
  | succ f ih =>
    intro pos h
    unfold Lib.idxFuncFrom
    by_cases hp : pos < s.size
    · rw [if_pos hp]
      obtain ⟨b, hb⟩ : ∃ b, s.data.toList[pos]? = some b := ⟨_, List.getElem?_eq_getElem (by omega)⟩
      have hd : s.data.toList.drop pos = b :: s.data.toList.drop (pos + 1) := List.drop_eq_getElem?_toList_append .. |>.trans (by rw [hb]; rfl)
      rw [hd, List.all_cons, Lib.decode_at, get_bang s pos b hb]
      by_cases h1 : b.toNat < 128
      · rw [decodeN_low _ _ _ _ _ h1]
        simp only
        by_cases h2 : okR b = true
        · have h3 : badR b.toNat = false := by
            simp [okR, badR] at h2 ⊢
            omega
          rw [h3, h2, Bool.true_and, if_neg (by decide)]
          exact ih (pos + 1) (by omega)
        · have h2 : okR b = false := by simpa using h2
          have h3 : badR b.toNat = true := by
            simp [okR, badR] at h2 ⊢
            omega
          rw [h3, h2, if_pos rfl]
          simp
      · have h2 : okR b = false := by
          simp [okR]
          omega
        have h3 := decodeN_high (s.size - pos) b.toNat (s.get! (pos + 1)).toNat (s.get! (pos + 2)).toNat (s.get! (pos + 3)).toNat h1
        have h4 : badR (Lib.decodeN (s.size - pos) b.toNat (s.get! (pos + 1)).toNat (s.get! (pos + 2)).toNat (s.get! (pos + 3)).toNat).1 = true := by
          simp [badR]
          omega
        rw [h4, h2, if_pos rfl]
        simp
    · rw [if_neg hp, List.drop_eq_nil_of_le (by omega)]
      simp
theorem idx_row (s : ByteArray) : decide (0 ≤ Lib.idxFunc badR true s) = !s.data.toList.all okR := by
  have := idx_from s s.size 0 (by omega)
  rw [List.drop_zero] at this
  unfold Lib.idxFunc
  cases h : s.data.toList.all okR with
  | true => rw [h] at this; simp at this; simpa using this
  | false => rw [h] at this; simp at this; simpa using this

/-- the digits -/
def digs : List UInt8 := [48, 49, 50, 51, 52, 53, 54, 55, 56, 57]
def digB (b : UInt8) : Bool := decide ((48 : Int) ≤ b.toNat) && decide ((b.toNat : Int) ≤ 57)
theorem digs_iff (c : UInt8) : digs.contains c = digB c := by
  have h : ∀ c : Fin 256, digs.contains (UInt8.ofNat c) = digB (UInt8.ofNat c) := by decide +kernel
  have := h ⟨c.toNat, c.toNat_lt⟩
  simpa using this
theorem dropWhile_nil {p : UInt8 → Bool} (l : List UInt8) : l.dropWhile p = [] ↔ ∀ c ∈ l, p c = true := by
  induction l with
  | nil => simp
  | cons a r ih =>
    by_cases h : p a = true
    · rw [List.dropWhile_cons_of_pos h, ih]
      simp [h]
    · rw [List.dropWhile_cons_of_neg h]
      simp [h]
theorem trim_digs (l : List UInt8) : Lib.trimS l digs = [] ↔ l.all digB = true := by
  unfold Lib.trimS Lib.trimLeftS Lib.trimRightS
  rw [dropWhile_nil, List.all_eq_true]
  simp only [digs_iff]
  constructor
  · intro h c hc
    by_cases hall : ∀ c ∈ l.reverse, digB c = true
    · exact hall c (List.mem_reverse.2 hc)
    · exfalso
      have hne : l.reverse.dropWhile digB ≠ [] := fun e => hall ((dropWhile_nil _).1 e)
      have h2 := List.head_dropWhile_not digB hne
      have h3 := h _ (List.mem_reverse.2 (List.head_mem hne))
      rw [h3] at h2
      cases h2
  · intro h c hc
    have hc := List.mem_reverse.1 hc
    exact h c (List.mem_reverse.1 ((List.dropWhile_sublist digB).mem hc))
/-- a text's digits behind a minus; whether there is one -/
def dl (s : ByteArray) : List UInt8 := Lib.trimPrefix s.data.toList [45]
def mnB (s : ByteArray) : Bool := match s.data.toList with
  | b :: _ => b == 45
  | [] => false
def numB (s : ByteArray) : Bool := (decide (1 ≤ (dl s).length) && decide ((dl s).length ≤ 9)) && ((dl s).all digB && !((dl s).head? == some 48 && (decide (1 < (dl s).length) || mnB s)))
def numV (s : ByteArray) : Int := (Lib.atoi s.data.toList).getD 0
theorem dl_minus {s : ByteArray} (h : mnB s = true) : s.data.toList = 45 :: dl s := by
  unfold mnB at h
  unfold dl
  split at h
  · rename_i b r e
    have : b = 45 := by simpa using h
    subst this
    rw [e]; rfl
  · cases h
theorem dl_plain {s : ByteArray} (h : mnB s = false) : dl s = s.data.toList := by
  unfold mnB at h
  unfold dl
  split at h
  · rename_i b r e
    have hb : ¬ b = 45 := by simpa using h
    rw [e]
    unfold Lib.trimPrefix Lib.hasPrefix
    rw [if_neg]
    simp
    exact fun e => hb e.symm
  · rename_i e
    rw [e]; rfl
theorem dl_le (s : ByteArray) : (dl s).length ≤ s.size := by
  have := Lib.trimPrefix_le s.data.toList [45]
  simpa [dl] using this
theorem digitVal_of {c : UInt8} (h : digB c = true) : ∃ d, Lib.digitVal c = some d ∧ d ≤ 9 := by
  have all : ∀ c : Fin 256, digB (UInt8.ofNat c) = true → ∃ d ∈ List.range 10, Lib.digitVal (UInt8.ofNat c) = some d := by decide +kernel
  obtain ⟨d, hd, e⟩ := all ⟨c.toNat, c.toNat_lt⟩ (by simpa using h)
  exact ⟨d, by simpa using e, by have := List.mem_range.1 hd; omega⟩
theorem decFrom_digs : ∀ (l : List UInt8) (a : Nat), l.all digB = true → ∃ n, Lib.decFrom a l = some n
  | [], a, _ => ⟨a, rfl⟩
  | c :: l, a, h => by
    simp only [List.all_cons, Bool.and_eq_true] at h
    obtain ⟨d, hd, _⟩ := digitVal_of h.1
    unfold Lib.decFrom
    rw [hd]
    exact decFrom_digs l _ h.2
theorem atoi_of {s : ByteArray} (h : numB s = true) : Lib.atoi s.data.toList = some (numV s) ∧ s.size ≤ 10 := by
  simp only [numB, Bool.and_eq_true, decide_eq_true_eq] at h
  obtain ⟨⟨h1, h2⟩, h3, _⟩ := h
  have hd : ∃ n, Lib.decNat (dl s) = some n := by
    obtain ⟨n, hn⟩ := decFrom_digs (dl s) 0 h3
    refine ⟨n, ?_⟩
    unfold Lib.decNat
    rw [if_neg]
    · exact hn
    · cases e : dl s with
      | nil => rw [e] at h1; simp at h1
      | cons a r => simp
  obtain ⟨n, hn⟩ := hd
  have hsz : s.data.toList.length = s.size := by simp
  have some_ : ∃ m, Lib.atoi s.data.toList = some m := by
    cases hm : mnB s with
    | true =>
      rw [dl_minus hm]
      refine ⟨-(n : Int), ?_⟩
      unfold Lib.atoi
      simp [hn]
    | false =>
      have e := dl_plain hm
      cases hl : s.data.toList with
      | nil => rw [e, hl] at h1; simp at h1
      | cons b r =>
        have hb : digB b = true := by rw [e, hl] at h3; simp only [List.all_cons, Bool.and_eq_true] at h3; exact h3.1
        have n45 : (b == 45) = false := by
          rw [Bool.eq_false_iff]; intro h
          have : b = 45 := by simpa using h
          subst this; revert hb; decide
        have n43 : (b == 43) = false := by
          rw [Bool.eq_false_iff]; intro h
          have : b = 43 := by simpa using h
          subst this; revert hb; decide
        refine ⟨(n : Int), ?_⟩
        unfold Lib.atoi
        rw [e, hl] at hn
        simp [n45, n43, hn]
  obtain ⟨m, hm⟩ := some_
  refine ⟨by rw [numV, hm]; rfl, ?_⟩
  cases hm2 : mnB s with
  | true => have := congrArg List.length (dl_minus hm2); simp at this; omega
  | false => have := congrArg List.length (dl_plain hm2); simp at this; omega
theorem numV_range {s : ByteArray} (h : numB s = true) : -1000000000000000000 < numV s ∧ numV s < 1000000000000000000 := by
  have := atoi_of h
  exact Lib.atoi_bound this.1 (by simp; omega)
end Go.Proofs.YthjfllfhagdnpaaGreatDoor.Num
