/- The plain law of serial numbers: words, signs, three digits, the text of a serial number and its reading, on lists of bytes. No program in sight. -/
import Derived.Lib.Split
namespace Go.Proofs.YtneggmggiepnoaaDoor.Plain
open Go

/-- a list of bytes, cut at each byte c -/
def splitOn1 (c : UInt8) : List UInt8 → List (List UInt8)
  | [] => [[]]
  | b :: r => if b == c then [] :: splitOn1 c r else
      match splitOn1 c r with
      | h :: t => (b :: h) :: t
      | [] => [[b]]

theorem splitOn1_ne (c : UInt8) (l : List UInt8) : splitOn1 c l ≠ [] := by
  cases l with
  | nil => simp [splitOn1]
  | cons b r =>
    unfold splitOn1
    split
    · simp
    · split <;> simp

theorem splitOn1_none (c : UInt8) (l : List UInt8) (h : c ∉ l) : splitOn1 c l = [l] := by
  induction l with
  | nil => rfl
  | cons b r ih =>
    have hb : ¬ b = c := fun e => h (by simp [e])
    have hr := ih (fun e => h (by simp [e]))
    simp [splitOn1, hb, hr]

theorem splitOn1_hit (c : UInt8) (a b : List UInt8) (h : c ∉ a) : splitOn1 c (a ++ c :: b) = a :: splitOn1 c b := by
  induction a with
  | nil => simp [splitOn1]
  | cons x r ih =>
    have hb : ¬ x = c := fun e => h (by simp [e])
    have hr := ih (fun e => h (by simp [e]))
    simp [splitOn1, hb, hr]

theorem index1_cons (b c : UInt8) (l : List UInt8) : Lib.index (b :: l) [c] = if c = b then 0 else if Lib.index l [c] = -1 then -1 else Lib.index l [c] + 1 := by
  rw [Lib.index]
  simp [List.isPrefixOf]

theorem index1_spec (c : UInt8) (l : List UInt8) : (Lib.index l [c] = -1 ∧ c ∉ l) ∨ ∃ a b, l = a ++ c :: b ∧ c ∉ a ∧ Lib.index l [c] = (a.length : Int) := by
  induction l with
  | nil => exact .inl ⟨rfl, by simp⟩
  | cons x r ih =>
    rw [index1_cons]
    by_cases hx : c = x
    · subst hx
      exact .inr ⟨[], r, rfl, by simp, by simp⟩
    · rcases ih with ⟨h1, h2⟩ | ⟨a, b, h1, h2, h3⟩
      · left
        simp [hx, h1, h2]
      · right
        refine ⟨x :: a, b, by simp [h1], by simp [hx, h2], ?_⟩
        have : ¬ ((a.length : Int) = -1) := by omega
        simp [hx, h3, this]

theorem splitK_eq (c : UInt8) : ∀ (k : Nat) (l : List UInt8), l.count c ≤ k → Lib.splitK [c] 0 k l = splitOn1 c l := by
  intro k
  induction k with
  | zero =>
    intro l hk
    have : c ∉ l := fun hm => by have := List.count_pos_iff.2 hm; omega
    rw [splitOn1_none c l this]
    rfl
  | succ k ih =>
    intro l hk
    rw [Lib.splitK]
    rcases index1_spec c l with ⟨h1, h2⟩ | ⟨a, b, h1, h2, h3⟩
    · rw [splitOn1_none c l h2]
      simp [h1]
    · have hc : b.count c ≤ k := by
        rw [h1] at hk
        simp at hk
        have : a.count c = 0 := List.count_eq_zero.2 h2
        omega
      have hne : ¬ ((a.length : Int) == -1) = true := by simp
      rw [h3, if_neg hne]
      simp only [Int.toNat_natCast, Nat.add_zero, List.length_singleton]
      have e1 : l.take a.length = a := by rw [h1]; simp
      have e2 : l.drop (a.length + 1) = b := by
        rw [h1, List.drop_append]; simp
      rw [e1, e2, ih b hc, h1, splitOn1_hit c a b h2]

theorem splitOn1_length (c : UInt8) (l : List UInt8) : (splitOn1 c l).length = l.count c + 1 := by
  induction l with
  | nil => rfl
  | cons b r ih =>
    by_cases hb : b = c
    · simp [splitOn1, hb, ih]
    · have hb' : ¬ (b == c) = true := by simpa using hb
      rw [splitOn1, if_neg hb', List.count_cons_of_ne hb]
      cases hs : splitOn1 c r with
      | nil => exact absurd hs (splitOn1_ne c r)
      | cons h t => rw [hs] at ih; simpa using ih

theorem splitOn1_mem (c : UInt8) (l : List UInt8) : ∀ w ∈ splitOn1 c l, c ∉ w := by
  induction l with
  | nil => simp [splitOn1]
  | cons b r ih =>
    by_cases hb : b = c
    · intro w hw
      simp [splitOn1, hb] at hw
      rcases hw with rfl | hw
      · simp
      · exact ih w hw
    · have hb' : ¬ (b == c) = true := by simpa using hb
      intro w hw
      rw [splitOn1, if_neg hb'] at hw
      cases hs : splitOn1 c r with
      | nil => exact absurd hs (splitOn1_ne c r)
      | cons h t =>
        rw [hs] at hw ih
        simp at hw
        rcases hw with rfl | hw
        · have := ih h (by simp)
          simp [this]
          exact fun e => hb e.symm
        · exact ih w (by simp [hw])

/-- the pieces, joined by c again -/
def join1 (c : UInt8) : List (List UInt8) → List UInt8
  | [] => []
  | [a] => a
  | a :: r => a ++ c :: join1 c r

theorem join_split (c : UInt8) (l : List UInt8) : join1 c (splitOn1 c l) = l := by
  induction l with
  | nil => rfl
  | cons b r ih =>
    by_cases hb : b = c
    · subst hb
      simp only [splitOn1, beq_self_eq_true, if_true]
      cases hs : splitOn1 b r with
      | nil => exact absurd hs (splitOn1_ne b r)
      | cons h t => rw [hs] at ih; simp [join1, ih]
    · have hb' : ¬ (b == c) = true := by simpa using hb
      rw [splitOn1, if_neg hb']
      cases hs : splitOn1 c r with
      | nil => exact absurd hs (splitOn1_ne c r)
      | cons h t =>
        rw [hs] at ih
        cases t with
        | nil => simp [join1] at ih ⊢; exact ih
        | cons h2 t2 => simp [join1] at ih ⊢; exact ih

/-- the bytes of words -/
def wordByte (c : UInt8) : Bool := decide ((65 : Int) ≤ c.toNat ∧ (c.toNat : Int) ≤ 90) || decide ((97 : Int) ≤ c.toNat ∧ (c.toNat : Int) ≤ 122) || decide ((48 : Int) ≤ c.toNat ∧ (c.toNat : Int) ≤ 57) || [95, 43, 45, 35].contains c
def isWord (l : List UInt8) : Bool := l.all wordByte && decide (1 ≤ l.length) && decide (l.length ≤ 40)

theorem wordByte_dot : wordByte 46 = false := by decide
theorem wordByte_slash : wordByte 47 = false := by decide
theorem isWord_bounds {l : List UInt8} (h : isWord l = true) : (∀ c ∈ l, wordByte c = true) ∧ 1 ≤ l.length ∧ l.length ≤ 40 := by
  simp [isWord] at h
  exact ⟨h.1.1, h.1.2, h.2⟩
theorem dot_not_mem {l : List UInt8} (h : isWord l = true) : (46 : UInt8) ∉ l := fun hm => by
  have := (isWord_bounds h).1 46 hm
  rw [wordByte_dot] at this
  cases this

/-- the signs: 0 to 9, A to Z, a star -/
def signs : List UInt8 := [48, 49, 50, 51, 52, 53, 54, 55, 56, 57, 65, 66, 67, 68, 69, 70, 71, 72, 73, 74, 75, 76, 77, 78, 79, 80, 81, 82, 83, 84, 85, 86, 87, 88, 89, 90, 42]
/-- the sum, over all bytes, of the place of a byte, from k + 1 on, times the byte -/
def sumFrom : Nat → List UInt8 → Nat
  | _, [] => 0
  | k, b :: r => (k + 1) * b.toNat + sumFrom (k + 1) r
def signOf (l : List UInt8) : UInt8 := signs.getD (sumFrom 0 l % 37) 0

theorem sumFrom_append (l m : List UInt8) : ∀ k, sumFrom k (l ++ m) = sumFrom k l + sumFrom (k + l.length) m := by
  induction l with
  | nil => intro k; simp [sumFrom]
  | cons b r ih =>
    intro k
    simp only [List.cons_append, sumFrom, ih, List.length_cons]
    rw [show k + 1 + r.length = k + (r.length + 1) from by omega]
    omega
theorem sumFrom_take (l : List UInt8) (k : Nat) (h : k < l.length) : sumFrom 0 (l.take (k + 1)) = sumFrom 0 (l.take k) + (k + 1) * (l[k]).toNat := by
  rw [List.take_succ_eq_append_getElem h, sumFrom_append]
  simp [sumFrom]
  rw [Nat.min_eq_left (by omega)]
theorem sumFrom_le (l : List UInt8) : ∀ k, sumFrom k l ≤ (k + l.length) * 255 * l.length := by
  induction l with
  | nil => intro k; simp [sumFrom]
  | cons b r ih =>
    intro k
    have h1 := ih (k + 1)
    have hb : b.toNat ≤ 255 := by have := b.toNat_lt; omega
    simp only [sumFrom, List.length_cons]
    rw [show k + 1 + r.length = k + (r.length + 1) from by omega] at h1
    have h2 : (k + 1) * b.toNat ≤ (k + (r.length + 1)) * 255 := Nat.mul_le_mul (by omega) hb
    rw [Nat.mul_add, Nat.mul_one]
    omega

theorem signs_len : signs.length = 37 := rfl
theorem signs_inj : ∀ i j, i < 37 → j < 37 → signs.getD i 0 = signs.getD j 0 → i = j := by
  have h : ∀ i : Fin 37, ∀ j : Fin 37, signs.getD i 0 = signs.getD j 0 → i = j := by decide
  intro i j hi hj e
  have := h ⟨i, hi⟩ ⟨j, hj⟩ e
  exact Fin.mk.inj this
theorem sign_mem (l : List UInt8) : signOf l ∈ signs := by
  unfold signOf
  have hlt : sumFrom 0 l % 37 < signs.length := Nat.mod_lt _ (by decide)
  rw [List.getD_eq_getElem?_getD, List.getElem?_eq_getElem hlt]
  exact List.getElem_mem _
theorem signs_not_dot : (46 : UInt8) ∉ signs := by decide

/-- three digits -/
def three (n : Nat) : List UInt8 := [UInt8.ofNat (48 + n / 100 % 10), UInt8.ofNat (48 + n / 10 % 10), UInt8.ofNat (48 + n % 10)]
def isDigit (c : UInt8) : Bool := decide ((48 : Int) ≤ c.toNat) && decide ((c.toNat : Int) ≤ 57)
/-- three digits, read; none: they are none -/
def read3 (l : List UInt8) : Option Nat :=
  match l with
  | [a, b, c] => if isDigit a && isDigit b && isDigit c then some ((a.toNat - 48) * 100 + (b.toNat - 48) * 10 + (c.toNat - 48)) else none
  | _ => none

theorem digit_ofNat (d : Nat) (h : d < 10) : isDigit (UInt8.ofNat (48 + d)) = true ∧ (UInt8.ofNat (48 + d)).toNat = 48 + d := by
  have : (UInt8.ofNat (48 + d)).toNat = 48 + d := by
    rw [UInt8.toNat_ofNat']
    omega
  refine ⟨?_, this⟩
  simp [isDigit]
  omega
theorem read_three (n : Nat) (h : n ≤ 999) : read3 (three n) = some n := by
  obtain ⟨a1, a2⟩ := digit_ofNat (n / 100 % 10) (by omega)
  obtain ⟨b1, b2⟩ := digit_ofNat (n / 10 % 10) (by omega)
  obtain ⟨c1, c2⟩ := digit_ofNat (n % 10) (by omega)
  simp only [three, read3, a1, b1, c1, a2, b2, c2, Bool.and_self, if_true]
  congr 1
  omega
theorem digit_val {c : UInt8} (h : isDigit c = true) : 48 ≤ c.toNat ∧ c.toNat ≤ 57 := by
  simp [isDigit] at h
  omega
theorem three_read {l : List UInt8} {n : Nat} (h : read3 l = some n) : l = three n ∧ n ≤ 999 := by
  unfold read3 at h
  split at h
  · rename_i a b c
    split at h
    · rename_i hd
      simp only [Bool.and_eq_true] at hd
      have ha := digit_val hd.1.1
      have hb := digit_val hd.1.2
      have hc := digit_val hd.2
      have hn : (a.toNat - 48) * 100 + (b.toNat - 48) * 10 + (c.toNat - 48) = n := Option.some.inj h
      refine ⟨?_, by omega⟩
      have e (x : UInt8) (m : Nat) (hx : x.toNat = 48 + m) (hm : m < 10) : x = UInt8.ofNat (48 + m) := by
        apply UInt8.toNat_inj.1
        rw [(digit_ofNat m hm).2, hx]
      unfold three
      rw [← e a (n / 100 % 10) (by omega) (by omega), ← e b (n / 10 % 10) (by omega) (by omega), ← e c (n % 10) (by omega) (by omega)]
    · cases h
  · cases h
theorem digit_not_dot {c : UInt8} (h : isDigit c = true) : c ≠ 46 := fun e => by subst e; exact absurd h (by decide)
theorem dot_three (n : Nat) : (46 : UInt8) ∉ three n := by
  intro hm
  simp only [three, List.mem_cons, List.not_mem_nil, or_false] at hm
  rcases hm with h | h | h
  · exact digit_not_dot (digit_ofNat (n / 100 % 10) (by omega)).1 h.symm
  · exact digit_not_dot (digit_ofNat (n / 10 % 10) (by omega)).1 h.symm
  · exact digit_not_dot (digit_ofNat (n % 10) (by omega)).1 h.symm

/-- what stands before the last dot -/
def front (lot p s : List UInt8) : List UInt8 := lot ++ 46 :: (p ++ 46 :: s)
def serial (lot : List UInt8) (p s : Nat) : List UInt8 := front lot (three p) (three s) ++ [46, signOf (front lot (three p) (three s))]

/-- Serial: text and fault -/
def Serial (lot : List UInt8) (p s : Int) : List UInt8 × Int :=
  if isWord lot = true then (if 0 ≤ p ∧ p ≤ 999 ∧ 0 ≤ s ∧ s ≤ 999 then (serial lot p.toNat s.toNat, 0) else ([], 1)) else ([], 5)

/-- ReadSerial: lot, panel, slot, fault -/
def readParts (w : List (List UInt8)) : List UInt8 × Int × Int × Int :=
  match w with
  | [a, b, c, d] =>
    if isWord a = true ∧ d.length = 1 ∧ d.getD 0 0 ∈ signs then
      match read3 b, read3 c with
      | some p, some s => if d.getD 0 0 = signOf (front a b c) then (a, p, s, 0) else ([], 0, 0, 15)
      | _, _ => ([], 0, 0, 10)
    else ([], 0, 0, 10)
  | _ => ([], 0, 0, 10)
def ReadSerial (text : List UInt8) : List UInt8 × Int × Int × Int := readParts (splitOn1 46 text)

theorem split_four {a b c d : List UInt8} (ha : 46 ∉ a) (hb : 46 ∉ b) (hc : 46 ∉ c) (hd : 46 ∉ d) : splitOn1 46 (front a b c ++ 46 :: d) = [a, b, c, d] := by
  unfold front
  rw [show (a ++ 46 :: (b ++ 46 :: c)) ++ 46 :: d = a ++ 46 :: (b ++ 46 :: (c ++ 46 :: d)) from by simp]
  rw [splitOn1_hit _ _ _ ha, splitOn1_hit _ _ _ hb, splitOn1_hit _ _ _ hc, splitOn1_none _ _ hd]

/-- what is written is read as what it was made of -/
theorem read_serial {lot : List UInt8} {p s : Nat} (hw : isWord lot = true) (hp : p ≤ 999) (hs : s ≤ 999) : ReadSerial (serial lot p s) = (lot, (p : Int), (s : Int), 0) := by
  unfold ReadSerial serial
  rw [split_four (dot_not_mem hw) (dot_three p) (dot_three s) (d := [signOf (front lot (three p) (three s))])
    (by simp; exact fun e => signs_not_dot (by rw [e]; exact sign_mem _))]
  simp [readParts, hw, read_three _ hp, read_three _ hs, sign_mem]
/-- what is read is made of this -/
theorem serial_read {text a : List UInt8} {p s : Int} (h : ReadSerial text = (a, p, s, 0)) : Serial a p s = (text, 0) := by
  unfold ReadSerial at h
  have hj := join_split 46 text
  revert h hj
  generalize splitOn1 46 text = w
  intro h hj
  unfold readParts at h
  split at h
  · rename_i x b c d
    split at h
    · rename_i hx
      split at h
      · rename_i P S hP hS
        split at h
        · rename_i hd
          simp only [Prod.mk.injEq] at h
          obtain ⟨rfl, rfl, rfl, _⟩ := h
          obtain ⟨rfl, h1⟩ := three_read hP
          obtain ⟨rfl, h2⟩ := three_read hS
          unfold Serial
          rw [if_pos hx.1, if_pos (by omega)]
          simp only [Int.toNat_natCast, Prod.mk.injEq, and_true]
          rw [← hj]
          match d, hx.2.1 with
          | [e], _ =>
            simp only [List.getD_cons_zero] at hd
            subst hd
            simp [join1, serial, front]
        · simp at h
      · simp at h
    · simp at h
  · simp at h
theorem read_fault {text : List UInt8} (h : (ReadSerial text).2.2.2 ≠ 0) : (ReadSerial text).1 = [] ∧ (ReadSerial text).2.1 = 0 ∧ (ReadSerial text).2.2.1 = 0 := by
  unfold ReadSerial at h ⊢
  unfold readParts at h ⊢
  split <;> try simp
  split <;> try simp
  split <;> try simp
  split <;> try simp
  simp_all

theorem sum_set (d : UInt8) : ∀ (l : List UInt8) (k j : Nat) (h : k < l.length), sumFrom j (l.set k d) + (j + k + 1) * (l[k]).toNat = sumFrom j l + (j + k + 1) * d.toNat := by
  intro l
  induction l with
  | nil => intro k j h; simp at h
  | cons b r ih =>
    intro k j h
    cases k with
    | zero => simp only [List.set_cons_zero, sumFrom, List.getElem_cons_zero, Nat.add_zero]; omega
    | succ k =>
      have := ih k (j + 1) (by simpa using h)
      simp only [List.set_cons_succ, sumFrom, List.getElem_cons_succ]
      rw [show j + 1 + k + 1 = j + (k + 1) + 1 from by omega] at this
      omega
theorem no_mult : ∀ i : Fin 37, ∀ j : Fin 10, i.val ≠ 0 → j.val ≠ 0 → (i.val * j.val) % 37 ≠ 0 := by decide
theorem sign_set {l : List UInt8} {k : Nat} {d : UInt8} (h : k < l.length) (hk : k < 36) (hd : isDigit d = true) (hl : isDigit (l[k]) = true) (hne : l[k] ≠ d) : signOf (l.set k d) ≠ signOf l := by
  intro e
  have e2 := signs_inj _ _ (Nat.mod_lt _ (by decide)) (Nat.mod_lt _ (by decide)) e
  have hs := sum_set d l k 0 h
  have v1 := digit_val hd
  have v2 := digit_val hl
  have hn : (l[k]).toNat ≠ d.toNat := fun e => hne (UInt8.toNat_inj.1 e)
  simp only [Nat.zero_add] at hs
  rcases Nat.lt_or_gt_of_ne hn with hlt | hgt
  · have hm := no_mult ⟨k + 1, by omega⟩ ⟨d.toNat - (l[k]).toNat, by omega⟩ (by simp) (by simp; omega)
    have : (k + 1) * d.toNat = (k + 1) * (d.toNat - (l[k]).toNat) + (k + 1) * (l[k]).toNat := by rw [← Nat.mul_add, Nat.sub_add_cancel (by omega)]
    simp only at hm
    omega
  · have hm := no_mult ⟨k + 1, by omega⟩ ⟨(l[k]).toNat - d.toNat, by omega⟩ (by simp) (by simp; omega)
    have : (k + 1) * (l[k]).toNat = (k + 1) * ((l[k]).toNat - d.toNat) + (k + 1) * d.toNat := by rw [← Nat.mul_add, Nat.sub_add_cancel (by omega)]
    simp only at hm
    omega
theorem three_digits (n : Nat) : ∃ a b c, three n = [a, b, c] ∧ isDigit a = true ∧ isDigit b = true ∧ isDigit c = true :=
  ⟨_, _, _, rfl, (digit_ofNat (n / 100 % 10) (by omega)).1, (digit_ofNat (n / 10 % 10) (by omega)).1, (digit_ofNat (n % 10) (by omega)).1⟩
theorem read3_digits {a b c : UInt8} (ha : isDigit a = true) (hb : isDigit b = true) (hc : isDigit c = true) : ∃ n, read3 [a, b, c] = some n := ⟨_, by simp [read3, ha, hb, hc]; rfl⟩
theorem dot3 {a b c : UInt8} (ha : isDigit a = true) (hb : isDigit b = true) (hc : isDigit c = true) : (46 : UInt8) ∉ [a, b, c] := by
  intro hm
  simp only [List.mem_cons, List.not_mem_nil, or_false] at hm
  rcases hm with h | h | h
  · exact digit_not_dot ha h.symm
  · exact digit_not_dot hb h.symm
  · exact digit_not_dot hc h.symm
/-- a text of the form, but with the sign of another front, is damaged -/
theorem read_damaged {lot : List UInt8} {a b c x y z g : UInt8} (hw : isWord lot = true) (ha : isDigit a = true) (hb : isDigit b = true) (hc : isDigit c = true) (hx : isDigit x = true) (hy : isDigit y = true) (hz : isDigit z = true)
    (hg : g ∈ signs) (hne : signOf (front lot [a, b, c] [x, y, z]) ≠ g) : ReadSerial (front lot [a, b, c] [x, y, z] ++ [46, g]) = ([], 0, 0, 15) := by
  unfold ReadSerial
  rw [split_four (dot_not_mem hw) (dot3 ha hb hc) (dot3 hx hy hz) (d := [g]) (by simp; exact fun e => signs_not_dot (by rw [e]; exact hg))]
  obtain ⟨m, hm⟩ := read3_digits ha hb hc
  obtain ⟨n, hn⟩ := read3_digits hx hy hz
  simp [readParts, hw, hg, hm, hn]
  exact fun e => hne e.symm

theorem front_len (lot p s : List UInt8) : (front lot p s).length = lot.length + p.length + s.length + 2 := by simp [front]; omega
theorem find_digits {lot : List UInt8} {p s k : Nat} {d : UInt8} (hw : isWord lot = true) (hd : isDigit d = true) (h1 : lot.length + 1 ≤ k) (h2 : k ≤ lot.length + 7) (h3 : k ≠ lot.length + 4) (h4 : k < 36)
    (hne : (serial lot p s)[k]? ≠ some d) : ReadSerial ((serial lot p s).take k ++ d :: (serial lot p s).drop (k + 1)) = ([], 0, 0, 15) := by
  obtain ⟨a, b, c, hP, ha, hb, hc⟩ := three_digits p
  obtain ⟨x, y, z, hS, hx, hy, hz⟩ := three_digits s
  unfold serial at hne ⊢
  rw [hP, hS] at hne ⊢
  have hlen := front_len lot [a, b, c] [x, y, z]
  simp only [List.length_cons, List.length_nil] at hlen
  have hset : ∀ T : List UInt8, k < T.length → T.take k ++ d :: T.drop (k + 1) = T.set k d := fun T h => by rw [List.set_eq_take_append_cons_drop, if_pos h]
  rw [hset _ (by simp; omega), List.set_append, if_pos (by omega)]
  rw [List.getElem?_append_left (by omega), List.getElem?_eq_getElem (by omega)] at hne
  have hn2 : (front lot [a, b, c] [x, y, z])[k]'(by omega) ≠ d := fun e => hne (by rw [e])
  have hdig : isDigit ((front lot [a, b, c] [x, y, z])[k]'(by omega)) = true := by
    obtain ⟨j, rfl⟩ : ∃ j, k = lot.length + j := ⟨k - lot.length, by omega⟩
    have : (front lot [a, b, c] [x, y, z])[lot.length + j]? = (46 :: ([a, b, c] ++ 46 :: [x, y, z]))[j]? := by
      unfold front
      rw [List.getElem?_append_right (by omega)]
      congr 1
      omega
    rw [List.getElem?_eq_getElem (by omega)] at this
    have hj : j = 1 ∨ j = 2 ∨ j = 3 ∨ j = 5 ∨ j = 6 ∨ j = 7 := by omega
    rcases hj with rfl | rfl | rfl | rfl | rfl | rfl <;> simp at this <;> rw [this] <;> assumption
  have hs := sign_set (by omega) h4 hd hdig hn2
  obtain ⟨j, rfl⟩ : ∃ j, k = lot.length + j := ⟨k - lot.length, by omega⟩
  have hf : (front lot [a, b, c] [x, y, z]).set (lot.length + j) d = lot ++ (46 :: ([a, b, c] ++ 46 :: [x, y, z])).set j d := by
    unfold front
    rw [List.set_append, if_neg (by omega)]
    congr 2
    omega
  have hg := sign_mem (front lot [a, b, c] [x, y, z])
  rw [hf] at hs ⊢
  have hj : j = 1 ∨ j = 2 ∨ j = 3 ∨ j = 5 ∨ j = 6 ∨ j = 7 := by omega
  rcases hj with rfl | rfl | rfl | rfl | rfl | rfl
  · exact read_damaged (a := d) hw hd hb hc hx hy hz hg hs
  · exact read_damaged (b := d) hw ha hd hc hx hy hz hg hs
  · exact read_damaged (c := d) hw ha hb hd hx hy hz hg hs
  · exact read_damaged (x := d) hw ha hb hc hd hy hz hg hs
  · exact read_damaged (y := d) hw ha hb hc hx hd hz hg hs
  · exact read_damaged (z := d) hw ha hb hc hx hy hd hg hs
end Go.Proofs.YtneggmggiepnoaaDoor.Plain
