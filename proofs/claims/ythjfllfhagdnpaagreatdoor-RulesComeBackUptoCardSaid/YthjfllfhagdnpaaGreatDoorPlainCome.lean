/- Numbers and pieces written are read again, and what is read is written so. No program in sight. -/
import Derived.Test.YthjfllfhagdnpaaGreatDoorPlainNum
import Derived.Lib.SplitLaws
import Derived.Lib.IndexMore
set_option linter.unusedSimpArgs false
set_option linter.unusedVariables false
namespace Go.Proofs.YthjfllfhagdnpaaGreatDoor.Num
open Go

def toB (l : List UInt8) : ByteArray := ⟨l.toArray⟩
theorem toB_list (l : List UInt8) : (toB l).data.toList = l := rfl
theorem of_toB (s : ByteArray) : s = toB s.data.toList := by cases s; rfl
theorem decFrom_app : ∀ (a b : List UInt8) (n m : Nat), Lib.decFrom n a = some m → Lib.decFrom n (a ++ b) = Lib.decFrom m b
  | [], b, n, m, h => by cases h; rfl
  | c :: a, b, n, m, h => by
    unfold Lib.decFrom at h
    rw [List.cons_append]
    cases hd : Lib.digitVal c with
    | none => rw [hd] at h; cases h
    | some d =>
      rw [hd] at h
      show (match Lib.digitVal c with | some d => Lib.decFrom _ _ | none => none) = _
      rw [hd]
      exact decFrom_app a b _ m h
theorem digit_of {d : Nat} (h : d < 10) : Lib.digitVal (UInt8.ofNat (48 + d)) = some d ∧ digB (UInt8.ofNat (48 + d)) = true := by
  have all : ∀ d : Fin 10, Lib.digitVal (UInt8.ofNat (48 + d.val)) = some d.val ∧ digB (UInt8.ofNat (48 + d.val)) = true := by decide +kernel
  exact all ⟨d, h⟩
theorem digit_back {c : UInt8} (h : digB c = true) : ∃ d, d < 10 ∧ c = UInt8.ofNat (48 + d) := by
  have all : ∀ c : Fin 256, digB (UInt8.ofNat c) = true → ∃ d ∈ List.range 10, UInt8.ofNat c = UInt8.ofNat (48 + d) := by decide +kernel
  obtain ⟨d, hd, e⟩ := all ⟨c.toNat, c.toNat_lt⟩ (by simpa using h)
  exact ⟨d, List.mem_range.1 hd, by simpa using e⟩
theorem dec_back (u : Nat) : Lib.decFrom 0 (Lib.decDigits u) = some u := by
  induction u using Nat.strongRecOn with
  | ind u ih =>
    by_cases h : u < 10
    · rw [Lib.decDigits_one h]
      unfold Lib.decFrom
      rw [(digit_of h).1]
      simp [Lib.decFrom]
    · rw [Lib.decDigits, dif_neg h, decFrom_app _ _ 0 (u / 10) (ih (u / 10) (by omega))]
      unfold Lib.decFrom
      rw [(digit_of (Nat.mod_lt u (by omega))).1]
      simp [Lib.decFrom]
      omega
theorem dec_digs (u : Nat) : (Lib.decDigits u).all digB = true := by
  induction u using Nat.strongRecOn with
  | ind u ih =>
    by_cases h : u < 10
    · rw [Lib.decDigits_one h, List.all_cons, (digit_of h).2]; rfl
    · rw [Lib.decDigits, dif_neg h, List.all_append, ih (u / 10) (by omega), List.all_cons, (digit_of (Nat.mod_lt u (by omega : 10 > 0))).2]; rfl
theorem dec_head (u : Nat) (hu : 1 ≤ u) : ∃ c r, Lib.decDigits u = c :: r ∧ c ≠ 48 := by
  induction u using Nat.strongRecOn with
  | ind u ih =>
    by_cases h : u < 10
    · refine ⟨_, [], Lib.decDigits_one h, ?_⟩
      have all : ∀ d : Fin 10, 1 ≤ d.val → UInt8.ofNat (48 + d.val) ≠ 48 := by decide +kernel
      exact all ⟨u, h⟩ hu
    · obtain ⟨c, r, e, hc⟩ := ih (u / 10) (by omega) (by omega)
      rw [Lib.decDigits, dif_neg h, e]
      exact ⟨c, _, rfl, hc⟩
theorem dec_len (k : Nat) : ∀ u, u < 10 ^ (k + 1) → 1 ≤ (Lib.decDigits u).length ∧ (Lib.decDigits u).length ≤ k + 1 := by
  induction k with
  | zero =>
    intro u h
    rw [Lib.decDigits_one (by simpa using h)]
    simp
  | succ k ih =>
    intro u h
    by_cases h1 : u < 10
    · rw [Lib.decDigits_one h1]; simp
    · have := ih (u / 10) (by
        rw [Nat.pow_succ] at h
        omega)
      rw [Lib.decDigits, dif_neg h1, List.length_append]
      simp
      omega
/-- digits without a zero ahead are those of their number -/
theorem dec_of : ∀ (n : Nat) (l : List UInt8), l.length = n + 1 → l.all digB = true → l.head? ≠ some 48 → ∃ v, Lib.decFrom 0 l = some v ∧ 1 ≤ v ∧ Lib.decDigits v = l := by
  intro n
  induction n with
  | zero =>
    intro l hl hd hh
    obtain ⟨c, rfl⟩ : ∃ c, l = [c] := by
      match l, hl with
      | [c], _ => exact ⟨c, rfl⟩
    obtain ⟨d, h1, rfl⟩ := digit_back (c := c) (by simpa using hd)
    refine ⟨d, ?_, ?_, Lib.decDigits_one h1⟩
    · unfold Lib.decFrom
      rw [(digit_of h1).1]
      simp [Lib.decFrom]
    · cases d with
      | zero => exact absurd rfl hh
      | succ d => omega
  | succ n ih =>
    intro l hl hd hh
    have hne : l ≠ [] := fun e => by rw [e] at hl; cases hl
    obtain ⟨m, c, rfl⟩ : ∃ m c, l = m ++ [c] := ⟨l.dropLast, l.getLast hne, (List.dropLast_concat_getLast hne).symm⟩
    simp only [List.length_append, List.length_cons, List.length_nil, Nat.add_right_cancel_iff] at hl
    simp only [List.all_append, Bool.and_eq_true, List.all_cons, List.all_nil, Bool.and_true] at hd
    have hh' : m.head? ≠ some 48 := by
      cases m with
      | nil => cases hl
      | cons a m => exact hh
    obtain ⟨v, h1, h2, h3⟩ := ih m hl hd.1 hh'
    obtain ⟨d, h4, rfl⟩ := digit_back hd.2
    refine ⟨v * 10 + d, ?_, by omega, ?_⟩
    · rw [decFrom_app _ _ 0 v h1]
      unfold Lib.decFrom
      rw [(digit_of h4).1]
      simp [Lib.decFrom]
    · rw [Lib.decDigits, dif_neg (by omega)]
      have e1 : (v * 10 + d) / 10 = v := by omega
      have e2 : (v * 10 + d) % 10 = d := by omega
      rw [e1, e2, h3]
theorem dl_neg (l : List UInt8) : mnB (toB (45 :: l)) = true ∧ dl (toB (45 :: l)) = l := by
  refine ⟨rfl, ?_⟩
  unfold dl
  rw [toB_list]
  unfold Lib.trimPrefix Lib.hasPrefix
  rw [if_pos (by simp)]
  rfl
theorem dl_pos {l : List UInt8} (h : l.head? ≠ some 45) : mnB (toB l) = false ∧ dl (toB l) = l := by
  have hm : mnB (toB l) = false := by
    unfold mnB
    rw [toB_list]
    cases l with
    | nil => rfl
    | cons a r =>
      simp only
      rw [Bool.eq_false_iff]
      intro e
      exact h (by simp only [List.head?_cons]; congr 1; simpa using e)
  exact ⟨hm, by rw [dl_plain hm, toB_list]⟩
theorem dig_not45 {c : UInt8} (h : digB c = true) : c ≠ 45 := by
  rintro rfl; revert h; decide
theorem decNat_of {l : List UInt8} {v : Nat} (h : Lib.decFrom 0 l = some v) (hl : 1 ≤ l.length) : Lib.decNat l = some v := by
  unfold Lib.decNat
  cases l with
  | nil => cases hl
  | cons a r => exact h
theorem atoi_neg (l : List UInt8) : Lib.atoi (45 :: l) = (Lib.decNat l).map fun (m : Nat) => -(m : Int) := by
  unfold Lib.atoi
  simp
/-- a number written is read again -/
theorem num_itoa (n : Int) (h1 : -999999999 ≤ n) (h2 : n ≤ 999999999) : numB (toB (Lib.itoa n)) = true ∧ numV (toB (Lib.itoa n)) = n := by
  by_cases hn : n < 0
  · have e : Lib.itoa n = 45 :: Lib.decDigits n.natAbs := by rw [Lib.itoa, if_pos hn]
    obtain ⟨q1, q2⟩ := dl_neg (Lib.decDigits n.natAbs)
    obtain ⟨l1, l2⟩ := dec_len 8 n.natAbs (by omega)
    obtain ⟨c, r, h3, h4⟩ := dec_head n.natAbs (by omega)
    rw [e]
    refine ⟨?_, ?_⟩
    · rw [numB, q1, q2, dec_digs]
      have : ((Lib.decDigits n.natAbs).head? == some 48) = false := by
        rw [h3]
        simp [h4]
      rw [this]
      simp [l1]; omega
    · rw [numV, toB_list, atoi_neg, decNat_of (dec_back n.natAbs) l1]
      simp
      omega
  · have e : Lib.itoa n = Lib.decDigits n.toNat := by rw [Lib.itoa, if_neg hn]
    obtain ⟨l1, l2⟩ := dec_len 8 n.toNat (by omega)
    have hd := dec_digs n.toNat
    have hb := dec_back n.toNat
    have hz : n.toNat = 0 ∨ ∃ c r, Lib.decDigits n.toNat = c :: r ∧ c ≠ 48 := by
      by_cases h0 : n.toNat = 0
      · exact .inl h0
      · exact .inr (dec_head _ (by omega))
    have hone : n.toNat = 0 → Lib.decDigits n.toNat = [48] := fun h => by rw [h, Lib.decDigits_one (by omega)]; rfl
    rw [e]
    have hv : ((n.toNat : Nat) : Int) = n := by omega
    generalize Lib.decDigits n.toNat = l at l1 l2 hd hb hz hone
    obtain ⟨c, r, rfl⟩ : ∃ c r, l = c :: r := by
      cases l with
      | nil => cases l1
      | cons c r => exact ⟨c, r, rfl⟩
    have hc : digB c = true := by simp only [List.all_cons, Bool.and_eq_true] at hd; exact hd.1
    obtain ⟨q1, q2⟩ := dl_pos (l := c :: r) (by simp only [List.head?_cons]; intro h; injection h with h; exact dig_not45 hc h)
    refine ⟨?_, ?_⟩
    · rw [numB, q1, q2, hd]
      rcases hz with h0 | ⟨c', r', h3, h4⟩
      · have := hone h0
        injection this with t1 t2
        subst t1 t2
        decide
      · injection h3 with t1 t2
        subst t1
        have : ((c :: r).head? == some 48) = false := by simp [h4]
        rw [this]
        simp; simp at l2; omega
    · rw [numV, toB_list]
      unfold Lib.atoi
      have n45 : (c == 45) = false := by
        rw [Bool.eq_false_iff]; intro h; exact dig_not45 hc (by simpa using h)
      have n43 : (c == 43) = false := by
        rw [Bool.eq_false_iff]; intro h
        have : c = 43 := by simpa using h
        subst this; revert hc; decide
      simp only [n45, n43, Bool.false_eq_true, if_false]
      rw [decNat_of hb l1]
      simpa using hv
/-- a number read is written so -/
theorem itoa_num {s : ByteArray} (h : numB s = true) : toB (Lib.itoa (numV s)) = s := by
  have ha := (atoi_of h).1
  simp only [numB, Bool.and_eq_true, decide_eq_true_eq] at h
  obtain ⟨⟨h1, h2⟩, h3, h4⟩ := h
  have h4 : ¬ ((dl s).head? = some 48 ∧ (1 < (dl s).length ∨ mnB s = true)) := fun ⟨p, q⟩ => by
    rw [p] at h4
    rcases q with q | q
    · simp [q] at h4
    · simp [q] at h4
  obtain ⟨m, hm⟩ : ∃ m, (dl s).length = m + 1 := ⟨(dl s).length - 1, by omega⟩
  cases hmn : mnB s with
  | true =>
    have e := dl_minus hmn
    have hh : (dl s).head? ≠ some 48 := fun p => h4 ⟨p, .inr hmn⟩
    obtain ⟨v, v1, v2, v3⟩ := dec_of m (dl s) hm h3 hh
    rw [e, atoi_neg, decNat_of v1 h1] at ha
    have hv : numV s = -(v : Int) := by simpa using ha.symm
    rw [hv, Lib.itoa, if_pos (by omega), show (-(v : Int)).natAbs = v by omega, v3, ← e]
    exact (of_toB s).symm
  | false =>
    have e := dl_plain hmn
    rw [← e] at ha
    by_cases hz : (dl s).head? = some 48
    · have hl : (dl s).length = 1 := by
        by_cases q : 1 < (dl s).length
        · exact absurd ⟨hz, .inl q⟩ h4
        · omega
      have el : dl s = [48] := by
        match hd : dl s, hl, hz with
        | [a], _, hz => injection hz with hz; rw [hz]
      rw [el] at ha
      have hv : numV s = 0 := by
        have : Lib.atoi [48] = some 0 := by decide
        rw [this] at ha
        injection ha with ha
        exact ha.symm
      rw [hv, of_toB s, ← e, el]
      show toB (Lib.itoa 0) = toB [48]
      rw [Lib.itoa, if_neg (by omega), show (0 : Int).toNat = 0 from rfl, Lib.decDigits_one (by omega)]
      rfl
    · obtain ⟨v, v1, v2, v3⟩ := dec_of m (dl s) hm h3 hz
      have hv : numV s = (v : Int) := by
        cases hd : dl s with
        | nil => rw [hd] at h1; cases h1
        | cons c r =>
          rw [hd] at ha v1 h3 h1
          have hc : digB c = true := by simp only [List.all_cons, Bool.and_eq_true] at h3; exact h3.1
          unfold Lib.atoi at ha
          have n45 : (c == 45) = false := by
            rw [Bool.eq_false_iff]; intro h; exact dig_not45 hc (by simpa using h)
          have n43 : (c == 43) = false := by
            rw [Bool.eq_false_iff]; intro h
            have : c = 43 := by simpa using h
            subst this; revert hc; decide
          simp only [n45, n43, Bool.false_eq_true, if_false] at ha
          rw [decNat_of v1 h1] at ha
          simpa using ha.symm
      rw [hv, Lib.itoa, if_neg (by omega), show ((v : Nat) : Int).toNat = v by omega, v3, e]
      exact (of_toB s).symm
/-! Pieces and lines. -/
theorem index_no (c : UInt8) : ∀ (l : List UInt8), c ∉ l → Lib.index l [c] = -1
  | [], _ => rfl
  | b :: l, h => by
    have hb : ¬ c = b := fun e => h (by simp [e])
    have hl : c ∉ l := fun e => h (by simp [e])
    unfold Lib.index
    rw [index_no c l hl]
    simp [List.isPrefixOf, hb]
theorem index_at (c : UInt8) : ∀ (a r : List UInt8), c ∉ a → Lib.index (a ++ c :: r) [c] = (a.length : Int)
  | [], r, _ => by
    show Lib.index (c :: r) [c] = 0
    unfold Lib.index
    simp [List.isPrefixOf]
  | b :: a, r, h => by
    have hb : ¬ c = b := fun e => h (by simp [e])
    have hl : c ∉ a := fun e => h (by simp [e])
    show Lib.index (b :: (a ++ c :: r)) [c] = _
    unfold Lib.index
    rw [index_at c a r hl]
    have h1 : ((a.length : Int) == -1) = false := by
      rw [Bool.eq_false_iff]; intro e
      have : (a.length : Int) = -1 := by simp at e
      omega
    simp [List.isPrefixOf, hb, h1]
def sepB (c : UInt8) : ByteArray := ⟨#[c]⟩
def pieces (c : UInt8) (s : ByteArray) : List ByteArray := Lib.splitB (sepB c) 0 (Lib.countB s (sepB c)) s
theorem ext_L {a b : ByteArray} (h : a.data.toList = b.data.toList) : a = b := by
  cases a; cases b
  congr 1
  exact Array.ext' h
theorem pieces_one {c : UInt8} {l : List UInt8} (h : c ∉ l) : pieces c (toB l) = [toB l] := by
  have hi : Lib.indexB (toB l) (sepB c) = -1 := index_no c l h
  rw [pieces, Lib.countB_miss _ _ hi, Lib.splitB_zero]
theorem pieces_cons {c : UInt8} {a : List UInt8} (r : List UInt8) (h : c ∉ a) : pieces c (toB (a ++ c :: r)) = toB a :: pieces c (toB r) := by
  have hi : Lib.indexB (toB (a ++ c :: r)) (sepB c) = (a.length : Int) := index_at c a r h
  have hsz : (toB (a ++ c :: r)).size = (a ++ c :: r).length := by simp [toB, ByteArray.size]
  have e1 : (toB (a ++ c :: r)).extract (a.length + (sepB c).size) (toB (a ++ c :: r)).size = toB r := by
    apply ext_L
    rw [hsz]
    show ((toB (a ++ c :: r)).extract (a.length + 1) (a ++ c :: r).length).data.toList = r
    simp [toB]
    rw [List.take_of_length_le (by omega)]
  have e2 : (toB (a ++ c :: r)).extract 0 (a.length + 0) = toB a := by
    apply ext_L
    simp [toB]
  have hc := Lib.countB_hit (toB (a ++ c :: r)) (sepB c) a.length (Nat.le_refl _) hi
  rw [e1] at hc
  rw [pieces, hc, Nat.add_comm 1, Lib.splitB_hit _ _ _ _ a.length hi, e1, e2]
  rfl
def joinC (c : UInt8) : List (List UInt8) → List UInt8
  | [] => []
  | w :: ws => w ++ ws.flatMap fun s => c :: s
theorem joinC_cons (c : UInt8) (w v : List UInt8) (ws : List (List UInt8)) : joinC c (w :: v :: ws) = w ++ c :: joinC c (v :: ws) := by simp [joinC]
theorem pieces_join (c : UInt8) : ∀ (ws : List (List UInt8)), ws ≠ [] → (∀ w ∈ ws, c ∉ w) → pieces c (toB (joinC c ws)) = ws.map toB
  | [], h, _ => absurd rfl h
  | [w], _, h => by
    have : joinC c [w] = w := by simp [joinC]
    rw [this, pieces_one (h w (by simp))]
    rfl
  | w :: v :: ws, _, h => by
    rw [joinC_cons, pieces_cons _ (h w (by simp)), pieces_join c (v :: ws) (by simp) (fun x hx => h x (by simp at hx ⊢; exact .inr hx))]
    rfl
theorem first_at (c : UInt8) : ∀ (l : List UInt8), c ∈ l → ∃ a r, l = a ++ c :: r ∧ c ∉ a
  | [], h => by cases h
  | b :: l, h => by
    by_cases e : b = c
    · exact ⟨[], l, by rw [e]; rfl, by simp⟩
    · have hl : c ∈ l := by
        rcases List.mem_cons.1 h with h | h
        · exact absurd h.symm e
        · exact h
      obtain ⟨a, r, rfl, ha⟩ := first_at c l hl
      exact ⟨b :: a, r, rfl, by simp; exact ⟨fun h => e h.symm, ha⟩⟩
theorem join_pieces (c : UInt8) : ∀ (n : Nat) (l : List UInt8), l.length ≤ n → pieces c (toB l) ≠ [] ∧ joinC c ((pieces c (toB l)).map (·.data.toList)) = l := by
  intro n
  induction n with
  | zero =>
    intro l hl
    have : l = [] := List.eq_nil_of_length_eq_zero (by omega)
    subst this
    rw [pieces_one (by simp)]
    exact ⟨by simp, rfl⟩
  | succ n ih =>
    intro l hl
    by_cases h : c ∈ l
    · obtain ⟨a, r, rfl, ha⟩ := first_at c l h
      obtain ⟨h1, h2⟩ := ih r (by simp at hl; omega)
      rw [pieces_cons r ha]
      refine ⟨by simp, ?_⟩
      generalize pieces c (toB r) = ps at h1 h2
      cases ps with
      | nil => exact absurd rfl h1
      | cons p ps =>
        rw [List.map_cons, List.map_cons, joinC_cons]
        rw [List.map_cons] at h2
        rw [h2, toB_list]
    · rw [pieces_one h]
      exact ⟨by simp, by simp [joinC, toB_list]⟩
theorem cut_hit {a : List UInt8} (r : List UInt8) (h : (10 : UInt8) ∉ a) : Lib.cut (a ++ 10 :: r) [10] = (a, r, true) := by
  unfold Lib.cut
  rw [index_at 10 a r h, if_pos (by omega)]
  simp
theorem cut_back {l : List UInt8} (h : (Lib.cut l [10]).2.2 = true) : l = (Lib.cut l [10]).1 ++ 10 :: (Lib.cut l [10]).2.1 := by
  by_cases hm : (10 : UInt8) ∈ l
  · obtain ⟨a, r, rfl, ha⟩ := first_at 10 l hm
    rw [cut_hit r ha]
  · exfalso
    unfold Lib.cut at h
    rw [index_no 10 l hm] at h
    simp at h
end Go.Proofs.YthjfllfhagdnpaaGreatDoor.Num
