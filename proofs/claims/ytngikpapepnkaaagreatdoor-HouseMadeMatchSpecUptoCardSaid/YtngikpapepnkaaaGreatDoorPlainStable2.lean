/- Plain law: a list sorted stably; what insertions, rotations and merges leave. -/
import Derived.Test.YtngikpapepnkaaaGreatDoorPlainStable
set_option linter.unusedSimpArgs false
set_option linter.unusedVariables false
namespace Go.Proofs.YtngikpapepnkaaaGreatDoor.Reg

/-- put behind the last that is not greater -/
def insL {α : Type} (le : α → α → Bool) (x : α) (l : List α) : List α := l.takeWhile (le · x) ++ x :: l.dropWhile (le · x)
def stab {α : Type} (le : α → α → Bool) (l : List α) : List α := l.foldl (fun a x => insL le x a) []
section
variable {α : Type} {le : α → α → Bool}
theorem take_all {p : α → Bool} : ∀ (l : List α), ∀ a ∈ l.takeWhile p, p a = true := fun l => List.all_eq_true.1 List.all_takeWhile
theorem drop_none (hp : Pre le) {x : α} : ∀ {l : List α}, SortedL le l → ∀ a ∈ l.dropWhile (le · x), le a x = false
  | [], _, a, h => by simp at h
  | y :: l, hs, a, h => by
    obtain ⟨h1, h2⟩ := List.pairwise_cons.1 hs
    rw [List.dropWhile_cons] at h
    cases hy : le y x with
    | true =>
      rw [hy, if_pos rfl] at h
      exact drop_none hp h2 a h
    | false =>
      rw [hy, if_neg (by simp)] at h
      cases ha : le a x with
      | false => rfl
      | true =>
        rcases List.mem_cons.1 h with e | h
        · rw [e, hy] at ha; cases ha
        · rw [hp.trans y a x (h1 a h) ha] at hy; cases hy
theorem insL_stable (hp : Pre le) {l : List α} {x : α} (hs : SortedL le l) : SortedL le (insL le x l) ∧ SameKinds le (l ++ [x]) (insL le x l) := by
  have := insert_stable hp (u := l.takeWhile (le · x)) (v := l.dropWhile (le · x)) (x := x) (by rw [List.takeWhile_append_dropWhile]; exact hs) (take_all l) (drop_none hp hs)
  rw [List.takeWhile_append_dropWhile] at this
  exact this
theorem stab_snoc (l : List α) (x : α) : stab le (l ++ [x]) = insL le x (stab le l) := by simp [stab]
theorem stab_facts (hp : Pre le) (l : List α) : SortedL le (stab le l) ∧ SameKinds le l (stab le l) := by
  have key : ∀ n (l : List α), l.length = n → SortedL le (stab le l) ∧ SameKinds le l (stab le l) := by
    intro n
    induction n with
    | zero =>
      intro l h
      have : l = [] := List.eq_nil_of_length_eq_zero h
      subst this
      exact ⟨List.Pairwise.nil, SameKinds.refl _⟩
    | succ n ih =>
      intro l h
      have hne : l ≠ [] := fun e => by rw [e] at h; cases h
      obtain ⟨m, x, rfl⟩ : ∃ m x, l = m ++ [x] := ⟨l.dropLast, l.getLast hne, (List.dropLast_concat_getLast hne).symm⟩
      obtain ⟨h1, h2⟩ := ih m (by simpa using h)
      obtain ⟨h3, h4⟩ := insL_stable hp (x := x) h1
      rw [stab_snoc]
      exact ⟨h3, (SameKinds.app h2 (SameKinds.refl _)).trans h4⟩
  exact key _ l rfl
theorem stab_eq (hp : Pre le) {l m : List α} (hs : SortedL le m) (hk : SameKinds le l m) : stab le l = m :=
  stable_unique hp (stab_facts hp l).1 hs ((stab_facts hp l).2.symm.trans hk)
theorem insL_length (x : α) (l : List α) : (insL le x l).length = l.length + 1 := by
  have := congrArg List.length (List.takeWhile_append_dropWhile (p := (le · x)) (l := l))
  simp only [List.length_append] at this
  simp only [insL, List.length_append, List.length_cons]
  omega
theorem stab_length (l : List α) : (stab le l).length = l.length := by
  have key : ∀ n (l : List α), l.length = n → (stab le l).length = n := by
    intro n
    induction n with
    | zero =>
      intro l h
      have : l = [] := List.eq_nil_of_length_eq_zero h
      subst this
      rfl
    | succ n ih =>
      intro l h
      have hne : l ≠ [] := fun e => by rw [e] at h; cases h
      obtain ⟨m, x, rfl⟩ : ∃ m x, l = m ++ [x] := ⟨l.dropLast, l.getLast hne, (List.dropLast_concat_getLast hne).symm⟩
      rw [stab_snoc, insL_length, ih m (by simpa using h)]
  exact key _ l rfl
theorem stab_mem (hp : Pre le) {l : List α} {a : α} : a ∈ stab le l ↔ a ∈ l :=
  ⟨fun h => SameKinds.mem hp (stab_facts hp l).2 h, fun h => SameKinds.mem hp (stab_facts hp l).2.symm h⟩
theorem stab_id (hp : Pre le) {l : List α} (h : SortedL le l) : stab le l = l := stab_eq hp h (SameKinds.refl _)
theorem stab_same (hp : Pre le) {l m : List α} (h : SameKinds le l m) : stab le m = stab le l := stab_eq hp (stab_facts hp l).1 (h.symm.trans (stab_facts hp l).2)
/-- one more, put into its place -/
theorem put_eq (hp : Pre le) {l u v : List α} {x : α} (h : stab le l = u ++ v) (hu : ∀ a ∈ u, le a x = true) (hv : ∀ a ∈ v, le a x = false) : stab le (l ++ [x]) = u ++ x :: v := by
  have hs : SortedL le (u ++ v) := by rw [← h]; exact (stab_facts hp l).1
  obtain ⟨h1, h2⟩ := insert_stable hp hs hu hv
  refine stab_eq hp h1 (SameKinds.trans (SameKinds.app ?_ (SameKinds.refl [x])) h2)
  rw [← h]
  exact (stab_facts hp l).2
/-- one in front of a sorted list -/
theorem front_eq (hp : Pre le) {p q : List α} {x : α} (hs : SortedL le (p ++ q)) (h1 : ∀ a ∈ p, le x a = false) (h2 : ∀ a ∈ q, le x a = true) : stab le (x :: (p ++ q)) = p ++ x :: q := by
  obtain ⟨s1, s2, s3⟩ := List.pairwise_append.1 hs
  refine stab_eq hp (List.pairwise_append.2 ⟨s1, List.pairwise_cons.2 ⟨h2, s2⟩, fun a ha b hb => ?_⟩) ?_
  · rcases List.mem_cons.1 hb with e | hb
    · rw [e]
      rcases hp.total a x with h | h
      · exact h
      · rw [h1 a ha] at h; cases h
    · exact s3 a ha b hb
  · have e1 : x :: (p ++ q) = ([x] ++ p) ++ q := rfl
    have e2 : p ++ x :: q = (p ++ [x]) ++ q := by simp
    rw [e1, e2]
    exact SameKinds.app (SameKinds.swap hp fun a ha b hb => by rw [List.mem_singleton] at ha; rw [ha]; exact h1 b hb) (SameKinds.refl q)
theorem merge_eq (hp : Pre le) {a1 a2 b1 b2 : List α} (ha : SortedL le (a1 ++ a2)) (hb : SortedL le (b1 ++ b2)) (h1 : ∀ a ∈ a1, ∀ b ∈ b2, le a b = true) (h2 : ∀ a ∈ a2, ∀ b ∈ b1, le a b = false) : stab le ((a1 ++ a2) ++ (b1 ++ b2)) = stab le (a1 ++ b1) ++ stab le (a2 ++ b2) := by
  obtain ⟨q1, q2⟩ := sym_stable hp ha hb h1 h2 (stab_facts hp (a1 ++ b1)).1 (stab_facts hp (a1 ++ b1)).2 (stab_facts hp (a2 ++ b2)).1 (stab_facts hp (a2 ++ b2)).2
  exact stab_eq hp q1 q2
theorem lt_of_getS {s : List α} {i : Nat} {y : α} (h : s[i]? = some y) : i < s.length := by
  by_cases hi : i < s.length
  · exact hi
  · rw [List.getElem?_eq_none (by omega)] at h; cases h
/-- in a sorted list: what holds of one holds in front of it, or behind it -/
theorem take_down {s : List α} (hs : SortedL le s) {P : α → Prop} (hP : ∀ a b, le a b = true → P b → P a) {k : Nat} (h : k = 0 ∨ ∃ y, s[k - 1]? = some y ∧ P y) : ∀ e ∈ s.take k, P e := by
  intro e he
  obtain ⟨i, hi, rfl⟩ := List.getElem_of_mem he
  simp only [List.length_take] at hi
  rw [List.getElem_take]
  rcases h with h | ⟨y, h1, h2⟩
  · omega
  · by_cases e : i = k - 1
    · subst e
      rw [List.getElem?_eq_getElem (by omega)] at h1
      injection h1 with h1
      rw [h1]; exact h2
    · have hk := lt_of_getS h1
      refine hP _ y ?_ h2
      have := List.pairwise_iff_getElem.1 hs i (k - 1) (by omega) hk (by omega)
      rw [List.getElem?_eq_getElem hk] at h1
      injection h1 with h1
      rw [← h1]; exact this
theorem drop_up (hr : Pre le) {s : List α} (hs : SortedL le s) {P : α → Prop} (hP : ∀ a b, le a b = true → P a → P b) {k : Nat} (h : s.length ≤ k ∨ ∃ y, s[k]? = some y ∧ P y) : ∀ e ∈ s.drop k, P e := by
  intro e he
  obtain ⟨i, hi, rfl⟩ := List.getElem_of_mem he
  simp only [List.length_drop] at hi
  rw [List.getElem_drop]
  rcases h with h | ⟨y, h1, h2⟩
  · omega
  · rw [List.getElem?_eq_getElem (by omega)] at h1
    injection h1 with h1
    by_cases e : i = 0
    · subst e
      simp only [Nat.add_zero]
      rw [h1]; exact h2
    · refine hP y _ ?_ h2
      rw [← h1]
      exact List.pairwise_iff_getElem.1 hs k (k + i) (by omega) (by omega) (by omega)
end
section
variable {α : Type}
/-- two cells change places -/
theorem swap_set (A B C : List α) (x y : α) (i j : Nat) (hi : i = A.length) (hj : j = A.length + 1 + B.length) : ((A ++ x :: (B ++ y :: C)).set i y).set j x = A ++ y :: (B ++ x :: C) := by
  subst hi hj
  rw [List.set_append_right _ _ (Nat.le_refl _), Nat.sub_self, List.set_cons_zero, List.set_append_right _ _ (by omega)]
  congr 1
  rw [show A.length + 1 + B.length - A.length = B.length + 1 by omega, List.set_cons_succ, List.set_append_right _ _ (Nat.le_refl _), Nat.sub_self, List.set_cons_zero]
theorem swap_set' (A B C : List α) (x y : α) (i j : Nat) (hi : i = A.length) (hj : j = A.length + 1 + B.length) : ((A ++ x :: (B ++ y :: C)).set j x).set i y = A ++ y :: (B ++ x :: C) := by
  rw [List.set_comm _ _ (by omega)]
  exact swap_set A B C x y i j hi hj
theorem get_at (A B : List α) (x : α) (i : Nat) (hi : i = A.length) : (A ++ x :: B)[i]? = some x := by
  subst hi
  rw [List.getElem?_append_right (Nat.le_refl _), Nat.sub_self]; rfl
theorem get_at2 (A B C : List α) (x y : α) (j : Nat) (hj : j = A.length + 1 + B.length) : (A ++ x :: (B ++ y :: C))[j]? = some y := by
  rw [show A ++ x :: (B ++ y :: C) = (A ++ x :: B) ++ y :: C by simp]
  exact get_at _ _ _ _ (by simp; omega)
theorem split_at {l : List α} {i : Nat} (h : i < l.length) : ∃ x, l = l.take i ++ x :: l.drop (i + 1) ∧ l[i]? = some x := by
  refine ⟨l[i], ?_, List.getElem?_eq_getElem h⟩
  rw [← List.drop_eq_getElem_cons h, List.take_append_drop]
end
end Go.Proofs.YtngikpapepnkaaaGreatDoor.Reg
