/- By the machine: the house's regions: SetOf, CheckRegion. -/
import Derived.Test.YtcfhiodoogkcpaaGreatDoorMHouse6
set_option linter.unusedSimpArgs false
set_option linter.unusedVariables false
namespace Go.Proofs.YtcfhiodoogkcpaaGreatDoor.M
open Go.AM Go.RowKit Go.Lib
open Reg (Rect Spans Band)

/-- the heights of rectangles, as the house makes them -/
def ends (l : List Rect) : List Int := l.flatMap fun r => [r.y0, r.y1]
theorem ends_step {l : List Rect} {i : Nat} {r : Rect} (h : l[i]? = some r) : ends (l.take (i + 1)) = ends (l.take i) ++ [r.y0, r.y1] := by
  rw [take_succ' h]
  simp [ends]
theorem mem_ends (l : List Rect) (y : Int) : y ∈ ends l ↔ ∃ r ∈ l, y = r.y0 ∨ y = r.y1 := by
  simp [ends]
theorem ends_length (l : List Rect) : (ends l).length = 2 * l.length := by
  induction l with
  | nil => rfl
  | cons r l ih => simp only [ends, List.flatMap_cons, List.length_append, List.length_cons, List.length_nil] at ih ⊢; omega
theorem heights_eq {l m : List Rect} (hm : ∀ r, r ∈ m ↔ r ∈ l) : compact (sortI (ends m)) = Reg.heights l := by
  have hs : (sortI (ends m)).Pairwise (· ≤ ·) := by
    have := List.pairwise_mergeSort (le := fun x y : Int => decide (x ≤ y)) (fun a b c h1 h2 => by simp at *; omega) (fun a b => by simp; omega) (ends m)
    exact this.imp fun h => by simpa using h
  obtain ⟨h1, h2⟩ := compact_facts hs
  obtain ⟨h3, h4⟩ := Reg.heights_facts l
  refine Reg.rising_unique _ _ h1 h3 fun x => ?_
  rw [h2, h4, sortI, (List.mergeSort_perm _ _).mem_iff, mem_ends]
  constructor
  · rintro ⟨r, hr, h⟩; exact ⟨r, (hm r).1 hr, h⟩
  · rintro ⟨r, hr, h⟩; exact ⟨r, (hm r).2 hr, h⟩
theorem at_height {ys : List Int} (hR : Reg.Rising ys) {k : Nat} {y q : Int} (hy : ys[k]? = some y) (hq : q ∈ ys) (h1 : q ≤ y) (h2 : ∀ j z, j + 1 = k → ys[j]? = some z → z < q) : q = y := by
  obtain ⟨i, hi⟩ := List.mem_iff_getElem?.1 hq
  rcases Nat.lt_trichotomy i k with h | h | h
  · obtain ⟨z, hz⟩ := get_of (l := ys) (i := k - 1) (by have := (List.getElem?_eq_some_iff.1 hy).1; omega)
    have := h2 (k - 1) z (by omega) hz
    have := rising_get hR hi hz (by omega)
    omega
  · subst h
    rw [hi] at hy
    injection hy
  · have := rising_get hR hy hi (by omega)
    omega
/-- what the sweep keeps: k heights are done -/
structure Sweep (L : List Rect) (ys : List Int) (k : Nat) (nw : List Rect) (next : Nat) : Prop where
  le : next ≤ L.length
  len : nw.length ≤ next
  mem : ∀ r, r ∈ nw ↔ r ∈ L.take next ∧ ∀ j y, j + 1 = k → ys[j]? = some y → y < r.y1
  below : ∀ r ∈ L.take next, ∀ j y, j + 1 = k → ys[j]? = some y → r.y0 ≤ y
  above : ∀ r ∈ L.drop next, ∀ j y, j + 1 = k → ys[j]? = some y → y < r.y0
  zero : k = 0 → next = 0
/-- within a round -/
structure Mid (L : List Rect) (y : Int) (nw : List Rect) (next : Nat) : Prop where
  le : next ≤ L.length
  len : nw.length ≤ next
  mem : ∀ r, r ∈ nw ↔ r ∈ L.take next ∧ y < r.y1
  below : ∀ r ∈ L.take next, r.y0 ≤ y
theorem Sweep.mid {L : List Rect} {ys : List Int} {k : Nat} {nw : List Rect} {next : Nat} (h : Sweep L ys k nw next) (hR : Reg.Rising ys) {y : Int} (hy : ys[k]? = some y) : Mid L y (nw.filter fun r => !endsB y r) next := by
  have prev : k ≠ 0 → ∃ z, ys[k - 1]? = some z ∧ z < y := fun hk => by
    have hkl := (List.getElem?_eq_some_iff.1 hy).1
    obtain ⟨z, hz⟩ := get_of (l := ys) (i := k - 1) (by omega)
    have a1 := List.getElem?_eq_some_iff.1 hz
    have a2 := List.getElem?_eq_some_iff.1 hy
    obtain ⟨b1, b2⟩ := a1
    obtain ⟨c1, c2⟩ := a2
    have := (List.pairwise_iff_getElem.1 hR) (k - 1) k b1 c1 (by omega)
    exact ⟨z, hz, by omega⟩
  refine ⟨h.le, Nat.le_trans (List.length_filter_le _ _) h.len, fun r => ?_, fun r hr => ?_⟩
  · rw [List.mem_filter, h.mem]
    simp only [endsB, Bool.not_eq_true', decide_eq_false_iff_not]
    constructor
    · rintro ⟨⟨h1, _⟩, h2⟩; exact ⟨h1, by omega⟩
    · rintro ⟨h1, h2⟩
      refine ⟨⟨h1, fun j z hj hz => ?_⟩, by omega⟩
      obtain ⟨z', hz', hlt⟩ := prev (by omega)
      rw [show k - 1 = j by omega, hz] at hz'
      injection hz' with hz'
      omega
  · by_cases hk : k = 0
    · rw [h.zero hk] at hr; simp at hr
    · obtain ⟨z, hz, hlt⟩ := prev hk
      have := h.below r hr (k - 1) z (by omega) hz
      omega
theorem Mid.next {L : List Rect} {y : Int} {nw : List Rect} {next : Nat} (h : Mid L y nw next) {r : Rect} (hr : L[next]? = some r) (h0 : r.y0 ≤ y) (h1 : y < r.y1) : Mid L y (nw ++ [r]) (next + 1) := by
  have hlt := (List.getElem?_eq_some_iff.1 hr).1
  refine ⟨by omega, by have := h.len; simp; omega, fun q => ?_, fun q hq => ?_⟩
  · rw [take_succ' hr, List.mem_append, List.mem_append, List.mem_singleton, h.mem]
    constructor
    · rintro (⟨a, b⟩ | rfl)
      · exact ⟨.inl a, b⟩
      · exact ⟨.inr rfl, h1⟩
    · rintro ⟨a | rfl, b⟩
      · exact .inl ⟨a, b⟩
      · exact .inr rfl
  · rw [take_succ' hr, List.mem_append, List.mem_singleton] at hq
    rcases hq with hq | rfl
    · exact h.below q hq
    · exact h0
/-- behind the inner loop: nothing more begins here -/
theorem Mid.row {L l : List Rect} {y : Int} {nw : List Rect} {next : Nat} (h : Mid L y nw next) (hm : ∀ r, r ∈ L ↔ r ∈ l) (hdrop : ∀ r ∈ L.drop next, y < r.y0) : ∀ r, r ∈ nw ↔ r ∈ l ∧ r.y0 ≤ y ∧ y < r.y1 := by
  intro r
  rw [h.mem, ← hm]
  constructor
  · rintro ⟨a, b⟩; exact ⟨List.mem_of_mem_take a, h.below r a, b⟩
  · rintro ⟨a, b, c⟩
    refine ⟨?_, c⟩
    rw [← List.take_append_drop next L, List.mem_append] at a
    rcases a with a | a
    · exact a
    · have := hdrop r a; omega
theorem Mid.sweep {L : List Rect} {ys : List Int} {k : Nat} {nw m : List Rect} {next : Nat} {y : Int} (h : Mid L y nw next) (hy : ys[k]? = some y) (hp : m.Perm nw) (hdrop : ∀ r ∈ L.drop next, y < r.y0) : Sweep L ys (k + 1) m next := by
  have one : ∀ j z, j + 1 = k + 1 → ys[j]? = some z → z = y := fun j z hj hz => by
    rw [show j = k by omega, hy] at hz; injection hz with hz; exact hz.symm
  refine ⟨h.le, by rw [hp.length_eq]; exact h.len, fun r => ?_, fun r hr j z hj hz => ?_, fun r hr j z hj hz => ?_, fun h => by omega⟩
  · rw [hp.mem_iff, h.mem]
    constructor
    · rintro ⟨a, b⟩; exact ⟨a, fun j z hj hz => by rw [one j z hj hz]; exact b⟩
    · rintro ⟨a, b⟩; exact ⟨a, b k y rfl hy⟩
  · rw [one j z hj hz]; exact h.below r hr
  · rw [one j z hj hz]; exact hdrop r hr
theorem drop_above {L : List Rect} (hs : L.Pairwise fun a b => a.y0 ≤ b.y0) {i : Nat} {r : Rect} (hr : L[i]? = some r) {y : Int} (h : y < r.y0) : ∀ q ∈ L.drop i, y < q.y0 := by
  intro q hq
  obtain ⟨hi, he⟩ := List.getElem?_eq_some_iff.1 hr
  rw [List.drop_eq_getElem_cons hi, he, List.mem_cons] at hq
  rcases hq with rfl | hq
  · exact h
  · obtain ⟨j, hj, rfl⟩ := List.getElem_of_mem hq
    rw [List.getElem_drop]
    have := List.pairwise_iff_getElem.1 hs i (i + 1 + j) hi (by rw [List.length_drop] at hj; omega) (by omega)
    rw [he] at this
    omega
end Go.Proofs.YtcfhiodoogkcpaaGreatDoor.M
