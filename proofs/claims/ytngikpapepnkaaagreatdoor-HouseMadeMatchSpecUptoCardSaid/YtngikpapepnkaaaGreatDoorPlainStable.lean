/- Plain law: sorted stably, said by what elements that compare equal are in order; there is one such list alone. -/
import Derived.Test.YtngikpapepnkaaaGreatDoorProg
set_option linter.unusedSimpArgs false
set_option linter.unusedVariables false
namespace Go.Proofs.YtngikpapepnkaaaGreatDoor.Reg

/-- a total order that may hold two things for equal -/
structure Pre {α : Type} (le : α → α → Bool) : Prop where
  total : ∀ a b, le a b = true ∨ le b a = true
  trans : ∀ a b c, le a b = true → le b c = true → le a c = true
theorem Pre.refl {α : Type} {le : α → α → Bool} (h : Pre le) (a : α) : le a a = true := (h.total a a).elim id id
def eqv {α : Type} (le : α → α → Bool) (a b : α) : Bool := le a b && le b a
theorem eqv_refl {α : Type} {le : α → α → Bool} (h : Pre le) (a : α) : eqv le a a = true := by simp [eqv, h.refl]
theorem eqv_symm {α : Type} {le : α → α → Bool} {a b : α} (h : eqv le a b = true) : eqv le b a = true := by
  simp only [eqv, Bool.and_eq_true] at h ⊢
  exact ⟨h.2, h.1⟩
theorem eqv_trans {α : Type} {le : α → α → Bool} (h : Pre le) {a b c : α} (h1 : eqv le a b = true) (h2 : eqv le b c = true) : eqv le a c = true := by
  simp only [eqv, Bool.and_eq_true] at h1 h2 ⊢
  exact ⟨h.trans _ _ _ h1.1 h2.1, h.trans _ _ _ h2.2 h1.2⟩
/-- the same elements of each kind, in the same order -/
def SameKinds {α : Type} (le : α → α → Bool) (l m : List α) : Prop := ∀ x, m.filter (eqv le x) = l.filter (eqv le x)
theorem SameKinds.refl {α : Type} {le : α → α → Bool} (l : List α) : SameKinds le l l := fun _ => rfl
theorem SameKinds.trans {α : Type} {le : α → α → Bool} {l m n : List α} (h : SameKinds le l m) (k : SameKinds le m n) : SameKinds le l n := fun x => (k x).trans (h x)
theorem SameKinds.symm {α : Type} {le : α → α → Bool} {l m : List α} (h : SameKinds le l m) : SameKinds le m l := fun x => (h x).symm
theorem SameKinds.app {α : Type} {le : α → α → Bool} {l m l' m' : List α} (h : SameKinds le l m) (k : SameKinds le l' m') : SameKinds le (l ++ l') (m ++ m') := fun x => by
  rw [List.filter_append, List.filter_append, h x, k x]
theorem SameKinds.mem {α : Type} {le : α → α → Bool} (hp : Pre le) {l m : List α} (h : SameKinds le l m) {a : α} (ha : a ∈ m) : a ∈ l := by
  have : a ∈ m.filter (eqv le a) := List.mem_filter.2 ⟨ha, eqv_refl hp a⟩
  rw [h a] at this
  exact (List.mem_filter.1 this).1
/-- two neighbouring blocks, all of the one less than all of the other, change places -/
theorem SameKinds.swap {α : Type} {le : α → α → Bool} (hp : Pre le) {u v : List α} (h : ∀ a ∈ u, ∀ b ∈ v, le a b = false) : SameKinds le (u ++ v) (v ++ u) := fun x => by
  rw [List.filter_append, List.filter_append]
  by_cases hu : u.filter (eqv le x) = []
  · rw [hu, List.append_nil, List.nil_append]
  · by_cases hv : v.filter (eqv le x) = []
    · rw [hv, List.append_nil, List.nil_append]
    · obtain ⟨a, ha⟩ := List.exists_mem_of_ne_nil _ hu
      obtain ⟨b, hb⟩ := List.exists_mem_of_ne_nil _ hv
      obtain ⟨a1, a2⟩ := List.mem_filter.1 ha
      obtain ⟨b1, b2⟩ := List.mem_filter.1 hb
      have := eqv_trans hp (eqv_symm a2) b2
      simp only [eqv, Bool.and_eq_true] at this
      rw [h a a1 b b1] at this
      cases this.1
def SortedL {α : Type} (le : α → α → Bool) (l : List α) : Prop := l.Pairwise fun a b => le a b = true
/-- there is one sorted list alone with the same kinds -/
theorem stable_unique {α : Type} {le : α → α → Bool} (hp : Pre le) : ∀ {m n : List α}, SortedL le m → SortedL le n → SameKinds le m n → m = n
  | [], [], _, _, _ => rfl
  | [], b :: n, _, _, h => by
    have := SameKinds.mem hp h (a := b) List.mem_cons_self
    cases this
  | a :: m, [], _, _, h => by
    have := SameKinds.mem hp h.symm (a := a) List.mem_cons_self
    cases this
  | a :: m, b :: n, hm, hn, h => by
    have hm' := List.pairwise_cons.1 hm
    have hn' := List.pairwise_cons.1 hn
    have lab : le a b = true := by
      rcases List.mem_cons.1 (SameKinds.mem hp h (a := b) List.mem_cons_self) with e | e
      · rw [e]; exact hp.refl a
      · exact hm'.1 b e
    have lba : le b a = true := by
      rcases List.mem_cons.1 (SameKinds.mem hp h.symm (a := a) List.mem_cons_self) with e | e
      · rw [e]; exact hp.refl b
      · exact hn'.1 a e
    have hab : eqv le a b = true := by rw [eqv, lab, lba]; rfl
    have e0 := h a
    rw [List.filter_cons_of_pos hab, List.filter_cons_of_pos (eqv_refl hp a)] at e0
    injection e0 with e1 e2
    subst e1
    have ht : SameKinds le m n := fun x => by
      have ex := h x
      by_cases c : eqv le x b = true
      · rw [List.filter_cons_of_pos c, List.filter_cons_of_pos c] at ex
        injection ex
      · rw [List.filter_cons_of_neg c, List.filter_cons_of_neg c] at ex
        exact ex
    rw [stable_unique hp hm'.2 hn'.2 ht]
/-- one element put into its place from the right: what stands behind it is greater -/
theorem insert_stable {α : Type} {le : α → α → Bool} (hp : Pre le) {u v : List α} {x : α} (hs : SortedL le (u ++ v)) (hu : ∀ a ∈ u, le a x = true) (hv : ∀ a ∈ v, le a x = false) : SortedL le (u ++ x :: v) ∧ SameKinds le (u ++ v ++ [x]) (u ++ x :: v) := by
  obtain ⟨s1, s2, s3⟩ := List.pairwise_append.1 hs
  refine ⟨List.pairwise_append.2 ⟨s1, List.pairwise_cons.2 ⟨fun a ha => ?_, s2⟩, fun a ha b hb => ?_⟩, ?_⟩
  · rcases hp.total a x with h | h
    · rw [hv a ha] at h; cases h
    · exact h
  · rcases List.mem_cons.1 hb with e | hb
    · rw [e]; exact hu a ha
    · exact s3 a ha b hb
  · rw [List.append_assoc]
    refine SameKinds.app (SameKinds.refl u) ?_
    have := SameKinds.swap hp (u := v) (v := [x]) fun a ha b hb => by rw [List.mem_singleton] at hb; rw [hb]; exact hv a ha
    exact this
/-- two sorted blocks, merged: any sorted list with their kinds is the stable sort -/
theorem merge_stable {α : Type} {le : α → α → Bool} {l m u v w : List α} (h1 : SameKinds le l u) (h2 : SameKinds le m v) (h3 : SameKinds le (u ++ v) w) : SameKinds le (l ++ m) w := (h1.app h2).trans h3
/-- two sorted blocks, each parted, the inner parts changed in place, the halves sorted by themselves -/
theorem sym_stable {α : Type} {le : α → α → Bool} (hp : Pre le) {a1 a2 b1 b2 m1 m2 : List α} (ha : SortedL le (a1 ++ a2)) (hb : SortedL le (b1 ++ b2)) (h1 : ∀ a ∈ a1, ∀ b ∈ b2, le a b = true) (h2 : ∀ a ∈ a2, ∀ b ∈ b1, le a b = false)
    (s1 : SortedL le m1) (k1 : SameKinds le (a1 ++ b1) m1) (s2 : SortedL le m2) (k2 : SameKinds le (a2 ++ b2) m2) : SortedL le (m1 ++ m2) ∧ SameKinds le ((a1 ++ a2) ++ (b1 ++ b2)) (m1 ++ m2) := by
  obtain ⟨_, _, ha3⟩ := List.pairwise_append.1 ha
  obtain ⟨_, _, hb3⟩ := List.pairwise_append.1 hb
  refine ⟨List.pairwise_append.2 ⟨s1, s2, fun x hx y hy => ?_⟩, ?_⟩
  · rcases List.mem_append.1 (SameKinds.mem hp k1 hx) with x1 | x1
    · rcases List.mem_append.1 (SameKinds.mem hp k2 hy) with y1 | y1
      · exact ha3 x x1 y y1
      · exact h1 x x1 y y1
    · rcases List.mem_append.1 (SameKinds.mem hp k2 hy) with y1 | y1
      · rcases hp.total x y with t | t
        · exact t
        · rw [h2 y y1 x x1] at t; cases t
      · exact hb3 x x1 y y1
  · have e1 : (a1 ++ a2) ++ (b1 ++ b2) = a1 ++ ((a2 ++ b1) ++ b2) := by simp only [List.append_assoc]
    have e2 : a1 ++ ((b1 ++ a2) ++ b2) = (a1 ++ b1) ++ (a2 ++ b2) := by simp only [List.append_assoc]
    have sw : SameKinds le (a1 ++ ((a2 ++ b1) ++ b2)) (a1 ++ ((b1 ++ a2) ++ b2)) := SameKinds.app (SameKinds.refl a1) (SameKinds.app (SameKinds.swap hp h2) (SameKinds.refl b2))
    rw [e2] at sw
    rw [e1]
    exact sw.trans (k1.app k2)
end Go.Proofs.YtngikpapepnkaaaGreatDoor.Reg
