/- The plain law of sets in bands: one set, one form; what is told of a set is a region; no program in sight. -/
import Derived.Test.YtcfhiodoogkcpaaGreatDoorPlainSet5
set_option linter.unusedSimpArgs false
set_option linter.unusedVariables false
namespace Go.Proofs.YtcfhiodoogkcpaaGreatDoor.Reg

theorem at_head {b : Band} {s : List Band} (h : SOK (b :: s)) {x y : Int} (h1 : b.y0 ≤ y) (h2 : y < b.y1) : at' (b :: s) x y = par (cuts b.xs) x := by
  rw [show b :: s = [b] ++ s from rfl, at_append, at_one, decide_eq_true h1, decide_eq_true h2, at_off (s := s) fun t ht => .inl (by have := h.above t ht; omega)]
  simp
theorem at_tail {b : Band} {s : List Band} {x y : Int} (h2 : b.y1 ≤ y) : at' (b :: s) x y = at' s x y := by
  rw [show b :: s = [b] ++ s from rfl, at_append, at_one, decide_eq_false (by omega : ¬ y < b.y1)]
  simp
theorem row_some {b : Band} (h : BOK b) : ∃ x, par (cuts b.xs) x = true := by
  cases hx : b.xs with
  | nil => exact absurd hx h.ne
  | cons p u => exact ⟨p.1, by rw [← hx]; exact (par_cover h.can _).2 ⟨p, by rw [hx]; simp, Int.le_refl _, canon_lt h.can p (by rw [hx]; simp)⟩⟩
theorem low_le {p q : Band} {r u : List Band} (ha : SOK (p :: r)) (hb : SOK (q :: u)) (he : ∀ x y, at' (p :: r) x y = at' (q :: u) x y) : q.y0 ≤ p.y0 := by
  obtain ⟨x, hx⟩ := row_some ha.head
  have h1 := at_head ha (x := x) (Int.le_refl _) ha.head.lt
  rw [hx, he] at h1
  obtain ⟨t, ht, t1, t2, _⟩ := at_iff.1 h1
  rcases List.mem_cons.1 ht with e | ht
  · subst e; exact t1
  · have := hb.above t ht
    have := hb.head.lt
    omega
theorem high_le {p q : Band} {r u : List Band} (ha : SOK (p :: r)) (hb : SOK (q :: u)) (he : ∀ x y, at' (p :: r) x y = at' (q :: u) x y) (h0 : p.y0 = q.y0) (hx : p.xs = q.xs) : q.y1 ≤ p.y1 := by
  rcases Int.lt_or_le p.y1 q.y1 with h | h
  · exfalso
    have hp := ha.head.lt
    have row : ∀ x, at' r x p.y1 = par (cuts p.xs) x := fun x => by
      rw [← at_tail (b := p) (Int.le_refl _), he, at_head hb (by omega) h, hx]
    cases r with
    | nil =>
      obtain ⟨x, h1⟩ := row_some ha.head
      rw [← row] at h1
      cases h1
    | cons c r =>
      have hc := ha.2.1
      rcases Int.lt_or_le p.y1 c.y0 with h2 | h2
      · obtain ⟨x, h1⟩ := row_some ha.head
        rw [← row, at_off (s := c :: r) fun t ht => .inl (by
          rcases List.mem_cons.1 ht with e | ht
          · subst e; omega
          · have := ha.tail.above t ht; have := ha.tail.head.lt; omega)] at h1
        cases h1
      · have e : p.y1 = c.y0 := by omega
        refine ha.2.2.1 e (canon_unique _ _ ha.head.can ha.tail.head.can fun x => ?_)
        rw [← par_cover ha.head.can, ← par_cover ha.tail.head.can, ← row x, at_head ha.tail (by omega) (by have := ha.tail.head.lt; omega)]
  · exact h
/-- one set, one form -/
theorem sok_unique : ∀ (a b : List Band), SOK a → SOK b → (∀ x y, at' a x y = at' b x y) → a = b
  | [], b, _, hb, he => (empty_of hb fun x y => (he x y).symm).symm
  | p :: r, [], ha, _, he => empty_of ha fun x y => he x y
  | p :: r, q :: u, ha, hb, he => by
    have e0 : p.y0 = q.y0 := Int.le_antisymm (low_le hb ha fun x y => (he x y).symm) (low_le ha hb he)
    have ex : p.xs = q.xs := canon_unique _ _ ha.head.can hb.head.can fun x => by
      rw [← par_cover ha.head.can, ← par_cover hb.head.can, ← at_head ha (Int.le_refl _) ha.head.lt, he, at_head hb (by omega) (by have := hb.head.lt; omega)]
    have e1 : p.y1 = q.y1 := Int.le_antisymm (high_le hb ha (fun x y => (he x y).symm) e0.symm ex.symm) (high_le ha hb he e0 ex)
    have ih := sok_unique r u ha.tail hb.tail fun x y => by
      rcases Int.lt_or_le y p.y1 with h | h
      · rw [at_off (s := r) fun t ht => .inl (by have := ha.above t ht; omega), at_off (s := u) fun t ht => .inl (by have := hb.above t ht; omega)]
      · rw [← at_tail (b := p) h, he, at_tail (by omega)]
    have : p = q := by
      cases p; cases q
      simp only at e0 e1 ex
      subst e0 e1 ex
      rfl
    rw [this, ih]
theorem before_iff {a b : Rect} : before a b = true ↔ a.y0 < b.y0 ∨ (a.y0 = b.y0 ∧ a.x0 < b.x0) := by simp [before]
theorem spans_rise {s : Spans} (h : Canon s) : s.Pairwise fun p q => p.1 < q.1 := by
  induction s with
  | nil => exact List.Pairwise.nil
  | cons p s ih =>
    refine List.pairwise_cons.2 ⟨fun q hq => ?_, ih h.tail⟩
    have := h.behind q hq
    have := h.head
    omega
theorem told_order {s : List Band} (h : SOK s) : (told s).Pairwise fun a b => before a b = true := by
  induction s with
  | nil => exact List.Pairwise.nil
  | cons b s ih =>
    have e : told (b :: s) = (b.xs.map fun p => ⟨p.1, b.y0, p.2, b.y1⟩) ++ told s := rfl
    rw [e]
    have hrow : (b.xs.map fun p => (⟨p.1, b.y0, p.2, b.y1⟩ : Rect)).Pairwise fun a b => before a b = true := by
      rw [List.pairwise_map]
      refine (spans_rise h.head.can).imp fun {p q} hp => ?_
      exact before_iff.2 (.inr ⟨rfl, hp⟩)
    refine List.pairwise_append.2 ⟨hrow, ih h.tail, fun a ha c hc => ?_⟩
    obtain ⟨p, _, rfl⟩ := List.mem_map.1 ha
    obtain ⟨t, ht, q, _, rfl⟩ := mem_told.1 hc
    have h1 := h.above t ht
    have h2 := h.head.lt
    exact before_iff.2 (.inl (by show b.y0 < t.y0; omega))
theorem ordered_of : ∀ {l : List Rect}, (l.Pairwise fun a b => before a b = true) → ordered l = true
  | [], _ => rfl
  | [_], _ => rfl
  | a :: b :: l, h => by
    obtain ⟨h1, h2⟩ := List.pairwise_cons.1 h
    rw [ordered, h1 b (by simp), ordered_of h2]
    rfl
theorem rects_of {l : List Rect} (h : ∀ r ∈ l, isRect r = true ∧ r.x0 < r.x1 ∧ r.y0 < r.y1) : rectsFault l = 0 := by
  induction l with
  | nil => rfl
  | cons r l ih =>
    obtain ⟨h1, h2, h3⟩ := h r (by simp)
    rw [rectsFault, if_pos h1, if_neg (by omega), ih fun q hq => h q (by simp [hq])]
/-- what is told of a set is a region -/
theorem told_region {s : List Band} (h : SOK s) (hk : InK 1000000 s) (hn : (told s).length ≤ 2000) : checkRegion (told s) = 0 := by
  have hf := told_full h
  have hr := told_in h hk
  have c1 : checkRects (told s) = 0 := by
    rw [checkRects, if_neg (by omega)]
    refine rects_of fun r hr' => ?_
    have a := hf r hr'
    have b := hr r hr'
    unfold Full at a
    unfold RK at b
    refine ⟨?_, a.1, a.2⟩
    simp [isRect, isAt]
    omega
  have c2 : canonical (told s) = told s := by
    obtain ⟨b1, b2, _⟩ := bands_facts hf
    rw [canonical, sok_unique (bands (told s)) s b1 h fun x y => by rw [b2, told_any h]]
  rw [checkRegion, if_pos c1, if_pos (ordered_of (told_order h)), if_pos c2]
theorem told_nil {s : List Band} (h : SOK s) (hn : told s = []) : s = [] := empty_of h fun x y => by rw [← told_any h, hn]; rfl
end Go.Proofs.YtcfhiodoogkcpaaGreatDoor.Reg
