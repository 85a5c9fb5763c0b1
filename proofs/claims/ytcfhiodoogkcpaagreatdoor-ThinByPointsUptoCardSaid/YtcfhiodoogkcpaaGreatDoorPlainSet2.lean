/- The plain law of sets in bands: what a set has, a band put above others, merging; no program in sight. -/
import Derived.Test.YtcfhiodoogkcpaaGreatDoorPlainSet
set_option linter.unusedSimpArgs false
set_option linter.unusedVariables false
namespace Go.Proofs.YtcfhiodoogkcpaaGreatDoor.Reg

/-- whether a set has a square -/
def at' (s : List Band) (x y : Int) : Bool := s.any fun b => decide (b.y0 ≤ y) && decide (y < b.y1) && par (cuts b.xs) x
theorem at_iff {s : List Band} {x y : Int} : at' s x y = true ↔ ∃ b ∈ s, b.y0 ≤ y ∧ y < b.y1 ∧ par (cuts b.xs) x = true := by
  simp [at', List.any_eq_true, and_assoc]
theorem at_append (s t : List Band) (x y : Int) : at' (s ++ t) x y = (at' s x y || at' t x y) := by simp [at', List.any_append]
theorem at_one (b : Band) (x y : Int) : at' [b] x y = (decide (b.y0 ≤ y) && decide (y < b.y1) && par (cuts b.xs) x) := by simp [at']
theorem at_off {s : List Band} {x y : Int} (h : ∀ b ∈ s, y < b.y0 ∨ b.y1 ≤ y) : at' s x y = false := by
  rw [Bool.eq_false_iff]
  intro hp
  obtain ⟨b, hb, h1, h2, _⟩ := at_iff.1 hp
  rcases h b hb with h | h <;> omega
structure BOK (b : Band) : Prop where
  lt : b.y0 < b.y1
  ne : b.xs ≠ []
  can : Canon b.xs
/-- bands in order, each with something; those that touch differ -/
def SOK : List Band → Prop
  | [] => True
  | [b] => BOK b
  | b :: c :: r => BOK b ∧ b.y1 ≤ c.y0 ∧ (b.y1 = c.y0 → b.xs ≠ c.xs) ∧ SOK (c :: r)
theorem SOK.head {b : Band} {s : List Band} (h : SOK (b :: s)) : BOK b := by
  cases s with
  | nil => exact h
  | cons c r => exact h.1
theorem SOK.tail {b : Band} {s : List Band} (h : SOK (b :: s)) : SOK s := by
  cases s with
  | nil => trivial
  | cons c r => exact h.2.2.2
theorem SOK.above {b : Band} {s : List Band} (h : SOK (b :: s)) : ∀ t ∈ s, b.y1 ≤ t.y0 := by
  induction s generalizing b with
  | nil => intro t ht; cases ht
  | cons c r ih =>
    intro t ht
    rcases List.mem_cons.1 ht with e | ht
    · subst e; exact h.2.1
    · have h1 := ih h.tail t ht
      have h2 := h.tail.head.lt
      have h3 := h.2.1
      omega
theorem SOK.mem {s : List Band} (h : SOK s) : ∀ b ∈ s, BOK b := by
  induction s with
  | nil => intro b hb; cases hb
  | cons c r ih =>
    intro b hb
    rcases List.mem_cons.1 hb with e | hb
    · subst e; exact h.head
    · exact ih h.tail b hb
theorem sok_snoc {s : List Band} {b : Band} (h : SOK s) (hb : BOK b) (hs : ∀ t ∈ s, t.y1 ≤ b.y0) (hl : ∀ t, s.getLast? = some t → t.y1 = b.y0 → t.xs ≠ b.xs) : SOK (s ++ [b]) := by
  induction s with
  | nil => exact hb
  | cons c r ih =>
    cases r with
    | nil => exact ⟨h.head, hs c (by simp), hl c rfl, hb⟩
    | cons d u =>
      have := ih h.tail (fun t ht => hs t (by simp [ht])) (fun t ht => hl t (by rw [List.getLast?_cons_cons]; exact ht))
      exact ⟨h.1, h.2.1, h.2.2.1, this⟩
theorem sok_init {s : List Band} {b : Band} (h : SOK (s ++ [b])) : SOK s ∧ BOK b ∧ (∀ t ∈ s, t.y1 ≤ b.y0) ∧ (∀ t, s.getLast? = some t → t.y1 = b.y0 → t.xs ≠ b.xs) := by
  induction s with
  | nil => exact ⟨trivial, h, fun t ht => (by cases ht), fun t ht => (by cases ht)⟩
  | cons c r ih =>
    cases r with
    | nil =>
      refine ⟨h.head, h.2.2.2, fun t ht => ?_, fun t ht => ?_⟩
      · rw [List.mem_singleton] at ht; subst ht; exact h.2.1
      · simp at ht; subst ht; exact h.2.2.1
    | cons d u =>
      obtain ⟨i1, i2, i3, i4⟩ := ih h.tail
      refine ⟨⟨h.1, h.2.1, h.2.2.1, i1⟩, i2, fun t ht => ?_, fun t ht => i4 t (by rw [List.getLast?_cons_cons] at ht; exact ht)⟩
      rcases List.mem_cons.1 ht with e | ht
      · subst e
        have a1 := h.above b (by simp)
        exact a1
      · exact i3 t ht
/-- a band put above others -/
theorem push_facts {s : List Band} {b : Band} (h : SOK s) (hlt : b.y0 < b.y1) (hc : Canon b.xs) (hs : ∀ t ∈ s, t.y1 ≤ b.y0) :
    SOK (pushB s b) ∧ (∀ t ∈ pushB s b, t.y1 ≤ b.y1) ∧ (∀ x y, at' (pushB s b) x y = (at' s x y || at' [b] x y)) ∧ (∀ t ∈ pushB s b, (∃ u ∈ s, u.xs = t.xs ∧ u.y0 = t.y0) ∨ (t.xs = b.xs ∧ t.y0 = b.y0)) := by
  unfold pushB
  by_cases e0 : b.xs = []
  · rw [if_pos e0]
    refine ⟨h, fun t ht => by have := hs t ht; omega, fun x y => ?_, fun t ht => .inl ⟨t, ht, rfl, rfl⟩⟩
    rw [at_one, e0]
    simp [cuts, par]
  · rw [if_neg e0]
    have hb : BOK b := ⟨hlt, e0, hc⟩
    cases hl : s.getLast? with
    | none =>
      have : s = [] := List.getLast?_eq_none_iff.1 hl
      subst this
      exact ⟨hb, fun t ht => by rw [List.mem_singleton] at ht; subst ht; exact Int.le_refl _, fun x y => by rw [show at' [] x y = false from rfl, Bool.false_or], fun t ht => .inr (by rw [List.mem_singleton] at ht; subst ht; exact ⟨rfl, rfl⟩)⟩
    | some t =>
      simp only
      obtain ⟨d, hd⟩ := List.getLast?_eq_some_iff.1 hl
      subst hd
      obtain ⟨i1, i2, i3, i4⟩ := sok_init h
      split
      · rename_i hm
        obtain ⟨m1, m2⟩ := hm
        rw [List.dropLast_concat]
        have t1 := i2.lt
        refine ⟨sok_snoc i1 ⟨?_, i2.ne, i2.can⟩ i3 i4, fun u hu => ?_, fun x y => ?_, fun u hu => ?_⟩
        · show t.y0 < b.y1
          omega
        · rcases List.mem_append.1 hu with hu | hu
          · have := i3 u hu; omega
          · rw [List.mem_singleton] at hu; subst hu; exact Int.le_refl _
        · rw [at_append, at_append, at_one, at_one, at_one, ← m2, Bool.or_assoc]
          congr 1
          show (decide (t.y0 ≤ y) && decide (y < b.y1) && par (cuts t.xs) x) = _
          by_cases c1 : t.y0 ≤ y <;> by_cases c2 : y < b.y1 <;> by_cases c3 : y < t.y1 <;> by_cases c4 : b.y0 ≤ y <;> simp [c1, c2, c3, c4] <;> omega
        · rcases List.mem_append.1 hu with hu | hu
          · exact .inl ⟨u, by simp [hu], rfl, rfl⟩
          · rw [List.mem_singleton] at hu; subst hu; exact .inl ⟨t, by simp, rfl, rfl⟩
      · rename_i hm
        refine ⟨sok_snoc h hb hs (fun u hu h1 h2 => hm ?_), fun u hu => ?_, fun x y => at_append _ _ x y, fun u hu => ?_⟩
        · rw [hl] at hu; cases hu; exact ⟨h1, h2⟩
        · rcases List.mem_append.1 hu with hu | hu
          · have := hs u hu; omega
          · rw [List.mem_singleton] at hu; subst hu; exact Int.le_refl _
        · rcases List.mem_append.1 hu with hu | hu
          · exact .inl ⟨u, hu, rfl, rfl⟩
          · rw [List.mem_singleton] at hu; subst hu; exact .inr ⟨rfl, rfl⟩
/-- the row of the first band at a height, and where this changes next -/
def atS (s : List Band) (y e : Int) : Spans × Int := match s with
  | [] => ([], e)
  | b :: _ => if y < b.y0 then ([], min e b.y0) else (b.xs, min e b.y1)
def dropTo (y : Int) : List Band → List Band
  | [] => []
  | b :: s => if b.y1 ≤ y then dropTo y s else b :: s
theorem dropTo_facts {y : Int} {s : List Band} (h : SOK s) : SOK (dropTo y s) ∧ (∀ t ∈ dropTo y s, t ∈ s ∧ y < t.y1) ∧ ∀ x z, y ≤ z → at' (dropTo y s) x z = at' s x z := by
  induction s with
  | nil => exact ⟨trivial, fun t ht => (by cases ht), fun x z _ => rfl⟩
  | cons b s ih =>
    obtain ⟨i1, i2, i3⟩ := ih h.tail
    by_cases e : b.y1 ≤ y
    · rw [dropTo, if_pos e]
      refine ⟨i1, fun t ht => ⟨by simp [(i2 t ht).1], (i2 t ht).2⟩, fun x z hz => ?_⟩
      rw [i3 x z hz, show b :: s = [b] ++ s from rfl, at_append, at_one, decide_eq_false (by omega : ¬ z < b.y1)]
      simp
    · rw [dropTo, if_neg e]
      refine ⟨h, fun t ht => ⟨ht, ?_⟩, fun x z _ => rfl⟩
      rcases List.mem_cons.1 ht with e | ht
      · subst e; omega
      · have h1 := h.above t ht
        have h2 := (h.tail.mem t ht).lt
        omega
theorem atS_facts {s : List Band} {y e : Int} (h : SOK s) (hy : ∀ t ∈ s, y < t.y1) (he : y < e) : Canon (atS s y e).1 ∧ y < (atS s y e).2 ∧ (atS s y e).2 ≤ e ∧ (∀ p ∈ (atS s y e).1, ∃ b ∈ s, p ∈ b.xs) ∧ ∀ x z, y ≤ z → z < (atS s y e).2 → at' s x z = par (cuts (atS s y e).1) x := by
  cases s with
  | nil => exact ⟨trivial, he, Int.le_refl _, fun p hp => by simp [atS] at hp, fun x z _ _ => rfl⟩
  | cons b s =>
    have hb := hy b (by simp)
    by_cases c : y < b.y0
    · have e1 : atS (b :: s) y e = ([], min e b.y0) := by simp [atS, c]
      rw [e1]
      refine ⟨trivial, by show y < min e b.y0; omega, by show min e b.y0 ≤ e; omega, fun p hp => by simp at hp, fun x z h1 h2 => ?_⟩
      have h2 : z < min e b.y0 := h2
      rw [show cuts ([] : Spans) = [] from rfl, show par [] x = false from rfl]
      refine at_off fun t ht => .inl ?_
      rcases List.mem_cons.1 ht with e | ht
      · subst e; omega
      · have h3 := h.above t ht
        have h4 := h.head.lt
        omega
    · have e1 : atS (b :: s) y e = (b.xs, min e b.y1) := by simp [atS, c]
      rw [e1]
      refine ⟨h.head.can, by show y < min e b.y1; omega, by show min e b.y1 ≤ e; omega, fun p hp => ⟨b, by simp, hp⟩, fun x z h1 h2 => ?_⟩
      have h2 : z < min e b.y1 := h2
      rw [show b :: s = [b] ++ s from rfl, at_append, at_one, decide_eq_true (by omega : b.y0 ≤ z), decide_eq_true (by omega : z < b.y1), at_off (s := s) fun t ht => .inl (by have := h.above t ht; omega)]
      simp
def mergeF (k : Bool → Bool → Bool) : Nat → List Band → List Band → Int → Int → List Band → List Band
  | 0, _, _, _, _, out => out
  | n + 1, a, b, y, e, out => if y < e then mergeF k n (dropTo y a) (dropTo y b) (min (atS (dropTo y a) y e).2 (atS (dropTo y b) y e).2) e
      (pushB out ⟨y, min (atS (dropTo y a) y e).2 (atS (dropTo y b) y e).2, pairUp (lineS k (cuts (atS (dropTo y a) y e).1) (cuts (atS (dropTo y b) y e).1))⟩) else out
/-- the range of a set's numbers -/
def InK (K : Int) (s : List Band) : Prop := ∀ b ∈ s, -K ≤ b.y0 ∧ b.y1 ≤ K ∧ ∀ p ∈ b.xs, -K ≤ p.1 ∧ p.2 ≤ K
theorem canon_lt {s : Spans} (h : Canon s) : ∀ p ∈ s, p.1 < p.2 := by
  induction s with
  | nil => intro p hp; cases hp
  | cons a s ih =>
    intro p hp
    rcases List.mem_cons.1 hp with e | hp
    · subst e; exact h.head
    · exact ih h.tail p hp
theorem row_step {k : Bool → Bool → Bool} (hk : k false false = false) {s t : Spans} (hs : Canon s) (ht : Canon t) : Canon (pairUp (lineS k (cuts s) (cuts t))) ∧ (∀ x, par (cuts (pairUp (lineS k (cuts s) (cuts t)))) x = k (par (cuts s) x) (par (cuts t) x)) ∧ cuts (pairUp (lineS k (cuts s) (cuts t))) = lineS k (cuts s) (cuts t) ∧
    ∀ K, (∀ p ∈ s, -K ≤ p.1 ∧ p.2 ≤ K) → (∀ p ∈ t, -K ≤ p.1 ∧ p.2 ≤ K) → ∀ p ∈ pairUp (lineS k (cuts s) (cuts t)), -K ≤ p.1 ∧ p.2 ≤ K := by
  obtain ⟨h1, h2, h3, h4⟩ := lineS_facts hk (cuts_rising hs) (cuts_rising ht) (by rw [cuts_length]; omega) (by rw [cuts_length]; omega)
  have h5 := cuts_pairUp _ h4
  refine ⟨canon_pairUp _ h1, fun x => by rw [h5, h3], h5, fun K g1 g2 p hp => ?_⟩
  have all : ∀ c ∈ lineS k (cuts s) (cuts t), -K ≤ c ∧ c ≤ K := fun c hc => by
    rcases h2 c hc with h | h
    · obtain ⟨q, hq, e⟩ := mem_cuts.1 h
      have := g1 q hq
      have := canon_lt hs q hq
      omega
    · obtain ⟨q, hq, e⟩ := mem_cuts.1 h
      have := g2 q hq
      have := canon_lt ht q hq
      omega
  rw [← h5] at all
  exact ⟨(all p.1 (mem_cuts.2 ⟨p, hp, .inl rfl⟩)).1, (all p.2 (mem_cuts.2 ⟨p, hp, .inr rfl⟩)).2⟩
theorem merge_facts {k : Bool → Bool → Bool} (hk : k false false = false) : ∀ (n : Nat) (a b : List Band) (y e : Int) (out : List Band), (e - y).toNat ≤ n → SOK a → SOK b → SOK out → (∀ t ∈ out, t.y1 ≤ y) → (∀ t ∈ a, t.y1 ≤ e) → (∀ t ∈ b, t.y1 ≤ e) →
    SOK (mergeF k n a b y e out) ∧ (∀ x z, at' (mergeF k n a b y e out) x z = if z < y then at' out x z else k (at' a x z) (at' b x z)) ∧ ∀ K, InK K a → InK K b → InK K out → -K ≤ y → e ≤ K → InK K (mergeF k n a b y e out) := by
  intro n
  have stop : ∀ (a b : List Band) (y e : Int) (out : List Band), ¬ y < e → SOK out → (∀ t ∈ out, t.y1 ≤ y) → (∀ t ∈ a, t.y1 ≤ e) → (∀ t ∈ b, t.y1 ≤ e) → ∀ x z, at' out x z = if z < y then at' out x z else k (at' a x z) (at' b x z) := fun a b y e out hn ho h1 h2 h3 x z => by
    split
    · rfl
    · rw [at_off (s := out) fun t ht => .inr (by have := h1 t ht; omega), at_off (s := a) fun t ht => .inr (by have := h2 t ht; omega), at_off (s := b) fun t ht => .inr (by have := h3 t ht; omega), hk]
  induction n with
  | zero =>
    intro a b y e out hn ha hb ho h1 h2 h3
    exact ⟨ho, stop a b y e out (by omega) ho h1 h2 h3, fun K _ _ g _ _ => g⟩
  | succ n ih =>
    intro a b y e out hn ha hb ho h1 h2 h3
    rw [mergeF]
    split
    · rename_i hlt
      obtain ⟨a1, a2, a3⟩ := dropTo_facts (y := y) ha
      obtain ⟨b1, b2, b3⟩ := dropTo_facts (y := y) hb
      obtain ⟨c1, c2, c3, c4, c5⟩ := atS_facts a1 (fun t ht => (a2 t ht).2) hlt
      obtain ⟨d1, d2, d3, d4, d5⟩ := atS_facts b1 (fun t ht => (b2 t ht).2) hlt
      obtain ⟨r1, r2, r3, r4⟩ := row_step hk c1 d1
      obtain ⟨nx, hnx⟩ : ∃ nx, nx = min (atS (dropTo y a) y e).2 (atS (dropTo y b) y e).2 := ⟨_, rfl⟩
      rw [← hnx]
      have n1 : y < nx := by omega
      have n2 : nx ≤ e := by omega
      obtain ⟨p1, p2, p3, p4⟩ := push_facts (b := ⟨y, nx, pairUp (lineS k (cuts (atS (dropTo y a) y e).1) (cuts (atS (dropTo y b) y e).1))⟩) ho n1 r1 h1
      obtain ⟨i1, i2, i3⟩ := ih (dropTo y a) (dropTo y b) nx e _ (by omega) a1 b1 p1 p2 (fun t ht => h2 t (a2 t ht).1) (fun t ht => h3 t (b2 t ht).1)
      refine ⟨i1, fun x z => ?_, fun K g1 g2 g3 g4 g5 => ?_⟩
      · rw [i2 x z, p3 x z, at_one]
        by_cases z1 : z < y
        · rw [if_pos (by omega), if_pos z1, decide_eq_false (by omega : ¬ y ≤ z)]
          simp
        · rw [if_neg z1]
          by_cases z2 : z < nx
          · rw [if_pos z2, decide_eq_true (by omega : y ≤ z), decide_eq_true z2, r2 x, ← c5 x z (by omega) (by omega), ← d5 x z (by omega) (by omega), a3 x z (by omega), b3 x z (by omega), at_off (s := out) fun t ht => .inr (by have := h1 t ht; omega)]
            simp
          · rw [if_neg z2, a3 x z (by omega), b3 x z (by omega)]
      · refine i3 K (fun t ht => g1 t (a2 t ht).1) (fun t ht => g2 t (b2 t ht).1) (fun t ht => ?_) (by omega) g5
        have e1 := p2 t ht
        have e1 : t.y1 ≤ nx := e1
        have rr := r4 K (fun p hp => by obtain ⟨q, hq, hp⟩ := c4 p hp; exact (g1 q (a2 q hq).1).2.2 p hp) (fun p hp => by obtain ⟨q, hq, hp⟩ := d4 p hp; exact (g2 q (b2 q hq).1).2.2 p hp)
        rcases p4 t ht with ⟨u, hu, x1, x2⟩ | ⟨x1, x2⟩
        · have := g3 u hu
          rw [← x1, ← x2]
          exact ⟨this.1, by omega, this.2.2⟩
        · rw [x1, x2]
          exact ⟨g4, by omega, rr⟩
    · rename_i hlt
      exact ⟨ho, stop a b y e out hlt ho h1 h2 h3, fun K _ _ g _ _ => g⟩
end Go.Proofs.YtcfhiodoogkcpaaGreatDoor.Reg
