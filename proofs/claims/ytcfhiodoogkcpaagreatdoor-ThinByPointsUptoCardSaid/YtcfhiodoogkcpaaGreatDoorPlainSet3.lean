/- The plain law of sets in bands: what rectangles cover, spreading, cores, thin places; no program in sight. -/
import Derived.Test.YtcfhiodoogkcpaaGreatDoorPlainSet2
set_option linter.unusedSimpArgs false
set_option linter.unusedVariables false
namespace Go.Proofs.YtcfhiodoogkcpaaGreatDoor.Reg

def hasR (x y : Int) (r : Rect) : Bool := ((decide (r.x0 ≤ x) && decide (x < r.x1)) && decide (r.y0 ≤ y)) && decide (y < r.y1)
theorem hasR_iff {x y : Int} {r : Rect} : hasR x y r = true ↔ r.x0 ≤ x ∧ x < r.x1 ∧ r.y0 ≤ y ∧ y < r.y1 := by
  simp [hasR, and_assoc]
def Full (r : Rect) : Prop := r.x0 < r.x1 ∧ r.y0 < r.y1
def RK (K : Int) (r : Rect) : Prop := -K ≤ r.x0 ∧ -K ≤ r.y0 ∧ r.x1 ≤ K ∧ r.y1 ≤ K
theorem gap {ys : List Int} (h : Rising ys) {k : Nat} {a b c : Int} (ha : ys[k]? = some a) (hb : ys[k + 1]? = some b) (hc : c ∈ ys) : c ≤ a ∨ b ≤ c := by
  obtain ⟨j, hj⟩ := List.mem_iff_getElem?.1 hc
  obtain ⟨a1, a2⟩ := List.getElem?_eq_some_iff.1 ha
  obtain ⟨b1, b2⟩ := List.getElem?_eq_some_iff.1 hb
  obtain ⟨j1, j2⟩ := List.getElem?_eq_some_iff.1 hj
  have H := List.pairwise_iff_getElem.1 h
  rcases Nat.lt_trichotomy j k with e | e | e
  · have := H j k j1 a1 e; omega
  · subst e; rw [a2] at j2; omega
  · rcases Nat.lt_or_ge (k + 1) j with e2 | e2
    · have := H (k + 1) j b1 j1 e2; omega
    · have : j = k + 1 := by omega
      subst this; rw [b2] at j2; omega
theorem getD_some {l : List Int} {k : Nat} {a : Int} (h : l[k]? = some a) : l.getD k 0 = a := by rw [List.getD_eq_getElem?_getD, h]; rfl
theorem any_row {l : List Rect} (hl : ∀ r ∈ l, Full r) (y : Int) (x : Int) : par (cuts (rowOf l y)) x = l.any (hasR x y) := by
  obtain ⟨h1, h2⟩ := row_facts l y (fun r hr => (hl r hr).1)
  rw [Bool.eq_iff_iff, par_cover h1, h2, List.any_eq_true]
  constructor
  · rintro ⟨r, hr, a, b⟩
    exact ⟨r, hr, hasR_iff.2 ⟨b.1, b.2, a.1, a.2⟩⟩
  · rintro ⟨r, hr, a⟩
    obtain ⟨a1, a2, a3, a4⟩ := hasR_iff.1 a
    exact ⟨r, hr, ⟨a3, a4⟩, a1, a2⟩
theorem row_in {l : List Rect} (hl : ∀ r ∈ l, Full r) (y : Int) {K : Int} (hk : ∀ r ∈ l, RK K r) : ∀ p ∈ rowOf l y, -K ≤ p.1 ∧ p.2 ≤ K := by
  obtain ⟨h1, h2⟩ := row_facts l y (fun r hr => (hl r hr).1)
  intro p hp
  have hlt := canon_lt h1 p hp
  obtain ⟨r, hr, _, a, _⟩ := (h2 p.1).1 ⟨p, hp, Int.le_refl _, hlt⟩
  obtain ⟨q, hq, _, b1, b2⟩ := (h2 (p.2 - 1)).1 ⟨p, hp, by omega, by omega⟩
  have g1 := hk r hr
  have g2 := hk q hq
  exact ⟨by have := g1.1; omega, by have := g2.2.2.1; omega⟩
theorem bandsTo_facts {l : List Rect} (hl : ∀ r ∈ l, Full r) : ∀ (k : Nat) (y : Int), (heights l)[k]? = some y →
    SOK (bandsTo l (heights l) k) ∧ (∀ t ∈ bandsTo l (heights l) k, t.y1 ≤ y) ∧ (∀ x z, at' (bandsTo l (heights l) k) x z = (decide (z < y) && l.any (hasR x z))) ∧ ∀ K, (∀ r ∈ l, RK K r) → InK K (bandsTo l (heights l) k) := by
  obtain ⟨hr, hm⟩ := heights_facts l
  intro k
  induction k with
  | zero =>
    intro y hy
    refine ⟨trivial, fun t ht => (by cases ht), fun x z => ?_, fun K _ t ht => (by cases ht)⟩
    show false = _
    symm
    rw [Bool.and_eq_false_iff]
    by_cases hz : z < y
    · right
      rw [Bool.eq_false_iff]
      intro hp
      obtain ⟨r, hr', h⟩ := List.any_eq_true.1 hp
      obtain ⟨_, _, h3, _⟩ := hasR_iff.1 h
      have h4 : r.y0 ∈ heights l := (hm _).2 ⟨r, hr', .inl rfl⟩
      obtain ⟨j, hj⟩ := List.mem_iff_getElem?.1 h4
      obtain ⟨a1, a2⟩ := List.getElem?_eq_some_iff.1 hy
      obtain ⟨j1, j2⟩ := List.getElem?_eq_some_iff.1 hj
      rcases Nat.eq_zero_or_pos j with e | e
      · subst e; rw [a2] at j2; omega
      · have := List.pairwise_iff_getElem.1 hr 0 j a1 j1 e; omega
    · left; exact decide_eq_false hz
  | succ k ih =>
    intro y hy
    obtain ⟨y', hy'⟩ : ∃ y', (heights l)[k]? = some y' := by
      have := (List.getElem?_eq_some_iff.1 hy).1
      exact ⟨_, List.getElem?_eq_getElem (by omega)⟩
    obtain ⟨i1, i2, i3, i4⟩ := ih y' hy'
    have hlt : y' < y := by
      obtain ⟨a1, a2⟩ := List.getElem?_eq_some_iff.1 hy
      obtain ⟨b1, b2⟩ := List.getElem?_eq_some_iff.1 hy'
      have := List.pairwise_iff_getElem.1 hr k (k + 1) b1 a1 (by omega)
      omega
    rw [bandsTo, getD_some hy', getD_some hy]
    obtain ⟨h1, h2⟩ := row_facts l y' (fun r hr => (hl r hr).1)
    obtain ⟨p1, p2, p3, p4⟩ := push_facts (b := ⟨y', y, rowOf l y'⟩) i1 hlt h1 i2
    refine ⟨p1, p2, fun x z => ?_, fun K hk t ht => ?_⟩
    · rw [p3, i3, at_one]
      show (decide (z < y') && l.any (hasR x z) || decide (y' ≤ z) && decide (z < y) && par (cuts (rowOf l y')) x) = _
      rw [any_row hl]
      by_cases c1 : z < y'
      · rw [decide_eq_true c1, decide_eq_false (by omega : ¬ y' ≤ z), decide_eq_true (by omega : z < y)]
        simp
      · by_cases c2 : z < y
        · rw [decide_eq_false c1, decide_eq_true (by omega : y' ≤ z), decide_eq_true c2]
          simp only [Bool.false_and, Bool.false_or, Bool.true_and]
          rw [Bool.eq_iff_iff, List.any_eq_true, List.any_eq_true]
          have go : ∀ r ∈ l, (hasR x y' r = true ↔ hasR x z r = true) := fun r hr' => by
            have g1 := gap hr hy' hy ((hm r.y0).2 ⟨r, hr', .inl rfl⟩)
            have g2 := gap hr hy' hy ((hm r.y1).2 ⟨r, hr', .inr rfl⟩)
            rw [hasR_iff, hasR_iff]
            omega
          constructor
          · rintro ⟨r, hr', h⟩; exact ⟨r, hr', (go r hr').1 h⟩
          · rintro ⟨r, hr', h⟩; exact ⟨r, hr', (go r hr').2 h⟩
        · rw [decide_eq_false c1, decide_eq_false c2]
          simp
    · have e1 := p2 t ht
      have e1 : t.y1 ≤ y := e1
      have top : ∀ c, c ∈ heights l → -K ≤ c ∧ c ≤ K := fun c hc => by
        obtain ⟨r, hr', e⟩ := (hm c).1 hc
        have g := hk r hr'
        have g2 := hl r hr'
        unfold RK at g
        unfold Full at g2
        omega
      have t1 := top y (List.mem_of_getElem? hy)
      have t2 := top y' (List.mem_of_getElem? hy')
      rcases p4 t ht with ⟨u, hu, x1, x2⟩ | ⟨x1, x2⟩
      · have g := i4 K hk u hu
        rw [← x1, ← x2]
        exact ⟨g.1, by omega, g.2.2⟩
      · rw [x1, x2]
        exact ⟨t2.1, by omega, row_in hl y' hk⟩
theorem bands_facts {l : List Rect} (hl : ∀ r ∈ l, Full r) : SOK (bands l) ∧ (∀ x z, at' (bands l) x z = l.any (hasR x z)) ∧ ∀ K, (∀ r ∈ l, RK K r) → InK K (bands l) := by
  obtain ⟨hr, hm⟩ := heights_facts l
  cases hg : heights l with
  | nil =>
    have e : l = [] := by
      cases l with
      | nil => rfl
      | cons r l =>
        have : r.y0 ∈ heights (r :: l) := (hm _).2 ⟨r, by simp, .inl rfl⟩
        rw [hg] at this; cases this
    subst e
    exact ⟨trivial, fun x z => rfl, fun K _ t ht => by cases ht⟩
  | cons a u =>
    obtain ⟨y, hy⟩ : ∃ y, (heights l)[(heights l).length - 1]? = some y := ⟨_, List.getElem?_eq_getElem (by rw [hg]; simp)⟩
    obtain ⟨h1, h2, h3, h4⟩ := bandsTo_facts hl _ y hy
    refine ⟨h1, fun x z => ?_, h4⟩
    show at' (bandsTo l (heights l) ((heights l).length - 1)) x z = _
    rw [h3]
    by_cases hz : z < y
    · rw [decide_eq_true hz, Bool.true_and]
    · rw [decide_eq_false hz, Bool.false_and]
      symm
      rw [Bool.eq_false_iff]
      intro hp
      obtain ⟨r, hr', h⟩ := List.any_eq_true.1 hp
      obtain ⟨_, _, _, h5⟩ := hasR_iff.1 h
      obtain ⟨j, hj⟩ := List.mem_iff_getElem?.1 ((hm r.y1).2 ⟨r, hr', .inr rfl⟩)
      obtain ⟨a1, a2⟩ := List.getElem?_eq_some_iff.1 hy
      obtain ⟨j1, j2⟩ := List.getElem?_eq_some_iff.1 hj
      rcases Nat.lt_or_ge j ((heights l).length - 1) with e | e
      · have := List.pairwise_iff_getElem.1 hr j _ j1 a1 e; omega
      · have : j = (heights l).length - 1 := by omega
        subst this; rw [a2] at j2; omega
theorem mem_told {s : List Band} {q : Rect} : q ∈ told s ↔ ∃ b ∈ s, ∃ p ∈ b.xs, q = ⟨p.1, b.y0, p.2, b.y1⟩ := by
  simp only [told, List.mem_flatMap, List.mem_map]
  constructor
  · rintro ⟨b, hb, p, hp, e⟩; exact ⟨b, hb, p, hp, e.symm⟩
  · rintro ⟨b, hb, p, hp, e⟩; exact ⟨b, hb, p, hp, e.symm⟩
theorem told_any {s : List Band} (h : SOK s) (x y : Int) : (told s).any (hasR x y) = at' s x y := by
  rw [Bool.eq_iff_iff, List.any_eq_true, at_iff]
  constructor
  · rintro ⟨q, hq, hr⟩
    obtain ⟨b, hb, p, hp, rfl⟩ := mem_told.1 hq
    obtain ⟨h1, h2, h3, h4⟩ := hasR_iff.1 hr
    exact ⟨b, hb, h3, h4, (par_cover (h.mem b hb).can x).2 ⟨p, hp, h1, h2⟩⟩
  · rintro ⟨b, hb, h3, h4, hp⟩
    obtain ⟨p, hp, h1, h2⟩ := (par_cover (h.mem b hb).can x).1 hp
    exact ⟨_, mem_told.2 ⟨b, hb, p, hp, rfl⟩, hasR_iff.2 ⟨h1, h2, h3, h4⟩⟩
theorem told_full {s : List Band} (h : SOK s) : ∀ q ∈ told s, Full q := fun q hq => by
  obtain ⟨b, hb, p, hp, rfl⟩ := mem_told.1 hq
  exact ⟨canon_lt (h.mem b hb).can p hp, (h.mem b hb).lt⟩
theorem told_in {s : List Band} (h : SOK s) {K : Int} (hk : InK K s) : ∀ q ∈ told s, RK K q := fun q hq => by
  obtain ⟨b, hb, p, hp, rfl⟩ := mem_told.1 hq
  obtain ⟨h1, h2, h3⟩ := hk b hb
  obtain ⟨h4, h5⟩ := h3 p hp
  exact ⟨h4, h1, h5, h2⟩
/-- a set that has nothing is empty -/
theorem empty_of {s : List Band} (h : SOK s) (hn : ∀ x y, at' s x y = false) : s = [] := by
  cases s with
  | nil => rfl
  | cons b s =>
    have hb := h.head
    obtain ⟨p, u, e⟩ : ∃ p u, b.xs = p :: u := by
      cases hx : b.xs with
      | nil => exact absurd hx hb.ne
      | cons p u => exact ⟨p, u, rfl⟩
    have h1 : at' (b :: s) p.1 b.y0 = true := at_iff.2 ⟨b, by simp, Int.le_refl _, hb.lt, (par_cover hb.can _).2 ⟨p, by rw [e]; simp, Int.le_refl _, canon_lt hb.can p (by rw [e]; simp)⟩⟩
    rw [hn] at h1
    cases h1
def shiftR (l r d u : Int) (q : Rect) : Rect := ⟨q.x0 - l, q.y0 - d, q.x1 + r, q.y1 + u⟩
/-- what comes of a set when each square is spread -/
def spreadS (s : List Band) (l r d u : Int) : List Band := bands ((told s).map (shiftR l r d u))
theorem spread_facts {s : List Band} (h : SOK s) {l r d u : Int} (hl : 0 ≤ l) (hr : 0 ≤ r) (hd : 0 ≤ d) (hu : 0 ≤ u) :
    SOK (spreadS s l r d u) ∧ (∀ x y, at' (spreadS s l r d u) x y = true ↔ ∃ a b, at' s a b = true ∧ x - r ≤ a ∧ a ≤ x + l ∧ y - u ≤ b ∧ b ≤ y + d) ∧ ∀ K M, InK K s → l ≤ M → r ≤ M → d ≤ M → u ≤ M → InK (K + M) (spreadS s l r d u) := by
  have hf : ∀ q ∈ (told s).map (shiftR l r d u), Full q := fun q hq => by
    obtain ⟨p, hp, rfl⟩ := List.mem_map.1 hq
    have := told_full h p hp
    unfold Full at this
    exact ⟨by show p.x0 - l < p.x1 + r; omega, by show p.y0 - d < p.y1 + u; omega⟩
  obtain ⟨h1, h2, h3⟩ := bands_facts hf
  refine ⟨h1, fun x y => ?_, fun K M hk m1 m2 m3 m4 => h3 _ fun q hq => ?_⟩
  · rw [spreadS, h2, List.any_eq_true]
    constructor
    · rintro ⟨q, hq, hh⟩
      obtain ⟨p, hp, rfl⟩ := List.mem_map.1 hq
      obtain ⟨g1, g2, g3, g4⟩ := hasR_iff.1 hh
      have g1 : p.x0 - l ≤ x := g1
      have g2 : x < p.x1 + r := g2
      have g3 : p.y0 - d ≤ y := g3
      have g4 : y < p.y1 + u := g4
      have hf := told_full h p hp
      unfold Full at hf
      refine ⟨max p.x0 (min x (p.x1 - 1)), max p.y0 (min y (p.y1 - 1)), ?_, by omega, by omega, by omega, by omega⟩
      rw [← told_any h, List.any_eq_true]
      exact ⟨p, hp, hasR_iff.2 ⟨by omega, by omega, by omega, by omega⟩⟩
    · rintro ⟨a, b, hab, g1, g2, g3, g4⟩
      rw [← told_any h, List.any_eq_true] at hab
      obtain ⟨p, hp, hh⟩ := hab
      obtain ⟨f1, f2, f3, f4⟩ := hasR_iff.1 hh
      exact ⟨_, List.mem_map.2 ⟨p, hp, rfl⟩, hasR_iff.2 ⟨by show p.x0 - l ≤ x; omega, by show x < p.x1 + r; omega, by show p.y0 - d ≤ y; omega, by show y < p.y1 + u; omega⟩⟩
  · obtain ⟨p, hp, rfl⟩ := List.mem_map.1 hq
    obtain ⟨f1, f2, f3, f4⟩ := told_in h hk p hp
    exact ⟨by show -(K + M) ≤ p.x0 - l; omega, by show -(K + M) ≤ p.y0 - d; omega, by show p.x1 + r ≤ K + M; omega, by show p.y1 + u ≤ K + M; omega⟩
def loOf (a b : List Band) : Int := match a, b with
  | p :: _, q :: _ => min p.y0 q.y0
  | p :: _, [] => p.y0
  | [], q :: _ => q.y0
  | [], [] => 0
def topOf : List Band → Int
  | [] => 0
  | [b] => b.y1
  | _ :: c :: r => topOf (c :: r)
def hiOf (a b : List Band) : Int := match a, b with
  | p :: r, q :: u => max (topOf (p :: r)) (topOf (q :: u))
  | p :: r, [] => topOf (p :: r)
  | [], q :: u => topOf (q :: u)
  | [], [] => 0
theorem top_max {s : List Band} (h : SOK s) : ∀ t ∈ s, t.y1 ≤ topOf s := by
  induction s with
  | nil => intro t ht; cases ht
  | cons b s ih =>
    cases s with
    | nil => intro t ht; rw [List.mem_singleton] at ht; subst ht; exact Int.le_refl _
    | cons c r =>
      intro t ht
      rw [topOf]
      rcases List.mem_cons.1 ht with e | ht
      · subst e
        have h1 := ih h.tail c (by simp)
        have h2 := h.2.1
        have h3 := h.tail.head.lt
        omega
      · exact ih h.tail t ht
theorem top_in {K : Int} : ∀ {s : List Band}, s ≠ [] → InK K s → topOf s ≤ K
  | [], h, _ => absurd rfl h
  | [b], _, hk => (hk b (by simp)).2.1
  | _ :: c :: r, _, hk => by rw [topOf]; exact top_in (by simp) (fun t ht => hk t (by simp at ht ⊢; exact .inr ht))
/-- two sets merged -/
def mergeS (k : Bool → Bool → Bool) (a b : List Band) : List Band := if a.length + b.length = 0 then [] else mergeF k (hiOf a b - loOf a b).toNat a b (loOf a b) (hiOf a b) []
theorem mergeS_facts {k : Bool → Bool → Bool} (hk : k false false = false) {a b : List Band} (ha : SOK a) (hb : SOK b) :
    SOK (mergeS k a b) ∧ (∀ x y, at' (mergeS k a b) x y = k (at' a x y) (at' b x y)) ∧ ∀ K, InK K a → InK K b → InK K (mergeS k a b) := by
  unfold mergeS
  by_cases e : a.length + b.length = 0
  · rw [if_pos e]
    have ea : a = [] := List.eq_nil_of_length_eq_zero (by omega)
    have eb : b = [] := List.eq_nil_of_length_eq_zero (by omega)
    subst ea eb
    exact ⟨trivial, fun x y => hk.symm, fun K _ _ t ht => by cases ht⟩
  · rw [if_neg e]
    have la : ∀ t ∈ a, loOf a b ≤ t.y0 := fun t ht => by
      cases a with
      | nil => cases ht
      | cons p r =>
        have h1 : p.y0 ≤ t.y0 := by
          rcases List.mem_cons.1 ht with e | ht
          · subst e; exact Int.le_refl _
          · have := ha.above t ht; have := ha.head.lt; omega
        cases b with
        | nil => exact h1
        | cons q u => show min p.y0 q.y0 ≤ t.y0; omega
    have lb : ∀ t ∈ b, loOf a b ≤ t.y0 := fun t ht => by
      cases b with
      | nil => cases ht
      | cons q u =>
        have h1 : q.y0 ≤ t.y0 := by
          rcases List.mem_cons.1 ht with e | ht
          · subst e; exact Int.le_refl _
          · have := hb.above t ht; have := hb.head.lt; omega
        cases a with
        | nil => exact h1
        | cons p r => show min p.y0 q.y0 ≤ t.y0; omega
    have ua : ∀ t ∈ a, t.y1 ≤ hiOf a b := fun t ht => by
      have h1 := top_max ha t ht
      cases a with
      | nil => cases ht
      | cons p r =>
        cases b with
        | nil => exact h1
        | cons q u => show t.y1 ≤ max (topOf (p :: r)) (topOf (q :: u)); omega
    have ub : ∀ t ∈ b, t.y1 ≤ hiOf a b := fun t ht => by
      have h1 := top_max hb t ht
      cases b with
      | nil => cases ht
      | cons q u =>
        cases a with
        | nil => exact h1
        | cons p r => show t.y1 ≤ max (topOf (p :: r)) (topOf (q :: u)); omega
    obtain ⟨m1, m2, m3⟩ := merge_facts hk _ a b (loOf a b) (hiOf a b) [] (Nat.le_refl _) ha hb trivial (fun t ht => by cases ht) ua ub
    refine ⟨m1, fun x y => ?_, fun K g1 g2 => m3 K g1 g2 (fun t ht => by cases ht) ?_ ?_⟩
    · rw [m2]
      split
      · rename_i hy
        rw [at_off (s := a) fun t ht => .inl (by have := la t ht; omega), at_off (s := b) fun t ht => .inl (by have := lb t ht; omega), hk]
        rfl
      · rfl
    · cases a with
      | nil =>
        cases b with
        | nil => exact absurd rfl e
        | cons q u => exact (g2 q (by simp)).1
      | cons p r =>
        cases b with
        | nil => exact (g1 p (by simp)).1
        | cons q u =>
          have := (g1 p (by simp)).1
          have := (g2 q (by simp)).1
          show -K ≤ min p.y0 q.y0
          omega
    · cases a with
      | nil =>
        cases b with
        | nil => exact absurd rfl e
        | cons q u => exact top_in (by simp) g2
      | cons p r =>
        cases b with
        | nil => exact top_in (by simp) g1
        | cons q u =>
          have h1 := top_in (by simp) g1
          have h2 := top_in (by simp) g2
          show max (topOf (p :: r)) (topOf (q :: u)) ≤ K
          omega
def lessK (a b : Bool) : Bool := a && !b
def lessS (a b : List Band) : List Band := mergeS lessK a b
end Go.Proofs.YtcfhiodoogkcpaaGreatDoor.Reg
