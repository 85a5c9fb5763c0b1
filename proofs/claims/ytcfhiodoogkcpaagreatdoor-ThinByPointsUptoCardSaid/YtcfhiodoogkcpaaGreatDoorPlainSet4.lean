/- The plain law of sets in bands: cores, thin places, and what the laws on thin places say; no program in sight. -/
import Derived.Test.YtcfhiodoogkcpaaGreatDoorPlainSet3
set_option linter.unusedSimpArgs false
set_option linter.unusedVariables false
namespace Go.Proofs.YtcfhiodoogkcpaaGreatDoor.Reg

theorem less_facts {a b : List Band} (ha : SOK a) (hb : SOK b) : SOK (lessS a b) ∧ (∀ x y, at' (lessS a b) x y = (at' a x y && !at' b x y)) ∧ ∀ K, InK K a → InK K b → InK K (lessS a b) := mergeS_facts rfl ha hb
def fstCut (b : Band) : Int := (cuts b.xs).headD 0
def lastCut (b : Band) : Int := ((cuts b.xs).getLast?).getD 0
def wideR (r : Rect) (b : Band) : Rect := ⟨min r.x0 (fstCut b), r.y0, max r.x1 (lastCut b), r.y1⟩
/-- the least rectangle around a set -/
def aroundS : List Band → Rect
  | [] => ⟨0, 0, 0, 0⟩
  | b :: s => (b :: s).foldl wideR ⟨fstCut b, b.y0, (cuts b.xs).getD 1 0, topOf (b :: s)⟩
theorem fst_le {b : Band} (h : Canon b.xs) : ∀ p ∈ b.xs, fstCut b ≤ p.1 := fun p hp => by
  have hr := cuts_rising h
  have hm : p.1 ∈ cuts b.xs := mem_cuts.2 ⟨p, hp, .inl rfl⟩
  unfold fstCut
  cases hc : cuts b.xs with
  | nil => rw [hc] at hm; cases hm
  | cons c u =>
    rw [hc] at hm hr
    show c ≤ p.1
    rcases List.mem_cons.1 hm with e | hm
    · omega
    · have := Rising.behind hr _ hm; omega
theorem le_last {b : Band} (h : Canon b.xs) : ∀ p ∈ b.xs, p.2 ≤ lastCut b := fun p hp => by
  have hr := cuts_rising h
  have hm : p.2 ∈ cuts b.xs := mem_cuts.2 ⟨p, hp, .inr rfl⟩
  unfold lastCut
  cases hl : (cuts b.xs).getLast? with
  | none => rw [List.getLast?_eq_none_iff.1 hl] at hm; cases hm
  | some c =>
    obtain ⟨d, hd⟩ := List.getLast?_eq_some_iff.1 hl
    rw [hd] at hm hr
    show p.2 ≤ c
    rcases List.mem_append.1 hm with hm | hm
    · have := (List.pairwise_append.1 hr).2.2 _ hm c (by simp); omega
    · rw [List.mem_singleton] at hm; omega
theorem cut_in {b : Band} {K : Int} (hb : BOK b) (h : ∀ p ∈ b.xs, -K ≤ p.1 ∧ p.2 ≤ K) : -K ≤ fstCut b ∧ lastCut b ≤ K ∧ (cuts b.xs).getD 1 0 ≤ K ∧ fstCut b < (cuts b.xs).getD 1 0 := by
  have hc := hb.can
  cases hx : b.xs with
  | nil => exact absurd hx hb.ne
  | cons p u =>
    rw [hx] at h hc
    have h1 := h p (by simp)
    have h2 := hc.head
    refine ⟨by unfold fstCut; rw [hx]; exact h1.1, ?_, by exact h1.2, by unfold fstCut; rw [hx]; exact h2⟩
    unfold lastCut
    rw [hx]
    cases hl : (cuts (p :: u)).getLast? with
    | none => rw [List.getLast?_eq_none_iff] at hl; cases hl
    | some c =>
      obtain ⟨q, hq, e⟩ := mem_cuts.1 (List.mem_of_getLast? hl)
      have := h q hq
      have := canon_lt hc q hq
      show c ≤ K
      omega
theorem wide_facts : ∀ (s : List Band) (r : Rect), (s.foldl wideR r).y0 = r.y0 ∧ (s.foldl wideR r).y1 = r.y1 ∧ (s.foldl wideR r).x0 ≤ r.x0 ∧ r.x1 ≤ (s.foldl wideR r).x1 ∧ (∀ b ∈ s, (s.foldl wideR r).x0 ≤ fstCut b ∧ lastCut b ≤ (s.foldl wideR r).x1) ∧
    ∀ K, -K ≤ r.x0 → r.x1 ≤ K → (∀ b ∈ s, -K ≤ fstCut b ∧ lastCut b ≤ K) → -K ≤ (s.foldl wideR r).x0 ∧ (s.foldl wideR r).x1 ≤ K := by
  intro s
  induction s with
  | nil => intro r; exact ⟨rfl, rfl, Int.le_refl _, Int.le_refl _, fun b hb => (by cases hb), fun K h1 h2 _ => ⟨h1, h2⟩⟩
  | cons b s ih =>
    intro r
    obtain ⟨i1, i2, i3, i4, i5, i6⟩ := ih (wideR r b)
    have w1 : (wideR r b).x0 = min r.x0 (fstCut b) := rfl
    have w2 : (wideR r b).x1 = max r.x1 (lastCut b) := rfl
    rw [List.foldl_cons]
    refine ⟨i1, i2, by omega, by omega, fun c hc => ?_, fun K h1 h2 h3 => ?_⟩
    · rcases List.mem_cons.1 hc with e | hc
      · subst e; omega
      · exact i5 c hc
    · have := h3 b (by simp)
      exact i6 K (by omega) (by omega) fun c hc => h3 c (by simp [hc])
theorem around_facts {s : List Band} (h : SOK s) (hn : s ≠ []) : Full (aroundS s) ∧ (∀ x y, at' s x y = true → hasR x y (aroundS s) = true) ∧ ∀ K, InK K s → RK K (aroundS s) := by
  cases s with
  | nil => exact absurd rfl hn
  | cons b s =>
    have hb := h.head
    obtain ⟨w1, w2, w3, w4, w5, w6⟩ := wide_facts (b :: s) ⟨fstCut b, b.y0, (cuts b.xs).getD 1 0, topOf (b :: s)⟩
    have tm := top_max h
    obtain ⟨K0, hK0⟩ : ∃ K, ∀ p ∈ b.xs, -K ≤ p.1 ∧ p.2 ≤ K := by
      have : ∀ l : Spans, ∃ K, ∀ p ∈ l, -K ≤ p.1 ∧ p.2 ≤ K := fun l => by
        induction l with
        | nil => exact ⟨0, fun p h => by cases h⟩
        | cons q l ih =>
          obtain ⟨K, hK⟩ := ih
          refine ⟨max K (max (-q.1) q.2), fun p hp => ?_⟩
          rcases List.mem_cons.1 hp with e | hp
          · subst e; omega
          · have := hK p hp; omega
      exact this _
    have cb := (cut_in hb hK0).2.2.2
    have t1 := tm b (by simp)
    have hlt := hb.lt
    have e1 : aroundS (b :: s) = (b :: s).foldl wideR ⟨fstCut b, b.y0, (cuts b.xs).getD 1 0, topOf (b :: s)⟩ := rfl
    rw [← e1] at w1 w2 w3 w4 w5 w6
    simp only at w1 w2 w3 w4
    refine ⟨⟨by omega, by omega⟩, fun x y hxy => ?_, fun K hk => ?_⟩
    · obtain ⟨c, hc, c1, c2, c3⟩ := at_iff.1 hxy
      have hcb := h.mem c hc
      obtain ⟨p, hp, p1, p2⟩ := (par_cover hcb.can x).1 c3
      have f1 := fst_le hcb.can p hp
      have f2 := le_last hcb.can p hp
      have f3 := w5 c hc
      have f4 := tm c hc
      have f5 : b.y0 ≤ c.y0 := by
        rcases List.mem_cons.1 hc with e | hc
        · subst e; exact Int.le_refl _
        · have := h.above c hc; omega
      exact hasR_iff.2 ⟨by omega, by omega, by omega, by omega⟩
    · obtain ⟨c1, c2, c3, _⟩ := cut_in hb (hk b (by simp)).2.2
      obtain ⟨g1, g2⟩ := w6 K c1 c3 fun c hc => by
        obtain ⟨d1, d2, _, _⟩ := cut_in (h.mem c hc) (hk c hc).2.2
        exact ⟨d1, d2⟩
      have g3 := top_in (K := K) (by simp) hk
      have g4 := (hk b (by simp)).1
      exact ⟨g1, by omega, g2, by omega⟩
/-- the squares of a set all of whose spread lies in it -/
def coreS (s : List Band) (l r d u : Int) : List Band := if s = [] then [] else
  lessS s (spreadS (lessS (bands [shiftR (l + r + d + u + 1) (l + r + d + u + 1) (l + r + d + u + 1) (l + r + d + u + 1) (aroundS s)]) s) r l u d)
theorem core_facts {s : List Band} (h : SOK s) {l r d u : Int} (hl : 0 ≤ l) (hr : 0 ≤ r) (hd : 0 ≤ d) (hu : 0 ≤ u) :
    SOK (coreS s l r d u) ∧ (∀ x y, at' (coreS s l r d u) x y = true ↔ ∀ a b, x - l ≤ a → a ≤ x + r → y - d ≤ b → b ≤ y + u → at' s a b = true) ∧ ∀ K, InK K s → InK (K + (l + r + d + u + 1) + (l + r + d + u)) (coreS s l r d u) := by
  unfold coreS
  by_cases e : s = []
  · rw [if_pos e]
    subst e
    refine ⟨trivial, fun x y => ⟨fun h => (by cases h), fun h => ?_⟩, fun K _ t ht => (by cases ht)⟩
    exact absurd (h x y (by omega) (by omega) (by omega) (by omega)) (by simp [at'])
  · rw [if_neg e]
    obtain ⟨a1, a2, a3⟩ := around_facts h e
    obtain ⟨n, hn⟩ : ∃ n, n = l + r + d + u + 1 := ⟨_, rfl⟩
    rw [← hn]
    have hbox : ∀ q ∈ [shiftR n n n n (aroundS s)], Full q := fun q hq => by
      rw [List.mem_singleton] at hq
      subst hq
      unfold Full at a1
      exact ⟨by show (aroundS s).x0 - n < (aroundS s).x1 + n; omega, by show (aroundS s).y0 - n < (aroundS s).y1 + n; omega⟩
    obtain ⟨b1, b2, b3⟩ := bands_facts hbox
    obtain ⟨c1, c2, c3⟩ := less_facts b1 h
    obtain ⟨d1, d2, d3⟩ := spread_facts c1 hr hl hu hd
    obtain ⟨e1, e2, e3⟩ := less_facts h d1
    refine ⟨e1, fun x y => ?_, fun K hk => ?_⟩
    · rw [e2, Bool.and_eq_true, Bool.not_eq_true']
      constructor
      · rintro ⟨h1, h2⟩ a b g1 g2 g3 g4
        cases hab : at' s a b with
        | true => rfl
        | false =>
          have ha := hasR_iff.1 (a2 x y h1)
          have : at' (spreadS (lessS (bands [shiftR n n n n (aroundS s)]) s) r l u d) x y = true := (d2 x y).2 ⟨a, b, by
            rw [c2, b2, hab]
            have : hasR a b (shiftR n n n n (aroundS s)) = true := hasR_iff.2 ⟨by show (aroundS s).x0 - n ≤ a; omega, by show a < (aroundS s).x1 + n; omega, by show (aroundS s).y0 - n ≤ b; omega, by show b < (aroundS s).y1 + n; omega⟩
            simp [this], by omega, by omega, by omega, by omega⟩
          rw [h2] at this
          cases this
      · intro hall
        refine ⟨hall x y (by omega) (by omega) (by omega) (by omega), ?_⟩
        rw [Bool.eq_false_iff]
        intro hp
        obtain ⟨a, b, g0, g1, g2, g3, g4⟩ := (d2 x y).1 hp
        rw [c2, hall a b (by omega) (by omega) (by omega) (by omega)] at g0
        simp at g0
    · have k1 : InK (K + n) (bands [shiftR n n n n (aroundS s)]) := b3 _ fun q hq => by
        rw [List.mem_singleton] at hq
        subst hq
        obtain ⟨f1, f2, f3, f4⟩ := a3 K hk
        exact ⟨by show -(K + n) ≤ (aroundS s).x0 - n; omega, by show -(K + n) ≤ (aroundS s).y0 - n; omega, by show (aroundS s).x1 + n ≤ K + n; omega, by show (aroundS s).y1 + n ≤ K + n; omega⟩
      have up : ∀ {A B : Int} {t : List Band}, A ≤ B → InK A t → InK B t := fun hAB ht b hb => by
        obtain ⟨x1, x2, x3⟩ := ht b hb
        exact ⟨by omega, by omega, fun p hp => by have := x3 p hp; omega⟩
      have k2 := c3 _ k1 (up (by omega) hk)
      have k3 := d3 (K + n) (l + r + d + u) k2 (by omega) (by omega) (by omega) (by omega)
      exact e3 _ (up (by omega) hk) k3
/-- what of a set is thinner than a width -/
def thinS (s : List Band) (w : Int) : List Band := if w < 1 then [] else lessS s (spreadS (coreS s 0 (w - 1) 0 (w - 1)) 0 (w - 1) 0 (w - 1))
/-- whether a place lies in a square of the width within the set -/
def Open (s : List Band) (w x y : Int) : Prop := ∃ a b, a ≤ x ∧ x < a + w ∧ b ≤ y ∧ y < b + w ∧ ∀ c d, a ≤ c → c < a + w → b ≤ d → d < b + w → at' s c d = true
theorem InK.up {A B : Int} {t : List Band} (h : A ≤ B) (ht : InK A t) : InK B t := fun b hb => by
  obtain ⟨x1, x2, x3⟩ := ht b hb
  exact ⟨by omega, by omega, fun p hp => by have := x3 p hp; omega⟩
theorem thin_facts {s : List Band} (h : SOK s) (w : Int) : SOK (thinS s w) ∧ (∀ x y, at' (thinS s w) x y = true ↔ 1 ≤ w ∧ at' s x y = true ∧ ¬ Open s w x y) := by
  unfold thinS
  by_cases hw : w < 1
  · rw [if_pos hw]
    exact ⟨trivial, fun x y => ⟨fun h => (by cases h), fun h => by omega⟩⟩
  · rw [if_neg hw]
    obtain ⟨c1, c2, c3⟩ := core_facts h (l := 0) (r := w - 1) (d := 0) (u := w - 1) (by omega) (by omega) (by omega) (by omega)
    obtain ⟨d1, d2, d3⟩ := spread_facts c1 (l := 0) (r := w - 1) (d := 0) (u := w - 1) (by omega) (by omega) (by omega) (by omega)
    obtain ⟨e1, e2, e3⟩ := less_facts h d1
    refine ⟨e1, fun x y => ?_⟩
    rw [e2, Bool.and_eq_true, Bool.not_eq_true', Bool.eq_false_iff, ne_eq, d2]
    have : (∃ a b, at' (coreS s 0 (w - 1) 0 (w - 1)) a b = true ∧ x - (w - 1) ≤ a ∧ a ≤ x + 0 ∧ y - (w - 1) ≤ b ∧ b ≤ y + 0) ↔ Open s w x y := by
      constructor
      · rintro ⟨a, b, h1, h2, h3, h4, h5⟩
        exact ⟨a, b, by omega, by omega, by omega, by omega, fun c d g1 g2 g3 g4 => (c2 a b).1 h1 c d (by omega) (by omega) (by omega) (by omega)⟩
      · rintro ⟨a, b, h1, h2, h3, h4, h5⟩
        exact ⟨a, b, (c2 a b).2 fun c d g1 g2 g3 g4 => h5 c d (by omega) (by omega) (by omega) (by omega), by omega, by omega, by omega, by omega⟩
    rw [this]
    exact ⟨fun g => ⟨by omega, g⟩, fun g => g.2⟩
theorem thin_in {s : List Band} (h : SOK s) {w : Int} (hw : w ≤ 100000) {K : Int} (hk : InK K s) : InK (K + 500000) (thinS s w) ∧ (1 ≤ w → InK (K + 400000) (coreS s 0 (w - 1) 0 (w - 1)) ∧ InK (K + 500000) (spreadS (coreS s 0 (w - 1) 0 (w - 1)) 0 (w - 1) 0 (w - 1))) := by
  unfold thinS
  by_cases hw1 : w < 1
  · rw [if_pos hw1]
    exact ⟨fun t ht => (by cases ht), fun h => by omega⟩
  · rw [if_neg hw1]
    obtain ⟨c1, c2, c3⟩ := core_facts h (l := 0) (r := w - 1) (d := 0) (u := w - 1) (by omega) (by omega) (by omega) (by omega)
    obtain ⟨d1, d2, d3⟩ := spread_facts c1 (l := 0) (r := w - 1) (d := 0) (u := w - 1) (by omega) (by omega) (by omega) (by omega)
    obtain ⟨e1, e2, e3⟩ := less_facts h d1
    have k1 : InK (K + 400000) (coreS s 0 (w - 1) 0 (w - 1)) := (c3 K hk).up (by omega)
    have k2 : InK (K + 500000) (spreadS (coreS s 0 (w - 1) 0 (w - 1)) 0 (w - 1) 0 (w - 1)) := (d3 _ 100000 k1 (by omega) (by omega) (by omega) (by omega)).up (by omega)
    exact ⟨e3 _ (hk.up (by omega)) k2, fun _ => ⟨k1, k2⟩⟩
/-- a square of a greater width is made of squares of a lesser one -/
theorem open_less {s : List Band} {w v x y : Int} (h0 : 1 ≤ w) (h : w ≤ v) (ho : Open s v x y) : Open s w x y := by
  obtain ⟨a, b, h1, h2, h3, h4, h5⟩ := ho
  refine ⟨max a (x - w + 1), max b (y - w + 1), by omega, by omega, by omega, by omega, fun c d g1 g2 g3 g4 => h5 c d (by omega) (by omega) (by omega) (by omega)⟩
theorem thin_mono {s : List Band} (h : SOK s) {w v : Int} (hw : w ≤ v) (x y : Int) (ht : at' (thinS s w) x y = true) : at' (thinS s v) x y = true := by
  obtain ⟨h1, h2, h3⟩ := ((thin_facts h w).2 x y).1 ht
  exact ((thin_facts h v).2 x y).2 ⟨by omega, h2, fun ho => h3 (open_less h1 hw ho)⟩
theorem thin_sub {s : List Band} (h : SOK s) {w : Int} (x y : Int) (ht : at' (thinS s w) x y = true) : at' s x y = true := (((thin_facts h w).2 x y).1 ht).2.1
theorem thin_one {s : List Band} (h : SOK s) {w : Int} (hw : w ≤ 1) : thinS s w = [] := by
  obtain ⟨h1, h2⟩ := thin_facts h w
  refine empty_of h1 fun x y => ?_
  rw [Bool.eq_false_iff]
  intro hp
  obtain ⟨g1, g2, g3⟩ := (h2 x y).1 hp
  have : w = 1 := by omega
  subst this
  exact g3 ⟨x, y, by omega, by omega, by omega, by omega, fun c d e1 e2 e3 e4 => by rw [show c = x by omega, show d = y by omega]; exact g2⟩
theorem less_empty {a b : List Band} (ha : SOK a) (hb : SOK b) (h : ∀ x y, at' a x y = true → at' b x y = true) : lessS a b = [] := by
  obtain ⟨h1, h2, _⟩ := less_facts ha hb
  refine empty_of h1 fun x y => ?_
  rw [h2]
  cases e : at' a x y with
  | false => rfl
  | true => rw [h x y e]; rfl
theorem less_none {a b : List Band} (ha : SOK a) (hb : SOK b) (h : lessS a b = []) : ∀ x y, at' a x y = true → at' b x y = true := fun x y hx => by
  obtain ⟨_, h2, _⟩ := less_facts ha hb
  have := h2 x y
  rw [h, hx] at this
  cases e : at' b x y with
  | true => rfl
  | false => rw [e] at this; cases this
end Go.Proofs.YtcfhiodoogkcpaaGreatDoor.Reg
