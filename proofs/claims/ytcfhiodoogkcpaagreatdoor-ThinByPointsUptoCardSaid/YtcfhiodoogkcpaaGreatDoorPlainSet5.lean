/- The plain law of sets in bands: their sizes; a round of merging; no program in sight. -/
import Derived.Test.YtcfhiodoogkcpaaGreatDoorPlainSet4
set_option linter.unusedSimpArgs false
set_option linter.unusedVariables false
namespace Go.Proofs.YtcfhiodoogkcpaaGreatDoor.Reg

theorem canon_len {hi : Int} : ∀ {s : Spans} {p : Int × Int}, Canon (p :: s) → (∀ q ∈ p :: s, q.2 ≤ hi) → 2 * ((s.length : Int) + 1) ≤ hi - p.1 + 1
  | [], p, h, hb => by
    have h1 := h.head
    have h2 := hb p (by simp)
    simp only [List.length_nil]
    omega
  | q :: s, p, h, hb => by
    have ih := canon_len (s := s) (p := q) h.tail (fun t ht => hb t (by simp at ht ⊢; exact .inr ht))
    have h1 := h.head
    have h2 := h.behind q (by simp)
    simp only [List.length_cons]
    omega
theorem spans_len {s : Spans} {K : Int} (h : Canon s) (hK : 0 ≤ K) (hb : ∀ q ∈ s, -K ≤ q.1 ∧ q.2 ≤ K) : 2 * (s.length : Int) ≤ 2 * K + 1 := by
  cases s with
  | nil => simp only [List.length_nil]; omega
  | cons p s =>
    have h1 := canon_len h (fun q hq => (hb q hq).2)
    have h2 := (hb p (by simp)).1
    simp only [List.length_cons]
    omega
theorem sok_len {hi : Int} : ∀ {s : List Band} {b : Band}, SOK (b :: s) → (∀ t ∈ b :: s, t.y1 ≤ hi) → (s.length : Int) + 1 ≤ hi - b.y0
  | [], b, h, hb => by
    have h1 := h.head.lt
    have h2 := hb b (by simp)
    simp only [List.length_nil]
    omega
  | c :: s, b, h, hb => by
    have ih := sok_len (s := s) (b := c) h.tail (fun t ht => hb t (by simp at ht ⊢; exact .inr ht))
    have h1 := h.head.lt
    have h2 := h.2.1
    simp only [List.length_cons]
    omega
theorem bands_len {s : List Band} {K : Int} (h : SOK s) (hK : 0 ≤ K) (hb : InK K s) : (s.length : Int) ≤ 2 * K := by
  cases s with
  | nil => simp only [List.length_nil]; omega
  | cons b s =>
    have h1 := sok_len h (fun t ht => (hb t ht).2.1)
    have h2 := (hb b (by simp)).1
    simp only [List.length_cons]
    omega
theorem xs_len {s : List Band} {K : Int} (h : SOK s) (hK : 0 ≤ K) (hb : InK K s) : ∀ t ∈ s, 2 * (t.xs.length : Int) ≤ 2 * K + 1 := fun t ht => spans_len (h.mem t ht).can hK (hb t ht).2.2
theorem told_len {M : Nat} : ∀ {s : List Band}, (∀ t ∈ s, t.xs.length ≤ M) → (told s).length ≤ s.length * M
  | [], _ => by simp [told]
  | b :: s, h => by
    have ih := told_len (s := s) (fun t ht => h t (by simp [ht]))
    have h1 := h b (by simp)
    unfold told at ih ⊢
    rw [List.flatMap_cons, List.length_append, List.length_map, List.length_cons, Nat.add_mul]
    omega
/-- the rectangles of a set of places up to 1400000 -/
theorem told_small {s : List Band} (h : SOK s) (hb : InK 1400000 s) : (told s).length ≤ 4398046511104 := by
  have h1 := bands_len h (by omega) hb
  have h2 := told_len (M := 1400000) (s := s) fun t ht => by have := xs_len h (by omega) hb t ht; omega
  have h3 : s.length * 1400000 ≤ 2800000 * 1400000 := Nat.mul_le_mul_right _ (by omega)
  omega
/-- a round of merging -/
theorem merge_round {K : Int} {a b out : List Band} {y e : Int} (hlt : y < e) (ha : SOK a) (hb : SOK b) (ho : SOK out) (h1 : ∀ t ∈ out, t.y1 ≤ y) (ka : InK K a) (kb : InK K b) (ko : InK K out) (hy : -K ≤ y) (he : e ≤ K) :
    ∃ nx L, nx = min (atS (dropTo y a) y e).2 (atS (dropTo y b) y e).2 ∧ L = lineS lessK (cuts (atS (dropTo y a) y e).1) (cuts (atS (dropTo y b) y e).1) ∧ y < nx ∧ nx ≤ e ∧ cuts (pairUp L) = L ∧ SOK (dropTo y a) ∧ SOK (dropTo y b) ∧ InK K (dropTo y a) ∧ InK K (dropTo y b) ∧
      SOK (pushB out ⟨y, nx, pairUp L⟩) ∧ (∀ t ∈ pushB out ⟨y, nx, pairUp L⟩, t.y1 ≤ nx) ∧ InK K (pushB out ⟨y, nx, pairUp L⟩) ∧ Canon (atS (dropTo y a) y e).1 ∧ Canon (atS (dropTo y b) y e).1 ∧ (∀ p ∈ (atS (dropTo y a) y e).1, -K ≤ p.1 ∧ p.2 ≤ K) ∧ (∀ p ∈ (atS (dropTo y b) y e).1, -K ≤ p.1 ∧ p.2 ≤ K) := by
  obtain ⟨a1, a2, a3⟩ := dropTo_facts (y := y) ha
  obtain ⟨b1, b2, b3⟩ := dropTo_facts (y := y) hb
  obtain ⟨c1, c2, c3, c4, c5⟩ := atS_facts a1 (fun t ht => (a2 t ht).2) hlt
  obtain ⟨d1, d2, d3, d4, d5⟩ := atS_facts b1 (fun t ht => (b2 t ht).2) hlt
  obtain ⟨r1, r2, r3, r4⟩ := row_step (k := lessK) rfl c1 d1
  obtain ⟨nx, hnx⟩ : ∃ nx, nx = min (atS (dropTo y a) y e).2 (atS (dropTo y b) y e).2 := ⟨_, rfl⟩
  have n1 : y < nx := by omega
  have n2 : nx ≤ e := by omega
  have g1 : ∀ p ∈ (atS (dropTo y a) y e).1, -K ≤ p.1 ∧ p.2 ≤ K := fun p hp => by obtain ⟨q, hq, hp⟩ := c4 p hp; exact (ka q (a2 q hq).1).2.2 p hp
  have g2 : ∀ p ∈ (atS (dropTo y b) y e).1, -K ≤ p.1 ∧ p.2 ≤ K := fun p hp => by obtain ⟨q, hq, hp⟩ := d4 p hp; exact (kb q (b2 q hq).1).2.2 p hp
  have rr := r4 K g1 g2
  obtain ⟨p1, p2, p3, p4⟩ := push_facts (b := ⟨y, nx, pairUp (lineS lessK (cuts (atS (dropTo y a) y e).1) (cuts (atS (dropTo y b) y e).1))⟩) ho n1 r1 h1
  refine ⟨nx, _, hnx, rfl, n1, n2, r3, a1, b1, fun t ht => ka t (a2 t ht).1, fun t ht => kb t (b2 t ht).1, p1, p2, fun t ht => ?_, c1, d1, g1, g2⟩
  have e1 := p2 t ht
  have e1 : t.y1 ≤ nx := e1
  rcases p4 t ht with ⟨u, hu, x1, x2⟩ | ⟨x1, x2⟩
  · have := ko u hu
    rw [← x1, ← x2]
    exact ⟨this.1, by omega, this.2.2⟩
  · rw [x1, x2]
    exact ⟨hy, by omega, rr⟩
theorem top_get : ∀ (b : Band) (s : List Band), ∃ t, (b :: s)[s.length]? = some t ∧ t.y1 = topOf (b :: s)
  | b, [] => ⟨b, rfl, rfl⟩
  | b, c :: s => by
    obtain ⟨t, h1, h2⟩ := top_get c s
    exact ⟨t, by simpa using h1, by rw [topOf]; exact h2⟩
theorem lo_ge {K : Int} {a b : List Band} (ka : InK K a) (kb : InK K b) (hn : a.length + b.length ≠ 0) : -K ≤ loOf a b := by
  cases a with
  | nil =>
    cases b with
    | nil => simp at hn
    | cons q u => exact (kb q (by simp)).1
  | cons p r =>
    cases b with
    | nil => exact (ka p (by simp)).1
    | cons q u =>
      have := (ka p (by simp)).1
      have := (kb q (by simp)).1
      show -K ≤ min p.y0 q.y0
      omega
theorem hi_le {K : Int} {a b : List Band} (ka : InK K a) (kb : InK K b) (hn : a.length + b.length ≠ 0) : hiOf a b ≤ K := by
  cases a with
  | nil =>
    cases b with
    | nil => simp at hn
    | cons q u => exact top_in (by simp) kb
  | cons p r =>
    cases b with
    | nil => exact top_in (by simp) ka
    | cons q u =>
      have h1 := top_in (by simp) ka
      have h2 := top_in (by simp) kb
      show max (topOf (p :: r)) (topOf (q :: u)) ≤ K
      omega
end Go.Proofs.YtcfhiodoogkcpaaGreatDoor.Reg
