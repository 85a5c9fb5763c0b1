/- The plain law of sets in bands: cut lists, merging, spreading, cores; no program in sight. -/
import Derived.Test.YtcfhiodoogkcpaaGreatDoorPlainRegion
set_option linter.unusedSimpArgs false
set_option linter.unusedVariables false
namespace Go.Proofs.YtcfhiodoogkcpaaGreatDoor.Reg

/-- whether the cuts at or before a place are odd in number -/
def par : List Int → Int → Bool
  | [], _ => false
  | c :: a, x => Bool.xor (decide (c ≤ x)) (par a x)
theorem par_before {a : List Int} {x : Int} (h : ∀ c ∈ a, x < c) : par a x = false := by
  induction a with
  | nil => rfl
  | cons c a ih =>
    have h1 := h c (by simp)
    rw [par, ih (fun d hd => h d (by simp [hd])), decide_eq_false (by omega)]
    rfl
theorem par_after {a : List Int} {x : Int} (h : ∀ c ∈ a, c ≤ x) : par a x = decide (a.length % 2 = 1) := by
  induction a with
  | nil => rfl
  | cons c a ih =>
    have h1 := h c (by simp)
    rw [par, ih (fun d hd => h d (by simp [hd])), decide_eq_true h1, List.length_cons]
    rcases Nat.mod_two_eq_zero_or_one a.length with e | e
    · rw [decide_eq_false (by omega), decide_eq_true (by omega)]; rfl
    · rw [decide_eq_true (by omega), decide_eq_false (by omega)]; rfl
theorem Rising.tail {c : Int} {a : List Int} (h : Rising (c :: a)) : Rising a := (List.pairwise_cons.1 h).2
theorem Rising.behind {c : Int} {a : List Int} (h : Rising (c :: a)) : ∀ d ∈ a, c < d := (List.pairwise_cons.1 h).1
def nextCut : List Int → List Int → Option Int
  | [], [] => none
  | p :: _, [] => some p
  | [], q :: _ => some q
  | p :: _, q :: _ => some (if p ≤ q then p else q)
/-- a list past a cut, and whether one is within -/
def adv (x : Int) : List Int → Bool → List Int × Bool
  | [], s => ([], s)
  | p :: r, s => if p = x then (r, !s) else (p :: r, s)
theorem adv_facts {x : Int} {a : List Int} {s : Bool} (ha : Rising a) (hx : ∀ c ∈ a, x ≤ c) : Rising (adv x a s).1 ∧ (∀ c ∈ (adv x a s).1, x < c ∧ c ∈ a) ∧ (∀ y, x ≤ y → Bool.xor (adv x a s).2 (par (adv x a s).1 y) = Bool.xor s (par a y)) ∧ (adv x a s).1.length ≤ a.length ∧ (a.head? = some x → (adv x a s).1.length + 1 = a.length) := by
  cases a with
  | nil => exact ⟨ha, fun c h => by simp [adv] at h, fun y _ => rfl, Nat.le_refl _, fun h => by cases h⟩
  | cons p r =>
    by_cases e : p = x
    · subst e
      have e1 : adv p (p :: r) s = (r, !s) := by simp [adv]
      rw [e1]
      refine ⟨ha.tail, fun c hc => ⟨ha.behind c hc, by simp [hc]⟩, fun y hy => ?_, by simp, fun _ => rfl⟩
      rw [par, decide_eq_true hy]
      cases s <;> cases par r y <;> rfl
    · have e1 : adv x (p :: r) s = (p :: r, s) := by simp [adv, e]
      rw [e1]
      refine ⟨ha, fun c hc => ⟨?_, hc⟩, fun y hy => rfl, Nat.le_refl _, fun h => absurd (by simpa using h) e⟩
      have h1 := hx p (by simp)
      rcases List.mem_cons.1 hc with h | h
      · omega
      · have := ha.behind c h
        omega
def lineF (k : Bool → Bool → Bool) : Nat → List Int → List Int → Bool → Bool → Bool → List Int
  | 0, _, _, _, _, _ => []
  | n + 1, a, b, ia, ib, is => match nextCut a b with
    | none => []
    | some x => if k (adv x a ia).2 (adv x b ib).2 = is then lineF k n (adv x a ia).1 (adv x b ib).1 (adv x a ia).2 (adv x b ib).2 is
      else x :: lineF k n (adv x a ia).1 (adv x b ib).1 (adv x a ia).2 (adv x b ib).2 (k (adv x a ia).2 (adv x b ib).2)
/-- two rows of cuts, merged -/
def lineS (k : Bool → Bool → Bool) (a b : List Int) : List Int := lineF k (a.length + b.length) a b false false false
theorem next_facts {a b : List Int} (ha : Rising a) (hb : Rising b) : match nextCut a b with
    | none => a = [] ∧ b = []
    | some x => (∀ c ∈ a, x ≤ c) ∧ (∀ c ∈ b, x ≤ c) ∧ (a.head? = some x ∨ b.head? = some x) := by
  cases a with
  | nil =>
    cases b with
    | nil => exact ⟨rfl, rfl⟩
    | cons q u =>
      show (∀ c ∈ ([] : List Int), q ≤ c) ∧ (∀ c ∈ q :: u, q ≤ c) ∧ (([] : List Int).head? = some q ∨ (q :: u).head? = some q)
      refine ⟨fun c h => (by cases h), fun c h => ?_, .inr rfl⟩
      rcases List.mem_cons.1 h with h | h
      · omega
      · have := hb.behind c h; omega
  | cons p r =>
    cases b with
    | nil =>
      show (∀ c ∈ p :: r, p ≤ c) ∧ (∀ c ∈ ([] : List Int), p ≤ c) ∧ ((p :: r).head? = some p ∨ ([] : List Int).head? = some p)
      refine ⟨fun c h => ?_, fun c h => (by cases h), .inl rfl⟩
      rcases List.mem_cons.1 h with h | h
      · omega
      · have := ha.behind c h; omega
    | cons q u =>
      have h1 : ∀ c ∈ p :: r, p ≤ c := fun c h => by
        rcases List.mem_cons.1 h with h | h
        · omega
        · have := ha.behind c h; omega
      have h2 : ∀ c ∈ q :: u, q ≤ c := fun c h => by
        rcases List.mem_cons.1 h with h | h
        · omega
        · have := hb.behind c h; omega
      by_cases e : p ≤ q
      · simp only [nextCut, if_pos e]
        exact ⟨h1, fun c h => by have := h2 c h; omega, .inl rfl⟩
      · simp only [nextCut, if_neg e]
        exact ⟨fun c h => by have := h1 c h; omega, h2, .inr rfl⟩
theorem line_facts (k : Bool → Bool → Bool) : ∀ (n : Nat) (a b : List Int) (ia ib is : Bool), a.length + b.length ≤ n → Rising a → Rising b → is = k ia ib →
    Rising (lineF k n a b ia ib is) ∧ (∀ c ∈ lineF k n a b ia ib is, c ∈ a ∨ c ∈ b) ∧ (∀ y, Bool.xor is (par (lineF k n a b ia ib is) y) = k (Bool.xor ia (par a y)) (Bool.xor ib (par b y))) := by
  intro n
  induction n with
  | zero =>
    intro a b ia ib is hn _ _ he
    have ea : a = [] := List.eq_nil_of_length_eq_zero (by omega)
    have eb : b = [] := List.eq_nil_of_length_eq_zero (by omega)
    subst ea eb
    exact ⟨List.Pairwise.nil, fun c h => by simp [lineF] at h, fun y => by simp [lineF, par, he]⟩
  | succ n ih =>
    intro a b ia ib is hn ha hb he
    have hx := next_facts ha hb
    unfold lineF
    cases hc : nextCut a b with
    | none =>
      rw [hc] at hx
      obtain ⟨rfl, rfl⟩ := hx
      exact ⟨List.Pairwise.nil, fun c h => by simp at h, fun y => by simp [par, he]⟩
    | some x =>
      rw [hc] at hx
      obtain ⟨xa, xb, xh⟩ := hx
      obtain ⟨a1, a2, a3, a4, a5⟩ := adv_facts (s := ia) ha xa
      obtain ⟨b1, b2, b3, b4, b5⟩ := adv_facts (s := ib) hb xb
      have hn' : (adv x a ia).1.length + (adv x b ib).1.length ≤ n := by
        rcases xh with h | h
        · have := a5 h; omega
        · have := b5 h; omega
      simp only
      have early : ∀ y, y < x → k (Bool.xor ia (par a y)) (Bool.xor ib (par b y)) = is := fun y hy => by
        rw [par_before (fun c h => by have := xa c h; omega), par_before (fun c h => by have := xb c h; omega), he]; simp
      split
      · rename_i hk
        obtain ⟨i1, i2, i3⟩ := ih _ _ _ _ is hn' a1 b1 hk.symm
        refine ⟨i1, fun c h => ?_, fun y => ?_⟩
        · rcases i2 c h with h | h
          · exact .inl (a2 c h).2
          · exact .inr (b2 c h).2
        · by_cases hy : x ≤ y
          · rw [i3 y, a3 y hy, b3 y hy]
          · rw [early y (by omega), par_before (fun c h => by
              rcases i2 c h with h | h
              · have := (a2 c h).1; omega
              · have := (b2 c h).1; omega)]
            simp
      · rename_i hk
        obtain ⟨i1, i2, i3⟩ := ih _ _ _ _ (k (adv x a ia).2 (adv x b ib).2) hn' a1 b1 rfl
        have up : ∀ c ∈ lineF k n (adv x a ia).1 (adv x b ib).1 (adv x a ia).2 (adv x b ib).2 (k (adv x a ia).2 (adv x b ib).2), x < c := fun c h => by
          rcases i2 c h with h | h
          · exact (a2 c h).1
          · exact (b2 c h).1
        refine ⟨List.pairwise_cons.2 ⟨up, i1⟩, fun c h => ?_, fun y => ?_⟩
        · rcases List.mem_cons.1 h with h | h
          · subst h
            rcases xh with h | h
            · exact .inl (List.mem_of_mem_head? (by rw [h]; rfl))
            · exact .inr (List.mem_of_mem_head? (by rw [h]; rfl))
          · rcases i2 c h with h | h
            · exact .inl (a2 c h).2
            · exact .inr (b2 c h).2
        · by_cases hy : x ≤ y
          · rw [← a3 y hy, ← b3 y hy, ← i3 y, par, decide_eq_true hy]
            revert hk
            cases k (adv x a ia).2 (adv x b ib).2 <;> cases is <;> simp
          · rw [early y (by omega), par_before (fun c h => by
              rcases List.mem_cons.1 h with h | h
              · omega
              · have := up c h; omega)]
            simp
theorem lineS_facts {k : Bool → Bool → Bool} (hk : k false false = false) {a b : List Int} (ha : Rising a) (hb : Rising b) (ea : a.length % 2 = 0) (eb : b.length % 2 = 0) :
    Rising (lineS k a b) ∧ (∀ c ∈ lineS k a b, c ∈ a ∨ c ∈ b) ∧ (∀ y, par (lineS k a b) y = k (par a y) (par b y)) ∧ (lineS k a b).length % 2 = 0 := by
  obtain ⟨h1, h2, h3⟩ := line_facts k _ a b false false false (Nat.le_refl _) ha hb hk.symm
  have h4 : ∀ y, par (lineS k a b) y = k (par a y) (par b y) := fun y => by have := h3 y; rw [Bool.false_xor, Bool.false_xor, Bool.false_xor] at this; exact this
  refine ⟨h1, h2, h4, ?_⟩
  obtain ⟨m, hm⟩ : ∃ m : Int, (∀ c ∈ a, c ≤ m) ∧ ∀ c ∈ b, c ≤ m := by
    have up : ∀ l : List Int, ∃ m : Int, ∀ c ∈ l, c ≤ m := fun l => by
      induction l with
      | nil => exact ⟨0, fun c h => by cases h⟩
      | cons c l ih =>
        obtain ⟨m, hm⟩ := ih
        refine ⟨max m c, fun d hd => ?_⟩
        rcases List.mem_cons.1 hd with h | h
        · omega
        · have := hm d h; omega
    obtain ⟨m1, g1⟩ := up a
    obtain ⟨m2, g2⟩ := up b
    exact ⟨max m1 m2, fun c h => by have := g1 c h; omega, fun c h => by have := g2 c h; omega⟩
  have h5 := h4 m
  rw [par_after hm.1, par_after hm.2, par_after (a := lineS k a b) (fun c h => (h2 c h).elim (hm.1 c) (hm.2 c)), ea, eb] at h5
  simp [hk] at h5
  omega
/-- cuts of spans -/
def cuts : Spans → List Int
  | [] => []
  | p :: s => p.1 :: p.2 :: cuts s
def pairUp : List Int → Spans
  | p :: q :: r => (p, q) :: pairUp r
  | _ => []
theorem cuts_pairUp : ∀ l : List Int, l.length % 2 = 0 → cuts (pairUp l) = l
  | [], _ => rfl
  | [_], h => by simp at h
  | p :: q :: r, h => by
    rw [pairUp, cuts, cuts_pairUp r (by simp at h ⊢; omega)]
theorem cuts_length (s : Spans) : (cuts s).length = 2 * s.length := by
  induction s with
  | nil => rfl
  | cons p s ih => simp only [cuts, List.length_cons, ih]; omega
theorem mem_cuts {s : Spans} {c : Int} : c ∈ cuts s ↔ ∃ p ∈ s, c = p.1 ∨ c = p.2 := by
  induction s with
  | nil => simp [cuts]
  | cons p s ih =>
    simp only [cuts, List.mem_cons, ih]
    constructor
    · rintro (h | h | ⟨q, hq, h⟩)
      · exact ⟨p, .inl rfl, .inl h⟩
      · exact ⟨p, .inl rfl, .inr h⟩
      · exact ⟨q, .inr hq, h⟩
    · rintro ⟨q, rfl | hq, h⟩
      · rcases h with h | h
        · exact .inl h
        · exact .inr (.inl h)
      · exact .inr (.inr ⟨q, hq, h⟩)
theorem cuts_rising {s : Spans} (h : Canon s) : Rising (cuts s) := by
  induction s with
  | nil => exact List.Pairwise.nil
  | cons p s ih =>
    have h1 := h.head
    have h2 := h.behind
    have hc : ∀ d ∈ cuts s, p.2 < d := fun d hd => by
      obtain ⟨q, hq, e⟩ := mem_cuts.1 hd
      have h3 := h2 q hq
      have h4 : q.1 < q.2 := by
        clear ih e h1 h2 h3 hd
        have := h.tail
        clear h
        induction s with
        | nil => cases hq
        | cons a s ih2 =>
          rcases List.mem_cons.1 hq with rfl | hq
          · exact this.head
          · exact ih2 hq this.tail
      omega
    refine List.pairwise_cons.2 ⟨fun d hd => ?_, List.pairwise_cons.2 ⟨hc, ih h.tail⟩⟩
    rcases List.mem_cons.1 hd with h | h
    · omega
    · have := hc d h; omega
theorem canon_pairUp : ∀ l : List Int, Rising l → Canon (pairUp l)
  | [], _ => trivial
  | [_], _ => trivial
  | p :: q :: r, h => by
    have h1 := h.behind q (by simp)
    have h2 := h.tail.behind
    refine Canon.cons h1 (fun t ht => ?_) (canon_pairUp r h.tail.tail)
    have : ∀ (l : List Int) (t : Int × Int), t ∈ pairUp l → t.1 ∈ l := fun l => by
      induction l using pairUp.induct with
      | case1 a b l ih =>
        intro t ht
        rw [pairUp, List.mem_cons] at ht
        rcases ht with h | h
        · subst h; simp
        · have := ih t h; simp [this]
      | case2 l hl => intro t ht; rw [pairUp] at ht; cases ht; exact hl
    exact h2 _ (this r t ht)
theorem par_cover {s : Spans} (h : Canon s) (x : Int) : par (cuts s) x = true ↔ cover s x := by
  induction s with
  | nil => simp [cuts, par, cover_nil]
  | cons p s ih =>
    have h1 := h.head
    rw [cuts, par, par, cover_cons, ← ih h.tail]
    by_cases e1 : p.1 ≤ x
    · by_cases e2 : p.2 ≤ x
      · rw [decide_eq_true e1, decide_eq_true e2]
        simp
        omega
      · have hn : par (cuts s) x = false := by
          rw [Bool.eq_false_iff]
          intro hp
          exact h.not_cover (x := x) (by omega) ((ih h.tail).1 hp)
        rw [hn, decide_eq_true e1, decide_eq_false e2]
        simp
        omega
    · have hn : par (cuts s) x = false := by
        rw [Bool.eq_false_iff]
        intro hp
        exact h.not_cover (x := x) (by omega) ((ih h.tail).1 hp)
      rw [hn, decide_eq_false e1, decide_eq_false (by omega)]
      simp
      omega
end Go.Proofs.YtcfhiodoogkcpaaGreatDoor.Reg
