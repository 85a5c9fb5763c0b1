/- What is written of rules is read as they were. -/
import Derived.Test.YthjfllfhagdnpaaGreatDoorMCome
import Derived.Test.YthjfllfhagdnpaaGreatDoorMRules7
set_option linter.unusedSimpArgs false
set_option linter.unusedVariables false
namespace Go.Proofs.YthjfllfhagdnpaaGreatDoor.M
open Go.AM Go.RowKit Go.Lib Go.Proofs.YthjfllfhagdnpaaGreatDoor.Num
open Reg (Rect Spans Band)

/-- a word of a line -/
def isWd (l : List UInt8) : Prop := l ≠ [] ∧ l.all okR = true
theorem wd_row {l : List UInt8} (h : isWd l) : rowB (toB l) = true := by
  have : ¬ toB l = ByteArray.empty := fun e => h.1 (by
    have := congrArg (fun z : ByteArray => z.data.toList) e
    exact this)
  rw [rowB, toB_list, h.2]
  simp [this]
theorem okR_no {l : List UInt8} (h : l.all okR = true) : (32 : UInt8) ∉ l ∧ (10 : UInt8) ∉ l := by
  rw [List.all_eq_true] at h
  exact ⟨fun hm => absurd (h _ hm) (by decide), fun hm => absurd (h _ hm) (by decide)⟩
theorem digs_ok {l : List UInt8} (h : l.all digB = true) : l.all okR = true := by
  rw [List.all_eq_true] at h ⊢
  intro c hc
  have := h c hc
  simp [digB, okR] at this ⊢
  omega
theorem itoa_wd (n : Int) : isWd (Lib.itoa n) := by
  unfold Lib.itoa
  split
  · refine ⟨by simp, ?_⟩
    rw [List.all_cons, digs_ok (dec_digs _)]
    decide
  · refine ⟨fun e => ?_, digs_ok (dec_digs _)⟩
    have h := dec_len n.toNat n.toNat (by
      have : n.toNat < 10 ^ n.toNat := Nat.lt_pow_self (by omega)
      rw [Nat.pow_succ]
      omega)
    rw [e] at h
    simp at h
theorem okB_ok {b : UInt8} (h : okB b = true) : okR b = true := by
  have all : ∀ c : Fin 256, okB (UInt8.ofNat c) = true → okR (UInt8.ofNat c) = true := by decide +kernel
  simpa using all ⟨b.toNat, b.toNat_lt⟩ (by simpa using h)
theorem word_wd {s : ByteArray} (h : wordB s = true) : isWd s.data.toList := by
  have hsz : s.data.toList.length = s.size := by simp
  simp only [wordB, Bool.and_eq_true, decide_eq_true_eq] at h
  obtain ⟨h1, h2, _⟩ := h
  refine ⟨fun e => ?_, ?_⟩
  · rw [e] at hsz; simp at hsz; omega
  · rw [List.all_eq_true] at h1 ⊢
    exact fun c hc => okB_ok (h1 c hc)
theorem join_ok {c : UInt8} (hc : okR c = true) : ∀ {ws : List (List UInt8)}, (∀ w ∈ ws, w.all okR = true) → (joinC c ws).all okR = true
  | [], _ => rfl
  | [w], h => by
    have := h w (by simp)
    simpa [joinC] using this
  | w :: v :: ws, h => by
    rw [joinC_cons, List.all_append, List.all_cons, h w (by simp), hc, join_ok hc (ws := v :: ws) (fun x hx => h x (by simp at hx ⊢; exact .inr hx))]
    rfl
theorem path_wd {s : ByteArray} (h : pathB s = true) : isWd s.data.toList := by
  simp only [pathB, Bool.and_eq_true, List.all_eq_true] at h
  obtain ⟨h1, _⟩ := h
  have hp : parts s = pieces 47 (toB s.data.toList) := by rw [← of_toB]; rfl
  obtain ⟨h2, h3⟩ := join_pieces 47 s.data.toList.length s.data.toList (Nat.le_refl _)
  rw [← hp] at h2 h3
  have hw : ∀ w ∈ (parts s).map (·.data.toList), isWd w := fun w hm => by
    obtain ⟨x, hx, rfl⟩ := List.mem_map.1 hm
    exact word_wd (h1 x hx)
  refine ⟨fun e => ?_, ?_⟩
  · rw [e] at h3
    cases hq : (parts s).map (·.data.toList) with
    | nil => exact h2 (List.map_eq_nil_iff.1 hq)
    | cons a r =>
      rw [hq] at h3 hw
      have := (hw a (by simp)).1
      simp [joinC] at h3
      exact this h3.1
  · rw [← h3]
    exact join_ok (by decide) fun w hm => (hw w hm).2
theorem words_join {ws : List (List UInt8)} (hne : ws ≠ []) (hw : ∀ w ∈ ws, isWd w) : wordsS (toB (joinC 32 ws)) = ws.map toB :=
  pieces_join 32 ws hne fun w hm => (okR_no (hw w hm).2).1
theorem ok_words {ws : List (List UInt8)} (hw : ∀ w ∈ ws, isWd w) : okWords (ws.map toB) = true := by
  rw [okWords, List.all_map, List.all_eq_true]
  exact fun w hm => wd_row (hw w hm)
theorem no_nl {ws : List (List UInt8)} (hw : ∀ w ∈ ws, isWd w) : (10 : UInt8) ∉ joinC 32 ws := by
  induction ws with
  | nil => simp [joinC]
  | cons w ws ih =>
    cases ws with
    | nil => simpa [joinC] using (okR_no (hw w (by simp)).2).2
    | cons v ws =>
      rw [joinC_cons]
      intro hm
      rcases List.mem_append.1 hm with h | h
      · exact (okR_no (hw w (by simp)).2).2 h
      · rcases List.mem_cons.1 h with h | h
        · exact absurd h (by decide)
        · exact ih (fun x hx => hw x (by simp at hx ⊢; exact .inr hx)) h
/-- one line more -/
theorem line_step {ws : List (List UInt8)} (hne : ws ≠ []) (hw : ∀ w ∈ ws, isWd w) (rest : List UInt8) {f : Nat} {r r' : Rules} {k : Nat} (hl : lineW r (ws.map toB) k = some r') :
    readF (f + 1) r (toB (joinC 32 ws ++ 10 :: rest)) k = readF f r' (toB rest) (k + 1) := by
  have hc := cut_hit rest (no_nl hw)
  have e1 : cutB (toB (joinC 32 ws ++ 10 :: rest)) = true := by rw [cutB, toB_list, hc]
  have e2 : cutA (toB (joinC 32 ws ++ 10 :: rest)) = toB (joinC 32 ws) := by rw [cutA, toB_list, hc]; rfl
  have e3 : cutZ (toB (joinC 32 ws ++ 10 :: rest)) = toB rest := by rw [cutZ, toB_list, hc]; rfl
  have e4 : ¬ (toB (joinC 32 ws ++ 10 :: rest) = ByteArray.empty ∧ k ≠ 0) := fun h => by
    have := congrArg (fun z : ByteArray => z.data.toList) h.1
    have : joinC 32 ws ++ 10 :: rest = [] := this
    simp at this
  rw [readF_go e4 e1 (r' := r') (by rw [e2, lineR, words_join hne hw]; exact hl), e3]
theorem num_range {n : Int} (h : isRule n = true) : -999999999 ≤ n ∧ n ≤ 999999999 := by
  simp [isRule] at h
  omega
theorem num_ok {n : Int} (h : -999999999 ≤ n ∧ n ≤ 999999999) : numB (toB (Lib.itoa n)) = true ∧ numV (toB (Lib.itoa n)) = n := num_itoa n h.1 h.2
theorem head_wd (r : Rules) : ∀ w ∈ headWs r, isWd w := fun w hm => by
  simp only [headWs, List.mem_cons, List.not_mem_nil, or_false] at hm
  rcases hm with h | h | h | h | h | h <;> subst h
  · exact ⟨by decide, by decide⟩
  all_goals exact itoa_wd _
theorem head_line_w {r : Rules} (h : numsOK r = true) : lineW r0 ((headWs r).map toB) (0 : Nat) = some { r with classes := [], areas := [] } := by
  simp only [numsOK, Bool.and_eq_true] at h
  obtain ⟨⟨⟨⟨h1, h2⟩, h3⟩, h4⟩, h5⟩ := h
  have n1 := num_ok (num_range h1)
  have n2 := num_ok (num_range h2)
  have n3 := num_ok (num_range h3)
  have n4 := num_ok (num_range h4)
  have n5 := num_ok (num_range h5)
  rw [lineW, if_pos (ok_words (head_wd r)), if_pos (show ((0 : Nat) : Int) = 0 from rfl), headR, if_pos]
  · simp only [headWs, List.map_cons, List.map_nil, List.drop_one, List.tail_cons, n1.2, n2.2, n3.2, n4.2, n5.2]
    rfl
  · simp only [headWs, List.map_cons, List.map_nil, List.drop_one, List.tail_cons, List.all_cons, List.all_nil, n1.1, n2.1, n3.1, n4.1, n5.1]
    rfl
theorem map_back (l : List ByteArray) : (l.map (·.data.toList)).map toB = l := by
  rw [List.map_map]
  induction l with
  | nil => rfl
  | cons s l ih => rw [List.map_cons, ih]; exact congrArg (· :: l) (of_toB s).symm
theorem class_wd {c : Class} (h : classGood c) (hn : wordB c.name = true) : ∀ w ∈ classWs c, isWd w := fun w hm => by
  simp only [classWs, List.mem_cons] at hm
  rcases hm with h1 | h1 | h1 | h1 | h1
  · subst h1; exact ⟨by decide, by decide⟩
  · subst h1; exact word_wd hn
  · subst h1; exact itoa_wd _
  · subst h1; exact itoa_wd _
  · obtain ⟨x, hx, rfl⟩ := List.mem_map.1 h1
    exact path_wd (h.2.2.1 x hx)
theorem class_line_w {r : Rules} {c : Class} {k : Nat} (hk : k ≠ 0) (ha : r.areas = []) (h : classGood c) (hn : wordB c.name = true) : lineW r ((classWs c).map toB) k = some { r with classes := r.classes ++ [c] } := by
  have n1 := num_ok (num_range h.2.2.2.1)
  have n2 := num_ok (num_range h.2.2.2.2)
  have hc : isClass r ((classWs c).map toB) = true := by
    rw [isClass, ha]
    simp only [classWs, List.map_cons, List.head?_cons, List.length_cons, List.length_nil, Bool.and_eq_true, decide_eq_true_eq]
    exact ⟨rfl, by omega, trivial⟩
  rw [lineW, if_pos (ok_words (class_wd h hn)), if_neg (by omega), if_pos hc]
  simp only [classWs, List.map_cons, classR, n1.1, n2.1, n1.2, n2.2, Bool.and_self, if_true, map_back]
  rw [← of_toB]
theorem area_wd (a : Area) : ∀ w ∈ areaWl a, isWd w := fun w hm => by
  simp only [areaWl, List.mem_cons] at hm
  rcases hm with h1 | h1 | h1 | h1
  · subst h1; exact ⟨by decide, by decide⟩
  · subst h1; exact itoa_wd _
  · subst h1; exact itoa_wd _
  · rw [rectWs, List.mem_flatMap] at h1
    obtain ⟨q, _, hq⟩ := h1
    simp only [List.mem_cons, List.not_mem_nil, or_false] at hq
    rcases hq with h | h | h | h <;> subst h <;> exact itoa_wd _
theorem rect_nums : ∀ {l : List Rect}, (∀ q ∈ l, Reg.isRect q = true) → ((rectWs l).map toB).all numB = true ∧ quads (((rectWs l).map toB).map numV) = l ∧ (rectWs l).length = 4 * l.length
  | [], _ => ⟨rfl, rfl, rfl⟩
  | q :: l, h => by
    obtain ⟨h1, h2, h3⟩ := rect_nums (l := l) fun x hx => h x (by simp [hx])
    have hq := h q (by simp)
    simp [Reg.isRect, Reg.isAt] at hq
    have n1 := num_ok (n := q.x0) ⟨by omega, by omega⟩
    have n2 := num_ok (n := q.y0) ⟨by omega, by omega⟩
    have n3 := num_ok (n := q.x1) ⟨by omega, by omega⟩
    have n4 := num_ok (n := q.y1) ⟨by omega, by omega⟩
    have e : rectWs (q :: l) = [Lib.itoa q.x0, Lib.itoa q.y0, Lib.itoa q.x1, Lib.itoa q.y1] ++ rectWs l := rfl
    rw [e]
    refine ⟨?_, ?_, ?_⟩
    · simp only [List.cons_append, List.nil_append, List.map_cons, List.all_cons, n1.1, n2.1, n3.1, n4.1, h1]
      rfl
    · simp only [List.cons_append, List.nil_append, List.map_cons, n1.2, n2.2, n3.2, n4.2, quads, h2]
    · simp only [List.cons_append, List.nil_append, List.length_cons, h3]
      omega
theorem area_line_w {r : Rules} {a : Area} {k : Nat} (hk : k ≠ 0) (h1 : -1 ≤ a.layer ∧ a.layer ≤ 15) (h2 : ∀ q ∈ a.region, Reg.isRect q = true) (h3 : isRule a.clearance = true) : lineW r ((areaWl a).map toB) k = some { r with areas := r.areas ++ [a] } := by
  have n1 := num_ok (n := a.layer) ⟨by omega, by omega⟩
  have n2 := num_ok (num_range h3)
  obtain ⟨r1, r2, r3⟩ := rect_nums h2
  have hc : isClass r ((areaWl a).map toB) = false := by
    rw [isClass]
    simp only [areaWl, List.map_cons, List.head?_cons]
    rw [show decide (some (toB wA.data.toList) = some wC) = false by decide]
    rfl
  rw [lineW, if_pos (ok_words (area_wd a)), if_neg (by omega), hc]
  simp only [Bool.false_eq_true, if_false]
  rw [areaR, if_pos]
  · simp only [areaWl, List.map_cons, List.drop_one, List.tail_cons, n1.2, n2.2]
    rw [if_pos (by rw [List.length_map, List.length_map, r3]; omega), r2]
  · simp only [areaWl, List.map_cons, List.drop_one, List.tail_cons, List.all_cons, n1.1, n2.1, r1]
    rfl
theorem read_classes : ∀ (cs : List Class) (f : Nat) (r : Rules) (rest : List UInt8) (k : Nat), k ≠ 0 → r.areas = [] → (∀ c ∈ cs, classGood c ∧ wordB c.name = true) → (cs.flatMap classB ++ rest).length < f →
    ∃ f' k', k' ≠ 0 ∧ rest.length < f' ∧ readF f r (toB (cs.flatMap classB ++ rest)) k = readF f' { r with classes := r.classes ++ cs } (toB rest) k'
  | [], f, r, rest, k, hk, _, _, hf => ⟨f, k, hk, by simpa using hf, by simp⟩
  | c :: cs, f, r, rest, k, hk, ha, hc, hf => by
    obtain ⟨g1, g2⟩ := hc c (by simp)
    have e : (c :: cs).flatMap classB ++ rest = joinC 32 (classWs c) ++ 10 :: (cs.flatMap classB ++ rest) := by
      rw [List.flatMap_cons, class_ws]; simp
    rw [e] at hf ⊢
    cases f with
    | zero => omega
    | succ f =>
      rw [line_step (by simp [classWs]) (class_wd g1 g2) _ (class_line_w hk ha g1 g2)]
      obtain ⟨f', k', q1, q2, q3⟩ := read_classes cs f { r with classes := r.classes ++ [c] } rest (k + 1) (by omega) ha (fun x hx => hc x (by simp [hx])) (by simp at hf ⊢; omega)
      refine ⟨f', k', q1, q2, ?_⟩
      rw [q3]
      simp
theorem read_areas : ∀ (al : List Area) (f : Nat) (r : Rules) (k : Nat), k ≠ 0 → (∀ a ∈ al, (-1 ≤ a.layer ∧ a.layer ≤ 15) ∧ (∀ q ∈ a.region, Reg.isRect q = true) ∧ isRule a.clearance = true) → (al.flatMap areaB).length < f →
    readF f r (toB (al.flatMap areaB)) k = .inr { r with areas := r.areas ++ al }
  | [], f, r, k, hk, _, hf => by
    cases f with
    | zero => simp at hf
    | succ f =>
      rw [show toB (([] : List Area).flatMap areaB) = ByteArray.empty from rfl, readF_end ⟨rfl, hk⟩]
      simp
  | a :: al, f, r, k, hk, hc, hf => by
    obtain ⟨g1, g2, g3⟩ := hc a (by simp)
    have e : (a :: al).flatMap areaB = joinC 32 (areaWl a) ++ 10 :: (al.flatMap areaB) := by
      rw [List.flatMap_cons, area_ws]; simp
    rw [e] at hf ⊢
    cases f with
    | zero => omega
    | succ f =>
      rw [line_step (by simp [areaWl]) (area_wd a) _ (area_line_w hk g1 g2 g3), read_areas al f { r with areas := r.areas ++ [a] } (k + 1) (by omega) (fun x hx => hc x (by simp [hx])) (by simp at hf ⊢; omega)]
      simp
theorem class_name {cs : List Class} {i : Nat} {c : Class} (h : classFault cs i = 0) (hc : cs[i]? = some c) : wordB c.name = true := by
  rw [classFault, hc] at h
  simp only at h
  split at h
  · assumption
  · cases h
theorem names_good {r : Rules} (h : rulesFault r = 0) : ∀ c ∈ r.classes, wordB c.name = true := by
  intro c hc
  rw [rulesFault] at h
  split at h
  · split at h
    · rename_i h2
      rw [classesFault] at h2
      split at h2
      · cases h2
      · obtain ⟨i, hi⟩ := List.mem_iff_getElem?.1 hc
        exact class_name (firstN_zero h2 i (Nat.zero_le _) (by have := (List.getElem?_eq_some_iff.1 hi).1; omega)) hi
    · contradiction
  · cases h
/-- WHAT IS WRITTEN IS READ AGAIN. -/
theorem text_read {r : Rules} (h : (textR r).2 = 0) : readR (textR r).1 = (r, 0, 0) := by
  unfold textR at h ⊢
  split at h
  case isFalse h0 => exact absurd h h0
  rename_i h0
  rw [if_pos h0]
  split at h
  · cases h
  rename_i hl
  rw [if_neg hl]
  have hg := rules_good h0
  have hn := names_good h0
  have ht := area_top h0
  have hsz : (ofL (textB r)).size = (textB r).length := ofL_size _
  rw [readR, if_neg (by rw [hsz]; exact hl)]
  have e : textB r = joinC 32 (headWs r) ++ 10 :: (r.classes.flatMap classB ++ r.areas.flatMap areaB) := by
    rw [textB, head_ws]; simp
  have hf : readF ((ofL (textB r)).size + 1) r0 (ofL (textB r)) 0 = .inr r := by
    rw [hsz]
    show readF ((textB r).length + 1) r0 (toB (textB r)) 0 = _
    have hlen := congrArg List.length e
    simp only [List.length_append, List.length_cons] at hlen
    generalize hN : (textB r).length = N at hlen
    rw [e, line_step (by simp [headWs]) (head_wd r) _ (head_line_w hg.nums)]
    obtain ⟨f', k', q1, q2, q3⟩ := read_classes r.classes N { r with classes := [], areas := [] } (r.areas.flatMap areaB) (0 + 1) (by omega) rfl (fun c hc => ⟨hg.cl c hc, hn c hc⟩) (by simp only [List.length_append]; omega)
    rw [q3, read_areas r.areas f' _ k' q1 (fun a ha => ⟨⟨(hg.ar a ha).1, ht a ha⟩, (region_rects (hg.ar a ha).2.1).2, (hg.ar a ha).2.2⟩) q2]
    simp
  rw [hf]
  simp only [endR]
  rw [if_pos h0]
end Go.Proofs.YthjfllfhagdnpaaGreatDoor.M
