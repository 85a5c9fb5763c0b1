/- What is read as rules is written so. -/
import Derived.Test.YthjfllfhagdnpaaGreatDoorMReadP
import Derived.Test.YthjfllfhagdnpaaGreatDoorMTextB
import Derived.Test.YthjfllfhagdnpaaGreatDoorPlainCome
set_option linter.unusedSimpArgs false
set_option linter.unusedVariables false
namespace Go.Proofs.YthjfllfhagdnpaaGreatDoor.M
open Go.AM Go.RowKit Go.Lib Go.Proofs.YthjfllfhagdnpaaGreatDoor.Num
open Reg (Rect Spans Band)

/-- the words of the lines -/
def headWs (r : Rules) : List (List UInt8) := wR.data.toList :: [Lib.itoa r.clearance, Lib.itoa r.width, Lib.itoa r.ring, Lib.itoa r.edge, Lib.itoa r.holeGap]
def classWs (c : Class) : List (List UInt8) := wC.data.toList :: c.name.data.toList :: Lib.itoa c.clearance :: Lib.itoa c.width :: c.nets.map (·.data.toList)
def rectWs (l : List Rect) : List (List UInt8) := l.flatMap fun q => [Lib.itoa q.x0, Lib.itoa q.y0, Lib.itoa q.x1, Lib.itoa q.y1]
def areaWl (a : Area) : List (List UInt8) := wA.data.toList :: Lib.itoa a.layer :: Lib.itoa a.clearance :: rectWs a.region
theorem head_ws (r : Rules) : headB r = joinC 32 (headWs r) ++ [10] := by
  simp [headB, headWs, joinC, spc, rulesL, wR]
theorem class_ws (c : Class) : classB c = joinC 32 (classWs c) ++ [10] := by
  simp [classB, classWs, joinC, spc, netsB, classL, wC, List.flatMap_map]
theorem rects_ws (l : List Rect) : (rectWs l).flatMap (fun s => 32 :: s) = rectsB l := by
  induction l with
  | nil => rfl
  | cons q l ih =>
    rw [rectWs, List.flatMap_cons, List.flatMap_append]
    rw [rectWs] at ih
    rw [ih, rectsB, List.flatMap_cons]
    simp [rectsB, spc]
theorem area_ws (a : Area) : areaB a = joinC 32 (areaWl a) ++ [10] := by
  have := rects_ws a.region
  simp only [areaB, areaWl, joinC, spc, areaL, wA, List.flatMap_cons, this]
  simp
theorem line_join (s : ByteArray) : joinC 32 ((wordsS s).map (·.data.toList)) = s.data.toList := by
  have := (join_pieces 32 s.data.toList.length s.data.toList (Nat.le_refl _)).2
  rw [← of_toB s] at this
  exact this
theorem num_back {s : ByteArray} (h : numB s = true) : Lib.itoa (numV s) = s.data.toList := by
  have := congrArg (fun z : ByteArray => z.data.toList) (itoa_num h)
  exact this
theorem nums_back : ∀ {l : List ByteArray}, l.all numB = true → (l.map numV).map Lib.itoa = l.map (·.data.toList)
  | [], _ => rfl
  | s :: l, h => by
    simp only [List.all_cons, Bool.and_eq_true] at h
    rw [List.map_cons, List.map_cons, List.map_cons, num_back h.1, nums_back h.2]
theorem quads_flat : ∀ (q : List Int), q.length % 4 = 0 → rectWs (quads q) = q.map Lib.itoa
  | [], _ => rfl
  | [a], h => by simp at h
  | [a, b], h => by simp at h
  | [a, b, c], h => by simp at h
  | a :: b :: c :: d :: r, h => by
    have := quads_flat r (by simp at h; omega)
    rw [quads, rectWs, List.flatMap_cons]
    rw [rectWs] at this
    rw [this]
    rfl
theorem head_back {r' : Rules} {s : ByteArray} (h : lineR r0 s 0 = some r') : textB r' = s.data.toList ++ [10] := by
  have hj := line_join s
  unfold lineR at h
  generalize wordsS s = w at h hj
  unfold lineW at h
  split at h
  case isFalse => cases h
  rw [if_pos rfl] at h
  unfold headR at h
  split at h
  case isFalse => cases h
  rename_i hc
  simp only [Bool.and_eq_true, decide_eq_true_eq] at hc
  obtain ⟨h1, h2⟩ := hc
  cases w with
  | nil => cases h2
  | cons w0 wt =>
    injection h2 with h2
    subst h2
    simp only [List.drop_one, List.tail_cons] at h h1
    have hb := nums_back h1
    split at h
    · rename_i a b c d e hm
      cases h
      rw [hm] at hb
      rw [textB, head_ws, ← hj, List.map_cons, ← hb]
      simp [headWs, r0]
    · cases h
theorem line_back {r r' : Rules} {s : ByteArray} {k : Int} (hk : k ≠ 0) (h : lineR r s k = some r') : textB r' = textB r ++ (s.data.toList ++ [10]) := by
  have hj := line_join s
  unfold lineR at h
  generalize wordsS s = w at h hj
  unfold lineW at h
  split at h
  case isFalse => cases h
  try rw [if_neg hk] at h
  split at h
  · rename_i hc
    simp only [isClass, Bool.and_eq_true, decide_eq_true_eq] at hc
    obtain ⟨h1, h2, h3⟩ := hc
    have h3 : r.areas = [] := List.eq_nil_of_length_eq_zero h3
    unfold classR at h
    split at h
    · rename_i w0 n a b nets
      injection h1 with h1
      subst h1
      split at h
      · rename_i hab
        simp only [Bool.and_eq_true] at hab
        cases h
        rw [← hj]
        simp only [textB, h3, List.flatMap_append, List.flatMap_cons, List.flatMap_nil, List.append_nil, List.map_cons]
        rw [class_ws, classWs]
        simp only [num_back hab.1, num_back hab.2]
        simp [headB, List.append_assoc]
      · cases h
    · cases h
  · unfold areaR at h
    split at h
    case isFalse => cases h
    rename_i hc
    simp only [Bool.and_eq_true, decide_eq_true_eq] at hc
    obtain ⟨h1, h2⟩ := hc
    cases w with
    | nil => cases h2
    | cons w0 wt =>
      injection h2 with h2
      subst h2
      simp only [List.drop_one, List.tail_cons] at h h1
      have hb := nums_back h1
      split at h
      · rename_i l c q hm
        split at h
        · rename_i h4
          cases h
          rw [hm] at hb
          rw [← hj, List.map_cons, ← hb]
          simp only [textB, List.flatMap_append, List.flatMap_cons, List.flatMap_nil, List.append_nil]
          rw [area_ws, areaWl]
          simp only [quads_flat q h4]
          simp [headB, List.append_assoc]
        · cases h
      · cases h
theorem cutB_back {s : ByteArray} (h : cutB s = true) : s.data.toList = (cutA s).data.toList ++ 10 :: (cutZ s).data.toList := cut_back h
theorem readF_back : ∀ (f : Nat) (r : Rules) (s : ByteArray) (k : Nat) (r' : Rules), s.size < f → k ≠ 0 → readF f r s k = .inr r' → textB r' = textB r ++ s.data.toList
  | 0, r, s, k, r', h, _, _ => by omega
  | f + 1, r, s, k, r', h1, h2, h3 => by
    by_cases h5 : s = ByteArray.empty ∧ k ≠ 0
    · rw [readF_end h5] at h3
      cases h3
      rw [h5.1]
      exact (List.append_nil _).symm
    · cases hc : cutB s with
      | false => rw [readF_cut h5 hc] at h3; cases h3
      | true =>
        obtain ⟨c1, c2⟩ := cut_sizes hc
        cases hl : lineR r (cutA s) k with
        | none => rw [readF_bad h5 hc hl] at h3; cases h3
        | some q =>
          rw [readF_go h5 hc hl] at h3
          rw [readF_back f q (cutZ s) (k + 1) r' (by omega) (by omega) h3, line_back (by omega) hl, cutB_back hc]
          simp
theorem readF_back0 {f : Nat} {s : ByteArray} {r' : Rules} (h1 : s.size < f + 1) (h3 : readF (f + 1) r0 s 0 = .inr r') : textB r' = s.data.toList := by
  have h5 : ¬ (s = ByteArray.empty ∧ (0 : Nat) ≠ 0) := fun h => h.2 rfl
  cases hc : cutB s with
  | false => rw [readF_cut h5 hc] at h3; cases h3
  | true =>
    obtain ⟨c1, c2⟩ := cut_sizes hc
    cases hl : lineR r0 (cutA s) (0 : Nat) with
    | none => rw [readF_bad h5 hc hl] at h3; cases h3
    | some q =>
      rw [readF_go h5 hc hl] at h3
      rw [readF_back f q (cutZ s) 1 r' (by omega) (by omega) h3, head_back (by simpa using hl), cutB_back hc]
      simp
theorem fault_no {r : Rules} : rulesFault r ≠ 10 ∨ True := .inr trivial
/-- WHAT IS READ IS WRITTEN SO. -/
theorem read_text {s : ByteArray} (h : (readR s).2.2 = 0) : textR (readR s).1 = (s, 0) := by
  unfold readR at h ⊢
  split at h
  · cases h
  · rename_i hs
    rw [if_neg hs]
    cases hz : readF (s.size + 1) r0 s 0 with
    | inl k => rw [hz] at h; cases h
    | inr r =>
      rw [hz] at h
      unfold endR at h ⊢
      simp only at h ⊢
      by_cases h0 : rulesFault r = 0
      · rw [if_pos h0]
        have ht := readF_back0 (Nat.lt_succ_self _) hz
        have hsz : s.data.toList.length = s.size := by simp
        rw [textR, if_pos h0, if_neg (by rw [ht]; omega), ht]
        rfl
      · rw [if_neg h0] at h
        exact absurd h h0
end Go.Proofs.YthjfllfhagdnpaaGreatDoor.M
