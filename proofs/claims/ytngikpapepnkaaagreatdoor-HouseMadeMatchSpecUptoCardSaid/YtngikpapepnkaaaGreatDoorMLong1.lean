/- Plain law: the longest wait of a panel, by its neighbours and by what came last. -/
import Derived.Test.YtngikpapepnkaaaGreatDoorMTrace3
set_option linter.unusedSimpArgs false
set_option linter.unusedVariables false
namespace Go.Proofs.YtngikpapepnkaaaGreatDoor.M
open Go.AM Go.RowKit
open Reg (stab SortedL SameKinds)

def gapsL : List Doing → List Int
  | a :: b :: r => (b.from_ - a.till) :: gapsL (b :: r)
  | _ => []
theorem gaps_snoc (d : Doing) (x : Int) : ∀ F : List Doing, x ∈ gapsL (F ++ [d]) ↔ x ∈ gapsL F ∨ ∃ y, F.getLast? = some y ∧ x = d.from_ - y.till
  | [] => by simp [gapsL]
  | [a] => by simp [gapsL]
  | a :: b :: r => by
    have := gaps_snoc d x (b :: r)
    rw [List.cons_append, List.cons_append, gapsL, gapsL, List.mem_cons, List.mem_cons, ← List.cons_append, this, List.getLast?_cons_cons]
    exact or_assoc.symm
theorem gaps_len : ∀ F : List Doing, (gapsL F).length = F.length - 1
  | [] => rfl
  | [_] => rfl
  | a :: b :: r => by rw [gapsL, List.length_cons, gaps_len (b :: r)]; simp
theorem gaps_get : ∀ (F : List Doing) (k : Nat) (a b : Doing), F[k]? = some a → F[k + 1]? = some b → (gapsL F)[k]? = some (b.from_ - a.till)
  | [], k, a, b, h, _ => by simp at h
  | [_], k, a, b, _, h => by simp at h
  | u :: v :: r, 0, a, b, h1, h2 => by
    simp at h1 h2
    subst h1 h2
    rfl
  | u :: v :: r, k + 1, a, b, h1, h2 => by
    rw [gapsL, List.getElem?_cons_succ]
    exact gaps_get (v :: r) k a b (by simpa using h1) (by simpa using h2)
def maxL (m : Int) (l : List Int) : Int := l.foldl max m
theorem maxL_le {l : List Int} {m c : Int} : maxL m l ≤ c ↔ m ≤ c ∧ ∀ x ∈ l, x ≤ c := by
  induction l generalizing m with
  | nil => simp [maxL]
  | cons a l ih =>
    have : maxL m (a :: l) = maxL (max m a) l := rfl
    rw [this, ih]
    simp only [List.mem_cons, forall_eq_or_imp]
    constructor
    · rintro ⟨h1, h2⟩; exact ⟨by omega, by omega, h2⟩
    · rintro ⟨h1, h2, h3⟩; exact ⟨by omega, h3⟩
theorem maxL_same {X Y : List Int} (h : ∀ x, x ∈ X ↔ x ∈ Y) : maxL 0 X = maxL 0 Y := by
  have a := (maxL_le (l := X) (m := 0) (c := maxL 0 Y)).2 ⟨(maxL_le.1 (Int.le_refl _)).1, fun x hx => (maxL_le.1 (Int.le_refl (maxL 0 Y))).2 x ((h x).1 hx)⟩
  have b := (maxL_le (l := Y) (m := 0) (c := maxL 0 X)).2 ⟨(maxL_le.1 (Int.le_refl _)).1, fun x hx => (maxL_le.1 (Int.le_refl (maxL 0 X))).2 x ((h x).2 hx)⟩
  omega
theorem maxL_app (m : Int) (X Y : List Int) : maxL m (X ++ Y) = maxL (maxL m X) Y := List.foldl_append
/-- when the last work on a panel ended -/
def lastTill (L : List Doing) (lot : ByteArray) (panel : Int) : Option Int := ((L.filter (sameK lot panel)).getLast?).map Doing.till
def gapAt (S : List Doing) (i : Nat) : List Int := match S[i]? with
  | some d => (match lastTill (S.take i) d.lot d.panel with
    | some t => [d.from_ - t]
    | none => [])
  | none => []
def gapsTo (S : List Doing) : Nat → List Int
  | 0 => []
  | i + 1 => gapsTo S i ++ gapAt S i
theorem sameK_self (d : Doing) : sameK d.lot d.panel d = true := by simp [sameK]
theorem sameK_eq {lot : ByteArray} {panel : Int} {d : Doing} (h : sameK lot panel d = true) : lot = d.lot ∧ panel = d.panel := by
  simp [sameK] at h
  exact ⟨h.1.symm, h.2.symm⟩
theorem gaps_mem (S : List Doing) (x : Int) : ∀ i, i ≤ S.length → (x ∈ gapsTo S i ↔ ∃ lot panel, x ∈ gapsL ((S.take i).filter (sameK lot panel)))
  | 0, _ => by simp [gapsTo, gapsL]
  | i + 1, hi => by
    obtain ⟨d, hd⟩ := get_of (l := S) (i := i) (by omega)
    have ih := gaps_mem S x i (by omega)
    rw [gapsTo, List.mem_append, ih]
    have hg : x ∈ gapAt S i ↔ ∃ y, ((S.take i).filter (sameK d.lot d.panel)).getLast? = some y ∧ x = d.from_ - y.till := by
      unfold gapAt lastTill
      rw [hd]
      simp only
      cases h : ((S.take i).filter (sameK d.lot d.panel)).getLast? with
      | none => simp
      | some y => simp
    rw [hg]
    constructor
    · rintro (⟨lot, panel, h⟩ | h)
      · refine ⟨lot, panel, ?_⟩
        cases hk : sameK lot panel d with
        | true => rw [filter_more hd hk, gaps_snoc]; exact .inl h
        | false => rw [filter_skip hd hk]; exact h
      · exact ⟨d.lot, d.panel, by rw [filter_more hd (sameK_self d), gaps_snoc]; exact .inr h⟩
    · rintro ⟨lot, panel, h⟩
      cases hk : sameK lot panel d with
      | true =>
        obtain ⟨rfl, rfl⟩ := sameK_eq hk
        rw [filter_more hd hk, gaps_snoc] at h
        rcases h with h | h
        · exact .inl ⟨_, _, h⟩
        · exact .inr h
      | false =>
        rw [filter_skip hd hk] at h
        exact .inl ⟨lot, panel, h⟩
theorem trace_filter (l : List Doing) (lot : ByteArray) (panel : Int) : traceD l lot panel = (stab leD l).filter (sameK lot panel) := by
  refine Reg.stab_eq preD ((Reg.stab_facts preD l).1.sublist (List.filter_sublist)) fun x => ?_
  rw [List.filter_filter, List.filter_filter]
  have : ∀ m : List Doing, m.filter (fun a => Reg.eqv leD x a && sameK lot panel a) = (m.filter (Reg.eqv leD x)).filter (sameK lot panel) := fun m => by
    rw [List.filter_filter]
    exact List.filter_congr fun a _ => Bool.and_comm _ _
  rw [this, this, (Reg.stab_facts preD l).2 x]
/-- the gaps by panels are those by what came last -/
theorem gaps_same (l : List Doing) : maxL 0 (l.flatMap fun d => gapsL (traceD l d.lot d.panel)) = maxL 0 (gapsTo (stab leD l) l.length) := by
  refine maxL_same fun x => ?_
  rw [gaps_mem _ _ _ (by rw [Reg.stab_length]; exact Nat.le_refl _), List.take_of_length_le (by rw [Reg.stab_length]; exact Nat.le_refl _), List.mem_flatMap]
  constructor
  · rintro ⟨d, _, h⟩
    exact ⟨d.lot, d.panel, by rw [← trace_filter]; exact h⟩
  · rintro ⟨lot, panel, h⟩
    have hne : (stab leD l).filter (sameK lot panel) ≠ [] := fun e => by rw [e] at h; simp [gapsL] at h
    obtain ⟨d, hd⟩ := List.exists_mem_of_ne_nil _ hne
    obtain ⟨h1, h2⟩ := List.mem_filter.1 hd
    obtain ⟨rfl, rfl⟩ := sameK_eq h2
    exact ⟨d, (Reg.stab_mem preD).1 h1, by rw [trace_filter]; exact h⟩
def longestF (l : List Doing) : Int × Int := if doingsFault l = 0 then (maxL 0 (gapsTo (stab leD l) l.length), 0) else (0, doingsFault l)
/-- numbers of 64 bits -/
def DOK (d : Doing) : Prop := strOK d.lot ∧ d.from_ ≤ 9223372036854775807 ∧ d.till ≤ 9223372036854775807
theorem orI_all0 : ∀ {l : List Int}, orI l = 0 → ∀ x ∈ l, x = 0
  | [], _, x, h => by cases h
  | a :: l, h, x, hx => by
    rw [orI] at h
    split at h
    · rename_i h0
      rcases List.mem_cons.1 hx with e | hx
      · rw [e]; exact h0
      · exact orI_all0 h x hx
    · rename_i h0; exact absurd h h0
theorem fault_times {l : List Doing} (h : doingsFault l = 0) : ∀ d ∈ l, 0 ≤ d.from_ ∧ 0 ≤ d.till := by
  intro d hd
  unfold doingsFault at h
  split at h
  · cases h
  · have := orI_all0 h (doingFault d) (List.mem_map.2 ⟨d, hd, rfl⟩)
    unfold doingFault at this
    split at this
    · split at this
      · rename_i h2; exact ⟨h2.2.2.2.1, h2.2.2.2.2⟩
      · cases this
    · cases this
end Go.Proofs.YtngikpapepnkaaaGreatDoor.M
