/- By the machine: lists of texts cloned; what a line of the house wants. -/
import Derived.Test.YthjfllfhagdnpaaGreatDoorMLineR
import Derived.Test.YthjfllfhagdnpaaGreatDoorMLine
set_option linter.unusedSimpArgs false
set_option linter.unusedVariables false
namespace Go.Proofs.YthjfllfhagdnpaaGreatDoor.M
open Go.AM Go.RowKit Go.Lib Go.Proofs.YthjfllfhagdnpaaGreatDoor.Num
open Reg (Rect Spans Band)

theorem words_noH {s : ByteArray} (hs : s.size ≤ 900000) (h : okWords (wordsS s) = false) : ACalls C 186 [.pv (strs (wordsS s)), .pv fnR] (.p (bool true)) [] := by
  have := contains_row (wordsS s) (by have := words_le s; omega)
  rw [h] at this; exact this
theorem words_yesH {s : ByteArray} (hs : s.size ≤ 900000) (h : okWords (wordsS s) = true) : ACalls C 186 [.pv (strs (wordsS s)), .pv fnR] (.p (bool false)) [] := by
  have := contains_row (wordsS s) (by have := words_le s; omega)
  rw [h] at this; exact this
theorem nums_noH {l : List ByteArray} (hl : l.length ≤ 1000000) (hs : ∀ s ∈ l, s.size < 4294967281) (h : l.all numB = false) : ACalls C 205 [.pv (strs l)] (.tu [.sl [], bool false]) [] := by
  have := house_numbers l hl hs
  rw [numsA, h] at this; exact this
theorem nums_yesH {l : List ByteArray} (hl : l.length ≤ 1000000) (hs : ∀ s ∈ l, s.size < 4294967281) (h : l.all numB = true) : ACalls C 205 [.pv (strs l)] (.tu [ints (l.map numV), bool true]) [] := by
  have := house_numbers l hl hs
  rw [numsA, h] at this; exact this
theorem sl_inv0 {S : Nat → Prop} {w : World} {v : Value} (h : PRep S w (.sl []) v) : ∃ a c, v = .slice a 0 c := by
  cases h with
  | nil a c => exact ⟨a, c, rfl⟩
  | sl es k b off c U hc hS hk hcell h => exact ⟨_, c, rfl⟩
theorem strs_row {w : World} {S : Nat → Prop} {l : List ByteArray} {v : Value} {B : Nat} (h : w.ownsRow B 9 1 v l.length (l.map Value.string)) : RowRep Tryz.prog w (PRep S w) 9 (l.map fun s => [str s]) v := by
  obtain ⟨i0, hi, hs⟩ : ∃ i, Tryz.prog.info? 9 = some i ∧ i.size = 1 := by
    obtain ⟨info, z, h1, h2, _⟩ := hC.tab 9 _ rfl
    exact ⟨info, h1, h2⟩
  refine ⟨i0, l.map Value.string, hi, by omega, ?_, fun r hr => ?_, fun u hu => ?_, fun a r j x ha hj => ?_⟩
  · rw [hs, List.length_map]
    refine ⟨h.1, ?_⟩
    rcases h.2 with q | ⟨g, cap, cur, q1, q2, q3⟩
    · exact .inl q
    · exact .inr ⟨g, cap, cur, q1, Nat.zero_le _, q3⟩
  · obtain ⟨u, _, rfl⟩ := List.mem_map.1 hr
    rw [hs]; rfl
  · obtain ⟨z, _, rfl⟩ := List.mem_map.1 hu
    rfl
  · rw [List.getElem?_map, Option.map_eq_some_iff] at ha
    obtain ⟨u, hu, rfl⟩ := ha
    cases j with
    | zero =>
      cases hj
      refine ⟨.string u, ?_, .im _⟩
      rw [hs, Nat.mul_one, Nat.add_zero, List.getElem?_map, hu]
      rfl
    | succ j => cases hj
theorem clone_strs (l : List ByteArray) (hl : l.length ≤ 1000000) : ACalls C 206 [.pv (strs l)] (.p (strs l)) [] := by
  refine ⟨⟨_, Tryz.func206, by decide, rfl⟩, fun S w vs hE hS hlv hr _ => ?_⟩
  obtain ⟨v, rfl⟩ : ∃ v, vs = #[v] := by
    obtain ⟨l⟩ := vs
    match l, hlv with
    | [v], _ => exact ⟨v, rfl⟩
  have hv : PRep S w (strs l) v := hr 0 _ _ rfl rfl
  have fin : ∀ w' v', w'.ownsRow w.heap.size 9 1 v' l.length (l.map Value.string) → Below w.heap.size w w' →
      ∃ v0 S', (Ending.returned v' = .returned v0) ∧ Fr (Mv w [.pv (strs l)] #[v]) w w' ∧ (∀ b, S b → S' b) ∧ (∀ b, S' b → b < w'.heap.size) ∧ (∀ b, S' b → S b ∨ w.heap.size ≤ b ∨ Mv w [.pv (strs l)] #[v] b) ∧
        RRep S' w' C.P (.p (strs l)) v0 ∧ FinAll S' w' C.P [.pv (strs l)] [] #[v].toList ∧ FinOK w w' [.pv (strs l)] [] #[v] ∧ (∀ g, (AR.p (strs l)).owns = true → blk v0 = some g → g < w'.heap.size ∧ (w.heap.size ≤ g ∨ Mv w [.pv (strs l)] #[v] g) ∧ ∀ i, ¬ finOwn w' [.pv (strs l)] [] #[v].toList i g) := by
    intro w' v' ho hb
    have no : ∀ i g, ¬ finOwn w' [.pv (strs l)] [] #[v].toList i g := fun i g h => by
      cases i with
      | zero => exact h
      | succ i => exact h
    obtain ⟨a1, c1, hs1⟩ := ownsRow_slice ho
    have hbk : ∀ g, blk v' = some g → w.heap.size ≤ g ∧ g < w'.heap.size := fun g hg => ho.lt g (by rw [ownBlock_blk hs1]; exact hg)
    refine ⟨v', fun b => S b ∨ blk v' = some b, rfl, ⟨hb.os, hb.tape, hb.output, hb.size, fun k hk _ => hb.block k hk⟩, fun b h => .inl h, fun b h => h.elim (fun h => Nat.lt_of_lt_of_le (hS b h) hb.size) (fun h => (hbk b h).2), fun b h => h.elim .inl (fun h => .inr (.inl (hbk b h).1)), ?_, trivial, ⟨fun i g h => (no i g h).elim, fun i j g h => (no i g h).elim⟩, fun g h => by cases h⟩
    exact RowRep.prep (S := S) (strs_row ho) (fun b h => .inl h) (fun g h => .inr h)
  by_cases h0 : l = []
  · subst h0
    obtain ⟨a, c, rfl⟩ := sl_inv0 hv
    cases a with
    | none =>
      refine (Tryz.slices_Clone_string_nil 0 c w).mono ?_
      rintro e w' ⟨rfl, rfl⟩
      exact fin _ _ (World.ownsRow_nil _ _ _ _) (Below.refl _ _)
    | some a =>
      refine (Tryz.slices_Clone_string_zero a c w).mono ?_
      rintro e w' ⟨v', rfl, h1, _, h3⟩
      exact fin _ _ h1 h3
  · obtain ⟨bk, off, c, rfl, hcell⟩ := strs_inv h0 hv
    refine (Tryz.slices_Clone_string bk off l.length c l w (Nat.le_refl _) (by omega) (fun j hj => ?_)).mono ?_
    · have hx : l[j]? = some l[j] := List.getElem?_eq_getElem hj
      rw [hcell j _ hx]
      simp [List.getD, hx]
    · rintro e w' ⟨v', rfl, h1, _, h3⟩
      rw [List.take_length] at h1
      exact fin _ _ h1 h3
end Go.Proofs.YthjfllfhagdnpaaGreatDoor.M
