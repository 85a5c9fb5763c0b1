/- The machine: library functions that turn a handed row; arguments of a card. -/
import Derived.Test.YthjfllfhagdnpaaGreatDoorAM3
import Derived.Shelf.SlSortCmp.WholeK
import Derived.Deep.Slices
set_option linter.unusedSimpArgs false
set_option linter.unusedVariables false
namespace Go.AM
open Go.RowKit

theorem flat_at {α : Type} {k : Nat} : ∀ {L : List (List α)} {a : Nat} {r : List α} {j : Nat} {v : α}, (∀ r ∈ L, r.length = k) → L[a]? = some r → r[j]? = some v → L.flatten[a * k + j]? = some v := by
  intro L
  induction L with
  | nil => intro a r j v _ h; simp at h
  | cons x L ih =>
    intro a r j v hk h1 h2
    have hx := hk x (by simp)
    cases a with
    | zero =>
      simp at h1
      subst h1
      rw [List.flatten_cons, Nat.zero_mul, Nat.zero_add, List.getElem?_append_left (lt_of_get h2)]
      exact h2
    | succ a =>
      rw [List.flatten_cons, Nat.succ_mul, List.getElem?_append_right (by omega)]
      have := ih (a := a) (r := r) (j := j) (v := v) (fun r hr => hk r (by simp [hr])) (by simpa using h1) h2
      rw [← this]
      congr 1
      omega
theorem flat_len {α : Type} {k : Nat} : ∀ {L : List (List α)}, (∀ r ∈ L, r.length = k) → L.flatten.length = L.length * k := by
  intro L
  induction L with
  | nil => intro _; simp
  | cons x L ih =>
    intro hk
    rw [List.flatten_cons, List.length_append, ih fun r hr => hk r (by simp [hr]), hk x (by simp), List.length_cons, Nat.succ_mul]
    omega
/-- rows of plain values -/
def plainRows (L : List (List Value)) : List (List PV) := L.map fun r => r.map PV.im
theorem plain_rep {P : Program} {S : Nat → Prop} {w : World} {L : List (List Value)} {k : Nat} (hk : ∀ r ∈ L, r.length = k) {xs : List Value} (hl : xs.length = L.length * k) (h : ∀ (a : Nat) r (j : Nat) x, (plainRows L)[a]? = some r → r[j]? = some x → ∃ u, xs[a * k + j]? = some u ∧ PRep S w x u) : xs = L.flatten := by
  have hfl := flat_len hk
  apply List.ext_getElem?
  intro q
  by_cases hq : q < L.length * k
  · have hk0 : 0 < k := Nat.pos_of_ne_zero fun e => by rw [e] at hq; simp at hq
    have ha : q / k < L.length := (Nat.div_lt_iff_lt_mul hk0).2 hq
    have hj : q % k < k := Nat.mod_lt _ hk0
    have hr : L[q / k]? = some L[q / k] := List.getElem?_eq_getElem ha
    have hrl := hk _ (List.getElem_mem ha)
    have hv : L[q / k][q % k]? = some (L[q / k][q % k]'(by omega)) := List.getElem?_eq_getElem _
    have e : q / k * k + q % k = q := by rw [Nat.mul_comm]; exact Nat.div_add_mod q k
    obtain ⟨u, h1, h2⟩ := h (q / k) _ (q % k) _ (by unfold plainRows; rw [List.getElem?_map, hr]; rfl) (by rw [List.getElem?_map, hv]; rfl)
    rw [e] at h1
    have h3 := flat_at hk hr hv
    rw [e] at h3
    rw [h1, h3, h2.im_inv]
  · rw [List.getElem?_eq_none (by omega), List.getElem?_eq_none (by omega)]
theorem rep_plain {S : Nat → Prop} {w : World} {L : List (List Value)} {k : Nat} (hk : ∀ r ∈ L, r.length = k) : ∀ (a : Nat) r (j : Nat) x, (plainRows L)[a]? = some r → r[j]? = some x → ∃ u, L.flatten[a * k + j]? = some u ∧ PRep S w x u := by
  intro a r j x h1 h2
  unfold plainRows at h1
  rw [List.getElem?_map] at h1
  obtain ⟨r0, h3, rfl⟩ := Option.map_eq_some_iff.1 h1
  rw [List.getElem?_map] at h2
  obtain ⟨v, h4, rfl⟩ := Option.map_eq_some_iff.1 h2
  exact ⟨v, flat_at hk h3 h4, .im v⟩
theorem row_len {L : List (List Value)} {k : Nat} (hk : ∀ r ∈ L, r.length = k) : ∀ r ∈ plainRows L, r.length = k := by
  intro r hr
  obtain ⟨r0, h, rfl⟩ := List.mem_map.1 hr
  rw [List.length_map, hk r0 h]
/-- the world behind a turn of a row -/
def putW (w : World) (g n : Nat) (F : Array Value) (os : Array Obj) : World := Sort.grow (Sort.putRow id (Sort.ahead w n) g 0 F) os
theorem putW_facts (w : World) (g n : Nat) (F : Array Value) (os : Array Obj) : (putW w g n F os).os = w.os ∧ (putW w g n F os).tape = w.tape ∧ (putW w g n F os).output = w.output ∧ w.heap.size ≤ (putW w g n F os).heap.size ∧ ∀ k, k < w.heap.size → (putW w g n F os).heap[k]? = if k = g then (w.heap[k]?).map (Sort.onCells (Sort.putCells id 0 F)) else w.heap[k]? := by
  refine ⟨rfl, rfl, rfl, ?_, fun k hk => ?_⟩
  · simp [putW, Sort.grow, Sort.putRow, Sort.mapBlock, Sort.ahead]
  · simp only [putW, Sort.grow, Sort.putRow, Sort.mapBlock, Sort.ahead]
    rw [Array.getElem?_append_left (by simpa using hk), Array.getElem?_modify]
    by_cases e : g = k
    · rw [if_pos e, if_pos e.symm]
    · rw [if_neg e, if_neg fun h => e h.symm]
theorem putCells_all (F cur : Array Value) (h : F.size ≤ cur.size) : (Sort.putCells id 0 F cur).size = cur.size ∧ (Sort.putCells id 0 F cur).toList.take F.size = F.toList := by
  refine ⟨by simp [Sort.putCells], ?_⟩
  apply List.ext_getElem?
  intro j
  rw [List.getElem?_take]
  split
  · rename_i hj
    rw [Array.getElem?_toList, Array.getElem?_toList]
    simp only [Sort.putCells, Array.getElem?_mapIdx]
    rw [Array.getElem?_eq_getElem (by omega : j < cur.size), Array.getElem?_eq_getElem hj, Option.map_some, if_pos ⟨Nat.zero_le _, by omega⟩, Nat.sub_zero, getElem!_pos F j hj]
    rfl
  · rename_i hj
    rw [List.getElem?_eq_none (by simpa using hj)]
theorem finok_row {w w' : World} {e : TypeId} {es es' : List (List PV)} {v0 : Value} {zs : List Value} (hs : w.heap.size ≤ w'.heap.size) (h : ∀ g, blk v0 = some g → g < w.heap.size ∧ Mv w (.row e es :: zs.map fun a => .pv (.im a)) (#[v0] ++ zs.toArray) g) : FinOK w w' (.row e es :: zs.map fun a => .pv (.im a)) [.row es'] (#[v0] ++ zs.toArray) := by
  have at0 : ∀ i g, finOwn w' (.row e es :: zs.map fun a => .pv (.im a)) [.row es'] (#[v0] ++ zs.toArray).toList i g → i = 0 ∧ blk v0 = some g := fun i g hg => by
    simp only [Array.toList_append] at hg
    cases i with
    | zero => exact ⟨rfl, hasB_plain rfl hg.2⟩
    | succ i => exact (kept_im zs i g hg).elim
  exact ⟨fun i g hg => by obtain ⟨h1, h2⟩ := h g (at0 i g hg).2; exact ⟨Nat.lt_of_lt_of_le h1 hs, .inr h2⟩, fun i j g hi hj => by rw [(at0 i g hi).1, (at0 j g hj).1]⟩
/-- a handed row of plain cells, turned in its place -/
theorem acalls_put {C : Ctx} (hC : CtxOK C) {f : FuncId} (e : TypeId) (ti : TI) (hT : C.T e = some ti) (hk0 : 0 < ti.size) (zs : List Value) (L L' : List (List Value)) (hL : ∀ r ∈ L, r.length = ti.size) (hL' : ∀ r ∈ L', r.length = ti.size) (hlen : L'.length = L.length)
    (h1 : ∀ r ∈ L', ∀ v ∈ r, v.oneCell' = true) (hf : FnThere C f)
    (hnil : L = [] → ∀ w, Calls C.P f (#[.slice none 0 0] ++ zs.toArray) w fun e' w' => e' = .returned (.tuple #[]) ∧ w' = w)
    (h : ∀ S w blk cap, C.E S w → blk < w.heap.size → L.length ≤ cap → (∀ j v, L.flatten[j]? = some v → w.cell? ⟨blk, j, none⟩ = some v ∧ w.frozen? ⟨blk, j, none⟩ = false) →
      Calls C.P f (#[.slice (some ⟨blk, 0, none⟩) L.length cap] ++ zs.toArray) w fun e' w' => e' = .returned (.tuple #[]) ∧ ∃ n os, w' = putW w blk n L'.flatten.toArray os) :
    ACalls C f (.row e (plainRows L) :: zs.map fun a => .pv (.im a)) (.tu []) [.row (plainRows L')] := by
  refine ⟨hf, fun S w vs hE hS hl hr _ => ?_⟩
  obtain ⟨v0, vr, rfl⟩ : ∃ v0 vr, vs = #[v0] ++ vr := by
    obtain ⟨l⟩ := vs
    cases l with
    | nil => simp at hl
    | cons v0 l => exact ⟨v0, ⟨l⟩, by simp⟩
  have hvr : vr = zs.toArray := args_im (S := S) (w := w) (P := C.P) (by simp at hl ⊢; omega) fun j x v hx hv => hr (j + 1) x v (by simpa using hx) (by rw [Array.getElem?_append_right (by simp)]; simpa using hv)
  subst hvr
  have hrow : RowRep C.P w (PRep S w) e (plainRows L) v0 ∧ ∀ g, blk v0 = some g → ¬ S g := hr 0 _ v0 rfl (by simp)
  obtain ⟨⟨i, xs, hi, hpos, hown, hkr, hone, hcell⟩, hnS⟩ := hrow
  obtain ⟨info, z, g1, g2, _⟩ := hC.tab e ti hT
  rw [hi] at g1; injection g1 with g1; subst g1
  have hpl : (plainRows L).length = L.length := List.length_map ..
  have hpl' : (plainRows L').length = L.length := by rw [← hlen]; exact List.length_map ..
  have hx : xs = L.flatten := plain_rep (P := C.P) (k := i.size) (by rw [g2]; exact hL) (by rw [← hpl]; exact hown.1) hcell
  have hmv : ∀ g, blk v0 = some g → Mv w (.row e (plainRows L) :: zs.map fun a => .pv (.im a)) (#[v0] ++ zs.toArray) g := fun g hg => ⟨0, _, v0, rfl, by simp, rfl, .inl hg⟩
  have tail : ∀ w' : World, FinRep S w' C.P (.row e (plainRows L)) (.row (plainRows L')) v0 → FinAll S w' C.P (.row e (plainRows L) :: zs.map fun a => .pv (.im a)) [.row (plainRows L')] (#[v0] ++ zs.toArray).toList := fun w' hfr => by
    simp only [Array.toList_append]
    exact ⟨hfr, fin_im zs⟩
  have fok : ∀ w' : World, w.heap.size ≤ w'.heap.size → FinOK w w' (.row e (plainRows L) :: zs.map fun a => .pv (.im a)) [.row (plainRows L')] (#[v0] ++ zs.toArray) := fun w' hs => finok_row hs (fun g hg => ⟨(hown.lt g (by rw [ownBlock_blk (ownsRow_slice hown).choose_spec.choose_spec]; exact hg)).2, hmv g hg⟩)
  rcases hown.2 with ⟨q1, q2⟩ | ⟨g, cap, cur, q1, q2, q3, q4, q5, q6, q7⟩
  · have hLn : L = [] := List.eq_nil_of_length_eq_zero (by rw [← hpl]; exact q2)
    subst q1
    refine (hnil hLn w).mono fun e' w' ⟨he, hw⟩ => ?_
    subst hw
    refine ⟨.tuple #[], S, he, Fr.refl _ _, fun _ h => h, hS, fun b hb => .inl hb, ⟨#[], rfl, rfl, by simp⟩, tail _ ⟨?_, hnS⟩, fok _ (Nat.le_refl _), fun g h => by cases h⟩
    have hL'n : L' = [] := List.eq_nil_of_length_eq_zero (by rw [hlen, hLn]; rfl)
    subst hL'n
    exact ⟨i, [], hi, hpos, World.ownsRow_nil _ _ _ _, by simp [plainRows], by simp, by simp [plainRows]⟩
  · subst q1
    have hglt : g < w.heap.size := (Array.getElem?_eq_some_iff.1 q3).1
    have hFl : L'.flatten.toArray.size = L.length * i.size := by rw [List.size_toArray, flat_len hL', hlen, g2]
    have hcs : L.length * i.size ≤ cur.size := by rw [q6]; exact Nat.mul_le_mul_right _ (by rw [← hpl]; exact q4)
    have hh := h S w g cap hE hglt (by rw [← hpl]; exact q4) fun j v hj => by
      have hjl : j < L.length * i.size := by have := lt_of_get hj; rw [flat_len hL] at this; rw [g2]; exact this
      have : cur[j]? = some v := by
        rw [← hx, ← q7] at hj
        rw [List.getElem?_take] at hj
        split at hj
        · simpa using hj
        · cases hj
      exact ⟨by rw [cell_of_row w g j cur e (0, 0) q3]; exact this, by simp [World.frozen?, q3]⟩
    rw [← hpl] at hh
    refine hh.mono fun e' w' ⟨he, n, os, hw⟩ => ?_
    · subst hw
      obtain ⟨p1, p2, p3, p4, p5⟩ := putW_facts w g n L'.flatten.toArray os
      obtain ⟨c1, c2⟩ := putCells_all L'.flatten.toArray cur (by omega)
      have hg' : (putW w g n L'.flatten.toArray os).heap[g]? = some (.cells (Sort.putCells id 0 L'.flatten.toArray cur) e (0, 0)) := by rw [p5 g hglt, if_pos rfl, q3]; rfl
      refine ⟨.tuple #[], S, he, ⟨p1, p2, p3, p4, fun k hk hn => ?_⟩, fun _ h => h, fun b hb => Nat.lt_of_lt_of_le (hS b hb) p4, fun b hb => .inl hb, ⟨#[], rfl, rfl, by simp⟩, tail _ ⟨?_, hnS⟩, fok _ p4, fun g h => by cases h⟩
      · rw [p5 k hk, if_neg]
        intro e
        subst e
        exact hn (hmv k rfl)
      · refine ⟨i, L'.flatten, hi, hpos, ⟨by rw [hpl', ← hlen, g2]; exact flat_len hL', .inr ⟨g, cap, _, by rw [hpl', hpl], Nat.zero_le _, hg', by rw [hpl', ← hpl]; exact q4, q5, by rw [c1]; exact q6, ?_⟩⟩, by rw [g2]; exact row_len hL', fun u hu => ?_, rep_plain (by rw [g2]; exact hL')⟩
        · rw [hpl', ← hFl]
          exact c2
        · obtain ⟨r, hr1, hr2⟩ := List.mem_flatten.1 hu
          exact h1 r hr1 u hr2
/-- a handed row of plain cells, turned in its place; a front part of it comes back -/
theorem acalls_cut {C : Ctx} (hC : CtxOK C) {f : FuncId} (e : TypeId) (ti : TI) (hT : C.T e = some ti) (hk0 : 0 < ti.size) (zs : List Value) (L L' : List (List Value)) (m : Nat) (hm : m ≤ L.length) (hL : ∀ r ∈ L, r.length = ti.size) (hL' : ∀ r ∈ L', r.length = ti.size) (hlen : L'.length = L.length)
    (h1 : ∀ r ∈ L', ∀ v ∈ r, v.oneCell' = true) (hf : FnThere C f)
    (hnil : L = [] → ∀ w, Calls C.P f (#[.slice none 0 0] ++ zs.toArray) w fun e' w' => e' = .returned (.slice none 0 0) ∧ w' = w)
    (h : ∀ S w blk cap, C.E S w → blk < w.heap.size → L.length ≤ cap → (∀ j v, L.flatten[j]? = some v → w.cell? ⟨blk, j, none⟩ = some v ∧ w.frozen? ⟨blk, j, none⟩ = false) →
      Calls C.P f (#[.slice (some ⟨blk, 0, none⟩) L.length cap] ++ zs.toArray) w fun e' w' => e' = .returned (.slice (some ⟨blk, 0, none⟩) m cap) ∧ ∃ n os, w' = putW w blk n L'.flatten.toArray os) :
    ACalls C f (.row e (plainRows L) :: zs.map fun a => .pv (.im a)) (.own e (plainRows (L'.take m))) [.gone] := by
  refine ⟨hf, fun S w vs hE hS hl hr _ => ?_⟩
  obtain ⟨v0, vr, rfl⟩ : ∃ v0 vr, vs = #[v0] ++ vr := by
    obtain ⟨l⟩ := vs
    cases l with
    | nil => simp at hl
    | cons v0 l => exact ⟨v0, ⟨l⟩, by simp⟩
  have hvr : vr = zs.toArray := args_im (S := S) (w := w) (P := C.P) (by simp at hl ⊢; omega) fun j x v hx hv => hr (j + 1) x v (by simpa using hx) (by rw [Array.getElem?_append_right (by simp)]; simpa using hv)
  subst hvr
  have hrow : RowRep C.P w (PRep S w) e (plainRows L) v0 ∧ ∀ g, blk v0 = some g → ¬ S g := hr 0 _ v0 rfl (by simp)
  obtain ⟨⟨i, xs, hi, hpos, hown, hkr, hone, hcell⟩, hnS⟩ := hrow
  obtain ⟨info, z, g1, g2, _⟩ := hC.tab e ti hT
  rw [hi] at g1; injection g1 with g1; subst g1
  have hpl : (plainRows L).length = L.length := List.length_map ..
  have hpl' : (plainRows L').length = L.length := by rw [← hlen]; exact List.length_map ..
  have hx : xs = L.flatten := plain_rep (P := C.P) (k := i.size) (by rw [g2]; exact hL) (by rw [← hpl]; exact hown.1) hcell
  have hmv : ∀ g, blk v0 = some g → Mv w (.row e (plainRows L) :: zs.map fun a => .pv (.im a)) (#[v0] ++ zs.toArray) g := fun g hg => ⟨0, _, v0, rfl, by simp, rfl, .inl hg⟩
  have tail : ∀ w' : World, FinAll S w' C.P (.row e (plainRows L) :: zs.map fun a => .pv (.im a)) [.gone] (#[v0] ++ zs.toArray).toList := fun w' => by
    simp only [Array.toList_append]
    exact ⟨trivial, fin_im zs⟩
  have hkept : ∀ (w' : World) (i g : Nat), ¬ finOwn w' (.row e (plainRows L) :: zs.map fun a => .pv (.im a)) [.gone] (#[v0] ++ zs.toArray).toList i g := fun w' i g hk => by
    simp only [Array.toList_append] at hk
    cases i with
    | zero => cases hk.1
    | succ i => exact kept_im zs i g hk
  have fok : ∀ w' : World, FinOK w w' (.row e (plainRows L) :: zs.map fun a => .pv (.im a)) [.gone] (#[v0] ++ zs.toArray) := fun w' => ⟨fun i g h => (hkept w' i g h).elim, fun i j g h => (hkept w' i g h).elim⟩
  have hrows : plainRows (L'.take m) = (plainRows L').take m := by unfold plainRows; rw [List.map_take]
  rcases hown.2 with ⟨q1, q2⟩ | ⟨g, cap, cur, q1, q2, q3, q4, q5, q6, q7⟩
  · have hLn : L = [] := List.eq_nil_of_length_eq_zero (by rw [← hpl]; exact q2)
    subst q1
    refine (hnil hLn w).mono fun e' w' ⟨he, hw⟩ => ?_
    subst hw
    have hL'n : L' = [] := List.eq_nil_of_length_eq_zero (by rw [hlen, hLn]; rfl)
    subst hL'n
    refine ⟨.slice none 0 0, S, he, Fr.refl _ _, fun _ h => h, hS, fun b hb => .inl hb, ⟨?_, fun g hg => by cases hg⟩, tail _, fok _, fun g _ hg => by cases hg⟩
    rw [List.take_nil]
    exact ⟨i, [], hi, hpos, World.ownsRow_nil _ _ _ _, by simp [plainRows], by simp, by simp [plainRows]⟩
  · subst q1
    have hglt : g < w.heap.size := (Array.getElem?_eq_some_iff.1 q3).1
    have hFl : L'.flatten.toArray.size = L.length * i.size := by rw [List.size_toArray, flat_len hL', hlen, g2]
    have hcs : L.length * i.size ≤ cur.size := by rw [q6]; exact Nat.mul_le_mul_right _ (by rw [← hpl]; exact q4)
    have hh := h S w g cap hE hglt (by rw [← hpl]; exact q4) fun j v hj => by
      have hjl : j < L.length * i.size := by have := lt_of_get hj; rw [flat_len hL] at this; rw [g2]; exact this
      have : cur[j]? = some v := by
        rw [← hx, ← q7] at hj
        rw [List.getElem?_take] at hj
        split at hj
        · simpa using hj
        · cases hj
      exact ⟨by rw [cell_of_row w g j cur e (0, 0) q3]; exact this, by simp [World.frozen?, q3]⟩
    rw [← hpl] at hh
    refine hh.mono fun e' w' ⟨he, n, os, hw⟩ => ?_
    · subst hw
      obtain ⟨p1, p2, p3, p4, p5⟩ := putW_facts w g n L'.flatten.toArray os
      obtain ⟨c1, c2⟩ := putCells_all L'.flatten.toArray cur (by omega)
      have hg' : (putW w g n L'.flatten.toArray os).heap[g]? = some (.cells (Sort.putCells id 0 L'.flatten.toArray cur) e (0, 0)) := by rw [p5 g hglt, if_pos rfl, q3]; rfl
      have hfull : RowRep C.P (putW w g n L'.flatten.toArray os) (PRep S (putW w g n L'.flatten.toArray os)) e (plainRows L') (.slice (some ⟨g, 0, none⟩) (plainRows L).length cap) := by
        refine ⟨i, L'.flatten, hi, hpos, ⟨by rw [hpl', ← hlen, g2]; exact flat_len hL', .inr ⟨g, cap, _, by rw [hpl', hpl], Nat.zero_le _, hg', by rw [hpl', ← hpl]; exact q4, q5, by rw [c1]; exact q6, ?_⟩⟩, by rw [g2]; exact row_len hL', fun u hu => ?_, rep_plain (by rw [g2]; exact hL')⟩
        · rw [hpl', ← hFl]
          exact c2
        · obtain ⟨r, hr1, hr2⟩ := List.mem_flatten.1 hu
          exact h1 r hr1 u hr2
      refine ⟨_, S, he, ⟨p1, p2, p3, p4, fun k hk hn => ?_⟩, fun _ h => h, fun b hb => Nat.lt_of_lt_of_le (hS b hb) p4, fun b hb => .inl hb, ⟨?_, fun g' hg' => hnS g' hg'⟩, tail _, fok _, fun g' _ hg' => ⟨?_, .inr (hmv g' hg'), fun i => hkept _ i g'⟩⟩
      · rw [p5 k hk, if_neg]
        intro e
        subst e
        exact hn (hmv k rfl)
      · rw [hrows]
        exact RowRep.front hfull rfl (by rw [hpl]; exact hm) rfl
      · have : g = g' := by injection hg'
        rw [← this]
        exact Nat.lt_of_lt_of_le hglt p4
end Go.AM
namespace Go.AM
open Go.RowKit Go.ChangeShapes
section
variable {H : Type} {enc : TypeId × Value → H} {P : Program} {w : World} {S : Nat → Prop}
/-- a type's values, read by content: k cells, and what holds of them and of the data -/
def Dec (enc : TypeId × Value → H) (P : Program) (w : World) (S : Nat → Prop) (t : TypeId) (k : Nat) (Q : List PV → DataW H → Prop) : Prop :=
  ∀ n cs x, DataW.trod enc P w 0 (fun _ => true) true n t cs = some x → ∃ xs, xs.length = k ∧ cs.length = k ∧ (∀ (i : Nat) c v, xs[i]? = some c → cs[i]? = some v → PRep S w c v ∧ v.oneCell' = true) ∧ Q xs x.1
theorem one_cell {c : PV} {u : Value} (h : PRep S w c u ∧ u.oneCell' = true) : ∀ (i : Nat) c' v, [c][i]? = some c' → [u][i]? = some v → PRep S w c' v ∧ v.oneCell' = true := fun i c' v h1 h2 => by
  match i, h1, h2 with
  | 0, h1, h2 => cases h1; cases h2; exact h
  | n + 1, h1, h2 => cases h1
theorem dec_int {t : TypeId} (ht : P.underlying t = some (.int .i64)) : Dec enc P w S t 1 fun xs d => ∃ n : Int, xs = [.im (.int .i64 n)] ∧ d = .lit (.int .i64 n) := fun n cs x h => by
  obtain ⟨z, rfl, rfl, _⟩ := DataW.trod_int ht h
  exact ⟨[.im (.int .i64 z)], rfl, rfl, one_cell ⟨.im _, rfl⟩, z, rfl, rfl⟩
theorem dec_str {t : TypeId} (ht : P.underlying t = some .string) : Dec enc P w S t 1 fun xs d => ∃ s : ByteArray, xs = [.im (.string s)] ∧ d = .lit (.string s.data.toList) := fun n cs x h => by
  obtain ⟨s, rfl, rfl, _⟩ := DataW.trod_string ht h
  exact ⟨[.im (.string s)], rfl, rfl, one_cell ⟨.im _, rfl⟩, s, rfl, rfl⟩
theorem no_spot {a : Addr} {v : Value} (h : w.cell? a = some v) : a.spot = none ∧ a.block < w.heap.size := by
  unfold World.cell? at h
  split at h
  · rename_i c _ _ hh
    refine ⟨?_, ?_⟩
    · cases hs : a.spot with
      | none => rfl
      | some s => rw [hs] at h; cases h
    · rcases Nat.lt_or_ge a.block w.heap.size with h' | h'
      · exact h'
      · rw [Array.getElem?_eq_none h'] at hh; cases hh
  · cases h
/-- a slice, by its elements -/
theorem dec_slice {t e : TypeId} {k : Nat} {Q : List PV → DataW H → Prop} (ht : P.underlying t = some (.slice e)) (hc : P.cellsOf e = k) (hk : 0 < k) (hS : ∀ b, b < w.heap.size → S b) (he : Dec enc P w S e k Q) :
    Dec enc P w S t 1 fun xs d => ∃ (es : List (List PV)) (ds sp : List (DataW H)), xs = [.sl es] ∧ es.length = ds.length ∧ (d = .nil ∧ ds = [] ∨ d = .slice ds sp) ∧ ∀ (i : Nat) x y, es[i]? = some x → ds[i]? = some y → Q x y := fun n cs x h => by
  rcases Go.Deep.open_slice ht h with ⟨rfl, rfl⟩ | ⟨a, len, cap, m, n, D, Pl, rfl, hb, hl, hm, hmm, rfl, hx⟩
  · exact ⟨[.sl []], rfl, rfl, one_cell ⟨.nil _ _, rfl⟩, [], [], [], rfl, rfl, .inl ⟨rfl, rfl⟩, fun i x y h => by cases h⟩
  · have hlm : len ≤ m := by rw [hmm]; split <;> omega
    rcases Nat.eq_zero_or_pos len with h0 | hpos
    · subst h0
      exact ⟨[.sl []], rfl, rfl, one_cell ⟨.nil _ _, rfl⟩, [], [], _, rfl, rfl, .inr rfl, fun i x y h => by cases h⟩
    · rw [hc] at hx
      have each : ∀ i, i < len → ∃ p : List PV × List Value, p.1.length = k ∧ p.2.length = k ∧ (∀ j, j < k → w.cell? ((a.add (i * k)).add j) = p.2[j]?) ∧ (∀ (j : Nat) c v, p.1[j]? = some c → p.2[j]? = some v → PRep S w c v ∧ v.oneCell' = true) ∧ Q p.1 (D i) := fun i hi => by
        obtain ⟨cs', h1, h2⟩ := hx i (by omega)
        obtain ⟨_, hlen, hcell⟩ := World.cells?_some h1
        obtain ⟨xs, l1, l2, l3, l4⟩ := he _ _ _ h2
        exact ⟨(xs, cs'), l1, l2, hcell, l3, l4⟩
      obtain ⟨F, hF⟩ := Go.Deep.choose_lt (α := List PV × List Value) each
      have get : ∀ (i : Nat) e, ((List.range len).map fun i => (F i).1)[i]? = some e → i < len ∧ e = (F i).1 := fun i e h => by
        rw [List.getElem?_map, Option.map_eq_some_iff] at h
        obtain ⟨j, hj, rfl⟩ := h
        obtain ⟨h1, h2⟩ := List.getElem?_eq_some_iff.1 hj
        rw [List.getElem_range] at h2
        subst h2
        exact ⟨by simpa using h1, rfl⟩
      have cellOf : ∀ i j, i < len → j < k → w.cell? ((a.add (i * k)).add j) = some (((F i).2[j]?).getD .nilIface) := fun i j hi hj => by
        obtain ⟨_, l2, h3, _⟩ := hF i hi
        rw [h3 j hj, List.getElem?_eq_getElem (by omega)]
        rfl
      have hz := no_spot (cellOf 0 0 hpos hk)
      obtain ⟨b, off, spot⟩ := a
      have hsp : spot = none := by simpa [Addr.add] using hz.1
      subst hsp
      have hblt : b < w.heap.size := by simpa [Addr.add] using hz.2
      have hrow : ∀ i j, ((⟨b, off, none⟩ : Addr).add (i * k)).add j = ⟨b, off + i * k + j, none⟩ := fun i j => by
        unfold Addr.add
        by_cases h1 : i * k = 0
        · rw [if_pos h1, h1]
          by_cases h2 : j = 0
          · rw [if_pos h2, h2]; rfl
          · rw [if_neg h2]; rfl
        · rw [if_neg h1]
          by_cases h2 : j = 0
          · rw [if_pos h2, h2]; rfl
          · rw [if_neg h2]
      refine ⟨[.sl ((List.range len).map fun i => (F i).1)], rfl, rfl, one_cell ⟨?_, rfl⟩, (List.range len).map fun i => (F i).1, (List.range len).map D, _, rfl, by simp, .inr rfl, fun i x y h1 h2 => ?_⟩
      · have hlen : ((List.range len).map fun i => (F i).1).length = len := by simp
        have := PRep.sl (S := S) (w := w) ((List.range len).map fun i => (F i).1) k b off cap (fun i j => ((F i).2[j]?).getD .nilIface) (by rw [hlen]; exact hl) (hS b hblt)
          (fun e he' => by obtain ⟨i, hi, rfl⟩ := List.mem_map.1 he'; exact (hF i (List.mem_range.1 hi)).1)
          (fun i e j x h1 h2 => by
            obtain ⟨hi, rfl⟩ := get i e h1
            have hj : j < k := by rw [← (hF i hi).1]; exact (List.getElem?_eq_some_iff.1 h2).1
            have hv : (F i).2[j]? = some (((F i).2[j]?).getD .nilIface) := by rw [List.getElem?_eq_getElem (by rw [(hF i hi).2.1]; exact hj)]; rfl
            exact ⟨by rw [← hrow]; exact cellOf i j hi hj, ((hF i hi).2.2.2.1 j x _ h2 hv).2⟩)
          (fun i e j x h1 h2 => by
            obtain ⟨hi, rfl⟩ := get i e h1
            have hj : j < k := by rw [← (hF i hi).1]; exact (List.getElem?_eq_some_iff.1 h2).1
            have hv : (F i).2[j]? = some (((F i).2[j]?).getD .nilIface) := by rw [List.getElem?_eq_getElem (by rw [(hF i hi).2.1]; exact hj)]; rfl
            exact ((hF i hi).2.2.2.1 j x _ h2 hv).1)
        rw [hlen] at this
        exact this
      · obtain ⟨hi, rfl⟩ := get i x h1
        rw [List.getElem?_map, List.getElem?_range hi] at h2
        cases h2
        exact (hF i hi).2.2.2.2
instance : Inhabited PV := ⟨.sl []⟩
/-- a struct of one-celled fields -/
theorem dec_struct {t : TypeId} {fs : Array Field} (ht : P.underlying t = some (.struct fs)) (hone : ∀ (i : Nat) (f : Field), fs[i]? = some f → f.offset = i ∧ P.cellsOf f.type = 1) (hc : P.cellsOf t = fs.size) (Qs : Nat → List PV → DataW H → Prop)
    (hf : ∀ (i : Nat) (f : Field), fs[i]? = some f → Dec enc P w S f.type 1 (Qs i)) :
    Dec enc P w S t fs.size fun xs d => ∃ ds : List (DataW H), d = .agg ds ∧ ds.length = fs.size ∧ ∀ (i : Nat) x y, xs[i]? = some x → ds[i]? = some y → Qs i [x] y := fun n cs x h => by
  obtain ⟨ys, m, _, rfl, hl, hlen, hy⟩ := DataW.trod_struct ht h
  rw [hc] at hl
  have each : ∀ i, i < fs.size → ∃ c : PV, ∃ y v, ys[i]? = some y ∧ cs[i]? = some v ∧ PRep S w c v ∧ v.oneCell' = true ∧ Qs i [c] y.1 := fun i hi => by
    have hfi : fs[i]? = some fs[i] := Array.getElem?_eq_getElem hi
    obtain ⟨ho, h1⟩ := hone i _ hfi
    have hyi := hy i _ hfi
    rw [ho, h1] at hyi
    have hyy : ys[i]? = some ys[i] := List.getElem?_eq_getElem (by omega)
    rw [hyy] at hyi
    obtain ⟨xs, l1, l2, l3, l4⟩ := hf i _ hfi _ _ _ hyi
    have hcs : cs[i]? = some cs[i] := List.getElem?_eq_getElem (by omega)
    have hd : (cs.drop i).take 1 = [cs[i]] := by
      rw [List.drop_eq_getElem_cons (by omega)]; rfl
    rw [hd] at l3
    obtain ⟨c, rfl⟩ : ∃ c, xs = [c] := by
      match xs, l1 with
      | [c], _ => exact ⟨c, rfl⟩
    exact ⟨c, ys[i], cs[i], hyy, hcs, (l3 0 _ _ rfl rfl).1, (l3 0 _ _ rfl rfl).2, l4⟩
  obtain ⟨F, hF⟩ := Go.Deep.choose_lt (α := PV) each
  refine ⟨(List.range fs.size).map F, by simp, hl, fun i c v h1 h2 => ?_, ys.map (·.1), rfl, by rw [List.length_map, hlen], fun i x y h1 h2 => ?_⟩
  · have hi : i < fs.size := by have := (List.getElem?_eq_some_iff.1 h1).1; simpa using this
    rw [List.getElem?_map, List.getElem?_range hi] at h1
    cases h1
    obtain ⟨y, v', _, e2, e3, e4, _⟩ := hF i hi
    rw [h2] at e2
    cases e2
    exact ⟨e3, e4⟩
  · have hi : i < fs.size := by have := (List.getElem?_eq_some_iff.1 h1).1; simpa using this
    rw [List.getElem?_map, List.getElem?_range hi] at h1
    cases h1
    obtain ⟨y', v', e1, _, _, _, e5⟩ := hF i hi
    rw [List.getElem?_map, e1] at h2
    cases h2
    exact e5
/-- a struct that is handed as an argument -/
theorem rep_agg {t : TypeId} {k : Nat} {Q : List PV → DataW H → Prop} (hd : Dec enc P w S t k Q) {vs : Array Value} {d : DataW H} {ps : List MemPlace} (h : DataW.Trod enc P w 0 (fun _ => true) true t (.agg vs) d ps) :
    ∃ xs, PRep S w (.ag xs) (.agg vs) ∧ xs.length = k ∧ Q xs d := by
  obtain ⟨n, hn⟩ := h
  obtain ⟨xs, l1, l2, l3, l4⟩ := hd _ _ _ hn
  have l2 : vs.toList.length = k := l2
  have get : ∀ (i : Nat) (v : Value), vs[i]? = some v → vs.toList[i]? = some v := fun i v h => by rw [Array.getElem?_toList]; exact h
  refine ⟨xs, .ag xs vs (by rw [l1, ← l2]; simp) (fun u hu => ?_) fun i c v h1 h2 => (l3 i c v h1 (get i v h2)).1, l1, l4⟩
  obtain ⟨i, hi⟩ := List.mem_iff_getElem?.1 hu
  have hlt : i < xs.length := by have := (List.getElem?_eq_some_iff.1 hi).1; omega
  exact (l3 i _ u (List.getElem?_eq_getElem hlt) hi).2
/-- an argument of struct type: its value and its content -/
theorem arg_struct {t : TypeId} {fs : Array Field} {k : Nat} {Q : List PV → DataW H → Prop} {r : Reach} {b0 : Nat} (ht : P.underlying t = some (.struct fs)) (hd : Dec enc P w S t k Q) {v : Value} {d : DataW H} {ps : List MemPlace} (hv : Value.okWide P w r b0 t v) (h : DataW.Trod enc P w 0 (fun _ => true) true t v d ps) :
    ∃ xs, PRep S w (.ag xs) v ∧ Q xs d := by
  obtain ⟨cs, rfl, _⟩ := Go.WideShapes.okWide_struct ht hv
  obtain ⟨xs, h1, _, h2⟩ := rep_agg hd h
  exact ⟨xs, h1, h2⟩
/-- an argument of slice type: its value and its content -/
theorem arg_slice {t e : TypeId} {Q : List PV → DataW H → Prop} {r : Reach} {b0 : Nat} (ht : P.underlying t = some (.slice e)) (hd : Dec enc P w S t 1 Q) {v : Value} {d : DataW H} {ps : List MemPlace} (hv : Value.okWide P w r b0 t v) (h : DataW.Trod enc P w 0 (fun _ => true) true t v d ps) :
    ∃ c, PRep S w c v ∧ Q [c] d := by
  obtain ⟨a, l, c, rfl⟩ := Go.WideShapes.okWide_slice ht hv
  obtain ⟨n, hn⟩ := h
  obtain ⟨xs, l1, l2, l3, l4⟩ := hd _ _ _ hn
  obtain ⟨x, rfl⟩ : ∃ x, xs = [x] := by
    match xs, l1 with
    | [x], _ => exact ⟨x, rfl⟩
  exact ⟨x, (l3 0 x _ rfl rfl).1, l4⟩
theorem pv_no (w : World) (xs : List PV) (vs : Array Value) (g : Nat) : ¬ Mv w (xs.map Arg.pv) vs g := by
  rintro ⟨j, y, v, h1, _, h2, _⟩
  rw [List.getElem?_map, Option.map_eq_some_iff] at h1
  obtain ⟨x, _, rfl⟩ := h1
  cases h2
/-- arguments by content -/
def Reps (S : Nat → Prop) (w : World) (xs : List PV) (vs : List Value) : Prop := xs.length = vs.length ∧ ∀ (j : Nat) x v, xs[j]? = some x → vs[j]? = some v → PRep S w x v
theorem reps_nil : Reps S w [] [] := ⟨rfl, fun j x v h => by cases h⟩
theorem reps_cons {x : PV} {v : Value} {xs : List PV} {vs : List Value} (h : PRep S w x v) (hr : Reps S w xs vs) : Reps S w (x :: xs) (v :: vs) := ⟨by rw [List.length_cons, List.length_cons, hr.1], fun j x' v' h1 h2 => by
  match j, h1, h2 with
  | 0, h1, h2 => cases h1; cases h2; exact h
  | j + 1, h1, h2 => exact hr.2 j x' v' h1 h2⟩
/-- a law's run, its arguments by content -/
theorem law_im {C : Ctx} {f : FuncId} {xs : List PV} {y : Value} (h : ACalls C f (xs.map Arg.pv) (.p (.im y)) []) {vs : Array Value} (hE : C.E (fun b => b < w.heap.size) w) (hr : Reps (fun b => b < w.heap.size) w xs vs.toList) :
    Calls C.P f vs w fun e w' => e = .returned y ∧ Below w.heap.size w w' := by
  refine (h.2 (fun b => b < w.heap.size) w vs hE (fun _ h => h) (by rw [List.length_map, hr.1]; simp) (fun j x v h1 h2 => ?_) (fun i j x y v u g h1 _ _ _ h5 => ?_)).mono ?_
  · rw [List.getElem?_map, Option.map_eq_some_iff] at h1
    obtain ⟨x, hx, rfl⟩ := h1
    exact hr.2 j x v hx (by rw [Array.getElem?_toList]; exact h2)
  · rw [List.getElem?_map, Option.map_eq_some_iff] at h1
    obtain ⟨x, _, rfl⟩ := h1
    cases h5
  · rintro e w' ⟨v, S', rfl, hf, _, _, _, hv, _⟩
    have hv : PRep S' w' (.im y) v := hv
    cases hv
    exact ⟨rfl, hf.os, hf.tape, hf.output, hf.size, fun k hk => hf.block k hk (pv_no _ _ _ _)⟩
end
end Go.AM
