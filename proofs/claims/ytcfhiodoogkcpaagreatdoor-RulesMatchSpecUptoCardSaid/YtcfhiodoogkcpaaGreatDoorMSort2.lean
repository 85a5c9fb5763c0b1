/- By the library's contracts: slices.Sort and Compact at ints. -/
import Derived.Test.YtcfhiodoogkcpaaGreatDoorMSort
set_option linter.unusedSimpArgs false
set_option linter.unusedVariables false
namespace Go.Proofs.YtcfhiodoogkcpaaGreatDoor.M
open Go.AM Go.RowKit Go.Lib Go.Sort
open Reg (Rect Spans Band)

theorem compact_upto (d : Array Int) (hs : ∀ i j, i ≤ j → j < d.size → d[i]! ≤ d[j]!) : ∀ m, m ≤ d.size → Reg.Rising (compactUpTo d m) ∧ (∀ x, x ∈ compactUpTo d m ↔ ∃ j, j < m ∧ d[j]! = x) := by
  intro m
  induction m with
  | zero => intro _; exact ⟨by simp [compactUpTo, Reg.Rising], by simp [compactUpTo]⟩
  | succ m ih =>
    intro hm
    obtain ⟨h1, h2⟩ := ih (by omega)
    rw [compactUpTo_succ]
    cases hk : keeps d m with
    | true =>
      have hk2 : m = 0 ∨ d[m]! ≠ d[m - 1]! := by simpa [keeps] using hk
      have hlt : ∀ x ∈ compactUpTo d m, x < d[m]! := by
        intro x hx
        obtain ⟨j, hj, rfl⟩ := (h2 x).1 hx
        rcases hk2 with h | h
        · omega
        · have a := hs j (m - 1) (by omega) (by omega)
          have b := hs (m - 1) m (by omega) (by omega)
          omega
      refine ⟨?_, fun x => ?_⟩
      · simp only [if_pos]
        exact List.pairwise_append.2 ⟨h1, by simp, fun a ha b hb => by simp at hb; subst hb; exact hlt a ha⟩
      · simp only [if_pos, List.mem_append, List.mem_singleton, h2]
        constructor
        · rintro (⟨j, hj, rfl⟩ | rfl)
          · exact ⟨j, by omega, rfl⟩
          · exact ⟨m, by omega, rfl⟩
        · rintro ⟨j, hj, rfl⟩
          by_cases e : j = m
          · exact .inr (by rw [e])
          · exact .inl ⟨j, by omega, rfl⟩
    | false =>
      have hk2 : m ≠ 0 ∧ d[m]! = d[m - 1]! := by simpa [keeps] using hk
      simp only [Bool.false_eq_true, if_neg, List.append_nil, not_false_eq_true]
      refine ⟨h1, fun x => ?_⟩
      rw [h2]
      constructor
      · rintro ⟨j, hj, rfl⟩; exact ⟨j, by omega, rfl⟩
      · rintro ⟨j, hj, rfl⟩
        by_cases e : j = m
        · exact ⟨m - 1, by omega, by rw [e]; exact hk2.2.symm⟩
        · exact ⟨j, by omega, rfl⟩
theorem compact_facts {zs : List Int} (hs : zs.Pairwise (· ≤ ·)) : Reg.Rising (compact zs) ∧ ∀ x, x ∈ compact zs ↔ x ∈ zs := by
  have hg : ∀ i (h : i < zs.length), zs.toArray[i]! = zs[i] := fun i h => by rw [getElem!_pos _ i (by simpa using h)]; simp
  obtain ⟨h1, h2⟩ := compact_upto zs.toArray (fun i j hij hj => by
    have hj : j < zs.length := by simpa using hj
    rw [hg i (by omega), hg j hj]
    by_cases e : i = j
    · subst e; omega
    · exact List.pairwise_iff_getElem.1 hs i j (by omega) hj (by omega)) zs.length (by simp)
  refine ⟨h1, fun x => (h2 x).trans ?_⟩
  constructor
  · rintro ⟨j, hj, rfl⟩; rw [hg j hj]; exact List.getElem_mem hj
  · intro hx
    obtain ⟨j, hj, rfl⟩ := List.getElem_of_mem hx
    exact ⟨j, hj, hg j hj⟩
def encI (n : Int) : List Value := [.int .i64 n]
theorem encI_len {l : List Int} : ∀ r ∈ l.map encI, r.length = 1 := by
  intro r hr
  obtain ⟨x, _, rfl⟩ := List.mem_map.1 hr
  rfl
theorem plain_ints (l : List Int) : plainRows (l.map encI) = l.map fun n => [i64 n] := by
  unfold plainRows; rw [List.map_map]; rfl
theorem flat_ints (l : List Int) : (l.map encI).flatten = l.map (Value.int .i64) := by
  induction l with
  | nil => rfl
  | cons a l ih => rw [List.map_cons, List.flatten_cons, ih]; rfl
theorem putRow_map (w : World) (b n : Nat) (l : List Int) : putRow (Value.int .i64) (Sort.ahead w n) b 0 l.toArray = putRow id (Sort.ahead w n) b 0 (l.map (Value.int .i64)).toArray := by
  unfold putRow
  refine mapBlock_congr _ _ _ _ fun c _ _ _ => ?_
  apply Array.ext_getElem?
  intro k
  simp only [putCells, Array.getElem?_mapIdx, List.size_toArray, List.length_map]
  cases c[k]? with
  | none => rfl
  | some x =>
    simp only [Option.map_some]
    by_cases h : 0 ≤ k ∧ k < 0 + l.length
    · rw [if_pos h, if_pos h]
      congr 1
      rw [getElem!_pos _ (k - 0) (by simp; omega), getElem!_pos _ (k - 0) (by simp; omega)]
      simp
    · rw [if_neg h, if_neg h]
theorem holds_ints {w : World} {blk : Nat} {l : List Int} (h : ∀ j v, (l.map encI).flatten[j]? = some v → w.cell? ⟨blk, j, none⟩ = some v ∧ w.frozen? ⟨blk, j, none⟩ = false) : Holds (Value.int .i64) w blk 0 l.toArray := by
  intro j hj
  have hj' : j < l.length := by simpa using hj
  rw [flat_ints] at h
  obtain ⟨h1, h2⟩ := h j (.int .i64 l[j]) (by rw [List.getElem?_map, List.getElem?_eq_getElem hj']; rfl)
  rw [Nat.zero_add, h1]
  refine ⟨?_, h2⟩
  rw [getElem!_pos _ j hj]
  simp
/-- a list of numbers in rising order -/
def sortI (l : List Int) : List Int := l.mergeSort fun x y => decide (x ≤ y)
theorem sort_ints (l : List Int) (hN : l.length < 4611686018427387904) : ACalls C 80 [.row 3 (l.map fun n => [i64 n])] (.tu []) [.row ((sortI l).map fun n => [i64 n])] := by
  have := acalls_put hC (f := 80) 3 _ rfl (by decide) [] (l.map encI) ((sortI l).map encI) encI_len encI_len (by rw [List.length_map, List.length_map, sortI, List.length_mergeSort])
    (fun r hr v hv => by
      obtain ⟨x, _, rfl⟩ := List.mem_map.1 hr
      simp only [encI, List.mem_singleton] at hv
      rw [hv]; rfl)
    ⟨_, Tryz.func80, rfl, rfl⟩
    (fun _ w => Tryz.slices_Sort_int_none none 0 w)
    (fun S w blk cap hE hblk _ hcell => by
      have hc := Tryz.slices_Sort_int blk 0 cap l w (holds_ints hcell) hblk hN
      rw [List.length_map]
      refine hc.mono fun e' w' ⟨h1, n, os, h2⟩ => ⟨h1, n, os, ?_⟩
      rw [h2]
      unfold putW
      rw [flat_ints, ← putRow_map]
      rfl)
  rw [plain_ints, plain_ints] at this
  exact this
theorem compact_ints (l : List Int) (hN : l.length ≤ 9223372036854775807) : ACalls C 81 [.row 3 (l.map fun n => [i64 n])] (.own 3 ((compact l).map fun n => [i64 n])) [.gone] := by
  have hcl := compact_length_le l
  have := acalls_cut hC (f := 81) 3 _ rfl (by decide) [] (l.map encI) ((compact l ++ List.replicate (l.length - (compact l).length) 0).map encI) (compact l).length (by rw [List.length_map]; exact hcl) encI_len encI_len (by simp; omega)
    (fun r hr v hv => by
      obtain ⟨x, _, rfl⟩ := List.mem_map.1 hr
      simp only [encI, List.mem_singleton] at hv
      rw [hv]; rfl)
    ⟨_, Tryz.func81, rfl, rfl⟩
    (fun _ w => Tryz.slices_Compact_int_empty none 0 w)
    (fun S w blk cap hE hblk hcap hcell => by
      rw [List.length_map] at hcap
      have hc := Tryz.slices_Compact_int blk 0 cap l w (holds_ints hcell) hN hcap
      rw [List.length_map]
      refine hc.mono fun e' w' ⟨h1, n, h2⟩ => ⟨h1, n, #[], ?_⟩
      rw [h2]
      unfold putW
      rw [flat_ints, ← putRow_map, grow_empty])
  rw [← List.map_take, plain_ints, plain_ints, List.take_left] at this
  exact this
end Go.Proofs.YtcfhiodoogkcpaaGreatDoor.M
