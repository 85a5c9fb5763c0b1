/- By the library's contract: slices.SortFunc at rectangles, by one number. -/
import Derived.Test.YthjfllfhagdnpaaGreatDoorMHouse4
import Derived.Test.YthjfllfhagdnpaaGreatDoorAM4
import Derived.Shelf.SlSortCmp.NoneTotal
set_option linter.unusedSimpArgs false
set_option linter.unusedVariables false
namespace Go.Proofs.YthjfllfhagdnpaaGreatDoor.M
open Go.AM Go.RowKit Go.Lib Go.Sort
open Reg (Rect Spans Band)

instance : Inhabited Rect := ⟨⟨0, 0, 0, 0⟩⟩
/-- a number, cut down to where differences do not overflow -/
def cl (n : Int) : Int := max (-4611686018427387904) (min n 4611686018427387903)
theorem cl_in (n : Int) : -4611686018427387904 ≤ cl n ∧ cl n ≤ 4611686018427387903 := by unfold cl; omega
theorem cl_id {n : Int} (h : -4611686018427387904 ≤ n ∧ n ≤ 4611686018427387903) : cl n = n := by unfold cl; omega
def Bd (r : Rect) : Prop := (-4611686018427387904 ≤ r.x0 ∧ r.x0 ≤ 4611686018427387903) ∧ (-4611686018427387904 ≤ r.y0 ∧ r.y0 ≤ 4611686018427387903) ∧ (-4611686018427387904 ≤ r.x1 ∧ r.x1 ≤ 4611686018427387903) ∧ (-4611686018427387904 ≤ r.y1 ∧ r.y1 ≤ 4611686018427387903)
def encV (r : Rect) : List Value := [.int .i64 (cl r.x0), .int .i64 (cl r.y0), .int .i64 (cl r.x1), .int .i64 (cl r.y1)]
theorem encV_rc {r : Rect} (h : Bd r) : (encV r).map PV.im = rc r := by
  obtain ⟨h1, h2, h3, h4⟩ := h
  simp only [encV, cl_id h1, cl_id h2, cl_id h3, cl_id h4]
  rfl
theorem plain_rects {l : List Rect} (h : ∀ r ∈ l, Bd r) : plainRows (l.map encV) = l.map rc := by
  unfold plainRows
  rw [List.map_map]
  exact List.map_congr_left fun r hr => encV_rc (h r hr)
theorem encV_len {l : List Rect} : ∀ r ∈ l.map encV, r.length = 4 := by
  intro r hr
  obtain ⟨x, _, rfl⟩ := List.mem_map.1 hr
  rfl
theorem flatK_eq (d : Array Rect) : flatK encV 4 d = (d.toList.map encV).flatten.toArray := by
  apply Array.ext_getElem?
  intro q
  have hlen : (d.toList.map encV).flatten.length = d.size * 4 := by rw [flat_len (k := 4) encV_len]; simp
  by_cases hq : q < d.size * 4
  · have h1 : q / 4 < d.size := by omega
    have h2 : q % 4 < 4 := Nat.mod_lt _ (by omega)
    have e : q / 4 * 4 + q % 4 = q := by omega
    have hg := get_flatK encV 4 d q hq
    have hsz : (flatK encV 4 d).size = d.size * 4 := by simp
    rw [Array.getElem?_eq_getElem (by omega), ← getElem!_pos (flatK encV 4 d) q (by omega), hg]
    have hr : (d.toList.map encV)[q / 4]? = some (encV d[q / 4]!) := by
      rw [List.getElem?_map, Array.getElem?_toList, Array.getElem?_eq_getElem h1, Option.map_some, getElem!_pos d _ h1]
    have hv : (encV d[q / 4]!)[q % 4]? = some ((encV d[q / 4]!)[q % 4]!) := by
      have h3 : q % 4 < (encV d[q / 4]!).length := h2
      rw [List.getElem?_eq_getElem h3, getElem!_pos (encV d[q / 4]!) (q % 4) h3]
    have := flat_at (k := 4) encV_len hr hv
    rw [e] at this
    simpa using this.symm
  · rw [Array.getElem?_eq_none (by simp; omega), Array.getElem?_eq_none (by simp only [List.size_toArray]; omega)]
def cfY (a b : Rect) : Int := cl a.y0 - cl b.y0
def cfX (a b : Rect) : Int := cl a.x0 - cl b.x0
theorem ltY (a b : Rect) : ltOf cfY a b = decide (cl a.y0 < cl b.y0) := by unfold ltOf cfY; congr 1; exact propext ⟨fun h => by omega, fun h => by omega⟩
theorem ltX (a b : Rect) : ltOf cfX a b = decide (cl a.x0 < cl b.x0) := by unfold ltOf cfX; congr 1; exact propext ⟨fun h => by omega, fun h => by omega⟩
theorem swoY : SWO (ltOf cfY) where
  irrefl x := by rw [ltY]; simp
  trans x y z h1 h2 := by rw [ltY] at *; simp at *; omega
  ntrans x y z h1 h2 := by rw [ltY] at *; simp at *; omega
theorem swoX : SWO (ltOf cfX) where
  irrefl x := by rw [ltX]; simp
  trans x y z h1 h2 := by rw [ltX] at *; simp at *; omega
  ntrans x y z h1 h2 := by rw [ltX] at *; simp at *; omega
set_option maxHeartbeats 1000000 in
theorem closureY (x y : Rect) (W : World) : Calls Tryz.prog 132 #[.agg (encV x).toArray, .agg (encV y).toArray] W fun e w' => e = .returned (.int .i64 (cfY x y)) ∧ ∃ q os', w' = grow (W.drewN q) os' := by
  have h1 := cl_in x.y0
  have h2 := cl_in y.y0
  unfold encV cfY
  generalize cl x.x0 = a1 at *
  generalize cl x.y0 = a2 at *
  generalize cl x.x1 = a3 at *
  generalize cl x.y1 = a4 at *
  generalize cl y.x0 = b1 at *
  generalize cl y.y0 = b2 at *
  generalize cl y.x1 = b3 at *
  generalize cl y.y1 = b4 at *
  go_enter Tryz.func132, Tryz.ntmps132
  go_wp2
  go_ret
  exact ⟨rfl, 0, _, by rw [alloc_eq_grow, alloc_eq_grow, grow_grow]; rfl⟩
set_option maxHeartbeats 1000000 in
theorem closureX (x y : Rect) (W : World) : Calls Tryz.prog 223 #[.agg (encV x).toArray, .agg (encV y).toArray] W fun e w' => e = .returned (.int .i64 (cfX x y)) ∧ ∃ q os', w' = grow (W.drewN q) os' := by
  have h1 := cl_in x.x0
  have h2 := cl_in y.x0
  unfold encV cfX
  generalize cl x.x0 = a1 at *
  generalize cl x.y0 = a2 at *
  generalize cl x.x1 = a3 at *
  generalize cl x.y1 = a4 at *
  generalize cl y.x0 = b1 at *
  generalize cl y.y0 = b2 at *
  generalize cl y.x1 = b3 at *
  generalize cl y.y1 = b4 at *
  go_enter Tryz.func223, Tryz.ntmps223
  go_wp2
  go_ret
  exact ⟨rfl, 0, _, by rw [alloc_eq_grow, alloc_eq_grow, grow_grow]; rfl⟩
/-- what the library makes of a list of rectangles -/
def sortBy (cf : Rect → Rect → Int) (l : List Rect) : List Rect := (pdq (ltOf cf) l.toArray 0 l.toArray.size (Lib.bitLen l.toArray.size) true true).toList
theorem sortBy_facts (cf : Rect → Rect → Int) (hO : SWO (ltOf cf)) (l : List Rect) : (sortBy cf l).Perm l ∧ (sortBy cf l).Pairwise fun a b => ltOf cf b a = false := by
  obtain ⟨h1, h2⟩ := pdq_sorts (ltOf cf) hO l.toArray 0 l.toArray.size (Lib.bitLen l.toArray.size) true true (Nat.zero_le _) (Nat.le_refl _) (Or.inl rfl)
  obtain ⟨p1, _, p3⟩ := h1
  have hp : (sortBy cf l).Perm l := by
    have e1 : ∀ d : Array Rect, d.size = l.toArray.size → (d.extract 0 l.toArray.size).toList = d.toList := fun d h => by rw [← h]; simp
    rw [e1 _ p1, e1 _ rfl] at p3
    unfold sortBy
    simpa using p3
  refine ⟨hp, ?_⟩
  rw [List.pairwise_iff_getElem]
  intro i j hi hj hij
  have hs : (sortBy cf l).length = l.toArray.size := by rw [hp.length_eq]; simp
  have := h2 i j (Nat.zero_le _) hij (by omega)
  unfold sortBy at hi hj ⊢
  simp only [Array.length_toList] at hi hj
  rw [getElem!_pos _ j hj, getElem!_pos _ i hi] at this
  simpa using this
theorem sortY_facts {l : List Rect} (h : ∀ r ∈ l, Bd r) : (sortBy cfY l).Perm l ∧ (sortBy cfY l).Pairwise fun a b => a.y0 ≤ b.y0 := by
  obtain ⟨h1, h2⟩ := sortBy_facts cfY swoY l
  refine ⟨h1, h2.imp_of_mem fun {a b} ha hb hab => ?_⟩
  rw [ltY, cl_id (h b (h1.mem_iff.1 hb)).2.1, cl_id (h a (h1.mem_iff.1 ha)).2.1] at hab
  simpa using hab
theorem sortX_facts {l : List Rect} (h : ∀ r ∈ l, Bd r) : (sortBy cfX l).Perm l ∧ (sortBy cfX l).Pairwise fun a b => a.x0 ≤ b.x0 := by
  obtain ⟨h1, h2⟩ := sortBy_facts cfX swoX l
  refine ⟨h1, h2.imp_of_mem fun {a b} ha hb hab => ?_⟩
  rw [ltX, cl_id (h b (h1.mem_iff.1 hb)).1, cl_id (h a (h1.mem_iff.1 ha)).1] at hab
  simpa using hab
theorem sort_any (cf : Rect → Rect → Int) (hO : SWO (ltOf cf)) (g : Nat) (eg : ∀ args w, (callFunc g args).run Tryz.prog w = .ok (.enter g args) w)
    (hcl : ∀ (x y : Rect) (W : World), Calls Tryz.prog g #[.agg (encV x).toArray, .agg (encV y).toArray] W fun e w' => e = .returned (.int .i64 (cf x y)) ∧ ∃ q os', w' = grow (W.drewN q) os')
    (l : List Rect) (hl : ∀ r ∈ l, Bd r) (hN : l.length < 4611686018427387904) : ACalls C 131 [.row 73 (l.map rc), .pv (.im (.func (.func g) #[] #[]))] (.tu []) [.row ((sortBy cf l).map rc)] := by
  obtain ⟨hp, _⟩ := sortBy_facts cf hO l
  have hls : ∀ r ∈ sortBy cf l, Bd r := fun r hr => hl r (hp.mem_iff.1 hr)
  have := acalls_put hC (f := 131) 73 _ rfl (by decide) [.func (.func g) #[] #[]] (l.map encV) ((sortBy cf l).map encV) encV_len encV_len (by rw [List.length_map, List.length_map, hp.length_eq])
    (fun r hr v hv => by
      obtain ⟨x, _, rfl⟩ := List.mem_map.1 hr
      simp only [encV, List.mem_cons, List.not_mem_nil, or_false] at hv
      rcases hv with rfl | rfl | rfl | rfl <;> rfl)
    ⟨_, Tryz.func131, rfl, rfl⟩
    (fun _ w => AnyF.slices_SortFunc_none Tryz.laysSortRect none 0 (.func (.func g) #[] #[]) w)
    (fun S w blk cap hE hblk _ hcell => by
      have hH : HoldsK encV 4 w blk 0 l.toArray := by
        unfold HoldsK
        intro j hj
        rw [flatK_eq] at hj ⊢
        simp only [List.size_toArray] at hj
        have hv : (l.map encV).flatten[j]? = some ((l.map encV).flatten[j]'hj) := List.getElem?_eq_getElem hj
        obtain ⟨h1, h2⟩ := hcell j _ hv
        rw [Nat.zero_add]
        refine ⟨?_, h2⟩
        rw [h1]
        congr 1
        rw [getElem!_pos _ j (by simpa using hj)]
        simp
      have hc := AnyQ.slices_SortFunc_eq Tryz.laysSortRect 4 (fun w => (hC.tab 73 _ rfl).isAgg w) (fun w => (hC.tab 73 _ rfl).sizeOf w) encV (fun _ => rfl) (fun x v hv => by
        simp only [encV, List.mem_cons, List.not_mem_nil, or_false] at hv
        rcases hv with rfl | rfl | rfl | rfl <;> rfl) cf hO g #[] blk 0 cap l.toArray w eg (fun _ _ _ _ x y => hcl x y _) hH hblk (by simpa using hN)
      have e : l.toArray.size = (l.map encV).length := by simp
      rw [e] at hc
      refine hc.mono fun e' w' ⟨h1, n, os, h2⟩ => ⟨h1, n, os, ?_⟩
      rw [h2]
      unfold sortWorldK putRowK putW
      rw [flatK_eq, ← e]
      rfl)
  rw [plain_rects hl, plain_rects hls] at this
  exact this
theorem sort_y (l : List Rect) (hl : ∀ r ∈ l, Bd r) (hN : l.length < 4611686018427387904) : ACalls C 131 [.row 73 (l.map rc), .pv (.im (.func (.func 132) #[] #[]))] (.tu []) [.row ((sortBy cfY l).map rc)] :=
  sort_any cfY swoY _ (enters_of Tryz.func132 (by kernel_rfl) rfl) closureY l hl hN
theorem sort_x (l : List Rect) (hl : ∀ r ∈ l, Bd r) (hN : l.length < 4611686018427387904) : ACalls C 131 [.row 73 (l.map rc), .pv (.im (.func (.func 223) #[] #[]))] (.tu []) [.row ((sortBy cfX l).map rc)] :=
  sort_any cfX swoX _ (enters_of Tryz.func223 (by kernel_rfl) rfl) closureX l hl hN
end Go.Proofs.YthjfllfhagdnpaaGreatDoor.M
namespace Go.Proofs.YthjfllfhagdnpaaGreatDoor.M
open Go.AM Go.RowKit Go.Lib Go.Sort
open Reg (Rect Spans Band)

theorem compact_upto (d : Array Int) (hs : ∀ i j, i ≤ j → j < d.size → d[i]! ≤ d[j]!) : ∀ m, m ≤ d.size → Reg.Rising (compactUpTo d m) ∧ (∀ x, x ∈ compactUpTo d m ↔ ∃ j, j < m ∧ d[j]! = x) := by
  intro m
  induction m with
  | zero => intro _; exact ⟨by simp [compactUpTo, Reg.Rising], by simp [compactUpTo]⟩
  | succ m ih =>
    intro hm
    obtain ⟨h1, h2⟩ := ih (by omega)
    rw [compactUpTo_succ]
    cases hk : keeps d m with
    | true =>
      have hk2 : m = 0 ∨ d[m]! ≠ d[m - 1]! := by simpa [keeps] using hk
      have hlt : ∀ x ∈ compactUpTo d m, x < d[m]! := by
        intro x hx
        obtain ⟨j, hj, rfl⟩ := (h2 x).1 hx
        rcases hk2 with h | h
        · omega
        · have a := hs j (m - 1) (by omega) (by omega)
          have b := hs (m - 1) m (by omega) (by omega)
          omega
      refine ⟨?_, fun x => ?_⟩
      · simp only [if_pos]
        exact List.pairwise_append.2 ⟨h1, by simp, fun a ha b hb => by simp at hb; subst hb; exact hlt a ha⟩
      · simp only [if_pos, List.mem_append, List.mem_singleton, h2]
        constructor
        · rintro (⟨j, hj, rfl⟩ | rfl)
          · exact ⟨j, by omega, rfl⟩
          · exact ⟨m, by omega, rfl⟩
        · rintro ⟨j, hj, rfl⟩
          by_cases e : j = m
          · exact .inr (by rw [e])
          · exact .inl ⟨j, by omega, rfl⟩
    | false =>
      have hk2 : m ≠ 0 ∧ d[m]! = d[m - 1]! := by simpa [keeps] using hk
      simp only [Bool.false_eq_true, if_neg, List.append_nil, not_false_eq_true]
      refine ⟨h1, fun x => ?_⟩
      rw [h2]
      constructor
      · rintro ⟨j, hj, rfl⟩; exact ⟨j, by omega, rfl⟩
      · rintro ⟨j, hj, rfl⟩
        by_cases e : j = m
        · exact ⟨m - 1, by omega, by rw [e]; exact hk2.2.symm⟩
        · exact ⟨j, by omega, rfl⟩
theorem compact_facts {zs : List Int} (hs : zs.Pairwise (· ≤ ·)) : Reg.Rising (compact zs) ∧ ∀ x, x ∈ compact zs ↔ x ∈ zs := by
  have hg : ∀ i (h : i < zs.length), zs.toArray[i]! = zs[i] := fun i h => by rw [getElem!_pos _ i (by simpa using h)]; simp
  obtain ⟨h1, h2⟩ := compact_upto zs.toArray (fun i j hij hj => by
    have hj : j < zs.length := by simpa using hj
    rw [hg i (by omega), hg j hj]
    by_cases e : i = j
    · subst e; omega
    · exact List.pairwise_iff_getElem.1 hs i j (by omega) hj (by omega)) zs.length (by simp)
  refine ⟨h1, fun x => (h2 x).trans ?_⟩
  constructor
  · rintro ⟨j, hj, rfl⟩; rw [hg j hj]; exact List.getElem_mem hj
  · intro hx
    obtain ⟨j, hj, rfl⟩ := List.getElem_of_mem hx
    exact ⟨j, hj, hg j hj⟩
def encI (n : Int) : List Value := [.int .i64 n]
theorem encI_len {l : List Int} : ∀ r ∈ l.map encI, r.length = 1 := by
  intro r hr
  obtain ⟨x, _, rfl⟩ := List.mem_map.1 hr
  rfl
theorem plain_ints (l : List Int) : plainRows (l.map encI) = l.map fun n => [i64 n] := by
  unfold plainRows; rw [List.map_map]; rfl
theorem flat_ints (l : List Int) : (l.map encI).flatten = l.map (Value.int .i64) := by
  induction l with
  | nil => rfl
  | cons a l ih => rw [List.map_cons, List.flatten_cons, ih]; rfl
theorem putRow_map (w : World) (b n : Nat) (l : List Int) : putRow (Value.int .i64) (Sort.ahead w n) b 0 l.toArray = putRow id (Sort.ahead w n) b 0 (l.map (Value.int .i64)).toArray := by
  unfold putRow
  refine mapBlock_congr _ _ _ _ fun c _ _ _ => ?_
  apply Array.ext_getElem?
  intro k
  simp only [putCells, Array.getElem?_mapIdx, List.size_toArray, List.length_map]
  cases c[k]? with
  | none => rfl
  | some x =>
    simp only [Option.map_some]
    by_cases h : 0 ≤ k ∧ k < 0 + l.length
    · rw [if_pos h, if_pos h]
      congr 1
      rw [getElem!_pos _ (k - 0) (by simp; omega), getElem!_pos _ (k - 0) (by simp; omega)]
      simp
    · rw [if_neg h, if_neg h]
theorem holds_ints {w : World} {blk : Nat} {l : List Int} (h : ∀ j v, (l.map encI).flatten[j]? = some v → w.cell? ⟨blk, j, none⟩ = some v ∧ w.frozen? ⟨blk, j, none⟩ = false) : Holds (Value.int .i64) w blk 0 l.toArray := by
  intro j hj
  have hj' : j < l.length := by simpa using hj
  rw [flat_ints] at h
  obtain ⟨h1, h2⟩ := h j (.int .i64 l[j]) (by rw [List.getElem?_map, List.getElem?_eq_getElem hj']; rfl)
  rw [Nat.zero_add, h1]
  refine ⟨?_, h2⟩
  rw [getElem!_pos _ j hj]
  simp
/-- a list of numbers in rising order -/
def sortI (l : List Int) : List Int := l.mergeSort fun x y => decide (x ≤ y)
theorem sort_ints (l : List Int) (hN : l.length < 4611686018427387904) : ACalls C 133 [.row 3 (l.map fun n => [i64 n])] (.tu []) [.row ((sortI l).map fun n => [i64 n])] := by
  have := acalls_put hC (f := 133) 3 _ rfl (by decide) [] (l.map encI) ((sortI l).map encI) encI_len encI_len (by rw [List.length_map, List.length_map, sortI, List.length_mergeSort])
    (fun r hr v hv => by
      obtain ⟨x, _, rfl⟩ := List.mem_map.1 hr
      simp only [encI, List.mem_singleton] at hv
      rw [hv]; rfl)
    ⟨_, Tryz.func133, rfl, rfl⟩
    (fun _ w => Tryz.slices_Sort_int_none none 0 w)
    (fun S w blk cap hE hblk _ hcell => by
      have hc := Tryz.slices_Sort_int blk 0 cap l w (holds_ints hcell) hblk hN
      rw [List.length_map]
      refine hc.mono fun e' w' ⟨h1, n, os, h2⟩ => ⟨h1, n, os, ?_⟩
      rw [h2]
      unfold putW
      rw [flat_ints, ← putRow_map]
      rfl)
  rw [plain_ints, plain_ints] at this
  exact this
theorem compact_ints (l : List Int) (hN : l.length ≤ 9223372036854775807) : ACalls C 134 [.row 3 (l.map fun n => [i64 n])] (.own 3 ((compact l).map fun n => [i64 n])) [.gone] := by
  have hcl := compact_length_le l
  have := acalls_cut hC (f := 134) 3 _ rfl (by decide) [] (l.map encI) ((compact l ++ List.replicate (l.length - (compact l).length) 0).map encI) (compact l).length (by rw [List.length_map]; exact hcl) encI_len encI_len (by simp; omega)
    (fun r hr v hv => by
      obtain ⟨x, _, rfl⟩ := List.mem_map.1 hr
      simp only [encI, List.mem_singleton] at hv
      rw [hv]; rfl)
    ⟨_, Tryz.func134, rfl, rfl⟩
    (fun _ w => Tryz.slices_Compact_int_empty none 0 w)
    (fun S w blk cap hE hblk hcap hcell => by
      rw [List.length_map] at hcap
      have hc := Tryz.slices_Compact_int blk 0 cap l w (holds_ints hcell) hN hcap
      rw [List.length_map]
      refine hc.mono fun e' w' ⟨h1, n, h2⟩ => ⟨h1, n, #[], ?_⟩
      rw [h2]
      unfold putW
      rw [flat_ints, ← putRow_map, grow_empty])
  rw [← List.map_take, plain_ints, plain_ints, List.take_left] at this
  exact this
end Go.Proofs.YthjfllfhagdnpaaGreatDoor.M
