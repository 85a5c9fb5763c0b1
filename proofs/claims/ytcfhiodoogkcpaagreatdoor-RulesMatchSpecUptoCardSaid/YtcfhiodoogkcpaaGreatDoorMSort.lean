/- By the library's contract: slices.SortFunc at rectangles, by one number. -/
import Derived.Test.YtcfhiodoogkcpaaGreatDoorMHouse4
import Derived.Test.YtcfhiodoogkcpaaGreatDoorAM4
import Derived.Shelf.SlSortCmp.NoneTotal
set_option linter.unusedSimpArgs false
set_option linter.unusedVariables false
namespace Go.Proofs.YtcfhiodoogkcpaaGreatDoor.M
open Go.AM Go.RowKit Go.Lib Go.Sort
open Reg (Rect Spans Band)

instance : Inhabited Rect := ⟨⟨0, 0, 0, 0⟩⟩
/-- a number, cut down to where differences do not overflow -/
def cl (n : Int) : Int := max (-4611686018427387904) (min n 4611686018427387903)
theorem cl_in (n : Int) : -4611686018427387904 ≤ cl n ∧ cl n ≤ 4611686018427387903 := by unfold cl; omega
theorem cl_id {n : Int} (h : -4611686018427387904 ≤ n ∧ n ≤ 4611686018427387903) : cl n = n := by unfold cl; omega
def Bd (r : Rect) : Prop := (-4611686018427387904 ≤ r.x0 ∧ r.x0 ≤ 4611686018427387903) ∧ (-4611686018427387904 ≤ r.y0 ∧ r.y0 ≤ 4611686018427387903) ∧ (-4611686018427387904 ≤ r.x1 ∧ r.x1 ≤ 4611686018427387903) ∧ (-4611686018427387904 ≤ r.y1 ∧ r.y1 ≤ 4611686018427387903)
def encV (r : Rect) : List Value := [.int .i64 (cl r.x0), .int .i64 (cl r.y0), .int .i64 (cl r.x1), .int .i64 (cl r.y1)]
theorem encV_rc {r : Rect} (h : Bd r) : (encV r).map PV.im = rc r := by
  obtain ⟨h1, h2, h3, h4⟩ := h
  simp only [encV, cl_id h1, cl_id h2, cl_id h3, cl_id h4]
  rfl
theorem plain_rects {l : List Rect} (h : ∀ r ∈ l, Bd r) : plainRows (l.map encV) = l.map rc := by
  unfold plainRows
  rw [List.map_map]
  exact List.map_congr_left fun r hr => encV_rc (h r hr)
theorem encV_len {l : List Rect} : ∀ r ∈ l.map encV, r.length = 4 := by
  intro r hr
  obtain ⟨x, _, rfl⟩ := List.mem_map.1 hr
  rfl
theorem flatK_eq (d : Array Rect) : flatK encV 4 d = (d.toList.map encV).flatten.toArray := by
  apply Array.ext_getElem?
  intro q
  have hlen : (d.toList.map encV).flatten.length = d.size * 4 := by rw [flat_len (k := 4) encV_len]; simp
  by_cases hq : q < d.size * 4
  · have h1 : q / 4 < d.size := by omega
    have h2 : q % 4 < 4 := Nat.mod_lt _ (by omega)
    have e : q / 4 * 4 + q % 4 = q := by omega
    have hg := get_flatK encV 4 d q hq
    have hsz : (flatK encV 4 d).size = d.size * 4 := by simp
    rw [Array.getElem?_eq_getElem (by omega), ← getElem!_pos (flatK encV 4 d) q (by omega), hg]
    have hr : (d.toList.map encV)[q / 4]? = some (encV d[q / 4]!) := by
      rw [List.getElem?_map, Array.getElem?_toList, Array.getElem?_eq_getElem h1, Option.map_some, getElem!_pos d _ h1]
    have hv : (encV d[q / 4]!)[q % 4]? = some ((encV d[q / 4]!)[q % 4]!) := by
      have h3 : q % 4 < (encV d[q / 4]!).length := h2
      rw [List.getElem?_eq_getElem h3, getElem!_pos (encV d[q / 4]!) (q % 4) h3]
    have := flat_at (k := 4) encV_len hr hv
    rw [e] at this
    simpa using this.symm
  · rw [Array.getElem?_eq_none (by simp; omega), Array.getElem?_eq_none (by simp only [List.size_toArray]; omega)]
def cfY (a b : Rect) : Int := cl a.y0 - cl b.y0
def cfX (a b : Rect) : Int := cl a.x0 - cl b.x0
theorem ltY (a b : Rect) : ltOf cfY a b = decide (cl a.y0 < cl b.y0) := by unfold ltOf cfY; congr 1; exact propext ⟨fun h => by omega, fun h => by omega⟩
theorem ltX (a b : Rect) : ltOf cfX a b = decide (cl a.x0 < cl b.x0) := by unfold ltOf cfX; congr 1; exact propext ⟨fun h => by omega, fun h => by omega⟩
theorem swoY : SWO (ltOf cfY) where
  irrefl x := by rw [ltY]; simp
  trans x y z h1 h2 := by rw [ltY] at *; simp at *; omega
  ntrans x y z h1 h2 := by rw [ltY] at *; simp at *; omega
theorem swoX : SWO (ltOf cfX) where
  irrefl x := by rw [ltX]; simp
  trans x y z h1 h2 := by rw [ltX] at *; simp at *; omega
  ntrans x y z h1 h2 := by rw [ltX] at *; simp at *; omega
set_option maxHeartbeats 1000000 in
theorem closureY (x y : Rect) (W : World) : Calls Tryz.prog 79 #[.agg (encV x).toArray, .agg (encV y).toArray] W fun e w' => e = .returned (.int .i64 (cfY x y)) ∧ ∃ q os', w' = grow (W.drewN q) os' := by
  have h1 := cl_in x.y0
  have h2 := cl_in y.y0
  unfold encV cfY
  generalize cl x.x0 = a1 at *
  generalize cl x.y0 = a2 at *
  generalize cl x.x1 = a3 at *
  generalize cl x.y1 = a4 at *
  generalize cl y.x0 = b1 at *
  generalize cl y.y0 = b2 at *
  generalize cl y.x1 = b3 at *
  generalize cl y.y1 = b4 at *
  go_enter Tryz.func79, Tryz.ntmps79
  go_wp2
  go_ret
  exact ⟨rfl, 0, _, by rw [alloc_eq_grow, alloc_eq_grow, grow_grow]; rfl⟩
set_option maxHeartbeats 1000000 in
theorem closureX (x y : Rect) (W : World) : Calls Tryz.prog 114 #[.agg (encV x).toArray, .agg (encV y).toArray] W fun e w' => e = .returned (.int .i64 (cfX x y)) ∧ ∃ q os', w' = grow (W.drewN q) os' := by
  have h1 := cl_in x.x0
  have h2 := cl_in y.x0
  unfold encV cfX
  generalize cl x.x0 = a1 at *
  generalize cl x.y0 = a2 at *
  generalize cl x.x1 = a3 at *
  generalize cl x.y1 = a4 at *
  generalize cl y.x0 = b1 at *
  generalize cl y.y0 = b2 at *
  generalize cl y.x1 = b3 at *
  generalize cl y.y1 = b4 at *
  go_enter Tryz.func114, Tryz.ntmps114
  go_wp2
  go_ret
  exact ⟨rfl, 0, _, by rw [alloc_eq_grow, alloc_eq_grow, grow_grow]; rfl⟩
/-- what the library makes of a list of rectangles -/
def sortBy (cf : Rect → Rect → Int) (l : List Rect) : List Rect := (pdq (ltOf cf) l.toArray 0 l.toArray.size (Lib.bitLen l.toArray.size) true true).toList
theorem sortBy_facts (cf : Rect → Rect → Int) (hO : SWO (ltOf cf)) (l : List Rect) : (sortBy cf l).Perm l ∧ (sortBy cf l).Pairwise fun a b => ltOf cf b a = false := by
  obtain ⟨h1, h2⟩ := pdq_sorts (ltOf cf) hO l.toArray 0 l.toArray.size (Lib.bitLen l.toArray.size) true true (Nat.zero_le _) (Nat.le_refl _) (Or.inl rfl)
  obtain ⟨p1, _, p3⟩ := h1
  have hp : (sortBy cf l).Perm l := by
    have e1 : ∀ d : Array Rect, d.size = l.toArray.size → (d.extract 0 l.toArray.size).toList = d.toList := fun d h => by rw [← h]; simp
    rw [e1 _ p1, e1 _ rfl] at p3
    unfold sortBy
    simpa using p3
  refine ⟨hp, ?_⟩
  rw [List.pairwise_iff_getElem]
  intro i j hi hj hij
  have hs : (sortBy cf l).length = l.toArray.size := by rw [hp.length_eq]; simp
  have := h2 i j (Nat.zero_le _) hij (by omega)
  unfold sortBy at hi hj ⊢
  simp only [Array.length_toList] at hi hj
  rw [getElem!_pos _ j hj, getElem!_pos _ i hi] at this
  simpa using this
theorem sortY_facts {l : List Rect} (h : ∀ r ∈ l, Bd r) : (sortBy cfY l).Perm l ∧ (sortBy cfY l).Pairwise fun a b => a.y0 ≤ b.y0 := by
  obtain ⟨h1, h2⟩ := sortBy_facts cfY swoY l
  refine ⟨h1, h2.imp_of_mem fun {a b} ha hb hab => ?_⟩
  rw [ltY, cl_id (h b (h1.mem_iff.1 hb)).2.1, cl_id (h a (h1.mem_iff.1 ha)).2.1] at hab
  simpa using hab
theorem sortX_facts {l : List Rect} (h : ∀ r ∈ l, Bd r) : (sortBy cfX l).Perm l ∧ (sortBy cfX l).Pairwise fun a b => a.x0 ≤ b.x0 := by
  obtain ⟨h1, h2⟩ := sortBy_facts cfX swoX l
  refine ⟨h1, h2.imp_of_mem fun {a b} ha hb hab => ?_⟩
  rw [ltX, cl_id (h b (h1.mem_iff.1 hb)).1, cl_id (h a (h1.mem_iff.1 ha)).1] at hab
  simpa using hab
theorem sort_any (cf : Rect → Rect → Int) (hO : SWO (ltOf cf)) (g : Nat) (eg : ∀ args w, (callFunc g args).run Tryz.prog w = .ok (.enter g args) w)
    (hcl : ∀ (x y : Rect) (W : World), Calls Tryz.prog g #[.agg (encV x).toArray, .agg (encV y).toArray] W fun e w' => e = .returned (.int .i64 (cf x y)) ∧ ∃ q os', w' = grow (W.drewN q) os')
    (l : List Rect) (hl : ∀ r ∈ l, Bd r) (hN : l.length < 4611686018427387904) : ACalls C 78 [.row 44 (l.map rc), .pv (.im (.func (.func g) #[] #[]))] (.tu []) [.row ((sortBy cf l).map rc)] := by
  obtain ⟨hp, _⟩ := sortBy_facts cf hO l
  have hls : ∀ r ∈ sortBy cf l, Bd r := fun r hr => hl r (hp.mem_iff.1 hr)
  have := acalls_put hC (f := 78) 44 _ rfl (by decide) [.func (.func g) #[] #[]] (l.map encV) ((sortBy cf l).map encV) encV_len encV_len (by rw [List.length_map, List.length_map, hp.length_eq])
    (fun r hr v hv => by
      obtain ⟨x, _, rfl⟩ := List.mem_map.1 hr
      simp only [encV, List.mem_cons, List.not_mem_nil, or_false] at hv
      rcases hv with rfl | rfl | rfl | rfl <;> rfl)
    ⟨_, Tryz.func78, rfl, rfl⟩
    (fun _ w => AnyF.slices_SortFunc_none Tryz.laysSortRect none 0 (.func (.func g) #[] #[]) w)
    (fun S w blk cap hE hblk _ hcell => by
      have hH : HoldsK encV 4 w blk 0 l.toArray := by
        unfold HoldsK
        intro j hj
        rw [flatK_eq] at hj ⊢
        simp only [List.size_toArray] at hj
        have hv : (l.map encV).flatten[j]? = some ((l.map encV).flatten[j]'hj) := List.getElem?_eq_getElem hj
        obtain ⟨h1, h2⟩ := hcell j _ hv
        rw [Nat.zero_add]
        refine ⟨?_, h2⟩
        rw [h1]
        congr 1
        rw [getElem!_pos _ j (by simpa using hj)]
        simp
      have hc := AnyQ.slices_SortFunc_eq Tryz.laysSortRect 4 (fun w => (hC.tab 44 _ rfl).isAgg w) (fun w => (hC.tab 44 _ rfl).sizeOf w) encV (fun _ => rfl) (fun x v hv => by
        simp only [encV, List.mem_cons, List.not_mem_nil, or_false] at hv
        rcases hv with rfl | rfl | rfl | rfl <;> rfl) cf hO g #[] blk 0 cap l.toArray w eg (fun _ _ _ _ x y => hcl x y _) hH hblk (by simpa using hN)
      have e : l.toArray.size = (l.map encV).length := by simp
      rw [e] at hc
      refine hc.mono fun e' w' ⟨h1, n, os, h2⟩ => ⟨h1, n, os, ?_⟩
      rw [h2]
      unfold sortWorldK putRowK putW
      rw [flatK_eq, ← e]
      rfl)
  rw [plain_rects hl, plain_rects hls] at this
  exact this
theorem sort_y (l : List Rect) (hl : ∀ r ∈ l, Bd r) (hN : l.length < 4611686018427387904) : ACalls C 78 [.row 44 (l.map rc), .pv (.im (.func (.func 79) #[] #[]))] (.tu []) [.row ((sortBy cfY l).map rc)] :=
  sort_any cfY swoY _ (enters_of Tryz.func79 (by kernel_rfl) rfl) closureY l hl hN
theorem sort_x (l : List Rect) (hl : ∀ r ∈ l, Bd r) (hN : l.length < 4611686018427387904) : ACalls C 78 [.row 44 (l.map rc), .pv (.im (.func (.func 114) #[] #[]))] (.tu []) [.row ((sortBy cfX l).map rc)] :=
  sort_any cfX swoX _ (enters_of Tryz.func114 (by kernel_rfl) rfl) closureX l hl hN
end Go.Proofs.YtcfhiodoogkcpaaGreatDoor.M
