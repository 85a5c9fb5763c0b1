/- The machine: library functions that turn a handed row; arguments of a card. -/
import Derived.Test.YtngikpapepnkaaaGreatDoorAM3
import Derived.Deep.Slices
set_option linter.unusedSimpArgs false
set_option linter.unusedVariables false
namespace Go.AM
open Go.RowKit Go.ChangeShapes
section
variable {H : Type} {enc : TypeId × Value → H} {P : Program} {w : World} {S : Nat → Prop}
/-- a type's values, read by content: k cells, and what holds of them and of the data -/
def Dec (enc : TypeId × Value → H) (P : Program) (w : World) (S : Nat → Prop) (t : TypeId) (k : Nat) (Q : List PV → DataW H → Prop) : Prop :=
  ∀ n cs x, DataW.trod enc P w 0 (fun _ => true) true n t cs = some x → ∃ xs, xs.length = k ∧ cs.length = k ∧ (∀ (i : Nat) c v, xs[i]? = some c → cs[i]? = some v → PRep S w c v ∧ v.oneCell' = true) ∧ Q xs x.1
theorem one_cell {c : PV} {u : Value} (h : PRep S w c u ∧ u.oneCell' = true) : ∀ (i : Nat) c' v, [c][i]? = some c' → [u][i]? = some v → PRep S w c' v ∧ v.oneCell' = true := fun i c' v h1 h2 => by
  match i, h1, h2 with
  | 0, h1, h2 => cases h1; cases h2; exact h
  | n + 1, h1, h2 => cases h1
theorem dec_int {t : TypeId} (ht : P.underlying t = some (.int .i64)) : Dec enc P w S t 1 fun xs d => ∃ n : Int, xs = [.im (.int .i64 n)] ∧ d = .lit (.int .i64 n) := fun n cs x h => by
  obtain ⟨z, rfl, rfl, _⟩ := DataW.trod_int ht h
  exact ⟨[.im (.int .i64 z)], rfl, rfl, one_cell ⟨.im _, rfl⟩, z, rfl, rfl⟩
theorem dec_str {t : TypeId} (ht : P.underlying t = some .string) : Dec enc P w S t 1 fun xs d => ∃ s : ByteArray, xs = [.im (.string s)] ∧ d = .lit (.string s.data.toList) := fun n cs x h => by
  obtain ⟨s, rfl, rfl, _⟩ := DataW.trod_string ht h
  exact ⟨[.im (.string s)], rfl, rfl, one_cell ⟨.im _, rfl⟩, s, rfl, rfl⟩
theorem no_spot {a : Addr} {v : Value} (h : w.cell? a = some v) : a.spot = none ∧ a.block < w.heap.size := by
  unfold World.cell? at h
  split at h
  · rename_i c _ _ hh
    refine ⟨?_, ?_⟩
    · cases hs : a.spot with
      | none => rfl
      | some s => rw [hs] at h; cases h
    · rcases Nat.lt_or_ge a.block w.heap.size with h' | h'
      · exact h'
      · rw [Array.getElem?_eq_none h'] at hh; cases hh
  · cases h
/-- a slice, by its elements -/
theorem dec_slice {t e : TypeId} {k : Nat} {Q : List PV → DataW H → Prop} (ht : P.underlying t = some (.slice e)) (hc : P.cellsOf e = k) (hk : 0 < k) (hS : ∀ b, b < w.heap.size → S b) (he : Dec enc P w S e k Q) :
    Dec enc P w S t 1 fun xs d => ∃ (es : List (List PV)) (ds sp : List (DataW H)), xs = [.sl es] ∧ es.length = ds.length ∧ (d = .nil ∧ ds = [] ∨ d = .slice ds sp) ∧ ∀ (i : Nat) x y, es[i]? = some x → ds[i]? = some y → Q x y := fun n cs x h => by
  rcases Go.Deep.open_slice ht h with ⟨rfl, rfl⟩ | ⟨a, len, cap, m, n, D, Pl, rfl, hb, hl, hm, hmm, rfl, hx⟩
  · exact ⟨[.sl []], rfl, rfl, one_cell ⟨.nil _ _, rfl⟩, [], [], [], rfl, rfl, .inl ⟨rfl, rfl⟩, fun i x y h => by cases h⟩
  · have hlm : len ≤ m := by rw [hmm]; split <;> omega
    rcases Nat.eq_zero_or_pos len with h0 | hpos
    · subst h0
      exact ⟨[.sl []], rfl, rfl, one_cell ⟨.nil _ _, rfl⟩, [], [], _, rfl, rfl, .inr rfl, fun i x y h => by cases h⟩
    · rw [hc] at hx
      have each : ∀ i, i < len → ∃ p : List PV × List Value, p.1.length = k ∧ p.2.length = k ∧ (∀ j, j < k → w.cell? ((a.add (i * k)).add j) = p.2[j]?) ∧ (∀ (j : Nat) c v, p.1[j]? = some c → p.2[j]? = some v → PRep S w c v ∧ v.oneCell' = true) ∧ Q p.1 (D i) := fun i hi => by
        obtain ⟨cs', h1, h2⟩ := hx i (by omega)
        obtain ⟨_, hlen, hcell⟩ := World.cells?_some h1
        obtain ⟨xs, l1, l2, l3, l4⟩ := he _ _ _ h2
        exact ⟨(xs, cs'), l1, l2, hcell, l3, l4⟩
      obtain ⟨F, hF⟩ := Go.Deep.choose_lt (α := List PV × List Value) each
      have get : ∀ (i : Nat) e, ((List.range len).map fun i => (F i).1)[i]? = some e → i < len ∧ e = (F i).1 := fun i e h => by
        rw [List.getElem?_map, Option.map_eq_some_iff] at h
        obtain ⟨j, hj, rfl⟩ := h
        obtain ⟨h1, h2⟩ := List.getElem?_eq_some_iff.1 hj
        rw [List.getElem_range] at h2
        subst h2
        exact ⟨by simpa using h1, rfl⟩
      have cellOf : ∀ i j, i < len → j < k → w.cell? ((a.add (i * k)).add j) = some (((F i).2[j]?).getD .nilIface) := fun i j hi hj => by
        obtain ⟨_, l2, h3, _⟩ := hF i hi
        rw [h3 j hj, List.getElem?_eq_getElem (by omega)]
        rfl
      have hz := no_spot (cellOf 0 0 hpos hk)
      obtain ⟨b, off, spot⟩ := a
      have hsp : spot = none := by simpa [Addr.add] using hz.1
      subst hsp
      have hblt : b < w.heap.size := by simpa [Addr.add] using hz.2
      have hrow : ∀ i j, ((⟨b, off, none⟩ : Addr).add (i * k)).add j = ⟨b, off + i * k + j, none⟩ := fun i j => by
        unfold Addr.add
        by_cases h1 : i * k = 0
        · rw [if_pos h1, h1]
          by_cases h2 : j = 0
          · rw [if_pos h2, h2]; rfl
          · rw [if_neg h2]; rfl
        · rw [if_neg h1]
          by_cases h2 : j = 0
          · rw [if_pos h2, h2]; rfl
          · rw [if_neg h2]
      refine ⟨[.sl ((List.range len).map fun i => (F i).1)], rfl, rfl, one_cell ⟨?_, rfl⟩, (List.range len).map fun i => (F i).1, (List.range len).map D, _, rfl, by simp, .inr rfl, fun i x y h1 h2 => ?_⟩
      · have hlen : ((List.range len).map fun i => (F i).1).length = len := by simp
        have := PRep.sl (S := S) (w := w) ((List.range len).map fun i => (F i).1) k b off cap (fun i j => ((F i).2[j]?).getD .nilIface) (by rw [hlen]; exact hl) (hS b hblt)
          (fun e he' => by obtain ⟨i, hi, rfl⟩ := List.mem_map.1 he'; exact (hF i (List.mem_range.1 hi)).1)
          (fun i e j x h1 h2 => by
            obtain ⟨hi, rfl⟩ := get i e h1
            have hj : j < k := by rw [← (hF i hi).1]; exact (List.getElem?_eq_some_iff.1 h2).1
            have hv : (F i).2[j]? = some (((F i).2[j]?).getD .nilIface) := by rw [List.getElem?_eq_getElem (by rw [(hF i hi).2.1]; exact hj)]; rfl
            exact ⟨by rw [← hrow]; exact cellOf i j hi hj, ((hF i hi).2.2.2.1 j x _ h2 hv).2⟩)
          (fun i e j x h1 h2 => by
            obtain ⟨hi, rfl⟩ := get i e h1
            have hj : j < k := by rw [← (hF i hi).1]; exact (List.getElem?_eq_some_iff.1 h2).1
            have hv : (F i).2[j]? = some (((F i).2[j]?).getD .nilIface) := by rw [List.getElem?_eq_getElem (by rw [(hF i hi).2.1]; exact hj)]; rfl
            exact ((hF i hi).2.2.2.1 j x _ h2 hv).1)
        rw [hlen] at this
        exact this
      · obtain ⟨hi, rfl⟩ := get i x h1
        rw [List.getElem?_map, List.getElem?_range hi] at h2
        cases h2
        exact (hF i hi).2.2.2.2
instance : Inhabited PV := ⟨.sl []⟩
/-- a struct of one-celled fields -/
theorem dec_struct {t : TypeId} {fs : Array Field} (ht : P.underlying t = some (.struct fs)) (hone : ∀ (i : Nat) (f : Field), fs[i]? = some f → f.offset = i ∧ P.cellsOf f.type = 1) (hc : P.cellsOf t = fs.size) (Qs : Nat → List PV → DataW H → Prop)
    (hf : ∀ (i : Nat) (f : Field), fs[i]? = some f → Dec enc P w S f.type 1 (Qs i)) :
    Dec enc P w S t fs.size fun xs d => ∃ ds : List (DataW H), d = .agg ds ∧ ds.length = fs.size ∧ ∀ (i : Nat) x y, xs[i]? = some x → ds[i]? = some y → Qs i [x] y := fun n cs x h => by
  obtain ⟨ys, m, _, rfl, hl, hlen, hy⟩ := DataW.trod_struct ht h
  rw [hc] at hl
  have each : ∀ i, i < fs.size → ∃ c : PV, ∃ y v, ys[i]? = some y ∧ cs[i]? = some v ∧ PRep S w c v ∧ v.oneCell' = true ∧ Qs i [c] y.1 := fun i hi => by
    have hfi : fs[i]? = some fs[i] := Array.getElem?_eq_getElem hi
    obtain ⟨ho, h1⟩ := hone i _ hfi
    have hyi := hy i _ hfi
    rw [ho, h1] at hyi
    have hyy : ys[i]? = some ys[i] := List.getElem?_eq_getElem (by omega)
    rw [hyy] at hyi
    obtain ⟨xs, l1, l2, l3, l4⟩ := hf i _ hfi _ _ _ hyi
    have hcs : cs[i]? = some cs[i] := List.getElem?_eq_getElem (by omega)
    have hd : (cs.drop i).take 1 = [cs[i]] := by
      rw [List.drop_eq_getElem_cons (by omega)]; rfl
    rw [hd] at l3
    obtain ⟨c, rfl⟩ : ∃ c, xs = [c] := by
      match xs, l1 with
      | [c], _ => exact ⟨c, rfl⟩
    exact ⟨c, ys[i], cs[i], hyy, hcs, (l3 0 _ _ rfl rfl).1, (l3 0 _ _ rfl rfl).2, l4⟩
  obtain ⟨F, hF⟩ := Go.Deep.choose_lt (α := PV) each
  refine ⟨(List.range fs.size).map F, by simp, hl, fun i c v h1 h2 => ?_, ys.map (·.1), rfl, by rw [List.length_map, hlen], fun i x y h1 h2 => ?_⟩
  · have hi : i < fs.size := by have := (List.getElem?_eq_some_iff.1 h1).1; simpa using this
    rw [List.getElem?_map, List.getElem?_range hi] at h1
    cases h1
    obtain ⟨y, v', _, e2, e3, e4, _⟩ := hF i hi
    rw [h2] at e2
    cases e2
    exact ⟨e3, e4⟩
  · have hi : i < fs.size := by have := (List.getElem?_eq_some_iff.1 h1).1; simpa using this
    rw [List.getElem?_map, List.getElem?_range hi] at h1
    cases h1
    obtain ⟨y', v', e1, _, _, _, e5⟩ := hF i hi
    rw [List.getElem?_map, e1] at h2
    cases h2
    exact e5
/-- a struct that is handed as an argument -/
theorem rep_agg {t : TypeId} {k : Nat} {Q : List PV → DataW H → Prop} (hd : Dec enc P w S t k Q) {vs : Array Value} {d : DataW H} {ps : List MemPlace} (h : DataW.Trod enc P w 0 (fun _ => true) true t (.agg vs) d ps) :
    ∃ xs, PRep S w (.ag xs) (.agg vs) ∧ xs.length = k ∧ Q xs d := by
  obtain ⟨n, hn⟩ := h
  obtain ⟨xs, l1, l2, l3, l4⟩ := hd _ _ _ hn
  have l2 : vs.toList.length = k := l2
  have get : ∀ (i : Nat) (v : Value), vs[i]? = some v → vs.toList[i]? = some v := fun i v h => by rw [Array.getElem?_toList]; exact h
  refine ⟨xs, .ag xs vs (by rw [l1, ← l2]; simp) (fun u hu => ?_) fun i c v h1 h2 => (l3 i c v h1 (get i v h2)).1, l1, l4⟩
  obtain ⟨i, hi⟩ := List.mem_iff_getElem?.1 hu
  have hlt : i < xs.length := by have := (List.getElem?_eq_some_iff.1 hi).1; omega
  exact (l3 i _ u (List.getElem?_eq_getElem hlt) hi).2
/-- an argument of struct type: its value and its content -/
theorem arg_struct {t : TypeId} {fs : Array Field} {k : Nat} {Q : List PV → DataW H → Prop} {r : Reach} {b0 : Nat} (ht : P.underlying t = some (.struct fs)) (hd : Dec enc P w S t k Q) {v : Value} {d : DataW H} {ps : List MemPlace} (hv : Value.okWide P w r b0 t v) (h : DataW.Trod enc P w 0 (fun _ => true) true t v d ps) :
    ∃ xs, PRep S w (.ag xs) v ∧ Q xs d := by
  obtain ⟨cs, rfl, _⟩ := Go.WideShapes.okWide_struct ht hv
  obtain ⟨xs, h1, _, h2⟩ := rep_agg hd h
  exact ⟨xs, h1, h2⟩
/-- an argument of slice type: its value and its content -/
theorem arg_slice {t e : TypeId} {Q : List PV → DataW H → Prop} {r : Reach} {b0 : Nat} (ht : P.underlying t = some (.slice e)) (hd : Dec enc P w S t 1 Q) {v : Value} {d : DataW H} {ps : List MemPlace} (hv : Value.okWide P w r b0 t v) (h : DataW.Trod enc P w 0 (fun _ => true) true t v d ps) :
    ∃ c, PRep S w c v ∧ Q [c] d := by
  obtain ⟨a, l, c, rfl⟩ := Go.WideShapes.okWide_slice ht hv
  obtain ⟨n, hn⟩ := h
  obtain ⟨xs, l1, l2, l3, l4⟩ := hd _ _ _ hn
  obtain ⟨x, rfl⟩ : ∃ x, xs = [x] := by
    match xs, l1 with
    | [x], _ => exact ⟨x, rfl⟩
  exact ⟨x, (l3 0 x _ rfl rfl).1, l4⟩
theorem pv_no (w : World) (xs : List PV) (vs : Array Value) (g : Nat) : ¬ Mv w (xs.map Arg.pv) vs g := by
  rintro ⟨j, y, v, h1, _, h2, _⟩
  rw [List.getElem?_map, Option.map_eq_some_iff] at h1
  obtain ⟨x, _, rfl⟩ := h1
  cases h2
/-- arguments by content -/
def Reps (S : Nat → Prop) (w : World) (xs : List PV) (vs : List Value) : Prop := xs.length = vs.length ∧ ∀ (j : Nat) x v, xs[j]? = some x → vs[j]? = some v → PRep S w x v
theorem reps_nil : Reps S w [] [] := ⟨rfl, fun j x v h => by cases h⟩
theorem reps_cons {x : PV} {v : Value} {xs : List PV} {vs : List Value} (h : PRep S w x v) (hr : Reps S w xs vs) : Reps S w (x :: xs) (v :: vs) := ⟨by rw [List.length_cons, List.length_cons, hr.1], fun j x' v' h1 h2 => by
  match j, h1, h2 with
  | 0, h1, h2 => cases h1; cases h2; exact h
  | j + 1, h1, h2 => exact hr.2 j x' v' h1 h2⟩
/-- a law's run, its arguments by content -/
theorem law_im {C : Ctx} {f : FuncId} {xs : List PV} {y : Value} (h : ACalls C f (xs.map Arg.pv) (.p (.im y)) []) {vs : Array Value} (hE : C.E (fun b => b < w.heap.size) w) (hr : Reps (fun b => b < w.heap.size) w xs vs.toList) :
    Calls C.P f vs w fun e w' => e = .returned y ∧ Below w.heap.size w w' := by
  refine (h.2 (fun b => b < w.heap.size) w vs hE (fun _ h => h) (by rw [List.length_map, hr.1]; simp) (fun j x v h1 h2 => ?_) (fun i j x y v u g h1 _ _ _ h5 => ?_)).mono ?_
  · rw [List.getElem?_map, Option.map_eq_some_iff] at h1
    obtain ⟨x, hx, rfl⟩ := h1
    exact hr.2 j x v hx (by rw [Array.getElem?_toList]; exact h2)
  · rw [List.getElem?_map, Option.map_eq_some_iff] at h1
    obtain ⟨x, _, rfl⟩ := h1
    cases h5
  · rintro e w' ⟨v, S', rfl, hf, _, _, _, hv, _⟩
    have hv : PRep S' w' (.im y) v := hv
    cases hv
    exact ⟨rfl, hf.os, hf.tape, hf.output, hf.size, fun k hk => hf.block k hk (pv_no _ _ _ _)⟩
end
end Go.AM
