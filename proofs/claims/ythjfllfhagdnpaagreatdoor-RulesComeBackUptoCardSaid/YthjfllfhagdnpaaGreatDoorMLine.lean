/- By the machine: a line into a builder, its length, its text. -/
import Derived.Test.YthjfllfhagdnpaaGreatDoorLineF
import Derived.Test.YthjfllfhagdnpaaGreatDoorMTextB
set_option linter.unusedSimpArgs false
set_option linter.unusedVariables false
namespace Go.Proofs.YthjfllfhagdnpaaGreatDoor.M
open Go.AM Go.RowKit Go.Lib
open Reg (Rect Spans Band)

theorem im_inv' {S : Nat → Prop} {w : World} {x v : Value} (h : PRep S w (.im x) v) : v = x := by cases h; rfl
/-- bytes by content -/
def bytesR (l : List UInt8) : List (List PV) := l.map fun u => [.im (.int .u8 u.toNat)]
def bytesV (l : List UInt8) : List Value := l.map fun u => .int .u8 u.toNat
theorem bytesV_cells (l : List UInt8) : Lib.byteCells l = bytesV l := rfl
theorem info5 : ∃ i, Tryz.prog.info? 5 = some i ∧ i.size = 1 := by
  obtain ⟨i0, hi, _, hz1, _⟩ := info_parts infoB
  exact ⟨i0, hi, hz1⟩
theorem row_bytes {w : World} {S : Nat → Prop} {l : List UInt8} {v : Value} (h : RowRep Tryz.prog w (PRep S w) 5 (bytesR l) v) : w.ownsRow 0 5 1 v (bytesV l).length (bytesV l) := by
  obtain ⟨i, xs, h1, h2, h3, h4, h5, h6⟩ := h
  obtain ⟨i0, hi, hs⟩ := info5
  rw [hi] at h1
  cases h1
  rw [hs] at h3 h6
  have hl : xs.length = l.length := by
    have := h3.1
    simpa [bytesR] using this
  have e : xs = bytesV l := by
    apply List.ext_getElem?
    intro k
    by_cases hk : k < l.length
    · obtain ⟨u, hu⟩ : ∃ u, l[k]? = some u := ⟨_, List.getElem?_eq_getElem hk⟩
      obtain ⟨z, hz, hr⟩ := h6 k [.im (.int .u8 u.toNat)] 0 (.im (.int .u8 u.toNat)) (by rw [bytesR, List.getElem?_map, hu]; rfl) rfl
      rw [Nat.mul_one, Nat.add_zero] at hz
      cases hr
      rw [hz, bytesV, List.getElem?_map, hu]
      rfl
    · rw [List.getElem?_eq_none (by omega), List.getElem?_eq_none (by simp [bytesV]; omega)]
  have hb : (bytesR l).length = (bytesV l).length := by simp [bytesR, bytesV]
  rw [← hb, ← e]
  exact h3
theorem bytes_row {w : World} {S : Nat → Prop} {l : List UInt8} {v : Value} (h : w.ownsRow 0 5 1 v (bytesV l).length (bytesV l)) : RowRep Tryz.prog w (PRep S w) 5 (bytesR l) v := by
  obtain ⟨i0, hi, hs⟩ := info5
  have hb : (bytesR l).length = (bytesV l).length := by simp [bytesR, bytesV]
  refine ⟨i0, bytesV l, hi, by omega, by rw [hs, hb]; exact h, fun r hr => ?_, fun u hu => ?_, fun a r j x ha hj => ?_⟩
  · obtain ⟨u, _, rfl⟩ := List.mem_map.1 hr
    rw [hs]; rfl
  · obtain ⟨z, _, rfl⟩ := List.mem_map.1 hu
    rfl
  · rw [bytesR, List.getElem?_map, Option.map_eq_some_iff] at ha
    obtain ⟨u, hu, rfl⟩ := ha
    cases j with
    | zero =>
      cases hj
      refine ⟨.int .u8 u.toNat, ?_, .im _⟩
      rw [hs, Nat.mul_one, Nat.add_zero, bytesV, List.getElem?_map, hu]
      rfl
    | succ j => cases hj
theorem strCells_bytes (s : ByteArray) : Lib.strCells s = bytesV s.data.toList := rfl
theorem bytesV_app (a b : List UInt8) : bytesV a ++ bytesV b = bytesV (a ++ b) := by simp [bytesV]
/-- what the machine says of a builder is what the walks say -/
theorem bs_of {w : World} {S : Nat → Prop} {b : Nat} {u0 u1 : Value} {l : List UInt8} (h1 : w.heap[b]? = some (.cells #[u0, u1] 160 (0, 0))) (h2 : u0 = .pointer none ∨ u0 = .pointer (some ⟨b, 0, none⟩)) (h3 : RowRep Tryz.prog w (PRep S w) 5 (bytesR l) u1) (h4 : ∀ g, blk u1 = some g → ¬ S g ∧ g ≠ b ∧ g < w.heap.size) : BS b (bytesV l) u0 u1 w := by
  have ho := row_bytes h3
  obtain ⟨a, c, hs⟩ := ownsRow_slice ho
  refine ⟨h1, h2, ho, fun e => ?_⟩
  rw [ownBlock_blk hs] at e
  exact (h4 b e).2.1 rfl
theorem strs_inv {S : Nat → Prop} {w : World} {l : List ByteArray} {v : Value} (hl : l ≠ []) (h : PRep S w (strs l) v) : ∃ bk off c, v = .slice (some ⟨bk, off, none⟩) l.length c ∧ ∀ (j : Nat) x, l[j]? = some x → w.cell? ⟨bk, off + j, none⟩ = some (.string x) := by
  unfold strs at h
  generalize he : (l.map fun s => [str s]) = es at h
  cases h with
  | nil a c =>
    cases l with
    | nil => exact absurd rfl hl
    | cons x l => cases he
  | sl es k b off c U hc hS hk hcell h =>
    have len : es.length = l.length := by rw [← he, List.length_map]
    have k1 : k = 1 := by
      cases l with
      | nil => exact absurd rfl hl
      | cons x l =>
        have := hk [str x] (by rw [← he]; simp)
        simpa using this.symm
    subst k1
    refine ⟨b, off, c, by rw [len], fun j x hx => ?_⟩
    have e1 : es[j]? = some [str x] := by rw [← he, List.getElem?_map, hx]; rfl
    have a1 := (hcell j [str x] 0 (str x) e1 rfl).1
    have a2 : U j 0 = .string x := im_inv' (h j [str x] 0 (str x) e1 rfl)
    rw [Nat.mul_one, Nat.add_zero, a2] at a1
    exact a1
theorem line_calls (word : ByteArray) (l : List ByteArray) (hl : l ≠ []) (hN : l.length ≤ 1000000) (bs : List UInt8) (hlen : bs.length + (Lib.join ((word :: l).map (·.data.toList)) [32]).length ≤ 1000000000000) :
    BCalls C 105 [str word, strs l] 160 5 (bytesR bs) (.tu []) true (some (bytesR (bs ++ (lineB word l).data.toList))) := by
  refine ⟨⟨_, Tryz.func105, by decide, rfl⟩, fun S w vs b u0 u1 hE hS hlv hr hheap hself hrow hSb hblk => ?_⟩
  obtain ⟨v0, v1, rfl⟩ : ∃ v0 v1, vs = [v0, v1] := by
    match vs, hlv with
    | [a, b], _ => exact ⟨a, b, rfl⟩
  have r0 := hr 0 _ _ rfl rfl
  cases r0
  obtain ⟨bk, off, c, rfl, hcell⟩ := strs_inv hl (hr 1 _ _ rfl rfl)
  have hB := bs_of hheap hself hrow hblk
  obtain ⟨a1, c1, hs1⟩ := ownsRow_slice hB.own
  refine (lineF b (bytesV bs) u0 u1 word l bk off c w hB hcell hN (by rw [show (bytesV bs).length = bs.length by simp [bytesV]]; exact hlen)).mono ?_
  rintro e w' ⟨rfl, u1', h4, f4, g4⟩
  obtain ⟨a2, c2, hs2⟩ := ownsRow_slice h4.own
  have fr : Fr (fun k => k = b ∨ blk u1 = some k) w w' := by
    refine ⟨f4.os, f4.tape, f4.output, f4.size, fun k hk hn => f4.block k hk fun h => hn (h.imp id fun h => ?_)⟩
    rw [← ownBlock_blk hs1]; exact h
  refine ⟨_, rfl, fr, ⟨#[], rfl, rfl, fun i x u h => (by cases h)⟩, u1', h4.heap, bytes_row (by have := h4.own; rw [strCells_bytes, bytesV_app] at this; exact this), fun g hg => ?_⟩
  obtain ⟨q1, q2⟩ := g4 g (by rw [ownBlock_blk hs2]; exact hg)
  exact ⟨q1, q2.imp (fun h => by rw [← ownBlock_blk hs1]; exact h) id⟩
theorem len_calls (bs : List UInt8) : BCalls C 109 [] 160 5 (bytesR bs) (.p (i64 bs.length)) false (some (bytesR bs)) := by
  refine ⟨⟨_, Tryz.func109, by decide, rfl⟩, fun S w vs b u0 u1 hE hS hlv hr hheap hself hrow hSb hblk => ?_⟩
  obtain rfl : vs = [] := by
    match vs, hlv with
    | [], _ => rfl
  have hB := bs_of hheap hself hrow hblk
  refine (Tryz.Builder_Len_f 0 b (bytesV bs) w (Lib.IsBuilderF.of hB.is)).mono ?_
  rintro e w' ⟨rfl, rfl⟩
  refine ⟨_, rfl, Fr.refl _ _, ?_, u1, hheap, hrow, fun g hg => ⟨(hblk g hg).2.2, .inl hg⟩⟩
  rw [show (bytesV bs).length = bs.length by simp [bytesV]]
  exact .im _
set_option maxHeartbeats 1000000 in
set_option maxRecDepth 100000 in
/-- the text of a builder that has something; its row is frozen -/
theorem textW (b : Nat) (l : List UInt8) (u0 u1 : Value) (w : World) (h : BS b (Lib.byteCells l) u0 u1 w) (h0 : l ≠ []) :
    Calls Tryz.prog 110 #[.pointer (some ⟨b, 0, none⟩)] w fun e w' => e = .returned (.string ⟨l.toArray⟩) ∧ Fr (fun k => u1.ownBlock = some k) w w' := by
  obtain ⟨hbk, hself, hown, hne⟩ := h
  have hl0 : l.length ≠ 0 := by simpa using h0
  rw [Lib.byteCells_length] at hown
  obtain ⟨g, cap, cur, rfl, hbg, hg, hnc, hcm, hcs, htake⟩ : ∃ g cap cur, u1 = .slice (some ⟨g, 0, none⟩) l.length cap ∧ 0 ≤ g ∧ w.heap[g]? = some (.cells cur 5 (0, 0)) ∧ l.length ≤ cap ∧ cap ≤ maxLen ∧ cur.size = cap * 1 ∧ cur.toList.take (l.length * 1) = Lib.byteCells l := by
    rcases hown.2 with ⟨_, hz⟩ | ⟨g, cap, cur, hv, r⟩
    · exact absurd hz hl0
    · exact ⟨g, cap, cur, hv, r⟩
  have c1 : w.drew.cell? ⟨b, 1, none⟩ = some (.slice (some ⟨g, 0, none⟩) l.length cap) := by
    have : w.drew.heap[b]? = some (.cells #[u0, .slice (some ⟨g, 0, none⟩) l.length cap] 160 (0, 0)) := hbk
    rw [Lib.cell_of_heap this]; rfl
  have hSD : (Builtin.unsafeSliceData_ #[158] 242 #[.slice (some ⟨g, 0, none⟩) l.length cap]).run Tryz.prog w.drew = .ok (.pointer (some ⟨g, 0, none⟩)) w.drew :=
    Lib.run_unsafeSliceData_row _ _ _ _ _ _ (by omega)
  have hUS : (Builtin.unsafeString_ #[242, 3] 9 #[.pointer (some ⟨g, 0, none⟩), .int .i64 l.length]).run Tryz.prog w.drew = .ok (.string ⟨l.toArray⟩) (w.drew.freeze ⟨g, 0, none⟩ l.length) := by
    refine Lib.run_unsafeString_row w.drew 242 3 9 5 Tryz.underlying242 (by kernel_rfl) g cur.size (by have hg' : w.drew.heap[g]? = some (.cells cur 5 (0, 0)) := hg; simp [World.shape?, hg']) l h0 (by omega) (by unfold maxLen at hcm; omega) ?_
    intro j x hx
    have := hown.cells (g := g) rfl j (.int .u8 x.toNat) (by simp [Lib.byteCells, hx])
    exact this
  have fin : Fr (fun k => (Value.slice (some ⟨g, 0, none⟩) l.length cap).ownBlock = some k) w (w.drew.freeze ⟨g, 0, none⟩ l.length) := by
    unfold World.freeze
    rw [if_neg hl0]
    refine ⟨rfl, rfl, rfl, Nat.le_of_eq (show w.heap.size = (Array.modify w.heap g _).size from (Array.size_modify ..).symm), fun k _ hn => ?_⟩
    have hgk : ¬ g = k := fun e => hn (by rw [← e]; rfl)
    show (Array.modify w.heap g _)[k]? = w.heap[k]?
    rw [Array.getElem?_modify, if_neg hgk]
  have mixed : Tryz.prog.follows Departure.mixedOrders = true := by kernel_rfl
  have FN := Lib.hid fin
  clear fin
  go_enter Tryz.func110, Tryz.ntmps110
  go_wp2
  go_region_o
  all_goals (go_wp2; go_ret; exact ⟨rfl, FN.out⟩)
theorem text_calls (bs : List UInt8) (h0 : bs ≠ []) : BCalls C 110 [] 160 5 (bytesR bs) (.p (str (ofL bs))) false none := by
  refine ⟨⟨_, Tryz.func110, by decide, rfl⟩, fun S w vs b u0 u1 hE hS hlv hr hheap hself hrow hSb hblk => ?_⟩
  obtain rfl : vs = [] := by
    match vs, hlv with
    | [], _ => rfl
  have hB := bs_of hheap hself hrow hblk
  obtain ⟨a1, c1, hs1⟩ := ownsRow_slice hB.own
  refine (textW b bs u0 u1 w hB h0).mono ?_
  rintro e w' ⟨rfl, hf⟩
  refine ⟨_, rfl, ⟨hf.os, hf.tape, hf.output, hf.size, fun k hk hn => hf.block k hk fun h => hn (.inr (by rw [← ownBlock_blk hs1]; exact h))⟩, .im _, trivial⟩
end Go.Proofs.YthjfllfhagdnpaaGreatDoor.M
