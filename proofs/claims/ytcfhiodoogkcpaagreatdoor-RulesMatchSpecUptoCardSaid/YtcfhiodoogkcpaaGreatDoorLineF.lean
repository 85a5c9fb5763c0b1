/- Walks: a line into a builder, with what else stays. -/
import Derived.Test.YtcfhiodoogkcpaaGreatDoorWriteF
set_option linter.unusedSimpArgs false
set_option linter.unusedVariables false
namespace Go.Proofs.YtcfhiodoogkcpaaGreatDoor
open Go.RowKit Go.Shelf
open Go.AM (Fr)

set_option maxHeartbeats 2000000 in
set_option maxRecDepth 100000 in
theorem lineF (b : Nat) (bs : List Value) (u0 u1 : Value) (word : ByteArray) (l : List ByteArray) (bk off c : Nat) (w : World) (h : BS b bs u0 u1 w)
    (hcells : ∀ (j : Nat) x, l[j]? = some x → w.cell? ⟨bk, off + j, none⟩ = some (.string x)) (hN : l.length ≤ 1000000)
    (hlen : bs.length + (Lib.join ((word :: l).map (·.data.toList)) [32]).length ≤ 1000000000000) :
    Calls Tryz.prog 20 #[.string word, .slice (some ⟨bk, off, none⟩) l.length c, .pointer (some ⟨b, 0, none⟩)] w fun e w' => e = .returned (.tuple #[]) ∧ ∃ u1', BS b (bs ++ Lib.strCells (lineB word l)) (.pointer (some ⟨b, 0, none⟩)) u1' w' ∧ Fr (fun k => k = b ∨ u1.ownBlock = some k) w w' ∧ ∀ g, u1'.ownBlock = some g → g < w'.heap.size ∧ (u1.ownBlock = some g ∨ w.heap.size ≤ g) := by
  obtain ⟨i, hi, hz, hs, hb⟩ := info_parts infoS
  obtain ⟨jt, hjt⟩ : ∃ jt : ByteArray, jt = ⟨(Lib.join ((word :: l).map (·.data.toList)) [32]).toArray⟩ := ⟨_, rfl⟩
  have zz : jt.size = (Lib.join ((word :: l).map (·.data.toList)) [32]).length := by rw [hjt]; simp [ByteArray.size]
  have nz : ¬ 9223372036854775807 < jt.size + 1 := by omega
  have hsz : bs.length + (jt ++ ⟨#[10]⟩).size ≤ 140737488355328 := by
    rw [ByteArray.size_append, zz, show (⟨#[10]⟩ : ByteArray).size = 1 from rfl]
    omega
  have HS := Lib.hid hsz
  have e1 : lineB word l = jt ++ ⟨#[10]⟩ := by rw [lineB, hjt]
  rw [e1]
  have hl := Lib.hid hlen
  have HJ := Lib.hid hjt
  clear hlen hjt zz hsz e1
  go_enter Tryz.func20, Tryz.ntmps20
  have b0 : Below w.heap.size w (w.alloc (.cells #[.string word] 9)) := (Below.refl _ w).alloc (Nat.le_refl _) _
  go_wp2_with (at_builtin; refine wpList_append_own _ rfl _ _ 52 rfl w.heap.size 9 i _ 1 16 Tryz.underlying52 hi hz hs hb rfl (by decide) _ 1 [.string word] rfl ?o1 ⟨bk, off, none⟩ l.length c (l.map .string) rfl (by rw [List.length_map, Nat.mul_one]) ?o2 ?o3 ?o4 ?o5 ?o6 ?_)
  case o1 => exact ⟨rfl, .inr ⟨w.heap.size, 1, #[.string word], rfl, Nat.le_refl _, heap_alloc_new w _, Nat.le_refl _, by decide, rfl, rfl⟩⟩
  case o2 =>
    intro j u hj
    rw [List.getElem?_map, Option.map_eq_some_iff] at hj
    obtain ⟨x, hx, rfl⟩ := hj
    have hc := hcells j x hx
    have := (b0.cell (p := ⟨bk, off + j, none⟩) (World.block_lt_of_cell? _ _ hc)).trans hc
    rw [Addr.add_lit]
    exact this
  case o3 =>
    intro u hu
    obtain ⟨x, _, rfl⟩ := List.mem_map.1 hu
    rfl
  case o4 => unfold maxLen; omega
  case o5 => omega
  case o6 => exact b0.size
  intro v' w2 hown hgrow _
  have b2 : Below w.heap.size w w2 := b0.grown hgrow b0.size (fun k hk => by
    simp only [Value.ownBlock, Option.some.injEq] at hk
    exact Nat.le_of_eq hk)
  obtain ⟨g, cap, cur, rfl, hg, hh, hcap, _, _, htk⟩ : ∃ g cap cur, v' = .slice (some ⟨g, 0, none⟩) (1 + l.length) cap ∧ w.heap.size ≤ g ∧ w2.heap[g]? = some (.cells cur 9 (0, 0)) ∧ 1 + l.length ≤ cap ∧ cap ≤ maxLen ∧ cur.size = cap * 1 ∧ cur.toList.take ((1 + l.length) * 1) = [.string word] ++ l.map .string := by
    rcases hown.2 with ⟨_, h0⟩ | h
    · omega
    · exact h
  have hgl : g < w2.heap.size := by
    rcases Nat.lt_or_ge g w2.heap.size with h' | h'
    · exact h'
    · simp [Array.getElem?_eq_none h'] at hh
  have hcell : ∀ (j : Nat) x, (word :: l)[j]? = some x → w2.cell? ⟨g, 0 + j, none⟩ = some (.string x) := fun j x hx => by
    rw [Nat.zero_add, Lib.cell_of_heap hh]
    have h1 : (cur.toList.take ((1 + l.length) * 1))[j]? = some (.string x) := by
      rw [htk, show [Value.string word] ++ l.map Value.string = (word :: l).map Value.string from rfl, List.getElem?_map, hx]
      rfl
    rw [List.getElem?_take] at h1
    split at h1
    · rw [← Array.getElem?_toList]; exact h1
    · cases h1
  have hi2 : BS b bs u0 u1 w2 := h.below b2
  have J := joinS g 0 cap (word :: l) ⟨#[32]⟩ w2 hcell hgl (by simp; omega) (by simp; omega) (Nat.le_trans (Nat.le_trans (Nat.le_add_left _ bs.length) hl.out) (by omega))
  rw [show (word :: l).length = 1 + l.length by simp; omega] at J
  have JJ := Lib.hid J
  clear J
  have JK : Hid (Calls Tryz.prog 22 #[.slice (some ⟨g, 0, none⟩) (1 + l.length) cap, .string ⟨#[32]⟩] w2 fun e w' => e = .returned (.string jt) ∧ Below w2.heap.size w2 w') := Lib.hid (by rw [HJ.out]; exact JJ.out)
  clear JJ
  go_wp2_with (go_at_call 22; refine (JK.out).mono ?_; rintro e w3 ⟨rfl, b3⟩)
  refine (writeF b bs u0 u1 _ w3 (hi2.below b3) HS.out).mono ?_
  rintro e w4 ⟨rfl, u1', h4, f4, g4⟩
  go_wp2
  go_end0
  have b5 : Below w.heap.size w w3 := b2.trans (b3.mono b2.size)
  refine ⟨rfl, u1', h4, ⟨f4.os.trans b5.os, f4.tape.trans b5.tape, f4.output.trans b5.output, Nat.le_trans b5.size f4.size, fun k hk hn => (f4.block k (Nat.lt_of_lt_of_le hk b5.size) hn).trans (b5.block k hk)⟩, fun g hg => ⟨(g4 g hg).1, ?_⟩⟩
  rcases (g4 g hg).2 with h | h
  · exact .inl h
  · exact .inr (Nat.le_trans b5.size h)
end Go.Proofs.YtcfhiodoogkcpaaGreatDoor
