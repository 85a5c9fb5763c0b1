/- Walks: a line into a builder. -/
import Derived.Test.YtcfhiodoogkcpaaGreatDoorWriteS
import Derived.Laws.AppendOwn
set_option linter.unusedSimpArgs false
set_option linter.unusedVariables false
namespace Go.Proofs.YtcfhiodoogkcpaaGreatDoor
open Go.RowKit Go.Shelf

theorem keepB {T e : TypeId} {B b : Nat} {p : Value} {bs : List Value} {w w' : World} (h : Lib.BuilderAt T e B b p bs w) (hb : Below w.heap.size w w') : Lib.BuilderAt T e B b p bs w' := by
  obtain ⟨hB, v, hbk, hown, hne⟩ := h
  have lt : ∀ k o, w.heap[k]? = some o → k < w.heap.size := fun k o hk => by
    rcases Nat.lt_or_ge k w.heap.size with h' | h'
    · exact h'
    · simp [Array.getElem?_eq_none h'] at hk
  refine ⟨hB, v, (hb.block b (lt _ _ hbk)).trans hbk, ⟨hown.1, ?_⟩, hne⟩
  rcases hown.2 with h | ⟨g, cap, cur, hv, hg, hh, r⟩
  · exact .inl h
  · exact .inr ⟨g, cap, cur, hv, hg, (hb.block g (lt _ _ hh)).trans hh, r⟩
theorem keepI {T e : TypeId} {B b : Nat} {bs : List Value} {w w' : World} (h : Lib.IsBuilder T e B b bs w) (hb : Below w.heap.size w w') : Lib.IsBuilder T e B b bs w' :=
  h.elim (fun h => .inl (keepB h hb)) (fun h => .inr (keepB h hb))
theorem extra156 : Builder.Extra Tryz.prog Tryz.lays156_ren where
  sizeBuilder := by kernel_rfl
  liesBuilder := by kernel_rfl
  t5 := Tryz.underlying5
  a5 := Tryz.isAgg5
  z5 := Tryz.sizeOf5
  v5 := Tryz.zeroValue5
  infoByte := by kernel_rfl
  cellsByte := by kernel_rfl
  sizeByte := by kernel_rfl
  neB5 := by decide
theorem extra169 : Builder.Extra Tryz.prog Tryz.lays169_ren where
  sizeBuilder := by kernel_rfl
  liesBuilder := by kernel_rfl
  t5 := Tryz.underlying5
  a5 := Tryz.isAgg5
  z5 := Tryz.sizeOf5
  v5 := Tryz.zeroValue5
  infoByte := by kernel_rfl
  cellsByte := by kernel_rfl
  sizeByte := by kernel_rfl
  neB5 := by decide
theorem joinS (bk o c : Nat) (xs : List ByteArray) (sep : ByteArray) (w : World) (hcells : ∀ (j : Nat) x, xs[j]? = some x → w.cell? ⟨bk, o + j, none⟩ = some (.string x)) (hbk : bk < w.heap.size) (hN : xs.length ≤ 140737488355328) (hcap : xs.length ≤ c) (hlen : (Lib.join (xs.map (·.data.toList)) sep.data.toList).length ≤ 140737488355328) :
    Calls Tryz.prog 22 #[.slice (some ⟨bk, o, none⟩) xs.length c, .string sep] w fun e w' => e = .returned (.string ⟨(Lib.join (xs.map (·.data.toList)) sep.data.toList).toArray⟩) ∧ Below w.heap.size w w' := Any.strings_Join Tryz.lays156 extra156 bk o c xs sep w hcells hbk hN hcap hlen
theorem textOf (B b : Nat) (l : List UInt8) (w : World) (h : Lib.IsBuilder 51 5 B b (Lib.byteCells l) w) (hBw : B ≤ w.heap.size) :
    Calls Tryz.prog 25 #[.pointer (some ⟨b, 0, none⟩)] w fun e w' => e = .returned (.string ⟨l.toArray⟩) ∧ Below B w w' := Any.Builder_String_any Tryz.lays169 extra169 B b l w h hBw
theorem infoS : (Tryz.prog.info? 9).map (fun i => (i.zero, i.size, i.bytes)) = some (some (.string ⟨#[]⟩), 1, 16) := by kernel_rfl
/-- the bytes of a line -/
def lineB (word : ByteArray) (l : List ByteArray) : ByteArray := ⟨(Lib.join ((word :: l).map (·.data.toList)) [32]).toArray⟩ ++ ⟨#[10]⟩
set_option maxHeartbeats 2000000 in
set_option maxRecDepth 100000 in
theorem line (B b : Nat) (bs : List Value) (word : ByteArray) (l : List ByteArray) (bk c : Nat) (w : World) (h : Lib.IsBuilder 51 5 B b bs w) (hBw : B ≤ w.heap.size)
    (hcells : ∀ (j : Nat) x, l[j]? = some x → w.cell? ⟨bk, j, none⟩ = some (.string x)) (hN : l.length ≤ 1000000)
    (hlen : bs.length + (Lib.join ((word :: l).map (·.data.toList)) [32]).length ≤ 1000000000) :
    Calls Tryz.prog 20 #[.string word, .slice (some ⟨bk, 0, none⟩) l.length c, .pointer (some ⟨b, 0, none⟩)] w fun e w' => e = .returned (.tuple #[]) ∧ (Lib.BuilderAt 51 5 B b (.pointer (some ⟨b, 0, none⟩)) (bs ++ Lib.strCells (lineB word l)) w' ∧ Below B w w') := by
  obtain ⟨i, hi, hz, hs, hb⟩ := info_parts infoS
  obtain ⟨jt, hjt⟩ : ∃ jt : ByteArray, jt = ⟨(Lib.join ((word :: l).map (·.data.toList)) [32]).toArray⟩ := ⟨_, rfl⟩
  have zz : jt.size = (Lib.join ((word :: l).map (·.data.toList)) [32]).length := by rw [hjt]; simp [ByteArray.size]
  have nz : ¬ 9223372036854775807 < jt.size + 1 := by omega
  have hsz : bs.length + (jt ++ ⟨#[10]⟩).size ≤ 140737488355328 := by
    rw [ByteArray.size_append, zz, show (⟨#[10]⟩ : ByteArray).size = 1 from rfl]
    omega
  have HS := Lib.hid hsz
  have e1 : lineB word l = jt ++ ⟨#[10]⟩ := by rw [lineB, hjt]
  rw [e1]
  have hl := Lib.hid hlen
  have HJ := Lib.hid hjt
  clear hlen hjt zz hsz e1
  go_enter Tryz.func20, Tryz.ntmps20
  have b0 : Below w.heap.size w (w.alloc (.cells #[.string word] 9)) := (Below.refl _ w).alloc (Nat.le_refl _) _
  go_wp2_with (at_builtin; refine wpList_append_own _ rfl _ _ 52 rfl w.heap.size 9 i _ 1 16 Tryz.underlying52 hi hz hs hb rfl (by decide) _ 1 [.string word] rfl ?o1 ⟨bk, 0, none⟩ l.length c (l.map .string) rfl (by rw [List.length_map, Nat.mul_one]) ?o2 ?o3 ?o4 ?o5 ?o6 ?_)
  case o1 => exact ⟨rfl, .inr ⟨w.heap.size, 1, #[.string word], rfl, Nat.le_refl _, heap_alloc_new w _, Nat.le_refl _, by decide, rfl, rfl⟩⟩
  case o2 =>
    intro j u hj
    rw [List.getElem?_map, Option.map_eq_some_iff] at hj
    obtain ⟨x, hx, rfl⟩ := hj
    have hc := hcells j x hx
    have := (b0.cell (p := ⟨bk, j, none⟩) (World.block_lt_of_cell? _ _ hc)).trans hc
    rw [show (⟨bk, 0, none⟩ : Addr).add j = ⟨bk, j, none⟩ by simp [Addr.add]; omega]
    exact this
  case o3 =>
    intro u hu
    obtain ⟨x, _, rfl⟩ := List.mem_map.1 hu
    rfl
  case o4 => unfold maxLen; omega
  case o5 => omega
  case o6 => exact b0.size
  intro v' w2 hown hgrow _
  have b2 : Below w.heap.size w w2 := b0.grown hgrow b0.size (fun k hk => by
    simp only [Value.ownBlock, Option.some.injEq] at hk
    exact Nat.le_of_eq hk)
  obtain ⟨g, cap, cur, rfl, hg, hh, hcap, _, _, htk⟩ : ∃ g cap cur, v' = .slice (some ⟨g, 0, none⟩) (1 + l.length) cap ∧ w.heap.size ≤ g ∧ w2.heap[g]? = some (.cells cur 9 (0, 0)) ∧ 1 + l.length ≤ cap ∧ cap ≤ maxLen ∧ cur.size = cap * 1 ∧ cur.toList.take ((1 + l.length) * 1) = [.string word] ++ l.map .string := by
    rcases hown.2 with ⟨_, h0⟩ | h
    · omega
    · exact h
  have hgl : g < w2.heap.size := by
    rcases Nat.lt_or_ge g w2.heap.size with h' | h'
    · exact h'
    · simp [Array.getElem?_eq_none h'] at hh
  have hcell : ∀ (j : Nat) x, (word :: l)[j]? = some x → w2.cell? ⟨g, 0 + j, none⟩ = some (.string x) := fun j x hx => by
    rw [Nat.zero_add, Lib.cell_of_heap hh]
    have h1 : (cur.toList.take ((1 + l.length) * 1))[j]? = some (.string x) := by
      rw [htk, show [Value.string word] ++ l.map Value.string = (word :: l).map Value.string from rfl, List.getElem?_map, hx]
      rfl
    rw [List.getElem?_take] at h1
    split at h1
    · rw [← Array.getElem?_toList]; exact h1
    · cases h1
  have hi2 : Lib.IsBuilder 51 5 B b bs w2 := keepI h b2
  have J := joinS g 0 cap (word :: l) ⟨#[32]⟩ w2 hcell hgl (by simp; omega) (by simp; omega) (Nat.le_trans (Nat.le_trans (Nat.le_add_left _ bs.length) hl.out) (by omega))
  rw [show (word :: l).length = 1 + l.length by simp; omega] at J
  have JJ := Lib.hid J
  clear J
  have JK : Hid (Calls Tryz.prog 22 #[.slice (some ⟨g, 0, none⟩) (1 + l.length) cap, .string ⟨#[32]⟩] w2 fun e w' => e = .returned (.string jt) ∧ Below w2.heap.size w2 w') := Lib.hid (by rw [HJ.out]; exact JJ.out)
  clear JJ
  go_wp2_with (go_at_call 22; refine (JK.out).mono ?_; rintro e w3 ⟨rfl, b3⟩)
  refine (writeString B b bs _ w3 (keepI hi2 b3) HS.out (Nat.le_trans hBw (Nat.le_trans b2.size b3.size))).mono ?_
  rintro e w4 ⟨rfl, h4, b4⟩
  go_wp2
  go_end0
  exact ⟨rfl, h4, (b2.mono hBw).trans ((b3.mono (Nat.le_trans hBw b2.size)).trans b4)⟩
end Go.Proofs.YtcfhiodoogkcpaaGreatDoor
