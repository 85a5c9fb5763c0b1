/- Walks: the writing of a text into a builder, at this program's own copyCheck. -/
import Derived.Test.YthjfllfhagdnpaaGreatDoorShelf
import Derived.Test.YthjfllfhagdnpaaGreatDoorProg
import Derived.WalkKit
import Derived.WalkSpells
import Derived.WalkLawsBesides
import Derived.Lib.Hide
import Derived.Shelf.Strings.Builder1
import Derived.Laws.AppendOwn
import Derived.Test.YthjfllfhagdnpaaGreatDoorAM3
set_option linter.unusedSimpArgs false
set_option linter.unusedVariables false
namespace Go.Proofs.YthjfllfhagdnpaaGreatDoor
open Go.RowKit Go.Shelf

theorem szB : (Tryz.prog.info? 160).map (·.size) = some 2 := by kernel_rfl
theorem lieB : liesAt Tryz.prog Tryz.prog.depth 160 (2 / Tryz.prog.cellsOf 160) 0 160 1 = true := by kernel_rfl
set_option maxHeartbeats 1000000 in
set_option maxRecDepth 100000 in
theorem copyCheck_used (b : Nat) (w : World) (h0 : w.cell? ⟨b, 0, none⟩ = some (.pointer (some ⟨b, 0, none⟩))) :
    Calls Tryz.prog 199 #[.pointer (some ⟨b, 0, none⟩)] w fun e w' => e = .returned (.tuple #[]) ∧ w' = w := by
  obtain ⟨j, hj, _⟩ := Option.map_eq_some_iff.1 szB
  go_enter Tryz.func199, Tryz.ntmps199
  go_wp2
  rw [Lib.run_neq_ptr_same w _ Tryz.underlying157 hj]
  go_wp2
  go_end0
  exact ⟨rfl, rfl⟩
set_option maxHeartbeats 1000000 in
set_option maxRecDepth 100000 in
theorem copyCheck_fresh (b : Nat) (w : World) (h0 : w.cell? ⟨b, 0, none⟩ = some (.pointer none)) (hsh : w.shape? b = some (160, 2)) (hfz : w.frozen? ⟨b, 0, none⟩ = false) :
    Calls Tryz.prog 199 #[.pointer (some ⟨b, 0, none⟩)] w fun e w' => e = .returned (.tuple #[]) ∧ w' = w.setCell ⟨b, 0, none⟩ (.pointer (some ⟨b, 0, none⟩)) := by
  obtain ⟨j, hj, hjs⟩ := Option.map_eq_some_iff.1 szB
  go_enter Tryz.func199, Tryz.ntmps199
  go_wp2
  rw [Lib.run_to_unsafe w ⟨b, 0, none⟩ Tryz.underlying157 Tryz.underlying302 hj (by rw [hjs]; decide) hsh (Nat.zero_lt_succ 1)]
  simp only [Result.andThen]
  rw [Oper.upon_value]
  go_wp2
  rw [run_callFunc_extern Tryz.func262 (by kernel_rfl) (by kernel_rfl) (by kernel_rfl) (e := Extern.AbiNoEscape.same) (by kernel_rfl)]
  rw [Lib.run_noEscape]
  simp only [Result.andThen]
  rw [Oper.upon_value]
  go_wp2
  rw [Lib.run_from_unsafe w ⟨b, 0, none⟩ Tryz.underlying302 Tryz.underlying157 hj hsh lieB]
  simp only [Result.andThen]
  rw [Oper.upon_value]
  go_wp2
  go_end0
  exact ⟨rfl, rfl⟩
theorem copyCheck (B b : Nat) (bs : List Value) (w : World) (h : Lib.IsBuilder 160 5 B b bs w) :
    Calls Tryz.prog 199 #[.pointer (some ⟨b, 0, none⟩)] w fun e w' => e = .returned (.tuple #[]) ∧ (Lib.BuilderAt 160 5 B b (.pointer (some ⟨b, 0, none⟩)) bs w' ∧ Below B w w') := by
  rcases h with h | h
  · refine (copyCheck_fresh b w h.cell0 h.shape h.frozen0).mono ?_
    rintro e w' ⟨rfl, rfl⟩
    exact ⟨rfl, h.used _, (Below.refl B w).setCell (p := ⟨b, 0, none⟩) h.1 _⟩
  · refine (copyCheck_used b w h.cell0).mono ?_
    rintro e w' ⟨rfl, rfl⟩
    exact ⟨rfl, h, Below.refl B _⟩
theorem infoB : (Tryz.prog.info? 5).map (fun i => (i.zero, i.size, i.bytes)) = some (some (.int .u8 0), 1, 1) := by kernel_rfl
set_option maxHeartbeats 2000000 in
set_option maxRecDepth 100000 in
theorem writeString (B b : Nat) (bs : List Value) (s : ByteArray) (w : World) (h : Lib.IsBuilder 160 5 B b bs w) (hlen : bs.length + s.size ≤ 140737488355328) (hBw : B ≤ w.heap.size) :
    Calls Tryz.prog 106 #[.pointer (some ⟨b, 0, none⟩), .string s] w fun e w' => e = .returned (.tuple #[.int .i64 s.size, .nilIface]) ∧ (Lib.BuilderAt 160 5 B b (.pointer (some ⟨b, 0, none⟩)) (bs ++ Lib.strCells s) w' ∧ Below B w w') := by
  obtain ⟨i0, hi, hz0, hz1, hz2⟩ := info_parts infoB
  go_enter Tryz.func106, Tryz.ntmps106
  go_wp2_with (go_at_call 199; refine (copyCheck B b bs _ h).mono ?_)
  rintro e w1 ⟨rfl, h1, hb1⟩
  obtain ⟨hB, v, hbk, hown, hne⟩ := h1
  have c0 : w1.cell? ⟨b, 0, none⟩ = some (.pointer (some ⟨b, 0, none⟩)) := by rw [Lib.cell_of_heap hbk]; rfl
  have c1 : w1.cell? ⟨b, 1, none⟩ = some v := by rw [Lib.cell_of_heap hbk]; rfl
  go_wp2_with (at_builtin; refine Lib.wpList_append_own_string _ rfl _ _ 158 9 rfl B 5 i0 Tryz.underlying158 Tryz.underlying9 hi hz0 hz1 hz2 _ _ _ rfl hown s rfl ?c3 ?c4 ?c5 ?_)
  case c3 => unfold maxLen; omega
  case c4 => omega
  case c5 => have := hb1.size; omega
  intro v' w2 hown' hgrow _
  have hlt : b < w1.heap.size := by
    rcases Nat.lt_or_ge b w1.heap.size with h' | h'
    · exact h'
    · simp [Array.getElem?_eq_none h'] at hbk
  have hb2 : w2.heap[b]? = some (.cells #[.pointer (some ⟨b, 0, none⟩), v] 160 (0, 0)) := by
    rw [hgrow.block b hlt (fun e => hne e.symm)]
    exact hbk
  have d0 : w2.cell? ⟨b, 0, none⟩ = some (.pointer (some ⟨b, 0, none⟩)) := by rw [Lib.cell_of_heap hb2]; rfl
  have d1 : w2.cell? ⟨b, 1, none⟩ = some v := by rw [Lib.cell_of_heap hb2]; rfl
  have f1 : w2.frozen? ⟨b, 1, none⟩ = false := Lib.frozen_of_heap hb2 1
  obtain ⟨ao, n', cap, rfl⟩ : ∃ ao n' cap, v' = .slice ao n' cap := by
    rcases hown'.2 with ⟨hv, _⟩ | ⟨g, cap, cur, hv, _⟩
    · exact ⟨_, _, _, hv⟩
    · exact ⟨_, _, _, hv⟩
  go_wp2
  go_ret2
  refine ⟨rfl, ?_, ?_⟩
  · exact Lib.BuilderAt.put (T := 160) (e := 5) hB hb2 (bs' := bs ++ Lib.strCells s) (by simpa [Lib.strCells_length] using hown') (by decide)
  · exact (hb1.grown hgrow (by have := hb1.size; omega) (fun k hk => (hown.lt k hk).1)).setCell (p := ⟨b, 1, none⟩) hB _
end Go.Proofs.YthjfllfhagdnpaaGreatDoor
namespace Go.Proofs.YthjfllfhagdnpaaGreatDoor
open Go.RowKit Go.Shelf

theorem keepB {T e : TypeId} {B b : Nat} {p : Value} {bs : List Value} {w w' : World} (h : Lib.BuilderAt T e B b p bs w) (hb : Below w.heap.size w w') : Lib.BuilderAt T e B b p bs w' := by
  obtain ⟨hB, v, hbk, hown, hne⟩ := h
  have lt : ∀ k o, w.heap[k]? = some o → k < w.heap.size := fun k o hk => by
    rcases Nat.lt_or_ge k w.heap.size with h' | h'
    · exact h'
    · simp [Array.getElem?_eq_none h'] at hk
  refine ⟨hB, v, (hb.block b (lt _ _ hbk)).trans hbk, ⟨hown.1, ?_⟩, hne⟩
  rcases hown.2 with h | ⟨g, cap, cur, hv, hg, hh, r⟩
  · exact .inl h
  · exact .inr ⟨g, cap, cur, hv, hg, (hb.block g (lt _ _ hh)).trans hh, r⟩
theorem keepI {T e : TypeId} {B b : Nat} {bs : List Value} {w w' : World} (h : Lib.IsBuilder T e B b bs w) (hb : Below w.heap.size w w') : Lib.IsBuilder T e B b bs w' :=
  h.elim (fun h => .inl (keepB h hb)) (fun h => .inr (keepB h hb))
theorem extra156 : Builder.Extra Tryz.prog Tryz.lays156_ren where
  sizeBuilder := by kernel_rfl
  liesBuilder := by kernel_rfl
  t5 := Tryz.underlying5
  a5 := Tryz.isAgg5
  z5 := Tryz.sizeOf5
  v5 := Tryz.zeroValue5
  infoByte := by kernel_rfl
  cellsByte := by kernel_rfl
  sizeByte := by kernel_rfl
  neB5 := by decide
theorem extra169 : Builder.Extra Tryz.prog Tryz.lays169_ren where
  sizeBuilder := by kernel_rfl
  liesBuilder := by kernel_rfl
  t5 := Tryz.underlying5
  a5 := Tryz.isAgg5
  z5 := Tryz.sizeOf5
  v5 := Tryz.zeroValue5
  infoByte := by kernel_rfl
  cellsByte := by kernel_rfl
  sizeByte := by kernel_rfl
  neB5 := by decide
theorem joinS (bk o c : Nat) (xs : List ByteArray) (sep : ByteArray) (w : World) (hcells : ∀ (j : Nat) x, xs[j]? = some x → w.cell? ⟨bk, o + j, none⟩ = some (.string x)) (hbk : bk < w.heap.size) (hN : xs.length ≤ 140737488355328) (hcap : xs.length ≤ c) (hlen : (Lib.join (xs.map (·.data.toList)) sep.data.toList).length ≤ 140737488355328) :
    Calls Tryz.prog 107 #[.slice (some ⟨bk, o, none⟩) xs.length c, .string sep] w fun e w' => e = .returned (.string ⟨(Lib.join (xs.map (·.data.toList)) sep.data.toList).toArray⟩) ∧ Below w.heap.size w w' := Any.strings_Join Tryz.lays156 extra156 bk o c xs sep w hcells hbk hN hcap hlen
theorem textOf (B b : Nat) (l : List UInt8) (w : World) (h : Lib.IsBuilder 160 5 B b (Lib.byteCells l) w) (hBw : B ≤ w.heap.size) :
    Calls Tryz.prog 110 #[.pointer (some ⟨b, 0, none⟩)] w fun e w' => e = .returned (.string ⟨l.toArray⟩) ∧ Below B w w' := Any.Builder_String_any Tryz.lays169 extra169 B b l w h hBw
theorem infoS : (Tryz.prog.info? 9).map (fun i => (i.zero, i.size, i.bytes)) = some (some (.string ⟨#[]⟩), 1, 16) := by kernel_rfl
/-- the bytes of a line -/
def lineB (word : ByteArray) (l : List ByteArray) : ByteArray := ⟨(Lib.join ((word :: l).map (·.data.toList)) [32]).toArray⟩ ++ ⟨#[10]⟩
set_option maxHeartbeats 2000000 in
set_option maxRecDepth 100000 in
theorem line (B b : Nat) (bs : List Value) (word : ByteArray) (l : List ByteArray) (bk c : Nat) (w : World) (h : Lib.IsBuilder 160 5 B b bs w) (hBw : B ≤ w.heap.size)
    (hcells : ∀ (j : Nat) x, l[j]? = some x → w.cell? ⟨bk, j, none⟩ = some (.string x)) (hN : l.length ≤ 1000000)
    (hlen : bs.length + (Lib.join ((word :: l).map (·.data.toList)) [32]).length ≤ 1000000000) :
    Calls Tryz.prog 105 #[.string word, .slice (some ⟨bk, 0, none⟩) l.length c, .pointer (some ⟨b, 0, none⟩)] w fun e w' => e = .returned (.tuple #[]) ∧ (Lib.BuilderAt 160 5 B b (.pointer (some ⟨b, 0, none⟩)) (bs ++ Lib.strCells (lineB word l)) w' ∧ Below B w w') := by
  obtain ⟨i, hi, hz, hs, hb⟩ := info_parts infoS
  obtain ⟨jt, hjt⟩ : ∃ jt : ByteArray, jt = ⟨(Lib.join ((word :: l).map (·.data.toList)) [32]).toArray⟩ := ⟨_, rfl⟩
  have zz : jt.size = (Lib.join ((word :: l).map (·.data.toList)) [32]).length := by rw [hjt]; simp [ByteArray.size]
  have nz : ¬ 9223372036854775807 < jt.size + 1 := by omega
  have hsz : bs.length + (jt ++ ⟨#[10]⟩).size ≤ 140737488355328 := by
    rw [ByteArray.size_append, zz, show (⟨#[10]⟩ : ByteArray).size = 1 from rfl]
    omega
  have HS := Lib.hid hsz
  have e1 : lineB word l = jt ++ ⟨#[10]⟩ := by rw [lineB, hjt]
  rw [e1]
  have hl := Lib.hid hlen
  have HJ := Lib.hid hjt
  clear hlen hjt zz hsz e1
  go_enter Tryz.func105, Tryz.ntmps105
  have b0 : Below w.heap.size w (w.alloc (.cells #[.string word] 9)) := (Below.refl _ w).alloc (Nat.le_refl _) _
  go_wp2_with (at_builtin; refine wpList_append_own _ rfl _ _ 49 rfl w.heap.size 9 i _ 1 16 Tryz.underlying49 hi hz hs hb rfl (by decide) _ 1 [.string word] rfl ?o1 ⟨bk, 0, none⟩ l.length c (l.map .string) rfl (by rw [List.length_map, Nat.mul_one]) ?o2 ?o3 ?o4 ?o5 ?o6 ?_)
  case o1 => exact ⟨rfl, .inr ⟨w.heap.size, 1, #[.string word], rfl, Nat.le_refl _, heap_alloc_new w _, Nat.le_refl _, by decide, rfl, rfl⟩⟩
  case o2 =>
    intro j u hj
    rw [List.getElem?_map, Option.map_eq_some_iff] at hj
    obtain ⟨x, hx, rfl⟩ := hj
    have hc := hcells j x hx
    have := (b0.cell (p := ⟨bk, j, none⟩) (World.block_lt_of_cell? _ _ hc)).trans hc
    rw [show (⟨bk, 0, none⟩ : Addr).add j = ⟨bk, j, none⟩ by simp [Addr.add]; omega]
    exact this
  case o3 =>
    intro u hu
    obtain ⟨x, _, rfl⟩ := List.mem_map.1 hu
    rfl
  case o4 => unfold maxLen; omega
  case o5 => omega
  case o6 => exact b0.size
  intro v' w2 hown hgrow _
  have b2 : Below w.heap.size w w2 := b0.grown hgrow b0.size (fun k hk => by
    simp only [Value.ownBlock, Option.some.injEq] at hk
    exact Nat.le_of_eq hk)
  obtain ⟨g, cap, cur, rfl, hg, hh, hcap, _, _, htk⟩ : ∃ g cap cur, v' = .slice (some ⟨g, 0, none⟩) (1 + l.length) cap ∧ w.heap.size ≤ g ∧ w2.heap[g]? = some (.cells cur 9 (0, 0)) ∧ 1 + l.length ≤ cap ∧ cap ≤ maxLen ∧ cur.size = cap * 1 ∧ cur.toList.take ((1 + l.length) * 1) = [.string word] ++ l.map .string := by
    rcases hown.2 with ⟨_, h0⟩ | h
    · omega
    · exact h
  have hgl : g < w2.heap.size := by
    rcases Nat.lt_or_ge g w2.heap.size with h' | h'
    · exact h'
    · simp [Array.getElem?_eq_none h'] at hh
  have hcell : ∀ (j : Nat) x, (word :: l)[j]? = some x → w2.cell? ⟨g, 0 + j, none⟩ = some (.string x) := fun j x hx => by
    rw [Nat.zero_add, Lib.cell_of_heap hh]
    have h1 : (cur.toList.take ((1 + l.length) * 1))[j]? = some (.string x) := by
      rw [htk, show [Value.string word] ++ l.map Value.string = (word :: l).map Value.string from rfl, List.getElem?_map, hx]
      rfl
    rw [List.getElem?_take] at h1
    split at h1
    · rw [← Array.getElem?_toList]; exact h1
    · cases h1
  have hi2 : Lib.IsBuilder 160 5 B b bs w2 := keepI h b2
  have J := joinS g 0 cap (word :: l) ⟨#[32]⟩ w2 hcell hgl (by simp; omega) (by simp; omega) (Nat.le_trans (Nat.le_trans (Nat.le_add_left _ bs.length) hl.out) (by omega))
  rw [show (word :: l).length = 1 + l.length by simp; omega] at J
  have JJ := Lib.hid J
  clear J
  have JK : Hid (Calls Tryz.prog 107 #[.slice (some ⟨g, 0, none⟩) (1 + l.length) cap, .string ⟨#[32]⟩] w2 fun e w' => e = .returned (.string jt) ∧ Below w2.heap.size w2 w') := Lib.hid (by rw [HJ.out]; exact JJ.out)
  clear JJ
  go_wp2_with (go_at_call 107; refine (JK.out).mono ?_; rintro e w3 ⟨rfl, b3⟩)
  refine (writeString B b bs _ w3 (keepI hi2 b3) HS.out (Nat.le_trans hBw (Nat.le_trans b2.size b3.size))).mono ?_
  rintro e w4 ⟨rfl, h4, b4⟩
  go_wp2
  go_end0
  exact ⟨rfl, h4, (b2.mono hBw).trans ((b3.mono (Nat.le_trans hBw b2.size)).trans b4)⟩
end Go.Proofs.YthjfllfhagdnpaaGreatDoor
namespace Go.Proofs.YthjfllfhagdnpaaGreatDoor
open Go.RowKit Go.Shelf
open Go.AM (Fr)

section
variable {P : Program}
theorem run_str_at (w : World) (t u ty e : TypeId) (i : TypeInfo) (ht : P.underlying t = some (.slice e)) (hu : P.underlying u = some .string) (hi : P.info? e = some i) (hz : i.zero = some (.int .u8 0)) (hsize : i.size = 1) (hby : i.bytes = 1)
    (v : Value) (n : Nat) (xs : List Value) (hown : w.ownsRow 0 e 1 v n xs) (s : ByteArray) (h63 : n + s.size ≤ maxLen) (hbytes : n + s.size ≤ 140737488355328) :
    ∃ v' w', (Builtin.append_ #[t, u] ty #[v, .string s]).run P w = .ok v' w' ∧ w'.ownsRow 0 e 1 v' (n + s.size) (xs ++ Lib.strCells s) ∧ w.grownBy w' v.ownBlock ∧ (v'.ownBlock = v.ownBlock ∨ v'.ownBlock = some w.heap.size) := by
  obtain ⟨v', w', hr, h2, h3, h4⟩ := Lib.run_append_own_string (P := P) w 0 t u ty e i ht hu hi hz hsize hby v n xs hown s h63 hbytes (Nat.zero_le _)
  refine ⟨v', w', hr, h2, h3, ?_⟩
  have hxl : xs.length = n := by simpa using hown.1
  have hsmall : n + s.size ≤ 9223372036854775807 := by simp only [maxLen] at h63; omega
  rcases hown.2 with ⟨rfl, rfl⟩ | ⟨g, cap, cur, rfl, hbg, hg, hnc, hcm, hcs, htake⟩
  · by_cases hm : s.size = 0
    · rw [h4.2 ⟨rfl, hm⟩]
      exact .inl rfl
    · have hr2 := run_append_nil_string (P := P) w t u ty e i (.int .u8 0) ht hu hi hz s (by omega) (by omega) (by rw [hby]; omega)
      rw [hr] at hr2
      injection hr2 with hr2
      rw [hr2]
      exact .inr rfl
  · by_cases hroom : n + s.size ≤ cap
    · have hcs' : cur.size = cap := by simpa using hcs
      have hr2 := Lib.run_append_room_string (P := P) w t u ty e i ht hu hi hsize g n cap cur hg s hroom (by omega)
      rw [hr] at hr2
      injection hr2 with hr2
      rw [hr2]
      exact .inl rfl
    · have holds : ∀ j u, xs[j]? = some u → w.cell? ((⟨g, 0, none⟩ : Addr).add j) = some u := hown.cells (g := g) rfl
      have hr2 := Lib.run_append_grow_string (P := P) w t u ty e i (.int .u8 0) ht hu hi hz ⟨g, 0, none⟩ n cap xs (by rw [hsize]; simpa using hxl) holds s (by omega) (by omega) (by rw [hby]; exact growslice_fits (by omega) (by omega))
      rw [hr] at hr2
      injection hr2 with hr2
      rw [hr2]
      exact .inr rfl
theorem wpList_str_at {w : World} {ops : Array Oper} {rest : List Oper} {o : Oper} {a : Act} {Q : Exit → Act → World → Prop} (hgd : o.guard = none) (sl x : Operand) (t u : TypeId)
    (ho : o.op = .call { callee := .builtin .append, args := #[sl, x], argTypes := #[t, u] }) (e : TypeId) (i : TypeInfo) (ht : P.underlying t = some (.slice e)) (hu : P.underlying u = some .string) (hi : P.info? e = some i) (hz : i.zero = some (.int .u8 0)) (hsize : i.size = 1) (hby : i.bytes = 1)
    (v : Value) (n : Nat) (xs : List Value) (hs : a.eval sl = v) (hown : w.ownsRow 0 e 1 v n xs) (s : ByteArray) (hx : a.eval x = .string s) (h63 : n + s.size ≤ maxLen) (hbytes : n + s.size ≤ 140737488355328)
    (h : ∀ v' w', w'.ownsRow 0 e 1 v' (n + s.size) (xs ++ Lib.strCells s) → w.grownBy w' v.ownBlock → (v'.ownBlock = v.ownBlock ∨ v'.ownBlock = some w.heap.size) → wpList P ops Q rest (a.put o.dst v') w') : wpList P ops Q (o :: rest) a w := by
  refine wpList_plain hgd fun K hK => ?_
  obtain ⟨v', w', hr, h2, h3, h4⟩ := run_str_at (P := P) w t u o.type e i ht hu hi hz hsize hby v n xs hown s h63 hbytes
  unfold Oper.wp execOp
  simp only [ho, resolve, invoke, builtin, Sem.run_bind, Sem.run_pure, Result.andThen_ok, List.map_toArray, List.map_cons, List.map_nil, hs, hx, hr]
  exact hK _ _ (h v' w' h2 h3 h4)
end
/-- a builder at b: its address (or none), its row -/
structure BS (b : Nat) (bs : List Value) (u0 u1 : Value) (w : World) : Prop where
  heap : w.heap[b]? = some (.cells #[u0, u1] 160 (0, 0))
  self : u0 = .pointer none ∨ u0 = .pointer (some ⟨b, 0, none⟩)
  own : w.ownsRow 0 5 1 u1 bs.length bs
  ne : u1.ownBlock ≠ some b
theorem BS.is {b : Nat} {bs : List Value} {u0 u1 : Value} {w : World} (h : BS b bs u0 u1 w) : Lib.IsBuilder 160 5 0 b bs w := by
  rcases h.self with e | e
  · exact .inl ⟨Nat.zero_le _, u1, by rw [← e]; exact h.heap, h.own, h.ne⟩
  · exact .inr ⟨Nat.zero_le _, u1, by rw [← e]; exact h.heap, h.own, h.ne⟩
theorem BS.lt {b : Nat} {bs : List Value} {u0 u1 : Value} {w : World} (h : BS b bs u0 u1 w) : b < w.heap.size := by
  rcases Nat.lt_or_ge b w.heap.size with h' | h'
  · exact h'
  · have := h.heap
    simp [Array.getElem?_eq_none h'] at this
theorem BS.below {b : Nat} {bs : List Value} {u0 u1 : Value} {w w' : World} (h : BS b bs u0 u1 w) (hb : Below w.heap.size w w') : BS b bs u0 u1 w' := by
  have lt : ∀ k o, w.heap[k]? = some o → k < w.heap.size := fun k o hk => by
    rcases Nat.lt_or_ge k w.heap.size with h' | h'
    · exact h'
    · simp [Array.getElem?_eq_none h'] at hk
  refine ⟨(hb.block b h.lt).trans h.heap, h.self, ⟨h.own.1, ?_⟩, h.ne⟩
  rcases h.own.2 with h | ⟨g, cap, cur, hv, hg, hh, r⟩
  · exact .inl h
  · exact .inr ⟨g, cap, cur, hv, hg, (hb.block g (lt _ _ hh)).trans hh, r⟩
theorem copyCheckF (b : Nat) (bs : List Value) (u0 u1 : Value) (w : World) (h : BS b bs u0 u1 w) :
    Calls Tryz.prog 199 #[.pointer (some ⟨b, 0, none⟩)] w fun e w' => e = .returned (.tuple #[]) ∧ (BS b bs (.pointer (some ⟨b, 0, none⟩)) u1 w' ∧ Fr (fun k => k = b) w w' ∧ w'.heap.size = w.heap.size) := by
  rcases h.self with e | e
  · have hB : Lib.BuilderAt 160 5 0 b (.pointer none) bs w := ⟨Nat.zero_le _, u1, by rw [← e]; exact h.heap, h.own, h.ne⟩
    refine (copyCheck_fresh b w hB.cell0 hB.shape hB.frozen0).mono ?_
    rintro e' w' ⟨rfl, rfl⟩
    have hs : (w.setCell ⟨b, 0, none⟩ (.pointer (some ⟨b, 0, none⟩))).heap.size = w.heap.size := by simp [World.setCell]
    refine ⟨rfl, ⟨?_, .inr rfl, ?_, h.ne⟩, ⟨rfl, rfl, rfl, Nat.le_of_eq hs.symm, fun k _ hn => Below.heap_setCell _ _ _ _ hn⟩, hs⟩
    · have := h.heap
      simp [World.setCell, Array.getElem?_modify, this]
    · refine h.own.kept (row := some b) ⟨rfl, rfl, rfl, by simp [World.setCell], fun k _ hk => Below.heap_setCell _ _ _ _ (fun e => hk (by simp [e]))⟩ ?_
      exact Or.inr h.ne
  · have hB : Lib.BuilderAt 160 5 0 b (.pointer (some ⟨b, 0, none⟩)) bs w := ⟨Nat.zero_le _, u1, by rw [← e]; exact h.heap, h.own, h.ne⟩
    refine (copyCheck_used b w hB.cell0).mono ?_
    rintro e' w' ⟨rfl, rfl⟩
    exact ⟨rfl, ⟨by rw [← e]; exact h.heap, .inr rfl, h.own, h.ne⟩, Fr.refl _ _, rfl⟩
set_option maxHeartbeats 2000000 in
set_option maxRecDepth 100000 in
theorem writeF (b : Nat) (bs : List Value) (u0 u1 : Value) (s : ByteArray) (w : World) (h : BS b bs u0 u1 w) (hlen : bs.length + s.size ≤ 140737488355328) :
    Calls Tryz.prog 106 #[.pointer (some ⟨b, 0, none⟩), .string s] w fun e w' => e = .returned (.tuple #[.int .i64 s.size, .nilIface]) ∧ ∃ u1', BS b (bs ++ Lib.strCells s) (.pointer (some ⟨b, 0, none⟩)) u1' w' ∧ Fr (fun k => k = b ∨ u1.ownBlock = some k) w w' ∧ ∀ g, u1'.ownBlock = some g → g < w'.heap.size ∧ (u1.ownBlock = some g ∨ w.heap.size ≤ g) := by
  obtain ⟨i0, hi, hz0, hz1, hz2⟩ := info_parts infoB
  go_enter Tryz.func106, Tryz.ntmps106
  go_wp2_with (go_at_call 199; refine (copyCheckF b bs u0 u1 _ h).mono ?_)
  rintro e w1 ⟨rfl, h1, f1, s1⟩
  obtain ⟨hbk, hself, hown, hne⟩ := h1
  have c0 : w1.cell? ⟨b, 0, none⟩ = some (.pointer (some ⟨b, 0, none⟩)) := by rw [Lib.cell_of_heap hbk]; rfl
  have c1 : w1.cell? ⟨b, 1, none⟩ = some u1 := by rw [Lib.cell_of_heap hbk]; rfl
  go_wp2_with (at_builtin; refine wpList_str_at rfl _ _ 158 9 rfl 5 i0 Tryz.underlying158 Tryz.underlying9 hi hz0 hz1 hz2 _ _ _ rfl hown s rfl ?c3 ?c4 ?_)
  case c3 => unfold maxLen; omega
  case c4 => omega
  intro v' w2 hown' hgrow hnew
  have hlt : b < w1.heap.size := by
    rcases Nat.lt_or_ge b w1.heap.size with h' | h'
    · exact h'
    · simp [Array.getElem?_eq_none h'] at hbk
  have hb2 : w2.heap[b]? = some (.cells #[.pointer (some ⟨b, 0, none⟩), u1] 160 (0, 0)) := by
    rw [hgrow.block b hlt (fun e => hne e.symm)]
    exact hbk
  have d0 : w2.cell? ⟨b, 0, none⟩ = some (.pointer (some ⟨b, 0, none⟩)) := by rw [Lib.cell_of_heap hb2]; rfl
  have d1 : w2.cell? ⟨b, 1, none⟩ = some u1 := by rw [Lib.cell_of_heap hb2]; rfl
  have f1' : w2.frozen? ⟨b, 1, none⟩ = false := Lib.frozen_of_heap hb2 1
  obtain ⟨ao, n', cap, rfl⟩ : ∃ ao n' cap, v' = .slice ao n' cap := by
    rcases hown'.2 with ⟨hv, _⟩ | ⟨g, cap, cur, hv, _⟩
    · exact ⟨_, _, _, hv⟩
    · exact ⟨_, _, _, hv⟩
  have hw2 : ∀ k, k < w1.heap.size → u1.ownBlock ≠ some k → w2.heap[k]? = w1.heap[k]? := fun k hk hn => hgrow.block k hk fun e => hn e.symm
  have lt2 : ∀ g, (Value.slice ao n' cap).ownBlock = some g → g < w2.heap.size := fun g hg => (hown'.lt g hg).2
  go_wp2
  go_ret2
  have put := Lib.BuilderAt.put (T := 160) (e := 5) (Nat.zero_le b) hb2 (bs' := bs ++ Lib.strCells s) (by simpa [Lib.strCells_length] using hown') (by decide)
  obtain ⟨_, v3, p1, p2, p3⟩ := put
  have hv3 : v3 = .slice ao n' cap := by
    have : (w2.setCell ⟨b, 1, none⟩ (.slice ao n' cap)).heap[b]? = some (.cells #[.pointer (some ⟨b, 0, none⟩), .slice ao n' cap] 160 (0, 0)) := by simp [World.setCell, Array.getElem?_modify, hb2]
    rw [this] at p1
    injection p1 with p1
    injection p1 with p1
    have := congrArg (fun z => z[1]?) p1
    simpa using this.symm
  subst hv3
  have hs3 : (w2.setCell ⟨b, 1, none⟩ (.slice ao n' cap)).heap.size = w2.heap.size := by simp [World.setCell]
  refine ⟨rfl, .slice ao n' cap, ⟨p1, .inr rfl, p2, p3⟩, ⟨?_, ?_, ?_, ?_, fun k hk hn => ?_⟩, fun g hg => ⟨?_, ?_⟩⟩
  · exact hgrow.os.trans f1.os
  · exact hgrow.tape.trans f1.tape
  · exact hgrow.output.trans f1.output
  · rw [hs3]
    exact Nat.le_trans (Nat.le_of_eq s1.symm) hgrow.size
  · rw [Below.heap_setCell _ _ _ _ (fun e => hn (.inl e)), hw2 k (by omega) (fun e => hn (.inr e))]
    exact f1.block k hk (fun e => hn (.inl e))
  · rw [hs3]; exact lt2 g hg
  · rcases hnew with h | h
    · exact .inl (by rw [← h]; exact hg)
    · rw [h] at hg
      injection hg with hg
      exact .inr (by omega)
end Go.Proofs.YthjfllfhagdnpaaGreatDoor
namespace Go.Proofs.YthjfllfhagdnpaaGreatDoor
open Go.RowKit Go.Shelf
open Go.AM (Fr)

set_option maxHeartbeats 2000000 in
set_option maxRecDepth 100000 in
theorem lineF (b : Nat) (bs : List Value) (u0 u1 : Value) (word : ByteArray) (l : List ByteArray) (bk off c : Nat) (w : World) (h : BS b bs u0 u1 w)
    (hcells : ∀ (j : Nat) x, l[j]? = some x → w.cell? ⟨bk, off + j, none⟩ = some (.string x)) (hN : l.length ≤ 1000000)
    (hlen : bs.length + (Lib.join ((word :: l).map (·.data.toList)) [32]).length ≤ 1000000000000) :
    Calls Tryz.prog 105 #[.string word, .slice (some ⟨bk, off, none⟩) l.length c, .pointer (some ⟨b, 0, none⟩)] w fun e w' => e = .returned (.tuple #[]) ∧ ∃ u1', BS b (bs ++ Lib.strCells (lineB word l)) (.pointer (some ⟨b, 0, none⟩)) u1' w' ∧ Fr (fun k => k = b ∨ u1.ownBlock = some k) w w' ∧ ∀ g, u1'.ownBlock = some g → g < w'.heap.size ∧ (u1.ownBlock = some g ∨ w.heap.size ≤ g) := by
  obtain ⟨i, hi, hz, hs, hb⟩ := info_parts infoS
  obtain ⟨jt, hjt⟩ : ∃ jt : ByteArray, jt = ⟨(Lib.join ((word :: l).map (·.data.toList)) [32]).toArray⟩ := ⟨_, rfl⟩
  have zz : jt.size = (Lib.join ((word :: l).map (·.data.toList)) [32]).length := by rw [hjt]; simp [ByteArray.size]
  have nz : ¬ 9223372036854775807 < jt.size + 1 := by omega
  have hsz : bs.length + (jt ++ ⟨#[10]⟩).size ≤ 140737488355328 := by
    rw [ByteArray.size_append, zz, show (⟨#[10]⟩ : ByteArray).size = 1 from rfl]
    omega
  have HS := Lib.hid hsz
  have e1 : lineB word l = jt ++ ⟨#[10]⟩ := by rw [lineB, hjt]
  rw [e1]
  have hl := Lib.hid hlen
  have HJ := Lib.hid hjt
  clear hlen hjt zz hsz e1
  go_enter Tryz.func105, Tryz.ntmps105
  have b0 : Below w.heap.size w (w.alloc (.cells #[.string word] 9)) := (Below.refl _ w).alloc (Nat.le_refl _) _
  go_wp2_with (at_builtin; refine wpList_append_own _ rfl _ _ 49 rfl w.heap.size 9 i _ 1 16 Tryz.underlying49 hi hz hs hb rfl (by decide) _ 1 [.string word] rfl ?o1 ⟨bk, off, none⟩ l.length c (l.map .string) rfl (by rw [List.length_map, Nat.mul_one]) ?o2 ?o3 ?o4 ?o5 ?o6 ?_)
  case o1 => exact ⟨rfl, .inr ⟨w.heap.size, 1, #[.string word], rfl, Nat.le_refl _, heap_alloc_new w _, Nat.le_refl _, by decide, rfl, rfl⟩⟩
  case o2 =>
    intro j u hj
    rw [List.getElem?_map, Option.map_eq_some_iff] at hj
    obtain ⟨x, hx, rfl⟩ := hj
    have hc := hcells j x hx
    have := (b0.cell (p := ⟨bk, off + j, none⟩) (World.block_lt_of_cell? _ _ hc)).trans hc
    rw [Addr.add_lit]
    exact this
  case o3 =>
    intro u hu
    obtain ⟨x, _, rfl⟩ := List.mem_map.1 hu
    rfl
  case o4 => unfold maxLen; omega
  case o5 => omega
  case o6 => exact b0.size
  intro v' w2 hown hgrow _
  have b2 : Below w.heap.size w w2 := b0.grown hgrow b0.size (fun k hk => by
    simp only [Value.ownBlock, Option.some.injEq] at hk
    exact Nat.le_of_eq hk)
  obtain ⟨g, cap, cur, rfl, hg, hh, hcap, _, _, htk⟩ : ∃ g cap cur, v' = .slice (some ⟨g, 0, none⟩) (1 + l.length) cap ∧ w.heap.size ≤ g ∧ w2.heap[g]? = some (.cells cur 9 (0, 0)) ∧ 1 + l.length ≤ cap ∧ cap ≤ maxLen ∧ cur.size = cap * 1 ∧ cur.toList.take ((1 + l.length) * 1) = [.string word] ++ l.map .string := by
    rcases hown.2 with ⟨_, h0⟩ | h
    · omega
    · exact h
  have hgl : g < w2.heap.size := by
    rcases Nat.lt_or_ge g w2.heap.size with h' | h'
    · exact h'
    · simp [Array.getElem?_eq_none h'] at hh
  have hcell : ∀ (j : Nat) x, (word :: l)[j]? = some x → w2.cell? ⟨g, 0 + j, none⟩ = some (.string x) := fun j x hx => by
    rw [Nat.zero_add, Lib.cell_of_heap hh]
    have h1 : (cur.toList.take ((1 + l.length) * 1))[j]? = some (.string x) := by
      rw [htk, show [Value.string word] ++ l.map Value.string = (word :: l).map Value.string from rfl, List.getElem?_map, hx]
      rfl
    rw [List.getElem?_take] at h1
    split at h1
    · rw [← Array.getElem?_toList]; exact h1
    · cases h1
  have hi2 : BS b bs u0 u1 w2 := h.below b2
  have J := joinS g 0 cap (word :: l) ⟨#[32]⟩ w2 hcell hgl (by simp; omega) (by simp; omega) (Nat.le_trans (Nat.le_trans (Nat.le_add_left _ bs.length) hl.out) (by omega))
  rw [show (word :: l).length = 1 + l.length by simp; omega] at J
  have JJ := Lib.hid J
  clear J
  have JK : Hid (Calls Tryz.prog 107 #[.slice (some ⟨g, 0, none⟩) (1 + l.length) cap, .string ⟨#[32]⟩] w2 fun e w' => e = .returned (.string jt) ∧ Below w2.heap.size w2 w') := Lib.hid (by rw [HJ.out]; exact JJ.out)
  clear JJ
  go_wp2_with (go_at_call 107; refine (JK.out).mono ?_; rintro e w3 ⟨rfl, b3⟩)
  refine (writeF b bs u0 u1 _ w3 (hi2.below b3) HS.out).mono ?_
  rintro e w4 ⟨rfl, u1', h4, f4, g4⟩
  go_wp2
  go_end0
  have b5 : Below w.heap.size w w3 := b2.trans (b3.mono b2.size)
  refine ⟨rfl, u1', h4, ⟨f4.os.trans b5.os, f4.tape.trans b5.tape, f4.output.trans b5.output, Nat.le_trans b5.size f4.size, fun k hk hn => (f4.block k (Nat.lt_of_lt_of_le hk b5.size) hn).trans (b5.block k hk)⟩, fun g hg => ⟨(g4 g hg).1, ?_⟩⟩
  rcases (g4 g hg).2 with h | h
  · exact .inl h
  · exact .inr (Nat.le_trans b5.size h)
end Go.Proofs.YthjfllfhagdnpaaGreatDoor
