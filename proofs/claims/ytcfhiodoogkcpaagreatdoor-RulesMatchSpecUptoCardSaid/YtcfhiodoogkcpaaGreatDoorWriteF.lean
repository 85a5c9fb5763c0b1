/- Walks: the writing of a text, of a line, into a builder; what else stays. -/
import Derived.Test.YtcfhiodoogkcpaaGreatDoorLine
import Derived.Test.YtcfhiodoogkcpaaGreatDoorAM3
set_option linter.unusedSimpArgs false
set_option linter.unusedVariables false
namespace Go.Proofs.YtcfhiodoogkcpaaGreatDoor
open Go.RowKit Go.Shelf
open Go.AM (Fr)

section
variable {P : Program}
theorem run_str_at (w : World) (t u ty e : TypeId) (i : TypeInfo) (ht : P.underlying t = some (.slice e)) (hu : P.underlying u = some .string) (hi : P.info? e = some i) (hz : i.zero = some (.int .u8 0)) (hsize : i.size = 1) (hby : i.bytes = 1)
    (v : Value) (n : Nat) (xs : List Value) (hown : w.ownsRow 0 e 1 v n xs) (s : ByteArray) (h63 : n + s.size ≤ maxLen) (hbytes : n + s.size ≤ 140737488355328) :
    ∃ v' w', (Builtin.append_ #[t, u] ty #[v, .string s]).run P w = .ok v' w' ∧ w'.ownsRow 0 e 1 v' (n + s.size) (xs ++ Lib.strCells s) ∧ w.grownBy w' v.ownBlock ∧ (v'.ownBlock = v.ownBlock ∨ v'.ownBlock = some w.heap.size) := by
  obtain ⟨v', w', hr, h2, h3, h4⟩ := Lib.run_append_own_string (P := P) w 0 t u ty e i ht hu hi hz hsize hby v n xs hown s h63 hbytes (Nat.zero_le _)
  refine ⟨v', w', hr, h2, h3, ?_⟩
  have hxl : xs.length = n := by simpa using hown.1
  have hsmall : n + s.size ≤ 9223372036854775807 := by simp only [maxLen] at h63; omega
  rcases hown.2 with ⟨rfl, rfl⟩ | ⟨g, cap, cur, rfl, hbg, hg, hnc, hcm, hcs, htake⟩
  · by_cases hm : s.size = 0
    · rw [h4.2 ⟨rfl, hm⟩]
      exact .inl rfl
    · have hr2 := run_append_nil_string (P := P) w t u ty e i (.int .u8 0) ht hu hi hz s (by omega) (by omega) (by rw [hby]; omega)
      rw [hr] at hr2
      injection hr2 with hr2
      rw [hr2]
      exact .inr rfl
  · by_cases hroom : n + s.size ≤ cap
    · have hcs' : cur.size = cap := by simpa using hcs
      have hr2 := Lib.run_append_room_string (P := P) w t u ty e i ht hu hi hsize g n cap cur hg s hroom (by omega)
      rw [hr] at hr2
      injection hr2 with hr2
      rw [hr2]
      exact .inl rfl
    · have holds : ∀ j u, xs[j]? = some u → w.cell? ((⟨g, 0, none⟩ : Addr).add j) = some u := hown.cells (g := g) rfl
      have hr2 := Lib.run_append_grow_string (P := P) w t u ty e i (.int .u8 0) ht hu hi hz ⟨g, 0, none⟩ n cap xs (by rw [hsize]; simpa using hxl) holds s (by omega) (by omega) (by rw [hby]; exact growslice_fits (by omega) (by omega))
      rw [hr] at hr2
      injection hr2 with hr2
      rw [hr2]
      exact .inr rfl
theorem wpList_str_at {w : World} {ops : Array Oper} {rest : List Oper} {o : Oper} {a : Act} {Q : Exit → Act → World → Prop} (hgd : o.guard = none) (sl x : Operand) (t u : TypeId)
    (ho : o.op = .call { callee := .builtin .append, args := #[sl, x], argTypes := #[t, u] }) (e : TypeId) (i : TypeInfo) (ht : P.underlying t = some (.slice e)) (hu : P.underlying u = some .string) (hi : P.info? e = some i) (hz : i.zero = some (.int .u8 0)) (hsize : i.size = 1) (hby : i.bytes = 1)
    (v : Value) (n : Nat) (xs : List Value) (hs : a.eval sl = v) (hown : w.ownsRow 0 e 1 v n xs) (s : ByteArray) (hx : a.eval x = .string s) (h63 : n + s.size ≤ maxLen) (hbytes : n + s.size ≤ 140737488355328)
    (h : ∀ v' w', w'.ownsRow 0 e 1 v' (n + s.size) (xs ++ Lib.strCells s) → w.grownBy w' v.ownBlock → (v'.ownBlock = v.ownBlock ∨ v'.ownBlock = some w.heap.size) → wpList P ops Q rest (a.put o.dst v') w') : wpList P ops Q (o :: rest) a w := by
  refine wpList_plain hgd fun K hK => ?_
  obtain ⟨v', w', hr, h2, h3, h4⟩ := run_str_at (P := P) w t u o.type e i ht hu hi hz hsize hby v n xs hown s h63 hbytes
  unfold Oper.wp execOp
  simp only [ho, resolve, invoke, builtin, Sem.run_bind, Sem.run_pure, Result.andThen_ok, List.map_toArray, List.map_cons, List.map_nil, hs, hx, hr]
  exact hK _ _ (h v' w' h2 h3 h4)
end
/-- a builder at b: its address (or none), its row -/
structure BS (b : Nat) (bs : List Value) (u0 u1 : Value) (w : World) : Prop where
  heap : w.heap[b]? = some (.cells #[u0, u1] 51 (0, 0))
  self : u0 = .pointer none ∨ u0 = .pointer (some ⟨b, 0, none⟩)
  own : w.ownsRow 0 5 1 u1 bs.length bs
  ne : u1.ownBlock ≠ some b
theorem BS.is {b : Nat} {bs : List Value} {u0 u1 : Value} {w : World} (h : BS b bs u0 u1 w) : Lib.IsBuilder 51 5 0 b bs w := by
  rcases h.self with e | e
  · exact .inl ⟨Nat.zero_le _, u1, by rw [← e]; exact h.heap, h.own, h.ne⟩
  · exact .inr ⟨Nat.zero_le _, u1, by rw [← e]; exact h.heap, h.own, h.ne⟩
theorem BS.lt {b : Nat} {bs : List Value} {u0 u1 : Value} {w : World} (h : BS b bs u0 u1 w) : b < w.heap.size := by
  rcases Nat.lt_or_ge b w.heap.size with h' | h'
  · exact h'
  · have := h.heap
    simp [Array.getElem?_eq_none h'] at this
theorem BS.below {b : Nat} {bs : List Value} {u0 u1 : Value} {w w' : World} (h : BS b bs u0 u1 w) (hb : Below w.heap.size w w') : BS b bs u0 u1 w' := by
  have lt : ∀ k o, w.heap[k]? = some o → k < w.heap.size := fun k o hk => by
    rcases Nat.lt_or_ge k w.heap.size with h' | h'
    · exact h'
    · simp [Array.getElem?_eq_none h'] at hk
  refine ⟨(hb.block b h.lt).trans h.heap, h.self, ⟨h.own.1, ?_⟩, h.ne⟩
  rcases h.own.2 with h | ⟨g, cap, cur, hv, hg, hh, r⟩
  · exact .inl h
  · exact .inr ⟨g, cap, cur, hv, hg, (hb.block g (lt _ _ hh)).trans hh, r⟩
theorem copyCheckF (b : Nat) (bs : List Value) (u0 u1 : Value) (w : World) (h : BS b bs u0 u1 w) :
    Calls Tryz.prog 51 #[.pointer (some ⟨b, 0, none⟩)] w fun e w' => e = .returned (.tuple #[]) ∧ (BS b bs (.pointer (some ⟨b, 0, none⟩)) u1 w' ∧ Fr (fun k => k = b) w w' ∧ w'.heap.size = w.heap.size) := by
  rcases h.self with e | e
  · have hB : Lib.BuilderAt 51 5 0 b (.pointer none) bs w := ⟨Nat.zero_le _, u1, by rw [← e]; exact h.heap, h.own, h.ne⟩
    refine (copyCheck_fresh b w hB.cell0 hB.shape hB.frozen0).mono ?_
    rintro e' w' ⟨rfl, rfl⟩
    have hs : (w.setCell ⟨b, 0, none⟩ (.pointer (some ⟨b, 0, none⟩))).heap.size = w.heap.size := by simp [World.setCell]
    refine ⟨rfl, ⟨?_, .inr rfl, ?_, h.ne⟩, ⟨rfl, rfl, rfl, Nat.le_of_eq hs.symm, fun k _ hn => Below.heap_setCell _ _ _ _ hn⟩, hs⟩
    · have := h.heap
      simp [World.setCell, Array.getElem?_modify, this]
    · refine h.own.kept (row := some b) ⟨rfl, rfl, rfl, by simp [World.setCell], fun k _ hk => Below.heap_setCell _ _ _ _ (fun e => hk (by simp [e]))⟩ ?_
      exact Or.inr h.ne
  · have hB : Lib.BuilderAt 51 5 0 b (.pointer (some ⟨b, 0, none⟩)) bs w := ⟨Nat.zero_le _, u1, by rw [← e]; exact h.heap, h.own, h.ne⟩
    refine (copyCheck_used b w hB.cell0).mono ?_
    rintro e' w' ⟨rfl, rfl⟩
    exact ⟨rfl, ⟨by rw [← e]; exact h.heap, .inr rfl, h.own, h.ne⟩, Fr.refl _ _, rfl⟩
set_option maxHeartbeats 2000000 in
set_option maxRecDepth 100000 in
theorem writeF (b : Nat) (bs : List Value) (u0 u1 : Value) (s : ByteArray) (w : World) (h : BS b bs u0 u1 w) (hlen : bs.length + s.size ≤ 140737488355328) :
    Calls Tryz.prog 21 #[.pointer (some ⟨b, 0, none⟩), .string s] w fun e w' => e = .returned (.tuple #[.int .i64 s.size, .nilIface]) ∧ ∃ u1', BS b (bs ++ Lib.strCells s) (.pointer (some ⟨b, 0, none⟩)) u1' w' ∧ Fr (fun k => k = b ∨ u1.ownBlock = some k) w w' ∧ ∀ g, u1'.ownBlock = some g → g < w'.heap.size ∧ (u1.ownBlock = some g ∨ w.heap.size ≤ g) := by
  obtain ⟨i0, hi, hz0, hz1, hz2⟩ := info_parts infoB
  go_enter Tryz.func21, Tryz.ntmps21
  go_wp2_with (go_at_call 51; refine (copyCheckF b bs u0 u1 _ h).mono ?_)
  rintro e w1 ⟨rfl, h1, f1, s1⟩
  obtain ⟨hbk, hself, hown, hne⟩ := h1
  have c0 : w1.cell? ⟨b, 0, none⟩ = some (.pointer (some ⟨b, 0, none⟩)) := by rw [Lib.cell_of_heap hbk]; rfl
  have c1 : w1.cell? ⟨b, 1, none⟩ = some u1 := by rw [Lib.cell_of_heap hbk]; rfl
  go_wp2_with (at_builtin; refine wpList_str_at rfl _ _ 49 9 rfl 5 i0 Tryz.underlying49 Tryz.underlying9 hi hz0 hz1 hz2 _ _ _ rfl hown s rfl ?c3 ?c4 ?_)
  case c3 => unfold maxLen; omega
  case c4 => omega
  intro v' w2 hown' hgrow hnew
  have hlt : b < w1.heap.size := by
    rcases Nat.lt_or_ge b w1.heap.size with h' | h'
    · exact h'
    · simp [Array.getElem?_eq_none h'] at hbk
  have hb2 : w2.heap[b]? = some (.cells #[.pointer (some ⟨b, 0, none⟩), u1] 51 (0, 0)) := by
    rw [hgrow.block b hlt (fun e => hne e.symm)]
    exact hbk
  have d0 : w2.cell? ⟨b, 0, none⟩ = some (.pointer (some ⟨b, 0, none⟩)) := by rw [Lib.cell_of_heap hb2]; rfl
  have d1 : w2.cell? ⟨b, 1, none⟩ = some u1 := by rw [Lib.cell_of_heap hb2]; rfl
  have f1' : w2.frozen? ⟨b, 1, none⟩ = false := Lib.frozen_of_heap hb2 1
  obtain ⟨ao, n', cap, rfl⟩ : ∃ ao n' cap, v' = .slice ao n' cap := by
    rcases hown'.2 with ⟨hv, _⟩ | ⟨g, cap, cur, hv, _⟩
    · exact ⟨_, _, _, hv⟩
    · exact ⟨_, _, _, hv⟩
  have hw2 : ∀ k, k < w1.heap.size → u1.ownBlock ≠ some k → w2.heap[k]? = w1.heap[k]? := fun k hk hn => hgrow.block k hk fun e => hn e.symm
  have lt2 : ∀ g, (Value.slice ao n' cap).ownBlock = some g → g < w2.heap.size := fun g hg => (hown'.lt g hg).2
  go_wp2
  go_ret2
  have put := Lib.BuilderAt.put (T := 51) (e := 5) (Nat.zero_le b) hb2 (bs' := bs ++ Lib.strCells s) (by simpa [Lib.strCells_length] using hown') (by decide)
  obtain ⟨_, v3, p1, p2, p3⟩ := put
  have hv3 : v3 = .slice ao n' cap := by
    have : (w2.setCell ⟨b, 1, none⟩ (.slice ao n' cap)).heap[b]? = some (.cells #[.pointer (some ⟨b, 0, none⟩), .slice ao n' cap] 51 (0, 0)) := by simp [World.setCell, Array.getElem?_modify, hb2]
    rw [this] at p1
    injection p1 with p1
    injection p1 with p1
    have := congrArg (fun z => z[1]?) p1
    simpa using this.symm
  subst hv3
  have hs3 : (w2.setCell ⟨b, 1, none⟩ (.slice ao n' cap)).heap.size = w2.heap.size := by simp [World.setCell]
  refine ⟨rfl, .slice ao n' cap, ⟨p1, .inr rfl, p2, p3⟩, ⟨?_, ?_, ?_, ?_, fun k hk hn => ?_⟩, fun g hg => ⟨?_, ?_⟩⟩
  · exact hgrow.os.trans f1.os
  · exact hgrow.tape.trans f1.tape
  · exact hgrow.output.trans f1.output
  · rw [hs3]
    exact Nat.le_trans (Nat.le_of_eq s1.symm) hgrow.size
  · rw [Below.heap_setCell _ _ _ _ (fun e => hn (.inl e)), hw2 k (by omega) (fun e => hn (.inr e))]
    exact f1.block k hk (fun e => hn (.inl e))
  · rw [hs3]; exact lt2 g hg
  · rcases hnew with h | h
    · exact .inl (by rw [← h]; exact hg)
    · rw [h] at hg
      injection hg with hg
      exact .inr (by omega)
end Go.Proofs.YtcfhiodoogkcpaaGreatDoor
