/- Walks: the text of the rules of one number. -/
import Derived.Test.YtcfhiodoogkcpaaGreatDoorLine
import Derived.Deep.RegionHeld3
import Derived.Lib.AppendIntMem
set_option linter.unusedSimpArgs false
set_option linter.unusedVariables false
namespace Go.Proofs.YtcfhiodoogkcpaaGreatDoor
open Go.RowKit Go.Shelf

def Tab (w : World) : Prop := 1 < w.heap.size ∧ Lib.TabIs Tryz.prog w "internal/strconv.uint64pow10" .u64 Lib.pow10Tab
theorem gPow10 : Tryz.prog.globalNamed "internal/strconv.uint64pow10" = some 1 := by kernel_rfl
theorem Tab.below {w w' : World} (h : Tab w) (hb : Below w.heap.size w w') : Tab w' := by
  obtain ⟨h1, h3⟩ := h
  refine ⟨Nat.lt_of_lt_of_le h1 hb.size, ?_⟩
  unfold Lib.TabIs World.var? at h3 ⊢
  simp only [gPow10, Option.bind_some] at h3 ⊢
  rw [hb.block _ h1]
  exact h3
/-- what is held over the numbers' texts: the rules' box, the table, the world before -/
structure Held (g : Nat) (W0 w : World) : Prop where
  c0 : w.cell? ⟨g, 0, none⟩ = some (.int .i64 0)
  c1 : w.cell? ⟨g, 1, none⟩ = some (.int .i64 5)
  c2 : w.cell? ⟨g, 2, none⟩ = some (.int .i64 0)
  c3 : w.cell? ⟨g, 3, none⟩ = some (.int .i64 0)
  c4 : w.cell? ⟨g, 4, none⟩ = some (.int .i64 0)
  lt : g < w.heap.size
  tab : Tab w
  from0 : Below W0.heap.size W0 w
theorem Held.below {g : Nat} {W0 w w' : World} (h : Held g W0 w) (hb : Below w.heap.size w w') : Held g W0 w' :=
  ⟨(hb.cell (p := ⟨g, 0, none⟩) h.lt).trans h.c0, (hb.cell (p := ⟨g, 1, none⟩) h.lt).trans h.c1, (hb.cell (p := ⟨g, 2, none⟩) h.lt).trans h.c2, (hb.cell (p := ⟨g, 3, none⟩) h.lt).trans h.c3, (hb.cell (p := ⟨g, 4, none⟩) h.lt).trans h.c4, Nat.lt_of_lt_of_le h.lt hb.size, h.tab.below hb, h.from0.trans (hb.mono h.from0.size)⟩
theorem Held.drew {g : Nat} {W0 w : World} (h : Held g W0 w) : Held g W0 w.drew := h.below ((Below.refl _ w).drew)
theorem itoaH (g : Nat) (W0 W : World) (n : Int) (h0 : -9223372036854775808 ≤ n) (h1 : n ≤ 9223372036854775807) (h : Held g W0 W) :
    Calls Tryz.prog 23 #[.int .i64 n] W fun e w' => e = .returned (.string ⟨(Lib.itoa n).toArray⟩) ∧ Held g W0 w' := by
  refine (Tryz.strconv_Itoa n h0 h1 W h.tab.2).mono ?_
  rintro e w' ⟨rfl, k, os, rfl⟩
  exact ⟨rfl, h.below (Lib.below_grow _ _ (Nat.le_refl _) k os)⟩
theorem itoaD (g : Nat) (W0 W : World) (n : Int) (h0 : -9223372036854775808 ≤ n) (h1 : n ≤ 9223372036854775807) (h : Held g W0 W) :
    Calls Tryz.prog 23 #[.int .i64 n] W.drew fun e w' => e = .returned (.string ⟨(Lib.itoa n).toArray⟩) ∧ Held g W0 w' := itoaH g W0 W.drew n h0 h1 h.drew
theorem i0 : Lib.itoa 0 = [48] := by kernel_rfl
theorem i5 : Lib.itoa 5 = [53] := by kernel_rfl
def s0 : ByteArray := ⟨(Lib.itoa 0).toArray⟩
def s5 : ByteArray := ⟨(Lib.itoa 5).toArray⟩
def rulesW : ByteArray := ⟨#[114, 117, 108, 101, 115]⟩
theorem joined5 : (Lib.join ((rulesW :: [s0, s5, s0, s0, s0]).map (·.data.toList)) [32]) = [114, 117, 108, 101, 115, 32, 48, 32, 53, 32, 48, 32, 48, 32, 48] := by
  simp only [s0, s5, i0, i5]
  decide
theorem row5 (W : World) (l : List ByteArray) (j : Nat) (x : ByteArray) (h : l[j]? = some x) : (W.alloc (.cells (l.map Value.string).toArray 9)).cell? ⟨W.heap.size, j, none⟩ = some (.string x) := by
  rw [Lib.cell_of_heap (heap_alloc_new W _)]
  simp [h]
set_option maxHeartbeats 1000000 in
theorem line5 (B b : Nat) (W0 W5 : World) (g : Nat) (hB : Lib.IsBuilder 51 5 B b [] W0) (hs : B ≤ W0.heap.size) (K : Held g W0 W5) :
    Calls Tryz.prog 20 #[.string ⟨#[114, 117, 108, 101, 115]⟩, .slice (some ⟨W5.heap.size, 0, none⟩) 5 5, .pointer (some ⟨b, 0, none⟩)] (W5.alloc (.cells #[.string ⟨(Lib.itoa 0).toArray⟩, .string ⟨(Lib.itoa 5).toArray⟩, .string ⟨(Lib.itoa 0).toArray⟩, .string ⟨(Lib.itoa 0).toArray⟩, .string ⟨(Lib.itoa 0).toArray⟩] 9)) fun e w' => e = .returned (.tuple #[]) ∧ (Lib.BuilderAt 51 5 B b (.pointer (some ⟨b, 0, none⟩)) ([] ++ Lib.strCells (lineB rulesW [s0, s5, s0, s0, s0])) w' ∧ Below B (W5.alloc (.cells #[.string ⟨(Lib.itoa 0).toArray⟩, .string ⟨(Lib.itoa 5).toArray⟩, .string ⟨(Lib.itoa 0).toArray⟩, .string ⟨(Lib.itoa 0).toArray⟩, .string ⟨(Lib.itoa 0).toArray⟩] 9)) w') := by
  have K6 := K.below ((Below.refl _ W5).alloc (Nat.le_refl _) (.cells #[.string ⟨(Lib.itoa 0).toArray⟩, .string ⟨(Lib.itoa 5).toArray⟩, .string ⟨(Lib.itoa 0).toArray⟩, .string ⟨(Lib.itoa 0).toArray⟩, .string ⟨(Lib.itoa 0).toArray⟩] 9))
  exact line B b [] rulesW [s0, s5, s0, s0, s0] W5.heap.size 5 _ (keepI hB K6.from0) (Nat.le_trans hs K6.from0.size) (row5 W5 [s0, s5, s0, s0, s0]) (by decide) (by rw [joined5]; decide)
set_option maxHeartbeats 4000000 in
set_option maxRecDepth 100000 in
theorem text5 (a a' : Option Addr) (c c' : Nat) (w : World) (htab : Tab w)
    (H : Calls Tryz.prog 10 #[(.agg #[.int .i64 0, .int .i64 5, .int .i64 0, .int .i64 0, .int .i64 0, .slice a 0 c, .slice a' 0 c'])] (w.alloc (.cells #[.int .i64 0, .int .i64 5, .int .i64 0, .int .i64 0, .int .i64 0, .slice a 0 c, .slice a' 0 c'] 25)) fun e w' => e = .returned (.int .i64 0) ∧ Below (w.alloc (.cells #[.int .i64 0, .int .i64 5, .int .i64 0, .int .i64 0, .int .i64 0, .slice a 0 c, .slice a' 0 c'] 25)).heap.size (w.alloc (.cells #[.int .i64 0, .int .i64 5, .int .i64 0, .int .i64 0, .int .i64 0, .slice a 0 c, .slice a' 0 c'] 25)) w') :
    Calls Tryz.prog 8 #[(.agg #[.int .i64 0, .int .i64 5, .int .i64 0, .int .i64 0, .int .i64 0, .slice a 0 c, .slice a' 0 c'])] w fun e w' => e = .returned (.tuple #[.string ⟨#[114, 117, 108, 101, 115, 32, 48, 32, 53, 32, 48, 32, 48, 32, 48, 10]⟩, .int .i64 0]) ∧ Below w.heap.size w w' := by
  have b1 : Below w.heap.size w (w.alloc (.cells #[.int .i64 0, .int .i64 5, .int .i64 0, .int .i64 0, .int .i64 0, .slice a 0 c, .slice a' 0 c'] 25)) := (Below.refl _ w).alloc (Nat.le_refl _) _
  have lt1 : w.heap.size < (w.alloc (.cells #[.int .i64 0, .int .i64 5, .int .i64 0, .int .i64 0, .int .i64 0, .slice a 0 c, .slice a' 0 c'] 25)).heap.size := by simp
  have hw1 : ∀ j, (w.alloc (.cells #[.int .i64 0, .int .i64 5, .int .i64 0, .int .i64 0, .int .i64 0, .slice a 0 c, .slice a' 0 c'] 25)).cell? ⟨w.heap.size, j, none⟩ = (#[.int .i64 0, .int .i64 5, .int .i64 0, .int .i64 0, .int .i64 0, .slice a 0 c, .slice a' 0 c'] : Array Value)[j]? := fun j => Lib.cell_of_heap (heap_alloc_new w _) ..
  have d0 := hw1 0
  have d1 := hw1 1
  have d2 := hw1 2
  have d3 := hw1 3
  have d4 := hw1 4
  have d5 := hw1 5
  have d6 := hw1 6
  simp only [List.getElem?_toArray, List.getElem?_cons_zero, List.getElem?_cons_succ] at d0 d1 d2 d3 d4 d5 d6
  clear hw1
  have t1 := htab.below b1
  have HH := Lib.hid H
  clear H
  go_enter Tryz.func8, Tryz.ntmps8
  go_wp2_with (go_at_call 10; refine (HH.out).mono ?_; rintro e w2 ⟨rfl, b2⟩)
  have b3 : Below w2.heap.size w2 (w2.alloc (.cells #[.pointer none, .slice none 0 0] 51)) := (Below.refl _ w2).alloc (Nat.le_refl _) _
  have e5 := (b2.cell (p := ⟨w.heap.size, 5, none⟩) lt1).trans d5
  have e6 := (b2.cell (p := ⟨w.heap.size, 6, none⟩) lt1).trans d6
  have lt2 := Nat.lt_of_lt_of_le lt1 b2.size
  have hB : Lib.IsBuilder 51 5 w2.heap.size w2.heap.size [] (w2.alloc (.cells #[.pointer none, .slice none 0 0] 51)) := Lib.fresh_isBuilder 51 5 w2
  have K0 : Held w.heap.size (w2.alloc (.cells #[.pointer none, .slice none 0 0] 51)) (w2.alloc (.cells #[.pointer none, .slice none 0 0] 51)) := by
    have bb := b2.trans (b3.mono b2.size)
    exact ⟨(bb.cell (p := ⟨w.heap.size, 0, none⟩) lt1).trans d0, (bb.cell (p := ⟨w.heap.size, 1, none⟩) lt1).trans d1, (bb.cell (p := ⟨w.heap.size, 2, none⟩) lt1).trans d2, (bb.cell (p := ⟨w.heap.size, 3, none⟩) lt1).trans d3, (bb.cell (p := ⟨w.heap.size, 4, none⟩) lt1).trans d4, Nat.lt_of_lt_of_le lt1 bb.size, t1.below bb, Below.refl _ _⟩
  clear d0 d1 d2 d3 d4 d5 d6
  go_region_held3 (fun w' => w'.cell? ⟨w.heap.size, 0, none⟩ = some (.int .i64 0) ∧ w'.cell? ⟨w.heap.size, 1, none⟩ = some (.int .i64 5) ∧ w'.cell? ⟨w.heap.size, 2, none⟩ = some (.int .i64 0) ∧ w'.cell? ⟨w.heap.size, 3, none⟩ = some (.int .i64 0) ∧ w'.cell? ⟨w.heap.size, 4, none⟩ = some (.int .i64 0)) (first | exact ⟨(b6.cell (p := ⟨w.heap.size, 0, none⟩) lt2).trans (K5.below ((Below.refl _ W5).alloc (Nat.le_refl _) _)).c0, (b6.cell (p := ⟨w.heap.size, 1, none⟩) lt2).trans (K5.below ((Below.refl _ W5).alloc (Nat.le_refl _) _)).c1, (b6.cell (p := ⟨w.heap.size, 2, none⟩) lt2).trans (K5.below ((Below.refl _ W5).alloc (Nat.le_refl _) _)).c2, (b6.cell (p := ⟨w.heap.size, 3, none⟩) lt2).trans (K5.below ((Below.refl _ W5).alloc (Nat.le_refl _) _)).c3, (b6.cell (p := ⟨w.heap.size, 4, none⟩) lt2).trans (K5.below ((Below.refl _ W5).alloc (Nat.le_refl _) _)).c4⟩ | exact ⟨(K5.below ((Below.refl _ W5).alloc (Nat.le_refl _) _)).c0, (K5.below ((Below.refl _ W5).alloc (Nat.le_refl _) _)).c1, (K5.below ((Below.refl _ W5).alloc (Nat.le_refl _) _)).c2, (K5.below ((Below.refl _ W5).alloc (Nat.le_refl _) _)).c3, (K5.below ((Below.refl _ W5).alloc (Nat.le_refl _) _)).c4⟩ | exact ⟨K5.c0, K5.c1, K5.c2, K5.c3, K5.c4⟩ | exact ⟨K4.c0, K4.c1, K4.c2, K4.c3, K4.c4⟩ | exact ⟨K3.c0, K3.c1, K3.c2, K3.c3, K3.c4⟩ | exact ⟨K2.c0, K2.c1, K2.c2, K2.c3, K2.c4⟩ | exact ⟨K1.c0, K1.c1, K1.c2, K1.c3, K1.c4⟩ | exact ⟨K0.c0, K0.c1, K0.c2, K0.c3, K0.c4⟩)
    (first
    | (go_at_call 20; refine Calls.mono (line5 w2.heap.size w2.heap.size _ W5 _ hB b3.size K5) ?_; rintro e W6 ⟨rfl, h6, b6⟩)
    | (go_at_call 23; refine Calls.mono (itoaH _ _ _ _ (by decide) (by decide) K4) ?_; rintro e W5 ⟨rfl, K5⟩)
    | (go_at_call 23; refine Calls.mono (itoaH _ _ _ _ (by decide) (by decide) K3) ?_; rintro e W4 ⟨rfl, K4⟩)
    | (go_at_call 23; refine Calls.mono (itoaH _ _ _ _ (by decide) (by decide) K2) ?_; rintro e W3 ⟨rfl, K3⟩)
    | (go_at_call 23; refine Calls.mono (itoaH _ _ _ _ (by decide) (by decide) K1) ?_; rintro e W2 ⟨rfl, K2⟩)
    | (go_at_call 23; refine Calls.mono (itoaD _ _ _ _ (by decide) (by decide) K0) ?_; rintro e W1 ⟨rfl, K1⟩))
  have bw : Below w2.heap.size w2 W6 := b3.trans (((K5.below ((Below.refl _ W5).alloc (Nat.le_refl _) _)).from0.mono b3.size).trans b6)
  have f5 := (bw.cell (p := ⟨w.heap.size, 5, none⟩) lt2).trans e5
  have f6 := (bw.cell (p := ⟨w.heap.size, 6, none⟩) lt2).trans e6
  have h6' : Lib.IsBuilder 51 5 w2.heap.size w2.heap.size (Lib.byteCells [114, 117, 108, 101, 115, 32, 48, 32, 53, 32, 48, 32, 48, 32, 48, 10]) W6 := by
    have e : lineB rulesW [s0, s5, s0, s0, s0] = ⟨#[114, 117, 108, 101, 115, 32, 48, 32, 53, 32, 48, 32, 48, 32, 48, 10]⟩ := by
      rw [lineB, joined5]; rfl
    rw [e] at h6
    exact Or.inr h6
  clear K0 K1 K2 K3 K4 K5 h6 b6 e5 e6
  go_wp2
  refine wp_loop_rounds 1 ?_
  rw [rounds_succ]
  go_wp2
  refine wp_loop_rounds 1 ?_
  rw [rounds_succ]
  go_wp2_with (go_at_call 24; refine (Tryz.Builder_Len_f w2.heap.size w2.heap.size _ _ (Lib.IsBuilderF.of h6')).mono ?_; rintro e w' ⟨rfl, rfl⟩)
  refine (textOf w2.heap.size w2.heap.size _ _ h6' bw.size).mono ?_
  rintro e w9 ⟨rfl, b9⟩
  go_wp2
  go_ret2
  exact ⟨rfl, b1.trans (((b2.mono (Nat.le_refl _)).trans ((bw.trans b9).mono b2.size)).mono b1.size)⟩
end Go.Proofs.YtcfhiodoogkcpaaGreatDoor
