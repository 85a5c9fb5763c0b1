/- The text of rules, byte by byte. -/
import Derived.Test.YthjfllfhagdnpaaGreatDoorMRules7
import Derived.Lib.AppendIntMem
import Derived.Lib.ItoaLen
set_option linter.unusedSimpArgs false
set_option linter.unusedVariables false
namespace Go.Proofs.YthjfllfhagdnpaaGreatDoor.M
open Go.AM Go.RowKit Go.Lib
open Reg (Rect Spans Band)

def ofL (l : List UInt8) : ByteArray := ⟨l.toArray⟩
theorem ofL_list (l : List UInt8) : (ofL l).data.toList = l := rfl
theorem to_ofL (s : ByteArray) : s = ofL s.data.toList := by cases s; rfl
theorem ofL_app (a b : List UInt8) : ofL a ++ ofL b = ofL (a ++ b) := by
  apply ByteArray.ext
  apply Array.ext'
  simp [ofL]
theorem ofL_size (l : List UInt8) : (ofL l).size = l.length := by simp [ofL, ByteArray.size]
def inI (n : Int) : Prop := -9223372036854775808 ≤ n ∧ n ≤ 9223372036854775807
theorem itoa_calls (n : Int) (h : inI n) : ACalls C 108 [.pv (i64 n)] (.p (str (ofL (Lib.itoa n)))) [] :=
  acalls_im [.int .i64 n] (.string (ofL (Lib.itoa n))) ⟨_, Tryz.func108, by decide, rfl⟩ fun S w hE hS => by
    refine (Tryz.strconv_Itoa n h.1 h.2 w hE.2.2.2).mono ?_
    rintro e w' ⟨rfl, k, os, rfl⟩
    exact ⟨rfl, Lib.below_grow _ _ (Nat.le_refl _) k os⟩
def spc (l : List Int) : List UInt8 := l.flatMap fun n => 32 :: Lib.itoa n
theorem spc_snoc (l : List Int) (n : Int) : spc (l ++ [n]) = spc l ++ 32 :: Lib.itoa n := by simp [spc]
theorem spc_len {l : List Int} (h : ∀ n ∈ l, inI n) : (spc l).length ≤ 22 * l.length := by
  induction l with
  | nil => simp [spc]
  | cons n l ih =>
    have h1 := Lib.itoa_length_le n (h n (by simp)).1 (h n (by simp)).2
    have h2 := ih (fun m hm => h m (by simp [hm]))
    simp only [spc, List.flatMap_cons, List.length_append, List.length_cons] at h2 ⊢
    omega
theorem sz_ofL (a b : List UInt8) : (ofL a ++ ofL b).size = a.length + b.length := by rw [ofL_app, ofL_size, List.length_append]
theorem av_str {a b : ByteArray} (h : a = b) : AV.p (str a) = AV.p (str b) := by rw [h]
def blankS : ByteArray := ⟨#[32]⟩
theorem blank_ofL : (⟨#[32]⟩ : ByteArray) = ofL [32] := rfl
theorem nl_ofL : (⟨#[10]⟩ : ByteArray) = ofL [10] := rfl
def rulesL : List UInt8 := [114, 117, 108, 101, 115]
def classL : List UInt8 := [99, 108, 97, 115, 115, 32]
def areaL : List UInt8 := [97, 114, 101, 97]
def headB (r : Rules) : List UInt8 := rulesL ++ spc [r.clearance, r.width, r.ring, r.edge, r.holeGap] ++ [10]
def netsB (l : List ByteArray) : List UInt8 := l.flatMap fun s => 32 :: s.data.toList
def rectsB (l : List Rect) : List UInt8 := l.flatMap fun q => spc [q.x0, q.y0, q.x1, q.y1]
def classB (c : Class) : List UInt8 := classL ++ c.name.data.toList ++ spc [c.clearance, c.width] ++ netsB c.nets ++ [10]
def areaB (a : Area) : List UInt8 := areaL ++ spc [a.layer, a.clearance] ++ rectsB a.region ++ [10]
/-- the text of rules -/
def textB (r : Rules) : List UInt8 := headB r ++ r.classes.flatMap classB ++ r.areas.flatMap areaB
def textR (r : Rules) : ByteArray × Int := if rulesFault r = 0 then (if 200000 < (textB r).length then (emptyS, 2) else (ofL (textB r), 0)) else (emptyS, rulesFault r)
theorem inI_rule {n : Int} (h : isRule n = true) : inI n := by
  simp [isRule] at h
  exact ⟨by omega, by omega⟩
theorem netsB_len {l : List ByteArray} (h : ∀ s ∈ l, pathB s = true) : (netsB l).length ≤ 201 * l.length := by
  induction l with
  | nil => simp [netsB]
  | cons s l ih =>
    have h1 : (s.size : Int) ≤ 200 := by
      have := h s (by simp)
      simp [pathB] at this
      exact this.2
    have h2 := ih (fun m hm => h m (by simp [hm]))
    simp only [netsB, List.flatMap_cons, List.length_append, List.length_cons] at h2 ⊢
    have : s.data.toList.length = s.size := by simp
    omega
theorem rectsB_len {l : List Rect} (h : ∀ q ∈ l, Reg.isRect q = true) : (rectsB l).length ≤ 88 * l.length := by
  induction l with
  | nil => simp [rectsB]
  | cons q l ih =>
    have h1 := h q (by simp)
    simp [Reg.isRect, Reg.isAt] at h1
    have h2 := ih (fun m hm => h m (by simp [hm]))
    have h3 := spc_len (l := [q.x0, q.y0, q.x1, q.y1]) (fun n hn => by
      simp at hn
      unfold inI
      rcases hn with h | h | h | h <;> subst h <;> omega)
    simp only [rectsB, List.flatMap_cons, List.length_append, List.length_cons, List.length_nil] at h2 h3 ⊢
    omega
theorem region_rects {l : List Rect} (h : Reg.checkRegion l = 0) : l.length ≤ 2000 ∧ ∀ q ∈ l, Reg.isRect q = true := by
  unfold Reg.checkRegion at h
  by_cases h0 : Reg.checkRects l = 0
  · exact ⟨(Reg.rects_good h0).1, fun q hq => ((Reg.rects_good h0).2 q hq).1⟩
  · rw [if_neg h0] at h; exact absurd h h0
theorem classB_len {c : Class} (h : classGood c) (hn : strOK c.name) : (classB c).length ≤ 4295300000 := by
  obtain ⟨_, h2, h3, h4, h5⟩ := h
  have a1 := netsB_len h3
  have a2 := spc_len (l := [c.clearance, c.width]) (fun n hn => by
    simp at hn
    rcases hn with h | h <;> subst h <;> exact inI_rule (by assumption))
  have a3 : c.name.size < 4294967281 := hn
  have : c.name.data.toList.length = c.name.size := by simp
  simp only [classB, List.length_append, classL, List.length_cons, List.length_nil] at a2 ⊢
  omega
theorem areaB_len {a : Area} (h : -1 ≤ a.layer ∧ Reg.checkRegion a.region = 0 ∧ isRule a.clearance = true) (hl : a.layer ≤ 15) : (areaB a).length ≤ 200000 := by
  obtain ⟨h1, h2, h3⟩ := h
  obtain ⟨g1, g2⟩ := region_rects h2
  have a1 := rectsB_len g2
  have a2 := spc_len (l := [a.layer, a.clearance]) (fun n hn => by
    simp at hn
    rcases hn with h | h <;> subst h
    · exact ⟨by omega, by omega⟩
    · exact inI_rule h3)
  simp only [areaB, List.length_append, areaL, List.length_cons, List.length_nil] at a2 ⊢
  omega
theorem flat_len {α : Type} {f : α → List UInt8} {k : Nat} {l : List α} (h : ∀ x ∈ l, (f x).length ≤ k) : (l.flatMap f).length ≤ l.length * k := by
  induction l with
  | nil => simp
  | cons x l ih =>
    have h1 := h x (by simp)
    have h2 := ih (fun m hm => h m (by simp [hm]))
    simp only [List.flatMap_cons, List.length_append, List.length_cons, Nat.add_mul]
    omega
theorem flat_snoc {α : Type} (f : α → List UInt8) {l : List α} {i : Nat} {x : α} (h : l[i]? = some x) : (l.take (i + 1)).flatMap f = (l.take i).flatMap f ++ f x := by
  rw [take_succ' h, List.flatMap_append]; simp
theorem head_len {r : Rules} (h : numsOK r = true) : (headB r).length ≤ 200 := by
  simp [numsOK] at h
  have a2 := spc_len (l := [r.clearance, r.width, r.ring, r.edge, r.holeGap]) (fun n hn => by
    simp at hn
    rcases hn with h | h | h | h | h <;> subst h <;> exact inI_rule (by simp [h]))
  simp only [headB, List.length_append, rulesL, List.length_cons, List.length_nil] at a2 ⊢
  omega
theorem area_top {r : Rules} (h : rulesFault r = 0) : ∀ a ∈ r.areas, a.layer ≤ 15 := by
  intro a ha
  rw [rulesFault] at h
  split at h
  · split at h
    · rw [areasFault] at h
      split at h
      · cases h
      · split at h
        · rename_i h3
          obtain ⟨i, hi⟩ := List.mem_iff_getElem?.1 ha
          have := firstN_zero h3 i (Nat.zero_le _) (by have := (List.getElem?_eq_some_iff.1 hi).1; omega)
          rw [areaFault, hi] at this
          simp only at this
          split at this
          · rename_i h4
            rw [Bool.and_eq_true, decide_eq_true_eq, decide_eq_true_eq] at h4
            exact h4.2
          · cases this
        · contradiction
    · contradiction
  · cases h
def pre1 (r : Rules) (i : Nat) : List UInt8 := headB r ++ (r.classes.take i).flatMap classB
def pre2 (r : Rules) (i : Nat) : List UInt8 := headB r ++ r.classes.flatMap classB ++ (r.areas.take i).flatMap areaB
def inC (c : Class) (j : Nat) : List UInt8 := classL ++ c.name.data.toList ++ spc [c.clearance, c.width] ++ netsB (c.nets.take j)
def inA (a : Area) (j : Nat) : List UInt8 := areaL ++ spc [a.layer, a.clearance] ++ rectsB (a.region.take j)
theorem pre1_len {r : Rules} (hg : RGood r) (ho : rulesOK r) (i : Nat) (hi : i ≤ r.classes.length) : (pre1 r i).length ≤ 220000000000 := by
  have h1 := head_len hg.nums
  have h2 := flat_len (f := classB) (k := 4295300000) (l := r.classes.take i) (fun c hc => classB_len (hg.cl c (List.mem_of_mem_take hc)) (ho.1 c (List.mem_of_mem_take hc)).1)
  have h3 := hg.nc
  rw [List.length_take, Nat.min_eq_left hi] at h2
  have h4 : i * 4295300000 ≤ 50 * 4295300000 := Nat.mul_le_mul_right _ (by omega)
  simp only [pre1, List.length_append]
  omega
theorem pre1_end (r : Rules) : pre1 r r.classes.length = headB r ++ r.classes.flatMap classB := by rw [pre1, List.take_length]
theorem pre2_len {r : Rules} (hg : RGood r) (ho : rulesOK r) (hf : rulesFault r = 0) (i : Nat) (hi : i ≤ r.areas.length) : (pre2 r i).length ≤ 220010000000 := by
  have h1 := pre1_len hg ho _ (Nat.le_refl _)
  rw [pre1_end] at h1
  have h2 := flat_len (f := areaB) (k := 200000) (l := r.areas.take i) (fun c hc => areaB_len (hg.ar c (List.mem_of_mem_take hc)) (area_top hf c (List.mem_of_mem_take hc)))
  have h3 := hg.na
  rw [List.length_take, Nat.min_eq_left hi] at h2
  have h4 : i * 200000 ≤ 50 * 200000 := Nat.mul_le_mul_right _ (by omega)
  rw [List.length_append] at h1
  simp only [pre2, List.length_append]
  omega
theorem inC_len {c : Class} (h : classGood c) (hn : strOK c.name) (j : Nat) : (inC c j).length ≤ 4295300000 := by
  obtain ⟨_, h2, h3, h4, h5⟩ := h
  have a1 := netsB_len (l := c.nets.take j) (fun s hs => h3 s (List.mem_of_mem_take hs))
  have a2 := spc_len (l := [c.clearance, c.width]) (fun n hn => by
    simp at hn
    rcases hn with h | h <;> subst h <;> exact inI_rule (by assumption))
  have a3 : c.name.size < 4294967281 := hn
  have a4 : (c.nets.take j).length ≤ c.nets.length := by rw [List.length_take]; omega
  have : c.name.data.toList.length = c.name.size := by simp
  simp only [inC, List.length_append, classL, List.length_cons, List.length_nil] at a2 ⊢
  omega
theorem inA_len {a : Area} (h : -1 ≤ a.layer ∧ Reg.checkRegion a.region = 0 ∧ isRule a.clearance = true) (hl : a.layer ≤ 15) (j : Nat) : (inA a j).length ≤ 200000 := by
  obtain ⟨h1, h2, h3⟩ := h
  obtain ⟨g1, g2⟩ := region_rects h2
  have a1 := rectsB_len (l := a.region.take j) (fun q hq => g2 q (List.mem_of_mem_take hq))
  have a4 : (a.region.take j).length ≤ a.region.length := by rw [List.length_take]; omega
  have a2 := spc_len (l := [a.layer, a.clearance]) (fun n hn => by
    simp at hn
    rcases hn with h | h <;> subst h
    · exact ⟨by omega, by omega⟩
    · exact inI_rule h3)
  simp only [inA, List.length_append, areaL, List.length_cons, List.length_nil] at a2 ⊢
  omega
theorem pre1_next {r : Rules} {i : Nat} {c : Class} (h : r.classes[i]? = some c) : pre1 r i ++ inC c c.nets.length ++ [10] = pre1 r (i + 1) := by
  rw [pre1, pre1, flat_snoc _ h, inC, List.take_length]
  simp [classB]
theorem pre2_next {r : Rules} {i : Nat} {a : Area} (h : r.areas[i]? = some a) : pre2 r i ++ inA a a.region.length ++ [10] = pre2 r (i + 1) := by
  rw [pre2, pre2, flat_snoc _ h, inA, List.take_length]
  simp [areaB]
theorem inC_next {c : Class} {j : Nat} {s : ByteArray} (h : c.nets[j]? = some s) : inC c j ++ 32 :: s.data.toList = inC c (j + 1) := by
  rw [inC, inC, netsB, netsB, flat_snoc _ h]
  simp
theorem inA_next {a : Area} {j : Nat} {q : Rect} (h : a.region[j]? = some q) : inA a j ++ spc [q.x0, q.y0, q.x1, q.y1] = inA a (j + 1) := by
  rw [inA, inA, rectsB, rectsB, flat_snoc _ h]
  simp
theorem pre_end (r : Rules) : pre2 r r.areas.length = textB r := by rw [pre2, List.take_length, textB]
theorem le_of_sz {n m : Nat} (h : n ≤ m) (hm : m ≤ 9223372036854775807) : n ≤ 9223372036854775807 := Nat.le_trans h hm
end Go.Proofs.YthjfllfhagdnpaaGreatDoor.M
