/- By the machine: the text of rules, of the reference. -/
import Derived.Test.YtcfhiodoogkcpaaGreatDoorMRules7
import Derived.Lib.AppendIntMem
import Derived.Lib.ItoaLen
set_option linter.unusedSimpArgs false
set_option linter.unusedVariables false
namespace Go.Proofs.YtcfhiodoogkcpaaGreatDoor.M
open Go.AM Go.RowKit Go.Lib
open Reg (Rect Spans Band)

def ofL (l : List UInt8) : ByteArray := ⟨l.toArray⟩
theorem ofL_list (l : List UInt8) : (ofL l).data.toList = l := rfl
theorem to_ofL (s : ByteArray) : s = ofL s.data.toList := by cases s; rfl
theorem ofL_app (a b : List UInt8) : ofL a ++ ofL b = ofL (a ++ b) := by
  apply ByteArray.ext
  apply Array.ext'
  simp [ofL]
theorem ofL_size (l : List UInt8) : (ofL l).size = l.length := by simp [ofL, ByteArray.size]
def inI (n : Int) : Prop := -9223372036854775808 ≤ n ∧ n ≤ 9223372036854775807
theorem itoa_calls (n : Int) (h : inI n) : ACalls C 23 [.pv (i64 n)] (.p (str (ofL (Lib.itoa n)))) [] :=
  acalls_im [.int .i64 n] (.string (ofL (Lib.itoa n))) ⟨_, Tryz.func23, by decide, rfl⟩ fun S w hE hS => by
    refine (Tryz.strconv_Itoa n h.1 h.2 w hE.2.2.2).mono ?_
    rintro e w' ⟨rfl, k, os, rfl⟩
    exact ⟨rfl, Lib.below_grow _ _ (Nat.le_refl _) k os⟩
def spc (l : List Int) : List UInt8 := l.flatMap fun n => 32 :: Lib.itoa n
theorem spc_snoc (l : List Int) (n : Int) : spc (l ++ [n]) = spc l ++ 32 :: Lib.itoa n := by simp [spc]
theorem spc_len {l : List Int} (h : ∀ n ∈ l, inI n) : (spc l).length ≤ 22 * l.length := by
  induction l with
  | nil => simp [spc]
  | cons n l ih =>
    have h1 := Lib.itoa_length_le n (h n (by simp)).1 (h n (by simp)).2
    have h2 := ih (fun m hm => h m (by simp [hm]))
    simp only [spc, List.flatMap_cons, List.length_append, List.length_cons] at h2 ⊢
    omega
theorem sz_ofL (a b : List UInt8) : (ofL a ++ ofL b).size = a.length + b.length := by rw [ofL_app, ofL_size, List.length_append]
theorem av_str {a b : ByteArray} (h : a = b) : AV.p (str a) = AV.p (str b) := by rw [h]
def blankS : ByteArray := ⟨#[32]⟩
theorem blank_ofL : (⟨#[32]⟩ : ByteArray) = ofL [32] := rfl
theorem nl_ofL : (⟨#[10]⟩ : ByteArray) = ofL [10] := rfl
set_option maxRecDepth 100000 in
theorem ref6_spaced (l : List Int) (hl : l.length ≤ 1000) (hr : ∀ n ∈ l, inI n) : ACalls C 26 [.pv (ints l)] (.p (str (ofL (spc l)))) [] := by
  refine fun_go hC Tryz.func26 rfl rfl 20 rfl (by decide) (by kernel_rfl) fun _ _ _ _ _ => ?_
  have lm := len_map l fun n => [i64 n]
  refine yS (yA rfl (yU (yA rfl (yT (zw_s (yS (yA rfl (yT (zw_b ?_)))))))))
  refine loop_ok' (fun i : Nat => i ≤ l.length) (fun i => [(0, .p (ints l)), (3, .p (str (ofL (spc (l.take i))))), (4, .p (i64 i))]) (fun _ => []) (fun i => l.length - i) 0 _ (SLe.refl _ _) (Nat.zero_le _) ⟨rfl, rfl, rfl, trivial⟩ trivial fun i hi t h => ?_
  (refine zw_s (yS (yP rfl (yP rfl (yP rfl (yP rfl (yT (zw_c rfl ?_))))))); refine bcase_split (fun h1 => ?_) (fun h1 => ?_) <;> try simp only [zB] at h1)
  · obtain ⟨n, hn⟩ := get_of (l := l) (i := i) (by omega)
    have hm := hr n (List.mem_of_getElem? hn)
    have z1 := Lib.itoa_length_le n hm.1 hm.2
    have z2 := spc_len (l := l.take i) (fun m h => hr m (List.mem_of_mem_take h))
    rw [List.length_take, Nat.min_eq_left (by omega)] at z2
    have e : ofL (spc (l.take i)) ++ (⟨#[32]⟩ ++ ofL (itoa n)) = ofL (spc (l.take (i + 1))) := by
      rw [take_succ' hn, spc_snoc, blank_ofL, ofL_app, ofL_app]; rfl
    (refine zw_k (zt_n (zw_s (zw_b (zw_o (yP rfl (yP rfl (yP rfl (yq rfl (zqX zI ?_))))))))); refine ⟨[i64 n], (idx rfl hn), ?_⟩)
    (refine yk (yP rfl (yn rfl (zqX zI ?_))); refine ⟨_, _, (itoa_calls n hm), ?_⟩)
    (refine zkn rfl rfl (zst_p (yq rfl (zqA zI ?_))); refine And.intro (show (1 : Nat) + (ofL (itoa n)).size ≤ 9223372036854775807 by rw [ofL_size]; omega) ?_)
    (refine yk (yq rfl (zqA zI ?_)); refine And.intro (show (ofL (spc (l.take i))).size + (ofL [32] ++ ofL (itoa n)).size ≤ 9223372036854775807 by rw [sz_ofL, ofL_size]; simp; omega) ?_)
    (refine yk (yA rfl (zo_0 (zb_n (zt_n (zw_o (yP rfl (yq rfl (zqA zI ?_)))))))); refine And.intro ⟨by omega, by omega⟩ ?_)
    (refine yk (yA rfl (yT (zaf_raw ?_))); refine ⟨(i + 1), _, SLe.refl _ _, ?_⟩)
    exact ⟨by omega, by omega, ⟨rfl, av_str e, rfl, trivial⟩, trivial⟩
  · have e : i = l.length := by omega
    (refine zw_x (zt_x (zt_x (zb_h (zt_n (yS (yP rfl (yA rfl (yR zi ?_)))))))); refine And.intro ?_ trivial)
    rw [e, List.take_length]
def rulesL : List UInt8 := [114, 117, 108, 101, 115]
def classL : List UInt8 := [99, 108, 97, 115, 115, 32]
def areaL : List UInt8 := [97, 114, 101, 97]
def headB (r : Rules) : List UInt8 := rulesL ++ spc [r.clearance, r.width, r.ring, r.edge, r.holeGap] ++ [10]
def netsB (l : List ByteArray) : List UInt8 := l.flatMap fun s => 32 :: s.data.toList
def rectsB (l : List Rect) : List UInt8 := l.flatMap fun q => spc [q.x0, q.y0, q.x1, q.y1]
def classB (c : Class) : List UInt8 := classL ++ c.name.data.toList ++ spc [c.clearance, c.width] ++ netsB c.nets ++ [10]
def areaB (a : Area) : List UInt8 := areaL ++ spc [a.layer, a.clearance] ++ rectsB a.region ++ [10]
/-- the text of rules -/
def textB (r : Rules) : List UInt8 := headB r ++ r.classes.flatMap classB ++ r.areas.flatMap areaB
def textR (r : Rules) : ByteArray × Int := if rulesFault r = 0 then (if 200000 < (textB r).length then (emptyS, 2) else (ofL (textB r), 0)) else (emptyS, rulesFault r)
theorem inI_rule {n : Int} (h : isRule n = true) : inI n := by
  simp [isRule] at h
  exact ⟨by omega, by omega⟩
theorem netsB_len {l : List ByteArray} (h : ∀ s ∈ l, pathB s = true) : (netsB l).length ≤ 201 * l.length := by
  induction l with
  | nil => simp [netsB]
  | cons s l ih =>
    have h1 : (s.size : Int) ≤ 200 := by
      have := h s (by simp)
      simp [pathB] at this
      exact this.2
    have h2 := ih (fun m hm => h m (by simp [hm]))
    simp only [netsB, List.flatMap_cons, List.length_append, List.length_cons] at h2 ⊢
    have : s.data.toList.length = s.size := by simp
    omega
theorem rectsB_len {l : List Rect} (h : ∀ q ∈ l, Reg.isRect q = true) : (rectsB l).length ≤ 88 * l.length := by
  induction l with
  | nil => simp [rectsB]
  | cons q l ih =>
    have h1 := h q (by simp)
    simp [Reg.isRect, Reg.isAt] at h1
    have h2 := ih (fun m hm => h m (by simp [hm]))
    have h3 := spc_len (l := [q.x0, q.y0, q.x1, q.y1]) (fun n hn => by
      simp at hn
      unfold inI
      rcases hn with h | h | h | h <;> subst h <;> omega)
    simp only [rectsB, List.flatMap_cons, List.length_append, List.length_cons, List.length_nil] at h2 h3 ⊢
    omega
theorem region_rects {l : List Rect} (h : Reg.checkRegion l = 0) : l.length ≤ 2000 ∧ ∀ q ∈ l, Reg.isRect q = true := by
  unfold Reg.checkRegion at h
  by_cases h0 : Reg.checkRects l = 0
  · exact ⟨(Reg.rects_good h0).1, fun q hq => ((Reg.rects_good h0).2 q hq).1⟩
  · rw [if_neg h0] at h; exact absurd h h0
theorem classB_len {c : Class} (h : classGood c) (hn : strOK c.name) : (classB c).length ≤ 4295300000 := by
  obtain ⟨_, h2, h3, h4, h5⟩ := h
  have a1 := netsB_len h3
  have a2 := spc_len (l := [c.clearance, c.width]) (fun n hn => by
    simp at hn
    rcases hn with h | h <;> subst h <;> exact inI_rule (by assumption))
  have a3 : c.name.size < 4294967281 := hn
  have : c.name.data.toList.length = c.name.size := by simp
  simp only [classB, List.length_append, classL, List.length_cons, List.length_nil] at a2 ⊢
  omega
theorem areaB_len {a : Area} (h : -1 ≤ a.layer ∧ Reg.checkRegion a.region = 0 ∧ isRule a.clearance = true) (hl : a.layer ≤ 15) : (areaB a).length ≤ 200000 := by
  obtain ⟨h1, h2, h3⟩ := h
  obtain ⟨g1, g2⟩ := region_rects h2
  have a1 := rectsB_len g2
  have a2 := spc_len (l := [a.layer, a.clearance]) (fun n hn => by
    simp at hn
    rcases hn with h | h <;> subst h
    · exact ⟨by omega, by omega⟩
    · exact inI_rule h3)
  simp only [areaB, List.length_append, areaL, List.length_cons, List.length_nil] at a2 ⊢
  omega
theorem flat_len {α : Type} {f : α → List UInt8} {k : Nat} {l : List α} (h : ∀ x ∈ l, (f x).length ≤ k) : (l.flatMap f).length ≤ l.length * k := by
  induction l with
  | nil => simp
  | cons x l ih =>
    have h1 := h x (by simp)
    have h2 := ih (fun m hm => h m (by simp [hm]))
    simp only [List.flatMap_cons, List.length_append, List.length_cons, Nat.add_mul]
    omega
theorem flat_snoc {α : Type} (f : α → List UInt8) {l : List α} {i : Nat} {x : α} (h : l[i]? = some x) : (l.take (i + 1)).flatMap f = (l.take i).flatMap f ++ f x := by
  rw [take_succ' h, List.flatMap_append]; simp
theorem head_len {r : Rules} (h : numsOK r = true) : (headB r).length ≤ 200 := by
  simp [numsOK] at h
  have a2 := spc_len (l := [r.clearance, r.width, r.ring, r.edge, r.holeGap]) (fun n hn => by
    simp at hn
    rcases hn with h | h | h | h | h <;> subst h <;> exact inI_rule (by simp [h]))
  simp only [headB, List.length_append, rulesL, List.length_cons, List.length_nil] at a2 ⊢
  omega
theorem area_top {r : Rules} (h : rulesFault r = 0) : ∀ a ∈ r.areas, a.layer ≤ 15 := by
  intro a ha
  rw [rulesFault] at h
  split at h
  · split at h
    · rw [areasFault] at h
      split at h
      · cases h
      · split at h
        · rename_i h3
          obtain ⟨i, hi⟩ := List.mem_iff_getElem?.1 ha
          have := firstN_zero h3 i (Nat.zero_le _) (by have := (List.getElem?_eq_some_iff.1 hi).1; omega)
          rw [areaFault, hi] at this
          simp only at this
          split at this
          · rename_i h4
            rw [Bool.and_eq_true, decide_eq_true_eq, decide_eq_true_eq] at h4
            exact h4.2
          · cases this
        · contradiction
    · contradiction
  · cases h
def pre1 (r : Rules) (i : Nat) : List UInt8 := headB r ++ (r.classes.take i).flatMap classB
def pre2 (r : Rules) (i : Nat) : List UInt8 := headB r ++ r.classes.flatMap classB ++ (r.areas.take i).flatMap areaB
def inC (c : Class) (j : Nat) : List UInt8 := classL ++ c.name.data.toList ++ spc [c.clearance, c.width] ++ netsB (c.nets.take j)
def inA (a : Area) (j : Nat) : List UInt8 := areaL ++ spc [a.layer, a.clearance] ++ rectsB (a.region.take j)
theorem pre1_len {r : Rules} (hg : RGood r) (ho : rulesOK r) (i : Nat) (hi : i ≤ r.classes.length) : (pre1 r i).length ≤ 220000000000 := by
  have h1 := head_len hg.nums
  have h2 := flat_len (f := classB) (k := 4295300000) (l := r.classes.take i) (fun c hc => classB_len (hg.cl c (List.mem_of_mem_take hc)) (ho.1 c (List.mem_of_mem_take hc)).1)
  have h3 := hg.nc
  rw [List.length_take, Nat.min_eq_left hi] at h2
  have h4 : i * 4295300000 ≤ 50 * 4295300000 := Nat.mul_le_mul_right _ (by omega)
  simp only [pre1, List.length_append]
  omega
theorem pre1_end (r : Rules) : pre1 r r.classes.length = headB r ++ r.classes.flatMap classB := by rw [pre1, List.take_length]
theorem pre2_len {r : Rules} (hg : RGood r) (ho : rulesOK r) (hf : rulesFault r = 0) (i : Nat) (hi : i ≤ r.areas.length) : (pre2 r i).length ≤ 220010000000 := by
  have h1 := pre1_len hg ho _ (Nat.le_refl _)
  rw [pre1_end] at h1
  have h2 := flat_len (f := areaB) (k := 200000) (l := r.areas.take i) (fun c hc => areaB_len (hg.ar c (List.mem_of_mem_take hc)) (area_top hf c (List.mem_of_mem_take hc)))
  have h3 := hg.na
  rw [List.length_take, Nat.min_eq_left hi] at h2
  have h4 : i * 200000 ≤ 50 * 200000 := Nat.mul_le_mul_right _ (by omega)
  rw [List.length_append] at h1
  simp only [pre2, List.length_append]
  omega
theorem inC_len {c : Class} (h : classGood c) (hn : strOK c.name) (j : Nat) : (inC c j).length ≤ 4295300000 := by
  obtain ⟨_, h2, h3, h4, h5⟩ := h
  have a1 := netsB_len (l := c.nets.take j) (fun s hs => h3 s (List.mem_of_mem_take hs))
  have a2 := spc_len (l := [c.clearance, c.width]) (fun n hn => by
    simp at hn
    rcases hn with h | h <;> subst h <;> exact inI_rule (by assumption))
  have a3 : c.name.size < 4294967281 := hn
  have a4 : (c.nets.take j).length ≤ c.nets.length := by rw [List.length_take]; omega
  have : c.name.data.toList.length = c.name.size := by simp
  simp only [inC, List.length_append, classL, List.length_cons, List.length_nil] at a2 ⊢
  omega
theorem inA_len {a : Area} (h : -1 ≤ a.layer ∧ Reg.checkRegion a.region = 0 ∧ isRule a.clearance = true) (hl : a.layer ≤ 15) (j : Nat) : (inA a j).length ≤ 200000 := by
  obtain ⟨h1, h2, h3⟩ := h
  obtain ⟨g1, g2⟩ := region_rects h2
  have a1 := rectsB_len (l := a.region.take j) (fun q hq => g2 q (List.mem_of_mem_take hq))
  have a4 : (a.region.take j).length ≤ a.region.length := by rw [List.length_take]; omega
  have a2 := spc_len (l := [a.layer, a.clearance]) (fun n hn => by
    simp at hn
    rcases hn with h | h <;> subst h
    · exact ⟨by omega, by omega⟩
    · exact inI_rule h3)
  simp only [inA, List.length_append, areaL, List.length_cons, List.length_nil] at a2 ⊢
  omega
theorem pre1_next {r : Rules} {i : Nat} {c : Class} (h : r.classes[i]? = some c) : pre1 r i ++ inC c c.nets.length ++ [10] = pre1 r (i + 1) := by
  rw [pre1, pre1, flat_snoc _ h, inC, List.take_length]
  simp [classB]
theorem pre2_next {r : Rules} {i : Nat} {a : Area} (h : r.areas[i]? = some a) : pre2 r i ++ inA a a.region.length ++ [10] = pre2 r (i + 1) := by
  rw [pre2, pre2, flat_snoc _ h, inA, List.take_length]
  simp [areaB]
theorem inC_next {c : Class} {j : Nat} {s : ByteArray} (h : c.nets[j]? = some s) : inC c j ++ 32 :: s.data.toList = inC c (j + 1) := by
  rw [inC, inC, netsB, netsB, flat_snoc _ h]
  simp
theorem inA_next {a : Area} {j : Nat} {q : Rect} (h : a.region[j]? = some q) : inA a j ++ spc [q.x0, q.y0, q.x1, q.y1] = inA a (j + 1) := by
  rw [inA, inA, rectsB, rectsB, flat_snoc _ h]
  simp
theorem pre_end (r : Rules) : pre2 r r.areas.length = textB r := by rw [pre2, List.take_length, textB]
theorem le_of_sz {n m : Nat} (h : n ≤ m) (hm : m ≤ 9223372036854775807) : n ≤ 9223372036854775807 := Nat.le_trans h hm
set_option maxRecDepth 100000 in
set_option maxHeartbeats 2000000 in
theorem ref6_Text (r : Rules) (ho : rulesOK r) : ACalls C 9 [.pv (.ag (rl r))] (.tu [str (textR r).1, i64 (textR r).2]) [] := by
  refine fun_go hC Tryz.func9 rfl rfl 124 rfl (by decide) (by kernel_rfl) fun _ _ _ _ _ => ?_
  (refine yS (yn rfl (zq1 zI (zkns (zst_bx (yA rfl (yA rfl (yT (zw_s (yS (yP rfl (yn rfl (zqX zI ?_)))))))))))); refine ⟨_, _, (ref_checkRules r ho), ?_⟩)
  (refine zkn rfl rfl (zst_p (yA rfl (yU (yP rfl (yP rfl (yT (zw_c rfl ?_))))))); refine bcase_split (fun h1 => ?_) (fun h1 => ?_) <;> try simp only [zB] at h1)
  · (refine yS (yP rfl (yA rfl (yA rfl (yT (zw_r (zt_r (ze_r zi ?_))))))); refine And.intro ?_ trivial)
    have h1 : ¬ rulesFault r = 0 := by simpa using h1
    rw [textR, if_neg h1]; rfl
  · have h1 : rulesFault r = 0 := by simpa using h1
    have hg := rules_good h1
    rw [textR, if_pos h1]
    have hh := head_len hg.nums
    have hn := hg.nums
    simp [numsOK] at hn
    have hs5 : ∀ n ∈ [r.clearance, r.width, r.ring, r.edge, r.holeGap], inI n := fun n hm => by
      simp at hm
      rcases hm with h | h | h | h | h <;> subst h <;> exact inI_rule (by simp [hn])
    have z5 := spc_len hs5
    have e0 : (⟨#[114, 117, 108, 101, 115]⟩ : ByteArray) ++ ofL (spc [r.clearance, r.width, r.ring, r.edge, r.holeGap]) ++ ⟨#[10]⟩ = ofL (pre1 r 0) := by
      rw [nl_ofL, show (⟨#[114, 117, 108, 101, 115]⟩ : ByteArray) = ofL rulesL from rfl, ofL_app, ofL_app]
      simp [pre1, headB]
    simp only [List.length_cons, List.length_nil] at z5
    have lc := len_map r.classes kl
    have la := len_map r.areas arr
    have n1 := hg.nc
    have n2 := hg.na
    ((refine zw_k (zt_n (yS (yV rfl (yP rfl (yV rfl (yP rfl (yV rfl (yP rfl (yV rfl (yP rfl (yV rfl (yP rfl (yn rfl ?_))))))))))))); refine zq1 zI (zkns (zst_ow (yn rfl (zqX zI ?_))))); refine ⟨_, _, (ref6_spaced [r.clearance, r.width, r.ring, r.edge, r.holeGap] (by simp) hs5), ?_⟩)
    (refine zkn rfl rfl (zst_p (yq rfl (zqA zI ?_))); refine And.intro (show (5 : Nat) + (ofL (spc [r.clearance, r.width, r.ring, r.edge, r.holeGap])).size ≤ 9223372036854775807 by rw [ofL_size]; omega) ?_)
    (refine yk (yq rfl (zqA zI ?_)); refine And.intro (show (ofL rulesL ++ ofL (spc [r.clearance, r.width, r.ring, r.edge, r.holeGap])).size + 1 ≤ 9223372036854775807 by rw [sz_ofL, show rulesL.length = 5 from rfl]; omega) ?_)
    refine yk (yA rfl (yT (zw_s (yS (yA rfl (yT (zw_b ?_)))))))
    refine loop_ok' (fun i : Nat => i ≤ r.classes.length) (fun i => [(1, .bx 1 0), (5, .p (str (ofL (pre1 r i)))), (6, .p (i64 i))]) (fun _ => [(1, .box (rbox r))]) (fun i => r.classes.length - i) 0 _ (SLe.refl _ _) (Nat.zero_le _) ⟨rfl, av_str e0, rfl, trivial⟩ ⟨rfl, trivial⟩ fun i hi t h => ?_
    (refine zw_s (yS (yP rfl (yV rfl (yP rfl (yP rfl (yP rfl (yT (zw_c rfl ?_)))))))); refine bcase_split (fun h2 => ?_) (fun h2 => ?_) <;> try simp only [zB] at h2)
    · obtain ⟨c, hc⟩ := get_of (l := r.classes) (i := i) (by omega)
      have cm := List.mem_of_getElem? hc
      have c1 := hg.cl c cm
      have c0 : c.name.size < 4294967281 := (ho.1 c cm).1
      have p1 := pre1_len hg ho i hi
      have q1 := fun j => inC_len c1 c0 j
      have hs2 : ∀ n ∈ [c.clearance, c.width], inI n := fun n hm => by
        simp at hm
        rcases hm with h | h <;> subst h
        · exact inI_rule c1.2.2.2.1
        · exact inI_rule c1.2.2.2.2
      have z2 := spc_len hs2
      simp only [List.length_cons, List.length_nil] at z2
      have ln := len_map c.nets fun s => [str s]
      have e1 : ofL (pre1 r i) ++ ((⟨#[99, 108, 97, 115, 115, 32]⟩ : ByteArray) ++ c.name ++ ofL (spc [c.clearance, c.width])) = ofL (pre1 r i ++ inC c 0) := by
        rw [show (⟨#[99, 108, 97, 115, 115, 32]⟩ : ByteArray) = ofL classL from rfl, show c.name = ofL c.name.data.toList from to_ofL _, ofL_app, ofL_app, ofL_app]
        simp [inC, netsB, ofL]
      (refine zw_k (zt_n (zw_s (zw_b (yS (yV rfl (yP rfl (yP rfl (yq rfl (zqX zI ?_))))))))); refine ⟨(kl c), (idx rfl hc), ?_⟩)
      ((refine yk (yP rfl (yn rfl (zq1 zI (zkns (zst_bx (yq rfl (zq1 zI (zkq (zst_e (zst_0 (yT (zw_s (zw_d false [true, true, true, true, true, true, true, true, true, true, true, true, true] rfl (by kernel_rfl) ?_))))))))))))); refine zp_s rfl (zp_s rfl (zp_s rfl (zp_s rfl (zp_s rfl (zp_s rfl (zp_s rfl (zp_s rfl (zp_n rfl rfl (zp_n rfl rfl (zp_q rfl (yD rfl (yW rfl (yD rfl ?_))))))))))))); refine dq rfl (zqA zI ?_)); refine And.intro (show (6 : Nat) + c.name.size ≤ 9223372036854775807 by omega) ?_)
      (refine zkd (zst_p (yW rfl (yD rfl (yW rfl (yD rfl (dq rfl (zq1 zI (zkdn rfl rfl (zst_ow (dq rfl (zqX zI ?_))))))))))); refine ⟨_, _, (ref6_spaced [c.clearance, c.width] (by simp) hs2), ?_⟩)
      (refine zkd (zst_p (dq rfl (zqA zI ?_))); refine And.intro (show (ofL classL ++ c.name).size + (ofL (spc [c.clearance, c.width])).size ≤ 9223372036854775807 by rw [ByteArray.size_append, ofL_size, ofL_size, show classL.length = 6 from rfl]; omega) ?_)
      (refine zkd (zst_p (dq rfl (zqA zI ?_))); refine And.intro (show (ofL (pre1 r i)).size + (ofL classL ++ c.name ++ ofL (spc [c.clearance, c.width])).size ≤ 9223372036854775807 by rw [ByteArray.size_append, ByteArray.size_append, ofL_size, ofL_size, ofL_size, show classL.length = 6 from rfl]; omega) ?_)
      (refine zkd (zst_p (yD rfl (zd_0 (zr_s rfl (zr_s rfl (zr_s rfl (zr_s rfl (zr_s rfl (zr_s rfl (zr_s rfl (zr_s rfl (zr_s rfl (zr_s rfl ?_))))))))))))); refine zr_s rfl (zr_s rfl (zr_k rfl rfl (zr_q rfl (zt_n (zw_s (yS (yA rfl (yT (zw_b ?_))))))))))
      refine loop_ok' (fun j : Nat => j ≤ c.nets.length) (fun j => [(1, .bx 1 0), (5, .p (str (ofL (pre1 r i ++ inC c j)))), (6, .p (i64 i)), (7, .bx 7 0), (8, .p (i64 j))]) (fun _ => [(1, .box (rbox r)), (7, .box [.p (str c.name), .p (strs c.nets), .p (i64 c.clearance), .p (i64 c.width)])]) (fun j => c.nets.length - j) 0 _ (SLe.refl _ _) (Nat.zero_le _) ⟨rfl, av_str e1, rfl, rfl, rfl, trivial⟩ ⟨rfl, rfl, trivial⟩ fun j hj t h => ?_
      have q2 := q1 j
      have n3 := c1.2.1
      (refine zw_s (yS (yP rfl (yV rfl (yP rfl (yP rfl (yP rfl (yT (zw_c rfl ?_)))))))); refine bcase_split (fun h3 => ?_) (fun h3 => ?_) <;> try simp only [zB] at h3)
      · obtain ⟨y, hy⟩ := get_of (l := c.nets) (i := j) (by omega)
        have y1 : (y.size : Int) ≤ 200 := by
          have := c1.2.2.1 y (List.mem_of_getElem? hy)
          simp [pathB] at this
          exact this.2
        have e2 : ofL (pre1 r i ++ inC c j) ++ ((⟨#[32]⟩ : ByteArray) ++ y) = ofL (pre1 r i ++ inC c (j + 1)) := by
          rw [blank_ofL, show y = ofL y.data.toList from to_ofL _, ofL_app, ofL_app, ← inC_next hy]
          simp [ofL]
        (refine zw_k (zt_n (zw_s (zw_b (zw_o (yP rfl (yV rfl (yP rfl (yP rfl (yq rfl (zqX zI ?_)))))))))); refine ⟨[str y], (idx rfl hy), ?_⟩)
        (refine yk (yP rfl (yq rfl (zqA zI ?_))); refine And.intro (show (1 : Nat) + y.size ≤ 9223372036854775807 from le_of_sz (m := 1000) (by clear h1 hh hn hs5 z5 e0 e1; omega) (by decide)) ?_)
        (refine yk (yq rfl (zqA zI ?_)); refine And.intro (show (ofL (pre1 r i ++ inC c j)).size + (ofL [32] ++ y).size ≤ 9223372036854775807 by rw [ByteArray.size_append, ofL_size, ofL_size, List.length_append, show ([32] : List UInt8).length = 1 from rfl]; omega) ?_)
        (refine yk (yA rfl (zo_0 (zb_n (zt_n (zw_o (yP rfl (yq rfl (zqA zI ?_)))))))); refine And.intro ⟨by omega, by omega⟩ ?_)
        (refine yk (yA rfl (yT (zaf_raw ?_))); refine ⟨(j + 1), _, SLe.refl _ _, ?_⟩)
        exact ⟨by omega, by omega, ⟨rfl, av_str e2, rfl, rfl, rfl, trivial⟩, ⟨rfl, rfl, trivial⟩⟩
      · have e : j = c.nets.length := by omega
        subst e
        have e3 : ofL (pre1 r i ++ inC c c.nets.length) ++ (⟨#[10]⟩ : ByteArray) = ofL (pre1 r (i + 1)) := by
          rw [nl_ofL, ofL_app, pre1_next hc]
        (refine zw_x (zt_x (zt_x (zb_h (zt_n (zw_o (yP rfl (yq rfl (zqA zI ?_)))))))); refine And.intro (show (ofL (pre1 r i ++ inC c c.nets.length)).size + 1 ≤ 9223372036854775807 by rw [ofL_size, List.length_append]; omega) ?_)
        (refine yk (yA rfl (zo_0 (zb_n (zt_n (zw_o (yP rfl (yq rfl (zqA zI ?_)))))))); refine And.intro ⟨by omega, by omega⟩ ?_)
        (refine yk (yA rfl (yT (zaf_raw ?_))); refine ⟨(i + 1), _, SLe.refl _ _, ?_⟩)
        exact ⟨by omega, by omega, ⟨rfl, av_str e3, rfl, trivial⟩, ⟨rfl, trivial⟩⟩
    · have e : i = r.classes.length := by omega
      subst e
      have e4 : ofL (pre1 r r.classes.length) = ofL (pre2 r 0) := by rw [pre1_end, pre2]; simp
      refine zw_x (zt_x (zt_x (zb_h (zt_n (zw_s (yS (yA rfl (yT (zw_b ?_)))))))))
      refine loop_ok' (fun i : Nat => i ≤ r.areas.length) (fun i => [(1, .bx 1 0), (5, .p (str (ofL (pre2 r i)))), (9, .p (i64 i))]) (fun _ => [(1, .box (rbox r))]) (fun i => r.areas.length - i) 0 _ (SLe.refl _ _) (Nat.zero_le _) ⟨rfl, av_str e4, rfl, trivial⟩ ⟨rfl, trivial⟩ fun i hi t h => ?_
      have p2 := pre2_len hg ho h1 i hi
      (refine zw_s (yS (yP rfl (yV rfl (yP rfl (yP rfl (yP rfl (yT (zw_c rfl ?_)))))))); refine bcase_split (fun h3 => ?_) (fun h3 => ?_) <;> try simp only [zB] at h3)
      · obtain ⟨a, ha⟩ := get_of (l := r.areas) (i := i) (by omega)
        have am' := List.mem_of_getElem? ha
        have a1 := hg.ar a am'
        have a2 := area_top h1 a am'
        have q1 := fun j => inA_len a1 a2 j
        obtain ⟨g1, g2⟩ := region_rects a1.2.1
        have hs2 : ∀ n ∈ [a.layer, a.clearance], inI n := fun n hm => by
          simp at hm
          rcases hm with h | h <;> subst h
          · exact ⟨by omega, by omega⟩
          · exact inI_rule a1.2.2
        have z2 := spc_len hs2
        simp only [List.length_cons, List.length_nil] at z2
        have ln := len_map a.region rc
        have e1 : ofL (pre2 r i) ++ ((⟨#[97, 114, 101, 97]⟩ : ByteArray) ++ ofL (spc [a.layer, a.clearance])) = ofL (pre2 r i ++ inA a 0) := by
          rw [show (⟨#[97, 114, 101, 97]⟩ : ByteArray) = ofL areaL from rfl, ofL_app, ofL_app]
          simp [inA, rectsB]
        (refine zw_k (zt_n (zw_s (zw_b (yS (yV rfl (yP rfl (yP rfl (yq rfl (zqX zI ?_))))))))); refine ⟨(arr a), (idx rfl ha), ?_⟩)
        ((refine yk (yP rfl (yn rfl (zq1 zI (zkns (zst_bx (yq rfl (zq1 zI (zkq (zst_e (zst_0 (yU (yP rfl (yV rfl ?_))))))))))))); refine yP rfl (yV rfl (yP rfl (yn rfl (zq1 zI (zkns (zst_ow (yn rfl (zqX zI ?_))))))))); refine ⟨_, _, (ref6_spaced [a.layer, a.clearance] (by simp) hs2), ?_⟩)
        (refine zkn rfl rfl (zst_p (yq rfl (zqA zI ?_))); refine And.intro (show (4 : Nat) + (ofL (spc [a.layer, a.clearance])).size ≤ 9223372036854775807 by rw [ofL_size]; omega) ?_)
        (refine yk (yq rfl (zqA zI ?_)); refine And.intro (show (ofL (pre2 r i)).size + (ofL areaL ++ ofL (spc [a.layer, a.clearance])).size ≤ 9223372036854775807 by rw [sz_ofL, ofL_size, show areaL.length = 4 from rfl]; omega) ?_)
        refine yk (yA rfl (yT (zw_s (yS (yA rfl (yT (zw_b ?_)))))))
        refine loop_ok' (fun j : Nat => j ≤ a.region.length) (fun j => [(1, .bx 1 0), (5, .p (str (ofL (pre2 r i ++ inA a j)))), (9, .p (i64 i)), (10, .bx 10 0), (11, .p (i64 j))]) (fun _ => [(1, .box (rbox r)), (10, .box [.p (i64 a.layer), .p (rects a.region), .p (i64 a.clearance)])]) (fun j => a.region.length - j) 0 _ (SLe.refl _ _) (Nat.zero_le _) ⟨rfl, av_str e1, rfl, rfl, rfl, trivial⟩ ⟨rfl, rfl, trivial⟩ fun j hj t h => ?_
        have q2 := q1 j
        (refine zw_s (yS (yP rfl (yV rfl (yP rfl (yP rfl (yP rfl (yT (zw_c rfl ?_)))))))); refine bcase_split (fun h4 => ?_) (fun h4 => ?_) <;> try simp only [zB] at h4)
        · obtain ⟨q, hq⟩ := get_of (l := a.region) (i := j) (by omega)
          have qm := g2 q (List.mem_of_getElem? hq)
          have hs4 : ∀ n ∈ [q.x0, q.y0, q.x1, q.y1], inI n := fun n hm => by
            simp [Reg.isRect, Reg.isAt] at qm
            simp at hm
            unfold inI
            rcases hm with h | h | h | h <;> subst h <;> omega
          have z4 := spc_len hs4
          simp only [List.length_cons, List.length_nil] at z4
          have e2 : ofL (pre2 r i ++ inA a j) ++ ofL (spc [q.x0, q.y0, q.x1, q.y1]) = ofL (pre2 r i ++ inA a (j + 1)) := by
            rw [ofL_app, ← inA_next hq]
            simp
          (refine zw_k (zt_n (zw_s (zw_b (yS (yV rfl (yP rfl (yP rfl (yq rfl (zqX zI ?_))))))))); refine ⟨(rc q), (idx rfl hq), ?_⟩)
          ((refine yk (yP rfl (yn rfl (zq1 zI (zkns (zst_bx (yq rfl (zq1 zI (zkq (zst_e (zst_0 (yT (zw_o (yP rfl ?_))))))))))))); refine yV rfl (yP rfl (yV rfl (yP rfl (yV rfl (yP rfl (yV rfl (yP rfl (yn rfl (zq1 zI (zkns (zst_ow (yn rfl (zqX zI ?_)))))))))))))); refine ⟨_, _, (ref6_spaced [q.x0, q.y0, q.x1, q.y1] (by simp) hs4), ?_⟩)
          (refine zkn rfl rfl (zst_p (yq rfl (zqA zI ?_))); refine And.intro (show (ofL (pre2 r i ++ inA a j)).size + (ofL (spc [q.x0, q.y0, q.x1, q.y1])).size ≤ 9223372036854775807 by rw [ofL_size, ofL_size, List.length_append]; omega) ?_)
          (refine yk (yA rfl (zo_0 (zb_n (zt_n (zw_o (yP rfl (yq rfl (zqA zI ?_)))))))); refine And.intro ⟨by omega, by omega⟩ ?_)
          (refine yk (yA rfl (yT (zaf_raw ?_))); refine ⟨(j + 1), _, SLe.refl _ _, ?_⟩)
          exact ⟨by omega, by omega, ⟨rfl, av_str e2, rfl, rfl, rfl, trivial⟩, ⟨rfl, rfl, trivial⟩⟩
        · have e : j = a.region.length := by omega
          subst e
          have e3 : ofL (pre2 r i ++ inA a a.region.length) ++ (⟨#[10]⟩ : ByteArray) = ofL (pre2 r (i + 1)) := by
            rw [nl_ofL, ofL_app, pre2_next ha]
          (refine zw_x (zt_x (zt_x (zb_h (zt_n (zw_o (yP rfl (yq rfl (zqA zI ?_)))))))); refine And.intro (show (ofL (pre2 r i ++ inA a a.region.length)).size + 1 ≤ 9223372036854775807 by rw [ofL_size, List.length_append]; omega) ?_)
          (refine yk (yA rfl (zo_0 (zb_n (zt_n (zw_o (yP rfl (yq rfl (zqA zI ?_)))))))); refine And.intro ⟨by omega, by omega⟩ ?_)
          (refine yk (yA rfl (yT (zaf_raw ?_))); refine ⟨(i + 1), _, SLe.refl _ _, ?_⟩)
          exact ⟨by omega, by omega, ⟨rfl, av_str e3, rfl, trivial⟩, ⟨rfl, trivial⟩⟩
      · have e : i = r.areas.length := by omega
        subst e
        have sz : (ofL (pre2 r r.areas.length)).size = (textB r).length := by rw [ofL_size, pre_end]
        (refine zw_x (zt_x (zt_x (zb_h (zt_n (zw_s (yS (yP rfl (yP rfl (yP rfl (yT (zw_c rfl ?_))))))))))); refine bcase_split (fun h4 => ?_) (fun h4 => ?_) <;> try simp only [zB] at h4)
        · rw [sz] at h4
          rw [if_pos (by omega)]
          (refine yS (yA rfl (yA rfl (yT (zw_r (zt_r (ze_r zi ?_)))))); refine And.intro ?_ trivial)
          rfl
        · rw [sz] at h4
          rw [if_neg (by omega)]
          (refine zw_k (zt_n (yS (yP rfl (yA rfl (yA rfl (yR zi ?_)))))); refine And.intro ?_ trivial)
          rw [pre_end]
          rfl
end Go.Proofs.YtcfhiodoogkcpaaGreatDoor.M
