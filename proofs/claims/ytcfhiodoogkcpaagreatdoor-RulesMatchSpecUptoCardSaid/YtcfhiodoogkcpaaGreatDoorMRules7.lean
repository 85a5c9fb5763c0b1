/- By the machine: what two nets need, of the house. -/
import Derived.Test.YtcfhiodoogkcpaaGreatDoorMRules6
set_option linter.unusedSimpArgs false
set_option linter.unusedVariables false
namespace Go.Proofs.YtcfhiodoogkcpaaGreatDoor.M
open Go.AM Go.RowKit Go.Lib
open Reg (Rect Spans Band)

theorem bytesLess_tri : ∀ a b : List UInt8, Op.bytesLess a b = true ∨ a = b ∨ Op.bytesLess b a = true
  | [], [] => .inr (.inl rfl)
  | [], y :: ys => .inl rfl
  | x :: xs, [] => .inr (.inr rfl)
  | x :: xs, y :: ys => by
    rw [bytesLess_eq, bytesLess_eq]
    simp only [decide_eq_true_eq, List.cons_lt_cons_iff]
    have ih := bytesLess_tri xs ys
    rw [bytesLess_eq, bytesLess_eq] at ih
    simp only [decide_eq_true_eq] at ih
    rcases Nat.lt_trichotomy x.toNat y.toNat with h | h | h
    · exact .inl (.inl (UInt8.lt_iff_toNat_lt.2 h))
    · have e : x = y := UInt8.toNat_inj.1 h
      subst e
      rcases ih with h | h | h
      · exact .inl (.inr ⟨rfl, h⟩)
      · exact .inr (.inl (by rw [h]))
      · exact .inr (.inr (.inr ⟨rfl, h⟩))
    · exact .inr (.inr (.inl (UInt8.lt_iff_toNat_lt.2 h)))
theorem ltS_of_not {a b : ByteArray} (h : (ltS a b || decide (a = b)) = false) : ltS b a = true := by
  rw [Bool.or_eq_false_iff] at h
  rcases bytesLess_tri a.data.toList b.data.toList with h1 | h1 | h1
  · rw [ltS, h1] at h; cases h.1
  · have : a = b := by
      cases a with | mk a => cases b with | mk b =>
      simp only at h1
      rw [Array.toList_inj.1 h1]
    exact absurd this (of_decide_eq_false h.2)
  · exact h1
theorem sorted_of_steps {l : List ByteArray} (h : ∀ (j : Nat) a b, l[j]? = some a → l[j + 1]? = some b → ltS a b = true) : SortedS l := by
  have key : ∀ (d i : Nat) a b, l[i]? = some a → l[i + 1 + d]? = some b → ltS a b = true := fun d => by
    induction d with
    | zero => intro i a b ha hb; exact h i a b ha hb
    | succ d ih =>
      intro i a b ha hb
      have hl := (List.getElem?_eq_some_iff.1 hb).1
      obtain ⟨c, hc⟩ := get_of (l := l) (i := i + 1 + d) (by omega)
      exact ltS_trans (ih i a c ha hc) (h _ c b hc hb)
  refine List.pairwise_iff_getElem.2 fun i j hi hj hij => ?_
  exact key (j - i - 1) i _ _ (List.getElem?_eq_getElem hi) (by rw [show i + 1 + (j - i - 1) = j by omega]; exact List.getElem?_eq_getElem hj)
theorem firstN_zero {f : Nat → Int} : ∀ {n i : Nat}, firstN f i n = 0 → ∀ k, i ≤ k → k < i + n → f k = 0
  | 0, i, _, k, h1, h2 => by omega
  | n + 1, i, h, k, h1, h2 => by
    rw [firstN] at h
    split at h
    · by_cases e : k = i
      · subst e; assumption
      · exact firstN_zero h k (by omega) (by omega)
    · contradiction
/-- what CheckRules has said of a class -/
def classGood (c : Class) : Prop := SortedS c.nets ∧ c.nets.length ≤ 1000 ∧ (∀ y ∈ c.nets, pathB y = true) ∧ isRule c.clearance = true ∧ isRule c.width = true
theorem net_zero {cs : List Class} {i : Nat} {l : List ByteArray} {j : Nat} {y : ByteArray} (h : netFault cs i l j = 0) (hy : l[j]? = some y) : pathB y = true ∧ backAt l j = false := by
  rw [netFault, hy] at h
  simp only at h
  split at h
  · split at h
    · cases h
    · exact ⟨by assumption, by simpa using ‹¬ backAt l j = true›⟩
  · cases h
theorem class_good {cs : List Class} {i : Nat} {c : Class} (h : classFault cs i = 0) (hc : cs[i]? = some c) : classGood c := by
  rw [classFault, hc] at h
  simp only at h
  split at h
  · split at h
    · cases h
    · split at h
      · rename_i h0
        have hz := firstN_zero h0
        split at h
        · rename_i h2
          rw [Bool.and_eq_true] at h2
          refine ⟨sorted_of_steps fun j a b ha hb => ?_, by omega, fun y hy => ?_, h2.1, h2.2⟩
          · have hl := (List.getElem?_eq_some_iff.1 hb).1
            have := (net_zero (hz (j + 1) (Nat.zero_le _) (by omega)) hb).2
            rw [backAt, hb, Nat.add_sub_cancel, ha] at this
            simp only at this
            rw [decide_eq_true (by omega : 0 < j + 1), Bool.true_and] at this
            exact ltS_of_not this
          · obtain ⟨j, hj⟩ := List.mem_iff_getElem?.1 hy
            exact (net_zero (hz j (Nat.zero_le _) (by have := (List.getElem?_eq_some_iff.1 hj).1; omega)) hj).1
        · cases h
      · contradiction
  · cases h
/-- what CheckRules has said of rules -/
structure RGood (r : Rules) : Prop where
  cl : ∀ c ∈ r.classes, classGood c
  nc : r.classes.length ≤ 50
  na : r.areas.length ≤ 50
  ar : ∀ a ∈ r.areas, -1 ≤ a.layer ∧ Reg.checkRegion a.region = 0 ∧ isRule a.clearance = true
  nums : numsOK r = true
theorem rules_good {r : Rules} (h : rulesFault r = 0) : RGood r := by
  rw [rulesFault] at h
  split at h
  · rename_i h1
    split at h
    · rename_i h2
      rw [classesFault] at h2
      split at h2
      · cases h2
      · rw [areasFault] at h
        split at h
        · cases h
        · split at h
          · rename_i h3
            refine ⟨fun c hc => ?_, by omega, by omega, fun a ha => ?_, h1⟩
            · obtain ⟨i, hi⟩ := List.mem_iff_getElem?.1 hc
              exact class_good (firstN_zero h2 i (Nat.zero_le _) (by have := (List.getElem?_eq_some_iff.1 hi).1; omega)) hi
            · obtain ⟨i, hi⟩ := List.mem_iff_getElem?.1 ha
              have := firstN_zero h3 i (Nat.zero_le _) (by have := (List.getElem?_eq_some_iff.1 hi).1; omega)
              rw [areaFault, hi] at this
              simp only at this
              split at this
              · rename_i h4
                rw [Bool.and_eq_true, decide_eq_true_eq] at h4
                split at this
                · split at this
                  · exact ⟨h4.1, by assumption, by assumption⟩
                  · cases this
                · contradiction
              · cases this
          · contradiction
    · contradiction
  · cases h
def noClass : Class := ⟨emptyS, [], 0, 0⟩
/-- the class of a net -/
def classFor (cs : List Class) (x : ByteArray) : Class := (cs.find? fun c => hasB c.nets x && !decide (x = emptyS)).getD noClass
theorem find_at {α : Type} {p : α → Bool} {l : List α} {i : Nat} {x : α} (hx : l[i]? = some x) (hp : p x = true) (h : ∀ y ∈ l.take i, p y = false) : l.find? p = some x := by
  rw [← List.take_append_drop i l, List.find?_append, List.find?_eq_none.2 (fun y hy => by rw [h y hy]; decide), Option.none_or]
  have : l.drop i = x :: l.drop (i + 1) := by
    obtain ⟨hi, rfl⟩ := List.getElem?_eq_some_iff.1 hx
    exact List.drop_eq_getElem_cons hi
  rw [this, List.find?_cons, hp]
set_option maxRecDepth 100000 in
set_option maxHeartbeats 1000000 in
theorem house_classOf (r : Rules) (hg : RGood r) (x : ByteArray) : ACalls C 73 [.pv (.ag (rl r)), .pv (str x)] (.p (.ag (kl (classFor r.classes x)))) [] := by
  refine fun_go hC Tryz.func73 rfl rfl 31 rfl (by decide) (by kernel_rfl) fun _ _ _ _ _ => ?_
  have lm := len_map r.classes kl
  have nc := hg.nc
  (refine yS (yn rfl (zq1 zI (zkns (zst_bx (yn rfl (zq1 zI (zkns (zst_bx (yT (zw_s (yS (yV rfl (yP rfl ?_))))))))))))); refine yP rfl (yP rfl (yT (zw_b ?_))))
  refine loop_ok' (fun i : Nat => i ≤ r.classes.length ∧ ∀ c ∈ r.classes.take i, (hasB c.nets x && !decide (x = emptyS)) = false) (fun i => [(1, .p (str x)), (4, .bx 4 0), (10, .p (.sl (r.classes.map kl))), (11, .p (i64 (r.classes.map kl).length)), (12, .p (i64 i))]) (fun _ => [(4, .box [.p (str emptyS), .nl, .p (i64 0), .p (i64 0)])]) (fun i => r.classes.length - i) 0 _ (SLe.refl _ _) ⟨Nat.zero_le _, by simp⟩ ⟨rfl, rfl, rfl, rfl, rfl, trivial⟩ ⟨rfl, trivial⟩ fun i hi t h => ?_
  obtain ⟨q1, q2⟩ := hi
  (refine yS (yP rfl (yT (zw_s (zw_c rfl ?_)))); refine bcase_split (fun h1 => ?_) (fun h1 => ?_) <;> try simp only [zB] at h1)
  · obtain ⟨c, hc⟩ := get_of (l := r.classes) (i := i) (by omega)
    obtain ⟨c1, c2, c3, c4, c5⟩ := hg.cl c (List.mem_of_getElem? hc)
    (refine zw_k (zt_n (zw_s (zw_b (yS (yq rfl (zqX zI ?_)))))); refine ⟨(kl c), (idx rfl hc), ?_⟩)
    ((refine yk (yP rfl (yn rfl (zq1 zI (zkns (zst_bx (yq rfl (zq1 zI (zkq (zst_e (zst_0 (yU (yV rfl (yP rfl ?_))))))))))))); refine yP rfl (yn rfl (zqX zI ?_))); refine ⟨_, _, (binarySearch c.nets x c1 (by omega)), ?_⟩)
    have round : (hasB c.nets x && !decide (x = emptyS)) = false → ∀ d ∈ r.classes.take (i + 1), (hasB d.nets x && !decide (x = emptyS)) = false := fun hb d hd => by
      rw [take_succ' hc, List.mem_append, List.mem_singleton] at hd
      rcases hd with hd | hd
      · exact q2 d hd
      · rw [hd]; exact hb
    (refine zkn rfl rfl (zst_tu (yq rfl (zq1 zI (zkq (zst_tu (yP rfl (yP rfl (yA rfl (yA rfl (yU (yP rfl (yP rfl (yg rfl ?_))))))))))))); refine bcase_split (fun h2 => ?_) (fun h2 => ?_) <;> try simp only [zB] at h2)
    · (refine zg_t (zs_q rfl rfl (zq1 zI (yk (y1 rfl (yP rfl (yT (zw_c rfl ?_))))))); refine bcase_split (fun h3 => ?_) (fun h3 => ?_) <;> try simp only [zB] at h3)
      · have h3 : ¬ x = emptyS := h3
        ((refine yS (yP rfl (yq rfl (zq1 zI (zkq (zst_e (zst_0 (yT (zw_r (zb_r (zt_r (zt_r (zb_r (zt_r ?_))))))))))))); refine ze_r zi ?_); refine And.intro ?_ trivial)
        rw [classFor, find_at hc (by rw [h2, decide_eq_false h3]; rfl) q2]
        rfl
      · have h3 : x = emptyS := by simpa [emptyS] using h3
        (refine zw_k (zb_n (zt_n (zw_o (yq rfl (zqA zI ?_))))); refine And.intro ⟨by omega, by omega⟩ ?_)
        (refine yk (yP rfl (yT (zaf_raw ?_))); refine ⟨(i + 1), _, SLe.refl _ _, ?_⟩)
        exact ⟨⟨by omega, round (by rw [decide_eq_true h3]; simp)⟩, by omega, ⟨rfl, rfl, rfl, rfl, rfl, trivial⟩, ⟨rfl, trivial⟩⟩
    · (refine zg_f (zst_p (y0 rfl (yP rfl (yT (zw_c rfl (zc_f (zw_k (zb_n (zt_n (zw_o (yq rfl (zqA zI ?_)))))))))))); refine And.intro ⟨by omega, by omega⟩ ?_)
      (refine yk (yP rfl (yT (zaf_raw ?_))); refine ⟨(i + 1), _, SLe.refl _ _, ?_⟩)
      exact ⟨⟨by omega, round (by rw [h2]; rfl)⟩, by omega, ⟨rfl, rfl, rfl, rfl, rfl, trivial⟩, ⟨rfl, trivial⟩⟩
  · have e : i = r.classes.length := by omega
    (refine zw_x (zt_x (zt_x (zb_h (zt_n (yS (yP rfl (yq rfl (zq1 zI (zkq (zst_e (zst_0 (yR zi ?_)))))))))))); refine And.intro ?_ trivial)
    rw [e, List.take_length] at q2
    rw [classFor, List.find?_eq_none.2 (fun y hy => by rw [q2 y hy]; decide)]
    rfl
def clearFor (r : Rules) (x : ByteArray) : Int := if 0 < (classFor r.classes x).clearance then (classFor r.classes x).clearance else r.clearance
def widthFor (r : Rules) (x : ByteArray) : Int := if 0 < (classFor r.classes x).width then (classFor r.classes x).width else r.width
theorem house_clearance (r : Rules) (hg : RGood r) (x : ByteArray) : ACalls C 69 [.pv (.ag (rl r)), .pv (str x)] (.p (i64 (clearFor r x))) [] := by
  refine fun_go hC Tryz.func69 rfl rfl 15 rfl (by decide) (by kernel_rfl) fun _ _ _ _ _ => ?_
  (refine yS (yn rfl (zq1 zI (zkns (zst_bx (yA rfl (yT (zw_s (yS (yP rfl (yP rfl (yn rfl (zqX zI ?_)))))))))))); refine ⟨_, _, (house_classOf r hg x), ?_⟩)
  (refine zkn rfl rfl (zst_p (yP rfl (yA rfl (yU (yP rfl (yP rfl (yT (zw_c rfl ?_)))))))); refine bcase_split (fun h1 => ?_) (fun h1 => ?_) <;> try simp only [zB] at h1)
  · (refine yS (yP rfl (yA rfl (yT (zw_r (zt_r (ze_r zi ?_)))))); refine And.intro ?_ trivial)
    rw [clearFor, if_pos h1]
  · (refine zw_k (zt_n (yS (yV rfl (yP rfl (yA rfl (yR zi ?_)))))); refine And.intro ?_ trivial)
    rw [clearFor, if_neg h1]
theorem house_width (r : Rules) (hg : RGood r) (x : ByteArray) : ACalls C 43 [.pv (.ag (rl r)), .pv (str x)] (.p (i64 (widthFor r x))) [] := by
  refine fun_go hC Tryz.func43 rfl rfl 15 rfl (by decide) (by kernel_rfl) fun _ _ _ _ _ => ?_
  (refine yS (yn rfl (zq1 zI (zkns (zst_bx (yA rfl (yT (zw_s (yS (yP rfl (yP rfl (yn rfl (zqX zI ?_)))))))))))); refine ⟨_, _, (house_classOf r hg x), ?_⟩)
  (refine zkn rfl rfl (zst_p (yP rfl (yA rfl (yU (yP rfl (yP rfl (yT (zw_c rfl ?_)))))))); refine bcase_split (fun h1 => ?_) (fun h1 => ?_) <;> try simp only [zB] at h1)
  · (refine yS (yP rfl (yA rfl (yT (zw_r (zt_r (ze_r zi ?_)))))); refine And.intro ?_ trivial)
    rw [widthFor, if_pos h1]
  · (refine zw_k (zt_n (yS (yV rfl (yP rfl (yA rfl (yR zi ?_)))))); refine And.intro ?_ trivial)
    rw [widthFor, if_neg h1]
def meets (layer x y : Int) (a : Area) : Bool := onB a layer && a.region.any (inR x y)
/-- the most that areas ask; −1: none -/
def mostOf (layer x y : Int) : List Area → Int → Int
  | [], m => m
  | a :: l, m => mostOf layer x y l (if meets layer x y a = true then max m a.clearance else m)
theorem mostOf_app (layer x y : Int) : ∀ (l r : List Area) (m : Int), mostOf layer x y (l ++ r) m = mostOf layer x y r (mostOf layer x y l m)
  | [], _, _ => rfl
  | _ :: l, r, _ => mostOf_app layer x y l r _
def needFor (r : Rules) (a b : ByteArray) (layer x y : Int) : Int := if 0 ≤ mostOf layer x y r.areas (-1) then mostOf layer x y r.areas (-1) else max (clearFor r a) (clearFor r b)
set_option maxRecDepth 100000 in
set_option maxHeartbeats 1000000 in
theorem house_needs (r : Rules) (hg : RGood r) (a b : ByteArray) (layer x y : Int) : ACalls C 39 [.pv (.ag (rl r)), .pv (str a), .pv (str b), .pv (i64 layer), .pv (.ag [i64 x, i64 y])] (.p (i64 (needFor r a b layer x y))) [] := by
  refine fun_go hC Tryz.func39 rfl rfl 45 rfl (by decide) (by kernel_rfl) fun _ _ _ _ _ => ?_
  have lm := len_map r.areas arr
  have na := hg.na
  (refine yS (yn rfl (zq1 zI (zkns (zst_bx (yn rfl (zq1 zI (zkns (zst_bx (yA rfl (yU (yA rfl (yT (zw_s ?_))))))))))))); refine yS (yV rfl (yP rfl (yP rfl (yP rfl (yT (zw_b ?_)))))))
  refine loop_ok' (fun i : Nat => i ≤ r.areas.length) (fun i => [(1, .p (str a)), (2, .p (str b)), (3, .p (i64 layer)), (5, .bx 5 0), (9, .bx 9 0), (11, .p (i64 (mostOf layer x y (r.areas.take i) (-1)))), (15, .p (.sl (r.areas.map arr))), (16, .p (i64 (r.areas.map arr).length)), (17, .p (i64 i))]) (fun _ => [(5, .box (rbox r)), (9, .box [.p (i64 x), .p (i64 y)])]) (fun i => r.areas.length - i) 0 _ (SLe.refl _ _) (Nat.zero_le _) ⟨rfl, rfl, rfl, rfl, rfl, rfl, rfl, rfl, rfl, trivial⟩ ⟨rfl, rfl, trivial⟩ fun i hi t h => ?_
  (refine yS (yP rfl (yT (zw_s (zw_c rfl ?_)))); refine bcase_split (fun h1 => ?_) (fun h1 => ?_) <;> try simp only [zB] at h1)
  · obtain ⟨c, hc⟩ := get_of (l := r.areas) (i := i) (by omega)
    have hl := region_len (hg.ar c (List.mem_of_getElem? hc)).2.1
    have mo : mostOf layer x y (r.areas.take (i + 1)) (-1) = (if meets layer x y c = true then max (mostOf layer x y (r.areas.take i) (-1)) c.clearance else mostOf layer x y (r.areas.take i) (-1)) := by rw [take_succ' hc, mostOf_app]; rfl
    (refine zw_k (zt_n (zw_s (zw_b (yS (yq rfl (zqX zI ?_)))))); refine ⟨(arr c), (idx rfl hc), ?_⟩)
    ((refine yk (yP rfl (yn rfl (zq1 zI (zkns (zst_bx (yq rfl (zq1 zI (zkq (zst_e (zst_0 (yU (yP rfl (yP rfl ?_))))))))))))); refine yn rfl (zqX zI ?_)); refine ⟨_, _, (house_isOn c layer), ?_⟩)
    (refine zkn rfl rfl (zst_p (yP rfl (yg rfl ?_))); refine bcase_split (fun h2 => ?_) (fun h2 => ?_) <;> try simp only [zB] at h2)
    · (refine zg_t (zs_q rfl rfl (zq1 zI (zkq (zst_bx (y1 rfl (y1 rfl (y2 rfl (zs_n rfl rfl rfl (zqX zI ?_))))))))); refine ⟨_, _, (house_hasSquare c.region (by omega) x y), ?_⟩)
      (refine zkn rfl rfl (zst_p (yP rfl (yT (zw_c rfl ?_)))); refine bcase_split (fun h3 => ?_) (fun h3 => ?_) <;> try simp only [zB] at h3)
      · (refine zw_o (yP rfl (yV rfl (yP rfl (yP rfl (yA rfl (zo_0 (zb_n (zt_n (zw_o (yq rfl (zqA zI ?_))))))))))); refine And.intro ⟨by omega, by omega⟩ ?_)
        (refine yk (yP rfl (yT (zaf_raw ?_))); refine ⟨(i + 1), _, SLe.refl _ _, ?_⟩)
        rw [if_pos (by rw [meets, h2, h3]; rfl)] at mo
        exact ⟨by omega, by omega, ⟨rfl, rfl, rfl, rfl, rfl, av_i64 (by rw [mo]), rfl, rfl, rfl, trivial⟩, ⟨rfl, rfl, trivial⟩⟩
      · (refine zw_k (zb_n (zt_n (zw_o (yq rfl (zqA zI ?_))))); refine And.intro ⟨by omega, by omega⟩ ?_)
        (refine yk (yP rfl (yT (zaf_raw ?_))); refine ⟨(i + 1), _, SLe.refl _ _, ?_⟩)
        rw [if_neg (by rw [meets, h2, h3]; decide)] at mo
        exact ⟨by omega, by omega, ⟨rfl, rfl, rfl, rfl, rfl, av_i64 (by rw [mo]), rfl, rfl, rfl, trivial⟩, ⟨rfl, rfl, trivial⟩⟩
    · ((refine zg_f (zst_p (y0 rfl (y0 rfl (y0 rfl (yP rfl (yT (zw_c rfl (zc_f (zw_k (zb_n (zt_n (zw_o (yq rfl ?_))))))))))))); refine zqA zI ?_); refine And.intro ⟨by omega, by omega⟩ ?_)
      (refine yk (yP rfl (yT (zaf_raw ?_))); refine ⟨(i + 1), _, SLe.refl _ _, ?_⟩)
      rw [if_neg (by rw [meets, h2]; simp)] at mo
      exact ⟨by omega, by omega, ⟨rfl, rfl, rfl, rfl, rfl, av_i64 (by rw [mo]), rfl, rfl, rfl, trivial⟩, ⟨rfl, rfl, trivial⟩⟩
  · have e : i = r.areas.length := by omega
    subst e
    have tl : r.areas.take r.areas.length = r.areas := List.take_length
    (refine zw_x (zt_x (zt_x (zb_h (zt_n (zw_s (yS (yP rfl (yP rfl (yT (zw_c rfl ?_)))))))))); refine bcase_split (fun h2 => ?_) (fun h2 => ?_) <;> try simp only [zB] at h2)
    · (refine yS (yP rfl (yA rfl (yT (zw_r (zt_r (ze_r zi ?_)))))); refine And.intro ?_ trivial)
      rw [tl] at h2 ⊢
      rw [needFor, if_pos h2]
    · ((refine zw_k (zt_n (zw_s (zw_d false [true, true, true, true, true, true, true, true] rfl (by kernel_rfl) (zp_s rfl (zp_s rfl (zp_n rfl rfl (zp_s rfl (zp_s rfl (zp_n rfl rfl (zp_q rfl (yD rfl (yD rfl (dq rfl ?_))))))))))))); refine zqX zI ?_); refine ⟨_, _, (house_clearance r hg a), ?_⟩)
      (refine zkd (zst_p (yD rfl (yD rfl (dq rfl (zqX zI ?_))))); refine ⟨_, _, (house_clearance r hg b), ?_⟩)
      ((refine zkd (zst_p (yD rfl (yD rfl (zd_0 (zr_s rfl (zr_s rfl (zr_s rfl (zr_s rfl (zr_s rfl (zr_s rfl (zr_s rfl (zr_k rfl rfl (zr_q rfl ?_))))))))))))); refine zt_n (zw_r (ze_r zi ?_))); refine And.intro ?_ trivial)
      rw [tl] at h2
      rw [needFor, if_neg h2]; rfl
theorem house_isNet' (s : ByteArray) (hs : strOK s) : ACalls C 37 [.pv (str s)] (.p (bool (netB s))) [] := house_isNet s hs
def needsR (r : Rules) (a b : ByteArray) (layer x y : Int) : Int × Int :=
  if rulesFault r = 0 then
    (if (netB a && netB b) = true then (if (decide (0 ≤ layer) && decide (layer ≤ 15) && (Reg.isAt x && Reg.isAt y)) = true then (needFor r a b layer x y, 0) else (0, 1)) else (0, 5))
  else (0, rulesFault r)
theorem house_Needs (r : Rules) (ho : rulesOK r) (a b : ByteArray) (ha : strOK a) (hb : strOK b) (layer x y : Int) : ACalls C 13 [.pv (.ag (rl r)), .pv (str a), .pv (str b), .pv (i64 layer), .pv (.ag [i64 x, i64 y])] (.tu [i64 (needsR r a b layer x y).1, i64 (needsR r a b layer x y).2]) [] := by
  refine fun_go hC Tryz.func13 rfl rfl 40 rfl (by decide) (by kernel_rfl) fun _ _ _ _ _ => ?_
  ((refine yS (yn rfl (zq1 zI (zkns (zst_bx (yn rfl (zq1 zI (zkns (zst_bx (yA rfl (yA rfl (yT (zw_s (yS ?_))))))))))))); refine yP rfl (yn rfl (zqX zI ?_))); refine ⟨_, _, (house_checkRules r ho), ?_⟩)
  (refine zkn rfl rfl (zst_p (yA rfl (yU (yP rfl (yP rfl (yT (zw_c rfl ?_))))))); refine bcase_split (fun h1 => ?_) (fun h1 => ?_) <;> try simp only [zB] at h1)
  · (refine yS (yP rfl (yA rfl (yA rfl (yT (zw_r (zt_r (ze_r zi ?_))))))); refine And.intro ?_ trivial)
    have h1 : ¬ rulesFault r = 0 := by simpa using h1
    rw [needsR, if_neg h1]; rfl
  · have h1 : rulesFault r = 0 := by simpa using h1
    have hg := rules_good h1
    rw [needsR, if_pos h1]
    (refine zw_k (zt_n (zw_s (yS (yP rfl (yn rfl (zqX zI ?_)))))); refine ⟨_, _, (house_isNet a ha), ?_⟩)
    (refine zkn rfl rfl (zst_p (yP rfl (yP rfl (yg rfl ?_)))); refine bcase_split (fun h2 => ?_) (fun h2 => ?_) <;> try simp only [zB] at h2)
    · ((refine zg_f (zst_p (y0 rfl (y0 rfl (yP rfl (yT (zw_c rfl (zc_t (yS (yA rfl (yA rfl (yT (zw_r (zt_r ?_))))))))))))); refine ze_r zi ?_); refine And.intro ?_ trivial)
      rw [if_neg (by simp [h2])]; rfl
    · (refine zg_t (zs_q rfl rfl (zq1 zI (yk (y2 rfl (zs_n rfl rfl rfl (zqX zI ?_)))))); refine ⟨_, _, (house_isNet b hb), ?_⟩)
      (refine zkn rfl rfl (zst_p (y1 rfl (yP rfl (yT (zw_c rfl ?_))))); refine bcase_split (fun h3 => ?_) (fun h3 => ?_) <;> try simp only [zB] at h3)
      · (refine yS (yA rfl (yA rfl (yT (zw_r (zt_r (ze_r zi ?_)))))); refine And.intro ?_ trivial)
        rw [if_neg (by simp [h3])]; rfl
      · rw [if_pos (by simp [h2, h3])]
        (refine zw_k (zt_n (zw_s (yS (yP rfl (yn rfl (zqX zI ?_)))))); refine ⟨_, _, (rules_within layer 0 15), ?_⟩)
        (refine zkn rfl rfl (zst_p (yP rfl (yP rfl (yg rfl ?_)))); refine bcase_split (fun h4 => ?_) (fun h4 => ?_) <;> try simp only [zB] at h4)
        · ((refine zg_f (zst_p (y0 rfl (y0 rfl (yP rfl (yT (zw_c rfl (zc_t (yS (yA rfl (yA rfl (yT (zw_r (zt_r ?_))))))))))))); refine ze_r zi ?_); refine And.intro ?_ trivial)
          rw [if_neg (by simp [h4])]; rfl
        · (refine zg_t (zs_q rfl rfl (zq1 zI (yk (y2 rfl (zs_n rfl rfl rfl (zqX zI ?_)))))); refine ⟨_, _, (shape_isPoint x y), ?_⟩)
          (refine zkn rfl rfl (zst_p (y1 rfl (yP rfl (yT (zw_c rfl ?_))))); refine bcase_split (fun h5 => ?_) (fun h5 => ?_) <;> try simp only [zB] at h5)
          · (refine yS (yA rfl (yA rfl (yT (zw_r (zt_r (ze_r zi ?_)))))); refine And.intro ?_ trivial)
            rw [if_neg (by simp_all)]; rfl
          · rw [if_pos (by simp_all)]
            (refine zw_k (zt_n (yS (yP rfl (yP rfl (yP rfl (yP rfl (yP rfl (yn rfl (zqX zI ?_))))))))); refine ⟨_, _, (house_needs r hg a b layer x y), ?_⟩)
            (refine zkn rfl rfl (zst_p (yA rfl (yA rfl (yR zi ?_)))); refine And.intro ?_ trivial)
            rfl
def widthR (r : Rules) (a : ByteArray) : Int × Int :=
  if rulesFault r = 0 then (if netB a = true then (widthFor r a, 0) else (0, 5)) else (0, rulesFault r)
theorem house_WidthOf (r : Rules) (ho : rulesOK r) (a : ByteArray) (ha : strOK a) : ACalls C 15 [.pv (.ag (rl r)), .pv (str a)] (.tu [i64 (widthR r a).1, i64 (widthR r a).2]) [] := by
  refine fun_go hC Tryz.func15 rfl rfl 18 rfl (by decide) (by kernel_rfl) fun _ _ _ _ _ => ?_
  (refine yS (yn rfl (zq1 zI (zkns (zst_bx (yA rfl (yA rfl (yT (zw_s (yS (yP rfl (yn rfl (zqX zI ?_)))))))))))); refine ⟨_, _, (house_checkRules r ho), ?_⟩)
  (refine zkn rfl rfl (zst_p (yA rfl (yU (yP rfl (yP rfl (yT (zw_c rfl ?_))))))); refine bcase_split (fun h1 => ?_) (fun h1 => ?_) <;> try simp only [zB] at h1)
  · (refine yS (yP rfl (yA rfl (yA rfl (yT (zw_r (zt_r (ze_r zi ?_))))))); refine And.intro ?_ trivial)
    have h1 : ¬ rulesFault r = 0 := by simpa using h1
    rw [widthR, if_neg h1]; rfl
  · have h1 : rulesFault r = 0 := by simpa using h1
    have hg := rules_good h1
    rw [widthR, if_pos h1]
    (refine zw_k (zt_n (zw_s (yS (yP rfl (yn rfl (zqX zI ?_)))))); refine ⟨_, _, (house_isNet a ha), ?_⟩)
    (refine zkn rfl rfl (zst_p (yP rfl (yT (zw_c rfl ?_)))); refine bcase_split (fun h2 => ?_) (fun h2 => ?_) <;> try simp only [zB] at h2)
    · (refine yS (yA rfl (yA rfl (yT (zw_r (zt_r (ze_r zi ?_)))))); refine And.intro ?_ trivial)
      rw [if_neg (by simp [h2])]; rfl
    · rw [if_pos (by simpa using h2)]
      (refine zw_k (zt_n (yS (yP rfl (yP rfl (yn rfl (zqX zI ?_)))))); refine ⟨_, _, (house_width r hg a), ?_⟩)
      (refine zkn rfl rfl (zst_p (yA rfl (yA rfl (yR zi ?_)))); refine And.intro ?_ trivial)
      rfl
theorem needFor_even (r : Rules) (a b : ByteArray) (layer x y : Int) : needFor r a b layer x y = needFor r b a layer x y := by
  unfold needFor
  rw [Int.max_comm (clearFor r a)]
theorem needsR_even (r : Rules) (a b : ByteArray) (layer x y : Int) : needsR r a b layer x y = needsR r b a layer x y := by
  unfold needsR
  rw [needFor_even, Bool.and_comm (netB a)]
end Go.Proofs.YtcfhiodoogkcpaaGreatDoor.M
