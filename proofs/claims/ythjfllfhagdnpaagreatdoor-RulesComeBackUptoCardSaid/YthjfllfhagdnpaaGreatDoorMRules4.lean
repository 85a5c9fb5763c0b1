/- By the machine: rules as data; squares of regions; nets. -/
import Derived.Test.YthjfllfhagdnpaaGreatDoorMHouse9
import Derived.Sort.Walk0
set_option linter.unusedSimpArgs false
set_option linter.unusedVariables false
namespace Go.Proofs.YthjfllfhagdnpaaGreatDoor.M
open Go.AM Go.RowKit Go.Lib
open Reg (Rect Spans Band)

structure Class where
  name : ByteArray
  nets : List ByteArray
  clearance : Int
  width : Int
structure Area where
  layer : Int
  region : List Rect
  clearance : Int
structure Rules where
  clearance : Int
  width : Int
  ring : Int
  edge : Int
  holeGap : Int
  classes : List Class
  areas : List Area
def kl (c : Class) : List PV := [str c.name, strs c.nets, i64 c.clearance, i64 c.width]
def arr (a : Area) : List PV := [i64 a.layer, rects a.region, i64 a.clearance]
def rl (r : Rules) : List PV := [i64 r.clearance, i64 r.width, i64 r.ring, i64 r.edge, i64 r.holeGap, .sl (r.classes.map kl), .sl (r.areas.map arr)]
/-- the square of a point lies in a rectangle -/
def inR (x y : Int) (r : Rect) : Bool := ((decide (r.x0 ≤ x) && decide (x < r.x1)) && decide (r.y0 ≤ y)) && decide (y < r.y1)
theorem hasSquare_1 (r : Rect) (x y : Int) : ACalls C 284 [.pv (.ag (rc r)), .pv (.ip [i64 x, i64 y])] (.p (bool (inR x y r))) [] := by
  refine fun_go hC Tryz.func284 rfl rfl 30 rfl (by decide) (by kernel_rfl) fun _ _ _ _ _ => ?_
  (refine yS (yn rfl (zq1 zI (zkns (zst_bx (yA rfl (yU (yP rfl (yP rfl (yV rfl (yP rfl (yP rfl (yP rfl (yg rfl ?_))))))))))))); refine bcase_split (fun h1 => ?_) (fun h1 => ?_) <;> try simp only [zB] at h1)
  · ((refine zg_t (zs_q rfl rfl (zq1 zI (yk (y1 rfl (y2 rfl (zs_q rfl rfl (zq1 zI (zkq (zst_bx (y1 rfl (y1 rfl (yP rfl (yP rfl ?_))))))))))))); refine yg rfl ?_); refine bcase_split (fun h2 => ?_) (fun h2 => ?_) <;> try simp only [zB] at h2)
    · ((refine zg_t (zs_q rfl rfl (zq1 zI (yk (y1 rfl (y2 rfl (zs_q rfl rfl (zq1 zI (zkq (zst_bx (y1 rfl (y1 rfl (yP rfl (yP rfl ?_))))))))))))); refine yg rfl ?_); refine bcase_split (fun h3 => ?_) (fun h3 => ?_) <;> try simp only [zB] at h3)
      · ((refine zg_t (zs_q rfl rfl (zq1 zI (yk (y1 rfl (y2 rfl (zs_q rfl rfl (zq1 zI (zkq (zst_bx (y1 rfl (y1 rfl (yP rfl (yA rfl ?_))))))))))))); refine yR zi ?_); refine And.intro ?_ trivial)
        simp [bool, inR, h1, h2, h3]
      · (refine zg_f (zst_p (y0 rfl (y0 rfl (y0 rfl (y0 rfl (yP rfl (yA rfl (yR zi ?_)))))))); refine And.intro ?_ trivial)
        simp [bool, inR, h1, h2, h3]
    · (refine zg_f (zst_p (y0 rfl (y0 rfl (y0 rfl (y0 rfl (yP rfl (yP rfl (y0 rfl (y0 rfl (y0 rfl (y0 rfl (y0 rfl (yP rfl ?_))))))))))))); refine yA rfl (yR zi ?_))
      (skip; refine And.intro ?_ trivial)
      simp [bool, inR, h1, h2]
  · (refine zg_f (zst_p (y0 rfl (y0 rfl (y0 rfl (y0 rfl (yP rfl (yP rfl (y0 rfl (y0 rfl (y0 rfl (y0 rfl (y0 rfl (yP rfl ?_))))))))))))); refine yP rfl (y0 rfl (y0 rfl (y0 rfl (y0 rfl (y0 rfl (yP rfl (yA rfl (yR zi ?_)))))))))
    (skip; refine And.intro ?_ trivial)
    simp [bool, inR, h1]
theorem index_rect1 (l : List Rect) (hN : l.length ≤ 140737488355328) (x y : Int) : ACalls C 221 [.pv (rects l), .pv (.fn 284 [.ip [i64 x, i64 y]])] (.p (i64 (firstP (inR x y) l 0))) [] := by
  refine fun_go hC Tryz.func221 rfl rfl 19 rfl (by decide) (by kernel_rfl) fun _ _ _ _ _ => ?_
  have lm := len_map l rc
  refine yS (yA rfl (yT (zw_s (yS (yP rfl (yP rfl (yP rfl (yT (zw_b ?_)))))))))
  refine loop_ok' (fun i : Nat => i ≤ l.length ∧ ∀ z ∈ l.take i, inR x y z = false) (fun i => [(0, .p (rects l)), (1, .p (.fn 284 [.ip [i64 x, i64 y]])), (7, .p (i64 (l.map rc).length)), (8, .p (i64 i))]) (fun _ => []) (fun i => l.length - i) 0 _ (SLe.refl _ _) ⟨Nat.zero_le _, by simp⟩ ⟨rfl, rfl, rfl, rfl, trivial⟩ trivial fun i hi t h => ?_
  (refine yS (yP rfl (yT (zw_s (zw_c rfl ?_)))); refine bcase_split (fun h1 => ?_) (fun h1 => ?_) <;> try simp only [zB] at h1)
  · rw [lm] at h1
    obtain ⟨r, hr⟩ := get_of (l := l) (i := i) (by omega)
    (refine zw_k (zt_n (zw_s (zw_b (yS (yP rfl (yA rfl (yU (yP rfl (yP rfl (yP rfl (yq rfl (zqX zI ?_)))))))))))); refine ⟨(rc r), (idx rfl hr), ?_⟩)
    (refine yk (yP rfl (yn rfl (zqX zI ?_))); refine ⟨_, _, (hasSquare_1 r x y), ?_⟩)
    (refine zkn rfl rfl (zst_p (yT (zw_c rfl ?_))); refine bcase_split (fun h2 => ?_) (fun h2 => ?_) <;> try simp only [zB] at h2)
    · (refine yS (yP rfl (yA rfl (yT (zw_r (zb_r (zt_r (zt_r (zb_r (zt_r (ze_r zi ?_)))))))))); refine And.intro ?_ trivial)
      rw [firstP_at hr h2 hi.2, Nat.zero_add]
    · (refine zw_k (zb_n (zt_n (zw_o (yq rfl (zqA zI ?_))))); refine And.intro ⟨by omega, by omega⟩ ?_)
      (refine yk (yP rfl (yT (zaf_raw ?_))); refine ⟨(i + 1), _, SLe.refl _ _, ?_⟩)
      exact ⟨⟨by omega, take_no hr h2 hi.2⟩, by omega, ⟨rfl, rfl, rfl, rfl, trivial⟩, trivial⟩
  · rw [lm] at h1
    (refine zw_x (zt_x (zt_x (zb_h (zt_n (yS (yA rfl (yR zi ?_))))))); refine And.intro ?_ trivial)
    have h2 := hi.2
    rw [List.take_of_length_le (by omega)] at h2
    rw [firstP_none h2]
    rfl
theorem contains_rect (l : List Rect) (hN : l.length ≤ 140737488355328) (x y : Int) : ACalls C 234 [.pv (rects l), .pv (.fn 284 [.ip [i64 x, i64 y]])] (.p (bool (l.any (inR x y)))) [] := by
  refine fun_go hC Tryz.func234 rfl rfl 9 rfl (by decide) (by kernel_rfl) fun _ _ _ _ _ => ?_
  (refine yS (yA rfl (yU (yP rfl (yP rfl (yn rfl (zqX zI ?_)))))); refine ⟨_, _, (index_rect1 l hN x y), ?_⟩)
  (refine zkn rfl rfl (zst_p (yP rfl (yA rfl (yR zi ?_)))); refine And.intro ?_ trivial)
  rw [← firstP_any _ l 0]
  rfl
theorem house_hasSquare (l : List Rect) (hN : l.length ≤ 140737488355328) (x y : Int) : ACalls C 217 [.pv (rects l), .pv (.ag [i64 x, i64 y])] (.p (bool (l.any (inR x y)))) [] := by
  refine fun_go hC Tryz.func217 rfl rfl 8 rfl (by decide) (by kernel_rfl) fun _ _ _ _ _ => ?_
  (refine yS (yn rfl (zq1 zI (zkns (zst_bx (yA rfl (yU (yP rfl (yV rfl (yn rfl (zqX zI ?_)))))))))); refine ⟨_, _, (contains_rect l hN x y), ?_⟩)
  (refine zkn rfl rfl (zst_p (yA rfl (yR zi ?_))); refine And.intro ?_ trivial)
  rfl
def emptyS : ByteArray := ⟨#[]⟩
def netB (s : ByteArray) : Bool := decide (s = emptyS) || pathB s
theorem house_isNet (s : ByteArray) (hs : s.size < 4294967281) : ACalls C 122 [.pv (str s)] (.p (bool (netB s))) [] := by
  refine fun_go hC Tryz.func122 rfl rfl 9 rfl (by decide) (by kernel_rfl) fun _ _ _ _ _ => ?_
  (refine yS (yA rfl (yU (yP rfl (yP rfl (yP rfl (yg rfl ?_)))))); refine bcase_split (fun h1 => ?_) (fun h1 => ?_) <;> try simp only [zB] at h1)
  · have h1 : s = emptyS := h1
    (refine zg_f (zst_p (y0 rfl (yP rfl (yA rfl (yR zi ?_))))); refine And.intro ?_ trivial)
    rw [netB, decide_eq_true h1]
    rfl
  · have h1 : ¬ s = emptyS := h1
    (refine zg_t (zs_q rfl rfl (zq1 zI (yk (y2 rfl (zs_n rfl rfl rfl (zqX zI ?_)))))); refine ⟨_, _, (house_isPath s hs), ?_⟩)
    (refine zkn rfl rfl (zst_p (yP rfl (yA rfl (yR zi ?_)))); refine And.intro ?_ trivial)
    rw [netB, decide_eq_false h1]
    rfl
def onB (a : Area) (layer : Int) : Bool := decide (a.layer < 0) || decide (a.layer = layer)
theorem house_isOn (a : Area) (layer : Int) : ACalls C 216 [.pv (.ag (arr a)), .pv (i64 layer)] (.p (bool (onB a layer))) [] := by
  refine fun_go hC Tryz.func216 rfl rfl 14 rfl (by decide) (by kernel_rfl) fun _ _ _ _ _ => ?_
  (refine yS (yn rfl (zq1 zI (zkns (zst_bx (yA rfl (yU (yV rfl (yP rfl (yP rfl (yP rfl (yg rfl ?_))))))))))); refine bcase_split (fun h1 => ?_) (fun h1 => ?_) <;> try simp only [zB] at h1)
  · (refine zg_f (zst_p (y0 rfl (y0 rfl (y0 rfl (yP rfl (yA rfl (yR zi ?_))))))); refine And.intro ?_ trivial)
    simp [bool, onB, h1]
  · (refine zg_t (zs_q rfl rfl (zq1 zI (zkq (zst_bx (y1 rfl (y1 rfl (y1 rfl (yP rfl (yA rfl (yR zi ?_)))))))))); refine And.intro ?_ trivial)
    simp [bool, onB, h1]
end Go.Proofs.YthjfllfhagdnpaaGreatDoor.M
namespace Go.Proofs.YthjfllfhagdnpaaGreatDoor.M
open Go.AM Go.RowKit Go.Lib
open Reg (Rect Spans Band)

def ltS (a b : ByteArray) : Bool := Op.bytesLess a.data.toList b.data.toList
theorem ltS_iff {a b : ByteArray} : ltS a b = true ↔ a.data.toList < b.data.toList := by
  unfold ltS
  rw [Go.Proofs.bytesLess_eq]
  simp
theorem ltS_irrefl (a : ByteArray) : ltS a a = false := by
  rw [Bool.eq_false_iff]
  intro h
  exact List.lt_irrefl _ (ltS_iff.1 h)
theorem ltS_trans {a b c : ByteArray} (h1 : ltS a b = true) (h2 : ltS b c = true) : ltS a c = true := ltS_iff.2 (List.lt_trans (ltS_iff.1 h1) (ltS_iff.1 h2))
def SortedS (l : List ByteArray) : Prop := l.Pairwise fun a b => ltS a b = true
theorem sortedS_get {l : List ByteArray} (h : SortedS l) {i j : Nat} {a b : ByteArray} (ha : l[i]? = some a) (hb : l[j]? = some b) (hij : i < j) : ltS a b = true := by
  obtain ⟨hi, rfl⟩ := List.getElem?_eq_some_iff.1 ha
  obtain ⟨hj, rfl⟩ := List.getElem?_eq_some_iff.1 hb
  exact List.pairwise_iff_getElem.1 h i j hi hj hij
theorem cmp_isNaN (s : ByteArray) : ACalls C 359 [.pv (str s)] (.p (bool false)) [] := by
  refine fun_go hC Tryz.func359 rfl rfl 6 rfl (by decide) (by kernel_rfl) fun _ _ _ _ _ => ?_
  (refine yS (yA rfl (yU (yP rfl (yP rfl (yP rfl (yA rfl (yR zi ?_))))))); refine And.intro ?_ trivial)
  simp [bool]
theorem slices_isNaN (s : ByteArray) : ACalls C 320 [.pv (str s)] (.p (bool false)) [] := by
  refine fun_go hC Tryz.func320 rfl rfl 6 rfl (by decide) (by kernel_rfl) fun _ _ _ _ _ => ?_
  (refine yS (yA rfl (yU (yP rfl (yP rfl (yP rfl (yA rfl (yR zi ?_))))))); refine And.intro ?_ trivial)
  simp [bool]
theorem cmp_less (a b : ByteArray) : ACalls C 319 [.pv (str a), .pv (str b)] (.p (bool (ltS a b))) [] := by
  refine fun_go hC Tryz.func319 rfl rfl 17 rfl (by decide) (by kernel_rfl) fun _ _ _ _ _ => ?_
  (refine yS (yA rfl (yU (yP rfl (yn rfl (zqX zI ?_))))); refine ⟨_, _, (cmp_isNaN a), ?_⟩)
  (refine zkn rfl rfl (zst_p (yP rfl (y0 rfl (y0 rfl (y0 rfl (yP rfl (yP rfl (y1 rfl (y1 rfl (y1 rfl (yP rfl (yA rfl (yR zi ?_))))))))))))); refine And.intro ?_ trivial)
  rfl
theorem shr_half {a b : Nat} (h : a + b < 4611686018427387904) : (IntKind.u64.wrap ((a : Int) + (b : Int))).fdiv (2 ^ min (Int.toNat 1) IntKind.u64.bits) = (((a + b) / 2 : Nat) : Int) := by
  have h1 : IntKind.u64.wrap ((a : Int) + (b : Int)) = ((a + b : Nat) : Int) := by simp [IntKind.wrap, IntKind.bits, IntKind.signed]; omega
  rw [h1]
  have h2 : (2 : Int) ^ min (Int.toNat 1) IntKind.u64.bits = 2 := by decide
  rw [h2, Int.fdiv_eq_ediv_of_nonneg _ (by decide)]
  omega
/-- how many lie below -/
def belowN (l : List ByteArray) (x : ByteArray) : Nat := (l.filter fun y => ltS y x).length
theorem belowN_at {l : List ByteArray} {x : ByteArray} {i : Nat} (hi : i ≤ l.length) (h1 : ∀ (k : Nat) y, k < i → l[k]? = some y → ltS y x = true) (h2 : ∀ (k : Nat) y, i ≤ k → l[k]? = some y → ltS y x = false) : belowN l x = i := by
  unfold belowN
  rw [← List.take_append_drop i l, List.filter_append, List.length_append]
  have e1 : (l.take i).filter (fun y => ltS y x) = l.take i := List.filter_eq_self.2 fun y hy => by
    obtain ⟨k, hk⟩ := List.mem_iff_getElem?.1 hy
    rw [List.getElem?_take] at hk
    split at hk
    · exact h1 k y (by assumption) hk
    · cases hk
  have e2 : (l.drop i).filter (fun y => ltS y x) = [] := List.filter_eq_nil_iff.2 fun y hy => by
    obtain ⟨k, hk⟩ := List.mem_iff_getElem?.1 hy
    rw [List.getElem?_drop] at hk
    rw [h2 (i + k) y (by omega) hk]; decide
  rw [e1, e2, List.length_take]
  simp; omega
theorem no_hasB {l : List ByteArray} {x y : ByteArray} {a : Nat} (hs : SortedS l) (q3 : ∀ (k : Nat) z, k < a → l[k]? = some z → ltS z x = true) (hy : l[a]? = some y) (hyx : ltS y x = false) (hne : ¬y = x) : hasB l x = false := by
  rw [Bool.eq_false_iff]
  intro h4
  obtain ⟨k, hk⟩ := List.mem_iff_getElem?.1 (hasB_iff.1 h4)
  rcases Nat.lt_trichotomy k a with h | h | h
  · have := q3 k x h hk
    rw [ltS_irrefl] at this; cases this
  · subst h
    rw [hy] at hk; injection hk with hk; exact hne hk
  · rw [sortedS_get hs hy hk h] at hyx; cases hyx
set_option maxRecDepth 100000 in
set_option maxHeartbeats 1000000 in
theorem binarySearch (l : List ByteArray) (x : ByteArray) (hs : SortedS l) (hN : l.length ≤ 1000000000) : ACalls C 255 [.pv (strs l), .pv (str x)] (.tu [i64 (belowN l x), bool (hasB l x)]) [] := by
  refine fun_go hC Tryz.func255 rfl rfl 54 rfl (by decide) (by kernel_rfl) fun _ _ _ _ _ => ?_
  have lm := len_map l fun s => [str s]
  refine yS (yA rfl (yA rfl (yU (yP rfl (yP rfl (yA rfl (yU (yP rfl (yA rfl (yA rfl (yT (zw_s (zw_b ?_)))))))))))))
  refine loop_ok' (fun p : Nat × Nat => p.1 ≤ p.2 ∧ p.2 ≤ l.length ∧ (∀ (k : Nat) y, k < p.1 → l[k]? = some y → ltS y x = true) ∧ (∀ (k : Nat) y, p.2 ≤ k → l[k]? = some y → ltS y x = false)) (fun p => [(0, .p (strs l)), (1, .p (str x)), (6, .p (i64 (l.map fun s => [str s]).length)), (7, .p (i64 p.1)), (8, .p (i64 p.2))]) (fun _ => []) (fun p => p.2 - p.1) (0, l.length) _ (SLe.refl _ _) ⟨Nat.zero_le _, Nat.le_refl _, fun k y h => by omega, fun k y h1 h2 => by have := (List.getElem?_eq_some_iff.1 h2).1; simp only at h1; omega⟩ ⟨rfl, rfl, rfl, rfl, av_i64 (by rw [lm]), trivial⟩ trivial fun ⟨a, b⟩ hi t h => ?_
  obtain ⟨q1, q2, q3, q4⟩ := hi
  simp only at q1 q2 q3 q4
  (refine zw_s (yS (yP rfl (yP rfl (yP rfl (yT (zw_c rfl ?_)))))); refine bcase_split (fun h1 => ?_) (fun h1 => ?_) <;> try simp only [zB] at h1)
  · have hm := shr_half (a := a) (b := b) (by omega)
    obtain ⟨y, hy⟩ := get_of (l := l) (i := (a + b) / 2) (by omega)
    (refine zw_k (zt_n (zw_b (yS (yP rfl (yP rfl (yq rfl (zqA zI ?_))))))); refine And.intro ⟨by simp only; omega, by simp only; omega⟩ ?_)
    (refine yk (yP rfl (yq rfl (zqA zI ?_))); refine And.intro ⟨by decide, by decide⟩ ?_)
    (refine yk (yq rfl (zqA zI ?_)); refine And.intro ⟨by simp only; rw [hm]; omega, by simp only; rw [hm]; omega⟩ ?_)
    (refine yk (yA rfl (yU (yP rfl (yP rfl (yq rfl (zqX zI ?_)))))); refine ⟨[str y], (idx hm hy), ?_⟩)
    (refine yk (yP rfl (yP rfl (yn rfl (zqX zI ?_)))); refine ⟨_, _, (cmp_less y x), ?_⟩)
    (refine zkn rfl rfl (zst_p (yT (zw_c rfl ?_))); refine bcase_split (fun h2 => ?_) (fun h2 => ?_) <;> try simp only [zB] at h2)
    · (refine zw_o (yP rfl (yq rfl (zqA zI ?_))); refine And.intro ⟨by simp only; rw [hm]; omega, by simp only; rw [hm]; omega⟩ ?_)
      (refine yk (yA rfl (zo_0 (zb_n (zt_n (zaf_raw ?_))))); refine ⟨((a + b) / 2 + 1, b), _, SLe.refl _ _, ?_⟩)
      refine ⟨⟨by simp only; omega, q2, fun k z hk hz => ?_, q4⟩, by simp only; omega, ⟨rfl, rfl, rfl, av_i64 (by simp only; rw [hm]; omega), rfl, trivial⟩, trivial⟩
      by_cases e : k = (a + b) / 2
      · subst e
        rw [hy] at hz; injection hz with hz; subst hz; exact h2
      · exact ltS_trans (sortedS_get hs hz hy (by simp only at hk; omega)) h2
    · (refine zw_o (yP rfl (yA rfl (zo_0 (zb_n (zt_n (zaf_raw ?_)))))); refine ⟨(a, (a + b) / 2), _, SLe.refl _ _, ?_⟩)
      refine ⟨⟨by simp only; omega, by simp only; omega, q3, fun k z hk hz => ?_⟩, by simp only; omega, ⟨rfl, rfl, rfl, rfl, av_i64 hm, trivial⟩, trivial⟩
      by_cases e : k = (a + b) / 2
      · subst e
        rw [hy] at hz; injection hz with hz; subst hz; exact h2
      · rw [Bool.eq_false_iff]
        intro hlt
        rw [ltS_trans (sortedS_get hs hy hz (by simp only at hk; omega)) hlt] at h2
        cases h2
  · have e : a = b := by omega
    subst e
    have hb := belowN_at q2 q3 q4
    (refine zw_x (zt_x (zt_x (zb_h (zt_n (yS (yP rfl (yP rfl (yP rfl (yP rfl (yP rfl (yg rfl ?_))))))))))); refine bcase_split (fun h2 => ?_) (fun h2 => ?_) <;> try simp only [zB] at h2)
    · rw [lm] at h2
      obtain ⟨y, hy⟩ := get_of (l := l) (i := a) (by omega)
      (refine zg_t (zs_q rfl rfl (zq1 zI (yk (y1 rfl (y2 rfl (zs_q rfl rfl (zqX zI ?_))))))); refine ⟨[str y], (idx rfl hy), ?_⟩)
      (refine yk (y1 rfl (y1 rfl (y1 rfl (y1 rfl (yg rfl ?_))))); refine bcase_split (fun h3 => ?_) (fun h3 => ?_) <;> try simp only [zB] at h3)
      · ((refine zg_f (zst_p (y0 rfl (y0 rfl (y0 rfl (y0 rfl (y0 rfl (zo_gu rfl rfl rfl rfl (zst_p (zo_gu rfl rfl rfl rfl (zst_p (y0 rfl (y1 rfl (yP rfl ?_))))))))))))); refine yA rfl (yA rfl (yR zi ?_))); refine And.intro ?_ trivial)
        have e : y = x := by simpa using h3
        subst e
        have h4 : hasB l y = true := hasB_iff.2 (List.mem_iff_getElem?.2 ⟨a, hy⟩)
        rw [hb, h4]
        rfl
      · (refine zg_t (zs_q rfl rfl (zq1 zI (yk (y1 rfl (y2 rfl (zs_q rfl rfl (zqX zI ?_))))))); refine ⟨[str y], (idx rfl hy), ?_⟩)
        (refine yk (y1 rfl (y2 rfl (zs_n rfl rfl rfl (zqX zI ?_)))); refine ⟨_, _, (slices_isNaN y), ?_⟩)
        (refine zkn rfl rfl (zst_p (y1 rfl (y0 rfl (y0 rfl (y1 rfl (y1 rfl (yP rfl (yA rfl (yA rfl (yR zi ?_)))))))))); refine And.intro ?_ trivial)
        have h4 : hasB l x = false := no_hasB hs q3 hy (q4 a y (Nat.le_refl _) hy) (by simpa using h3)
        rw [hb, h4]
        rfl
    · rw [lm] at h2
      ((refine zg_f (zst_p (y0 rfl (y0 rfl (y0 rfl (y0 rfl (y0 rfl (y0 rfl (zo_gu rfl rfl rfl rfl (zst_p (zo_gu rfl rfl rfl rfl (zst_p (zo_gu rfl rfl rfl rfl (zst_p ?_))))))))))))); refine zo_gu rfl rfl rfl rfl (zst_p (zo_gu rfl rfl rfl rfl (zst_p (zo_gu rfl rfl rfl rfl (zst_p (zo_gu rfl rfl rfl rfl (zst_p (zo_gu rfl rfl rfl rfl (zst_p (zo_gu rfl rfl rfl rfl (zst_p (y0 rfl (yP rfl ?_))))))))))))); refine yA rfl (yA rfl (yR zi ?_))); refine And.intro ?_ trivial)
      have h4 : hasB l x = false := by
        rw [Bool.eq_false_iff]
        intro h4
        obtain ⟨k, hk⟩ := List.mem_iff_getElem?.1 (hasB_iff.1 h4)
        have := q3 k x (by have := (List.getElem?_eq_some_iff.1 hk).1; omega) hk
        rw [ltS_irrefl] at this; cases this
      rw [hb, h4]
      rfl
end Go.Proofs.YthjfllfhagdnpaaGreatDoor.M
namespace Go.Proofs.YthjfllfhagdnpaaGreatDoor.M
open Go.AM Go.RowKit Go.Lib
open Reg (Rect Spans Band)

/-- the first answer that is not 0, from `i`, `n` of them -/
def firstN (f : Nat → Int) (i : Nat) : Nat → Int
  | 0 => 0
  | n + 1 => if f i = 0 then firstN f (i + 1) n else f i
theorem firstN_none {f : Nat → Int} : ∀ {n i : Nat}, (∀ k, i ≤ k → k < i + n → f k = 0) → firstN f i n = 0
  | 0, _, _ => rfl
  | n + 1, i, h => by
    rw [firstN, if_pos (h i (Nat.le_refl _) (by omega))]
    exact firstN_none fun k h1 h2 => h k (by omega) (by omega)
theorem firstN_at {f : Nat → Int} {m : Nat} (hm : f m ≠ 0) : ∀ {n i : Nat}, (∀ k, i ≤ k → k < m → f k = 0) → i ≤ m → m < i + n → firstN f i n = f m
  | 0, i, _, h1, h2 => by omega
  | n + 1, i, h, h1, h2 => by
    rw [firstN]
    by_cases e : i = m
    · subst e; rw [if_neg hm]
    · rw [if_pos (h i (Nat.le_refl _) (by omega))]
      exact firstN_at hm (fun k h3 h4 => h k (by omega) h4) (by omega) (by omega)
/-- the text before the `j`-th is not less: out of order -/
def backAt (l : List ByteArray) (j : Nat) : Bool := match l[j]?, l[j - 1]? with
  | some a, some b => decide (0 < j) && (ltS a b || decide (a = b))
  | _, _ => false
def seenIn (cs : List Class) (x : ByteArray) : Bool := cs.any fun c => hasB c.nets x
def netFault (cs : List Class) (i : Nat) (l : List ByteArray) (j : Nat) : Int := match l[j]? with
  | some y => if pathB y = true then (if backAt l j = true then 8 else if seenIn (cs.take i) y = true then 7 else 0) else 5
  | none => 0
def classFault (cs : List Class) (i : Nat) : Int := match cs[i]? with
  | some c => if wordB c.name = true then (if 1000 < c.nets.length then 2 else
      if firstN (netFault cs i c.nets) 0 c.nets.length = 0 then
        (if (isRule c.clearance && isRule c.width) = true then (if backAt (cs.map Class.name) i = true then 8 else 0) else 1)
      else firstN (netFault cs i c.nets) 0 c.nets.length) else 5
  | none => 0
theorem vEq_str (a b : ByteArray) : vEq (.string a) (.string b) = decide (a = b) := rfl
theorem vEq_of {k : ByteArray} {k' : Value} (h : vEq (.string k) k' = true) : k' = .string k := by
  cases k' <;> simp_all [vEq]
theorem mget_mput (v : PV) (k n : ByteArray) : ∀ es : List (Value × PV), mget (mput es (.string k) v) (.string n) = if n = k then some v else mget es (.string n)
  | [] => by
    simp only [mput, mget, vEq_str]
    by_cases h : n = k <;> simp [h]
  | (k', u) :: r => by
    simp only [mput]
    cases h : vEq (.string k) k'
    · simp only [mget, mget_mput v k n r]
      by_cases e : n = k
      · subst e; simp [h]
      · simp [e]
    · have e := vEq_of h
      subst e
      simp only [mget, vEq_str]
      by_cases e : n = k <;> simp [e]
def strOK (s : ByteArray) : Prop := s.size < 4294967281
def classOK (c : Class) : Prop := strOK c.name ∧ c.nets.length ≤ 1048576 ∧ ∀ s ∈ c.nets, strOK s
set_option maxRecDepth 100000 in
set_option maxHeartbeats 1000000 in
theorem house_checkClasses (cs : List Class) (hok : ∀ c ∈ cs, classOK c) (hN : cs.length ≤ 1048576) : ACalls C 198 [.pv (.sl (cs.map kl))] (.p (i64 (if 50 < cs.length then 2 else firstN (classFault cs) 0 cs.length))) [] := by
  refine fun_go hC Tryz.func198 rfl rfl 93 rfl (by decide) (by kernel_rfl) fun _ _ _ _ _ => ?_
  have lm := len_map cs kl
  (refine yS (yA rfl (yT (zw_s (yS (yP rfl (yP rfl (yP rfl (yT (zw_c rfl ?_))))))))); refine bcase_split (fun h0 => ?_) (fun h0 => ?_) <;> try simp only [zB] at h0)
  · (refine yS (yA rfl (yT (zw_r (zt_r (ze_r zi ?_))))); refine And.intro ?_ trivial)
    rw [if_pos (by omega)]; rfl
  · rw [if_neg (by omega)]
    (refine zw_k (zt_n (yS (yn rfl (zq1 zI (zkns (zst_ow (zo_n rfl (zs_as rfl rfl rfl (zas_o rfl) (zst_ow (yT (zw_s (yS (yP rfl ?_))))))))))))); refine yP rfl (yP rfl (yT (zw_b ?_))))
    refine loop_ok' (fun p : Nat × List (Value × PV) => p.1 ≤ cs.length ∧ (∀ k, k < p.1 → classFault cs k = 0) ∧ ∀ n, mget p.2 (.string n) = if seenIn (cs.take p.1) n = true then some (bool true) else none) (fun p => [(0, .p (.sl (cs.map kl))), (3, .ow 13), (14, .p (.sl (cs.map kl))), (15, .p (i64 (cs.map kl).length)), (16, .p (i64 p.1))]) (fun p => [(13, .map .str p.2)]) (fun p => cs.length - p.1) (0, []) _ (SLe.refl _ _) ⟨Nat.zero_le _, fun k h => by omega, fun n => rfl⟩ ⟨rfl, rfl, rfl, rfl, rfl, trivial⟩ ⟨rfl, trivial⟩ fun ⟨i, es⟩ hi t h => ?_
    obtain ⟨q1, q2, q3⟩ := hi
    (refine yS (yP rfl (yT (zw_s (zw_c rfl ?_)))); refine bcase_split (fun h1 => ?_) (fun h1 => ?_) <;> try simp only [zB] at h1)
    · obtain ⟨c, hc⟩ := get_of (l := cs) (i := i) (by omega)
      obtain ⟨o1, o2, o3⟩ := hok c (List.mem_of_getElem? hc)
      have bad : classFault cs i ≠ 0 → firstN (classFault cs) 0 cs.length = classFault cs i := fun hb => firstN_at hb (fun k _ hk => q2 k hk) (Nat.zero_le _) (by omega)
      have cf : classFault cs i = (if wordB c.name = true then (if 1000 < c.nets.length then 2 else
      if firstN (netFault cs i c.nets) 0 c.nets.length = 0 then
        (if (isRule c.clearance && isRule c.width) = true then (if backAt (cs.map Class.name) i = true then 8 else 0) else 1)
      else firstN (netFault cs i c.nets) 0 c.nets.length) else 5) := by rw [classFault, hc]
      have lc := len_map c.nets fun s => [str s]
      (refine zw_k (zt_n (zw_s (zw_b (yS (yP rfl (yq rfl (zqX zI ?_))))))); refine ⟨(kl c), (idx rfl hc), ?_⟩)
      ((refine yk (yP rfl (yn rfl (zq1 zI (zkns (zst_bx (yA rfl (yq rfl (zq1 zI (zkq (zst_e (zst_0 (yT (zw_s ?_))))))))))))); refine yS (yV rfl (yP rfl (yn rfl (zqX zI ?_))))); refine ⟨_, _, (house_isWord c.name (by have : c.name.size < 4294967281 := o1; omega)), ?_⟩)
      (refine zkn rfl rfl (zst_p (yP rfl (yT (zw_c rfl ?_)))); refine bcase_split (fun h2 => ?_) (fun h2 => ?_) <;> try simp only [zB] at h2)
      · (refine yS (yA rfl (yT (zw_r (zt_r (zb_r (zt_r (zt_r (zb_r (zt_r (ze_r zi ?_)))))))))); refine And.intro ?_ trivial)
        rw [if_neg (by simp [h2])] at cf
        rw [bad (by rw [cf]; decide), cf]; rfl
      · rw [if_pos (by simpa using h2)] at cf
        (refine zw_k (zt_n (zw_s (yS (yV rfl (yP rfl (yP rfl (yP rfl (yT (zw_c rfl ?_))))))))); refine bcase_split (fun h3 => ?_) (fun h3 => ?_) <;> try simp only [zB] at h3)
        · (refine yS (yA rfl (yT (zw_r (zt_r (zb_r (zt_r (zt_r (zb_r (zt_r (ze_r zi ?_)))))))))); refine And.intro ?_ trivial)
          rw [if_pos (by omega)] at cf
          rw [bad (by rw [cf]; decide), cf]; rfl
        · rw [if_neg (by omega)] at cf
          refine zw_k (zt_n (zw_s (yS (yV rfl (yP rfl (yP rfl (yP rfl (yT (zw_b ?_)))))))))
          refine loop_ok' (fun j : Nat => j ≤ c.nets.length ∧ ∀ k, k < j → netFault cs i c.nets k = 0) (fun j => [(0, .p (.sl (cs.map kl))), (3, .ow 13), (14, .p (.sl (cs.map kl))), (15, .p (i64 (cs.map kl).length)), (16, .p (i64 i)), (4, .p (i64 i)), (5, .bx 5 0), (30, .p (strs c.nets)), (31, .p (i64 (c.nets.map fun s => [str s]).length)), (32, .p (i64 j))]) (fun _ => [(5, .box [.p (str c.name), .p (strs c.nets), .p (i64 c.clearance), .p (i64 c.width)]), (13, .map .str es)]) (fun j => c.nets.length - j) 0 _ (SLe.refl _ _) ⟨Nat.zero_le _, fun k h => by omega⟩ ⟨rfl, rfl, rfl, rfl, rfl, rfl, rfl, rfl, rfl, rfl, trivial⟩ ⟨rfl, rfl, trivial⟩ fun j hj t h => ?_
          obtain ⟨p1, p2⟩ := hj
          (refine yS (yP rfl (yT (zw_s (zw_c rfl ?_)))); refine bcase_split (fun h4 => ?_) (fun h4 => ?_) <;> try simp only [zB] at h4)
          · obtain ⟨y, hy⟩ := get_of (l := c.nets) (i := j) (by omega)
            have nbad : netFault cs i c.nets j ≠ 0 → firstN (classFault cs) 0 cs.length = netFault cs i c.nets j := fun hb => by
              have e : firstN (netFault cs i c.nets) 0 c.nets.length = netFault cs i c.nets j := firstN_at hb (fun k _ hk => p2 k hk) (Nat.zero_le _) (by omega)
              rw [e, if_neg hb] at cf
              rw [bad (by rw [cf]; exact hb), cf]
            have nf : netFault cs i c.nets j = (if pathB y = true then (if backAt c.nets j = true then 8 else if seenIn (cs.take i) y = true then 7 else 0) else 5) := by rw [netFault, hy]
            (refine zw_k (zt_n (zw_s (zw_b (yS (yP rfl (yq rfl (zqX zI ?_))))))); refine ⟨[str y], (idx rfl hy), ?_⟩)
            (refine yk (yP rfl (yA rfl (yA rfl (yT (zw_b (yS (yP rfl (yn rfl (zqX zI ?_))))))))); refine ⟨_, _, (house_isPath y (o3 y (List.mem_of_getElem? hy))), ?_⟩)
            (refine zkn rfl rfl (zst_p (yP rfl (yA rfl (yT (zw_c rfl ?_))))); refine bcase_split (fun h5 => ?_) (fun h5 => ?_) <;> try simp only [zB] at h5)
            · ((refine yS (yA rfl (yT (zw_r (zb_r (zb_r (zt_r (zt_r (zb_r (zt_r (zb_r (zt_r (zt_r (zb_r ?_))))))))))))); refine zt_r (ze_r zi ?_)); refine And.intro ?_ trivial)
              rw [if_neg (by simp [h5])] at nf
              rw [nbad (by rw [nf]; decide), nf]; rfl
            · rw [if_pos (by simpa using h5)] at nf
              have q := q3 y
              have next : netFault cs i c.nets j = 0 → ∀ k, k < j + 1 → netFault cs i c.nets k = 0 := fun h0 k hk => by
                by_cases e : k = j
                · subst e; exact h0
                · exact p2 k (by omega)
              (refine yS (yP rfl (yP rfl (yP rfl (yg rfl ?_)))); refine bcase_split (fun h6 => ?_) (fun h6 => ?_) <;> try simp only [zB] at h6)
              · obtain ⟨z, hz⟩ := get_of (l := c.nets) (i := j - 1) (by omega)
                have bk : backAt c.nets j = (ltS y z || decide (y = z)) := by
                  simp only [backAt, hy, hz]
                  rw [decide_eq_true (by omega : 0 < j)]; rfl
                (refine zg_t (zs_q rfl rfl (zq1 zI (yk (y2 rfl (zs_q rfl rfl (zq1 zI (zkq (zst_bx (y1 rfl (y1 rfl (y2 rfl (zs_q rfl rfl (zqA zI ?_))))))))))))); refine And.intro ⟨by omega, by omega⟩ ?_)
                (refine yk (y2 rfl (zs_q rfl rfl (zqX zI ?_))); refine ⟨[str z], (idx (show (j : Int) - 1 = ((j - 1 : Nat) : Int) by omega) hz), ?_⟩)
                (refine yk (y1 rfl (y1 rfl (yP rfl (yA rfl (yT (zw_c rfl ?_)))))); refine bcase_split (fun h7 => ?_) (fun h7 => ?_) <;> try simp only [zB] at h7)
                · ((refine yS (yA rfl (yT (zw_r (zb_r (zb_r (zt_r (zt_r (zb_r (zt_r (zb_r (zt_r (zt_r (zb_r ?_))))))))))))); refine zt_r (ze_r zi ?_)); refine And.intro ?_ trivial)
                  have h7 : (ltS y z || decide (y = z)) = true := by simpa [ltS] using h7
                  rw [bk, h7, if_pos rfl] at nf
                  rw [nbad (by rw [nf]; decide), nf]; rfl
                · have h7 : (ltS y z || decide (y = z)) = false := by simpa [ltS] using h7
                  rw [bk, h7, if_neg (by decide)] at nf
                  cases hS : seenIn (cs.take i) y
                  · rw [hS] at q nf
                    (refine yS (yq rfl (zq1 zI (zkq (zst_ow (yP rfl (yq rfl (zqX zI ?_))))))); refine ⟨none, q, ?_⟩)
                    (refine yk (yA rfl (yT (zw_c rfl (zc_f (zw_k (zb_n (zb_n (zt_n (zw_o (yq rfl (zqA zI ?_))))))))))); refine And.intro ⟨by omega, by omega⟩ ?_)
                    (refine yk (yP rfl (yT (zaf_raw ?_))); refine ⟨(j + 1), _, SLe.refl _ _, ?_⟩)
                    exact ⟨⟨by omega, next (by simpa using nf)⟩, by omega, ⟨rfl, rfl, rfl, rfl, rfl, rfl, rfl, rfl, rfl, rfl, trivial⟩, ⟨rfl, rfl, trivial⟩⟩
                  · rw [hS] at q nf
                    rw [if_pos rfl] at nf
                    (refine yS (yq rfl (zq1 zI (zkq (zst_ow (yP rfl (yq rfl (zqX zI ?_))))))); refine ⟨(some (bool true)), q, ?_⟩)
                    ((refine yk (yA rfl (yT (zw_c rfl (zc_t (yS (yA rfl (yT (zw_r (zb_r (zb_r (zt_r (zt_r (zb_r ?_))))))))))))); refine zt_r (zb_r (zt_r (zt_r (zb_r (zt_r (ze_r zi ?_))))))); refine And.intro ?_ trivial)
                    rw [nbad (by rw [nf]; decide), nf]; rfl
              · have h0 : j = 0 := by omega
                have bk : backAt c.nets j = false := by
                  subst h0
                  simp only [backAt, hy]
                  rfl
                rw [bk, if_neg (by decide)] at nf
                cases hS : seenIn (cs.take i) y
                · rw [hS] at q nf
                  ((refine zg_f (zst_p (y0 rfl (y0 rfl (y0 rfl (y0 rfl (y0 rfl (y0 rfl (y0 rfl (yP rfl (yA rfl (yT (zw_c rfl (zc_f ?_))))))))))))); refine yS (yq rfl (zq1 zI (zkq (zst_ow (yP rfl (yq rfl (zqX zI ?_)))))))); refine ⟨none, q, ?_⟩)
                  (refine yk (yA rfl (yT (zw_c rfl (zc_f (zw_k (zb_n (zb_n (zt_n (zw_o (yq rfl (zqA zI ?_))))))))))); refine And.intro ⟨by omega, by omega⟩ ?_)
                  (refine yk (yP rfl (yT (zaf_raw ?_))); refine ⟨(j + 1), _, SLe.refl _ _, ?_⟩)
                  exact ⟨⟨by omega, next (by simpa using nf)⟩, by omega, ⟨rfl, rfl, rfl, rfl, rfl, rfl, rfl, rfl, rfl, rfl, trivial⟩, ⟨rfl, rfl, trivial⟩⟩
                · rw [hS] at q nf
                  rw [if_pos rfl] at nf
                  ((refine zg_f (zst_p (y0 rfl (y0 rfl (y0 rfl (y0 rfl (y0 rfl (y0 rfl (y0 rfl (yP rfl (yA rfl (yT (zw_c rfl (zc_f ?_))))))))))))); refine yS (yq rfl (zq1 zI (zkq (zst_ow (yP rfl (yq rfl (zqX zI ?_)))))))); refine ⟨(some (bool true)), q, ?_⟩)
                  ((refine yk (yA rfl (yT (zw_c rfl (zc_t (yS (yA rfl (yT (zw_r (zb_r (zb_r (zt_r (zt_r (zb_r ?_))))))))))))); refine zt_r (zb_r (zt_r (zt_r (zb_r (zt_r (ze_r zi ?_))))))); refine And.intro ?_ trivial)
                  rw [nbad (by rw [nf]; decide), nf]; rfl
          · have z0 : firstN (netFault cs i c.nets) 0 c.nets.length = 0 := firstN_none fun k _ hk => p2 k (by omega)
            rw [if_pos z0] at cf
            refine zw_x (zt_x (zt_x (zb_h (zt_n (zw_s (yS (yV rfl (yP rfl (yP rfl (yP rfl (yT (zw_b ?_))))))))))))
            refine loop_ok' (fun p : Nat × List (Value × PV) => p.1 ≤ c.nets.length ∧ ∀ n, mget p.2 (.string n) = if (seenIn (cs.take i) n || hasB (c.nets.take p.1) n) = true then some (bool true) else none) (fun p => [(0, .p (.sl (cs.map kl))), (3, .ow 13), (14, .p (.sl (cs.map kl))), (15, .p (i64 (cs.map kl).length)), (16, .p (i64 i)), (4, .p (i64 i)), (5, .bx 5 0), (60, .p (strs c.nets)), (61, .p (i64 (c.nets.map fun s => [str s]).length)), (62, .p (i64 p.1))]) (fun p => [(5, .box [.p (str c.name), .p (strs c.nets), .p (i64 c.clearance), .p (i64 c.width)]), (13, .map .str p.2)]) (fun p => c.nets.length - p.1) (0, es) _ (SLe.refl _ _) ⟨Nat.zero_le _, fun n => by rw [show hasB (c.nets.take 0) n = false from rfl, Bool.or_false]; exact q3 n⟩ ⟨rfl, rfl, rfl, rfl, rfl, rfl, rfl, rfl, rfl, rfl, trivial⟩ ⟨rfl, rfl, trivial⟩ fun ⟨j, es'⟩ hj t h => ?_
            obtain ⟨r1, r2⟩ := hj
            (refine yS (yP rfl (yT (zw_s (zw_c rfl ?_)))); refine bcase_split (fun h9 => ?_) (fun h9 => ?_) <;> try simp only [zB] at h9)
            · obtain ⟨y, hy⟩ := get_of (l := c.nets) (i := j) (by omega)
              (refine zw_k (zt_n (zw_s (zw_b (yS (yq rfl (zqX zI ?_)))))); refine ⟨[str y], (idx rfl hy), ?_⟩)
              ((refine yk (yP rfl (yA rfl (yT (zw_o (yq rfl (zq1 zI (zkq (zst_ow (yP rfl (yq rfl (zq1 zI (zkq (zst_e ?_))))))))))))); refine zst_0 (zo_0 (zb_n (zt_n (zw_o (yq rfl (zqA zI ?_))))))); refine And.intro ⟨by omega, by omega⟩ ?_)
              (refine yk (yP rfl (yT (zaf_raw ?_))); refine ⟨(j + 1, mput es' (.string y) (bool true)), _, SLe.refl _ _, ?_⟩)
              refine ⟨⟨by omega, fun n => ?_⟩, by omega, ⟨rfl, rfl, rfl, rfl, rfl, rfl, rfl, rfl, rfl, rfl, trivial⟩, ⟨rfl, rfl, trivial⟩⟩
              simp only
              rw [mget_mput, take_succ' hy]
              by_cases e : n = y
              · subst e
                rw [if_pos rfl, if_pos]
                simp [hasB]
              · rw [if_neg e, r2 n]
                have : hasB (c.nets.take j ++ [y]) n = hasB (c.nets.take j) n := by
                  unfold hasB
                  rw [List.any_append]
                  rw [show ([y].any fun z => decide (z = n)) = (decide (y = n) || false) from rfl, decide_eq_false (fun h : y = n => e h.symm)]
                  simp
                rw [this]
            · have e9 : j = c.nets.length := by simp only at r1; omega
              have s1 : ∀ n, mget es' (.string n) = if seenIn (cs.take (i + 1)) n = true then some (bool true) else none := fun n => by
                rw [r2 n, e9, List.take_length, take_succ' hc]
                have : seenIn (cs.take i ++ [c]) n = (seenIn (cs.take i) n || hasB c.nets n) := by
                  unfold seenIn
                  rw [List.any_append]
                  simp
                rw [this]
              have bn : ∀ d, cs[i - 1]? = some d → 0 < i → backAt (cs.map Class.name) i = (ltS c.name d.name || decide (c.name = d.name)) := fun d hd h0 => by
                simp only [backAt, List.getElem?_map, hc, hd, Option.map_some]
                rw [decide_eq_true h0]; rfl
              have nextc : classFault cs i = 0 → ∀ k, k < i + 1 → classFault cs k = 0 := fun h0 k hk => by
                by_cases e : k = i
                · subst e; exact h0
                · exact q2 k (by simp only; omega)
              (refine zw_x (zt_x (zt_x (zb_h (zt_n (zw_s (yS (yV rfl (yP rfl (yn rfl (zqX zI ?_)))))))))); refine ⟨_, _, (rules_isRule c.clearance), ?_⟩)
              (refine zkn rfl rfl (zst_p (yP rfl (yP rfl (yg rfl ?_)))); refine bcase_split (fun g1 => ?_) (fun g1 => ?_) <;> try simp only [zB] at g1)
              · ((refine zg_f (zst_p (y0 rfl (y0 rfl (y0 rfl (yP rfl (yT (zw_c rfl (zc_t (yS (yA rfl (yT (zw_r (zt_r ?_))))))))))))); refine zb_r (zt_r (zt_r (zb_r (zt_r (ze_r zi ?_)))))); refine And.intro ?_ trivial)
                rw [if_neg (by simp [g1])] at cf
                rw [bad (by rw [cf]; decide), cf]; rfl
              · (refine zg_t (zs_q rfl rfl (zq1 zI (zkq (zst_bx (y1 rfl (y2 rfl (zs_n rfl rfl rfl (zqX zI ?_)))))))); refine ⟨_, _, (rules_isRule c.width), ?_⟩)
                (refine zkn rfl rfl (zst_p (y1 rfl (yP rfl (yT (zw_c rfl ?_))))); refine bcase_split (fun g2 => ?_) (fun g2 => ?_) <;> try simp only [zB] at g2)
                · (refine yS (yA rfl (yT (zw_r (zt_r (zb_r (zt_r (zt_r (zb_r (zt_r (ze_r zi ?_)))))))))); refine And.intro ?_ trivial)
                  rw [if_neg (by simp [g2])] at cf
                  rw [bad (by rw [cf]; decide), cf]; rfl
                · rw [if_pos (by simp [g1, g2])] at cf
                  (refine zw_k (zt_n (zw_s (zw_d false [true, true, true, true, true, true, true, true, true, true, true, true, true] rfl (by kernel_rfl) (zp_q rfl (yD rfl (yD rfl (yD rfl (dg rfl ?_)))))))); refine bcase_split (fun g3 => ?_) (fun g3 => ?_) <;> try simp only [zB] at g3)
                  · obtain ⟨d, hd⟩ := get_of (l := cs) (i := i - 1) (by omega)
                    (refine zg_t (zd_q rfl (zq1 zI (zkd (zst_bx (d1 rfl (d1 rfl (d1 rfl (d2 rfl (zd_q rfl (zqA zI ?_)))))))))); refine And.intro ⟨by omega, by omega⟩ ?_)
                    (refine zkd (zst_p (d2 rfl (zd_q rfl (zqX zI ?_)))); refine ⟨(kl d), (idx (show (i : Int) - 1 = ((i - 1 : Nat) : Int) by omega) hd), ?_⟩)
                    rw [bn d hd (by omega)] at cf
                    (refine zkd (zst_p (d1 rfl (d1 rfl (d1 rfl (yD rfl (zd_0 (zr_q rfl (zt_n (zw_c rfl ?_))))))))); refine bcase_split (fun g4 => ?_) (fun g4 => ?_) <;> try simp only [zB] at g4)
                    · (refine yS (yA rfl (yT (zw_r (zb_r (zt_r (zt_r (zb_r (zt_r (ze_r zi ?_))))))))); refine And.intro ?_ trivial)
                      have g4 : (ltS c.name d.name || decide (c.name = d.name)) = true := by simpa [ltS] using g4
                      rw [g4, if_pos rfl] at cf
                      rw [bad (by rw [cf]; decide), cf]; rfl
                    · have g4 : (ltS c.name d.name || decide (c.name = d.name)) = false := by simpa [ltS] using g4
                      rw [g4, if_neg (by decide)] at cf
                      (refine zw_k (zb_n (zt_n (zw_o (yq rfl (zqA zI ?_))))); refine And.intro ⟨by omega, by omega⟩ ?_)
                      (refine yk (yP rfl (yT (zaf_raw ?_))); refine ⟨(i + 1, es'), _, SLe.refl _ _, ?_⟩)
                      exact ⟨⟨by omega, nextc cf, s1⟩, by omega, ⟨rfl, rfl, rfl, rfl, rfl, trivial⟩, ⟨rfl, trivial⟩⟩
                  · have h0 : i = 0 := by omega
                    have bk : backAt (cs.map Class.name) i = false := by
                      subst h0
                      simp only [backAt, List.getElem?_map, hc]
                      rfl
                    rw [bk, if_neg (by decide)] at cf
                    ((refine zg_f (zst_p (d0 rfl (d0 rfl (d0 rfl (d0 rfl (d0 rfl (d0 rfl (d0 rfl (d0 rfl (yD rfl (zd_0 (zr_q rfl (zt_n ?_))))))))))))); refine zw_c rfl (zc_f (zw_k (zb_n (zt_n (zw_o (yq rfl (zqA zI ?_)))))))); refine And.intro ⟨by omega, by omega⟩ ?_)
                    (refine yk (yP rfl (yT (zaf_raw ?_))); refine ⟨(i + 1, es'), _, SLe.refl _ _, ?_⟩)
                    exact ⟨⟨by omega, nextc cf, s1⟩, by omega, ⟨rfl, rfl, rfl, rfl, rfl, trivial⟩, ⟨rfl, trivial⟩⟩
    · have e1 : i = cs.length := by simp only at q1; omega
      (refine zw_x (zt_x (zt_x (zb_h (zt_n (yS (yA rfl (yR zi ?_))))))); refine And.intro ?_ trivial)
      rw [firstN_none fun k _ hk => q2 k (by simp only; omega)]
      rfl
end Go.Proofs.YthjfllfhagdnpaaGreatDoor.M
namespace Go.Proofs.YthjfllfhagdnpaaGreatDoor.M
open Go.AM Go.RowKit Go.Lib
open Reg (Rect Spans Band)

def areaFault (al : List Area) (i : Nat) : Int := match al[i]? with
  | some a => if (decide (-1 ≤ a.layer) && decide (a.layer ≤ 15)) = true then (if Reg.checkRegion a.region = 0 then (if isRule a.clearance = true then 0 else 1) else Reg.checkRegion a.region) else 1
  | none => 0
def rectSum : List Area → Nat
  | [] => 0
  | a :: r => a.region.length + rectSum r
theorem rectSum_app (a b : List Area) : rectSum (a ++ b) = rectSum a + rectSum b := by
  induction a with
  | nil => simp [rectSum]
  | cons x r ih => simp [rectSum, ih]; omega
def numsOK (r : Rules) : Bool := isRule r.clearance && isRule r.width && isRule r.ring && isRule r.edge && isRule r.holeGap
def classesFault (cs : List Class) : Int := if 50 < cs.length then 2 else firstN (classFault cs) 0 cs.length
def areasFault (al : List Area) : Int := if 50 < al.length then 2 else if firstN (areaFault al) 0 al.length = 0 then (if 2000 < rectSum al then 2 else 0) else firstN (areaFault al) 0 al.length
/-- what is wrong with the rules -/
def rulesFault (r : Rules) : Int := if numsOK r = true then (if classesFault r.classes = 0 then areasFault r.areas else classesFault r.classes) else 1
theorem region_len {l : List Rect} (h : Reg.checkRegion l = 0) : l.length ≤ 1000000 := by
  unfold Reg.checkRegion at h
  by_cases h0 : Reg.checkRects l = 0
  · have := (Reg.rects_good h0).1
    omega
  · rw [if_neg h0] at h; exact absurd h h0
def rulesOK (r : Rules) : Prop := (∀ c ∈ r.classes, classOK c) ∧ r.classes.length ≤ 1048576 ∧ r.areas.length ≤ 1048576
def rbox (r : Rules) : List AV := [.p (i64 r.clearance), .p (i64 r.width), .p (i64 r.ring), .p (i64 r.edge), .p (i64 r.holeGap), .p (.sl (r.classes.map kl)), .p (.sl (r.areas.map arr))]
set_option maxRecDepth 100000 in
set_option maxHeartbeats 1000000 in
theorem house_checkRules (r : Rules) (ho : rulesOK r) : ACalls C 104 [.pv (.ag (rl r))] (.p (i64 (rulesFault r))) [] := by
  refine fun_go hC Tryz.func104 rfl rfl 59 rfl (by decide) (by kernel_rfl) fun _ _ _ _ _ => ?_
  obtain ⟨o1, o2, o3⟩ := ho
  ((refine yS (yn rfl (zq1 zI (zkns (zst_bx (yA rfl (yT (zw_s (yS (yV rfl (yP rfl (yV rfl (yP rfl (yV rfl ?_))))))))))))); refine yP rfl (yV rfl (yP rfl (yV rfl (yP rfl (yn rfl (zq1 zI (zkns (zst_ow (yn rfl (zqX zI ?_))))))))))); refine ⟨_, _, (contains_int [r.clearance, r.width, r.ring, r.edge, r.holeGap] (by simp)), ?_⟩)
  have nb : ([r.clearance, r.width, r.ring, r.edge, r.holeGap].any fun n => !isRule n) = !numsOK r := by
    simp [numsOK, Bool.not_and, Bool.or_assoc]
  rw [nb]
  (refine zkn rfl rfl (zst_p (yT (zw_c rfl ?_))); refine bcase_split (fun h0 => ?_) (fun h0 => ?_) <;> try simp only [zB] at h0)
  · (refine yS (yA rfl (yT (zw_r (zt_r (ze_r zi ?_))))); refine And.intro ?_ trivial)
    rw [rulesFault, if_neg (by simp [h0])]; rfl
  · rw [rulesFault, if_pos (by simpa using h0)]
    (refine zw_k (zt_n (zw_s (yS (yV rfl (yP rfl (yn rfl (zqX zI ?_))))))); refine ⟨_, _, (house_checkClasses r.classes o1 o2), ?_⟩)
    (refine zkn rfl rfl (zst_p (yA rfl (yU (yP rfl (yP rfl (yT (zw_c rfl ?_))))))); refine bcase_split (fun h1 => ?_) (fun h1 => ?_) <;> try simp only [zB] at h1)
    · (refine yS (yP rfl (yA rfl (yT (zw_r (zt_r (ze_r zi ?_)))))); refine And.intro ?_ trivial)
      rw [if_neg (show ¬ classesFault r.classes = 0 from by simpa [classesFault] using h1)]; rfl
    · rw [if_pos (show classesFault r.classes = 0 from by simpa [classesFault] using h1)]
      have lm := len_map r.areas arr
      (refine zw_k (zt_n (zw_s (yS (yV rfl (yP rfl (yP rfl (yP rfl (yT (zw_c rfl ?_))))))))); refine bcase_split (fun h2 => ?_) (fun h2 => ?_) <;> try simp only [zB] at h2)
      · (refine yS (yA rfl (yT (zw_r (zt_r (ze_r zi ?_))))); refine And.intro ?_ trivial)
        rw [areasFault, if_pos (by omega)]; rfl
      · rw [areasFault, if_neg (by omega)]
        refine zw_k (zt_n (yS (yA rfl (yT (zw_s (yS (yV rfl (yP rfl (yP rfl (yP rfl (yT (zw_b ?_))))))))))))
        refine loop_ok' (fun i : Nat => i ≤ r.areas.length ∧ (∀ k, k < i → areaFault r.areas k = 0) ∧ rectSum (r.areas.take i) ≤ i * 1000000) (fun i => [(4, .p (i64 (rectSum (r.areas.take i)))), (31, .p (.sl (r.areas.map arr))), (32, .p (i64 (r.areas.map arr).length)), (33, .p (i64 i))]) (fun _ => []) (fun i => r.areas.length - i) 0 _ (SLe.refl _ _) ⟨Nat.zero_le _, fun k h => by omega, by simp [rectSum]⟩ ⟨rfl, rfl, rfl, rfl, trivial⟩ trivial fun i hi t h => ?_
        obtain ⟨q1, q2, q3⟩ := hi
        (refine yS (yP rfl (yT (zw_s (zw_c rfl ?_)))); refine bcase_split (fun h3 => ?_) (fun h3 => ?_) <;> try simp only [zB] at h3)
        · obtain ⟨a, ha⟩ := get_of (l := r.areas) (i := i) (by omega)
          have bad : areaFault r.areas i ≠ 0 → firstN (areaFault r.areas) 0 r.areas.length = areaFault r.areas i := fun hb => firstN_at hb (fun k _ hk => q2 k hk) (Nat.zero_le _) (by omega)
          have cf : areaFault r.areas i = (if (decide (-1 ≤ a.layer) && decide (a.layer ≤ 15)) = true then (if Reg.checkRegion a.region = 0 then (if isRule a.clearance = true then 0 else 1) else Reg.checkRegion a.region) else 1) := by rw [areaFault, ha]
          have la := len_map a.region rc
          (refine zw_k (zt_n (zw_s (zw_b (yS (yq rfl (zqX zI ?_)))))); refine ⟨(arr a), (idx rfl ha), ?_⟩)
          ((refine yk (yP rfl (yn rfl (zq1 zI (zkns (zst_bx (yq rfl (zq1 zI (zkq (zst_e (zst_0 (yT (zw_s (yS ?_))))))))))))); refine yV rfl (yP rfl (yn rfl (zqX zI ?_)))); refine ⟨_, _, (rules_within a.layer (-1) 15), ?_⟩)
          (refine zkn rfl rfl (zst_p (yP rfl (yT (zw_c rfl ?_)))); refine bcase_split (fun h4 => ?_) (fun h4 => ?_) <;> try simp only [zB] at h4)
          · (refine yS (yA rfl (yT (zw_r (zt_r (zb_r (zt_r (zt_r (zb_r (zt_r (ze_r zi ?_)))))))))); refine And.intro ?_ trivial)
            rw [if_neg (by simpa using h4)] at cf
            rw [bad (by rw [cf]; decide), cf]; rfl
          · rw [if_pos (by simpa using h4)] at cf
            (refine zw_k (zt_n (zw_s (yS (yV rfl (yP rfl (yn rfl (zqX zI ?_))))))); refine ⟨_, _, (house_checkRegion a.region), ?_⟩)
            (refine zkn rfl rfl (zst_p (yA rfl (yU (yP rfl (yP rfl (yT (zw_c rfl ?_))))))); refine bcase_split (fun h5 => ?_) (fun h5 => ?_) <;> try simp only [zB] at h5)
            · (refine yS (yP rfl (yA rfl (yT (zw_r (zt_r (zb_r (zt_r (zt_r (zb_r (zt_r (ze_r zi ?_))))))))))); refine And.intro ?_ trivial)
              have h5 : ¬ Reg.checkRegion a.region = 0 := by simpa using h5
              rw [if_neg h5] at cf
              rw [bad (by rw [cf]; exact h5), cf, if_neg h5]
            · have h5 : Reg.checkRegion a.region = 0 := by simpa using h5
              rw [if_pos h5] at cf
              have hl := region_len h5
              (refine zw_k (zt_n (zw_s (yS (yV rfl (yP rfl (yn rfl (zqX zI ?_))))))); refine ⟨_, _, (rules_isRule a.clearance), ?_⟩)
              (refine zkn rfl rfl (zst_p (yP rfl (yT (zw_c rfl ?_)))); refine bcase_split (fun h6 => ?_) (fun h6 => ?_) <;> try simp only [zB] at h6)
              · (refine yS (yA rfl (yT (zw_r (zt_r (zb_r (zt_r (zt_r (zb_r (zt_r (ze_r zi ?_)))))))))); refine And.intro ?_ trivial)
                rw [if_neg (by simp [h6])] at cf
                rw [bad (by rw [cf]; decide), cf]; rfl
              · rw [if_pos (by simpa using h6)] at cf
                have s1 : rectSum (r.areas.take (i + 1)) = rectSum (r.areas.take i) + a.region.length := by
                  rw [take_succ' ha, rectSum_app]; simp [rectSum]
                (refine zw_k (zt_n (zw_o (yP rfl (yV rfl (yP rfl (yP rfl (yq rfl (zqA zI ?_)))))))); refine And.intro ⟨by omega, by omega⟩ ?_)
                (refine yk (yA rfl (zo_0 (zb_n (zt_n (zw_o (yq rfl (zqA zI ?_))))))); refine And.intro ⟨by omega, by omega⟩ ?_)
                (refine yk (yP rfl (yT (zaf_raw ?_))); refine ⟨(i + 1), _, SLe.refl _ _, ?_⟩)
                refine ⟨⟨by omega, fun k hk => ?_, by omega⟩, by omega, ⟨av_i64 (by omega), rfl, rfl, rfl, trivial⟩, trivial⟩
                by_cases e : k = i
                · subst e; exact cf
                · exact q2 k (by omega)
        · have e : i = r.areas.length := by omega
          subst e
          have z0 : firstN (areaFault r.areas) 0 r.areas.length = 0 := firstN_none fun k _ hk => q2 k (by omega)
          rw [if_pos z0]
          have tl : r.areas.take r.areas.length = r.areas := List.take_length
          (refine zw_x (zt_x (zt_x (zb_h (zt_n (zw_s (yS (yP rfl (yP rfl (yT (zw_c rfl ?_)))))))))); refine bcase_split (fun h7 => ?_) (fun h7 => ?_) <;> try simp only [zB] at h7)
          · (refine yS (yA rfl (yT (zw_r (zt_r (ze_r zi ?_))))); refine And.intro ?_ trivial)
            rw [tl] at h7
            rw [if_pos (by omega)]; rfl
          · (refine zw_k (zt_n (yS (yA rfl (yR zi ?_)))); refine And.intro ?_ trivial)
            rw [tl] at h7
            rw [if_neg (by omega)]; rfl
end Go.Proofs.YthjfllfhagdnpaaGreatDoor.M
