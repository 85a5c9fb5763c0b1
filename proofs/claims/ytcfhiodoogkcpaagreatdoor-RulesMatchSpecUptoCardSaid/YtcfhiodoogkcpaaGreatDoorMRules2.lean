/- By the machine: the library's binary search in a sorted list of texts. -/
import Derived.Test.YtcfhiodoogkcpaaGreatDoorMRules1
import Derived.Sort.Walk0
set_option linter.unusedSimpArgs false
set_option linter.unusedVariables false
namespace Go.Proofs.YtcfhiodoogkcpaaGreatDoor.M
open Go.AM Go.RowKit Go.Lib
open Reg (Rect Spans Band)

def ltS (a b : ByteArray) : Bool := Op.bytesLess a.data.toList b.data.toList
theorem ltS_iff {a b : ByteArray} : ltS a b = true ↔ a.data.toList < b.data.toList := by
  unfold ltS
  rw [Go.Proofs.bytesLess_eq]
  simp
theorem ltS_irrefl (a : ByteArray) : ltS a a = false := by
  rw [Bool.eq_false_iff]
  intro h
  exact List.lt_irrefl _ (ltS_iff.1 h)
theorem ltS_trans {a b c : ByteArray} (h1 : ltS a b = true) (h2 : ltS b c = true) : ltS a c = true := ltS_iff.2 (List.lt_trans (ltS_iff.1 h1) (ltS_iff.1 h2))
def SortedS (l : List ByteArray) : Prop := l.Pairwise fun a b => ltS a b = true
theorem sortedS_get {l : List ByteArray} (h : SortedS l) {i j : Nat} {a b : ByteArray} (ha : l[i]? = some a) (hb : l[j]? = some b) (hij : i < j) : ltS a b = true := by
  obtain ⟨hi, rfl⟩ := List.getElem?_eq_some_iff.1 ha
  obtain ⟨hj, rfl⟩ := List.getElem?_eq_some_iff.1 hb
  exact List.pairwise_iff_getElem.1 h i j hi hj hij
theorem cmp_isNaN (s : ByteArray) : ACalls C 157 [.pv (str s)] (.p (bool false)) [] := by
  refine fun_go hC Tryz.func157 rfl rfl 6 rfl (by decide) (by kernel_rfl) fun _ _ _ _ _ => ?_
  (refine yS (yA rfl (yU (yP rfl (yP rfl (yP rfl (yA rfl (yR zi ?_))))))); refine And.intro ?_ trivial)
  simp [bool]
theorem slices_isNaN (s : ByteArray) : ACalls C 129 [.pv (str s)] (.p (bool false)) [] := by
  refine fun_go hC Tryz.func129 rfl rfl 6 rfl (by decide) (by kernel_rfl) fun _ _ _ _ _ => ?_
  (refine yS (yA rfl (yU (yP rfl (yP rfl (yP rfl (yA rfl (yR zi ?_))))))); refine And.intro ?_ trivial)
  simp [bool]
theorem cmp_less (a b : ByteArray) : ACalls C 128 [.pv (str a), .pv (str b)] (.p (bool (ltS a b))) [] := by
  refine fun_go hC Tryz.func128 rfl rfl 17 rfl (by decide) (by kernel_rfl) fun _ _ _ _ _ => ?_
  (refine yS (yA rfl (yU (yP rfl (yn rfl (zqX zI ?_))))); refine ⟨_, _, (cmp_isNaN a), ?_⟩)
  (refine zkn rfl rfl (zst_p (yP rfl (y0 rfl (y0 rfl (y0 rfl (yP rfl (yP rfl (y1 rfl (y1 rfl (y1 rfl (yP rfl (yA rfl (yR zi ?_))))))))))))); refine And.intro ?_ trivial)
  rfl
theorem shr_half {a b : Nat} (h : a + b < 4611686018427387904) : (IntKind.u64.wrap ((a : Int) + (b : Int))).fdiv (2 ^ min (Int.toNat 1) IntKind.u64.bits) = (((a + b) / 2 : Nat) : Int) := by
  have h1 : IntKind.u64.wrap ((a : Int) + (b : Int)) = ((a + b : Nat) : Int) := by simp [IntKind.wrap, IntKind.bits, IntKind.signed]; omega
  rw [h1]
  have h2 : (2 : Int) ^ min (Int.toNat 1) IntKind.u64.bits = 2 := by decide
  rw [h2, Int.fdiv_eq_ediv_of_nonneg _ (by decide)]
  omega
/-- how many lie below -/
def belowN (l : List ByteArray) (x : ByteArray) : Nat := (l.filter fun y => ltS y x).length
theorem belowN_at {l : List ByteArray} {x : ByteArray} {i : Nat} (hi : i ≤ l.length) (h1 : ∀ (k : Nat) y, k < i → l[k]? = some y → ltS y x = true) (h2 : ∀ (k : Nat) y, i ≤ k → l[k]? = some y → ltS y x = false) : belowN l x = i := by
  unfold belowN
  rw [← List.take_append_drop i l, List.filter_append, List.length_append]
  have e1 : (l.take i).filter (fun y => ltS y x) = l.take i := List.filter_eq_self.2 fun y hy => by
    obtain ⟨k, hk⟩ := List.mem_iff_getElem?.1 hy
    rw [List.getElem?_take] at hk
    split at hk
    · exact h1 k y (by assumption) hk
    · cases hk
  have e2 : (l.drop i).filter (fun y => ltS y x) = [] := List.filter_eq_nil_iff.2 fun y hy => by
    obtain ⟨k, hk⟩ := List.mem_iff_getElem?.1 hy
    rw [List.getElem?_drop] at hk
    rw [h2 (i + k) y (by omega) hk]; decide
  rw [e1, e2, List.length_take]
  simp; omega
theorem no_hasB {l : List ByteArray} {x y : ByteArray} {a : Nat} (hs : SortedS l) (q3 : ∀ (k : Nat) z, k < a → l[k]? = some z → ltS z x = true) (hy : l[a]? = some y) (hyx : ltS y x = false) (hne : ¬y = x) : hasB l x = false := by
  rw [Bool.eq_false_iff]
  intro h4
  obtain ⟨k, hk⟩ := List.mem_iff_getElem?.1 (hasB_iff.1 h4)
  rcases Nat.lt_trichotomy k a with h | h | h
  · have := q3 k x h hk
    rw [ltS_irrefl] at this; cases this
  · subst h
    rw [hy] at hk; injection hk with hk; exact hne hk
  · rw [sortedS_get hs hy hk h] at hyx; cases hyx
set_option maxRecDepth 100000 in
set_option maxHeartbeats 1000000 in
theorem binarySearch (l : List ByteArray) (x : ByteArray) (hs : SortedS l) (hN : l.length ≤ 1000000000) : ACalls C 107 [.pv (strs l), .pv (str x)] (.tu [i64 (belowN l x), bool (hasB l x)]) [] := by
  refine fun_go hC Tryz.func107 rfl rfl 54 rfl (by decide) (by kernel_rfl) fun _ _ _ _ _ => ?_
  have lm := len_map l fun s => [str s]
  refine yS (yA rfl (yA rfl (yU (yP rfl (yP rfl (yA rfl (yU (yP rfl (yA rfl (yA rfl (yT (zw_s (zw_b ?_)))))))))))))
  refine loop_ok' (fun p : Nat × Nat => p.1 ≤ p.2 ∧ p.2 ≤ l.length ∧ (∀ (k : Nat) y, k < p.1 → l[k]? = some y → ltS y x = true) ∧ (∀ (k : Nat) y, p.2 ≤ k → l[k]? = some y → ltS y x = false)) (fun p => [(0, .p (strs l)), (1, .p (str x)), (6, .p (i64 (l.map fun s => [str s]).length)), (7, .p (i64 p.1)), (8, .p (i64 p.2))]) (fun _ => []) (fun p => p.2 - p.1) (0, l.length) _ (SLe.refl _ _) ⟨Nat.zero_le _, Nat.le_refl _, fun k y h => by omega, fun k y h1 h2 => by have := (List.getElem?_eq_some_iff.1 h2).1; simp only at h1; omega⟩ ⟨rfl, rfl, rfl, rfl, av_i64 (by rw [lm]), trivial⟩ trivial fun ⟨a, b⟩ hi t h => ?_
  obtain ⟨q1, q2, q3, q4⟩ := hi
  simp only at q1 q2 q3 q4
  (refine zw_s (yS (yP rfl (yP rfl (yP rfl (yT (zw_c rfl ?_)))))); refine bcase_split (fun h1 => ?_) (fun h1 => ?_) <;> try simp only [zB] at h1)
  · have hm := shr_half (a := a) (b := b) (by omega)
    obtain ⟨y, hy⟩ := get_of (l := l) (i := (a + b) / 2) (by omega)
    (refine zw_k (zt_n (zw_b (yS (yP rfl (yP rfl (yq rfl (zqA zI ?_))))))); refine And.intro ⟨by simp only; omega, by simp only; omega⟩ ?_)
    (refine yk (yP rfl (yq rfl (zqA zI ?_))); refine And.intro ⟨by decide, by decide⟩ ?_)
    (refine yk (yq rfl (zqA zI ?_)); refine And.intro ⟨by simp only; rw [hm]; omega, by simp only; rw [hm]; omega⟩ ?_)
    (refine yk (yA rfl (yU (yP rfl (yP rfl (yq rfl (zqX zI ?_)))))); refine ⟨[str y], (idx hm hy), ?_⟩)
    (refine yk (yP rfl (yP rfl (yn rfl (zqX zI ?_)))); refine ⟨_, _, (cmp_less y x), ?_⟩)
    (refine zkn rfl rfl (zst_p (yT (zw_c rfl ?_))); refine bcase_split (fun h2 => ?_) (fun h2 => ?_) <;> try simp only [zB] at h2)
    · (refine zw_o (yP rfl (yq rfl (zqA zI ?_))); refine And.intro ⟨by simp only; rw [hm]; omega, by simp only; rw [hm]; omega⟩ ?_)
      (refine yk (yA rfl (zo_0 (zb_n (zt_n (zaf_raw ?_))))); refine ⟨((a + b) / 2 + 1, b), _, SLe.refl _ _, ?_⟩)
      refine ⟨⟨by simp only; omega, q2, fun k z hk hz => ?_, q4⟩, by simp only; omega, ⟨rfl, rfl, rfl, av_i64 (by simp only; rw [hm]; omega), rfl, trivial⟩, trivial⟩
      by_cases e : k = (a + b) / 2
      · subst e
        rw [hy] at hz; injection hz with hz; subst hz; exact h2
      · exact ltS_trans (sortedS_get hs hz hy (by simp only at hk; omega)) h2
    · (refine zw_o (yP rfl (yA rfl (zo_0 (zb_n (zt_n (zaf_raw ?_)))))); refine ⟨(a, (a + b) / 2), _, SLe.refl _ _, ?_⟩)
      refine ⟨⟨by simp only; omega, by simp only; omega, q3, fun k z hk hz => ?_⟩, by simp only; omega, ⟨rfl, rfl, rfl, rfl, av_i64 hm, trivial⟩, trivial⟩
      by_cases e : k = (a + b) / 2
      · subst e
        rw [hy] at hz; injection hz with hz; subst hz; exact h2
      · rw [Bool.eq_false_iff]
        intro hlt
        rw [ltS_trans (sortedS_get hs hy hz (by simp only at hk; omega)) hlt] at h2
        cases h2
  · have e : a = b := by omega
    subst e
    have hb := belowN_at q2 q3 q4
    (refine zw_x (zt_x (zt_x (zb_h (zt_n (yS (yP rfl (yP rfl (yP rfl (yP rfl (yP rfl (yg rfl ?_))))))))))); refine bcase_split (fun h2 => ?_) (fun h2 => ?_) <;> try simp only [zB] at h2)
    · rw [lm] at h2
      obtain ⟨y, hy⟩ := get_of (l := l) (i := a) (by omega)
      (refine zg_t (zs_q rfl rfl (zq1 zI (yk (y1 rfl (y2 rfl (zs_q rfl rfl (zqX zI ?_))))))); refine ⟨[str y], (idx rfl hy), ?_⟩)
      (refine yk (y1 rfl (y1 rfl (y1 rfl (y1 rfl (yg rfl ?_))))); refine bcase_split (fun h3 => ?_) (fun h3 => ?_) <;> try simp only [zB] at h3)
      · ((refine zg_f (zst_p (y0 rfl (y0 rfl (y0 rfl (y0 rfl (y0 rfl (zo_gu rfl rfl rfl rfl (zst_p (zo_gu rfl rfl rfl rfl (zst_p (y0 rfl (y1 rfl (yP rfl ?_))))))))))))); refine yA rfl (yA rfl (yR zi ?_))); refine And.intro ?_ trivial)
        have e : y = x := by simpa using h3
        subst e
        have h4 : hasB l y = true := hasB_iff.2 (List.mem_iff_getElem?.2 ⟨a, hy⟩)
        rw [hb, h4]
        rfl
      · (refine zg_t (zs_q rfl rfl (zq1 zI (yk (y1 rfl (y2 rfl (zs_q rfl rfl (zqX zI ?_))))))); refine ⟨[str y], (idx rfl hy), ?_⟩)
        (refine yk (y1 rfl (y2 rfl (zs_n rfl rfl rfl (zqX zI ?_)))); refine ⟨_, _, (slices_isNaN y), ?_⟩)
        (refine zkn rfl rfl (zst_p (y1 rfl (y0 rfl (y0 rfl (y1 rfl (y1 rfl (yP rfl (yA rfl (yA rfl (yR zi ?_)))))))))); refine And.intro ?_ trivial)
        have h4 : hasB l x = false := no_hasB hs q3 hy (q4 a y (Nat.le_refl _) hy) (by simpa using h3)
        rw [hb, h4]
        rfl
    · rw [lm] at h2
      ((refine zg_f (zst_p (y0 rfl (y0 rfl (y0 rfl (y0 rfl (y0 rfl (y0 rfl (zo_gu rfl rfl rfl rfl (zst_p (zo_gu rfl rfl rfl rfl (zst_p (zo_gu rfl rfl rfl rfl (zst_p ?_))))))))))))); refine zo_gu rfl rfl rfl rfl (zst_p (zo_gu rfl rfl rfl rfl (zst_p (zo_gu rfl rfl rfl rfl (zst_p (zo_gu rfl rfl rfl rfl (zst_p (zo_gu rfl rfl rfl rfl (zst_p (zo_gu rfl rfl rfl rfl (zst_p (y0 rfl (yP rfl ?_))))))))))))); refine yA rfl (yA rfl (yR zi ?_))); refine And.intro ?_ trivial)
      have h4 : hasB l x = false := by
        rw [Bool.eq_false_iff]
        intro h4
        obtain ⟨k, hk⟩ := List.mem_iff_getElem?.1 (hasB_iff.1 h4)
        have := q3 k x (by have := (List.getElem?_eq_some_iff.1 hk).1; omega) hk
        rw [ltS_irrefl] at this; cases this
      rw [hb, h4]
      rfl
end Go.Proofs.YtcfhiodoogkcpaaGreatDoor.M
