/- By the machine: the house's sets: rows of cuts merged. -/
import Derived.Test.YtcfhiodoogkcpaaGreatDoorMHouse9
import Derived.Test.YtcfhiodoogkcpaaGreatDoorPlainSet4
set_option linter.unusedSimpArgs false
set_option linter.unusedVariables false
namespace Go.Proofs.YtcfhiodoogkcpaaGreatDoor.M
open Go.AM Go.RowKit Go.Lib
open Reg (Rect Spans Band lineF lineS adv nextCut lessK)

def fnv (f : FuncId) : PV := .im (.func (.func f) #[] #[])
theorem set_less1 (a b : Bool) : ACalls C 88 [.pv (bool a), .pv (bool b)] (.p (bool (lessK a b))) [] := by
  refine fun_go hC Tryz.func88 rfl rfl 10 rfl (by decide) (by kernel_rfl) fun _ _ _ _ _ => ?_
  (refine zw_s (zw_o (zo_n rfl (zs_as rfl rfl rfl (zas_n rfl) (zst_p (zo_0 (zt_n (zw_s (zw_o (zP rfl rfl rfl rfl zI (zP rfl rfl rfl rfl zI (zo_g rfl rfl rfl rfl ?_))))))))))); refine bcase_split (fun h => ?_) (fun h => ?_) <;> try simp only [decide_eq_true_eq, decide_eq_false_iff_not, ge_iff_le, gt_iff_lt, Bool.not_eq_true', Bool.not_eq_false'] at h)
  · ((refine zg_t (zs_q rfl rfl (zq1 zI (zkq (zst_p (zo_g1 rfl rfl rfl rfl (zs_q rfl rfl (zq1 zI (zkq (zst_p (zP rfl rfl rfl rfl zI (zo_n rfl ?_))))))))))); refine zs_as rfl rfl rfl (zas_n rfl) (zst_p (zo_0 (zt_n (zw_r (ze_r zi ?_)))))); refine And.intro ?_ trivial)
    subst h; rfl
  · (refine zg_f (zst_p (zo_g0 rfl rfl rfl rfl (zst_p (zP rfl rfl rfl rfl zI (zo_n rfl (zs_as rfl rfl rfl (zas_n rfl) (zst_p (zo_0 (zt_n (zw_r (ze_r zi ?_))))))))))); refine And.intro ?_ trivial)
    have h : a = false := by simpa using h
    subst h; rfl
theorem lineF_nil (k : Bool → Bool → Bool) (n : Nat) (ia ib is : Bool) : lineF k n [] [] ia ib is = [] := by cases n <;> rfl
theorem row_snoc (t : TypeId) (out : List Int) (p : Int) : AB.row t ((out.map fun n => [i64 n]) ++ [[i64 p]]) = AB.row t ((out ++ [p]).map fun n => [i64 n]) := by simp
theorem tail_av (x : List PV) (es : List (List PV)) : AV.p (.sl (((x :: es).take ((((x :: es).length : Nat) : Int)).toNat).drop (1 : Int).toNat)) = AV.p (.sl es) := by simp
def cells1 (l : List Int) : List (List PV) := l.map fun n => [i64 n]
set_option maxRecDepth 100000 in
set_option maxHeartbeats 4000000 in
theorem house_line (a b : List Int) (hN : a.length + b.length ≤ 4398046511104) : ACalls C 116 [.pv (ints a), .pv (ints b), .pv (fnv 88)] (.p (ints (lineS lessK a b))) [] := by
  refine fun_go hC Tryz.func116 rfl rfl 85 rfl (by decide) (by kernel_rfl) fun _ _ _ _ _ => ?_
  (refine zw_s (zw_o (zo_n rfl (zs_as rfl rfl rfl (zas_n rfl) (zst_nl (zo_0 (zt_n (zw_s (zw_o (zo_n rfl (zs_as rfl rfl rfl (zas_n rfl) (zst_nl ?_))))))))))); refine zo_0 (zt_n (zw_s (zw_o (zo_n rfl (zs_as rfl rfl rfl (zas_n rfl) (zst_p (zo_n rfl (zs_as rfl rfl rfl (zas_n rfl) (zst_p (zo_n rfl (zs_as rfl rfl rfl (zas_n rfl) ?_))))))))))); refine zst_p (zo_0 (zt_n (zw_s (zw_b ?_)))))
  refine loop_ok' (fun x : Nat × List Int × List Int × Bool × Bool × Bool × List Int => x.2.1.length + x.2.2.1.length ≤ x.1 ∧ x.2.2.2.2.2.2 ++ lineF lessK x.1 x.2.1 x.2.2.1 x.2.2.2.1 x.2.2.2.2.1 x.2.2.2.2.2.1 = lineS lessK a b ∧ x.2.2.2.2.2.2.length + x.1 ≤ a.length + b.length)
    (fun x => [(0, .p (ints x.2.1)), (1, .p (ints x.2.2.1)), (2, .p (fnv 88)), (7, .ow 7), (8, .p (bool x.2.2.2.1)), (9, .p (bool x.2.2.2.2.1)), (10, .p (bool x.2.2.2.2.2.1))])
    (fun x => [(7, .row 3 (cells1 x.2.2.2.2.2.2))]) (fun x => x.1) (a.length + b.length, a, b, false, false, false, []) _ (SLe.nilRow hC _ 7 3 _ (by decide) rfl rfl (by decide)) ⟨Nat.le_refl _, rfl, by simp⟩ ⟨rfl, rfl, rfl, rfl, rfl, rfl, rfl, trivial⟩ ⟨rfl, trivial⟩ fun ⟨n, a', b', ia, ib, is, out⟩ hi t h => ?_
  obtain ⟨h1, h2, h3⟩ := hi
  simp only at h1 h2 h3
  have lm : ∀ l : List Int, (l.map fun n => [i64 n]).length = l.length := fun l => List.length_map ..
  rcases a' with _ | ⟨p, r⟩
  · rcases b' with _ | ⟨q, u⟩
    · rw [lineF_nil, List.append_nil] at h2
      ((refine zw_s (zw_s (zw_o (zP rfl rfl rfl rfl zI (zP rfl rfl rfl rfl zI (zP rfl rfl rfl rfl zI (zP rfl rfl rfl rfl zI (zo_g1 rfl rfl rfl rfl (zs_q rfl rfl (zq1 zI (zkq (zst_p ?_))))))))))); refine zo_g1 rfl rfl rfl rfl (zs_q rfl rfl (zq1 zI (zkq (zst_p (zo_g1 rfl rfl rfl rfl (zs_q rfl rfl (zq1 zI (zkq (zst_p (zP rfl rfl rfl rfl zI (zo_0 ?_))))))))))); refine zt_n (zw_c rfl (zc_f (zw_x (zt_x (zt_x (zb_h (zt_n (zw_s (zw_o (zo_n rfl (zs_q rfl rfl ?_))))))))))); refine zq1 zI (zkq (zst_ow (zo_n rfl (zs_ar rfl rfl rfl rfl rfl (zo_0 (zt_n (zw_r (ze_r zi ?_))))))))); refine And.intro ?_ trivial)
      rw [← h2]
      rfl
    · obtain ⟨m, rfl⟩ : ∃ m, n = m + 1 := ⟨n - 1, by simp at h1; omega⟩
      have e : lineF lessK (m + 1) [] (q :: u) ia ib is = if lessK ia (!ib) = is then lineF lessK m [] u ia (!ib) is else q :: lineF lessK m [] u ia (!ib) (lessK ia (!ib)) := by simp [lineF, nextCut, adv]
      rw [e] at h2
      simp at h1
      ((refine zw_s (zw_s (zw_o (zP rfl rfl rfl rfl zI (zP rfl rfl rfl rfl zI (zP rfl rfl rfl rfl zI (zP rfl rfl rfl rfl zI (zo_g1 rfl rfl rfl rfl (zs_q rfl rfl (zq1 zI (zkq (zst_p ?_))))))))))); refine zo_g1 rfl rfl rfl rfl (zs_q rfl rfl (zq1 zI (zkq (zst_p (zo_g1 rfl rfl rfl rfl (zs_q rfl rfl (zq1 zI (zkq (zst_p (zP rfl rfl rfl rfl zI (zo_0 ?_))))))))))); refine zt_n (zw_c rfl ?_)); refine bcase_split (fun g1 => ?_) (fun g1 => ?_) <;> try simp only [decide_eq_true_eq, decide_eq_false_iff_not, ge_iff_le, gt_iff_lt, Bool.not_eq_true', Bool.not_eq_false'] at g1)
      · · ((refine zw_k (zt_n (zw_b (zw_s (zw_o (zo_n rfl (zs_as rfl rfl rfl (zas_n rfl) (zst_p (zo_0 (zt_n (zw_s (zw_s ?_))))))))))); refine zw_d false [true, true, true, true, true, true, true, true, true, true, true, true, true, true, true, true, true] rfl (by kernel_rfl) (zp_q rfl (zD rfl rfl rfl zI (zD rfl rfl rfl zI (zD rfl rfl rfl zI (zD rfl rfl rfl zI (zd_g1 rfl rfl rfl rfl (zd_q rfl (zq1 zI (zkd (zst_p (zd_g1 rfl rfl rfl rfl ?_))))))))))); refine zd_q rfl (zq1 zI (zkd (zst_p (zd_g1 rfl rfl rfl rfl (zd_q rfl (zq1 zI (zkd (zst_p (zd_g1 rfl rfl rfl rfl (zd_q rfl (zq1 zI ?_))))))))))); refine zkd (zst_p (zd_g0 rfl rfl rfl rfl (zst_p (zd_g0 rfl rfl rfl rfl (zst_p (zd_g0 rfl rfl rfl rfl (zst_p (zd_g0 rfl rfl rfl rfl (zst_p (zd_g0 rfl rfl rfl rfl (zst_p ?_))))))))))); refine zd_g0 rfl rfl rfl rfl (zst_p (zd_g0 rfl rfl rfl rfl (zst_p (zd_g1 rfl rfl rfl rfl (zd_q rfl (zq1 zI (zkd (zst_p (zD rfl rfl rfl zI (zd_0 (zr_q rfl ?_))))))))))); refine zt_n (zw_c rfl (zc_f (zw_o (zP rfl rfl rfl rfl zI (zo_n rfl (zs_q rfl rfl (zqX zI ?_)))))))); refine ⟨[i64 q], (idx (i := 0) rfl rfl), ?_⟩)
          ((refine zkq (zst_p (zP rfl rfl rfl rfl zI (zo_n rfl (zs_as rfl rfl rfl (zas_n rfl) (zst_p (zo_0 (zt_n (zw_s (zw_s (zw_o (zP rfl rfl rfl rfl zI ?_))))))))))); refine zP rfl rfl rfl rfl zI (zP rfl rfl rfl rfl zI (zP rfl rfl rfl rfl zI (zo_g0 rfl rfl rfl rfl (zst_p (zo_g0 rfl rfl rfl rfl (zst_p (zo_g0 rfl rfl rfl rfl (zst_p (zo_g0 rfl rfl rfl rfl (zst_p (zo_g0 rfl rfl rfl rfl ?_))))))))))); refine zst_p (zP rfl rfl rfl rfl zI (zo_0 (zt_n (zw_c rfl (zc_f (zw_k (zt_n (zw_s (zw_s (zw_o (zP rfl rfl rfl rfl zI ?_))))))))))); refine zP rfl rfl rfl rfl zI (zP rfl rfl rfl rfl zI (zP rfl rfl rfl rfl zI (zo_g rfl rfl rfl rfl ?_)))); refine bcase_split (fun g2 => ?_) (fun g2 => ?_) <;> try simp only [decide_eq_true_eq, decide_eq_false_iff_not, ge_iff_le, gt_iff_lt, Bool.not_eq_true', Bool.not_eq_false'] at g2)
          · (refine zg_t (zs_q rfl rfl (zq1 zI (zkq (zst_p (zo_g1 rfl rfl rfl rfl (zs_q rfl rfl (zqX zI ?_))))))); refine ⟨[i64 q], (idx (i := 0) rfl rfl), ?_⟩)
            ((refine zkq (zst_p (zo_g1 rfl rfl rfl rfl (zs_q rfl rfl (zq1 zI (zkq (zst_p (zo_g1 rfl rfl rfl rfl (zs_q rfl rfl (zq1 zI (zkq (zst_p ?_))))))))))); refine zo_g1 rfl rfl rfl rfl (zs_q rfl rfl (zq1 zI (zkq (zst_p (zP rfl rfl rfl rfl zI (zo_0 (zt_n (zw_c rfl ?_))))))))); refine bcase_split (fun g3 => ?_) (fun g3 => ?_) <;> try simp only [decide_eq_true_eq, decide_eq_false_iff_not, ge_iff_le, gt_iff_lt, Bool.not_eq_true', Bool.not_eq_false'] at g3)
            · (refine zw_o (zP rfl rfl rfl rfl zI (zo_n rfl (zs_q rfl rfl (zqA zI ?_)))); refine And.intro ⟨by simp, by simp; omega⟩ ?_)
              ((refine zkq (zst_p (zP rfl rfl rfl rfl zI (zP rfl rfl rfl rfl zI (zo_n rfl (zs_as rfl rfl rfl (zas_n rfl) (zst_p (zo_n rfl (zs_as rfl rfl rfl (zas_n rfl) (zst_p (zo_0 (zt_n ?_))))))))))); refine zw_s (zw_o (zP rfl rfl rfl rfl zI (zP rfl rfl rfl rfl zI (zP rfl rfl rfl rfl zI (zo_n rfl (zs_n rfl rfl rfl (zqX zI ?_)))))))); refine ⟨_, _, (set_less1 ia (!ib)), ?_⟩)
              ((refine zkn rfl rfl (zst_p (zo_n rfl (zs_as rfl rfl rfl (zas_n rfl) (zst_p (zo_0 (zt_n (zw_s (zw_o (zP rfl rfl rfl rfl zI (zP rfl rfl rfl rfl zI (zP rfl rfl rfl rfl zI ?_))))))))))); refine zo_0 (zt_n (zw_c rfl ?_))); refine bcase_split (fun g9 => ?_) (fun g9 => ?_) <;> try simp only [decide_eq_true_eq, decide_eq_false_iff_not, ge_iff_le, gt_iff_lt, Bool.not_eq_true', Bool.not_eq_false'] at g9)
              · have g9 : ¬ lessK ia (!ib) = is := by simpa using g9
                rw [if_neg g9] at h2
                ((refine zw_o (zo_n rfl (zs_q rfl rfl (zq1 zI (zkq (zst_ow (zP rfl rfl rfl rfl zI (zo_n rfl (zs_n rfl rfl rfl (zq1 zI (zkns (zst_ow ?_))))))))))); refine zo_n rfl (zs_n rfl rfl rfl (zqA zI ?_))); refine And.intro ⟨by simp, by simp [cells1]; omega, by simp [cells1]; omega⟩ ?_)
                ((refine zkns (zst_e (zst_ow (zP rfl rfl rfl rfl zI (zo_n rfl (zs_ar rfl rfl rfl rfl rfl (zo_n rfl (zs_as rfl rfl rfl (zas_n rfl) (zst_p (zo_0 (zb_n (zt_n ?_))))))))))); refine zaf_raw ?_); refine ⟨(m, [], u, ia, (!ib), lessK ia (!ib), out ++ [q]), _, SLe.refl _ _, ?_⟩)
                exact ⟨⟨by simp; omega, by simp only [List.append_assoc, List.cons_append, List.nil_append]; exact h2, by simp; omega⟩, by simp only; omega, ⟨rfl, tail_av [i64 q] _, rfl, rfl, rfl, rfl, rfl, trivial⟩, ⟨row_snoc _ out q, trivial⟩⟩
              · have g9 : lessK ia (!ib) = is := by simpa using g9
                rw [if_pos g9] at h2
                (refine zw_k (zb_n (zt_n (zaf_raw ?_))); refine ⟨(m, [], u, ia, (!ib), is, out), _, SLe.refl _ _, ?_⟩)
                exact ⟨⟨by simp; omega, h2, by simp only; omega⟩, by simp only; omega, ⟨rfl, tail_av [i64 q] _, rfl, rfl, rfl, rfl, rfl, trivial⟩, ⟨rfl, trivial⟩⟩
            · exact absurd trivial g3
          · simp at g2
      · simp at g1
  · rcases b' with _ | ⟨q, u⟩
    · obtain ⟨m, rfl⟩ : ∃ m, n = m + 1 := ⟨n - 1, by simp at h1; omega⟩
      have e : lineF lessK (m + 1) (p :: r) [] ia ib is = if lessK (!ia) ib = is then lineF lessK m r [] (!ia) ib is else p :: lineF lessK m r [] (!ia) ib (lessK (!ia) ib) := by simp [lineF, nextCut, adv]
      rw [e] at h2
      simp at h1
      (refine zw_s (zw_s (zw_o (zP rfl rfl rfl rfl zI (zP rfl rfl rfl rfl zI (zP rfl rfl rfl rfl zI (zP rfl rfl rfl rfl zI (zo_g rfl rfl rfl rfl ?_))))))); refine bcase_split (fun g1 => ?_) (fun g1 => ?_) <;> try simp only [decide_eq_true_eq, decide_eq_false_iff_not, ge_iff_le, gt_iff_lt, Bool.not_eq_true', Bool.not_eq_false'] at g1)
      · ((refine zg_f (zst_p (zo_g0 rfl rfl rfl rfl (zst_p (zo_g0 rfl rfl rfl rfl (zst_p (zP rfl rfl rfl rfl zI (zo_0 (zt_n (zw_c rfl (zc_t (zw_k ?_))))))))))); refine zt_n (zw_b (zw_s (zw_o (zo_n rfl (zs_as rfl rfl rfl (zas_n rfl) (zst_p (zo_0 (zt_n (zw_s (zw_s (zw_d false [true, true, true, true, true, true, true, true, true, true, true, true, true, true, true, true, true] rfl (by kernel_rfl) ?_))))))))))); refine zp_q rfl (zD rfl rfl rfl zI (zD rfl rfl rfl zI (zD rfl rfl rfl zI (zD rfl rfl rfl zI (zd_g0 rfl rfl rfl rfl (zst_p (zd_g0 rfl rfl rfl rfl (zst_p (zd_g0 rfl rfl rfl rfl (zst_p (zd_g0 rfl rfl rfl rfl ?_))))))))))); refine zst_p (zd_gu rfl rfl rfl rfl (zst_p (zd_gu rfl rfl rfl rfl (zst_p (zd_gu rfl rfl rfl rfl (zst_p (zd_gu rfl rfl rfl rfl (zst_p (zd_gu rfl rfl rfl rfl (zst_p (zd_gu rfl rfl rfl rfl ?_))))))))))); refine zst_p (zd_gu rfl rfl rfl rfl (zst_p (zd_g0 rfl rfl rfl rfl (zst_p (zD rfl rfl rfl zI (zd_0 (zr_q rfl (zt_n (zw_c rfl (zc_t (zw_o ?_))))))))))); refine zP rfl rfl rfl rfl zI (zo_n rfl (zs_q rfl rfl (zqX zI ?_)))); refine ⟨[i64 p], (idx (i := 0) rfl rfl), ?_⟩)
        ((refine zkq (zst_p (zP rfl rfl rfl rfl zI (zo_n rfl (zs_as rfl rfl rfl (zas_n rfl) (zst_p (zo_0 (zt_n (zw_s (zw_s (zw_o (zP rfl rfl rfl rfl zI ?_))))))))))); refine zP rfl rfl rfl rfl zI (zP rfl rfl rfl rfl zI (zP rfl rfl rfl rfl zI (zo_g rfl rfl rfl rfl ?_)))); refine bcase_split (fun g2 => ?_) (fun g2 => ?_) <;> try simp only [decide_eq_true_eq, decide_eq_false_iff_not, ge_iff_le, gt_iff_lt, Bool.not_eq_true', Bool.not_eq_false'] at g2)
        · (refine zg_t (zs_q rfl rfl (zq1 zI (zkq (zst_p (zo_g1 rfl rfl rfl rfl (zs_q rfl rfl (zqX zI ?_))))))); refine ⟨[i64 p], (idx (i := 0) rfl rfl), ?_⟩)
          ((refine zkq (zst_p (zo_g1 rfl rfl rfl rfl (zs_q rfl rfl (zq1 zI (zkq (zst_p (zo_g1 rfl rfl rfl rfl (zs_q rfl rfl (zq1 zI (zkq (zst_p ?_))))))))))); refine zo_g1 rfl rfl rfl rfl (zs_q rfl rfl (zq1 zI (zkq (zst_p (zP rfl rfl rfl rfl zI (zo_0 (zt_n (zw_c rfl ?_))))))))); refine bcase_split (fun g3 => ?_) (fun g3 => ?_) <;> try simp only [decide_eq_true_eq, decide_eq_false_iff_not, ge_iff_le, gt_iff_lt, Bool.not_eq_true', Bool.not_eq_false'] at g3)
          · (refine zw_o (zP rfl rfl rfl rfl zI (zo_n rfl (zs_q rfl rfl (zqA zI ?_)))); refine And.intro ⟨by simp, by simp; omega⟩ ?_)
            ((refine zkq (zst_p (zP rfl rfl rfl rfl zI (zP rfl rfl rfl rfl zI (zo_n rfl (zs_as rfl rfl rfl (zas_n rfl) (zst_p (zo_n rfl (zs_as rfl rfl rfl (zas_n rfl) (zst_p (zo_0 (zt_n ?_))))))))))); refine zw_s (zw_s (zw_o (zP rfl rfl rfl rfl zI (zP rfl rfl rfl rfl zI (zP rfl rfl rfl rfl zI (zP rfl rfl rfl rfl zI (zo_g0 rfl rfl rfl rfl (zst_p (zo_g0 rfl rfl rfl rfl (zst_p (zo_g0 rfl rfl rfl rfl ?_))))))))))); refine zst_p (zo_g0 rfl rfl rfl rfl (zst_p (zo_g0 rfl rfl rfl rfl (zst_p (zP rfl rfl rfl rfl zI (zo_0 (zt_n (zw_c rfl (zc_f (zw_k (zt_n ?_))))))))))); refine zw_s (zw_o (zP rfl rfl rfl rfl zI (zP rfl rfl rfl rfl zI (zP rfl rfl rfl rfl zI (zo_n rfl (zs_n rfl rfl rfl (zqX zI ?_)))))))); refine ⟨_, _, (set_less1 (!ia) ib), ?_⟩)
            ((refine zkn rfl rfl (zst_p (zo_n rfl (zs_as rfl rfl rfl (zas_n rfl) (zst_p (zo_0 (zt_n (zw_s (zw_o (zP rfl rfl rfl rfl zI (zP rfl rfl rfl rfl zI (zP rfl rfl rfl rfl zI ?_))))))))))); refine zo_0 (zt_n (zw_c rfl ?_))); refine bcase_split (fun g9 => ?_) (fun g9 => ?_) <;> try simp only [decide_eq_true_eq, decide_eq_false_iff_not, ge_iff_le, gt_iff_lt, Bool.not_eq_true', Bool.not_eq_false'] at g9)
            · have g9 : ¬ lessK (!ia) ib = is := by simpa using g9
              rw [if_neg g9] at h2
              ((refine zw_o (zo_n rfl (zs_q rfl rfl (zq1 zI (zkq (zst_ow (zP rfl rfl rfl rfl zI (zo_n rfl (zs_n rfl rfl rfl (zq1 zI (zkns (zst_ow ?_))))))))))); refine zo_n rfl (zs_n rfl rfl rfl (zqA zI ?_))); refine And.intro ⟨by simp, by simp [cells1]; omega, by simp [cells1]; omega⟩ ?_)
              ((refine zkns (zst_e (zst_ow (zP rfl rfl rfl rfl zI (zo_n rfl (zs_ar rfl rfl rfl rfl rfl (zo_n rfl (zs_as rfl rfl rfl (zas_n rfl) (zst_p (zo_0 (zb_n (zt_n ?_))))))))))); refine zaf_raw ?_); refine ⟨(m, r, [], (!ia), ib, lessK (!ia) ib, out ++ [p]), _, SLe.refl _ _, ?_⟩)
              exact ⟨⟨by simp; omega, by simp only [List.append_assoc, List.cons_append, List.nil_append]; exact h2, by simp; omega⟩, by simp only; omega, ⟨tail_av [i64 p] _, rfl, rfl, rfl, rfl, rfl, rfl, trivial⟩, ⟨row_snoc _ out p, trivial⟩⟩
            · have g9 : lessK (!ia) ib = is := by simpa using g9
              rw [if_pos g9] at h2
              (refine zw_k (zb_n (zt_n (zaf_raw ?_))); refine ⟨(m, r, [], (!ia), ib, is, out), _, SLe.refl _ _, ?_⟩)
              exact ⟨⟨by simp; omega, h2, by simp only; omega⟩, by simp only; omega, ⟨tail_av [i64 p] _, rfl, rfl, rfl, rfl, rfl, rfl, trivial⟩, ⟨rfl, trivial⟩⟩
          · exact absurd trivial g3
        · simp at g2
      · simp at g1
    · obtain ⟨m, rfl⟩ : ∃ m, n = m + 1 := ⟨n - 1, by simp at h1; omega⟩
      have e : lineF lessK (m + 1) (p :: r) (q :: u) ia ib is = if lessK (adv (if p ≤ q then p else q) (p :: r) ia).2 (adv (if p ≤ q then p else q) (q :: u) ib).2 = is then lineF lessK m (adv (if p ≤ q then p else q) (p :: r) ia).1 (adv (if p ≤ q then p else q) (q :: u) ib).1 (adv (if p ≤ q then p else q) (p :: r) ia).2 (adv (if p ≤ q then p else q) (q :: u) ib).2 is else (if p ≤ q then p else q) :: lineF lessK m (adv (if p ≤ q then p else q) (p :: r) ia).1 (adv (if p ≤ q then p else q) (q :: u) ib).1 (adv (if p ≤ q then p else q) (p :: r) ia).2 (adv (if p ≤ q then p else q) (q :: u) ib).2 (lessK (adv (if p ≤ q then p else q) (p :: r) ia).2 (adv (if p ≤ q then p else q) (q :: u) ib).2) := rfl
      rw [e] at h2
      simp at h1
      (refine zw_s (zw_s (zw_o (zP rfl rfl rfl rfl zI (zP rfl rfl rfl rfl zI (zP rfl rfl rfl rfl zI (zP rfl rfl rfl rfl zI (zo_g rfl rfl rfl rfl ?_))))))); refine bcase_split (fun g1 => ?_) (fun g1 => ?_) <;> try simp only [decide_eq_true_eq, decide_eq_false_iff_not, ge_iff_le, gt_iff_lt, Bool.not_eq_true', Bool.not_eq_false'] at g1)
      · · ((refine zg_f (zst_p (zo_g0 rfl rfl rfl rfl (zst_p (zo_g0 rfl rfl rfl rfl (zst_p (zP rfl rfl rfl rfl zI (zo_0 (zt_n (zw_c rfl (zc_t (zw_k ?_))))))))))); refine zt_n (zw_b (zw_s (zw_o (zo_n rfl (zs_as rfl rfl rfl (zas_n rfl) (zst_p (zo_0 (zt_n (zw_s (zw_s (zw_d false [true, true, true, true, true, true, true, true, true, true, true, true, true, true, true, true, true] rfl (by kernel_rfl) ?_))))))))))); refine zp_q rfl (zD rfl rfl rfl zI (zD rfl rfl rfl zI (zD rfl rfl rfl zI (zD rfl rfl rfl zI (zd_g1 rfl rfl rfl rfl (zd_q rfl (zq1 zI (zkd (zst_p (zd_g1 rfl rfl rfl rfl (zd_q rfl ?_))))))))))); refine zq1 zI (zkd (zst_p (zd_g1 rfl rfl rfl rfl (zd_q rfl (zq1 zI (zkd (zst_p (zd_g1 rfl rfl rfl rfl (zd_q rfl (zq1 zI (zkd ?_))))))))))); refine zst_p (zd_g rfl rfl rfl rfl ?_)); refine bcase_split (fun g3 => ?_) (fun g3 => ?_) <;> try simp only [decide_eq_true_eq, decide_eq_false_iff_not, ge_iff_le, gt_iff_lt, Bool.not_eq_true', Bool.not_eq_false'] at g3)
          · (refine zg_t (zd_q rfl (zq1 zI (zkd (zst_p (zd_g1 rfl rfl rfl rfl (zd_q rfl (zqX zI ?_))))))); refine ⟨[i64 p], (idx (i := 0) rfl rfl), ?_⟩)
            ((refine zkd (zst_p (zd_g1 rfl rfl rfl rfl (zd_q rfl (zq1 zI (zkd (zst_p (zd_g1 rfl rfl rfl rfl (zd_q rfl (zq1 zI (zkd (zst_p ?_))))))))))); refine zd_g1 rfl rfl rfl rfl (zd_q rfl (zqX zI ?_))); refine ⟨[i64 q], (idx (i := 0) rfl rfl), ?_⟩)
            ((refine zkd (zst_p (zd_g1 rfl rfl rfl rfl (zd_q rfl (zq1 zI (zkd (zst_p (zd_g1 rfl rfl rfl rfl (zd_q rfl (zq1 zI (zkd (zst_p ?_))))))))))); refine zd_g1 rfl rfl rfl rfl (zd_q rfl (zq1 zI (zkd (zst_p (zD rfl rfl rfl zI (zd_0 (zr_q rfl (zt_n (zw_c rfl ?_)))))))))); refine bcase_split (fun g4 => ?_) (fun g4 => ?_) <;> try simp only [decide_eq_true_eq, decide_eq_false_iff_not, ge_iff_le, gt_iff_lt, Bool.not_eq_true', Bool.not_eq_false'] at g4)
            · rw [if_pos g4] at h2
              (refine zw_o (zP rfl rfl rfl rfl zI (zo_n rfl (zs_q rfl rfl (zqX zI ?_)))); refine ⟨[i64 p], (idx (i := 0) rfl rfl), ?_⟩)
              ((refine zkq (zst_p (zP rfl rfl rfl rfl zI (zo_n rfl (zs_as rfl rfl rfl (zas_n rfl) (zst_p (zo_0 (zt_n (zw_s (zw_s (zw_o (zP rfl rfl rfl rfl zI ?_))))))))))); refine zP rfl rfl rfl rfl zI (zP rfl rfl rfl rfl zI (zP rfl rfl rfl rfl zI (zo_g rfl rfl rfl rfl ?_)))); refine bcase_split (fun g5 => ?_) (fun g5 => ?_) <;> try simp only [decide_eq_true_eq, decide_eq_false_iff_not, ge_iff_le, gt_iff_lt, Bool.not_eq_true', Bool.not_eq_false'] at g5)
              · (refine zg_t (zs_q rfl rfl (zq1 zI (zkq (zst_p (zo_g1 rfl rfl rfl rfl (zs_q rfl rfl (zqX zI ?_))))))); refine ⟨[i64 p], (idx (i := 0) rfl rfl), ?_⟩)
                ((refine zkq (zst_p (zo_g1 rfl rfl rfl rfl (zs_q rfl rfl (zq1 zI (zkq (zst_p (zo_g1 rfl rfl rfl rfl (zs_q rfl rfl (zq1 zI (zkq (zst_p ?_))))))))))); refine zo_g1 rfl rfl rfl rfl (zs_q rfl rfl (zq1 zI (zkq (zst_p (zP rfl rfl rfl rfl zI (zo_0 (zt_n (zw_c rfl ?_))))))))); refine bcase_split (fun g6 => ?_) (fun g6 => ?_) <;> try simp only [decide_eq_true_eq, decide_eq_false_iff_not, ge_iff_le, gt_iff_lt, Bool.not_eq_true', Bool.not_eq_false'] at g6)
                · (refine zw_o (zP rfl rfl rfl rfl zI (zo_n rfl (zs_q rfl rfl (zqA zI ?_)))); refine And.intro ⟨by simp, by simp; omega⟩ ?_)
                  ((refine zkq (zst_p (zP rfl rfl rfl rfl zI (zP rfl rfl rfl rfl zI (zo_n rfl (zs_as rfl rfl rfl (zas_n rfl) (zst_p (zo_n rfl (zs_as rfl rfl rfl (zas_n rfl) (zst_p (zo_0 (zt_n ?_))))))))))); refine zw_s (zw_s (zw_o (zP rfl rfl rfl rfl zI (zP rfl rfl rfl rfl zI (zP rfl rfl rfl rfl zI (zP rfl rfl rfl rfl zI (zo_g rfl rfl rfl rfl ?_)))))))); refine bcase_split (fun g7 => ?_) (fun g7 => ?_) <;> try simp only [decide_eq_true_eq, decide_eq_false_iff_not, ge_iff_le, gt_iff_lt, Bool.not_eq_true', Bool.not_eq_false'] at g7)
                  · (refine zg_t (zs_q rfl rfl (zq1 zI (zkq (zst_p (zo_g1 rfl rfl rfl rfl (zs_q rfl rfl (zqX zI ?_))))))); refine ⟨[i64 q], (idx (i := 0) rfl rfl), ?_⟩)
                    ((refine zkq (zst_p (zo_g1 rfl rfl rfl rfl (zs_q rfl rfl (zq1 zI (zkq (zst_p (zo_g1 rfl rfl rfl rfl (zs_q rfl rfl (zq1 zI (zkq (zst_p ?_))))))))))); refine zo_g1 rfl rfl rfl rfl (zs_q rfl rfl (zq1 zI (zkq (zst_p (zP rfl rfl rfl rfl zI (zo_0 (zt_n (zw_c rfl ?_))))))))); refine bcase_split (fun g8 => ?_) (fun g8 => ?_) <;> try simp only [decide_eq_true_eq, decide_eq_false_iff_not, ge_iff_le, gt_iff_lt, Bool.not_eq_true', Bool.not_eq_false'] at g8)
                    · (refine zw_o (zP rfl rfl rfl rfl zI (zo_n rfl (zs_q rfl rfl (zqA zI ?_)))); refine And.intro ⟨by simp, by simp; omega⟩ ?_)
                      rw [show adv p (p :: r) ia = (r, !ia) by simp [adv], show adv p (q :: u) ib = (u, !ib) by simp [adv, g8]] at h2
                      simp only at h2
                      ((refine zkq (zst_p (zP rfl rfl rfl rfl zI (zP rfl rfl rfl rfl zI (zo_n rfl (zs_as rfl rfl rfl (zas_n rfl) (zst_p (zo_n rfl (zs_as rfl rfl rfl (zas_n rfl) (zst_p (zo_0 (zt_n ?_))))))))))); refine zw_s (zw_o (zP rfl rfl rfl rfl zI (zP rfl rfl rfl rfl zI (zP rfl rfl rfl rfl zI (zo_n rfl (zs_n rfl rfl rfl (zqX zI ?_)))))))); refine ⟨_, _, (set_less1 (!ia) (!ib)), ?_⟩)
                      ((refine zkn rfl rfl (zst_p (zo_n rfl (zs_as rfl rfl rfl (zas_n rfl) (zst_p (zo_0 (zt_n (zw_s (zw_o (zP rfl rfl rfl rfl zI (zP rfl rfl rfl rfl zI (zP rfl rfl rfl rfl zI ?_))))))))))); refine zo_0 (zt_n (zw_c rfl ?_))); refine bcase_split (fun g9 => ?_) (fun g9 => ?_) <;> try simp only [decide_eq_true_eq, decide_eq_false_iff_not, ge_iff_le, gt_iff_lt, Bool.not_eq_true', Bool.not_eq_false'] at g9)
                      · have g9 : ¬ lessK (!ia) (!ib) = is := by simpa using g9
                        rw [if_neg g9] at h2
                        ((refine zw_o (zo_n rfl (zs_q rfl rfl (zq1 zI (zkq (zst_ow (zP rfl rfl rfl rfl zI (zo_n rfl (zs_n rfl rfl rfl (zq1 zI (zkns (zst_ow ?_))))))))))); refine zo_n rfl (zs_n rfl rfl rfl (zqA zI ?_))); refine And.intro ⟨by simp, by simp [cells1]; omega, by simp [cells1]; omega⟩ ?_)
                        ((refine zkns (zst_e (zst_ow (zP rfl rfl rfl rfl zI (zo_n rfl (zs_ar rfl rfl rfl rfl rfl (zo_n rfl (zs_as rfl rfl rfl (zas_n rfl) (zst_p (zo_0 (zb_n (zt_n ?_))))))))))); refine zaf_raw ?_); refine ⟨(m, r, u, (!ia), (!ib), lessK (!ia) (!ib), out ++ [p]), _, SLe.refl _ _, ?_⟩)
                        exact ⟨⟨by simp; omega, by simp only [List.append_assoc, List.cons_append, List.nil_append]; exact h2, by simp; omega⟩, by simp only; omega, ⟨tail_av [i64 p] _, tail_av [i64 q] _, rfl, rfl, rfl, rfl, rfl, trivial⟩, ⟨row_snoc _ out p, trivial⟩⟩
                      · have g9 : lessK (!ia) (!ib) = is := by simpa using g9
                        rw [if_pos g9] at h2
                        (refine zw_k (zb_n (zt_n (zaf_raw ?_))); refine ⟨(m, r, u, (!ia), (!ib), is, out), _, SLe.refl _ _, ?_⟩)
                        exact ⟨⟨by simp; omega, h2, by simp only; omega⟩, by simp only; omega, ⟨tail_av [i64 p] _, tail_av [i64 q] _, rfl, rfl, rfl, rfl, rfl, trivial⟩, ⟨rfl, trivial⟩⟩
                    · rw [show adv p (p :: r) ia = (r, !ia) by simp [adv], show adv p (q :: u) ib = (q :: u, ib) by simp [adv, g8]] at h2
                      simp only at h2
                      (refine zw_k (zt_n (zw_s (zw_o (zP rfl rfl rfl rfl zI (zP rfl rfl rfl rfl zI (zP rfl rfl rfl rfl zI (zo_n rfl (zs_n rfl rfl rfl (zqX zI ?_))))))))); refine ⟨_, _, (set_less1 (!ia) ib), ?_⟩)
                      ((refine zkn rfl rfl (zst_p (zo_n rfl (zs_as rfl rfl rfl (zas_n rfl) (zst_p (zo_0 (zt_n (zw_s (zw_o (zP rfl rfl rfl rfl zI (zP rfl rfl rfl rfl zI (zP rfl rfl rfl rfl zI ?_))))))))))); refine zo_0 (zt_n (zw_c rfl ?_))); refine bcase_split (fun g9 => ?_) (fun g9 => ?_) <;> try simp only [decide_eq_true_eq, decide_eq_false_iff_not, ge_iff_le, gt_iff_lt, Bool.not_eq_true', Bool.not_eq_false'] at g9)
                      · have g9 : ¬ lessK (!ia) ib = is := by simpa using g9
                        rw [if_neg g9] at h2
                        ((refine zw_o (zo_n rfl (zs_q rfl rfl (zq1 zI (zkq (zst_ow (zP rfl rfl rfl rfl zI (zo_n rfl (zs_n rfl rfl rfl (zq1 zI (zkns (zst_ow ?_))))))))))); refine zo_n rfl (zs_n rfl rfl rfl (zqA zI ?_))); refine And.intro ⟨by simp, by simp [cells1]; omega, by simp [cells1]; omega⟩ ?_)
                        ((refine zkns (zst_e (zst_ow (zP rfl rfl rfl rfl zI (zo_n rfl (zs_ar rfl rfl rfl rfl rfl (zo_n rfl (zs_as rfl rfl rfl (zas_n rfl) (zst_p (zo_0 (zb_n (zt_n ?_))))))))))); refine zaf_raw ?_); refine ⟨(m, r, (q :: u), (!ia), ib, lessK (!ia) ib, out ++ [p]), _, SLe.refl _ _, ?_⟩)
                        exact ⟨⟨by simp; omega, by simp only [List.append_assoc, List.cons_append, List.nil_append]; exact h2, by simp; omega⟩, by simp only; omega, ⟨tail_av [i64 p] _, rfl, rfl, rfl, rfl, rfl, rfl, trivial⟩, ⟨row_snoc _ out p, trivial⟩⟩
                      · have g9 : lessK (!ia) ib = is := by simpa using g9
                        rw [if_pos g9] at h2
                        (refine zw_k (zb_n (zt_n (zaf_raw ?_))); refine ⟨(m, r, (q :: u), (!ia), ib, is, out), _, SLe.refl _ _, ?_⟩)
                        exact ⟨⟨by simp; omega, h2, by simp only; omega⟩, by simp only; omega, ⟨tail_av [i64 p] _, rfl, rfl, rfl, rfl, rfl, rfl, trivial⟩, ⟨rfl, trivial⟩⟩
                  · simp at g7
                · exact absurd trivial g6
              · simp at g5
            · rw [if_neg g4] at h2
              (refine zw_o (zP rfl rfl rfl rfl zI (zo_n rfl (zs_q rfl rfl (zqX zI ?_)))); refine ⟨[i64 q], (idx (i := 0) rfl rfl), ?_⟩)
              ((refine zkq (zst_p (zP rfl rfl rfl rfl zI (zo_n rfl (zs_as rfl rfl rfl (zas_n rfl) (zst_p (zo_0 (zt_n (zw_s (zw_s (zw_o (zP rfl rfl rfl rfl zI ?_))))))))))); refine zP rfl rfl rfl rfl zI (zP rfl rfl rfl rfl zI (zP rfl rfl rfl rfl zI (zo_g rfl rfl rfl rfl ?_)))); refine bcase_split (fun g5 => ?_) (fun g5 => ?_) <;> try simp only [decide_eq_true_eq, decide_eq_false_iff_not, ge_iff_le, gt_iff_lt, Bool.not_eq_true', Bool.not_eq_false'] at g5)
              · (refine zg_t (zs_q rfl rfl (zq1 zI (zkq (zst_p (zo_g1 rfl rfl rfl rfl (zs_q rfl rfl (zqX zI ?_))))))); refine ⟨[i64 p], (idx (i := 0) rfl rfl), ?_⟩)
                ((refine zkq (zst_p (zo_g1 rfl rfl rfl rfl (zs_q rfl rfl (zq1 zI (zkq (zst_p (zo_g1 rfl rfl rfl rfl (zs_q rfl rfl (zq1 zI (zkq (zst_p ?_))))))))))); refine zo_g1 rfl rfl rfl rfl (zs_q rfl rfl (zq1 zI (zkq (zst_p (zP rfl rfl rfl rfl zI (zo_0 (zt_n (zw_c rfl ?_))))))))); refine bcase_split (fun g6 => ?_) (fun g6 => ?_) <;> try simp only [decide_eq_true_eq, decide_eq_false_iff_not, ge_iff_le, gt_iff_lt, Bool.not_eq_true', Bool.not_eq_false'] at g6)
                · omega
                · (refine zw_k (zt_n (zw_s (zw_s (zw_o (zP rfl rfl rfl rfl zI (zP rfl rfl rfl rfl zI (zP rfl rfl rfl rfl zI (zP rfl rfl rfl rfl zI (zo_g rfl rfl rfl rfl ?_))))))))); refine bcase_split (fun g7 => ?_) (fun g7 => ?_) <;> try simp only [decide_eq_true_eq, decide_eq_false_iff_not, ge_iff_le, gt_iff_lt, Bool.not_eq_true', Bool.not_eq_false'] at g7)
                  · (refine zg_t (zs_q rfl rfl (zq1 zI (zkq (zst_p (zo_g1 rfl rfl rfl rfl (zs_q rfl rfl (zqX zI ?_))))))); refine ⟨[i64 q], (idx (i := 0) rfl rfl), ?_⟩)
                    ((refine zkq (zst_p (zo_g1 rfl rfl rfl rfl (zs_q rfl rfl (zq1 zI (zkq (zst_p (zo_g1 rfl rfl rfl rfl (zs_q rfl rfl (zq1 zI (zkq (zst_p ?_))))))))))); refine zo_g1 rfl rfl rfl rfl (zs_q rfl rfl (zq1 zI (zkq (zst_p (zP rfl rfl rfl rfl zI (zo_0 (zt_n (zw_c rfl ?_))))))))); refine bcase_split (fun g8 => ?_) (fun g8 => ?_) <;> try simp only [decide_eq_true_eq, decide_eq_false_iff_not, ge_iff_le, gt_iff_lt, Bool.not_eq_true', Bool.not_eq_false'] at g8)
                    · (refine zw_o (zP rfl rfl rfl rfl zI (zo_n rfl (zs_q rfl rfl (zqA zI ?_)))); refine And.intro ⟨by simp, by simp; omega⟩ ?_)
                      rw [show adv q (q :: u) ib = (u, !ib) by simp [adv], show adv q (p :: r) ia = (p :: r, ia) by simp [adv, g6]] at h2
                      simp only at h2
                      ((refine zkq (zst_p (zP rfl rfl rfl rfl zI (zP rfl rfl rfl rfl zI (zo_n rfl (zs_as rfl rfl rfl (zas_n rfl) (zst_p (zo_n rfl (zs_as rfl rfl rfl (zas_n rfl) (zst_p (zo_0 (zt_n ?_))))))))))); refine zw_s (zw_o (zP rfl rfl rfl rfl zI (zP rfl rfl rfl rfl zI (zP rfl rfl rfl rfl zI (zo_n rfl (zs_n rfl rfl rfl (zqX zI ?_)))))))); refine ⟨_, _, (set_less1 ia (!ib)), ?_⟩)
                      ((refine zkn rfl rfl (zst_p (zo_n rfl (zs_as rfl rfl rfl (zas_n rfl) (zst_p (zo_0 (zt_n (zw_s (zw_o (zP rfl rfl rfl rfl zI (zP rfl rfl rfl rfl zI (zP rfl rfl rfl rfl zI ?_))))))))))); refine zo_0 (zt_n (zw_c rfl ?_))); refine bcase_split (fun g9 => ?_) (fun g9 => ?_) <;> try simp only [decide_eq_true_eq, decide_eq_false_iff_not, ge_iff_le, gt_iff_lt, Bool.not_eq_true', Bool.not_eq_false'] at g9)
                      · have g9 : ¬ lessK ia (!ib) = is := by simpa using g9
                        rw [if_neg g9] at h2
                        ((refine zw_o (zo_n rfl (zs_q rfl rfl (zq1 zI (zkq (zst_ow (zP rfl rfl rfl rfl zI (zo_n rfl (zs_n rfl rfl rfl (zq1 zI (zkns (zst_ow ?_))))))))))); refine zo_n rfl (zs_n rfl rfl rfl (zqA zI ?_))); refine And.intro ⟨by simp, by simp [cells1]; omega, by simp [cells1]; omega⟩ ?_)
                        ((refine zkns (zst_e (zst_ow (zP rfl rfl rfl rfl zI (zo_n rfl (zs_ar rfl rfl rfl rfl rfl (zo_n rfl (zs_as rfl rfl rfl (zas_n rfl) (zst_p (zo_0 (zb_n (zt_n ?_))))))))))); refine zaf_raw ?_); refine ⟨(m, (p :: r), u, ia, (!ib), lessK ia (!ib), out ++ [q]), _, SLe.refl _ _, ?_⟩)
                        exact ⟨⟨by simp; omega, by simp only [List.append_assoc, List.cons_append, List.nil_append]; exact h2, by simp; omega⟩, by simp only; omega, ⟨rfl, tail_av [i64 q] _, rfl, rfl, rfl, rfl, rfl, trivial⟩, ⟨row_snoc _ out q, trivial⟩⟩
                      · have g9 : lessK ia (!ib) = is := by simpa using g9
                        rw [if_pos g9] at h2
                        (refine zw_k (zb_n (zt_n (zaf_raw ?_))); refine ⟨(m, (p :: r), u, ia, (!ib), is, out), _, SLe.refl _ _, ?_⟩)
                        exact ⟨⟨by simp; omega, h2, by simp only; omega⟩, by simp only; omega, ⟨rfl, tail_av [i64 q] _, rfl, rfl, rfl, rfl, rfl, trivial⟩, ⟨rfl, trivial⟩⟩
                    · exact absurd trivial g8
                  · simp at g7
              · simp at g5
          · simp at g3
      · simp at g1
end Go.Proofs.YtcfhiodoogkcpaaGreatDoor.M
