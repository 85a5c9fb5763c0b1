/- By the machine: the laws on thin places. -/
import Derived.Test.YtcfhiodoogkcpaaGreatDoorMSet5
import Derived.Test.YtcfhiodoogkcpaaGreatDoorPlainSet6
import Derived.Test.YtcfhiodoogkcpaaGreatDoorMText
set_option linter.unusedSimpArgs false
set_option linter.unusedVariables false
namespace Go.Proofs.YtcfhiodoogkcpaaGreatDoor.M
open Go.AM Go.RowKit Go.Lib
open Reg (Rect Spans Band cuts SOK InK BOK lessS aroundS told shiftR spreadS coreS thinS Canon Full RK at')

theorem toldR_ok {s : List Band} (h : (toldR s).2 = 0) : (toldR s).1 = told s ∧ (told s).length ≤ 2000 := by
  unfold toldR at h ⊢
  split at h
  · cases h
  · rename_i hn
    rw [if_neg hn]
    exact ⟨rfl, by omega⟩
theorem toldR_none {s : List Band} (h : (toldR s).2 ≠ 0) : (toldR s).1 = [] := by
  unfold toldR at h ⊢
  split
  · rfl
  · rename_i hn
    rw [if_neg hn] at h
    exact absurd rfl h
theorem toldR_nil : toldR [] = ([], 0) := rfl
theorem thinR_none {l : List Rect} {w : Int} (h : (thinR l w).2 ≠ 0) : (thinR l w).1 = [] := by
  unfold thinR at h ⊢
  split
  · rename_i h0
    rw [if_pos h0] at h
    split
    · rename_i h1
      rw [if_pos h1] at h
      exact toldR_none h
    · rfl
  · rfl
/-- what is thin, as it is told -/
theorem thinR_ok {l : List Rect} {w : Int} (h : (thinR l w).2 = 0) : Reg.checkRegion l = 0 ∧ isRule w = true ∧ (thinR l w).1 = told (thinS (Reg.bands l) w) ∧ (told (thinS (Reg.bands l) w)).length ≤ 2000 := by
  unfold thinR at h ⊢
  by_cases h0 : Reg.checkRegion l = 0
  · rw [if_pos h0] at h ⊢
    by_cases h1 : isRule w = true
    · rw [if_pos h1] at h ⊢
      exact ⟨h0, h1, toldR_ok h⟩
    · rw [if_neg h1] at h
      cases h
  · rw [if_neg h0] at h
    exact absurd h h0
/-- a difference that is empty -/
theorem minusR_nil {a b : List Rect} (h : ∀ x y, a.any (Reg.hasR x y) = true → b.any (Reg.hasR x y) = true) : (minusR a b).2 ≠ 0 ∨ (minusR a b).1 = [] := by
  unfold minusR
  by_cases h0 : Reg.checkRegion a = 0
  · rw [if_pos h0]
    by_cases h1 : Reg.checkRegion b = 0
    · rw [if_pos h1]
      right
      have ra := reg_ok h0
      have rb := reg_ok h1
      rw [Reg.less_empty ra.sok rb.sok fun x y hx => by rw [rb.at_]; rw [ra.at_] at hx; exact h x y hx]
      rfl
    · rw [if_neg h1]; exact .inl h1
  · rw [if_neg h0]; exact .inl h0
theorem minusR_sub {a b : List Rect} (h0 : (minusR a b).2 = 0) (h1 : (minusR a b).1 = []) : Reg.checkRegion a = 0 ∧ Reg.checkRegion b = 0 ∧ ∀ x y, a.any (Reg.hasR x y) = true → b.any (Reg.hasR x y) = true := by
  unfold minusR at h0 h1
  by_cases c0 : Reg.checkRegion a = 0
  · rw [if_pos c0] at h0 h1
    by_cases c1 : Reg.checkRegion b = 0
    · rw [if_pos c1] at h0 h1
      have ra := reg_ok c0
      have rb := reg_ok c1
      obtain ⟨t1, t2⟩ := toldR_ok h0
      rw [t1] at h1
      have hl := Reg.less_none ra.sok rb.sok (Reg.told_nil (Reg.less_facts ra.sok rb.sok).1 h1)
      exact ⟨c0, c1, fun x y hx => by rw [← rb.at_]; exact hl x y (by rw [ra.at_]; exact hx)⟩
    · rw [if_neg c1] at h0; exact absurd h0 c1
  · rw [if_neg c0] at h0; exact absurd h0 c0
theorem thin_any {l : List Rect} {w : Int} (h : (thinR l w).2 = 0) (x y : Int) : (thinR l w).1.any (Reg.hasR x y) = at' (thinS (Reg.bands l) w) x y := by
  obtain ⟨h0, h1, h2, h3⟩ := thinR_ok h
  rw [h2, Reg.told_any (Reg.thin_facts (reg_ok h0).sok w).1]
theorem thin_widths {l : List Rect} {w v : Int} (h : (thinR l w).2 = 0) (k : (thinR l v).2 = 0) (hw : w ≤ v) : (minusR (thinR l w).1 (thinR l v).1).2 ≠ 0 ∨ (minusR (thinR l w).1 (thinR l v).1).1 = [] :=
  minusR_nil fun x y hx => by
    rw [thin_any k]
    rw [thin_any h] at hx
    exact Reg.thin_mono (reg_ok (thinR_ok h).1).sok hw x y hx
theorem thin_lies {l : List Rect} {v : Int} (k : (thinR l v).2 = 0) : (minusR (thinR l v).1 l).2 ≠ 0 ∨ (minusR (thinR l v).1 l).1 = [] :=
  minusR_nil fun x y hx => by
    rw [thin_any k] at hx
    have ok := reg_ok (thinR_ok k).1
    rw [← ok.at_]
    exact Reg.thin_sub ok.sok x y hx
theorem thin_little {l : List Rect} {w : Int} (hw : w ≤ 1) : (thinR l w).1 = [] := by
  by_cases h : (thinR l w).2 = 0
  · obtain ⟨h0, h1, h2, h3⟩ := thinR_ok h
    rw [h2, Reg.thin_one (reg_ok h0).sok hw]
    rfl
  · exact thinR_none h
theorem rects_nil {l : List Rect} (h : l = []) : ((l.map rc).length : Int) = 0 := by rw [h]; rfl
set_option maxRecDepth 100000 in
set_option maxHeartbeats 2000000 in
theorem law_thinWidth (l : List Rect) (w v : Int) : ACalls C 6 [.pv (rects l), .pv (i64 w), .pv (i64 v)] (.p (bool true)) [] := by
  refine fun_go hC Tryz.func6 rfl rfl 86 rfl (by decide) (by kernel_rfl) fun _ _ _ _ _ => ?_
  have h1 := house_Thin l w
  have h2 := house_Thin l v
  have k1 : (thinR l w).2 ≠ 0 → (thinR l w).1 = [] := thinR_none
  have k2 : (thinR l w).2 = 0 → (thinR l v).2 = 0 → w ≤ v → (minusR (thinR l w).1 (thinR l v).1).2 ≠ 0 ∨ (minusR (thinR l w).1 (thinR l v).1).1 = [] := thin_widths
  have k3 : (thinR l v).2 = 0 → (minusR (thinR l v).1 l).2 ≠ 0 ∨ (minusR (thinR l v).1 l).1 = [] := thin_lies
  have k4 : w ≤ 1 → (thinR l w).1 = [] := thin_little
  have h3 := house_Minus (thinR l w).1 (thinR l v).1
  have h4 := house_Minus (thinR l v).1 l
  generalize minusR (thinR l w).1 (thinR l v).1 = mx at *
  generalize minusR (thinR l v).1 l = my at *
  generalize thinR l w = tx at *
  generalize thinR l v = ty at *
  ((refine zw_s (zw_o (zo_n rfl (zs_as rfl rfl rfl (zas_n rfl) (zst_p (zo_0 (zt_n (zw_s (zw_o (zP rfl rfl rfl rfl zI (zP rfl rfl rfl rfl zI (zo_n rfl ?_))))))))))); refine zs_n rfl rfl rfl (zqX zI ?_)); refine ⟨_, _, h1, ?_⟩)
  ((refine zkn rfl rfl (zst_tu (zo_n rfl (zs_q rfl rfl (zq1 zI (zkq (zst_tu (zP rfl rfl rfl rfl zI (zP rfl rfl rfl rfl zI (zo_n rfl (zs_as rfl rfl rfl (zas_n rfl) (zst_p ?_))))))))))); refine zo_n rfl (zs_as rfl rfl rfl (zas_n rfl) (zst_p (zo_0 (zt_n (zw_s (zw_o (zP rfl rfl rfl rfl zI (zP rfl rfl rfl rfl zI (zo_n rfl (zs_n rfl rfl rfl (zqX zI ?_)))))))))))); refine ⟨_, _, h2, ?_⟩)
  ((refine zkn rfl rfl (zst_tu (zo_n rfl (zs_q rfl rfl (zq1 zI (zkq (zst_tu (zP rfl rfl rfl rfl zI (zP rfl rfl rfl rfl zI (zo_n rfl (zs_as rfl rfl rfl (zas_n rfl) (zst_p ?_))))))))))); refine zo_n rfl (zs_as rfl rfl rfl (zas_n rfl) (zst_p (zo_0 (zt_n (zw_s (zw_s (zw_o (zP rfl rfl rfl rfl zI (zP rfl rfl rfl rfl zI (zP rfl rfl rfl rfl zI (zo_g rfl rfl rfl rfl ?_)))))))))))); refine bcase_split (fun g1 => ?_) (fun g1 => ?_) <;> try simp only [decide_eq_true_eq, decide_eq_false_iff_not, ge_iff_le, gt_iff_lt, Bool.not_eq_true', Bool.not_eq_false'] at g1)
  · have g1 : ¬ tx.2 = 0 := by simpa using g1
    ((refine zg_f (zst_p (zo_g0 rfl rfl rfl rfl (zst_p (zP rfl rfl rfl rfl zI (zP rfl rfl rfl rfl zI (zo_g0 rfl rfl rfl rfl (zst_p (zo_g0 rfl rfl rfl rfl (zst_p (zo_g0 rfl rfl rfl rfl (zst_p ?_))))))))))); refine zP rfl rfl rfl rfl zI (zo_0 (zt_n (zw_c rfl (zc_t (zw_s (zw_o (zP rfl rfl rfl rfl zI (zP rfl rfl rfl rfl zI (zP rfl rfl rfl rfl zI (zo_g rfl rfl rfl rfl ?_))))))))))); refine bcase_split (fun a1 => ?_) (fun a1 => ?_) <;> try simp only [decide_eq_true_eq, decide_eq_false_iff_not, ge_iff_le, gt_iff_lt, Bool.not_eq_true', Bool.not_eq_false'] at a1)
    · exact absurd a1 g1
    · ((refine zg_t (zs_q rfl rfl (zq1 zI (zkq (zst_p (zo_g1 rfl rfl rfl rfl (zs_q rfl rfl (zq1 zI (zkq (zst_p (zo_g1 rfl rfl rfl rfl (zs_q rfl rfl ?_))))))))))); refine zq1 zI (zkq (zst_p (zP rfl rfl rfl rfl zI (zP rfl rfl rfl rfl zI (zo_g rfl rfl rfl rfl ?_)))))); refine bcase_split (fun a2 => ?_) (fun a2 => ?_) <;> try simp only [decide_eq_true_eq, decide_eq_false_iff_not, ge_iff_le, gt_iff_lt, Bool.not_eq_true', Bool.not_eq_false'] at a2)
      · (refine zg_t (zs_n rfl rfl rfl (zqX zI ?_)); refine ⟨_, _, awake_yes, ?_⟩)
        (refine zkn rfl rfl (zst_p (zP rfl rfl rfl rfl zI (zo_n rfl (zs_as rfl rfl rfl (zas_n rfl) (zst_p (zo_0 (zt_n (zw_r (zt_r (ze_r zi ?_)))))))))); refine And.intro ?_ trivial)
        rfl
      · exact absurd (rects_nil (k1 g1)) a2
  · have g1 : tx.2 = 0 := by simpa using g1
    ((refine zg_t (zs_q rfl rfl (zq1 zI (zkq (zst_p (zo_g1 rfl rfl rfl rfl (zs_q rfl rfl (zq1 zI (zkq (zst_p (zP rfl rfl rfl rfl zI (zP rfl rfl rfl rfl zI ?_))))))))))); refine zo_g rfl rfl rfl rfl ?_); refine bcase_split (fun g2 => ?_) (fun g2 => ?_) <;> try simp only [decide_eq_true_eq, decide_eq_false_iff_not, ge_iff_le, gt_iff_lt, Bool.not_eq_true', Bool.not_eq_false'] at g2)
    · ((refine zg_f (zst_p (zo_g0 rfl rfl rfl rfl (zst_p (zo_g0 rfl rfl rfl rfl (zst_p (zP rfl rfl rfl rfl zI (zo_0 (zt_n (zw_c rfl (zc_t (zw_s ?_))))))))))); refine zw_o (zP rfl rfl rfl rfl zI (zP rfl rfl rfl rfl zI (zP rfl rfl rfl rfl zI (zo_g rfl rfl rfl rfl ?_))))); refine bcase_split (fun a1 => ?_) (fun a1 => ?_) <;> try simp only [decide_eq_true_eq, decide_eq_false_iff_not, ge_iff_le, gt_iff_lt, Bool.not_eq_true', Bool.not_eq_false'] at a1)
      · (refine zg_f (zst_p (zo_g0 rfl rfl rfl rfl (zst_p (zo_g0 rfl rfl rfl rfl (zst_p (zP rfl rfl rfl rfl zI (zP rfl rfl rfl rfl zI (zo_g1 rfl rfl rfl rfl (zs_n rfl rfl rfl (zqX zI ?_)))))))))); refine ⟨_, _, awake_yes, ?_⟩)
        (refine zkn rfl rfl (zst_p (zP rfl rfl rfl rfl zI (zo_n rfl (zs_as rfl rfl rfl (zas_n rfl) (zst_p (zo_0 (zt_n (zw_r (zt_r (ze_r zi ?_)))))))))); refine And.intro ?_ trivial)
        rfl
      · exact absurd g1 a1
    · have g2 : ty.2 = 0 := by simpa using g2
      ((refine zg_t (zs_q rfl rfl (zq1 zI (zkq (zst_p (zo_g1 rfl rfl rfl rfl (zs_q rfl rfl (zq1 zI (zkq (zst_p (zo_g1 rfl rfl rfl rfl (zs_q rfl rfl ?_))))))))))); refine zq1 zI (zkq (zst_p (zP rfl rfl rfl rfl zI (zo_0 (zt_n (zw_c rfl ?_))))))); refine bcase_split (fun g3 => ?_) (fun g3 => ?_) <;> try simp only [decide_eq_true_eq, decide_eq_false_iff_not, ge_iff_le, gt_iff_lt, Bool.not_eq_true', Bool.not_eq_false'] at g3)
      · (refine zw_s (zw_o (zP rfl rfl rfl rfl zI (zP rfl rfl rfl rfl zI (zP rfl rfl rfl rfl zI (zo_g rfl rfl rfl rfl ?_))))); refine bcase_split (fun a1 => ?_) (fun a1 => ?_) <;> try simp only [decide_eq_true_eq, decide_eq_false_iff_not, ge_iff_le, gt_iff_lt, Bool.not_eq_true', Bool.not_eq_false'] at a1)
        · (refine zg_f (zst_p (zo_g0 rfl rfl rfl rfl (zst_p (zo_g0 rfl rfl rfl rfl (zst_p (zP rfl rfl rfl rfl zI (zP rfl rfl rfl rfl zI (zo_g1 rfl rfl rfl rfl (zs_n rfl rfl rfl (zqX zI ?_)))))))))); refine ⟨_, _, awake_yes, ?_⟩)
          (refine zkn rfl rfl (zst_p (zP rfl rfl rfl rfl zI (zo_n rfl (zs_as rfl rfl rfl (zas_n rfl) (zst_p (zo_0 (zt_n (zw_r (zt_r (ze_r zi ?_)))))))))); refine And.intro ?_ trivial)
          rfl
        · exact absurd g1 a1
      · have k5 := k2 g1 g2 (by omega)
        have k6 := k3 g2
        (refine zw_k (zt_n (zw_s (zw_o (zP rfl rfl rfl rfl zI (zP rfl rfl rfl rfl zI (zo_n rfl (zs_n rfl rfl rfl (zqX zI ?_)))))))); refine ⟨_, _, h3, ?_⟩)
        ((refine zkn rfl rfl (zst_tu (zo_n rfl (zs_q rfl rfl (zq1 zI (zkq (zst_tu (zP rfl rfl rfl rfl zI (zP rfl rfl rfl rfl zI (zo_n rfl (zs_as rfl rfl rfl (zas_n rfl) (zst_p ?_))))))))))); refine zo_n rfl (zs_as rfl rfl rfl (zas_n rfl) (zst_p (zo_0 (zt_n (zw_s (zw_o (zP rfl rfl rfl rfl zI (zP rfl rfl rfl rfl zI (zo_n rfl (zs_n rfl rfl rfl (zqX zI ?_)))))))))))); refine ⟨_, _, h4, ?_⟩)
        ((refine zkn rfl rfl (zst_tu (zo_n rfl (zs_q rfl rfl (zq1 zI (zkq (zst_tu (zP rfl rfl rfl rfl zI (zP rfl rfl rfl rfl zI (zo_n rfl (zs_as rfl rfl rfl (zas_n rfl) (zst_p ?_))))))))))); refine zo_n rfl (zs_as rfl rfl rfl (zas_n rfl) (zst_p (zo_0 (zt_n (zw_s (zw_o (zP rfl rfl rfl rfl zI (zP rfl rfl rfl rfl zI (zP rfl rfl rfl rfl zI (zo_g rfl rfl rfl rfl ?_))))))))))); refine bcase_split (fun b1 => ?_) (fun b1 => ?_) <;> try simp only [decide_eq_true_eq, decide_eq_false_iff_not, ge_iff_le, gt_iff_lt, Bool.not_eq_true', Bool.not_eq_false'] at b1)
        · ((refine zg_f (zst_p (zo_g0 rfl rfl rfl rfl (zst_p (zo_g0 rfl rfl rfl rfl (zst_p (zP rfl rfl rfl rfl zI (zP rfl rfl rfl rfl zI (zo_g1 rfl rfl rfl rfl (zs_q rfl rfl (zq1 zI (zkq ?_))))))))))); refine zst_p (zo_g1 rfl rfl rfl rfl (zs_q rfl rfl (zq1 zI (zkq (zst_p (zo_g1 rfl rfl rfl rfl (zs_q rfl rfl (zq1 zI (zkq (zst_p (zo_g rfl rfl rfl rfl ?_)))))))))))); refine bcase_split (fun b3 => ?_) (fun b3 => ?_) <;> try simp only [decide_eq_true_eq, decide_eq_false_iff_not, ge_iff_le, gt_iff_lt, Bool.not_eq_true', Bool.not_eq_false'] at b3)
          · ((refine zg_f (zst_p (zo_g0 rfl rfl rfl rfl (zst_p (zo_g0 rfl rfl rfl rfl (zst_p (zo_g1 rfl rfl rfl rfl (zs_q rfl rfl (zq1 zI (zkq (zst_p (zP rfl rfl rfl rfl zI ?_))))))))))); refine zP rfl rfl rfl rfl zI (zo_g1 rfl rfl rfl rfl (zs_q rfl rfl (zq1 zI (zkq (zst_p (zo_g1 rfl rfl rfl rfl (zs_q rfl rfl (zq1 zI (zkq (zst_p (zo_g1 rfl rfl rfl rfl ?_))))))))))); refine zs_q rfl rfl (zq1 zI (zkq (zst_p (zo_g rfl rfl rfl rfl ?_))))); refine bcase_split (fun b5 => ?_) (fun b5 => ?_) <;> try simp only [decide_eq_true_eq, decide_eq_false_iff_not, ge_iff_le, gt_iff_lt, Bool.not_eq_true', Bool.not_eq_false'] at b5)
            · ((refine zg_f (zst_p (zo_g0 rfl rfl rfl rfl (zst_p (zo_g0 rfl rfl rfl rfl (zst_p (zo_g1 rfl rfl rfl rfl (zs_q rfl rfl (zq1 zI (zkq (zst_p (zP rfl rfl rfl rfl zI ?_))))))))))); refine zP rfl rfl rfl rfl zI (zo_g1 rfl rfl rfl rfl (zs_n rfl rfl rfl (zqX zI ?_)))); refine ⟨_, _, awake_yes, ?_⟩)
              (refine zkn rfl rfl (zst_p (zP rfl rfl rfl rfl zI (zo_n rfl (zs_as rfl rfl rfl (zas_n rfl) (zst_p (zo_0 (zt_n (zw_r (ze_r zi ?_))))))))); refine And.intro ?_ trivial)
              rfl
            · ((refine zg_t (zs_q rfl rfl (zq1 zI (zkq (zst_p (zo_g1 rfl rfl rfl rfl (zs_q rfl rfl (zq1 zI (zkq (zst_p (zo_g1 rfl rfl rfl rfl (zs_q rfl rfl ?_))))))))))); refine zq1 zI (zkq (zst_p (zo_g1 rfl rfl rfl rfl (zs_q rfl rfl (zq1 zI (zkq (zst_p (zP rfl rfl rfl rfl zI (zP rfl rfl rfl rfl zI (zo_g rfl rfl rfl rfl ?_))))))))))); refine bcase_split (fun b6 => ?_) (fun b6 => ?_) <;> try simp only [decide_eq_true_eq, decide_eq_false_iff_not, ge_iff_le, gt_iff_lt, Bool.not_eq_true', Bool.not_eq_false'] at b6)
              · (refine zg_t (zs_n rfl rfl rfl (zqX zI ?_)); refine ⟨_, _, awake_yes, ?_⟩)
                (refine zkn rfl rfl (zst_p (zP rfl rfl rfl rfl zI (zo_n rfl (zs_as rfl rfl rfl (zas_n rfl) (zst_p (zo_0 (zt_n (zw_r (ze_r zi ?_))))))))); refine And.intro ?_ trivial)
                rfl
              · exact absurd (rects_nil (k4 (by omega))) b6
          · have b3 : my.2 = 0 := by simpa using b3
            ((refine zg_t (zs_q rfl rfl (zq1 zI (zkq (zst_p (zo_g1 rfl rfl rfl rfl (zs_q rfl rfl (zq1 zI (zkq (zst_p (zo_g1 rfl rfl rfl rfl (zs_q rfl rfl ?_))))))))))); refine zq1 zI (zkq (zst_p (zo_g1 rfl rfl rfl rfl (zs_q rfl rfl (zq1 zI (zkq (zst_p (zP rfl rfl rfl rfl zI (zP rfl rfl rfl rfl zI (zo_g rfl rfl rfl rfl ?_))))))))))); refine bcase_split (fun b4 => ?_) (fun b4 => ?_) <;> try simp only [decide_eq_true_eq, decide_eq_false_iff_not, ge_iff_le, gt_iff_lt, Bool.not_eq_true', Bool.not_eq_false'] at b4)
            · ((refine zg_t (zs_q rfl rfl (zq1 zI (zkq (zst_p (zo_g1 rfl rfl rfl rfl (zs_q rfl rfl (zq1 zI (zkq (zst_p (zo_g1 rfl rfl rfl rfl (zs_q rfl rfl ?_))))))))))); refine zq1 zI (zkq (zst_p (zo_g rfl rfl rfl rfl ?_)))); refine bcase_split (fun b5 => ?_) (fun b5 => ?_) <;> try simp only [decide_eq_true_eq, decide_eq_false_iff_not, ge_iff_le, gt_iff_lt, Bool.not_eq_true', Bool.not_eq_false'] at b5)
              · ((refine zg_f (zst_p (zo_g0 rfl rfl rfl rfl (zst_p (zo_g0 rfl rfl rfl rfl (zst_p (zo_g1 rfl rfl rfl rfl (zs_q rfl rfl (zq1 zI (zkq (zst_p (zP rfl rfl rfl rfl zI ?_))))))))))); refine zP rfl rfl rfl rfl zI (zo_g1 rfl rfl rfl rfl (zs_n rfl rfl rfl (zqX zI ?_)))); refine ⟨_, _, awake_yes, ?_⟩)
                (refine zkn rfl rfl (zst_p (zP rfl rfl rfl rfl zI (zo_n rfl (zs_as rfl rfl rfl (zas_n rfl) (zst_p (zo_0 (zt_n (zw_r (ze_r zi ?_))))))))); refine And.intro ?_ trivial)
                rfl
              · ((refine zg_t (zs_q rfl rfl (zq1 zI (zkq (zst_p (zo_g1 rfl rfl rfl rfl (zs_q rfl rfl (zq1 zI (zkq (zst_p (zo_g1 rfl rfl rfl rfl (zs_q rfl rfl ?_))))))))))); refine zq1 zI (zkq (zst_p (zo_g1 rfl rfl rfl rfl (zs_q rfl rfl (zq1 zI (zkq (zst_p (zP rfl rfl rfl rfl zI (zP rfl rfl rfl rfl zI (zo_g rfl rfl rfl rfl ?_))))))))))); refine bcase_split (fun b6 => ?_) (fun b6 => ?_) <;> try simp only [decide_eq_true_eq, decide_eq_false_iff_not, ge_iff_le, gt_iff_lt, Bool.not_eq_true', Bool.not_eq_false'] at b6)
                · (refine zg_t (zs_n rfl rfl rfl (zqX zI ?_)); refine ⟨_, _, awake_yes, ?_⟩)
                  (refine zkn rfl rfl (zst_p (zP rfl rfl rfl rfl zI (zo_n rfl (zs_as rfl rfl rfl (zas_n rfl) (zst_p (zo_0 (zt_n (zw_r (ze_r zi ?_))))))))); refine And.intro ?_ trivial)
                  rfl
                · exact absurd (rects_nil (k4 (by omega))) b6
            · exact absurd (rects_nil (k6.resolve_left (fun h => h b3))) b4
        · have b1 : mx.2 = 0 := by simpa using b1
          ((refine zg_t (zs_q rfl rfl (zq1 zI (zkq (zst_p (zo_g1 rfl rfl rfl rfl (zs_q rfl rfl (zq1 zI (zkq (zst_p (zo_g1 rfl rfl rfl rfl (zs_q rfl rfl ?_))))))))))); refine zq1 zI (zkq (zst_p (zP rfl rfl rfl rfl zI (zP rfl rfl rfl rfl zI (zo_g rfl rfl rfl rfl ?_)))))); refine bcase_split (fun b2 => ?_) (fun b2 => ?_) <;> try simp only [decide_eq_true_eq, decide_eq_false_iff_not, ge_iff_le, gt_iff_lt, Bool.not_eq_true', Bool.not_eq_false'] at b2)
          · ((refine zg_t (zs_q rfl rfl (zq1 zI (zkq (zst_p (zo_g1 rfl rfl rfl rfl (zs_q rfl rfl (zq1 zI (zkq (zst_p (zo_g1 rfl rfl rfl rfl (zs_q rfl rfl ?_))))))))))); refine zq1 zI (zkq (zst_p (zo_g rfl rfl rfl rfl ?_)))); refine bcase_split (fun b3 => ?_) (fun b3 => ?_) <;> try simp only [decide_eq_true_eq, decide_eq_false_iff_not, ge_iff_le, gt_iff_lt, Bool.not_eq_true', Bool.not_eq_false'] at b3)
            · ((refine zg_f (zst_p (zo_g0 rfl rfl rfl rfl (zst_p (zo_g0 rfl rfl rfl rfl (zst_p (zo_g1 rfl rfl rfl rfl (zs_q rfl rfl (zq1 zI (zkq (zst_p (zP rfl rfl rfl rfl zI ?_))))))))))); refine zP rfl rfl rfl rfl zI (zo_g1 rfl rfl rfl rfl (zs_q rfl rfl (zq1 zI (zkq (zst_p (zo_g1 rfl rfl rfl rfl (zs_q rfl rfl (zq1 zI (zkq (zst_p (zo_g1 rfl rfl rfl rfl ?_))))))))))); refine zs_q rfl rfl (zq1 zI (zkq (zst_p (zo_g rfl rfl rfl rfl ?_))))); refine bcase_split (fun b5 => ?_) (fun b5 => ?_) <;> try simp only [decide_eq_true_eq, decide_eq_false_iff_not, ge_iff_le, gt_iff_lt, Bool.not_eq_true', Bool.not_eq_false'] at b5)
              · ((refine zg_f (zst_p (zo_g0 rfl rfl rfl rfl (zst_p (zo_g0 rfl rfl rfl rfl (zst_p (zo_g1 rfl rfl rfl rfl (zs_q rfl rfl (zq1 zI (zkq (zst_p (zP rfl rfl rfl rfl zI ?_))))))))))); refine zP rfl rfl rfl rfl zI (zo_g1 rfl rfl rfl rfl (zs_n rfl rfl rfl (zqX zI ?_)))); refine ⟨_, _, awake_yes, ?_⟩)
                (refine zkn rfl rfl (zst_p (zP rfl rfl rfl rfl zI (zo_n rfl (zs_as rfl rfl rfl (zas_n rfl) (zst_p (zo_0 (zt_n (zw_r (ze_r zi ?_))))))))); refine And.intro ?_ trivial)
                rfl
              · ((refine zg_t (zs_q rfl rfl (zq1 zI (zkq (zst_p (zo_g1 rfl rfl rfl rfl (zs_q rfl rfl (zq1 zI (zkq (zst_p (zo_g1 rfl rfl rfl rfl (zs_q rfl rfl ?_))))))))))); refine zq1 zI (zkq (zst_p (zo_g1 rfl rfl rfl rfl (zs_q rfl rfl (zq1 zI (zkq (zst_p (zP rfl rfl rfl rfl zI (zP rfl rfl rfl rfl zI (zo_g rfl rfl rfl rfl ?_))))))))))); refine bcase_split (fun b6 => ?_) (fun b6 => ?_) <;> try simp only [decide_eq_true_eq, decide_eq_false_iff_not, ge_iff_le, gt_iff_lt, Bool.not_eq_true', Bool.not_eq_false'] at b6)
                · (refine zg_t (zs_n rfl rfl rfl (zqX zI ?_)); refine ⟨_, _, awake_yes, ?_⟩)
                  (refine zkn rfl rfl (zst_p (zP rfl rfl rfl rfl zI (zo_n rfl (zs_as rfl rfl rfl (zas_n rfl) (zst_p (zo_0 (zt_n (zw_r (ze_r zi ?_))))))))); refine And.intro ?_ trivial)
                  rfl
                · exact absurd (rects_nil (k4 (by omega))) b6
            · have b3 : my.2 = 0 := by simpa using b3
              ((refine zg_t (zs_q rfl rfl (zq1 zI (zkq (zst_p (zo_g1 rfl rfl rfl rfl (zs_q rfl rfl (zq1 zI (zkq (zst_p (zo_g1 rfl rfl rfl rfl (zs_q rfl rfl ?_))))))))))); refine zq1 zI (zkq (zst_p (zo_g1 rfl rfl rfl rfl (zs_q rfl rfl (zq1 zI (zkq (zst_p (zP rfl rfl rfl rfl zI (zP rfl rfl rfl rfl zI (zo_g rfl rfl rfl rfl ?_))))))))))); refine bcase_split (fun b4 => ?_) (fun b4 => ?_) <;> try simp only [decide_eq_true_eq, decide_eq_false_iff_not, ge_iff_le, gt_iff_lt, Bool.not_eq_true', Bool.not_eq_false'] at b4)
              · ((refine zg_t (zs_q rfl rfl (zq1 zI (zkq (zst_p (zo_g1 rfl rfl rfl rfl (zs_q rfl rfl (zq1 zI (zkq (zst_p (zo_g1 rfl rfl rfl rfl (zs_q rfl rfl ?_))))))))))); refine zq1 zI (zkq (zst_p (zo_g rfl rfl rfl rfl ?_)))); refine bcase_split (fun b5 => ?_) (fun b5 => ?_) <;> try simp only [decide_eq_true_eq, decide_eq_false_iff_not, ge_iff_le, gt_iff_lt, Bool.not_eq_true', Bool.not_eq_false'] at b5)
                · ((refine zg_f (zst_p (zo_g0 rfl rfl rfl rfl (zst_p (zo_g0 rfl rfl rfl rfl (zst_p (zo_g1 rfl rfl rfl rfl (zs_q rfl rfl (zq1 zI (zkq (zst_p (zP rfl rfl rfl rfl zI ?_))))))))))); refine zP rfl rfl rfl rfl zI (zo_g1 rfl rfl rfl rfl (zs_n rfl rfl rfl (zqX zI ?_)))); refine ⟨_, _, awake_yes, ?_⟩)
                  (refine zkn rfl rfl (zst_p (zP rfl rfl rfl rfl zI (zo_n rfl (zs_as rfl rfl rfl (zas_n rfl) (zst_p (zo_0 (zt_n (zw_r (ze_r zi ?_))))))))); refine And.intro ?_ trivial)
                  rfl
                · ((refine zg_t (zs_q rfl rfl (zq1 zI (zkq (zst_p (zo_g1 rfl rfl rfl rfl (zs_q rfl rfl (zq1 zI (zkq (zst_p (zo_g1 rfl rfl rfl rfl (zs_q rfl rfl ?_))))))))))); refine zq1 zI (zkq (zst_p (zo_g1 rfl rfl rfl rfl (zs_q rfl rfl (zq1 zI (zkq (zst_p (zP rfl rfl rfl rfl zI (zP rfl rfl rfl rfl zI (zo_g rfl rfl rfl rfl ?_))))))))))); refine bcase_split (fun b6 => ?_) (fun b6 => ?_) <;> try simp only [decide_eq_true_eq, decide_eq_false_iff_not, ge_iff_le, gt_iff_lt, Bool.not_eq_true', Bool.not_eq_false'] at b6)
                  · (refine zg_t (zs_n rfl rfl rfl (zqX zI ?_)); refine ⟨_, _, awake_yes, ?_⟩)
                    (refine zkn rfl rfl (zst_p (zP rfl rfl rfl rfl zI (zo_n rfl (zs_as rfl rfl rfl (zas_n rfl) (zst_p (zo_0 (zt_n (zw_r (ze_r zi ?_))))))))); refine And.intro ?_ trivial)
                    rfl
                  · exact absurd (rects_nil (k4 (by omega))) b6
              · exact absurd (rects_nil (k6.resolve_left (fun h => h b3))) b4
          · exact absurd (rects_nil (k5.resolve_left (fun h => h b1))) b2
end Go.Proofs.YtcfhiodoogkcpaaGreatDoor.M
