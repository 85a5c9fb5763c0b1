/- By the machine: the house's CheckRegion. -/
import Derived.Test.YtcfhiodoogkcpaaGreatDoorMHouse8
set_option linter.unusedSimpArgs false
set_option linter.unusedVariables false
namespace Go.Proofs.YtcfhiodoogkcpaaGreatDoor.M
open Go.AM Go.RowKit Go.Lib
open Reg (Rect Spans Band)

theorem good_of {r : Rect} (h : Reg.isRect r = true ∧ r.x0 < r.x1 ∧ r.y0 < r.y1) : Good r := by
  obtain ⟨h1, h2, h3⟩ := h
  simp only [Reg.isRect, Reg.isAt, Bool.and_eq_true, decide_eq_true_eq] at h1
  exact ⟨⟨by omega, by omega, by omega, by omega⟩, h2, h3⟩
theorem bands_length (l : List Rect) (hN : l.length ≤ 400000) : (Reg.bands l).length ≤ 1000000 ∧ ∀ t ∈ Reg.bands l, t.xs.length ≤ 1000000 := by
  have h1 := bandsTo_length l (Reg.heights l) ((Reg.heights l).length - 1)
  have h2 := heights_length l
  exact ⟨by unfold Reg.bands; omega, fun t ht => by have := bandsTo_xs l (Reg.heights l) _ t ht; omega⟩
set_option maxRecDepth 100000 in
set_option maxHeartbeats 1000000 in
theorem house_checkRegion (l : List Rect) : ACalls C 32 [.pv (rects l)] (.p (i64 (Reg.checkRegion l))) [] := by
  refine fun_go hC Tryz.func32 rfl rfl 52 rfl (by decide) (by kernel_rfl) fun _ _ _ _ _ => ?_
  have lm := len_map l rc
  (refine yS (yA rfl (yT (zw_s (yS (yP rfl (yn rfl (zqX zI ?_))))))); refine ⟨_, _, (house_checkRects l), ?_⟩)
  (refine zkn rfl rfl (zst_p (yA rfl (yU (yP rfl (yP rfl (yT (zw_c rfl ?_))))))); refine bcase_split (fun h0 => ?_) (fun h0 => ?_) <;> try simp only [zB] at h0)
  · (refine yS (yP rfl (yA rfl (yT (zw_r (zt_r (ze_r zi ?_)))))); refine And.intro ?_ trivial)
    rw [Reg.checkRegion, if_neg h0]
  · have h0 : Reg.checkRects l = 0 := by simpa using h0
    obtain ⟨hl, hg⟩ := Reg.rects_good h0
    have hc : Reg.checkRegion l = (if Reg.ordered l = true then (if Reg.canonical l = l then 0 else 3) else 8) := by rw [Reg.checkRegion, if_pos h0]
    obtain ⟨bl, bx⟩ := bands_length l (by omega)
    refine zw_k (zt_n (zw_s (yS (yA rfl (yT (zw_b ?_))))))
    refine cutB' (fun _ : Unit => Reg.ordered l = true) (fun _ => [(0, .p (rects l))]) (fun _ => []) (fun _ hO t h => ?_) ?_
    · rw [if_pos hO] at hc
      (refine zt_n (zw_s (yS (yP rfl (yn rfl (zqX zI ?_))))); refine ⟨_, _, (house_setOf l (fun r hr => good_of (hg r hr)) (by omega)), ?_⟩)
      (refine zkns (zst_ow (yn rfl (zqX zI ?_))); refine ⟨_, _, (house_rects (Reg.bands l) bl bx), ?_⟩)
      (refine zkns (zst_e (zst_ow (yP rfl (yn rfl (zqX zI ?_))))); refine ⟨_, _, (equal_rects (Reg.told (Reg.bands l)) l (by
        have := told_length (Reg.bands l) bx
        have : (Reg.bands l).length * 1000000 ≤ 1000000 * 1000000 := Nat.mul_le_mul_right _ bl
        omega)), ?_⟩)
      (refine zkn rfl rfl (zst_p (yP rfl (yT (zw_c rfl ?_)))); refine bcase_split (fun h2 => ?_) (fun h2 => ?_) <;> try simp only [zB] at h2)
      · (refine yS (yA rfl (yT (zw_r (zt_r (ze_r zi ?_))))); refine And.intro ?_ trivial)
        rw [hc, if_neg (show ¬ Reg.canonical l = l from h2)]; rfl
      · (refine zw_k (zt_n (yS (yA rfl (yR zi ?_)))); refine And.intro ?_ trivial)
        rw [hc, if_pos (show Reg.canonical l = l from h2)]; rfl
    · refine loop_ok' (fun i : Nat => ∀ (j : Nat) a b, j < i → l[j]? = some a → l[j + 1]? = some b → Reg.before a b = true) (fun i => [(0, .p (rects l)), (4, .p (i64 ((i : Int) + 1)))]) (fun _ => []) (fun i => l.length - i) 0 _ (SLe.refl _ _) (fun j a b h => by omega) ⟨rfl, rfl, trivial⟩ trivial fun i hi t h => ?_
      (refine zw_s (yS (yP rfl (yP rfl (yP rfl (yP rfl (yT (zw_c rfl ?_))))))); refine bcase_split (fun h1 => ?_) (fun h1 => ?_) <;> try simp only [zB] at h1)
      · rw [lm] at h1
        obtain ⟨a, ha⟩ := get_of (l := l) (i := i) (by omega)
        obtain ⟨b, hb⟩ := get_of (l := l) (i := i + 1) (by omega)
        have stop : ¬ Reg.before a b = true → Reg.checkRegion l = 8 := fun hn => by
          rw [hc, if_neg]
          rw [ordered_false ha hb (by simpa using hn)]; decide
        have cont : Reg.before a b = true → ∀ (j : Nat) x y, j < i + 1 → l[j]? = some x → l[j + 1]? = some y → Reg.before x y = true := fun hy j x y hj hx hy' => by
          by_cases e : j = i
          · subst e
            rw [ha] at hx; injection hx with hx; rw [hb] at hy'; injection hy' with hy'
            rw [← hx, ← hy']; exact hy
          · exact hi j x y (by omega) hx hy'
        ((refine zw_k (zt_n (zw_s (zw_b (zw_s (zw_d false [true, true, true, true, true, true, true, false, false, true, true, true, true] rfl (by kernel_rfl) (zp_s rfl (zp_s rfl (zp_s rfl (zp_s rfl (zp_s rfl (zp_s rfl (zp_s rfl (zp_s rfl ?_))))))))))))); refine zp_s rfl (zp_n rfl rfl (zp_n rfl rfl (zp_q rfl (yD rfl (yD rfl (dq rfl (zqA zI ?_)))))))); refine And.intro ⟨by omega, by omega⟩ ?_)
        (refine zkd (zst_p (dq rfl (zqX zI ?_))); refine ⟨(rc a), (idx (show ((i : Int) + 1) - 1 = (i : Nat) by omega) ha), ?_⟩)
        (refine zkd (zst_p (yD rfl (yD rfl (yD rfl (dq rfl (zqX zI ?_)))))); refine ⟨(rc b), (idx (show ((i : Int) + 1) = ((i + 1 : Nat) : Int) by omega) hb), ?_⟩)
        ((refine zkd (zst_p (yD rfl (dq rfl (zq1 zI (zkdn rfl rfl (zst_bx (dq rfl (zq1 zI (zkdn rfl rfl (zst_bx (dq rfl (zq1 zI (zkde rfl ?_))))))))))))); refine zst_e (zst_0 (dq rfl (zq1 zI (zkde rfl (zst_e (zst_0 (zd_0 (zr_q rfl (zt_n (yS (yV rfl (yP rfl (yV rfl ?_))))))))))))); refine yP rfl (yP rfl (yP rfl (yg rfl ?_)))); refine bcase_split (fun g1 => ?_) (fun g1 => ?_) <;> try simp only [zB] at g1)
        · ((refine zg_f (zst_p (y0 rfl (y0 rfl (y0 rfl (y0 rfl (y0 rfl (zo_gu rfl rfl rfl rfl (zst_p (zo_gu rfl rfl rfl rfl (zst_p (zo_gu rfl rfl rfl rfl (zst_p (zo_gu rfl rfl rfl rfl ?_))))))))))))); refine zst_p (zo_gu rfl rfl rfl rfl (zst_p (y0 rfl (yP rfl (yT (zw_c rfl (zc_t (yS (yA rfl (yT (zw_r (zb_r (zt_r ?_))))))))))))); refine zt_r (zb_r (zt_r (zt_r (ze_r zi ?_))))); refine And.intro ?_ trivial)
          rw [stop (by simp [Reg.before]; omega)]; rfl
        ((refine zg_t (zs_q rfl rfl (zq1 zI (zkq (zst_bx (y1 rfl (y2 rfl (zs_q rfl rfl (zq1 zI (zkq (zst_bx (y1 rfl (y1 rfl (y1 rfl ?_))))))))))))); refine yg rfl ?_); refine bcase_split (fun g2 => ?_) (fun g2 => ?_) <;> try simp only [zB] at g2)
        · ((refine zg_t (zs_q rfl rfl (zq1 zI (zkq (zst_bx (y1 rfl (y2 rfl (zs_q rfl rfl (zq1 zI (zkq (zst_bx (y1 rfl (y1 rfl (y1 rfl ?_))))))))))))); refine yP rfl (yT (zw_c rfl ?_))); refine bcase_split (fun g3 => ?_) (fun g3 => ?_) <;> try simp only [zB] at g3)
          · (refine yS (yA rfl (yT (zw_r (zb_r (zt_r (zt_r (zb_r (zt_r (zt_r (ze_r zi ?_)))))))))); refine And.intro ?_ trivial)
            rw [stop (by simp [Reg.before]; omega)]; rfl
          · (refine zw_k (zb_n (zt_n (zw_o (yP rfl (yq rfl (zqA zI ?_)))))); refine And.intro ⟨by omega, by omega⟩ ?_)
            (refine yk (yA rfl (yT (zaf_raw ?_))); refine ⟨(i + 1), _, SLe.refl _ _, ?_⟩)
            exact ⟨cont (by simp [Reg.before]; omega), by omega, ⟨rfl, av_i64 (by omega), trivial⟩, trivial⟩
        · ((refine zg_f (zst_p (y0 rfl (y0 rfl (y0 rfl (y0 rfl (y1 rfl (yP rfl (yT (zw_c rfl (zc_f (zw_k (zb_n (zt_n ?_))))))))))))); refine zw_o (yP rfl (yq rfl (zqA zI ?_)))); refine And.intro ⟨by omega, by omega⟩ ?_)
          (refine yk (yA rfl (yT (zaf_raw ?_))); refine ⟨(i + 1), _, SLe.refl _ _, ?_⟩)
          exact ⟨cont (by simp [Reg.before]; omega), by omega, ⟨rfl, av_i64 (by omega), trivial⟩, trivial⟩
      · rw [lm] at h1
        refine zw_x (zt_x (zt_x (zb_h (zt_n (zaf_raw (zX zi ?_))))))
        refine ⟨(), ordered_true fun j a b ha hb => hi j a b ?_ ha hb, ⟨rfl, trivial⟩, trivial⟩
        have := (List.getElem?_eq_some_iff.1 hb).1
        omega
end Go.Proofs.YtcfhiodoogkcpaaGreatDoor.M
