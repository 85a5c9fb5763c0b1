/- By the machine: the reference of regions: the canonical form, CheckRegion. -/
import Derived.Test.YtcfhiodoogkcpaaGreatDoorMReg4
set_option linter.unusedSimpArgs false
set_option linter.unusedVariables false
namespace Go.Proofs.YtcfhiodoogkcpaaGreatDoor.M
open Go.AM Go.RowKit
open Reg (Rect Spans Band)

theorem pushB_length (l : List Band) (b : Band) : (Reg.pushB l b).length ≤ l.length + 1 := by
  unfold Reg.pushB
  split
  · omega
  · split
    · split
      · rw [List.length_append, List.length_dropLast]; simp only [List.length_singleton]; omega
      · simp
    · simp
theorem pushB_xs (l : List Band) (b : Band) (n : Nat) (hl : ∀ t ∈ l, t.xs.length ≤ n) (hb : b.xs.length ≤ n) : ∀ t ∈ Reg.pushB l b, t.xs.length ≤ n := by
  unfold Reg.pushB
  split
  · exact hl
  · split
    · rename_i t ht
      split
      · intro u hu
        rcases List.mem_append.1 hu with h | h
        · exact hl u ((List.dropLast_sublist l).subset h)
        · rw [List.mem_singleton.1 h]; exact hl t (List.mem_of_getLast? ht)
      · intro u hu
        rcases List.mem_append.1 hu with h | h
        · exact hl u h
        · rw [List.mem_singleton.1 h]; exact hb
    · intro u hu
      rw [List.mem_singleton.1 hu]; exact hb
theorem bandsTo_length (l : List Rect) (ys : List Int) : ∀ k, (Reg.bandsTo l ys k).length ≤ k := by
  intro k
  induction k with
  | zero => simp [Reg.bandsTo]
  | succ k ih => rw [Reg.bandsTo]; have := pushB_length (Reg.bandsTo l ys k) ⟨ys.getD k 0, ys.getD (k + 1) 0, Reg.rowOf l (ys.getD k 0)⟩; omega
theorem bandsTo_xs (l : List Rect) (ys : List Int) : ∀ k, ∀ t ∈ Reg.bandsTo l ys k, t.xs.length ≤ l.length := by
  intro k
  induction k with
  | zero => simp [Reg.bandsTo]
  | succ k ih => rw [Reg.bandsTo]; exact pushB_xs _ _ _ ih (rowOf_length _ _)
theorem getD_of {l : List Int} {i : Nat} {x : Int} (h : l[i]? = some x) : l.getD i 0 = x := by rw [List.getD_eq_getElem?_getD, h]; rfl
set_option maxRecDepth 100000 in
set_option maxHeartbeats 1000000 in
theorem ref_canonical (l : List Rect) (hN : l.length ≤ 400000) : ACalls C 66 [.pv (rects l)] (.p (rects (Reg.canonical l))) [] := by
  refine fun_go hC Tryz.func66 rfl rfl 35 rfl (by decide) (by kernel_rfl) fun _ _ _ _ _ => ?_
  have lm := len_map (Reg.heights l) fun n => [i64 n]
  have hL := heights_length l
  (refine yS (yB rfl (yU (yP rfl (yn rfl (zqX zI ?_))))); refine ⟨_, _, (ref_heights l hN), ?_⟩)
  refine zkn rfl rfl (zst_p (yA rfl (yU (yB rfl (yT (zw_s (yS (yA rfl (yT (zw_b ?_))))))))))
  refine loop_ok' (fun k : Nat => k ≤ (Reg.heights l).length - 1) (fun k => [(0, .p (rects l)), (3, .p (ints (Reg.heights l))), (4, .ow 4), (5, .p (i64 ((k : Int) + 1)))]) (fun k => [(4, .row 123 ((Reg.bandsTo l (Reg.heights l) k).map bd))]) (fun k => (Reg.heights l).length - k) 0 _ (SLe.nilRow hC _ 4 123 _ (by decide) rfl rfl (by decide)) (Nat.zero_le _) ⟨rfl, rfl, rfl, rfl, trivial⟩ ⟨rfl, trivial⟩ fun k hk t h => ?_
  have bl := bandsTo_length l (Reg.heights l) k
  have bx := bandsTo_xs l (Reg.heights l) k
  (refine zw_s (yS (yP rfl (yP rfl (yP rfl (yP rfl (yT (zw_c rfl ?_))))))); refine bcase_split (fun h1 => ?_) (fun h1 => ?_) <;> try simp only [zB] at h1)
  · rw [lm] at h1
    obtain ⟨y, hy⟩ := get_of (l := Reg.heights l) (i := k) (by omega)
    obtain ⟨y', hy'⟩ := get_of (l := Reg.heights l) (i := k + 1) (by omega)
    have ek : (k : Int) + 1 - 1 = (k : Nat) := by omega
    have ek' : (k : Int) + 1 = ((k + 1 : Nat) : Int) := by omega
    ((refine zw_k (zt_n (zw_s (zw_b (zw_d true [true, true, true, true, true, true, true, true, true, true, true, true, true, true, true, true, true, true, true, true] rfl (by kernel_rfl) (zp_s rfl (zp_s rfl (zp_s rfl (zp_s rfl (zp_s rfl (zp_s rfl (zp_s rfl (zp_s rfl (zp_s rfl ?_))))))))))))); refine zp_s rfl (zp_s rfl (zp_s rfl (zp_s rfl (zp_s rfl (zp_s rfl (zp_s rfl (zp_n rfl rfl (zp_s rfl (zp_n rfl rfl (zp_q rfl (dq rfl (zq1 zI (zkd ?_))))))))))))); refine zst_ow (yD rfl (yD rfl (dq rfl (zqA zI ?_))))); refine And.intro ⟨by omega, by omega⟩ ?_)
    (refine zkd (zst_p (dq rfl (zqX zI ?_))); refine ⟨[i64 y], (idx ek hy), ?_⟩)
    (refine zkd (zst_p (yD rfl (yD rfl (yD rfl (dq rfl (zqX zI ?_)))))); refine ⟨[i64 y'], (idx ek' hy'), ?_⟩)
    (refine zkd (zst_p (yD rfl (yD rfl (yD rfl (yD rfl (dq rfl (zqA zI ?_))))))); refine And.intro ⟨by omega, by omega⟩ ?_)
    (refine zkd (zst_p (dq rfl (zqX zI ?_))); refine ⟨[i64 y], (idx ek hy), ?_⟩)
    (refine zkd (zst_p (yD rfl (dq rfl (zqX zI ?_)))); refine ⟨_, _, (ref_row l y (by omega)), ?_⟩)
    (refine zkd (zst_p (yD rfl (dq rfl (zqX zI ?_)))); refine ⟨_, _, (ref_stacked _ ⟨y, y', Reg.rowOf l y⟩ (by omega) (fun t ht => by have := bx t ht; omega)), ?_⟩)
    (refine zkden rfl rfl rfl (zsn_e (zsn_0 (zst_ow (dq rfl (zq1 zI (zkd (zst_ow (zd_0 (zr_s rfl (zr_s rfl (zr_s rfl (zr_s rfl (zr_s rfl ?_))))))))))))); refine zr_s rfl (zr_s rfl (zr_s rfl (zr_s rfl (zr_s rfl (zr_s rfl (zr_s rfl (zr_s rfl (zr_s rfl (zr_s rfl (zr_s rfl (zr_s rfl (zr_s rfl (zr_s rfl ?_))))))))))))); refine zr_r rfl rfl rfl rfl rfl (zr_q rfl (zb_n (zt_n (zw_o (yP rfl (yq rfl (zqA zI ?_))))))))
    (skip; refine And.intro ⟨by omega, by omega⟩ ?_)
    (refine yk (yA rfl (yT (zaf_raw ?_))); refine ⟨(k + 1), _, SLe.refl _ _, ?_⟩)
    refine ⟨by omega, by omega, ⟨rfl, rfl, rfl, av_i64 (by omega), trivial⟩, ⟨?_, trivial⟩⟩
    rw [Reg.bandsTo, getD_of hy, getD_of hy']
    rfl
  · rw [lm] at h1
    (refine zw_x (zt_x (zt_x (zb_h (zt_n (yS (yq rfl (zq1 zI (zkq (zst_ow (yn rfl (zqX zI ?_))))))))))); refine ⟨_, _, (ref_told _ (by omega) (fun t ht => by have := bx t ht; omega)), ?_⟩)
    (refine zkn rfl rfl (zst_e (zst_p (yA rfl (yR zi ?_)))); refine And.intro ?_ trivial)
    rw [Reg.canonical, Reg.bands, show (Reg.heights l).length - 1 = k by omega]
theorem ordered_false {l : List Rect} : ∀ {i : Nat} {a b : Rect}, l[i]? = some a → l[i + 1]? = some b → Reg.before a b = false → Reg.ordered l = false := by
  induction l with
  | nil => intro i a b h; simp at h
  | cons x l ih =>
    intro i a b h1 h2 h3
    cases l with
    | nil => simp at h2
    | cons y l =>
      rw [Reg.ordered]
      cases i with
      | zero =>
        simp at h1 h2
        subst h1; subst h2
        rw [h3]; rfl
      | succ i => rw [ih (i := i) (by simpa using h1) (by simpa using h2) h3, Bool.and_false]
theorem ordered_true {l : List Rect} : (∀ (i : Nat) a b, l[i]? = some a → l[i + 1]? = some b → Reg.before a b = true) → Reg.ordered l = true := by
  induction l with
  | nil => intro _; rfl
  | cons x l ih =>
    intro h
    cases l with
    | nil => rfl
    | cons y l =>
      rw [Reg.ordered, h 0 x y rfl rfl, ih fun i a b h1 h2 => h (i + 1) a b (by simpa using h1) (by simpa using h2)]
      rfl
set_option maxRecDepth 100000 in
set_option maxHeartbeats 1000000 in
theorem ref_checkRegion (l : List Rect) : ACalls C 36 [.pv (rects l)] (.p (i64 (Reg.checkRegion l))) [] := by
  refine fun_go hC Tryz.func36 rfl rfl 32 rfl (by decide) (by kernel_rfl) fun _ _ _ _ _ => ?_
  have lm := len_map l rc
  (refine yS (yA rfl (yT (zw_s (yS (yP rfl (yn rfl (zqX zI ?_))))))); refine ⟨_, _, (ref_checkRects l), ?_⟩)
  (refine zkn rfl rfl (zst_p (yA rfl (yU (yP rfl (yP rfl (yT (zw_c rfl ?_))))))); refine bcase_split (fun h0 => ?_) (fun h0 => ?_) <;> try simp only [zB] at h0)
  · (refine yS (yP rfl (yA rfl (yT (zw_r (zt_r (ze_r zi ?_)))))); refine And.intro ?_ trivial)
    rw [Reg.checkRegion, if_neg h0]
  · have h0 : Reg.checkRects l = 0 := by simpa using h0
    obtain ⟨hl, _⟩ := Reg.rects_good h0
    have hc : Reg.checkRegion l = (if Reg.ordered l = true then (if Reg.canonical l = l then 0 else 3) else 8) := by rw [Reg.checkRegion, if_pos h0]
    refine zw_k (zt_n (zw_s (yS (yA rfl (yT (zw_b ?_))))))
    refine cutB' (fun _ : Unit => Reg.ordered l = true) (fun _ => [(0, .p (rects l))]) (fun _ => []) (fun _ hO t h => ?_) ?_
    · rw [if_pos hO] at hc
      (refine zt_n (zw_s (yS (yP rfl (yP rfl (yn rfl (zqX zI ?_)))))); refine ⟨_, _, (ref_canonical l (by omega)), ?_⟩)
      (refine zkn rfl rfl (zst_p (yn rfl (zqX zI ?_))); refine ⟨_, _, (ref_sameRects l _ (by omega)), ?_⟩)
      (refine zkn rfl rfl (zst_p (yP rfl (yT (zw_c rfl ?_)))); refine bcase_split (fun h2 => ?_) (fun h2 => ?_) <;> try simp only [zB] at h2)
      · (refine yS (yA rfl (yT (zw_r (zt_r (ze_r zi ?_))))); refine And.intro ?_ trivial)
        rw [hc, if_neg (fun e => h2 e.symm)]; rfl
      · (refine zw_k (zt_n (yS (yA rfl (yR zi ?_)))); refine And.intro ?_ trivial)
        rw [hc, if_pos (by simpa using h2.symm)]; rfl
    · refine loop_ok' (fun i : Nat => ∀ (j : Nat) a b, j < i → l[j]? = some a → l[j + 1]? = some b → Reg.before a b = true) (fun i => [(0, .p (rects l)), (4, .p (i64 ((i : Int) + 1)))]) (fun _ => []) (fun i => l.length - i) 0 _ (SLe.refl _ _) (fun j a b h => by omega) ⟨rfl, rfl, trivial⟩ trivial fun i hi t h => ?_
      (refine zw_s (yS (yP rfl (yP rfl (yP rfl (yP rfl (yT (zw_c rfl ?_))))))); refine bcase_split (fun h1 => ?_) (fun h1 => ?_) <;> try simp only [zB] at h1)
      · rw [lm] at h1
        obtain ⟨a, ha⟩ := get_of (l := l) (i := i) (by omega)
        obtain ⟨b, hb⟩ := get_of (l := l) (i := i + 1) (by omega)
        ((refine zw_k (zt_n (zw_s (zw_b (zw_s (zw_d false [true, true, true, true, true, true, true, true, true, true, true] rfl (by kernel_rfl) (zp_s rfl (zp_s rfl (zp_s rfl (zp_s rfl (zp_s rfl (zp_s rfl (zp_s rfl (zp_s rfl ?_))))))))))))); refine zp_s rfl (zp_n rfl rfl (zp_q rfl (yD rfl (yD rfl (dq rfl (zqA zI ?_))))))); refine And.intro ⟨by omega, by omega⟩ ?_)
        (refine zkd (zst_p (dq rfl (zqX zI ?_))); refine ⟨(rc a), (idx (show ((i : Int) + 1) - 1 = (i : Nat) by omega) ha), ?_⟩)
        (refine zkd (zst_p (yD rfl (yD rfl (yD rfl (dq rfl (zqX zI ?_)))))); refine ⟨(rc b), (idx (show ((i : Int) + 1) = ((i + 1 : Nat) : Int) by omega) hb), ?_⟩)
        (refine zkd (zst_p (yD rfl (dq rfl (zqX zI ?_)))); refine ⟨_, _, (ref_before a b), ?_⟩)
        (refine zkd (zst_p (yD rfl (zd_0 (zr_q rfl (zt_n (zw_c rfl ?_)))))); refine bcase_split (fun h2 => ?_) (fun h2 => ?_) <;> try simp only [zB] at h2)
        · (refine yS (yA rfl (yT (zw_r (zb_r (zt_r (zt_r (zb_r (zt_r (zt_r (ze_r zi ?_)))))))))); refine And.intro ?_ trivial)
          rw [hc, if_neg (by rw [ordered_false ha hb h2]; decide)]; rfl
        · (refine zw_k (zb_n (zt_n (zw_o (yP rfl (yq rfl (zqA zI ?_)))))); refine And.intro ⟨by omega, by omega⟩ ?_)
          (refine yk (yA rfl (yT (zaf_raw ?_))); refine ⟨(i + 1), _, SLe.refl _ _, ?_⟩)
          refine ⟨fun j x y hj hx hy => ?_, by omega, ⟨rfl, av_i64 (by omega), trivial⟩, trivial⟩
          by_cases e : j = i
          · subst e
            rw [ha] at hx; injection hx with hx; rw [hb] at hy; injection hy with hy
            rw [← hx, ← hy]; simpa using h2
          · exact hi j x y (by omega) hx hy
      · rw [lm] at h1
        refine zw_x (zt_x (zt_x (zb_h (zt_n (zaf_raw (zX zi ?_))))))
        refine ⟨(), ordered_true fun j a b ha hb => hi j a b ?_ ha hb, ⟨rfl, trivial⟩, trivial⟩
        have := (List.getElem?_eq_some_iff.1 hb).1
        omega
end Go.Proofs.YtcfhiodoogkcpaaGreatDoor.M
