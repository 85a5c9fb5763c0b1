/- By the machine: the reference of regions: spans, rows, bands. -/
import Derived.Test.YtcfhiodoogkcpaaGreatDoorMReg2
set_option linter.unusedSimpArgs false
set_option linter.unusedVariables false
namespace Go.Proofs.YtcfhiodoogkcpaaGreatDoor.M
open Go.AM Go.RowKit
open Reg (Rect Spans)

theorem joined_past {l : Spans} {a b : Int} : ∀ (k : Nat), (∀ i p, i < k → l[i]? = some p → p.2 < a) → k ≤ l.length → Reg.joined l a b = l.take k ++ Reg.joined (l.drop k) a b := by
  induction l with
  | nil => intro k _ hk; simp at hk; subst hk; simp
  | cons p l ih =>
    intro k h hk
    cases k with
    | zero => simp
    | succ k =>
      have hp : p.2 < a := h 0 p (by omega) rfl
      rw [Reg.joined, if_pos hp, ih k (fun i q hi hq => h (i + 1) q (by omega) (by simpa using hq)) (by simpa using hk)]
      simp
theorem joined_absorb {l : Spans} {a b : Int} (h : ∀ p, l[0]? = some p → ¬ (p.2 < a)) : Reg.joined l a b = Reg.absorb l a b := by
  cases l with
  | nil => rfl
  | cons p l => rw [Reg.joined, if_neg (h p rfl)]
theorem heights_length (l : List Rect) : (Reg.heights l).length ≤ 2 * l.length := by
  unfold Reg.heights
  suffices h : ∀ (o : List Int), (l.foldl (fun out r => Reg.put (Reg.put out r.y0) r.y1) o).length ≤ o.length + 2 * l.length by
    have := h []
    simpa using this
  induction l with
  | nil => intro o; simp
  | cons r l ih =>
    intro o
    have h1 := ih (Reg.put (Reg.put o r.y0) r.y1)
    have h2 := put_length r.y0 o
    have h3 := put_length r.y1 (Reg.put o r.y0)
    simp only [List.foldl_cons, List.length_cons]
    omega
set_option maxRecDepth 100000 in
set_option maxHeartbeats 1000000 in
theorem ref_heights (l : List Rect) (hN : l.length ≤ 400000) : ACalls C 100 [.pv (rects l)] (.p (ints (Reg.heights l))) [] := by
  refine fun_go hC Tryz.func100 rfl rfl 25 rfl (by decide) (by kernel_rfl) fun _ _ _ _ _ => ?_
  have lm := len_map l rc
  refine yS (yB rfl (yU (yB rfl (yT (zw_s (yS (yA rfl (yT (zw_b ?_)))))))))
  refine loop_ok' (fun i : Nat => i ≤ l.length) (fun i => [(0, .p (rects l)), (3, .p (ints (Reg.heights (l.take i)))), (4, .p (i64 i))]) (fun _ => []) (fun i => l.length - i) 0 _ (SLe.nil hC _ 3 rfl) (Nat.zero_le _) ⟨rfl, rfl, rfl, trivial⟩ trivial fun i hi t h => ?_
  (refine zw_s (yS (yP rfl (yP rfl (yP rfl (yP rfl (yT (zw_c rfl ?_))))))); refine bcase_split (fun h1 => ?_) (fun h1 => ?_) <;> try simp only [zB] at h1)
  · rw [lm] at h1
    obtain ⟨r, hr⟩ := get_of (l := l) (i := i) (by omega)
    have hL := heights_length (l.take i)
    have hL2 := List.length_take_le i l
    ((refine zw_k (zt_n (zw_s (zw_b (zw_d false [true, true, true, true, true, true, true, true, true, true, true, true, true, true] rfl (by kernel_rfl) (zp_s rfl (zp_s rfl (zp_s rfl (zp_s rfl (zp_s rfl (zp_s rfl (zp_n rfl rfl (zp_s rfl (zp_s rfl ?_))))))))))))); refine zp_s rfl (zp_s rfl (zp_s rfl (zp_n rfl rfl (zp_q rfl (yD rfl (yD rfl (yD rfl (dq rfl (zqX zI ?_)))))))))); refine ⟨(rc r), (idx rfl hr), ?_⟩)
    have hL3 := put_length r.y0 (Reg.heights (l.take i))
    (refine zkd (zst_p (yD rfl (yD rfl (dq rfl (zqX zI ?_))))); refine ⟨_, _, (ref_put _ r.y0 (heights_rising _) (by omega)), ?_⟩)
    (refine zkd (zst_p (yD rfl (yD rfl (dq rfl (zqX zI ?_))))); refine ⟨(rc r), (idx rfl hr), ?_⟩)
    (refine zkd (zst_p (yD rfl (yD rfl (dq rfl (zqX zI ?_))))); refine ⟨_, _, (ref_put _ r.y1 (Reg.rising_put _ _ (heights_rising _)) (by omega)), ?_⟩)
    ((refine zkd (zst_p (yD rfl (zd_0 (zr_s rfl (zr_s rfl (zr_s rfl (zr_s rfl (zr_s rfl (zr_s rfl (zr_s rfl (zr_s rfl (zr_s rfl (zr_s rfl ?_))))))))))))); refine zr_s rfl (zr_s rfl (zr_s rfl (zr_k rfl rfl (zr_q rfl (zb_n (zt_n (zw_o (yP rfl (yq rfl (zqA zI ?_))))))))))); refine And.intro ⟨by omega, by omega⟩ ?_)
    (refine yk (yA rfl (yT (zaf_raw ?_))); refine ⟨(i + 1), _, SLe.refl _ _, ?_⟩)
    refine ⟨by omega, by omega, ⟨rfl, ?_, rfl, trivial⟩, trivial⟩
    rw [heights_step hr]
    rfl
  · rw [lm] at h1
    (refine zw_x (zt_x (zt_x (zb_h (zt_n (yS (yP rfl (yA rfl (yR zi ?_)))))))); refine And.intro ?_ trivial)
    rw [List.take_of_length_le (by omega)]
theorem sp_inj (a b : Int × Int) : a = b ↔ a.1 = b.1 ∧ a.2 = b.2 := Prod.ext_iff
set_option maxRecDepth 100000 in
set_option maxHeartbeats 1000000 in
theorem ref_sameSpans (l m : Spans) (hN : l.length ≤ 140737488355328) : ACalls C 126 [.pv (spans l), .pv (spans m)] (.p (bool (decide (l = m)))) [] := by
  refine fun_go hC Tryz.func126 rfl rfl 26 rfl (by decide) (by kernel_rfl) fun _ _ _ _ _ => ?_
  have lm := len_map l sp
  have mm := len_map m sp
  (refine yS (yA rfl (yT (zw_s (yS (yP rfl (yP rfl (yP rfl (yP rfl (yP rfl (yT (zw_c rfl ?_))))))))))); refine bcase_split (fun h0 => ?_) (fun h0 => ?_) <;> try simp only [zB] at h0)
  · rw [lm, mm] at h0
    (refine yS (yA rfl (yT (zw_r (zt_r (ze_r zi ?_))))); refine And.intro ?_ trivial)
    rw [decide_eq_false (fun e : l = m => h0 (by rw [e]))]
    rfl
  · rw [lm, mm] at h0
    refine zw_k (zt_n (zw_s (yS (yA rfl (yT (zw_b ?_))))))
    refine loop_ok' (fun i : Nat => i ≤ l.length ∧ (l = m ↔ l.drop i = m.drop i)) (fun i => [(0, .p (spans l)), (1, .p (spans m)), (5, .p (i64 i))]) (fun _ => []) (fun i => l.length - i) 0 _ (SLe.refl _ _) ⟨Nat.zero_le _, Iff.rfl⟩ ⟨rfl, rfl, rfl, trivial⟩ trivial fun i hi t h => ?_
    (refine zw_s (yS (yP rfl (yP rfl (yP rfl (yP rfl (yT (zw_c rfl ?_))))))); refine bcase_split (fun h1 => ?_) (fun h1 => ?_) <;> try simp only [zB] at h1)
    · rw [lm] at h1
      obtain ⟨r, hr⟩ := get_of (l := l) (i := i) (by omega)
      obtain ⟨q, hq⟩ := get_of (l := m) (i := i) (by omega)
      have hs := drop_same hr hq
      (refine zw_k (zt_n (zw_s (zw_b (zw_s (zw_d false [true, true, true, true, true, true, true, true, true] rfl (by kernel_rfl) (zp_q rfl (yD rfl (yD rfl (dq rfl (zqX zI ?_)))))))))); refine ⟨(sp r), (idx rfl hr), ?_⟩)
      (refine zkd (zst_p (yD rfl (yD rfl (yD rfl (dq rfl (zqX zI ?_)))))); refine ⟨(sp q), (idx rfl hq), ?_⟩)
      have he := sp_inj r q
      (refine zkd (zst_p (yD rfl (yD rfl (zd_0 (zr_q rfl (zt_n (zw_c rfl ?_))))))); refine bcase_split (fun h2 => ?_) (fun h2 => ?_) <;> try simp only [zB] at h2)
      · (refine yS (yA rfl (yT (zw_r (zb_r (zt_r (zt_r (zb_r (zt_r (ze_r zi ?_))))))))); refine And.intro ?_ trivial)
        rw [decide_eq_false]; rfl
        rw [hi.2, hs, he]
        simp only [Bool.and_eq_false_iff, decide_eq_false_iff_not] at h2
        intro ⟨⟨e1, e2⟩, _⟩
        simp [e1, e2] at h2
      · (refine zw_k (zb_n (zt_n (zw_o (yP rfl (yq rfl (zqA zI ?_)))))); refine And.intro ⟨by omega, by omega⟩ ?_)
        (refine yk (yA rfl (yT (zaf_raw ?_))); refine ⟨(i + 1), _, SLe.refl _ _, ?_⟩)
        refine ⟨⟨by omega, ?_⟩, by omega, ⟨rfl, rfl, rfl, trivial⟩, trivial⟩
        rw [hi.2, hs, he]
        simp [decide_eq_true_eq] at h2
        exact and_iff_right h2
    · (refine zw_x (zt_x (zt_x (zb_h (zt_n (yS (yA rfl (yR zi ?_))))))); refine And.intro ?_ trivial)
      rw [lm] at h1
      rw [decide_eq_true]; rfl
      rw [hi.2, List.drop_of_length_le (by omega), List.drop_of_length_le (by omega)]
theorem sp_rows (l : Spans) : ∀ r ∈ l.map sp, r.length = 2 := by
  intro r hr
  obtain ⟨n, _, rfl⟩ := List.mem_map.1 hr
  rfl
theorem absorb_step {l : Spans} {k : Nat} {p : Int × Int} {a b : Int} (h : l[k]? = some p) : Reg.absorb (l.drop k) a b = if p.1 ≤ b then Reg.absorb (l.drop (k + 1)) (min a p.1) (max b p.2) else (a, b) :: l.drop k := by
  obtain ⟨h1, h2⟩ := List.getElem?_eq_some_iff.1 h
  rw [List.drop_eq_getElem_cons h1, h2]
  rfl
set_option maxRecDepth 100000 in
set_option maxHeartbeats 1000000 in
theorem ref_joined (l : Spans) (a b : Int) (hN : l.length ≤ 1000000) : ACalls C 127 [.pv (spans l), .pv (.ag (sp (a, b)))] (.p (spans (Reg.joined l a b))) [] := by
  refine fun_go hC Tryz.func127 rfl rfl 73 rfl (by decide) (by kernel_rfl) fun _ _ _ _ _ => ?_
  have lm := len_map l sp
  refine yS (yn rfl (zq1 zI (zkns (zst_bx (yB rfl (yU (yB rfl (yU (yA rfl (yT (zw_s (zw_b ?_))))))))))))
  refine cutB' (fun i : Nat => i ≤ l.length ∧ Reg.joined l a b = l.take i ++ Reg.absorb (l.drop i) a b) (fun i => [(0, .p (spans l)), (3, .bx 3 0), (5, .ow 5), (6, .p (i64 i))]) (fun i => [(3, .box [.p (i64 a), .p (i64 b)]), (5, .row 152 ((l.take i).map sp))]) (fun i hi t h => ?_) ?_
  · obtain ⟨hi1, hi2⟩ := hi
    have lt := List.length_take_le i l
    refine zt_n (zw_s (zw_b ?_))
    refine cutB' (fun y : Nat × Int × Int => y.1 ≤ l.length ∧ Reg.joined l a b = l.take i ++ (y.2.1, y.2.2) :: l.drop y.1) (fun y => [(0, .p (spans l)), (3, .bx 3 0), (5, .ow 5), (6, .p (i64 y.1))]) (fun y => [(3, .box [.p (i64 y.2.1), .p (i64 y.2.2)]), (5, .row 152 ((l.take i).map sp))]) (fun y hy t h => ?_) ?_
    · obtain ⟨k, a', b'⟩ := y
      obtain ⟨hy1, hy2⟩ := hy
      simp only at hy1 hy2
      (refine zt_n (yS (yq rfl (zq1 zI (zkq (zst_ow (yP rfl (yn rfl (zq1 zI (zkns (zst_ow (yn rfl (zqA zI ?_)))))))))))); refine And.intro ⟨by simp, by simp; omega, by simp; omega⟩ ?_)
      (refine zkns (zst_e (zst_ow (zo_n rfl (zs_ar rfl rfl rfl rfl rfl (yU (yq rfl (zq1 zI (zkq (zst_ow (yP rfl (yP rfl (yq rfl (zqA zI ?_))))))))))))); refine And.intro ⟨by omega, by rw [lm]; omega, by omega, sp_rows l⟩ ?_)
      (refine yk (yn rfl (zqA zI ?_)); refine And.intro ⟨rows_cut (sp_rows l), by simp [lm]; omega, by simp [lm]; omega⟩ ?_)
      (refine zkns (zst_e (zst_ow (zo_n rfl (zs_ar rfl rfl rfl rfl rfl (yR zi ?_))))); refine And.intro ?_ trivial)
      rw [hy2]
      simp [spans, List.map_take, List.map_drop, sp, i64]
      rw [List.take_of_length_le (by simp)]
    · refine loop_ok' (fun y : Nat × Int × Int => y.1 ≤ l.length ∧ Reg.joined l a b = l.take i ++ Reg.absorb (l.drop y.1) y.2.1 y.2.2) (fun y => [(0, .p (spans l)), (3, .bx 3 0), (5, .ow 5), (6, .p (i64 y.1))]) (fun y => [(3, .box [.p (i64 y.2.1), .p (i64 y.2.2)]), (5, .row 152 ((l.take i).map sp))]) (fun y => l.length - y.1) (i, a, b) _ (SLe.refl _ _) ⟨hi1, hi2⟩ ⟨rfl, rfl, rfl, rfl, trivial⟩ ⟨rfl, rfl, trivial⟩ fun y hy t h => ?_
      obtain ⟨k, a', b'⟩ := y
      obtain ⟨hy1, hy2⟩ := hy
      simp only at hy1 hy2
      (refine zw_s (zw_s (zw_d false [true, true, true, true, true, true, true, true, true, true, true, true, true, true] rfl (by kernel_rfl) (zp_q rfl (yD rfl (yD rfl (yD rfl (yD rfl (yD rfl (dg rfl ?_))))))))); refine bcase_split (fun h1 => ?_) (fun h1 => ?_) <;> try simp only [zB] at h1)
      · rw [lm] at h1
        obtain ⟨r, hr⟩ := get_of (l := l) (i := k) (by omega)
        have hs := absorb_step (a := a') (b := b') hr
        (refine zg_t (zd_q rfl (zq1 zI (zkd (zst_p (d1 rfl (d2 rfl (zd_q rfl (zqX zI ?_)))))))); refine ⟨(sp r), (idx rfl hr), ?_⟩)
        ((refine zkd (zst_p (d1 rfl (d1 rfl (d2 rfl (zd_q rfl (zq1 zI (zkd (zst_bx (d1 rfl (d1 rfl (yD rfl (zd_0 (zr_q rfl ?_))))))))))))); refine zt_n (zw_c rfl ?_)); refine bcase_split (fun h2 => ?_) (fun h2 => ?_) <;> try simp only [zB] at h2)
        · rw [if_pos h2] at hs
          (refine zw_k (zt_n (zw_b (zw_s (zw_d false [true, true, true, true, true, true, true, true, true, true, true, true, false, true, false, true, true, true, true, true] rfl (by kernel_rfl) (zp_q rfl (yW rfl (yD rfl (yD rfl (yD rfl (dq rfl (zqX zI ?_))))))))))); refine ⟨(sp r), (idx rfl hr), ?_⟩)
          (refine zkd (zst_p (yD rfl (yD rfl (yD rfl (yW rfl (yD rfl (yD rfl (yD rfl (dq rfl (zqX zI ?_)))))))))); refine ⟨(sp r), (idx rfl hr), ?_⟩)
          ((refine zkd (zst_p (yD rfl (yD rfl (yD rfl (yW rfl (dq rfl (zq1 zI (zkde rfl (zst_e (zst_0 (yW rfl (dq rfl (zq1 zI ?_))))))))))))); refine zkde rfl (zst_e (zst_0 (zd_0 (zr_q rfl (zt_n (zw_o (yP rfl (yq rfl (zqA zI ?_)))))))))); refine And.intro ⟨by omega, by omega⟩ ?_)
          (refine yk (yA rfl (zo_0 (zb_n (zt_n (zaf_raw ?_))))); refine ⟨(k + 1, min a' r.1, max b' r.2), _, SLe.refl _ _, ?_⟩)
          exact ⟨⟨by simp only; omega, by rw [hy2, hs]⟩, by simp only; omega, ⟨rfl, rfl, rfl, rfl, trivial⟩, ⟨rfl, rfl, trivial⟩⟩
        · rw [if_neg h2] at hs
          refine zw_x (zt_x (zt_x (zb_h (zt_n (zaf_raw (zX zi ?_))))))
          exact ⟨(k, a', b'), ⟨hy1, by rw [hy2, hs]⟩, ⟨rfl, rfl, rfl, rfl, trivial⟩, ⟨rfl, rfl, trivial⟩⟩
      · rw [lm] at h1
        (refine zg_f (zst_p (d0 rfl (d0 rfl (d0 rfl (d0 rfl (d0 rfl (d0 rfl (d0 rfl (yD rfl (zd_0 (zr_q rfl (zt_n (zw_c rfl ?_))))))))))))); refine zc_f (zw_x (zt_x (zt_x (zb_h (zt_n (zaf_raw (zX zi ?_))))))))
        refine ⟨(k, a', b'), ⟨hy1, ?_⟩, ⟨rfl, rfl, rfl, rfl, trivial⟩, ⟨rfl, rfl, trivial⟩⟩
        rw [hy2, List.drop_of_length_le (show l.length ≤ k by omega)]
        rfl
  · refine loop_ok' (fun i : Nat => i ≤ l.length ∧ ∀ k p, k < i → l[k]? = some p → p.2 < a) (fun i => [(0, .p (spans l)), (3, .bx 3 0), (5, .ow 5), (6, .p (i64 i))]) (fun i => [(3, .box [.p (i64 a), .p (i64 b)]), (5, .row 152 ((l.take i).map sp))]) (fun i => l.length - i) 0 _ (SLe.nilRow hC _ 5 152 _ (by decide) rfl rfl (by decide)) ⟨Nat.zero_le _, fun k p h => by omega⟩ ⟨rfl, rfl, rfl, rfl, trivial⟩ ⟨rfl, rfl, trivial⟩ fun i hi t h => ?_
    have lt := List.length_take_le i l
    (refine zw_s (zw_s (zw_d false [true, true, true, true, true, true, true, true, true, true, true, true, true, true] rfl (by kernel_rfl) (zp_q rfl (yD rfl (yD rfl (yD rfl (yD rfl (yD rfl (dg rfl ?_))))))))); refine bcase_split (fun h1 => ?_) (fun h1 => ?_) <;> try simp only [zB] at h1)
    · rw [lm] at h1
      obtain ⟨r, hr⟩ := get_of (l := l) (i := i) (by omega)
      (refine zg_t (zd_q rfl (zq1 zI (zkd (zst_p (d1 rfl (d2 rfl (zd_q rfl (zqX zI ?_)))))))); refine ⟨(sp r), (idx rfl hr), ?_⟩)
      ((refine zkd (zst_p (d1 rfl (d1 rfl (d2 rfl (zd_q rfl (zq1 zI (zkd (zst_bx (d1 rfl (d1 rfl (yD rfl (zd_0 (zr_q rfl ?_))))))))))))); refine zt_n (zw_c rfl ?_)); refine bcase_split (fun h2 => ?_) (fun h2 => ?_) <;> try simp only [zB] at h2)
      · (refine zw_k (zt_n (zw_b (yS (yq rfl (zq1 zI (zkq (zst_ow (yP rfl (yP rfl (yq rfl (zqX zI ?_))))))))))); refine ⟨(sp r), (idx rfl hr), ?_⟩)
        (refine yk (yP rfl (yn rfl (zq1 zI (zkns (zst_ow (yn rfl (zqA zI ?_))))))); refine And.intro ⟨by simp [sp], by simp; omega, by simp; omega⟩ ?_)
        (refine zkns (zst_e (zst_ow (zo_n rfl (zs_ar rfl rfl rfl rfl rfl (yT (zw_o (yP rfl (yq rfl (zqA zI ?_))))))))); refine And.intro ⟨by omega, by omega⟩ ?_)
        (refine yk (yA rfl (zo_0 (zb_n (zt_n (zaf_raw ?_))))); refine ⟨(i + 1), _, SLe.refl _ _, ?_⟩)
        refine ⟨⟨by omega, fun k p hk hp => ?_⟩, by omega, ⟨rfl, rfl, rfl, rfl, trivial⟩, ⟨rfl, ?_, trivial⟩⟩
        · by_cases e : k = i
          · subst e; rw [hr] at hp; injection hp with hp; rw [← hp]; exact h2
          · exact hi.2 k p (by omega) hp
        · rw [take_succ' hr, List.map_append]; rfl
      · refine zw_x (zt_x (zt_x (zb_h (zt_n (zaf_raw (zX zi ?_))))))
        refine ⟨i, ⟨hi.1, ?_⟩, ⟨rfl, rfl, rfl, rfl, trivial⟩, ⟨rfl, rfl, trivial⟩⟩
        rw [joined_past i hi.2 hi.1, joined_absorb]
        intro p hp
        rw [List.getElem?_drop, Nat.add_zero, hr] at hp
        injection hp with hp
        rw [← hp]; exact h2
    · rw [lm] at h1
      (refine zg_f (zst_p (d0 rfl (d0 rfl (d0 rfl (d0 rfl (d0 rfl (d0 rfl (d0 rfl (yD rfl (zd_0 (zr_q rfl (zt_n (zw_c rfl ?_))))))))))))); refine zc_f (zw_x (zt_x (zt_x (zb_h (zt_n (zaf_raw (zX zi ?_))))))))
      refine ⟨i, ⟨hi.1, ?_⟩, ⟨rfl, rfl, rfl, rfl, trivial⟩, ⟨rfl, rfl, trivial⟩⟩
      rw [joined_past i hi.2 hi.1, joined_absorb]
      intro p hp
      rw [List.getElem?_eq_none (by simp; omega)] at hp
      cases hp
end Go.Proofs.YtcfhiodoogkcpaaGreatDoor.M
