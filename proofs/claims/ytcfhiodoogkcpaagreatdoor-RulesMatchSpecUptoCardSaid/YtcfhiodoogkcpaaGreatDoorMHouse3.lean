/- By the machine: the house's regions: rectangles, equality of lists, bands. -/
import Derived.Test.YtcfhiodoogkcpaaGreatDoorMHouse2
set_option linter.unusedSimpArgs false
set_option linter.unusedVariables false
namespace Go.Proofs.YtcfhiodoogkcpaaGreatDoor.M
open Go.AM Go.RowKit
open Reg (Rect Spans Band)

set_option maxHeartbeats 1000000 in
theorem house_checkRects (l : List Rect) : ACalls C 57 [.pv (rects l)] (.p (i64 (Reg.checkRects l))) [] := by
  refine fun_go hC Tryz.func57 rfl rfl 30 rfl (by decide) (by kernel_rfl) fun _ _ _ _ _ => ?_
  have lm := len_map l rc
  (refine yS (yA rfl (yT (zw_s (yS (yP rfl (yP rfl (yP rfl (yT (zw_c rfl ?_))))))))); refine bcase_split (fun h0 => ?_) (fun h0 => ?_) <;> try simp only [zB] at h0)
  · rw [lm] at h0
    (refine yS (yA rfl (yT (zw_r (zt_r (ze_r zi ?_))))); refine And.intro ?_ trivial)
    rw [Reg.checkRects, if_pos (by omega)]; rfl
  · rw [lm] at h0
    have hc : Reg.checkRects l = Reg.rectsFault l := by rw [Reg.checkRects, if_neg (by omega)]
    refine zw_k (zt_n (zw_s (yS (yP rfl (yP rfl (yP rfl (yT (zw_b ?_))))))))
    refine loop_ok' (fun i : Nat => i ≤ l.length ∧ Reg.rectsFault l = Reg.rectsFault (l.drop i)) (fun i => [(8, .p (rects l)), (9, .p (i64 (l.map rc).length)), (10, .p (i64 i))]) (fun _ => []) (fun i => l.length - i) 0 _ (SLe.refl _ _) ⟨Nat.zero_le _, rfl⟩ ⟨rfl, rfl, rfl, trivial⟩ trivial fun i hi t h => ?_
    (refine yS (yP rfl (yT (zw_s (zw_c rfl ?_)))); refine bcase_split (fun h1 => ?_) (fun h1 => ?_) <;> try simp only [zB] at h1)
    · rw [lm] at h1
      obtain ⟨r, hr⟩ := get_of (l := l) (i := i) (by omega)
      have hs := rects_fault_step hr
      (refine zw_k (zt_n (zw_s (zw_b (yS (yq rfl (zqX zI ?_)))))); refine ⟨(rc r), (idx rfl hr), ?_⟩)
      ((refine yk (yP rfl (yn rfl (zq1 zI (zkns (zst_bx (yq rfl (zq1 zI (zkq (zst_e (zst_0 (yT (zw_s (yS ?_))))))))))))); refine yP rfl (yn rfl (zqX zI ?_))); refine ⟨_, _, (shape_isRect r), ?_⟩)
      (refine zkn rfl rfl (zst_p (yP rfl (yT (zw_c rfl ?_)))); refine bcase_split (fun g1 => ?_) (fun g1 => ?_) <;> try simp only [zB] at g1)
      · (refine yS (yA rfl (yT (zw_r (zt_r (zb_r (zt_r (zt_r (zb_r (zt_r (ze_r zi ?_)))))))))); refine And.intro ?_ trivial)
        rw [hc, hi.2, hs, if_neg (by simp [g1])]; rfl
      rw [if_pos g1] at hs
      (refine zw_k (zt_n (yS (yV rfl (yP rfl (yV rfl (yP rfl (yP rfl (yP rfl (yg rfl ?_))))))))); refine bcase_split (fun e1 => ?_) (fun e1 => ?_) <;> try simp only [zB] at e1)
      · ((refine zg_f (zst_p (y0 rfl (y0 rfl (y0 rfl (y0 rfl (yP rfl (yT (zw_c rfl (zc_t (yS (yA rfl (yT (zw_r ?_))))))))))))); refine zb_r (zt_r (zt_r (zb_r (zt_r (ze_r zi ?_)))))); refine And.intro ?_ trivial)
        rw [hc, hi.2, hs, if_pos (.inl e1)]; rfl
      ((refine zg_t (zs_q rfl rfl (zq1 zI (zkq (zst_bx (y1 rfl (y2 rfl (zs_q rfl rfl (zq1 zI (zkq (zst_bx (y1 rfl (y1 rfl (yP rfl ?_))))))))))))); refine yT (zw_c rfl ?_)); refine bcase_split (fun e2 => ?_) (fun e2 => ?_) <;> try simp only [zB] at e2)
      · (refine yS (yA rfl (yT (zw_r (zb_r (zt_r (zt_r (zb_r (zt_r (ze_r zi ?_))))))))); refine And.intro ?_ trivial)
        rw [hc, hi.2, hs, if_pos (.inr e2)]; rfl
      (refine zw_k (zb_n (zt_n (zw_o (yq rfl (zqA zI ?_))))); refine And.intro ⟨by omega, by omega⟩ ?_)
      (refine yk (yP rfl (yT (zaf_raw ?_))); refine ⟨(i + 1), _, SLe.refl _ _, ?_⟩)
      refine ⟨⟨by omega, ?_⟩, by omega, ⟨rfl, rfl, rfl, trivial⟩, trivial⟩
      rw [hi.2, hs, if_neg (by omega)]
    · rw [lm] at h1
      (refine zw_x (zt_x (zt_x (zb_h (zt_n (yS (yA rfl (yR zi ?_))))))); refine And.intro ?_ trivial)
      rw [hc, hi.2, List.drop_of_length_le (by omega)]; rfl
set_option maxHeartbeats 1000000 in
theorem equal_rects (l m : List Rect) (hN : l.length ≤ 140737488355328) : ACalls C 58 [.pv (rects l), .pv (rects m)] (.p (bool (decide (l = m)))) [] := by
  refine fun_go hC Tryz.func58 rfl rfl 26 rfl (by decide) (by kernel_rfl) fun _ _ _ _ _ => ?_
  have lm := len_map l rc
  have mm := len_map m rc
  (refine yS (yA rfl (yT (zw_s (yS (yP rfl (yP rfl (yP rfl (yP rfl (yP rfl (yT (zw_c rfl ?_))))))))))); refine bcase_split (fun h0 => ?_) (fun h0 => ?_) <;> try simp only [zB] at h0)
  · rw [lm, mm] at h0
    (refine yS (yA rfl (yT (zw_r (zt_r (ze_r zi ?_))))); refine And.intro ?_ trivial)
    rw [decide_eq_false (fun e : l = m => h0 (by rw [e]))]
    rfl
  · rw [lm, mm] at h0
    refine zw_k (zt_n (zw_s (yS (yP rfl (yP rfl (yP rfl (yT (zw_b ?_))))))))
    refine loop_ok' (fun i : Nat => i ≤ l.length ∧ (l = m ↔ l.drop i = m.drop i)) (fun i => [(0, .p (rects l)), (1, .p (rects m)), (12, .p (i64 (l.map rc).length)), (13, .p (i64 i))]) (fun _ => []) (fun i => l.length - i) 0 _ (SLe.refl _ _) ⟨Nat.zero_le _, Iff.rfl⟩ ⟨rfl, rfl, rfl, rfl, trivial⟩ trivial fun i hi t h => ?_
    (refine yS (yP rfl (yT (zw_s (zw_c rfl ?_)))); refine bcase_split (fun h1 => ?_) (fun h1 => ?_) <;> try simp only [zB] at h1)
    · rw [lm] at h1
      obtain ⟨r, hr⟩ := get_of (l := l) (i := i) (by omega)
      obtain ⟨q, hq⟩ := get_of (l := m) (i := i) (by omega)
      have hs := drop_same hr hq
      ((refine zw_k (zt_n (zw_s (zw_b (yS (yP rfl (yA rfl (yT (zw_s (zw_d false [true, true, true, true, true, true, true, true, true] rfl (by kernel_rfl) (zp_q rfl (yD rfl (yD rfl (dq rfl ?_))))))))))))); refine zqX zI ?_); refine ⟨(rc r), (idx rfl hr), ?_⟩)
      (refine zkd (zst_p (yD rfl (yD rfl (yD rfl (dq rfl (zqX zI ?_)))))); refine ⟨(rc q), (idx rfl hq), ?_⟩)
      have he := Reg.Rect.ext_iff' r q
      (refine zkd (zst_p (yD rfl (yD rfl (zd_0 (zr_q rfl (zt_n (zw_c rfl ?_))))))); refine bcase_split (fun h2 => ?_) (fun h2 => ?_) <;> try simp only [zB] at h2)
      · (refine yS (yA rfl (yT (zw_r (zb_r (zt_r (zt_r (zb_r (zt_r (ze_r zi ?_))))))))); refine And.intro ?_ trivial)
        rw [decide_eq_false]; rfl
        rw [hi.2, hs, he]
        simp only [Bool.and_eq_false_iff, decide_eq_false_iff_not] at h2
        intro ⟨⟨e1, e2, e3, e4⟩, _⟩
        simp [e1, e2, e3, e4] at h2
      · (refine zw_k (zb_n (zt_n (zw_o (yq rfl (zqA zI ?_))))); refine And.intro ⟨by omega, by omega⟩ ?_)
        (refine yk (yP rfl (yT (zaf_raw ?_))); refine ⟨(i + 1), _, SLe.refl _ _, ?_⟩)
        refine ⟨⟨by omega, ?_⟩, by omega, ⟨rfl, rfl, rfl, rfl, trivial⟩, trivial⟩
        rw [hi.2, hs, he]
        simp [decide_eq_true_eq] at h2
        exact and_iff_right h2
    · (refine zw_x (zt_x (zt_x (zb_h (zt_n (yS (yA rfl (yR zi ?_))))))); refine And.intro ?_ trivial)
      rw [lm] at h1
      rw [decide_eq_true]; rfl
      rw [hi.2, List.drop_of_length_le (by omega), List.drop_of_length_le (by omega)]
set_option maxHeartbeats 1000000 in
theorem equal_ints (l m : List Int) (hN : l.length ≤ 140737488355328) : ACalls C 113 [.pv (ints l), .pv (ints m)] (.p (bool (decide (l = m)))) [] := by
  refine fun_go hC Tryz.func113 rfl rfl 26 rfl (by decide) (by kernel_rfl) fun _ _ _ _ _ => ?_
  have lm := len_map l fun n => [i64 n]
  have mm := len_map m fun n => [i64 n]
  (refine yS (yA rfl (yT (zw_s (yS (yP rfl (yP rfl (yP rfl (yP rfl (yP rfl (yT (zw_c rfl ?_))))))))))); refine bcase_split (fun h0 => ?_) (fun h0 => ?_) <;> try simp only [zB] at h0)
  · rw [lm, mm] at h0
    (refine yS (yA rfl (yT (zw_r (zt_r (ze_r zi ?_))))); refine And.intro ?_ trivial)
    rw [decide_eq_false (fun e : l = m => h0 (by rw [e]))]
    rfl
  · rw [lm, mm] at h0
    refine zw_k (zt_n (zw_s (yS (yP rfl (yP rfl (yP rfl (yT (zw_b ?_))))))))
    refine loop_ok' (fun i : Nat => i ≤ l.length ∧ (l = m ↔ l.drop i = m.drop i)) (fun i => [(0, .p (ints l)), (1, .p (ints m)), (12, .p (i64 (l.map fun n => [i64 n]).length)), (13, .p (i64 i))]) (fun _ => []) (fun i => l.length - i) 0 _ (SLe.refl _ _) ⟨Nat.zero_le _, Iff.rfl⟩ ⟨rfl, rfl, rfl, rfl, trivial⟩ trivial fun i hi t h => ?_
    (refine yS (yP rfl (yT (zw_s (zw_c rfl ?_)))); refine bcase_split (fun h1 => ?_) (fun h1 => ?_) <;> try simp only [zB] at h1)
    · rw [lm] at h1
      obtain ⟨r, hr⟩ := get_of (l := l) (i := i) (by omega)
      obtain ⟨q, hq⟩ := get_of (l := m) (i := i) (by omega)
      have hs := drop_same hr hq
      ((refine zw_k (zt_n (zw_s (zw_b (yS (yP rfl (yA rfl (yT (zw_s (zw_d false [true, true, true, true, true, true, true, true, true] rfl (by kernel_rfl) (zp_q rfl (yD rfl (yD rfl (dq rfl ?_))))))))))))); refine zqX zI ?_); refine ⟨[i64 r], (idx rfl hr), ?_⟩)
      (refine zkd (zst_p (yD rfl (yD rfl (yD rfl (dq rfl (zqX zI ?_)))))); refine ⟨[i64 q], (idx rfl hq), ?_⟩)
      (refine zkd (zst_p (yD rfl (yD rfl (zd_0 (zr_q rfl (zt_n (zw_c rfl ?_))))))); refine bcase_split (fun h2 => ?_) (fun h2 => ?_) <;> try simp only [zB] at h2)
      · (refine yS (yA rfl (yT (zw_r (zb_r (zt_r (zt_r (zb_r (zt_r (ze_r zi ?_))))))))); refine And.intro ?_ trivial)
        rw [decide_eq_false]; rfl
        rw [hi.2, hs]
        exact fun h => h2 h.1
      · (refine zw_k (zb_n (zt_n (zw_o (yq rfl (zqA zI ?_))))); refine And.intro ⟨by omega, by omega⟩ ?_)
        (refine yk (yP rfl (yT (zaf_raw ?_))); refine ⟨(i + 1), _, SLe.refl _ _, ?_⟩)
        refine ⟨⟨by omega, ?_⟩, by omega, ⟨rfl, rfl, rfl, rfl, trivial⟩, trivial⟩
        rw [hi.2, hs]
        exact and_iff_right h2
    · (refine zw_x (zt_x (zt_x (zb_h (zt_n (yS (yA rfl (yR zi ?_))))))); refine And.intro ?_ trivial)
      rw [lm] at h1
      rw [decide_eq_true]; rfl
      rw [hi.2, List.drop_of_length_le (by omega), List.drop_of_length_le (by omega)]
/-- spans as the house keeps them -/
def flat : Spans → List Int
  | [] => []
  | p :: s => p.1 :: p.2 :: flat s
theorem flat_length : ∀ s : Spans, (flat s).length = 2 * s.length := by
  intro s
  induction s with
  | nil => rfl
  | cons p s ih => simp only [flat, List.length_cons, ih]; omega
theorem flat_inj : ∀ {s u : Spans}, flat s = flat u → s = u := by
  intro s
  induction s with
  | nil => intro u h; cases u with | nil => rfl | cons => cases h
  | cons p s ih =>
    intro u h
    cases u with
    | nil => cases h
    | cons q u =>
      simp only [flat, List.cons.injEq] at h
      rw [ih h.2.2, Prod.ext h.1 h.2.1]
theorem flat_append (s u : Spans) : flat (s ++ u) = flat s ++ flat u := by
  induction s with
  | nil => rfl
  | cons p s ih => simp only [List.cons_append, flat, ih]
/-- a band of the house -/
def hb (b : Band) : List PV := [i64 b.y0, i64 b.y1, ints (flat b.xs)]
set_option maxRecDepth 100000 in
set_option maxHeartbeats 1000000 in
theorem house_push (l : List Band) (b : Band) (hb0 : b.y0 < b.y1) (hN : l.length ≤ 1000000000000) (hX : ∀ t ∈ l, t.xs.length ≤ 1000000000000) : ACalls C 84 [.row 108 (l.map hb), .pv (.ag (hb b))] (.own 108 ((Reg.pushB l b).map hb)) [.gone] := by
  refine fun_go hC Tryz.func84 rfl rfl 54 rfl (by decide) (by kernel_rfl) fun _ _ _ _ _ => ?_
  have lm := len_map l hb
  have sm := len_map (flat b.xs) fun n => [i64 n]
  have fl := flat_length b.xs
  have done : ∀ z : List Band, z = Reg.pushB l b → AB.row 108 (z.map hb) = AB.row 108 ((Reg.pushB l b).map hb) := fun z e => by rw [e]
  ((refine yS (yn rfl (zq1 zI (zkns (zst_bx (yB rfl (yT (zw_s (yS (yV rfl (yP rfl (yP rfl (yP rfl (yP rfl ?_))))))))))))); refine yg rfl ?_); refine bcase_split (fun h1 => ?_) (fun h1 => ?_) <;> try simp only [zB] at h1)
  · rw [sm, fl] at h1
    have he : b.xs = [] := List.eq_nil_of_length_eq_zero (by omega)
    (refine zg_f (zst_p (y0 rfl (y0 rfl (y0 rfl (y0 rfl (yP rfl (yT (zw_c rfl (zc_t (yS (yq rfl (zq1 zI (zkq ?_))))))))))))); refine zst_ow (zo_n rfl (zs_ar rfl rfl rfl rfl rfl (yT (zw_r (zt_r (ze_r zi ?_)))))))
    exact ⟨done l (by rw [Reg.pushB, if_pos he]), rfl, trivial⟩
  · rw [sm, fl] at h1
    have he : b.xs ≠ [] := fun e => h1 (by rw [e]; rfl)
    have more : l ++ [b] = Reg.pushB l b → AB.row 108 (l.map hb ++ [hb b]) = AB.row 108 ((Reg.pushB l b).map hb) := fun e => by rw [← e, List.map_append]; rfl
    ((refine zg_t (zs_q rfl rfl (zq1 zI (zkq (zst_bx (y1 rfl (y2 rfl (zs_q rfl rfl (zq1 zI (zkq (zst_bx (y1 rfl (y1 rfl (yP rfl ?_))))))))))))); refine yT (zw_c rfl ?_)); refine bcase_split (fun h0 => ?_) (fun h0 => ?_) <;> try simp only [zB] at h0)
    · omega
    (refine zw_k (zt_n (zw_s (yS (yq rfl (zq1 zI (zkq (zst_ow (yP rfl (yq rfl (zqA zI ?_)))))))))); refine And.intro ⟨by rw [lm]; omega, by rw [lm]; omega⟩ ?_)
    ((refine yk (yA rfl (yT (zw_s (zw_d false [true, true, true, true, true, true, true, true, true, true, true, true, true, true, true, true, true, true, true, true, true, true] rfl (by kernel_rfl) (zp_s rfl (zp_s rfl (zp_s rfl (zp_s rfl (zp_s rfl (zp_s rfl (zp_s rfl (zp_s rfl (zp_s rfl ?_))))))))))))); refine zp_s rfl (zp_s rfl (zp_s rfl (zp_s rfl (zp_s rfl (zp_s rfl (zp_s rfl (zp_s rfl (zp_s rfl (zp_s rfl (zp_s rfl (zp_n rfl rfl (zp_q rfl (yD rfl ?_))))))))))))); refine yD rfl (yD rfl (dg rfl ?_))); refine bcase_split (fun h2 => ?_) (fun h2 => ?_) <;> try simp only [zB] at h2)
    · rw [lm] at h2
      obtain ⟨m, hm⟩ : ∃ m, l.length = m + 1 := ⟨l.length - 1, by omega⟩
      have hi : ((l.map hb).length : Int) - 1 = (m : Nat) := by rw [lm]; omega
      have hp : Reg.pushB l b = match l.getLast? with
        | some t => if t.y1 = b.y0 ∧ t.xs = b.xs then l.dropLast ++ [⟨t.y0, b.y1, t.xs⟩] else l ++ [b]
        | none => [b] := by rw [Reg.pushB, if_neg he]; rfl
      obtain ⟨t, ht⟩ := get_of (l := l) (i := m) (by omega)
      rw [last_get hm ht] at hp
      simp only at hp
      have ft := flat_length t.xs
      (refine zg_t (zd_q rfl (zq1 zI (zkd (zst_ow (d1 rfl (d2 rfl (zd_q rfl (zqA zI ?_)))))))); refine And.intro ⟨by rw [hi]; omega, by rw [hi, lm]; omega⟩ ?_)
      (refine zkd (zst_rp (d2 rfl (zd_q rfl (zq1 zI (zkd (zst_rp (d2 rfl (zd_q rfl (zqX zI ?_))))))))); refine ⟨(hb t), (idx hi ht).2, ?_⟩)
      (refine zkd (zst_p (d2 rfl (zd_q rfl (zq1 zI (zkd (zst_bx (d1 rfl (d1 rfl (yD rfl (yD rfl (dg rfl ?_))))))))))); refine bcase_split (fun h3 => ?_) (fun h3 => ?_) <;> try simp only [zB] at h3)
      · (refine zg_t (zd_q rfl (zq1 zI (zkd (zst_ow (d1 rfl (d2 rfl (zd_q rfl (zqA zI ?_)))))))); refine And.intro ⟨by rw [hi]; omega, by rw [hi, lm]; omega⟩ ?_)
        (refine zkd (zst_rp (d2 rfl (zd_q rfl (zq1 zI (zkd (zst_rp (d2 rfl (zd_q rfl (zqX zI ?_))))))))); refine ⟨(hb t), (idx hi ht).2, ?_⟩)
        (refine zkd (zst_p (d2 rfl (zd_q rfl (zq1 zI (zkd (zst_bx (d1 rfl (d2 rfl (zd_q rfl (zqX zI ?_)))))))))); refine ⟨_, _, (equal_ints (flat t.xs) (flat b.xs) (by have := hX t (List.mem_of_getElem? ht); omega)), ?_⟩)
        (refine zkd (zst_p (yD rfl (zd_0 (zr_q rfl (zt_n (zw_c rfl ?_)))))); refine bcase_split (fun h4 => ?_) (fun h4 => ?_) <;> try simp only [zB] at h4)
        · have h4 : t.xs = b.xs := flat_inj h4
          (refine yS (yq rfl (zq1 zI (zkq (zst_ow (yP rfl (yV rfl (yP rfl (yq rfl (zqA zI ?_))))))))); refine And.intro ⟨by rw [hi]; omega, by rw [hi, lm]; omega⟩ ?_)
          (refine zkq (zst_rp (yV rfl (yq rfl (zqX zI ?_)))); refine ⟨(hb t), (idx hi ht).2, ?_⟩)
          refine zkq (zst_e (zst_0 (yU (yq rfl (zq1 zI (zkq (zst_ow (zo_n rfl (zs_ar rfl rfl rfl rfl rfl (yT (zw_r (zt_r (ze_r zi ?_)))))))))))))
          rw [if_pos ⟨h3, h4⟩] at hp
          have hset : ∀ k : Nat, k = m → AB.row 108 ((l.map hb).set k [i64 t.y0, i64 b.y1, ints (flat t.xs)]) = AB.row 108 ((Reg.pushB l b).map hb) := by
            intro k e
            subst e
            rw [hp]
            obtain ⟨d, hd⟩ := List.getLast?_eq_some_iff.1 (last_get hm ht)
            subst hd
            have hk : k = d.length := by simp at hm; omega
            subst hk
            simp [hb]
          exact ⟨hset _ (by rw [hi]; rfl), rfl, trivial⟩
        · have h4 : t.xs ≠ b.xs := fun e => h4 (by rw [e])
          rw [if_neg (fun h => h4 h.2)] at hp
          (refine zw_k (zt_n (yS (yq rfl (zq1 zI (zkq (zst_ow (yP rfl (yn rfl (zq1 zI (zkns (zst_ow (yn rfl (zqA zI ?_))))))))))))); refine And.intro ⟨by simp, by simp; omega, by simp; omega⟩ ?_)
          refine zkns (zst_e (zst_ow (zo_n rfl (zs_ar rfl rfl rfl rfl rfl (yR zi ?_)))))
          exact ⟨more hp.symm, rfl, trivial⟩
      · rw [if_neg (fun h => h3 h.1)] at hp
        ((refine zg_f (zst_p (d0 rfl (d0 rfl (d0 rfl (d0 rfl (d0 rfl (d0 rfl (d0 rfl (yD rfl (zd_0 (zr_q rfl (zt_n (zw_c rfl ?_))))))))))))); refine zc_f (zw_k (zt_n (yS (yq rfl (zq1 zI (zkq (zst_ow (yP rfl (yn rfl (zq1 zI (zkns (zst_ow (yn rfl ?_))))))))))))); refine zqA zI ?_); refine And.intro ⟨by simp, by simp; omega, by simp; omega⟩ ?_)
        refine zkns (zst_e (zst_ow (zo_n rfl (zs_ar rfl rfl rfl rfl rfl (yR zi ?_)))))
        exact ⟨more hp.symm, rfl, trivial⟩
    · rw [lm] at h2
      have hl : l = [] := List.eq_nil_of_length_eq_zero (by omega)
      ((refine zg_f (zst_p (d0 rfl (d0 rfl (d0 rfl (d0 rfl (d0 rfl (d0 rfl (d0 rfl (yD rfl (yD rfl (d0 rfl (d0 rfl (d0 rfl ?_))))))))))))); refine d0 rfl (d0 rfl (d0 rfl (d0 rfl (d0 rfl (yD rfl (zd_0 (zr_q rfl (zt_n (zw_c rfl (zc_f (zw_k (zt_n (yS ?_))))))))))))); refine yq rfl (zq1 zI (zkq (zst_ow (yP rfl (yn rfl (zq1 zI (zkns (zst_ow (yn rfl (zqA zI ?_))))))))))); refine And.intro ⟨by simp, by simp; omega, by simp; omega⟩ ?_)
      refine zkns (zst_e (zst_ow (zo_n rfl (zs_ar rfl rfl rfl rfl rfl (yR zi ?_)))))
      exact ⟨more (by subst hl; rw [Reg.pushB, if_neg he]; rfl), rfl, trivial⟩
end Go.Proofs.YtcfhiodoogkcpaaGreatDoor.M
