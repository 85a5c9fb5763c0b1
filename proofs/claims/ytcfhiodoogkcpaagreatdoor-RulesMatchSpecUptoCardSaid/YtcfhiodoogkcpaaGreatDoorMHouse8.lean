/- By the machine: the house's regions: SetOf. -/
import Derived.Test.YtcfhiodoogkcpaaGreatDoorMHouse7
set_option linter.unusedSimpArgs false
set_option linter.unusedVariables false
namespace Go.Proofs.YtcfhiodoogkcpaaGreatDoor.M
open Go.AM Go.RowKit Go.Lib
open Reg (Rect Spans Band)

def Good (r : Rect) : Prop := Bd r ∧ r.x0 < r.x1 ∧ r.y0 < r.y1
theorem bandsTo_row (l : List Rect) (ys : List Int) {N : Nat} (h : ∀ y, (Reg.rowOf l y).length ≤ N) : ∀ k, ∀ t ∈ Reg.bandsTo l ys k, t.xs.length ≤ N := by
  intro k
  induction k with
  | zero => simp [Reg.bandsTo]
  | succ k ih => rw [Reg.bandsTo]; exact pushB_xs _ _ _ ih (h _)
set_option maxRecDepth 100000 in
set_option maxHeartbeats 4000000 in
theorem house_setOf' (l : List Rect) (hl : ∀ r ∈ l, Good r) (hN : l.length ≤ 4398046511104) (hH : (Reg.heights l).length ≤ 1000000000000) (hX : ∀ y, (Reg.rowOf l y).length ≤ 1000000000000) : ACalls C 46 [.pv (rects l)] (.own 108 ((Reg.bands l).map hb)) [] := by
  refine fun_go hC Tryz.func46 rfl rfl 83 rfl (by decide) (by kernel_rfl) fun _ _ _ _ _ => ?_
  have hbd : ∀ r ∈ l, Bd r := fun r hr => (hl r hr).1
  obtain ⟨hp, hsort⟩ := sortY_facts hbd
  have hpl := hp.length_eq
  (refine yS (yB rfl (yU (yP rfl (yn rfl (zqX zI ?_))))); refine ⟨_, _, (clone_rects l (by omega)), ?_⟩)
  (refine zkns (zst_ow (zo_n rfl (zs_ar rfl rfl rfl rfl rfl (yU (yq rfl (zq1 zI (zkq (zst_ow (yn rfl (zqX zI ?_)))))))))); refine ⟨_, _, (sort_y l hbd (by omega)), ?_⟩)
  generalize sortBy cfY l = L at hp hsort hpl
  have lm := len_map L rc
  (refine zkn rfl rfl (zst_e (zst_tu (yU (yn rfl (zq1 zI (zkns (zst_bx (yT (zw_s (yS (yq rfl (zq1 zI (zkq ?_))))))))))))); refine zst_ow (yP rfl (yP rfl (yT (zw_b ?_)))))
  refine loop_ok' (fun i : Nat => i ≤ L.length) (fun i => [(0, .ow 0), (14, .ow 0), (15, .p (i64 (L.map rc).length)), (16, .p (i64 i)), (3, .bx 3 0)]) (fun i => [(0, .row 44 (L.map rc)), (3, .box [.ow 90000]), (90000, .row 3 ((ends (L.take i)).map fun n => [i64 n]))]) (fun i => L.length - i) 0 _ (SLe.nilCell hC _ 3 0 90000 3 _ _ (by decide) (by decide) rfl rfl rfl (by decide)) (Nat.zero_le _) ⟨rfl, rfl, rfl, rfl, rfl, trivial⟩ ⟨rfl, rfl, rfl, trivial⟩ fun i hi t h => ?_
  have el := ends_length (L.take i)
  have em := len_map (ends (L.take i)) fun n => [i64 n]
  rw [List.length_take] at el
  (refine yS (yP rfl (yT (zw_s (zw_c rfl ?_)))); refine bcase_split (fun h1 => ?_) (fun h1 => ?_) <;> try simp only [zB] at h1)
  · rw [lm] at h1
    obtain ⟨r, hr⟩ := get_of (l := L) (i := i) (by omega)
    (refine zw_k (zt_n (zw_s (zw_b (yS (yq rfl (zqA zI ?_)))))); refine And.intro ⟨by omega, by rw [lm]; omega⟩ ?_)
    (refine zkq (zst_rp (yq rfl (zqX zI ?_))); refine ⟨(rc r), (idx rfl hr).2, ?_⟩)
    ((refine yk (yn rfl (zq1 zI (zkns (zst_bx (yq rfl (zq1 zI (zkq (zst_e (zst_0 (yT (zw_o (yq rfl (zq1 zI ?_))))))))))))); refine zkq (zst_ow (yV rfl (yP rfl (yV rfl (yP rfl (yn rfl (zq1 zI (zkns (zst_ow (yn rfl (zqA zI ?_)))))))))))); refine And.intro ⟨by simp, by simp; omega, by simp; omega⟩ ?_)
    (refine zkns (zst_e (zst_ow (yq rfl (zq1 zI (zkq (zst_e (zst_0 (zo_0 (zb_n (zt_n (zw_o (yq rfl (zqA zI ?_))))))))))))); refine And.intro ⟨by omega, by omega⟩ ?_)
    refine yk (yP rfl (yT (zaf_raw ?_)))
    refine ⟨i + 1, _, SLe.ren _ 26 90000 (by decide) (by decide), by omega, by omega, ⟨rfl, rfl, rfl, rfl, rfl, trivial⟩, ⟨rfl, rfl, ?_, trivial⟩⟩
    show AB.row _ _ = AB.row _ _
    rw [ends_step hr, List.map_append]
    rfl
  · rw [lm] at h1
    rw [List.take_of_length_le (show L.length ≤ i by omega)] at *
    (refine zw_x (zt_x (zt_x (zb_h (zt_n (yS (yV rfl (yn rfl (zqX zI ?_)))))))); refine ⟨_, _, (sort_ints (ends L) (by omega)), ?_⟩)
    (refine zkn rfl rfl (zst_e (zst_tu (yU (yq rfl (zq1 zI (zkq (zst_ow (yn rfl (zqX zI ?_))))))))); refine ⟨_, _, (compact_ints (sortI (ends L)) (by rw [sortI, List.length_mergeSort]; omega)), ?_⟩)
    have hmem : ∀ r, r ∈ L ↔ r ∈ l := fun r => hp.mem_iff
    rw [heights_eq hmem]
    have hR := heights_rising l
    have hL := heights_length l
    have hyl := len_map (Reg.heights l) fun n => [i64 n]
    have hyi : ∀ r ∈ L, r.y0 ∈ Reg.heights l := fun r hr => ((Reg.heights_facts l).2 _).2 ⟨r, (hmem r).1 hr, .inl rfl⟩
    have hbl := bandsTo_length l (Reg.heights l)
    have hbx := bandsTo_row l (Reg.heights l) hX
    have hbands : Reg.bands l = Reg.bandsTo l (Reg.heights l) ((Reg.heights l).length - 1) := rfl
    generalize Reg.heights l = ys at *
    (refine zkns (zst_e (zst_ow (yq rfl (zq1 zI (zkq (zst_e (zst_0 (yU (yB rfl (yU (yB rfl (yU (yA rfl ?_))))))))))))); refine yT (zw_s (yS (yn rfl (zq1 zI (zkns (zst_bx (yq rfl (zq1 zI (zkq (zst_e (zst_0 (yT (zw_b ?_))))))))))))))
    refine loop_ok' (fun x : Nat × List Rect × Nat => x.1 ≤ ys.length - 1 ∧ Sweep L ys x.1 x.2.1 x.2.2) (fun x => [(0, .ow 0), (3, .p (.ip [ints ys])), (6, .ow 6), (7, .ow 7), (8, .p (i64 x.2.2)), (9, .bx 9 0)]) (fun x => [(0, .row 44 (L.map rc)), (6, .row 108 ((Reg.bandsTo l ys x.1).map hb)), (7, .row 44 (x.2.1.map rc)), (9, .box [.p (i64 x.1)])]) (fun x => ys.length - x.1) (0, [], 0) _
      (SLe.trans (SLe.nilRow hC _ 6 108 _ (by decide) rfl rfl (by decide)) (SLe.trans (SLe.nilRow hC _ 7 44 _ (by decide) rfl rfl (by decide)) (SLe.trans (SLe.frzCell hC _ 3 0 31 3 _ _ (by decide) rfl rfl rfl) (SLe.toPV hC _ 3 (y := .ip [ints ys]) (fz := [(3, .fbx [ints ys])]) ⟨rfl, rfl⟩))))
      ⟨Nat.zero_le _, ⟨Nat.zero_le _, Nat.le_refl _, by simp, by simp, fun r _ j y h => by omega, fun _ => rfl⟩⟩ ⟨rfl, rfl, rfl, rfl, rfl, rfl, trivial⟩ ⟨rfl, rfl, rfl, rfl, trivial⟩ fun ⟨k, nw, next⟩ hi t h => ?_
    obtain ⟨hk, hsw⟩ := hi
    simp only at hk hsw
    (refine zw_s (yS (yP rfl (yq rfl (zqA zI ?_)))); refine And.intro ⟨by simp only; omega, by simp only; omega⟩ ?_)
    (refine yk (yP rfl (yP rfl (yP rfl (yT (zw_c rfl ?_))))); refine bcase_split (fun h2 => ?_) (fun h2 => ?_) <;> try simp only [zB] at h2)
    · rw [hyl] at h2
      obtain ⟨y, hy⟩ := get_of (l := ys) (i := k) (by omega)
      obtain ⟨y', hy'⟩ := get_of (l := ys) (i := k + 1) (by omega)
      have hmid := hsw.mid hR hy
      (refine zw_k (zt_n (zw_s (zw_b (yS (yq rfl (zq1 zI (zkq (zst_ow (yV rfl (yn rfl (zqX zI ?_))))))))))); refine ⟨_, _, (delete_rects nw (by have := hsw.len; have := hsw.le; omega) ys k y hy), ?_⟩)
      refine zkns (zst_e (zst_e (zst_ow (zo_n rfl (zs_ar rfl rfl rfl rfl rfl (yT (zw_s (zw_b ?_))))))))
      refine cutB' (fun p : List Rect × Nat => Mid L y p.1 p.2 ∧ ∀ r ∈ L.drop p.2, y < r.y0) (fun p => [(0, .ow 0), (3, .p (.ip [ints ys])), (6, .ow 6), (7, .ow 7), (8, .p (i64 p.2)), (9, .p (.ip [i64 k]))]) (fun p => [(0, .row 44 (L.map rc)), (6, .row 108 ((Reg.bandsTo l ys k).map hb)), (7, .row 44 (p.1.map rc))]) (fun ⟨nw2, next2⟩ hp2 t h => ?_) ?_
      · obtain ⟨hm2, hd2⟩ := hp2
        simp only at hm2 hd2
        have hrow := hm2.row hmem hd2
        have hb2 : ∀ r ∈ nw2, Bd r := fun r hr => (hl r ((hrow r).1 hr).1).1
        obtain ⟨hpx, hsx⟩ := sortX_facts hb2
        have est : Reg.stretch (sortBy cfX nw2) = Reg.rowOf l y := Reg.stretch_row l _ y (fun r hr => (hl r hr).2.1) hsx fun r => (hpx.mem_iff).trans (hrow r)
        have hlt : y < y' := by
          obtain ⟨b1, b2⟩ := List.getElem?_eq_some_iff.1 hy
          obtain ⟨c1, c2⟩ := List.getElem?_eq_some_iff.1 hy'
          have := (List.pairwise_iff_getElem.1 hR) k (k + 1) b1 c1 (by omega)
          omega
        ((refine zt_n (zw_d true [true, false, false, false, false, false, false, true, false, false, true, true, true, true, true] rfl (by kernel_rfl) (zp_s rfl (zp_s rfl (zp_s rfl (zp_s rfl (zp_s rfl (zp_s rfl (zp_s rfl (zp_s rfl (zp_s rfl (zp_s rfl (zp_s rfl (zp_n rfl rfl ?_))))))))))))); refine zp_s rfl (zp_n rfl rfl (zp_q rfl (dq rfl (zq1 zI (zkd (zst_ow (yD rfl (yD rfl (dq rfl (zqX zI ?_))))))))))); refine ⟨[i64 y], (idx rfl hy), ?_⟩)
        (refine zkd (zst_p (yD rfl (yD rfl (yD rfl (dq rfl (zqA zI ?_)))))); refine And.intro ⟨by omega, by omega⟩ ?_)
        (refine zkd (zst_p (dq rfl (zqX zI ?_))); refine ⟨[i64 y'], (idx (by omega) hy'), ?_⟩)
        (refine zkd (zst_p (yD rfl (dq rfl (zq1 zI (zkd (zst_ow (dq rfl (zqX zI ?_)))))))); refine ⟨_, _, (house_stretches nw2 hb2 (by have := hm2.len; have := hm2.le; omega)), ?_⟩)
        rw [est]
        (refine zkde rfl (zst_e (zst_p (yD rfl (dq rfl (zqX zI ?_))))); refine ⟨_, _, (house_push (Reg.bandsTo l ys k) ⟨y, y', Reg.rowOf l y⟩ hlt (by have := hbl k; omega) (fun t ht => by have := hbx k t ht; omega)), ?_⟩)
        ((refine zkden rfl rfl rfl (zsn_e (zsn_0 (zst_ow (dq rfl (zq1 zI (zkd (zst_ow (zd_0 (zr_s rfl (zr_s rfl (zr_s rfl (zr_s rfl (zr_s rfl ?_))))))))))))); refine zr_s rfl (zr_s rfl (zr_s rfl (zr_s rfl (zr_s rfl (zr_s rfl (zr_s rfl (zr_s rfl (zr_s rfl (zr_r rfl rfl rfl rfl rfl (zr_q rfl (zb_n (zt_n (zw_s ?_))))))))))))); refine yS (yP rfl (yT (zw_o (yn rfl (zq1 zI (zkns (zst_bx (yq rfl (zq1 zI (zkq (zst_e (zst_0 (yT ?_))))))))))))); refine zw_o (yP rfl (yq rfl (zqA zI ?_)))); refine And.intro ⟨by omega, by omega⟩ ?_)
        (refine yk (yq rfl (zq1 zI (zkq (zst_e (zst_0 (yT (zaf_raw ?_))))))); refine ⟨(k + 1, sortBy cfX nw2, next2), _, SLe.refl _ _, ?_⟩)
        refine ⟨⟨by simp only; omega, hm2.sweep hy hpx hd2⟩, by simp only; omega, ⟨rfl, rfl, rfl, rfl, rfl, rfl, trivial⟩, ⟨rfl, ?_, rfl, ?_, trivial⟩⟩
        · simp only
          rw [Reg.bandsTo, getD_of hy, getD_of hy']
          rfl
        · exact congrArg (fun z => AB.box [z]) (av_i64 (by simp only; omega))
      · refine loop_ok' (fun p : List Rect × Nat => next ≤ p.2 ∧ Mid L y p.1 p.2) (fun p => [(0, .ow 0), (3, .p (.ip [ints ys])), (6, .ow 6), (7, .ow 7), (8, .p (i64 p.2)), (9, .p (.ip [i64 k]))]) (fun p => [(0, .row 44 (L.map rc)), (6, .row 108 ((Reg.bandsTo l ys k).map hb)), (7, .row 44 (p.1.map rc))]) (fun p => L.length - p.2) (nw.filter fun r => !endsB y r, next) _ (SLe.toPV hC _ 9 (y := .ip [i64 k]) (fz := []) ⟨rfl, rfl⟩) ⟨Nat.le_refl _, hmid⟩ ⟨rfl, rfl, rfl, rfl, rfl, rfl, trivial⟩ ⟨rfl, rfl, rfl, trivial⟩ fun ⟨nw2, next2⟩ hp2 t h => ?_
        obtain ⟨hle2, hm2⟩ := hp2
        simp only at hle2 hm2
        have hn2 := hm2.le
        have hl2 := hm2.len
        (refine zw_s (zw_s (zw_d false [true, true, true, true, true, true, true, true, true, true, true, true, true, true, true, true] rfl (by kernel_rfl) (zp_q rfl (yD rfl (dq rfl (zq1 zI (zkd (zst_ow (yD rfl (yD rfl (yD rfl (dg rfl ?_)))))))))))); refine bcase_split (fun g1 => ?_) (fun g1 => ?_) <;> try simp only [zB] at g1)
        · rw [lm] at g1
          obtain ⟨r, hr⟩ := get_of (l := L) (i := next2) (by omega)
          (refine zg_t (zd_q rfl (zq1 zI (zkd (zst_ow (d1 rfl (d2 rfl (zd_q rfl (zqA zI ?_)))))))); refine And.intro ⟨by simp only; omega, by simp only; rw [lm]; omega⟩ ?_)
          (refine zkd (zst_rp (d2 rfl (zd_q rfl (zq1 zI (zkd (zst_rp (d2 rfl (zd_q rfl (zqX zI ?_))))))))); refine ⟨(rc r), (idx rfl hr).2, ?_⟩)
          (refine zkd (zst_p (d1 rfl (d1 rfl (d2 rfl (zd_q rfl (zqX zI ?_)))))); refine ⟨[i64 y], (idx rfl hy), ?_⟩)
          (refine zkd (zst_p (d1 rfl (d1 rfl (yD rfl (zd_0 (zr_q rfl (zt_n (zw_c rfl ?_)))))))); refine bcase_split (fun g2 => ?_) (fun g2 => ?_) <;> try simp only [zB] at g2)
          · have hrL : r ∈ L := List.mem_of_getElem? hr
            have e := at_height hR hy (hyi r hrL) g2 fun j z hj hz => hsw.above r (by
              refine List.mem_of_getElem? (i := next2 - next) ?_
              rw [List.getElem?_drop, ← hr]
              congr 1; omega) j z hj hz
            have hg := hl r ((hmem r).1 hrL)
            ((refine zw_k (zt_n (zw_b (zw_o (yq rfl (zq1 zI (zkq (zst_ow (yq rfl (zq1 zI (zkq (zst_ow (yP rfl (yq rfl ?_))))))))))))); refine zqA zI ?_); refine And.intro ⟨by simp only; omega, by simp only; rw [lm]; omega⟩ ?_)
            (refine zkq (zst_rp (yq rfl (zqX zI ?_))); refine ⟨(rc r), (idx rfl hr).2, ?_⟩)
            (refine yk (yn rfl (zq1 zI (zkns (zst_ow (yn rfl (zqA zI ?_)))))); refine And.intro ⟨one_row rfl, by simp; omega, by simp; omega⟩ ?_)
            (refine zkns (zst_e (zst_ow (yP rfl (yq rfl (zqA zI ?_))))); refine And.intro ⟨by simp only; omega, by simp only; omega⟩ ?_)
            (refine yk (zo_n rfl (zs_ar rfl rfl rfl rfl rfl (yA rfl (zo_0 (zb_n (zt_n (zaf_raw ?_))))))); refine ⟨(nw2 ++ [r], next2 + 1), _, SLe.refl _ _, ?_⟩)
            refine ⟨⟨by simp only; omega, hm2.next hr g2 (by have := hg.2.2; omega)⟩, by simp only; omega, ⟨rfl, rfl, rfl, rfl, av_i64 (by simp only; omega), rfl, trivial⟩, ⟨rfl, rfl, ?_, trivial⟩⟩
            show AB.row _ _ = AB.row _ _
            rw [List.map_append]
            rfl
          · refine zw_x (zt_x (zt_x (zb_h (zt_n (zaf_raw (zX zi ?_))))))
            exact ⟨(nw2, next2), ⟨hm2, drop_above hsort hr (by omega)⟩, ⟨rfl, rfl, rfl, rfl, rfl, rfl, trivial⟩, ⟨rfl, rfl, rfl, trivial⟩⟩
        · rw [lm] at g1
          (refine zg_f (zst_p (d0 rfl (d0 rfl (d0 rfl (d0 rfl (d0 rfl (d0 rfl (d0 rfl (d0 rfl (d0 rfl (yD rfl (zd_0 (zr_q rfl ?_))))))))))))); refine zt_n (zw_c rfl (zc_f (zw_x (zt_x (zt_x (zb_h (zt_n (zaf_raw (zX zi ?_))))))))))
          refine ⟨(nw2, next2), ⟨hm2, fun r hr => ?_⟩, ⟨rfl, rfl, rfl, rfl, rfl, rfl, trivial⟩, ⟨rfl, rfl, rfl, trivial⟩⟩
          rw [List.drop_of_length_le (by simp only; omega)] at hr
          cases hr
    · rw [hyl] at h2
      refine zw_x (zt_x (zt_x (zb_h (zt_n (yS (yq rfl (zq1 zI (zkq (zst_ow (zo_n rfl (zs_ar rfl rfl rfl rfl rfl (yR zi ?_))))))))))))
      rw [hbands, show ys.length - 1 = k by omega]
      exact ⟨rfl, rfl, trivial⟩
theorem house_setOf (l : List Rect) (hl : ∀ r ∈ l, Good r) (hN : l.length ≤ 400000) : ACalls C 46 [.pv (rects l)] (.own 108 ((Reg.bands l).map hb)) [] :=
  house_setOf' l hl (by omega) (by have := heights_length l; omega) (fun y => by have := rowOf_length l y; omega)
end Go.Proofs.YtcfhiodoogkcpaaGreatDoor.M
