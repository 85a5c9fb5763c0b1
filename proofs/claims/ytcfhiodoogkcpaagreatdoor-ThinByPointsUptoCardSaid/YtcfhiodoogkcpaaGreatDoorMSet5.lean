/- By the machine: the house's cores, thin places, differences. -/
import Derived.Test.YtcfhiodoogkcpaaGreatDoorMSet4
import Derived.Test.YtcfhiodoogkcpaaGreatDoorMRules1
set_option linter.unusedSimpArgs false
set_option linter.unusedVariables false
namespace Go.Proofs.YtcfhiodoogkcpaaGreatDoor.M
open Go.AM Go.RowKit Go.Lib
open Reg (Rect Spans Band cuts SOK InK BOK lessS aroundS told shiftR spreadS coreS thinS Canon Full RK at')

set_option maxRecDepth 100000 in
set_option maxHeartbeats 2000000 in
theorem house_core (s : List Band) (hs : SOK s) (ks : InK 1000000 s) (l r d u : Int) (hl : 0 ≤ l ∧ l ≤ 100000) (hr : 0 ≤ r ∧ r ≤ 100000) (hd : 0 ≤ d ∧ d ≤ 100000) (hu : 0 ≤ u ∧ u ≤ 100000) (hn : l + r + d + u ≤ 199999) : ACalls C 75 [.pv (bandsV s), .pv (i64 l), .pv (i64 r), .pv (i64 d), .pv (i64 u)] (.p (bandsV (coreS s l r d u))) [] := by
  refine fun_go hC Tryz.func75 rfl rfl 56 rfl (by decide) (by kernel_rfl) fun _ _ _ _ _ => ?_
  have ms := len_map s hb
  ((refine zw_s (zw_o (zo_n rfl (zs_as rfl rfl rfl (zas_n rfl) (zst_nl (zo_0 (zt_n (zw_s (zw_s (zw_o (zP rfl rfl rfl rfl zI (zP rfl rfl rfl rfl zI ?_))))))))))); refine zP rfl rfl rfl rfl zI (zo_0 (zt_n (zw_c rfl ?_)))); refine bcase_split (fun g0 => ?_) (fun g0 => ?_) <;> try simp only [decide_eq_true_eq, decide_eq_false_iff_not, ge_iff_le, gt_iff_lt, Bool.not_eq_true', Bool.not_eq_false'] at g0)
  · rw [ms] at g0
    have e : s = [] := List.eq_nil_of_length_eq_zero (by omega)
    (refine zw_s (zw_o (zo_n rfl (zs_as rfl rfl rfl (zas_n rfl) (zst_nl (zo_0 (zt_n (zw_r (zt_r (ze_r zi ?_))))))))); refine And.intro ?_ trivial)
    rw [coreS, if_pos e]
    rfl
  · rw [ms] at g0
    have hne : s ≠ [] := fun e => g0 (by rw [e]; rfl)
    rw [coreS, if_neg hne]
    obtain ⟨a1, a2, a3⟩ := Reg.around_facts hs hne
    have a4 := a3 _ ks
    have hbox : ∀ q ∈ [shiftR (l + r + d + u + 1) (l + r + d + u + 1) (l + r + d + u + 1) (l + r + d + u + 1) (aroundS s)], Full q := fun q hq => by
      rw [List.mem_singleton] at hq
      subst hq
      unfold Full at a1
      exact ⟨by show (aroundS s).x0 - (l + r + d + u + 1) < (aroundS s).x1 + (l + r + d + u + 1); omega, by show (aroundS s).y0 - (l + r + d + u + 1) < (aroundS s).y1 + (l + r + d + u + 1); omega⟩
    have hrk : ∀ q ∈ [shiftR (l + r + d + u + 1) (l + r + d + u + 1) (l + r + d + u + 1) (l + r + d + u + 1) (aroundS s)], RK 1200000 q := fun q hq => by
      rw [List.mem_singleton] at hq
      subst hq
      unfold RK at a4
      exact ⟨by show -1200000 ≤ (aroundS s).x0 - (l + r + d + u + 1); omega, by show -1200000 ≤ (aroundS s).y0 - (l + r + d + u + 1); omega, by show (aroundS s).x1 + (l + r + d + u + 1) ≤ 1200000; omega, by show (aroundS s).y1 + (l + r + d + u + 1) ≤ 1200000; omega⟩
    obtain ⟨b1, b2, b3⟩ := Reg.bands_facts hbox
    have b4 := b3 _ hrk
    obtain ⟨c1, c2, c3⟩ := Reg.less_facts b1 hs
    have c4 := c3 1200000 b4 (ks.up (by omega))
    obtain ⟨d1, d2, d3⟩ := Reg.spread_facts c1 hr.1 hl.1 hu.1 hd.1
    have d4 := (d3 1200000 100000 c4 hr.2 hl.2 hu.2 hd.2).up (B := 2000000) (by omega)
    have so := setOf_in _ 1200000 (by omega) (by omega) hbox hrk (by simp)
    have q1 := house_less _ s b1 hs (b4.up (by omega)) (ks.up (by omega))
    have q2 := house_spread _ c1 (c4.up (by omega)) r l u d hr hl hu hd
    have q3 := house_less s _ hs d1 (ks.up (by omega)) d4
    unfold RK at a4
    unfold Full at a1
    (refine zw_k (zt_n (zw_s (zw_o (zP rfl rfl rfl rfl zI (zo_n rfl (zs_n rfl rfl rfl (zqX zI ?_))))))); refine ⟨_, _, (house_around s hs (ks.up (by omega)) hne), ?_⟩)
    ((refine zkn rfl rfl (zst_p (zo_n rfl (zs_n rfl rfl rfl (zq1 zI (zkns (zst_bx (zo_n rfl (zs_q rfl rfl (zq1 zI (zkq (zst_e ?_))))))))))); refine zst_0 (zo_0 (zt_n (zw_s (zw_o (zP rfl rfl rfl rfl zI (zP rfl rfl rfl rfl zI (zo_n rfl (zs_q rfl rfl (zqA zI ?_)))))))))); refine And.intro ⟨by omega, by omega⟩ ?_)
    (refine zkq (zst_p (zP rfl rfl rfl rfl zI (zo_n rfl (zs_q rfl rfl (zqA zI ?_))))); refine And.intro ⟨by omega, by omega⟩ ?_)
    (refine zkq (zst_p (zP rfl rfl rfl rfl zI (zo_n rfl (zs_q rfl rfl (zqA zI ?_))))); refine And.intro ⟨by omega, by omega⟩ ?_)
    (refine zkq (zst_p (zo_n rfl (zs_q rfl rfl (zqA zI ?_)))); refine And.intro ⟨by omega, by omega⟩ ?_)
    ((refine zkq (zst_p (zo_n rfl (zs_as rfl rfl rfl (zas_n rfl) (zst_p (zo_0 (zt_n (zw_s (zw_o (zV rfl rfl rfl rfl zI (zP rfl rfl rfl rfl zI (zP rfl rfl rfl rfl zI ?_))))))))))); refine zo_n rfl (zs_q rfl rfl (zqA zI ?_))); refine And.intro ⟨by omega, by omega⟩ ?_)
    (refine zkq (zst_p (zV rfl rfl rfl rfl zI (zP rfl rfl rfl rfl zI (zP rfl rfl rfl rfl zI (zo_n rfl (zs_q rfl rfl (zqA zI ?_))))))); refine And.intro ⟨by omega, by omega⟩ ?_)
    (refine zkq (zst_p (zV rfl rfl rfl rfl zI (zP rfl rfl rfl rfl zI (zP rfl rfl rfl rfl zI (zo_n rfl (zs_q rfl rfl (zqA zI ?_))))))); refine And.intro ⟨by omega, by omega⟩ ?_)
    (refine zkq (zst_p (zV rfl rfl rfl rfl zI (zP rfl rfl rfl rfl zI (zP rfl rfl rfl rfl zI (zo_n rfl (zs_q rfl rfl (zqA zI ?_))))))); refine And.intro ⟨by omega, by omega⟩ ?_)
    (refine zkq (zst_p (zP rfl rfl rfl rfl zI (zo_n rfl (zs_n rfl rfl rfl (zq1 zI (zkns (zst_ow (zo_n rfl (zs_n rfl rfl rfl (zqX zI ?_)))))))))); refine ⟨_, _, so, ?_⟩)
    ((refine zkns (zst_e (zst_ow (zo_n rfl (zs_ar rfl rfl rfl rfl rfl (zo_0 (zt_n (zw_s (zw_o (zP rfl rfl rfl rfl zI (zo_n rfl (zs_q rfl rfl ?_))))))))))); refine zq1 zI (zkq (zst_ow (zP rfl rfl rfl rfl zI (zo_n rfl (zs_n rfl rfl rfl (zqX zI ?_))))))); refine ⟨_, _, q1, ?_⟩)
    (refine zkn rfl rfl (zst_e (zst_p (zP rfl rfl rfl rfl zI (zP rfl rfl rfl rfl zI (zP rfl rfl rfl rfl zI (zP rfl rfl rfl rfl zI (zo_n rfl (zs_n rfl rfl rfl (zqX zI ?_))))))))); refine ⟨_, _, q2, ?_⟩)
    (refine zkn rfl rfl (zst_p (zo_n rfl (zs_n rfl rfl rfl (zqX zI ?_)))); refine ⟨_, _, q3, ?_⟩)
    (refine zkn rfl rfl (zst_p (zo_n rfl (zs_as rfl rfl rfl (zas_n rfl) (zst_p (zo_0 (zt_n (zw_r (ze_r zi ?_)))))))); refine And.intro ?_ trivial)
    rfl
theorem sub_in {a b : List Band} (ha : SOK a) (hb' : SOK b) {K : Int} (kb : InK K b) (h : ∀ x y, at' a x y = true → at' b x y = true) : InK K a := fun t ht => by
  have bt := ha.mem t ht
  have lt := bt.lt
  have pin : ∀ x y, at' b x y = true → -K ≤ x ∧ x < K ∧ -K ≤ y ∧ y < K := fun x y hxy => by
    rw [← Reg.told_any hb', List.any_eq_true] at hxy
    obtain ⟨q, hq, hh⟩ := hxy
    obtain ⟨h1, h2, h3, h4⟩ := Reg.hasR_iff.1 hh
    obtain ⟨g1, g2, g3, g4⟩ := Reg.told_in hb' kb q hq
    exact ⟨by omega, by omega, by omega, by omega⟩
  have pt : ∀ p ∈ t.xs, ∀ x y, p.1 ≤ x → x < p.2 → t.y0 ≤ y → y < t.y1 → at' b x y = true := fun p hp x y h1 h2 h3 h4 => h x y (Reg.at_iff.2 ⟨t, ht, h3, h4, (Reg.par_cover bt.can x).2 ⟨p, hp, h1, h2⟩⟩)
  obtain ⟨p, u, e⟩ : ∃ p u, t.xs = p :: u := by
    cases hx : t.xs with
    | nil => exact absurd hx bt.ne
    | cons p u => exact ⟨p, u, rfl⟩
  have pm : p ∈ t.xs := by rw [e]; simp
  have pl := Reg.canon_lt bt.can p pm
  have c1 := pin p.1 t.y0 (pt p pm _ _ (by omega) (by omega) (by omega) (by omega))
  have c2 := pin p.1 (t.y1 - 1) (pt p pm _ _ (by omega) (by omega) (by omega) (by omega))
  refine ⟨c1.2.2.1, by omega, fun q hq => ?_⟩
  have ql := Reg.canon_lt bt.can q hq
  have d1 := pin q.1 t.y0 (pt q hq _ _ (by omega) (by omega) (by omega) (by omega))
  have d2 := pin (q.2 - 1) t.y0 (pt q hq _ _ (by omega) (by omega) (by omega) (by omega))
  omega
theorem less_in {a b : List Band} (ha : SOK a) (hb' : SOK b) {K : Int} (ka : InK K a) : InK K (lessS a b) := by
  obtain ⟨h1, h2, _⟩ := Reg.less_facts ha hb'
  refine sub_in h1 ha ka fun x y h => ?_
  rw [h2, Bool.and_eq_true] at h
  exact h.1
theorem thin_within {s : List Band} (hs : SOK s) {K : Int} (ks : InK K s) (w : Int) : InK K (thinS s w) := sub_in (Reg.thin_facts hs w).1 hs ks fun x y h => Reg.thin_sub hs x y h
theorem house_thin (s : List Band) (hs : SOK s) (ks : InK 1000000 s) (w : Int) (h0 : 0 ≤ w) (hw : w ≤ 100000) : ACalls C 45 [.pv (bandsV s), .pv (i64 w)] (.p (bandsV (thinS s w))) [] := by
  refine fun_go hC Tryz.func45 rfl rfl 20 rfl (by decide) (by kernel_rfl) fun _ _ _ _ _ => ?_
  ((refine zw_s (zw_o (zo_n rfl (zs_as rfl rfl rfl (zas_n rfl) (zst_nl (zo_0 (zt_n (zw_s (zw_s (zw_o (zP rfl rfl rfl rfl zI (zP rfl rfl rfl rfl zI ?_))))))))))); refine zo_0 (zt_n (zw_c rfl ?_))); refine bcase_split (fun g0 => ?_) (fun g0 => ?_) <;> try simp only [decide_eq_true_eq, decide_eq_false_iff_not, ge_iff_le, gt_iff_lt, Bool.not_eq_true', Bool.not_eq_false'] at g0)
  · (refine zw_s (zw_o (zo_n rfl (zs_as rfl rfl rfl (zas_n rfl) (zst_nl (zo_0 (zt_n (zw_r (zt_r (ze_r zi ?_))))))))); refine And.intro ?_ trivial)
    rw [thinS, if_pos g0]
    rfl
  · rw [thinS, if_neg g0]
    obtain ⟨c1, c2, c3⟩ := Reg.core_facts hs (l := 0) (r := w - 1) (d := 0) (u := w - 1) (by omega) (by omega) (by omega) (by omega)
    have kc : InK 1000000 (coreS s 0 (w - 1) 0 (w - 1)) := sub_in c1 hs ks fun x y h => (c2 x y).1 h x y (by omega) (by omega) (by omega) (by omega)
    obtain ⟨d1, d2, d3⟩ := Reg.spread_facts c1 (l := 0) (r := w - 1) (d := 0) (u := w - 1) (by omega) (by omega) (by omega) (by omega)
    have d4 := (d3 1000000 100000 kc (by omega) (by omega) (by omega) (by omega)).up (B := 2000000) (by omega)
    have q1 := house_core s hs ks 0 (w - 1) 0 (w - 1) ⟨by omega, by omega⟩ ⟨by omega, by omega⟩ ⟨by omega, by omega⟩ ⟨by omega, by omega⟩ (by omega)
    have q2 := house_spread _ c1 (kc.up (by omega)) 0 (w - 1) 0 (w - 1) ⟨by omega, by omega⟩ ⟨by omega, by omega⟩ ⟨by omega, by omega⟩ ⟨by omega, by omega⟩
    have q3 := house_less s _ hs d1 (ks.up (by omega)) d4
    (refine zw_k (zt_n (zw_s (zw_o (zP rfl rfl rfl rfl zI (zP rfl rfl rfl rfl zI (zP rfl rfl rfl rfl zI (zo_n rfl (zs_q rfl rfl (zqA zI ?_))))))))); refine And.intro ⟨by omega, by omega⟩ ?_)
    (refine zkq (zst_p (zP rfl rfl rfl rfl zI (zo_n rfl (zs_q rfl rfl (zqA zI ?_))))); refine And.intro ⟨by omega, by omega⟩ ?_)
    (refine zkq (zst_p (zo_n rfl (zs_n rfl rfl rfl (zqX zI ?_)))); refine ⟨_, _, q1, ?_⟩)
    (refine zkn rfl rfl (zst_p (zP rfl rfl rfl rfl zI (zo_n rfl (zs_q rfl rfl (zqA zI ?_))))); refine And.intro ⟨by omega, by omega⟩ ?_)
    (refine zkq (zst_p (zP rfl rfl rfl rfl zI (zo_n rfl (zs_q rfl rfl (zqA zI ?_))))); refine And.intro ⟨by omega, by omega⟩ ?_)
    (refine zkq (zst_p (zo_n rfl (zs_n rfl rfl rfl (zqX zI ?_)))); refine ⟨_, _, q2, ?_⟩)
    (refine zkn rfl rfl (zst_p (zo_n rfl (zs_n rfl rfl rfl (zqX zI ?_)))); refine ⟨_, _, q3, ?_⟩)
    (refine zkn rfl rfl (zst_p (zo_n rfl (zs_as rfl rfl rfl (zas_n rfl) (zst_p (zo_0 (zt_n (zw_r (ze_r zi ?_)))))))); refine And.intro ?_ trivial)
    rfl
def toldR (s : List Band) : List Rect × Int := if 2000 < (told s).length then ([], 2) else (told s, 0)
theorem house_told (s : List Band) (hs : SOK s) (ks : InK 1400000 s) : ACalls C 47 [.pv (bandsV s)] (.tu [rects (toldR s).1, i64 (toldR s).2]) [] := by
  refine fun_go hC Tryz.func47 rfl rfl 9 rfl (by decide) (by kernel_rfl) fun _ _ _ _ _ => ?_
  have ls := Reg.bands_len hs (by omega) ks
  have lx := Reg.xs_len hs (by omega) ks
  have lt := Reg.told_small hs ks
  ((refine zw_s (zw_o (zo_n rfl (zs_as rfl rfl rfl (zas_n rfl) (zst_nl (zo_n rfl (zs_as rfl rfl rfl (zas_n rfl) (zst_p (zo_0 (zt_n (zw_s (zw_s ?_))))))))))); refine zw_o (zP rfl rfl rfl rfl zI (zo_n rfl (zs_n rfl rfl rfl (zqX zI ?_))))); refine ⟨_, _, (house_many s (by omega) (fun t ht => by have := lx t ht; omega) lt), ?_⟩)
  (refine zkn rfl rfl (zst_p (zP rfl rfl rfl rfl zI (zo_0 (zt_n (zw_c rfl ?_))))); refine bcase_split (fun g0 => ?_) (fun g0 => ?_) <;> try simp only [decide_eq_true_eq, decide_eq_false_iff_not, ge_iff_le, gt_iff_lt, Bool.not_eq_true', Bool.not_eq_false'] at g0)
  · ((refine zw_s (zw_o (zo_n rfl (zs_as rfl rfl rfl (zas_n rfl) (zst_nl (zo_n rfl (zs_as rfl rfl rfl (zas_n rfl) (zst_p (zo_0 (zt_n (zw_r (zt_r ?_))))))))))); refine ze_r zi ?_); refine And.intro ?_ trivial)
    rw [toldR, if_pos (by omega)]
    rfl
  · rw [toldR, if_neg (by omega)]
    (refine zw_k (zt_n (zw_s (zw_o (zP rfl rfl rfl rfl zI (zo_n rfl (zs_n rfl rfl rfl (zqX zI ?_))))))); refine ⟨_, _, (house_rects' s (by omega) (fun t ht => by have := lx t ht; omega) lt), ?_⟩)
    (refine zkns (zst_ow (zo_n rfl (zs_ar rfl rfl rfl rfl rfl (zo_n rfl (zs_as rfl rfl rfl (zas_n rfl) (zst_p (zo_0 (zt_n (zw_r (ze_r zi ?_)))))))))); refine And.intro ?_ trivial)
    rfl
/-- a region by its rectangles -/
structure RegOK (l : List Rect) : Prop where
  sok : SOK (Reg.bands l)
  ink : InK 1000000 (Reg.bands l)
  at_ : ∀ x y, at' (Reg.bands l) x y = l.any (Reg.hasR x y)
  full : ∀ r ∈ l, Full r
  rk : ∀ r ∈ l, RK 1000000 r
  len : l.length ≤ 2000
theorem reg_ok {l : List Rect} (h : Reg.checkRegion l = 0) : RegOK l := by
  have h0 : Reg.checkRects l = 0 := by
    unfold Reg.checkRegion at h
    by_cases h0 : Reg.checkRects l = 0
    · exact h0
    · rw [if_neg h0] at h; exact absurd h h0
  obtain ⟨g1, g2⟩ := Reg.rects_good h0
  have hf : ∀ r ∈ l, Full r := fun r hr => ⟨(g2 r hr).2.1, (g2 r hr).2.2⟩
  have hk : ∀ r ∈ l, RK 1000000 r := fun r hr => by
    have := (g2 r hr).1
    simp [Reg.isRect, Reg.isAt] at this
    exact ⟨by omega, by omega, by omega, by omega⟩
  obtain ⟨b1, b2, b3⟩ := Reg.bands_facts hf
  exact ⟨b1, b3 _ hk, b2, hf, hk, g1⟩
theorem reg_setOf {l : List Rect} (h : RegOK l) : ACalls C 46 [.pv (rects l)] (.own 108 ((Reg.bands l).map hb)) [] := setOf_in l 1000000 (by omega) (by omega) h.full h.rk (by have := h.len; omega)
def thinR (l : List Rect) (w : Int) : List Rect × Int := if Reg.checkRegion l = 0 then (if isRule w = true then toldR (thinS (Reg.bands l) w) else ([], 1)) else ([], Reg.checkRegion l)
theorem house_Thin (l : List Rect) (w : Int) : ACalls C 17 [.pv (rects l), .pv (i64 w)] (.tu [rects (thinR l w).1, i64 (thinR l w).2]) [] := by
  refine fun_go hC Tryz.func17 rfl rfl 22 rfl (by decide) (by kernel_rfl) fun _ _ _ _ _ => ?_
  ((refine zw_s (zw_o (zo_n rfl (zs_as rfl rfl rfl (zas_n rfl) (zst_nl (zo_n rfl (zs_as rfl rfl rfl (zas_n rfl) (zst_p (zo_0 (zt_n (zw_s (zw_s ?_))))))))))); refine zw_o (zP rfl rfl rfl rfl zI (zo_n rfl (zs_n rfl rfl rfl (zqX zI ?_))))); refine ⟨_, _, (house_checkRegion l), ?_⟩)
  ((refine zkn rfl rfl (zst_p (zo_n rfl (zs_as rfl rfl rfl (zas_n rfl) (zst_p (zo_0 (zt_n (zw_s (zw_o (zP rfl rfl rfl rfl zI (zP rfl rfl rfl rfl zI (zo_0 ?_))))))))))); refine zt_n (zw_c rfl ?_)); refine bcase_split (fun g0 => ?_) (fun g0 => ?_) <;> try simp only [decide_eq_true_eq, decide_eq_false_iff_not, ge_iff_le, gt_iff_lt, Bool.not_eq_true', Bool.not_eq_false'] at g0)
  · have g0 : ¬ Reg.checkRegion l = 0 := by simpa using g0
    ((refine zw_s (zw_o (zP rfl rfl rfl rfl zI (zo_n rfl (zs_as rfl rfl rfl (zas_n rfl) (zst_nl (zo_n rfl (zs_as rfl rfl rfl (zas_n rfl) (zst_p (zo_0 (zt_n (zw_r ?_))))))))))); refine zt_r (ze_r zi ?_)); refine And.intro ?_ trivial)
    rw [thinR, if_neg g0]
    rfl
  · have g0 : Reg.checkRegion l = 0 := by simpa using g0
    have rk := reg_ok g0
    rw [thinR, if_pos g0]
    (refine zw_k (zt_n (zw_s (zw_s (zw_o (zP rfl rfl rfl rfl zI (zo_n rfl (zs_n rfl rfl rfl (zqX zI ?_)))))))); refine ⟨_, _, (rules_isRule w), ?_⟩)
    (refine zkn rfl rfl (zst_p (zP rfl rfl rfl rfl zI (zo_0 (zt_n (zw_c rfl ?_))))); refine bcase_split (fun g1 => ?_) (fun g1 => ?_) <;> try simp only [decide_eq_true_eq, decide_eq_false_iff_not, ge_iff_le, gt_iff_lt, Bool.not_eq_true', Bool.not_eq_false'] at g1)
    · ((refine zw_s (zw_o (zo_n rfl (zs_as rfl rfl rfl (zas_n rfl) (zst_nl (zo_n rfl (zs_as rfl rfl rfl (zas_n rfl) (zst_p (zo_0 (zt_n (zw_r (zt_r ?_))))))))))); refine ze_r zi ?_); refine And.intro ?_ trivial)
      rw [if_neg (by simp [g1])]
      rfl
    · have g1 : isRule w = true := by simpa using g1
      have g2 := g1
      simp [isRule] at g2
      rw [if_pos g1]
      have q1 := house_thin (Reg.bands l) rk.sok rk.ink w (by omega) (by omega)
      have q2 := house_told (thinS (Reg.bands l) w) (Reg.thin_facts rk.sok w).1 ((thin_within rk.sok rk.ink w).up (by omega))
      (refine zw_k (zt_n (zw_s (zw_o (zP rfl rfl rfl rfl zI (zo_n rfl (zs_n rfl rfl rfl (zqX zI ?_))))))); refine ⟨_, _, (reg_setOf rk), ?_⟩)
      (refine zkns (zst_ow (zP rfl rfl rfl rfl zI (zo_n rfl (zs_n rfl rfl rfl (zqX zI ?_))))); refine ⟨_, _, q1, ?_⟩)
      (refine zkn rfl rfl (zst_e (zst_p (zo_n rfl (zs_n rfl rfl rfl (zqX zI ?_))))); refine ⟨_, _, q2, ?_⟩)
      ((refine zkn rfl rfl (zst_tu (zP rfl rfl rfl rfl zI (zP rfl rfl rfl rfl zI (zo_n rfl (zs_as rfl rfl rfl (zas_n rfl) (zst_p (zo_n rfl (zs_as rfl rfl rfl (zas_n rfl) (zst_p (zo_0 (zt_n ?_))))))))))); refine zw_r (ze_r zi ?_)); refine And.intro ?_ trivial)
      rfl
def minusR (a b : List Rect) : List Rect × Int := if Reg.checkRegion a = 0 then (if Reg.checkRegion b = 0 then toldR (lessS (Reg.bands a) (Reg.bands b)) else ([], Reg.checkRegion b)) else ([], Reg.checkRegion a)
theorem house_two (a b : List Rect) : ACalls C 48 [.pv (rects a), .pv (rects b), .pv (fnv 49)] (.tu [rects (minusR a b).1, i64 (minusR a b).2]) [] := by
  refine fun_go hC Tryz.func48 rfl rfl 29 rfl (by decide) (by kernel_rfl) fun _ _ _ _ _ => ?_
  ((refine zw_s (zw_o (zo_n rfl (zs_as rfl rfl rfl (zas_n rfl) (zst_nl (zo_n rfl (zs_as rfl rfl rfl (zas_n rfl) (zst_p (zo_0 (zt_n (zw_s (zw_s ?_))))))))))); refine zw_o (zP rfl rfl rfl rfl zI (zo_n rfl (zs_n rfl rfl rfl (zqX zI ?_))))); refine ⟨_, _, (house_checkRegion a), ?_⟩)
  ((refine zkn rfl rfl (zst_p (zo_n rfl (zs_as rfl rfl rfl (zas_n rfl) (zst_p (zo_0 (zt_n (zw_s (zw_o (zP rfl rfl rfl rfl zI (zP rfl rfl rfl rfl zI (zo_0 ?_))))))))))); refine zt_n (zw_c rfl ?_)); refine bcase_split (fun g0 => ?_) (fun g0 => ?_) <;> try simp only [decide_eq_true_eq, decide_eq_false_iff_not, ge_iff_le, gt_iff_lt, Bool.not_eq_true', Bool.not_eq_false'] at g0)
  · have g0 : ¬ Reg.checkRegion a = 0 := by simpa using g0
    ((refine zw_s (zw_o (zP rfl rfl rfl rfl zI (zo_n rfl (zs_as rfl rfl rfl (zas_n rfl) (zst_nl (zo_n rfl (zs_as rfl rfl rfl (zas_n rfl) (zst_p (zo_0 (zt_n (zw_r ?_))))))))))); refine zt_r (ze_r zi ?_)); refine And.intro ?_ trivial)
    rw [minusR, if_neg g0]
    rfl
  · have g0 : Reg.checkRegion a = 0 := by simpa using g0
    have ra := reg_ok g0
    rw [minusR, if_pos g0]
    (refine zw_k (zt_n (zw_s (zw_s (zw_o (zP rfl rfl rfl rfl zI (zo_n rfl (zs_n rfl rfl rfl (zqX zI ?_)))))))); refine ⟨_, _, (house_checkRegion b), ?_⟩)
    ((refine zkn rfl rfl (zst_p (zo_n rfl (zs_as rfl rfl rfl (zas_n rfl) (zst_p (zo_0 (zt_n (zw_s (zw_o (zP rfl rfl rfl rfl zI (zP rfl rfl rfl rfl zI (zo_0 ?_))))))))))); refine zt_n (zw_c rfl ?_)); refine bcase_split (fun g1 => ?_) (fun g1 => ?_) <;> try simp only [decide_eq_true_eq, decide_eq_false_iff_not, ge_iff_le, gt_iff_lt, Bool.not_eq_true', Bool.not_eq_false'] at g1)
    · have g1 : ¬ Reg.checkRegion b = 0 := by simpa using g1
      ((refine zw_s (zw_o (zP rfl rfl rfl rfl zI (zo_n rfl (zs_as rfl rfl rfl (zas_n rfl) (zst_nl (zo_n rfl (zs_as rfl rfl rfl (zas_n rfl) (zst_p (zo_0 (zt_n (zw_r ?_))))))))))); refine zt_r (ze_r zi ?_)); refine And.intro ?_ trivial)
      rw [if_neg g1]
      rfl
    · have g1 : Reg.checkRegion b = 0 := by simpa using g1
      have rb := reg_ok g1
      rw [if_pos g1]
      have q1 := house_less _ _ ra.sok rb.sok (ra.ink.up (by omega)) (rb.ink.up (by omega))
      have q2 := house_told _ (Reg.less_facts ra.sok rb.sok).1 ((less_in ra.sok rb.sok ra.ink).up (by omega))
      (refine zw_k (zt_n (zw_s (zw_o (zP rfl rfl rfl rfl zI (zP rfl rfl rfl rfl zI (zo_n rfl (zs_n rfl rfl rfl (zqX zI ?_)))))))); refine ⟨_, _, (reg_setOf ra), ?_⟩)
      (refine zkns (zst_ow (zP rfl rfl rfl rfl zI (zo_n rfl (zs_n rfl rfl rfl (zqX zI ?_))))); refine ⟨_, _, (reg_setOf rb), ?_⟩)
      (refine zkns (zst_ow (zo_n rfl (zs_n rfl rfl rfl (zqX zI ?_)))); refine ⟨_, _, q1, ?_⟩)
      (refine zkn rfl rfl (zst_e (zst_e (zst_p (zo_n rfl (zs_n rfl rfl rfl (zqX zI ?_)))))); refine ⟨_, _, q2, ?_⟩)
      ((refine zkn rfl rfl (zst_tu (zP rfl rfl rfl rfl zI (zP rfl rfl rfl rfl zI (zo_n rfl (zs_as rfl rfl rfl (zas_n rfl) (zst_p (zo_n rfl (zs_as rfl rfl rfl (zas_n rfl) (zst_p (zo_0 (zt_n ?_))))))))))); refine zw_r (ze_r zi ?_)); refine And.intro ?_ trivial)
      rfl
theorem house_Minus (a b : List Rect) : ACalls C 18 [.pv (rects a), .pv (rects b)] (.tu [rects (minusR a b).1, i64 (minusR a b).2]) [] := by
  refine fun_go hC Tryz.func18 rfl rfl 11 rfl (by decide) (by kernel_rfl) fun _ _ _ _ _ => ?_
  ((refine zw_s (zw_o (zo_n rfl (zs_as rfl rfl rfl (zas_n rfl) (zst_nl (zo_n rfl (zs_as rfl rfl rfl (zas_n rfl) (zst_p (zo_0 (zt_n (zw_s (zw_o ?_))))))))))); refine zP rfl rfl rfl rfl zI (zP rfl rfl rfl rfl zI (zo_n rfl (zs_n rfl rfl rfl (zqX zI ?_))))); refine ⟨_, _, (house_two a b), ?_⟩)
  ((refine zkn rfl rfl (zst_tu (zP rfl rfl rfl rfl zI (zP rfl rfl rfl rfl zI (zo_n rfl (zs_as rfl rfl rfl (zas_n rfl) (zst_p (zo_n rfl (zs_as rfl rfl rfl (zas_n rfl) (zst_p (zo_0 (zt_n ?_))))))))))); refine zw_r (ze_r zi ?_)); refine And.intro ?_ trivial)
  rfl
def hasRR (l : List Rect) (x y : Int) : Bool × Int := if Reg.checkRegion l = 0 then (if (Reg.isAt x && Reg.isAt y) = true then (l.any (inR x y), 0) else (false, 1)) else (false, Reg.checkRegion l)
theorem house_Has (l : List Rect) (x y : Int) : ACalls C 19 [.pv (rects l), .pv (.ag [i64 x, i64 y])] (.tu [bool (hasRR l x y).1, i64 (hasRR l x y).2]) [] := by
  refine fun_go hC Tryz.func19 rfl rfl 18 rfl (by decide) (by kernel_rfl) fun _ _ _ _ _ => ?_
  ((refine zw_s (zw_o (zo_n rfl (zs_n rfl rfl rfl (zq1 zI (zkns (zst_bx (zo_n rfl (zs_as rfl rfl rfl (zas_n rfl) (zst_p (zo_n rfl (zs_as rfl rfl rfl (zas_n rfl) ?_))))))))))); refine zst_p (zo_0 (zt_n (zw_s (zw_s (zw_o (zP rfl rfl rfl rfl zI (zo_n rfl (zs_n rfl rfl rfl (zqX zI ?_)))))))))); refine ⟨_, _, (house_checkRegion l), ?_⟩)
  ((refine zkn rfl rfl (zst_p (zo_n rfl (zs_as rfl rfl rfl (zas_n rfl) (zst_p (zo_0 (zt_n (zw_s (zw_o (zP rfl rfl rfl rfl zI (zP rfl rfl rfl rfl zI (zo_0 ?_))))))))))); refine zt_n (zw_c rfl ?_)); refine bcase_split (fun g0 => ?_) (fun g0 => ?_) <;> try simp only [decide_eq_true_eq, decide_eq_false_iff_not, ge_iff_le, gt_iff_lt, Bool.not_eq_true', Bool.not_eq_false'] at g0)
  · have g0 : ¬ Reg.checkRegion l = 0 := by simpa using g0
    ((refine zw_s (zw_o (zP rfl rfl rfl rfl zI (zo_n rfl (zs_as rfl rfl rfl (zas_n rfl) (zst_p (zo_n rfl (zs_as rfl rfl rfl (zas_n rfl) (zst_p (zo_0 (zt_n (zw_r ?_))))))))))); refine zt_r (ze_r zi ?_)); refine And.intro ?_ trivial)
    rw [hasRR, if_neg g0]
    rfl
  · have g0 : Reg.checkRegion l = 0 := by simpa using g0
    have rl := (reg_ok g0).len
    rw [hasRR, if_pos g0]
    (refine zw_k (zt_n (zw_s (zw_s (zw_o (zP rfl rfl rfl rfl zI (zo_n rfl (zs_n rfl rfl rfl (zqX zI ?_)))))))); refine ⟨_, _, (shape_isPoint x y), ?_⟩)
    (refine zkn rfl rfl (zst_p (zP rfl rfl rfl rfl zI (zo_0 (zt_n (zw_c rfl ?_))))); refine bcase_split (fun g1 => ?_) (fun g1 => ?_) <;> try simp only [decide_eq_true_eq, decide_eq_false_iff_not, ge_iff_le, gt_iff_lt, Bool.not_eq_true', Bool.not_eq_false'] at g1)
    · ((refine zw_s (zw_o (zo_n rfl (zs_as rfl rfl rfl (zas_n rfl) (zst_p (zo_n rfl (zs_as rfl rfl rfl (zas_n rfl) (zst_p (zo_0 (zt_n (zw_r (zt_r ?_))))))))))); refine ze_r zi ?_); refine And.intro ?_ trivial)
      rw [if_neg (by simp_all)]
      rfl
    · rw [if_pos (by simp_all)]
      (refine zw_k (zt_n (zw_s (zw_o (zP rfl rfl rfl rfl zI (zP rfl rfl rfl rfl zI (zo_n rfl (zs_n rfl rfl rfl (zqX zI ?_)))))))); refine ⟨_, _, (house_hasSquare l (by omega) x y), ?_⟩)
      (refine zkn rfl rfl (zst_p (zo_n rfl (zs_as rfl rfl rfl (zas_n rfl) (zst_p (zo_n rfl (zs_as rfl rfl rfl (zas_n rfl) (zst_p (zo_0 (zt_n (zw_r (ze_r zi ?_))))))))))); refine And.intro ?_ trivial)
      rfl
end Go.Proofs.YtcfhiodoogkcpaaGreatDoor.M
