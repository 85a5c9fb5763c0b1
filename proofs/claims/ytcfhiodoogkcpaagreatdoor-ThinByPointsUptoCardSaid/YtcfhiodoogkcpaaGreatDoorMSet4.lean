/- By the machine: the house's sets: spreading, cores, thin places. -/
import Derived.Test.YtcfhiodoogkcpaaGreatDoorMSet3
set_option linter.unusedSimpArgs false
set_option linter.unusedVariables false
namespace Go.Proofs.YtcfhiodoogkcpaaGreatDoor.M
open Go.AM Go.RowKit Go.Lib
open Reg (Rect Spans Band cuts SOK InK BOK lessS aroundS told shiftR spreadS coreS thinS Canon Full RK)

theorem rising_len : ∀ {l : List Int} {c hi : Int}, Reg.Rising (c :: l) → (∀ x ∈ c :: l, x ≤ hi) → (l.length : Int) ≤ hi - c
  | [], c, hi, _, h => by have := h c (by simp); simp only [List.length_nil]; omega
  | d :: l, c, hi, hr, h => by
    have ih := rising_len (l := l) (c := d) (hi := hi) hr.tail (fun x hx => h x (by simp at hx ⊢; exact .inr hx))
    have h1 := hr.behind d (by simp)
    simp only [List.length_cons]
    omega
/-- SetOf of rectangles within a range -/
theorem setOf_in (l : List Rect) (K : Int) (h0 : 0 ≤ K) (h1 : K ≤ 2000000) (hf : ∀ r ∈ l, Full r) (hk : ∀ r ∈ l, RK K r) (hN : l.length ≤ 4398046511104) : ACalls C 46 [.pv (rects l)] (.own 108 ((Reg.bands l).map hb)) [] := by
  refine house_setOf' l (fun r hr => ?_) hN ?_ (fun y => ?_)
  · have a := hk r hr
    have b := hf r hr
    unfold RK at a
    unfold Full at b
    exact ⟨⟨by omega, by omega, by omega, by omega⟩, b.1, b.2⟩
  · obtain ⟨r1, r2⟩ := Reg.heights_facts l
    cases hh : Reg.heights l with
    | nil => simp
    | cons c u =>
      rw [hh] at r1
      have all : ∀ x ∈ c :: u, -K ≤ x ∧ x ≤ K := fun x hx => by
        rw [← hh] at hx
        obtain ⟨r, hr, e⟩ := (r2 x).1 hx
        have a := hk r hr
        have b := hf r hr
        unfold RK at a
        unfold Full at b
        omega
      have := rising_len r1 (hi := K) (fun x hx => (all x hx).2)
      have := (all c (by simp)).1
      simp only [List.length_cons]
      omega
  · have c1 := (Reg.row_facts l y (fun r hr => (hf r hr).1)).1
    have := Reg.spans_len c1 h0 (Reg.row_in hf y hk)
    omega
def mixR (l r d u : Int) (L : List Rect) (i : Nat) : List Rect := (L.take i).map (shiftR l r d u) ++ L.drop i
theorem mix_get {l r d u : Int} {L : List Rect} {i : Nat} {q : Rect} (h : L[i]? = some q) : (mixR l r d u L i)[i]? = some q := by
  have hi := (List.getElem?_eq_some_iff.1 h).1
  have e : ((L.take i).map (shiftR l r d u)).length = i := by rw [List.length_map, List.length_take]; omega
  rw [mixR, List.getElem?_append_right (by omega), e, Nat.sub_self, List.getElem?_drop, Nat.add_zero, h]
theorem mix_len (l r d u : Int) (L : List Rect) (i : Nat) : (mixR l r d u L i).length = L.length := by
  rw [mixR, List.length_append, List.length_map, List.length_take, List.length_drop]
  omega
theorem mix_set {l r d u : Int} {L : List Rect} {i : Nat} {q : Rect} (h : L[i]? = some q) : (mixR l r d u L i).set i (shiftR l r d u q) = mixR l r d u L (i + 1) := by
  have hi := (List.getElem?_eq_some_iff.1 h).1
  have e : ((L.take i).map (shiftR l r d u)).length = i := by rw [List.length_map, List.length_take]; omega
  have hd : L.drop i = q :: L.drop (i + 1) := by
    rw [List.drop_eq_getElem_cons hi, (List.getElem?_eq_some_iff.1 h).2]
  rw [mixR, List.set_append_right _ _ (by omega), e, Nat.sub_self, hd, mixR, take_succ' h, List.map_append]
  simp
set_option maxRecDepth 100000 in
set_option maxHeartbeats 2000000 in
theorem house_spread (s : List Band) (hs : SOK s) (ks : InK 1400000 s) (l r d u : Int) (hl : 0 ≤ l ∧ l ≤ 100000) (hr : 0 ≤ r ∧ r ≤ 100000) (hd : 0 ≤ d ∧ d ≤ 100000) (hu : 0 ≤ u ∧ u ≤ 100000) : ACalls C 76 [.pv (bandsV s), .pv (i64 l), .pv (i64 r), .pv (i64 d), .pv (i64 u)] (.p (bandsV (spreadS s l r d u))) [] := by
  refine fun_go hC Tryz.func76 rfl rfl 46 rfl (by decide) (by kernel_rfl) fun _ _ _ _ _ => ?_
  have ls := Reg.bands_len hs (by omega) ks
  have lx := Reg.xs_len hs (by omega) ks
  have lt := Reg.told_small hs ks
  have tf := Reg.told_full hs
  have ti := Reg.told_in hs ks
  ((refine zw_s (zw_o (zo_n rfl (zs_as rfl rfl rfl (zas_n rfl) (zst_nl (zo_0 (zt_n (zw_s (zw_o (zP rfl rfl rfl rfl zI (zo_n rfl (zs_n rfl rfl rfl ?_))))))))))); refine zqX zI ?_); refine ⟨_, _, (house_rects' s (by omega) (fun t ht => by have := lx t ht; omega) lt), ?_⟩)
  have so := setOf_in ((told s).map (shiftR l r d u)) 1500000 (by omega) (by omega) (fun q hq => by
    obtain ⟨p, hp, rfl⟩ := List.mem_map.1 hq
    have := tf p hp
    unfold Full at this
    exact ⟨by show p.x0 - l < p.x1 + r; omega, by show p.y0 - d < p.y1 + u; omega⟩) (fun q hq => by
    obtain ⟨p, hp, rfl⟩ := List.mem_map.1 hq
    have := ti p hp
    unfold RK at this
    exact ⟨by show -1500000 ≤ p.x0 - l; omega, by show -1500000 ≤ p.y0 - d; omega, by show p.x1 + r ≤ 1500000; omega, by show p.y1 + u ≤ 1500000; omega⟩) (by rw [List.length_map]; exact lt)
  rw [show spreadS s l r d u = Reg.bands ((told s).map (shiftR l r d u)) from rfl]
  generalize told s = L at *
  have lm := fun i => len_map (mixR l r d u L i) rc
  have ml := mix_len l r d u L
  have m0 : mixR l r d u L 0 = L := by simp [mixR]
  (refine zkns (zst_ow (zo_n rfl (zs_ar rfl rfl rfl rfl rfl (zo_0 (zt_n (zw_s (zw_s (zw_o (zo_n rfl (zs_q rfl rfl (zq1 zI ?_))))))))))); refine zkq (zst_ow (zP rfl rfl rfl rfl zI (zP rfl rfl rfl rfl zI (zo_0 (zt_n (zw_b ?_)))))))
  refine loop_ok' (fun i : Nat => i ≤ L.length) (fun i => [(1, .p (i64 l)), (2, .p (i64 r)), (3, .p (i64 d)), (4, .p (i64 u)), (11, .ow 11), (16, .ow 11), (17, .p (i64 (L.map rc).length)), (18, .p (i64 i))]) (fun i => [(11, .row 44 ((mixR l r d u L i).map rc))]) (fun i => L.length - i) 0 _ (SLe.refl _ _) (Nat.zero_le _) ⟨rfl, rfl, rfl, rfl, rfl, rfl, rfl, rfl, trivial⟩ ⟨by rw [m0]; rfl, trivial⟩ fun i hi t h => ?_
  have lmi := lm i
  have mli := ml i
  have lm0 := len_map L rc
  (refine zw_s (zw_o (zP rfl rfl rfl rfl zI (zo_0 (zt_n (zw_s (zw_c rfl ?_)))))); refine bcase_split (fun g1 => ?_) (fun g1 => ?_) <;> try simp only [decide_eq_true_eq, decide_eq_false_iff_not, ge_iff_le, gt_iff_lt, Bool.not_eq_true', Bool.not_eq_false'] at g1)
  · obtain ⟨q, hq⟩ := get_of (l := L) (i := i) (by omega)
    have a := ti q (List.mem_of_getElem? hq)
    have b := tf q (List.mem_of_getElem? hq)
    unfold RK at a
    unfold Full at b
    have hm := mix_get (l := l) (r := r) (d := d) (u := u) hq
    have hset := mix_set (l := l) (r := r) (d := d) (u := u) hq
    (refine zw_k (zt_n (zw_s (zw_b (zw_s (zw_o (zP rfl rfl rfl rfl zI (zo_n rfl (zs_q rfl rfl (zqA zI ?_))))))))); refine And.intro ⟨by omega, by omega⟩ ?_)
    (refine zkq (zst_rp (zo_n rfl (zs_q rfl rfl (zqX zI ?_)))); refine ⟨(rc q), (idx rfl hm).2, ?_⟩)
    ((refine zkq (zst_p (zo_n rfl (zs_n rfl rfl rfl (zq1 zI (zkns (zst_bx (zo_n rfl (zs_as rfl rfl rfl (zas_n rfl) (zst_p (zo_n rfl (zs_q rfl rfl ?_))))))))))); refine zq1 zI (zkq (zst_e (zst_0 (zo_0 (zt_n (zw_o (zo_n rfl (zs_q rfl rfl (zq1 zI (zkq (zst_ow ?_))))))))))); refine zP rfl rfl rfl rfl zI (zV rfl rfl rfl rfl zI (zP rfl rfl rfl rfl zI (zP rfl rfl rfl rfl zI (zo_n rfl (zs_q rfl rfl (zqA zI ?_))))))); refine And.intro ⟨by omega, by omega⟩ ?_)
    (refine zkq (zst_p (zV rfl rfl rfl rfl zI (zP rfl rfl rfl rfl zI (zP rfl rfl rfl rfl zI (zo_n rfl (zs_q rfl rfl (zqA zI ?_))))))); refine And.intro ⟨by omega, by omega⟩ ?_)
    (refine zkq (zst_p (zV rfl rfl rfl rfl zI (zP rfl rfl rfl rfl zI (zP rfl rfl rfl rfl zI (zo_n rfl (zs_q rfl rfl (zqA zI ?_))))))); refine And.intro ⟨by omega, by omega⟩ ?_)
    (refine zkq (zst_p (zV rfl rfl rfl rfl zI (zP rfl rfl rfl rfl zI (zP rfl rfl rfl rfl zI (zo_n rfl (zs_q rfl rfl (zqA zI ?_))))))); refine And.intro ⟨by omega, by omega⟩ ?_)
    (refine zkq (zst_p (zP rfl rfl rfl rfl zI (zo_n rfl (zs_q rfl rfl (zqA zI ?_))))); refine And.intro ⟨by omega, by omega⟩ ?_)
    (refine zkq (zst_rp (zo_n rfl (zs_q rfl rfl (zqX zI ?_)))); refine ⟨(rc q), (idx rfl hm).2, ?_⟩)
    (refine zkq (zst_e (zst_0 (zo_0 (zb_n (zt_n (zw_o (zo_n rfl (zs_q rfl rfl (zqA zI ?_))))))))); refine And.intro ⟨by omega, by omega⟩ ?_)
    have e5 : ∀ k : Nat, k = i → AB.row 44 (((mixR l r d u L i).map rc).set k (rc (shiftR l r d u q))) = AB.row 44 ((mixR l r d u L (i + 1)).map rc) := by
      intro k e
      subst e
      rw [← List.map_set, hset]
    (refine zkq (zst_p (zP rfl rfl rfl rfl zI (zo_0 (zt_n (zaf_raw ?_))))); refine ⟨(i + 1), _, SLe.refl _ _, ?_⟩)
    exact ⟨by omega, by omega, ⟨rfl, rfl, rfl, rfl, rfl, rfl, rfl, rfl, trivial⟩, ⟨e5 _ rfl, trivial⟩⟩
  · have e : mixR l r d u L i = L.map (shiftR l r d u) := by
      rw [mixR, List.take_of_length_le (by omega), List.drop_of_length_le (by omega), List.append_nil]
    rw [e]
    ((refine zw_x (zt_x (zt_x (zb_h (zt_n (zw_s (zw_o (zo_n rfl (zs_q rfl rfl (zq1 zI (zkq (zst_ow ?_))))))))))); refine zo_n rfl (zs_n rfl rfl rfl (zqX zI ?_))); refine ⟨_, _, so, ?_⟩)
    (refine zkns (zst_e (zst_ow (zo_n rfl (zs_ar rfl rfl rfl rfl rfl (zo_0 (zt_n (zw_r (ze_r zi ?_)))))))); refine And.intro ?_ trivial)
    rfl
end Go.Proofs.YtcfhiodoogkcpaaGreatDoor.M
