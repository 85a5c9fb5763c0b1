/- By the machine: the house's regions: stretches. -/
import Derived.Test.YtcfhiodoogkcpaaGreatDoorMHouse5
set_option linter.unusedSimpArgs false
set_option linter.unusedVariables false
namespace Go.Proofs.YtcfhiodoogkcpaaGreatDoor.M
open Go.AM Go.RowKit
open Reg (Rect Spans Band)

theorem addLast_flat (a b : Int) : ∀ (s : Spans), (s = [] → flat (Reg.addLast s a b) = [a, b]) ∧ (∀ n, s.length = n + 1 → ∃ p, (flat s)[2 * n + 1]? = some p ∧ flat (Reg.addLast s a b) = if a ≤ p then (flat s).set (2 * n + 1) (max p b) else flat s ++ [a, b]) := by
  intro s
  induction s with
  | nil => exact ⟨fun _ => rfl, fun n h => by simp at h⟩
  | cons p s ih =>
    refine ⟨fun h => by simp at h, fun n hn => ?_⟩
    cases s with
    | nil =>
      have : n = 0 := by simpa using hn.symm
      subst this
      refine ⟨p.2, rfl, ?_⟩
      rw [Reg.addLast]
      split <;> rfl
    | cons q s =>
      cases n with
      | zero => simp at hn
      | succ n =>
        obtain ⟨z, h1, h2⟩ := ih.2 n (by simpa using hn)
        refine ⟨z, ?_, ?_⟩
        · rw [show 2 * (n + 1) + 1 = (2 * n + 1) + 1 + 1 by omega]
          simpa [flat] using h1
        · rw [Reg.addLast, flat, h2, show 2 * (n + 1) + 1 = (2 * n + 1) + 1 + 1 by omega]
          split
          · simp [flat]
          · simp [flat]
theorem addLast_length (a b : Int) : ∀ (s : Spans), (Reg.addLast s a b).length ≤ s.length + 1 := by
  intro s
  induction s with
  | nil => simp [Reg.addLast]
  | cons p s ih =>
    cases s with
    | nil => rw [Reg.addLast]; split <;> simp
    | cons q s => rw [Reg.addLast]; simp only [List.length_cons] at ih ⊢; omega
theorem stretch_length (l : List Rect) : (Reg.stretch l).length ≤ l.length := by
  suffices H : ∀ n (m : List Rect), m.length = n → (Reg.stretch m).length ≤ m.length from H _ l rfl
  intro n
  induction n with
  | zero =>
    intro m hm
    have : m = [] := List.eq_nil_of_length_eq_zero hm
    subst this
    simp [Reg.stretch]
  | succ n ih =>
    intro m hm
    obtain ⟨d, r, rfl⟩ : ∃ d r, m = d ++ [r] := by
      cases h : m.reverse with
      | nil => simp at h; subst h; simp at hm
      | cons r d => exact ⟨d.reverse, r, by rw [← List.reverse_reverse m, h]; simp⟩
    rw [Reg.stretch_snoc]
    have h1 := addLast_length r.x0 r.x1 (Reg.stretch d)
    have h2 := ih d (by simp at hm; exact hm)
    simp only [List.length_append, List.length_singleton]
    omega
set_option maxRecDepth 100000 in
set_option maxHeartbeats 1000000 in
theorem house_stretches (l : List Rect) (hl : ∀ r ∈ l, Bd r) (hN : l.length ≤ 4398046511104) : ACalls C 85 [.row 44 (l.map rc)] (.p (ints (flat (Reg.stretch (sortBy cfX l))))) [.row ((sortBy cfX l).map rc)] := by
  refine fun_go hC Tryz.func85 rfl rfl 48 rfl (by decide) (by kernel_rfl) fun _ _ _ _ _ => ?_
  obtain ⟨hp, _⟩ := sortX_facts hl
  have hpl := hp.length_eq
  (refine yS (yB rfl (yU (yq rfl (zq1 zI (zkq (zst_ow (yn rfl (zqX zI ?_)))))))); refine ⟨_, _, (sort_x l hl (by omega)), ?_⟩)
  generalize sortBy cfX l = L at hp hpl ⊢
  have lm := len_map L rc
  (refine zkn rfl rfl (zst_e (zst_tu (yU (yB rfl (yT (zw_s (yS (yq rfl (zq1 zI (zkq (zst_ow (yP rfl (yP rfl ?_))))))))))))); refine yT (zw_b ?_))
  refine loop_ok' (fun i : Nat => i ≤ L.length) (fun i => [(0, .ow 100000), (9, .ow 100000), (10, .p (i64 (L.map rc).length)), (11, .p (i64 i)), (3, .ow 3)]) (fun i => [(100000, .row 44 (L.map rc)), (3, .row 3 ((flat (Reg.stretch (L.take i))).map fun n => [i64 n]))]) (fun i => L.length - i) 0 _ (SLe.nilRow hC _ 3 3 _ (by decide) rfl rfl (by decide)) (Nat.zero_le _) ⟨rfl, rfl, rfl, rfl, rfl, trivial⟩ ⟨rfl, rfl, trivial⟩ fun i hi t h => ?_
  have sl := stretch_length (L.take i)
  have fl := flat_length (Reg.stretch (L.take i))
  have sm := len_map (flat (Reg.stretch (L.take i))) fun n => [i64 n]
  rw [List.length_take] at sl
  (refine yS (yP rfl (yT (zw_s (zw_c rfl ?_)))); refine bcase_split (fun h1 => ?_) (fun h1 => ?_) <;> try simp only [zB] at h1)
  · rw [lm] at h1
    obtain ⟨r, hr⟩ := get_of (l := L) (i := i) (by omega)
    have hst : Reg.stretch (L.take (i + 1)) = Reg.addLast (Reg.stretch (L.take i)) r.x0 r.x1 := by rw [take_succ' hr, Reg.stretch_snoc]
    obtain ⟨a1, a2⟩ := addLast_flat r.x0 r.x1 (Reg.stretch (L.take i))
    rw [← hst] at a1 a2
    generalize Reg.stretch (L.take i) = s at *
    (refine zw_k (zt_n (zw_s (zw_b (yS (yq rfl (zqA zI ?_)))))); refine And.intro ⟨by omega, by rw [lm]; omega⟩ ?_)
    (refine zkq (zst_rp (yq rfl (zqX zI ?_))); refine ⟨(rc r), (idx rfl hr).2, ?_⟩)
    ((refine yk (yn rfl (zq1 zI (zkns (zst_bx (yq rfl (zq1 zI (zkq (zst_e (zst_0 (yU (yq rfl (zq1 zI (zkq ?_))))))))))))); refine zst_ow (yP rfl (yq rfl (zqA zI ?_)))); refine And.intro ⟨by rw [sm]; omega, by rw [sm]; omega⟩ ?_)
    (refine yk (yA rfl (yT (zw_s (zw_d false [true, true, true, true, true, true, true, true, true, true, true] rfl (by kernel_rfl) (zp_q rfl (yD rfl (yD rfl (yD rfl (dg rfl ?_))))))))); refine bcase_split (fun h2 => ?_) (fun h2 => ?_) <;> try simp only [zB] at h2)
    · rw [sm, fl] at h2
      obtain ⟨n, hn⟩ : ∃ n, s.length = n + 1 := ⟨s.length - 1, by omega⟩
      obtain ⟨p, hp1, hp2⟩ := a2 n hn
      have hk : (((flat s).map fun n => [i64 n]).length : Int) - 1 = ((2 * n + 1 : Nat) : Int) := by rw [sm, fl]; omega
      ((refine zg_t (zd_q rfl (zq1 zI (zkd (zst_bx (d1 rfl (d2 rfl (zd_q rfl (zq1 zI (zkd (zst_ow (d1 rfl (d2 rfl (zd_q rfl ?_))))))))))))); refine zqA zI ?_); refine And.intro ⟨by rw [hk]; omega, by rw [hk, sm, fl]; omega⟩ ?_)
      (refine zkd (zst_rp (d2 rfl (zd_q rfl (zqX zI ?_)))); refine ⟨[i64 p], (idx hk hp1).2, ?_⟩)
      (refine zkd (zst_p (d1 rfl (yD rfl (zd_0 (zr_q rfl (zt_n (zw_c rfl ?_))))))); refine bcase_split (fun h3 => ?_) (fun h3 => ?_) <;> try simp only [zB] at h3)
      · rw [if_pos h3] at hp2
        (refine zw_d false [true, true, true, true, true, true, true, true, true, true, true] rfl (by kernel_rfl) (zp_q rfl (dq rfl (zq1 zI (zkd (zst_ow (yD rfl (dq rfl (zq1 zI (zkd (zst_ow (yD rfl (dq rfl (zqA zI ?_))))))))))))); refine And.intro ⟨by rw [hk]; omega, by rw [hk, sm, fl]; omega⟩ ?_)
        (refine zkd (zst_rp (dq rfl (zqX zI ?_))); refine ⟨[i64 p], (idx hk hp1).2, ?_⟩)
        (refine zkd (zst_p (yW rfl (yD rfl (yD rfl (dq rfl (zqA zI ?_)))))); refine And.intro ⟨by rw [hk]; omega, by rw [hk, sm, fl]; omega⟩ ?_)
        (refine zkd (zst_rp (dq rfl (zqX zI ?_))); refine ⟨[i64 p], (idx hk hp1).2, ?_⟩)
        (refine zkde rfl (zst_e (zst_0 (zd_0 (zr_q rfl (zb_n (zt_n (zw_o (yq rfl (zqA zI ?_))))))))); refine And.intro ⟨by omega, by omega⟩ ?_)
        (refine yk (yP rfl (yT (zaf_raw ?_))); refine ⟨(i + 1), _, SLe.refl _ _, ?_⟩)
        refine ⟨by omega, by omega, ⟨rfl, rfl, rfl, rfl, rfl, trivial⟩, ⟨rfl, ?_, trivial⟩⟩
        have hset : ∀ k : Nat, k = 2 * n + 1 → AB.row 3 (((flat s).map fun n => [i64 n]).set k [i64 (max p r.x1)]) = AB.row 3 ((flat (Reg.stretch (L.take (i + 1)))).map fun n => [i64 n]) := by
          intro k e
          subst e
          rw [hp2, List.map_set]
        exact hset _ (by rw [hk]; rfl)
      · rw [if_neg h3] at hp2
        ((refine zw_o (yq rfl (zq1 zI (zkq (zst_ow (yV rfl (yP rfl (yV rfl (yP rfl (yn rfl (zq1 zI (zkns (zst_ow (yn rfl ?_))))))))))))); refine zqA zI ?_); refine And.intro ⟨by simp, by simp; omega, by simp; omega⟩ ?_)
        (refine zkns (zst_e (zst_ow (zo_n rfl (zs_ar rfl rfl rfl rfl rfl (zo_0 (zb_n (zt_n (zw_o (yq rfl (zqA zI ?_)))))))))); refine And.intro ⟨by omega, by omega⟩ ?_)
        (refine yk (yP rfl (yT (zaf_raw ?_))); refine ⟨(i + 1), _, SLe.refl _ _, ?_⟩)
        refine ⟨by omega, by omega, ⟨rfl, rfl, rfl, rfl, rfl, trivial⟩, ⟨rfl, ?_, trivial⟩⟩
        rw [hp2, List.map_append]
        rfl
    · rw [sm, fl] at h2
      have hs : s = [] := List.eq_nil_of_length_eq_zero (by omega)
      have hp2 := a1 hs
      ((refine zg_f (zst_p (d0 rfl (d0 rfl (d0 rfl (d0 rfl (d0 rfl (d0 rfl (yD rfl (zd_0 (zr_q rfl (zt_n (zw_c rfl (zc_f ?_))))))))))))); refine zw_o (yq rfl (zq1 zI (zkq (zst_ow (yV rfl (yP rfl (yV rfl (yP rfl (yn rfl (zq1 zI (zkns (zst_ow (yn rfl ?_))))))))))))); refine zqA zI ?_); refine And.intro ⟨by simp, by simp; omega, by simp; omega⟩ ?_)
      (refine zkns (zst_e (zst_ow (zo_n rfl (zs_ar rfl rfl rfl rfl rfl (zo_0 (zb_n (zt_n (zw_o (yq rfl (zqA zI ?_)))))))))); refine And.intro ⟨by omega, by omega⟩ ?_)
      (refine yk (yP rfl (yT (zaf_raw ?_))); refine ⟨(i + 1), _, SLe.refl _ _, ?_⟩)
      refine ⟨by omega, by omega, ⟨rfl, rfl, rfl, rfl, rfl, trivial⟩, ⟨rfl, ?_, trivial⟩⟩
      rw [hp2, hs]
      rfl
  · rw [lm] at h1
    refine zw_x (zt_x (zt_x (zb_h (zt_n (yS (yq rfl (zq1 zI (zkq (zst_ow (zo_n rfl (zs_ar rfl rfl rfl rfl rfl (yR zi ?_))))))))))))
    rw [List.take_of_length_le (by omega)]
    exact ⟨rfl, rfl, trivial⟩
end Go.Proofs.YtcfhiodoogkcpaaGreatDoor.M
