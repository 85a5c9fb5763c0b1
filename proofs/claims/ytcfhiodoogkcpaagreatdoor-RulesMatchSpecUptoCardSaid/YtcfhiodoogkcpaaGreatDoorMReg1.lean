/- By the machine: the reference of regions, its small functions. -/
import Derived.Test.YtcfhiodoogkcpaaGreatDoorMTab
set_option linter.unusedSimpArgs false
set_option linter.unusedVariables false
namespace Go.Proofs.YtcfhiodoogkcpaaGreatDoor.M
open Go.AM Go.RowKit
open Reg (Rect Spans)

theorem ref_within (n lo hi : Int) : ACalls C 105 [.pv (i64 n), .pv (i64 lo), .pv (i64 hi)] (.p (bool (decide (lo ≤ n) && decide (n ≤ hi)))) [] := by
  refine fun_go hC Tryz.func105 rfl rfl 15 rfl (by decide) (by kernel_rfl) fun _ _ _ _ _ => ?_
  (refine yS (yA rfl (yU (yP rfl (yP rfl (yP rfl (yP rfl (yg rfl ?_))))))); refine bcase_split (fun h => ?_) (fun h => ?_) <;> try simp only [zB] at h) <;> ((first | (refine zg_t (zs_q rfl rfl (zq1 zI (yk (y1 rfl (y1 rfl (yP rfl (yA rfl (yR zi ?_))))))))) | (refine zg_f (zst_p (y0 rfl (y0 rfl (yP rfl (yA rfl (yR zi ?_)))))))); refine And.intro ?_ trivial) <;> simp [bool, h]
theorem ref_at (n : Int) : ACalls C 70 [.pv (i64 n)] (.p (bool (Reg.isAt n))) [] := by
  refine fun_go hC Tryz.func70 rfl rfl 5 rfl (by decide) (by kernel_rfl) fun _ _ _ _ _ => ?_
  (refine yS (yA rfl (yU (yP rfl (yn rfl (zqX zI ?_))))); refine ⟨_, _, (ref_within n (-1000000) 1000000), ?_⟩)
  (refine zkn rfl rfl (zst_p (yA rfl (yR zi ?_))); refine And.intro ?_ trivial)
  rfl
theorem ref_point (x y : Int) : ACalls C 41 [.pv (.ag [i64 x, i64 y])] (.p (bool (Reg.isAt x && Reg.isAt y))) [] := by
  refine fun_go hC Tryz.func41 rfl rfl 11 rfl (by decide) (by kernel_rfl) fun _ _ _ _ _ => ?_
  (refine yS (yn rfl (zq1 zI (zkns (zst_bx (yA rfl (yU (yV rfl (yP rfl (yn rfl (zqX zI ?_)))))))))); refine ⟨_, _, (ref_at x), ?_⟩)
  (refine zkn rfl rfl (zst_p (yP rfl (yg rfl ?_))); refine bcase_split (fun h => ?_) (fun h => ?_) <;> try simp only [zB] at h)
  · (refine zg_t (zs_q rfl rfl (zq1 zI (zkq (zst_bx (y1 rfl (y2 rfl (zs_n rfl rfl rfl (zqX zI ?_)))))))); refine ⟨_, _, (ref_at y), ?_⟩)
    (refine zkn rfl rfl (zst_p (yP rfl (yA rfl (yR zi ?_)))); refine And.intro ?_ trivial)
    simp [bool, h]
  · (refine zg_f (zst_p (y0 rfl (y0 rfl (yP rfl (yA rfl (yR zi ?_)))))); refine And.intro ?_ trivial)
    simp [bool, h]
theorem ref_before (a b : Rect) : ACalls C 64 [.pv (.ag (rc a)), .pv (.ag (rc b))] (.p (bool (Reg.before a b))) [] := by
  refine fun_go hC Tryz.func64 rfl rfl 24 rfl (by decide) (by kernel_rfl) fun _ _ _ _ _ => ?_
  ((refine yS (yn rfl (zq1 zI (zkns (zst_bx (yn rfl (zq1 zI (zkns (zst_bx (yA rfl (yU (yV rfl (yP rfl (yV rfl ?_))))))))))))); refine yP rfl (yP rfl (yP rfl (yg rfl ?_)))); refine bcase_split (fun h => ?_) (fun h => ?_) <;> try simp only [zB] at h)
  · ((refine zg_f (zst_p (y0 rfl (y0 rfl (y0 rfl (y0 rfl (y0 rfl (zo_gu rfl rfl rfl rfl (zst_p (zo_gu rfl rfl rfl rfl (zst_p (zo_gu rfl rfl rfl rfl (zst_p (zo_gu rfl rfl rfl rfl ?_))))))))))))); refine zst_p (zo_gu rfl rfl rfl rfl (zst_p (y0 rfl (yP rfl (yA rfl (yR zi ?_))))))); refine And.intro ?_ trivial)
    simp [bool, Reg.before, h]
  · ((refine zg_t (zs_q rfl rfl (zq1 zI (zkq (zst_bx (y1 rfl (y2 rfl (zs_q rfl rfl (zq1 zI (zkq (zst_bx (y1 rfl (y1 rfl (y1 rfl ?_))))))))))))); refine yg rfl ?_); refine bcase_split (fun h2 => ?_) (fun h2 => ?_) <;> try simp only [zB] at h2) <;> ((first | (refine zg_t (zs_q rfl rfl (zq1 zI (zkq (zst_bx (y1 rfl (y2 rfl (zs_q rfl rfl (zq1 zI (zkq (zst_bx (y1 rfl (y1 rfl (y1 rfl ?_))))))))))))); refine yP rfl (yA rfl (yR zi ?_))) | (refine zg_f (zst_p (y0 rfl (y0 rfl (y0 rfl (y0 rfl (y1 rfl (yP rfl (yA rfl (yR zi ?_))))))))))); refine And.intro ?_ trivial) <;> simp [bool, Reg.before, h, h2]
def insideB (l : Spans) (x : Int) : Bool := l.any fun p => decide (p.1 ≤ x) && decide (x < p.2)
theorem take_succ' {α : Type} {l : List α} {i : Nat} {r : α} (h : l[i]? = some r) : l.take (i + 1) = l.take i ++ [r] := by rw [List.take_add_one, h]; rfl
theorem get_of {α : Type} {l : List α} {i : Nat} (h : i < l.length) : ∃ p, l[i]? = some p := ⟨l[i], List.getElem?_eq_getElem h⟩
theorem idx {α : Type} {l : List α} {f : α → List PV} {i : Int} {k : Nat} {x : α} (h : i = k) (hx : l[k]? = some x) : 0 ≤ i ∧ (l.map f)[i.toNat]? = some (f x) := by
  subst h
  exact ⟨by omega, by rw [Int.toNat_natCast]; exact map_get f hx⟩
theorem av_i64 {a b : Int} (h : a = b) : AV.p (i64 a) = AV.p (i64 b) := by rw [h]
theorem av_bool {a b : Bool} (h : a = b) : AV.p (bool a) = AV.p (bool b) := by rw [h]
theorem len_map {α : Type} (l : List α) (f : α → List PV) : (l.map f).length = l.length := List.length_map ..
theorem ref_inside (l : Spans) (x : Int) (hl : l.length ≤ 140737488355328) : ACalls C 106 [.pv (spans l), .pv (i64 x)] (.p (bool (insideB l x))) [] := by
  refine fun_go hC Tryz.func106 rfl rfl 28 rfl (by decide) (by kernel_rfl) fun _ _ _ _ _ => ?_
  refine yS (yA rfl (yT (zw_s (yS (yA rfl (yT (zw_b ?_)))))))
  refine loop_ok' (fun i : Nat => i ≤ l.length ∧ insideB (l.take i) x = false) (fun i => [(0, .p (spans l)), (1, .p (i64 x)), (5, .p (i64 i))]) (fun _ => []) (fun i => l.length - i) 0 _ (SLe.refl _ _) ⟨Nat.zero_le _, rfl⟩ ⟨rfl, rfl, rfl, trivial⟩ trivial fun i hi t h => ?_
  (refine zw_s (yS (yP rfl (yP rfl (yP rfl (yP rfl (yT (zw_c rfl ?_))))))); refine bcase_split (fun h1 => ?_) (fun h1 => ?_) <;> try simp only [zB] at h1)
  · simp only [List.length_map] at h1
    obtain ⟨p, hp⟩ := get_of (l := l) (i := i) (by omega)
    (refine zw_k (zt_n (zw_s (zw_b (yS (yP rfl (yP rfl (yq rfl (zqX zI ?_)))))))); refine ⟨(sp p), (idx rfl hp), ?_⟩)
    (refine yk (yP rfl (yP rfl (yP rfl (yP rfl (yP rfl (yg rfl ?_)))))); refine bcase_split (fun h3 => ?_) (fun h3 => ?_) <;> try simp only [zB] at h3)
    · (refine zg_t (zs_q rfl rfl (zq1 zI (yk (y1 rfl (y1 rfl (y2 rfl (zs_q rfl rfl (zqX zI ?_)))))))); refine ⟨(sp p), (idx rfl hp), ?_⟩)
      (refine yk (y1 rfl (y1 rfl (y1 rfl (yP rfl (yT (zw_c rfl ?_)))))); refine bcase_split (fun h4 => ?_) (fun h4 => ?_) <;> try simp only [zB] at h4)
      · (refine yS (yA rfl (yT (zw_r (zb_r (zt_r (zt_r (zb_r (zt_r (ze_r zi ?_))))))))); refine And.intro ?_ trivial)
        have : insideB l x = true := by
          unfold insideB
          rw [List.any_eq_true]
          exact ⟨p, List.mem_of_getElem? hp, by simp [h3, h4]⟩
        simp [bool, this]
      · (refine zw_k (zb_n (zt_n (zw_o (yP rfl (yq rfl (zqA zI ?_)))))); refine And.intro ⟨by omega, by omega⟩ ?_)
        (refine yk (yA rfl (yT (zaf_raw ?_))); refine ⟨(i + 1), _, SLe.refl _ _, ?_⟩)
        refine ⟨⟨by omega, ?_⟩, by omega, ⟨rfl, rfl, rfl, trivial⟩, trivial⟩
        rw [take_succ' hp]
        simp only [insideB] at hi
        simp [insideB, hi.2, h4]
    · ((refine zg_f (zst_p (y0 rfl (y0 rfl (y0 rfl (y0 rfl (y0 rfl (y0 rfl (yP rfl (yT (zw_c rfl (zc_f (zw_k (zb_n ?_))))))))))))); refine zt_n (zw_o (yP rfl (yq rfl (zqA zI ?_))))); refine And.intro ⟨by omega, by omega⟩ ?_)
      (refine yk (yA rfl (yT (zaf_raw ?_))); refine ⟨(i + 1), _, SLe.refl _ _, ?_⟩)
      refine ⟨⟨by omega, ?_⟩, by omega, ⟨rfl, rfl, rfl, trivial⟩, trivial⟩
      rw [take_succ' hp]
      simp only [insideB] at hi
      simp [insideB, hi.2, h3]
  · (refine zw_x (zt_x (zt_x (zb_h (zt_n (yS (yA rfl (yR zi ?_))))))); refine And.intro ?_ trivial)
    simp only [List.length_map] at h1
    have h2 : l.take i = l := List.take_of_length_le (by omega)
    rw [h2] at hi
    simp [bool, hi.2]
end Go.Proofs.YtcfhiodoogkcpaaGreatDoor.M
