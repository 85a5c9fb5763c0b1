/- By the machine: rules as data; squares of regions; nets. -/
import Derived.Test.YtcfhiodoogkcpaaGreatDoorMHouse9
set_option linter.unusedSimpArgs false
set_option linter.unusedVariables false
namespace Go.Proofs.YtcfhiodoogkcpaaGreatDoor.M
open Go.AM Go.RowKit Go.Lib
open Reg (Rect Spans Band)

structure Class where
  name : ByteArray
  nets : List ByteArray
  clearance : Int
  width : Int
structure Area where
  layer : Int
  region : List Rect
  clearance : Int
structure Rules where
  clearance : Int
  width : Int
  ring : Int
  edge : Int
  holeGap : Int
  classes : List Class
  areas : List Area
def kl (c : Class) : List PV := [str c.name, strs c.nets, i64 c.clearance, i64 c.width]
def arr (a : Area) : List PV := [i64 a.layer, rects a.region, i64 a.clearance]
def rl (r : Rules) : List PV := [i64 r.clearance, i64 r.width, i64 r.ring, i64 r.edge, i64 r.holeGap, .sl (r.classes.map kl), .sl (r.areas.map arr)]
/-- the square of a point lies in a rectangle -/
def inR (x y : Int) (r : Rect) : Bool := ((decide (r.x0 ≤ x) && decide (x < r.x1)) && decide (r.y0 ≤ y)) && decide (y < r.y1)
theorem hasSquare_1 (r : Rect) (x y : Int) : ACalls C 90 [.pv (.ag (rc r)), .pv (.ip [i64 x, i64 y])] (.p (bool (inR x y r))) [] := by
  refine fun_go hC Tryz.func90 rfl rfl 30 rfl (by decide) (by kernel_rfl) fun _ _ _ _ _ => ?_
  (refine yS (yn rfl (zq1 zI (zkns (zst_bx (yA rfl (yU (yP rfl (yP rfl (yV rfl (yP rfl (yP rfl (yP rfl (yg rfl ?_))))))))))))); refine bcase_split (fun h1 => ?_) (fun h1 => ?_) <;> try simp only [zB] at h1)
  · ((refine zg_t (zs_q rfl rfl (zq1 zI (yk (y1 rfl (y2 rfl (zs_q rfl rfl (zq1 zI (zkq (zst_bx (y1 rfl (y1 rfl (yP rfl (yP rfl ?_))))))))))))); refine yg rfl ?_); refine bcase_split (fun h2 => ?_) (fun h2 => ?_) <;> try simp only [zB] at h2)
    · ((refine zg_t (zs_q rfl rfl (zq1 zI (yk (y1 rfl (y2 rfl (zs_q rfl rfl (zq1 zI (zkq (zst_bx (y1 rfl (y1 rfl (yP rfl (yP rfl ?_))))))))))))); refine yg rfl ?_); refine bcase_split (fun h3 => ?_) (fun h3 => ?_) <;> try simp only [zB] at h3)
      · ((refine zg_t (zs_q rfl rfl (zq1 zI (yk (y1 rfl (y2 rfl (zs_q rfl rfl (zq1 zI (zkq (zst_bx (y1 rfl (y1 rfl (yP rfl (yA rfl ?_))))))))))))); refine yR zi ?_); refine And.intro ?_ trivial)
        simp [bool, inR, h1, h2, h3]
      · (refine zg_f (zst_p (y0 rfl (y0 rfl (y0 rfl (y0 rfl (yP rfl (yA rfl (yR zi ?_)))))))); refine And.intro ?_ trivial)
        simp [bool, inR, h1, h2, h3]
    · (refine zg_f (zst_p (y0 rfl (y0 rfl (y0 rfl (y0 rfl (yP rfl (yP rfl (y0 rfl (y0 rfl (y0 rfl (y0 rfl (y0 rfl (yP rfl ?_))))))))))))); refine yA rfl (yR zi ?_))
      (skip; refine And.intro ?_ trivial)
      simp [bool, inR, h1, h2]
  · (refine zg_f (zst_p (y0 rfl (y0 rfl (y0 rfl (y0 rfl (yP rfl (yP rfl (y0 rfl (y0 rfl (y0 rfl (y0 rfl (y0 rfl (yP rfl ?_))))))))))))); refine yP rfl (y0 rfl (y0 rfl (y0 rfl (y0 rfl (y0 rfl (yP rfl (yA rfl (yR zi ?_)))))))))
    (skip; refine And.intro ?_ trivial)
    simp [bool, inR, h1]
theorem index_rect1 (l : List Rect) (hN : l.length ≤ 140737488355328) (x y : Int) : ACalls C 112 [.pv (rects l), .pv (.fn 90 [.ip [i64 x, i64 y]])] (.p (i64 (firstP (inR x y) l 0))) [] := by
  refine fun_go hC Tryz.func112 rfl rfl 19 rfl (by decide) (by kernel_rfl) fun _ _ _ _ _ => ?_
  have lm := len_map l rc
  refine yS (yA rfl (yT (zw_s (yS (yP rfl (yP rfl (yP rfl (yT (zw_b ?_)))))))))
  refine loop_ok' (fun i : Nat => i ≤ l.length ∧ ∀ z ∈ l.take i, inR x y z = false) (fun i => [(0, .p (rects l)), (1, .p (.fn 90 [.ip [i64 x, i64 y]])), (7, .p (i64 (l.map rc).length)), (8, .p (i64 i))]) (fun _ => []) (fun i => l.length - i) 0 _ (SLe.refl _ _) ⟨Nat.zero_le _, by simp⟩ ⟨rfl, rfl, rfl, rfl, trivial⟩ trivial fun i hi t h => ?_
  (refine yS (yP rfl (yT (zw_s (zw_c rfl ?_)))); refine bcase_split (fun h1 => ?_) (fun h1 => ?_) <;> try simp only [zB] at h1)
  · rw [lm] at h1
    obtain ⟨r, hr⟩ := get_of (l := l) (i := i) (by omega)
    (refine zw_k (zt_n (zw_s (zw_b (yS (yP rfl (yA rfl (yU (yP rfl (yP rfl (yP rfl (yq rfl (zqX zI ?_)))))))))))); refine ⟨(rc r), (idx rfl hr), ?_⟩)
    (refine yk (yP rfl (yn rfl (zqX zI ?_))); refine ⟨_, _, (hasSquare_1 r x y), ?_⟩)
    (refine zkn rfl rfl (zst_p (yT (zw_c rfl ?_))); refine bcase_split (fun h2 => ?_) (fun h2 => ?_) <;> try simp only [zB] at h2)
    · (refine yS (yP rfl (yA rfl (yT (zw_r (zb_r (zt_r (zt_r (zb_r (zt_r (ze_r zi ?_)))))))))); refine And.intro ?_ trivial)
      rw [firstP_at hr h2 hi.2, Nat.zero_add]
    · (refine zw_k (zb_n (zt_n (zw_o (yq rfl (zqA zI ?_))))); refine And.intro ⟨by omega, by omega⟩ ?_)
      (refine yk (yP rfl (yT (zaf_raw ?_))); refine ⟨(i + 1), _, SLe.refl _ _, ?_⟩)
      exact ⟨⟨by omega, take_no hr h2 hi.2⟩, by omega, ⟨rfl, rfl, rfl, rfl, trivial⟩, trivial⟩
  · rw [lm] at h1
    (refine zw_x (zt_x (zt_x (zb_h (zt_n (yS (yA rfl (yR zi ?_))))))); refine And.intro ?_ trivial)
    have h2 := hi.2
    rw [List.take_of_length_le (by omega)] at h2
    rw [firstP_none h2]
    rfl
theorem contains_rect (l : List Rect) (hN : l.length ≤ 140737488355328) (x y : Int) : ACalls C 89 [.pv (rects l), .pv (.fn 90 [.ip [i64 x, i64 y]])] (.p (bool (l.any (inR x y)))) [] := by
  refine fun_go hC Tryz.func89 rfl rfl 9 rfl (by decide) (by kernel_rfl) fun _ _ _ _ _ => ?_
  (refine yS (yA rfl (yU (yP rfl (yP rfl (yn rfl (zqX zI ?_)))))); refine ⟨_, _, (index_rect1 l hN x y), ?_⟩)
  (refine zkn rfl rfl (zst_p (yP rfl (yA rfl (yR zi ?_)))); refine And.intro ?_ trivial)
  rw [← firstP_any _ l 0]
  rfl
theorem house_hasSquare (l : List Rect) (hN : l.length ≤ 140737488355328) (x y : Int) : ACalls C 50 [.pv (rects l), .pv (.ag [i64 x, i64 y])] (.p (bool (l.any (inR x y)))) [] := by
  refine fun_go hC Tryz.func50 rfl rfl 8 rfl (by decide) (by kernel_rfl) fun _ _ _ _ _ => ?_
  (refine yS (yn rfl (zq1 zI (zkns (zst_bx (yA rfl (yU (yP rfl (yV rfl (yn rfl (zqX zI ?_)))))))))); refine ⟨_, _, (contains_rect l hN x y), ?_⟩)
  (refine zkn rfl rfl (zst_p (yA rfl (yR zi ?_))); refine And.intro ?_ trivial)
  rfl
def emptyS : ByteArray := ⟨#[]⟩
def netB (s : ByteArray) : Bool := decide (s = emptyS) || pathB s
theorem house_isNet (s : ByteArray) (hs : s.size < 4294967281) : ACalls C 37 [.pv (str s)] (.p (bool (netB s))) [] := by
  refine fun_go hC Tryz.func37 rfl rfl 9 rfl (by decide) (by kernel_rfl) fun _ _ _ _ _ => ?_
  (refine yS (yA rfl (yU (yP rfl (yP rfl (yP rfl (yg rfl ?_)))))); refine bcase_split (fun h1 => ?_) (fun h1 => ?_) <;> try simp only [zB] at h1)
  · have h1 : s = emptyS := h1
    (refine zg_f (zst_p (y0 rfl (yP rfl (yA rfl (yR zi ?_))))); refine And.intro ?_ trivial)
    rw [netB, decide_eq_true h1]
    rfl
  · have h1 : ¬ s = emptyS := h1
    (refine zg_t (zs_q rfl rfl (zq1 zI (yk (y2 rfl (zs_n rfl rfl rfl (zqX zI ?_)))))); refine ⟨_, _, (house_isPath s hs), ?_⟩)
    (refine zkn rfl rfl (zst_p (yP rfl (yA rfl (yR zi ?_)))); refine And.intro ?_ trivial)
    rw [netB, decide_eq_false h1]
    rfl
def onB (a : Area) (layer : Int) : Bool := decide (a.layer < 0) || decide (a.layer = layer)
theorem house_isOn (a : Area) (layer : Int) : ACalls C 68 [.pv (.ag (arr a)), .pv (i64 layer)] (.p (bool (onB a layer))) [] := by
  refine fun_go hC Tryz.func68 rfl rfl 14 rfl (by decide) (by kernel_rfl) fun _ _ _ _ _ => ?_
  (refine yS (yn rfl (zq1 zI (zkns (zst_bx (yA rfl (yU (yV rfl (yP rfl (yP rfl (yP rfl (yg rfl ?_))))))))))); refine bcase_split (fun h1 => ?_) (fun h1 => ?_) <;> try simp only [zB] at h1)
  · (refine zg_f (zst_p (y0 rfl (y0 rfl (y0 rfl (yP rfl (yA rfl (yR zi ?_))))))); refine And.intro ?_ trivial)
    simp [bool, onB, h1]
  · (refine zg_t (zs_q rfl rfl (zq1 zI (zkq (zst_bx (y1 rfl (y1 rfl (y1 rfl (yP rfl (yA rfl (yR zi ?_)))))))))); refine And.intro ?_ trivial)
    simp [bool, onB, h1]
end Go.Proofs.YtcfhiodoogkcpaaGreatDoor.M
