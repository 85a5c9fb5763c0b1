/- By the machine: how doings are compared. -/
import Derived.Test.YtngikpapepnkaaaGreatDoorMShop1
import Derived.Test.YtngikpapepnkaaaGreatDoorPlainStable2
set_option linter.unusedSimpArgs false
set_option linter.unusedVariables false
namespace Go.Proofs.YtngikpapepnkaaaGreatDoor.M
open Go.AM Go.RowKit

def cmpI (a b : Int) : Int := if a < b then -1 else if b < a then 1 else 0
theorem isNaN_int (n : Int) : ACalls C 43 [.pv (i64 n)] (.p (bool false)) [] := by
  refine fun_go hC Tryz.func43 rfl rfl 6 rfl (by decide) (by kernel_rfl) fun _ _ _ _ _ => ?_
  (refine yS (yA rfl (yU (yP rfl (yP rfl (yP rfl (yA rfl (yR zi ?_))))))); refine And.intro ?_ trivial)
  simp [bool]
theorem cmp_int (a b : Int) : ACalls C 31 [.pv (i64 a), .pv (i64 b)] (.p (i64 (cmpI a b))) [] := by
  refine fun_go hC Tryz.func31 rfl rfl 20 rfl (by decide) (by kernel_rfl) fun _ _ _ _ _ => ?_
  (refine yS (yA rfl (yU (yP rfl (yn rfl (zqX zI ?_))))); refine ⟨_, _, (isNaN_int a), ?_⟩)
  (refine zkn rfl rfl (zst_p (yA rfl (yU (yP rfl (yn rfl (zqX zI ?_)))))); refine ⟨_, _, (isNaN_int b), ?_⟩)
  ((refine zkn rfl rfl (zst_p (yA rfl (yT (zw_s (yS (yP rfl (yT (zw_c rfl (zc_f (zw_k (zt_n (zw_s (yS ?_))))))))))))); refine yP rfl (yT (zw_c rfl (zc_f (zw_k (zt_n (zw_s (yS (yP rfl (yP rfl (yP rfl (yT (zw_c rfl ?_))))))))))))); refine bcase_split (fun h => ?_) (fun h => ?_) <;> try simp only [zB] at h)
  · (refine yS (yA rfl (yT (zw_r (zt_r (ze_r zi ?_))))); refine And.intro ?_ trivial)
    rw [cmpI, if_pos h]; rfl
  · (refine zw_k (zt_n (zw_s (yS (yP rfl (yP rfl (yP rfl (yT (zw_c rfl ?_)))))))); refine bcase_split (fun h2 => ?_) (fun h2 => ?_) <;> try simp only [zB] at h2)
    · (refine yS (yA rfl (yT (zw_r (zt_r (ze_r zi ?_))))); refine And.intro ?_ trivial)
      rw [cmpI, if_neg h, if_pos h2]; rfl
    · (refine zw_k (zt_n (yS (yA rfl (yR zi ?_)))); refine And.intro ?_ trivial)
      rw [cmpI, if_neg h, if_neg h2]; rfl
def orI : List Int → Int
  | [] => 0
  | a :: l => if a = 0 then orI l else a
theorem orI_none {l : List Int} {i : Nat} (h : orI (l.take i) = 0) (hn : ∀ x ∈ l.take i, x = 0) {a : Int} (ha : l[i]? = some a) (h0 : a ≠ 0) : orI l = a := by
  have e : l = l.take i ++ a :: l.drop (i + 1) := by
    have hi : i < l.length := Reg.lt_of_getS ha
    rw [List.getElem?_eq_getElem hi] at ha
    injection ha with ha
    rw [← ha, ← List.drop_eq_getElem_cons hi, List.take_append_drop]
  rw [e]
  clear h ha e
  generalize l.take i = m at *
  induction m with
  | nil => rw [List.nil_append, orI, if_neg h0]
  | cons x m ih =>
    rw [List.cons_append, orI, if_pos (hn x List.mem_cons_self)]
    exact ih fun y hy => hn y (List.mem_cons_of_mem _ hy)
theorem orI_zero : ∀ {l : List Int}, (∀ x ∈ l, x = 0) → orI l = 0
  | [], _ => rfl
  | a :: l, h => by rw [orI, if_pos (h a List.mem_cons_self)]; exact orI_zero fun x hx => h x (List.mem_cons_of_mem _ hx)
theorem or_int (l : List Int) (hN : l.length ≤ 1000) : ACalls C 30 [.pv (ints l)] (.p (i64 (orI l))) [] := by
  refine fun_go hC Tryz.func30 rfl rfl 18 rfl (by decide) (by kernel_rfl) fun _ _ _ _ _ => ?_
  have lm := len_map l fun n => [i64 n]
  refine yS (yA rfl (yU (yA rfl (yT (zw_s (yS (yP rfl (yP rfl (yP rfl (yT (zw_b ?_)))))))))))
  refine loop_ok' (fun i : Nat => i ≤ l.length ∧ ∀ x ∈ l.take i, x = 0) (fun i => [(3, .p (i64 0)), (6, .p (ints l)), (7, .p (i64 l.length)), (8, .p (i64 i))]) (fun _ => []) (fun i => l.length - i) 0 _ (SLe.refl _ _) ⟨Nat.zero_le _, by simp⟩ ⟨rfl, rfl, congrArg (fun n : Nat => AV.p (i64 n)) lm, rfl, trivial⟩ trivial fun i hi t h => ?_
  (refine yS (yP rfl (yT (zw_s (zw_c rfl ?_)))); refine bcase_split (fun h1 => ?_) (fun h1 => ?_) <;> try simp only [zB] at h1)
  · obtain ⟨a, ha⟩ := get_of (l := l) (i := i) (by omega)
    (refine zw_k (zt_n (zw_s (zw_b (yS (yq rfl (zqX zI ?_)))))); refine ⟨[i64 a], (idx rfl ha), ?_⟩)
    (refine yk (yP rfl (yA rfl (yU (yP rfl (yP rfl (yP rfl (yT (zw_c rfl ?_)))))))); refine bcase_split (fun h2 => ?_) (fun h2 => ?_) <;> try simp only [zB] at h2)
    · (refine yS (yP rfl (yA rfl (yT (zw_r (zb_r (zt_r (zt_r (zb_r (zt_r (ze_r zi ?_)))))))))); refine And.intro ?_ trivial)
      rw [orI_none (orI_zero hi.2) hi.2 ha h2]
    · (refine zw_k (zb_n (zt_n (zw_o (yq rfl (zqA zI ?_))))); refine And.intro ⟨by omega, by omega⟩ ?_)
      (refine yk (yP rfl (yT (zaf_raw ?_))); refine ⟨(i + 1), _, SLe.refl _ _, ?_⟩)
      refine ⟨⟨by omega, fun x hx => ?_⟩, by omega, ⟨rfl, rfl, rfl, rfl, trivial⟩, trivial⟩
      rw [take_succ' ha, List.mem_append, List.mem_singleton] at hx
      rcases hx with hx | hx
      · exact hi.2 x hx
      · rw [hx]; exact h2
  · (refine zw_x (zt_x (zt_x (zb_h (zt_n (yS (yP rfl (yA rfl (yR zi ?_)))))))); refine And.intro ?_ trivial)
    rw [orI_zero fun x hx => hi.2 x (by rw [List.take_of_length_le (by omega)]; exact hx)]
/-- what was done -/
structure Doing where
  lot : ByteArray
  panel : Int
  step : Int
  machine : Int
  from_ : Int
  till : Int
  good : Bool
def dc (d : Doing) : List PV := [str d.lot, i64 d.panel, i64 d.step, i64 d.machine, i64 d.from_, i64 d.till, bool d.good]
def leD (a b : Doing) : Bool := decide (a.from_ < b.from_ ∨ a.from_ = b.from_ ∧ (a.step < b.step ∨ a.step = b.step ∧ a.machine ≤ b.machine))
theorem preD : Reg.Pre leD := ⟨fun a b => by simp only [leD, decide_eq_true_eq]; omega, fun a b c h1 h2 => by simp only [leD, decide_eq_true_eq] at *; omega⟩
def cmpD (a b : Doing) : Int := orI [cmpI a.from_ b.from_, cmpI a.step b.step, cmpI a.machine b.machine]
theorem cmpD_lt (a b : Doing) : cmpD a b < 0 ↔ leD b a = false := by
  simp only [cmpD, orI, cmpI, leD, decide_eq_false_iff_not]
  repeat' split
  all_goals omega
theorem cmpD_dec (a b : Doing) : decide (cmpD a b < 0) = !leD b a := by
  rw [Bool.eq_iff_iff, decide_eq_true_eq, cmpD_lt]; simp
theorem house_compare (a b : Doing) : ACalls C 19 [.pv (.ag (dc a)), .pv (.ag (dc b))] (.p (i64 (cmpD a b))) [] := by
  refine fun_go hC Tryz.func19 rfl rfl 22 rfl (by decide) (by kernel_rfl) fun _ _ _ _ _ => ?_
  ((refine yS (yn rfl (zq1 zI (zkns (zst_bx (yn rfl (zq1 zI (zkns (zst_bx (yA rfl (yT (zw_s (zw_d [] false [true, true, true, true, true, true, true, true, true, true, true, true, true, true, true, true, true, true] rfl (by kernel_rfl) (zp_s rfl ?_))))))))))))); refine zp_s rfl (zp_s rfl (zp_s rfl (zp_n rfl rfl (zp_s rfl (zp_s rfl (zp_s rfl (zp_s rfl (zp_n rfl rfl (zp_s rfl (zp_s rfl (zp_s rfl (zp_s rfl (zp_n rfl rfl ?_))))))))))))); refine zp_n rfl rfl (zp_n rfl rfl (zp_q rfl (yW rfl (yD rfl (yW rfl (yD rfl (dq rfl (zqX zI ?_))))))))); refine ⟨_, _, (cmp_int a.from_ b.from_), ?_⟩)
  (refine zkd (zst_p (yW rfl (yD rfl (yW rfl (yD rfl (dq rfl (zqX zI ?_))))))); refine ⟨_, _, (cmp_int a.step b.step), ?_⟩)
  (refine zkd (zst_p (yW rfl (yD rfl (yW rfl (yD rfl (dq rfl (zqX zI ?_))))))); refine ⟨_, _, (cmp_int a.machine b.machine), ?_⟩)
  (refine zkd (zst_p (dq rfl (zq1 zI (zkdn rfl rfl (zst_ow (dq rfl (zqX zI ?_))))))); refine ⟨_, _, (or_int [cmpI a.from_ b.from_, cmpI a.step b.step, cmpI a.machine b.machine] (by simp)), ?_⟩)
  ((refine zkd (zst_p (yD rfl (zd_0 (zr_s rfl (zr_s rfl (zr_s rfl (zr_s rfl (zr_s rfl (zr_s rfl (zr_s rfl (zr_s rfl (zr_s rfl (zr_s rfl ?_))))))))))))); refine zr_s rfl (zr_s rfl (zr_s rfl (zr_s rfl (zr_s rfl (zr_s rfl (zr_s rfl (zr_k rfl rfl (zr_q rfl (zt_n (zw_r (ze_r zi ?_)))))))))))); refine And.intro ?_ trivial)
  rfl
theorem ref12_later (a b : Doing) : ACalls C 32 [.pv (.ag (dc a)), .pv (.ag (dc b))] (.p (bool (!leD a b))) [] := by
  refine fun_go hC Tryz.func32 rfl rfl 30 rfl (by decide) (by kernel_rfl) fun _ _ _ _ _ => ?_
  ((refine yS (yn rfl (zq1 zI (zkns (zst_bx (yn rfl (zq1 zI (zkns (zst_bx (yA rfl (yT (zw_s (yS (yV rfl ?_))))))))))))); refine yP rfl (yV rfl (yP rfl (yP rfl (yT (zw_c rfl ?_)))))); refine bcase_split (fun h1 => ?_) (fun h1 => ?_) <;> try simp only [zB] at h1)
  · (refine yS (yV rfl (yP rfl (yV rfl (yP rfl (yP rfl (yA rfl (yT (zw_r (zt_r (ze_r zi ?_)))))))))); refine And.intro ?_ trivial)
    refine congrArg (fun z => PV.im (Value.bool z)) ?_
    rw [Bool.eq_iff_iff]
    simp only [leD, decide_eq_true_eq, Bool.not_eq_true', decide_eq_false_iff_not]
    omega
  · (refine zw_k (zt_n (zw_s (yS (yV rfl (yP rfl (yV rfl (yP rfl (yP rfl (yT (zw_c rfl ?_)))))))))); refine bcase_split (fun h2 => ?_) (fun h2 => ?_) <;> try simp only [zB] at h2)
    · (refine yS (yV rfl (yP rfl (yV rfl (yP rfl (yP rfl (yA rfl (yT (zw_r (zt_r (ze_r zi ?_)))))))))); refine And.intro ?_ trivial)
      refine congrArg (fun z => PV.im (Value.bool z)) ?_
      rw [Bool.eq_iff_iff]
      simp only [leD, decide_eq_true_eq, Bool.not_eq_true', decide_eq_false_iff_not]
      omega
    · (refine zw_k (zt_n (yS (yV rfl (yP rfl (yV rfl (yP rfl (yP rfl (yA rfl (yR zi ?_))))))))); refine And.intro ?_ trivial)
      refine congrArg (fun z => PV.im (Value.bool z)) ?_
      rw [Bool.eq_iff_iff]
      simp only [leD, decide_eq_true_eq, Bool.not_eq_true', decide_eq_false_iff_not]
      omega
end Go.Proofs.YtngikpapepnkaaaGreatDoor.M
