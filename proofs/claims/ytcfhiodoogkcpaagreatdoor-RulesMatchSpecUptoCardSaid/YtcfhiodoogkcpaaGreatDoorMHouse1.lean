/- By the machine: the house's rules, words; the library's plain loops. -/
import Derived.Test.YtcfhiodoogkcpaaGreatDoorMWord
set_option linter.unusedSimpArgs false
set_option linter.unusedVariables false
namespace Go.Proofs.YtcfhiodoogkcpaaGreatDoor.M
open Go.AM Go.RowKit
open Reg (Rect Spans Band)

theorem rules_within (n lo hi : Int) : ACalls C 31 [.pv (i64 n), .pv (i64 lo), .pv (i64 hi)] (.p (bool (decide (lo ≤ n) && decide (n ≤ hi)))) [] := by
  refine fun_go hC Tryz.func31 rfl rfl 15 rfl (by decide) (by kernel_rfl) fun _ _ _ _ _ => ?_
  (refine yS (yA rfl (yU (yP rfl (yP rfl (yP rfl (yP rfl (yg rfl ?_))))))); refine bcase_split (fun h => ?_) (fun h => ?_) <;> try simp only [zB] at h) <;> ((first | (refine zg_t (zs_q rfl rfl (zq1 zI (yk (y1 rfl (y1 rfl (yP rfl (yA rfl (yR zi ?_))))))))) | (refine zg_f (zst_p (y0 rfl (y0 rfl (yP rfl (yA rfl (yR zi ?_)))))))); refine And.intro ?_ trivial) <;> simp [bool, h]
theorem rules_isRule (n : Int) : ACalls C 29 [.pv (i64 n)] (.p (bool (isRule n))) [] := by
  refine fun_go hC Tryz.func29 rfl rfl 5 rfl (by decide) (by kernel_rfl) fun _ _ _ _ _ => ?_
  (refine yS (yA rfl (yU (yP rfl (yn rfl (zqX zI ?_))))); refine ⟨_, _, (rules_within n 0 100000), ?_⟩)
  (refine zkn rfl rfl (zst_p (yA rfl (yR zi ?_))); refine And.intro ?_ trivial)
  rfl
theorem rules_check1 (n : Int) : ACalls C 28 [.pv (i64 n)] (.p (bool (!isRule n))) [] := by
  refine fun_go hC Tryz.func28 rfl rfl 6 rfl (by decide) (by kernel_rfl) fun _ _ _ _ _ => ?_
  (refine yS (yA rfl (yU (yP rfl (yn rfl (zqX zI ?_))))); refine ⟨_, _, (rules_isRule n), ?_⟩)
  (refine zkn rfl rfl (zst_p (yP rfl (yA rfl (yR zi ?_)))); refine And.intro ?_ trivial)
  rfl
theorem shape_within (n lo hi : Int) : ACalls C 104 [.pv (i64 n), .pv (i64 lo), .pv (i64 hi)] (.p (bool (decide (lo ≤ n) && decide (n ≤ hi)))) [] := by
  refine fun_go hC Tryz.func104 rfl rfl 15 rfl (by decide) (by kernel_rfl) fun _ _ _ _ _ => ?_
  (refine yS (yA rfl (yU (yP rfl (yP rfl (yP rfl (yP rfl (yg rfl ?_))))))); refine bcase_split (fun h => ?_) (fun h => ?_) <;> try simp only [zB] at h) <;> ((first | (refine zg_t (zs_q rfl rfl (zq1 zI (yk (y1 rfl (y1 rfl (yP rfl (yA rfl (yR zi ?_))))))))) | (refine zg_f (zst_p (y0 rfl (y0 rfl (yP rfl (yA rfl (yR zi ?_)))))))); refine And.intro ?_ trivial) <;> simp [bool, h]
theorem shape_isAt (n : Int) : ACalls C 67 [.pv (i64 n)] (.p (bool (Reg.isAt n))) [] := by
  refine fun_go hC Tryz.func67 rfl rfl 5 rfl (by decide) (by kernel_rfl) fun _ _ _ _ _ => ?_
  (refine yS (yA rfl (yU (yP rfl (yn rfl (zqX zI ?_))))); refine ⟨_, _, (shape_within n (-1000000) 1000000), ?_⟩)
  (refine zkn rfl rfl (zst_p (yA rfl (yR zi ?_))); refine And.intro ?_ trivial)
  rfl
theorem shape_isPoint (x y : Int) : ACalls C 38 [.pv (.ag [i64 x, i64 y])] (.p (bool (Reg.isAt x && Reg.isAt y))) [] := by
  refine fun_go hC Tryz.func38 rfl rfl 11 rfl (by decide) (by kernel_rfl) fun _ _ _ _ _ => ?_
  (refine yS (yn rfl (zq1 zI (zkns (zst_bx (yA rfl (yU (yV rfl (yP rfl (yn rfl (zqX zI ?_)))))))))); refine ⟨_, _, (shape_isAt x), ?_⟩)
  (refine zkn rfl rfl (zst_p (yP rfl (yg rfl ?_))); refine bcase_split (fun h => ?_) (fun h => ?_) <;> try simp only [zB] at h)
  · (refine zg_t (zs_q rfl rfl (zq1 zI (zkq (zst_bx (y1 rfl (y2 rfl (zs_n rfl rfl rfl (zqX zI ?_)))))))); refine ⟨_, _, (shape_isAt y), ?_⟩)
    (refine zkn rfl rfl (zst_p (yP rfl (yA rfl (yR zi ?_)))); refine And.intro ?_ trivial)
    simp [bool, h]
  · (refine zg_f (zst_p (y0 rfl (y0 rfl (yP rfl (yA rfl (yR zi ?_)))))); refine And.intro ?_ trivial)
    simp [bool, h]
theorem shape_isRect (r : Rect) : ACalls C 98 [.pv (.ag (rc r))] (.p (bool (Reg.isRect r))) [] := by
  refine fun_go hC Tryz.func98 rfl rfl 21 rfl (by decide) (by kernel_rfl) fun _ _ _ _ _ => ?_
  (refine yS (yn rfl (zq1 zI (zkns (zst_bx (yA rfl (yU (yV rfl (yP rfl (yn rfl (zqX zI ?_)))))))))); refine ⟨_, _, (shape_isAt r.x0), ?_⟩)
  (refine zkn rfl rfl (zst_p (yP rfl (yg rfl ?_))); refine bcase_split (fun h1 => ?_) (fun h1 => ?_) <;> try simp only [zB] at h1)
  · (refine zg_t (zs_q rfl rfl (zq1 zI (zkq (zst_bx (y1 rfl (y2 rfl (zs_n rfl rfl rfl (zqX zI ?_)))))))); refine ⟨_, _, (shape_isAt r.y0), ?_⟩)
    (refine zkn rfl rfl (zst_p (yP rfl (yP rfl (yg rfl ?_)))); refine bcase_split (fun h2 => ?_) (fun h2 => ?_) <;> try simp only [zB] at h2)
    · (refine zg_t (zs_q rfl rfl (zq1 zI (zkq (zst_bx (y1 rfl (y2 rfl (zs_n rfl rfl rfl (zqX zI ?_)))))))); refine ⟨_, _, (shape_isAt r.x1), ?_⟩)
      (refine zkn rfl rfl (zst_p (yP rfl (yP rfl (yg rfl ?_)))); refine bcase_split (fun h3 => ?_) (fun h3 => ?_) <;> try simp only [zB] at h3)
      · (refine zg_t (zs_q rfl rfl (zq1 zI (zkq (zst_bx (y1 rfl (y2 rfl (zs_n rfl rfl rfl (zqX zI ?_)))))))); refine ⟨_, _, (shape_isAt r.y1), ?_⟩)
        (refine zkn rfl rfl (zst_p (yP rfl (yA rfl (yR zi ?_)))); refine And.intro ?_ trivial)
        simp [bool, Reg.isRect, h1, h2, h3]
      · (refine zg_f (zst_p (y0 rfl (y0 rfl (yP rfl (yA rfl (yR zi ?_)))))); refine And.intro ?_ trivial)
        simp [bool, Reg.isRect, h1, h2, h3]
    · refine zg_f (zst_p (y0 rfl (y0 rfl (yP rfl (yP rfl (y0 rfl (y0 rfl (y0 rfl (yP rfl (yA rfl (yR zi ?_)))))))))))
      (skip; refine And.intro ?_ trivial)
      simp [bool, Reg.isRect, h1, h2]
  · (refine zg_f (zst_p (y0 rfl (y0 rfl (yP rfl (yP rfl (y0 rfl (y0 rfl (y0 rfl (yP rfl (yP rfl (y0 rfl (y0 rfl (y0 rfl ?_))))))))))))); refine yP rfl (yA rfl (yR zi ?_)))
    (skip; refine And.intro ?_ trivial)
    simp [bool, Reg.isRect, h1]
/-- where a list's first element lies that is so -/
def firstP {α : Type} (p : α → Bool) : List α → Nat → Int
  | [], _ => -1
  | x :: r, k => match p x with
    | true => k
    | false => firstP p r (k + 1)
theorem firstP_none {α : Type} {p : α → Bool} : ∀ {l : List α} {k : Nat}, (∀ x ∈ l, p x = false) → firstP p l k = -1 := by
  intro l
  induction l with
  | nil => intro k _; rfl
  | cons x l ih => intro k h; rw [firstP, h x (by simp)]; exact ih fun y hy => h y (by simp [hy])
theorem firstP_at {α : Type} {p : α → Bool} : ∀ {l : List α} {i k : Nat} {x : α}, l[i]? = some x → p x = true → (∀ y ∈ l.take i, p y = false) → firstP p l k = ((k + i : Nat) : Int) := by
  intro l
  induction l with
  | nil => intro i k x h; simp at h
  | cons y l ih =>
    intro i k x h hp hn
    cases i with
    | zero => simp at h; subst h; rw [firstP, hp]; rfl
    | succ i =>
      rw [firstP, hn y (by simp)]
      have := ih (i := i) (k := k + 1) (by simpa using h) hp fun z hz => hn z (by simp [hz])
      simp only [this]
      omega
theorem firstP_any {α : Type} (p : α → Bool) : ∀ (l : List α) (k : Nat), decide (0 ≤ firstP p l k) = l.any p := by
  intro l
  induction l with
  | nil => intro k; rfl
  | cons x l ih =>
    intro k
    rw [firstP, List.any_cons]
    cases p x with
    | true => simp
    | false => simpa using ih (k + 1)
theorem take_no {α : Type} {p : α → Bool} {l : List α} {i : Nat} {x : α} (hx : l[i]? = some x) (hp : p x = false) (h : ∀ y ∈ l.take i, p y = false) : ∀ y ∈ l.take (i + 1), p y = false := by
  intro y hy
  rw [take_succ' hx, List.mem_append, List.mem_singleton] at hy
  rcases hy with hy | rfl
  · exact h y hy
  · exact hp
theorem index_int (l : List Int) (hN : l.length ≤ 140737488355328) : ACalls C 54 [.pv (ints l), .pv (.im (.func (.func 28) #[] #[]))] (.p (i64 (firstP (fun n => !isRule n) l 0))) [] := by
  refine fun_go hC Tryz.func54 rfl rfl 19 rfl (by decide) (by kernel_rfl) fun _ _ _ _ _ => ?_
  have lm := len_map l fun n => [i64 n]
  refine yS (yA rfl (yT (zw_s (yS (yP rfl (yP rfl (yP rfl (yT (zw_b ?_)))))))))
  refine loop_ok' (fun i : Nat => i ≤ l.length ∧ ∀ x ∈ l.take i, (!isRule x) = false) (fun i => [(0, .p (ints l)), (1, .p (.im (.func (.func 28) #[] #[]))), (7, .p (i64 (l.map fun n => [i64 n]).length)), (8, .p (i64 i))]) (fun _ => []) (fun i => l.length - i) 0 _ (SLe.refl _ _) ⟨Nat.zero_le _, by simp⟩ ⟨rfl, rfl, rfl, rfl, trivial⟩ trivial fun i hi t h => ?_
  (refine yS (yP rfl (yT (zw_s (zw_c rfl ?_)))); refine bcase_split (fun h1 => ?_) (fun h1 => ?_) <;> try simp only [zB] at h1)
  · rw [lm] at h1
    obtain ⟨x, hx⟩ := get_of (l := l) (i := i) (by omega)
    (refine zw_k (zt_n (zw_s (zw_b (yS (yP rfl (yA rfl (yU (yP rfl (yP rfl (yP rfl (yq rfl (zqX zI ?_)))))))))))); refine ⟨[i64 x], (idx rfl hx), ?_⟩)
    (refine yk (yP rfl (yn rfl (zqX zI ?_))); refine ⟨_, _, (rules_check1 x), ?_⟩)
    (refine zkn rfl rfl (zst_p (yT (zw_c rfl ?_))); refine bcase_split (fun h2 => ?_) (fun h2 => ?_) <;> try simp only [zB] at h2)
    · (refine yS (yP rfl (yA rfl (yT (zw_r (zb_r (zt_r (zt_r (zb_r (zt_r (ze_r zi ?_)))))))))); refine And.intro ?_ trivial)
      rw [firstP_at hx (by simp [h2]) hi.2, Nat.zero_add]
    · (refine zw_k (zb_n (zt_n (zw_o (yq rfl (zqA zI ?_))))); refine And.intro ⟨by omega, by omega⟩ ?_)
      (refine yk (yP rfl (yT (zaf_raw ?_))); refine ⟨(i + 1), _, SLe.refl _ _, ?_⟩)
      exact ⟨⟨by omega, take_no hx (by simp [h2]) hi.2⟩, by omega, ⟨rfl, rfl, rfl, rfl, trivial⟩, trivial⟩
  · rw [lm] at h1
    (refine zw_x (zt_x (zt_x (zb_h (zt_n (yS (yA rfl (yR zi ?_))))))); refine And.intro ?_ trivial)
    have h2 := hi.2
    rw [List.take_of_length_le (by omega)] at h2
    rw [firstP_none h2]
    rfl
theorem contains_int (l : List Int) (hN : l.length ≤ 140737488355328) : ACalls C 27 [.pv (ints l), .pv (.im (.func (.func 28) #[] #[]))] (.p (bool (l.any fun n => !isRule n))) [] := by
  refine fun_go hC Tryz.func27 rfl rfl 9 rfl (by decide) (by kernel_rfl) fun _ _ _ _ _ => ?_
  (refine yS (yA rfl (yU (yP rfl (yP rfl (yn rfl (zqX zI ?_)))))); refine ⟨_, _, (index_int l hN), ?_⟩)
  (refine zkn rfl rfl (zst_p (yP rfl (yA rfl (yR zi ?_)))); refine And.intro ?_ trivial)
  rw [← firstP_any _ l 0]
  rfl
end Go.Proofs.YtcfhiodoogkcpaaGreatDoor.M
