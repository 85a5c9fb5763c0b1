/- By the machine: the house's rules, words; the library's plain loops. -/
import Derived.Test.YthjfllfhagdnpaaGreatDoorMWord
set_option linter.unusedSimpArgs false
set_option linter.unusedVariables false
namespace Go.Proofs.YthjfllfhagdnpaaGreatDoor.M
open Go.AM Go.RowKit
open Reg (Rect Spans Band)

theorem rules_within (n lo hi : Int) : ACalls C 123 [.pv (i64 n), .pv (i64 lo), .pv (i64 hi)] (.p (bool (decide (lo ≤ n) && decide (n ≤ hi)))) [] := by
  refine fun_go hC Tryz.func123 rfl rfl 15 rfl (by decide) (by kernel_rfl) fun _ _ _ _ _ => ?_
  (refine yS (yA rfl (yU (yP rfl (yP rfl (yP rfl (yP rfl (yg rfl ?_))))))); refine bcase_split (fun h => ?_) (fun h => ?_) <;> try simp only [zB] at h) <;> ((first | (refine zg_t (zs_q rfl rfl (zq1 zI (yk (y1 rfl (y1 rfl (yP rfl (yA rfl (yR zi ?_))))))))) | (refine zg_f (zst_p (y0 rfl (y0 rfl (yP rfl (yA rfl (yR zi ?_)))))))); refine And.intro ?_ trivial) <;> simp [bool, h]
theorem rules_isRule (n : Int) : ACalls C 54 [.pv (i64 n)] (.p (bool (isRule n))) [] := by
  refine fun_go hC Tryz.func54 rfl rfl 5 rfl (by decide) (by kernel_rfl) fun _ _ _ _ _ => ?_
  (refine yS (yA rfl (yU (yP rfl (yn rfl (zqX zI ?_))))); refine ⟨_, _, (rules_within n 0 100000), ?_⟩)
  (refine zkn rfl rfl (zst_p (yA rfl (yR zi ?_))); refine And.intro ?_ trivial)
  rfl
theorem rules_check1 (n : Int) : ACalls C 197 [.pv (i64 n)] (.p (bool (!isRule n))) [] := by
  refine fun_go hC Tryz.func197 rfl rfl 6 rfl (by decide) (by kernel_rfl) fun _ _ _ _ _ => ?_
  (refine yS (yA rfl (yU (yP rfl (yn rfl (zqX zI ?_))))); refine ⟨_, _, (rules_isRule n), ?_⟩)
  (refine zkn rfl rfl (zst_p (yP rfl (yA rfl (yR zi ?_)))); refine And.intro ?_ trivial)
  rfl
theorem shape_within (n lo hi : Int) : ACalls C 121 [.pv (i64 n), .pv (i64 lo), .pv (i64 hi)] (.p (bool (decide (lo ≤ n) && decide (n ≤ hi)))) [] := by
  refine fun_go hC Tryz.func121 rfl rfl 15 rfl (by decide) (by kernel_rfl) fun _ _ _ _ _ => ?_
  (refine yS (yA rfl (yU (yP rfl (yP rfl (yP rfl (yP rfl (yg rfl ?_))))))); refine bcase_split (fun h => ?_) (fun h => ?_) <;> try simp only [zB] at h) <;> ((first | (refine zg_t (zs_q rfl rfl (zq1 zI (yk (y1 rfl (y1 rfl (yP rfl (yA rfl (yR zi ?_))))))))) | (refine zg_f (zst_p (y0 rfl (y0 rfl (yP rfl (yA rfl (yR zi ?_)))))))); refine And.intro ?_ trivial) <;> simp [bool, h]
theorem shape_isAt (n : Int) : ACalls C 193 [.pv (i64 n)] (.p (bool (Reg.isAt n))) [] := by
  refine fun_go hC Tryz.func193 rfl rfl 5 rfl (by decide) (by kernel_rfl) fun _ _ _ _ _ => ?_
  (refine yS (yA rfl (yU (yP rfl (yn rfl (zqX zI ?_))))); refine ⟨_, _, (shape_within n (-1000000) 1000000), ?_⟩)
  (refine zkn rfl rfl (zst_p (yA rfl (yR zi ?_))); refine And.intro ?_ trivial)
  rfl
theorem shape_isPoint (x y : Int) : ACalls C 101 [.pv (.ag [i64 x, i64 y])] (.p (bool (Reg.isAt x && Reg.isAt y))) [] := by
  refine fun_go hC Tryz.func101 rfl rfl 11 rfl (by decide) (by kernel_rfl) fun _ _ _ _ _ => ?_
  (refine yS (yn rfl (zq1 zI (zkns (zst_bx (yA rfl (yU (yV rfl (yP rfl (yn rfl (zqX zI ?_)))))))))); refine ⟨_, _, (shape_isAt x), ?_⟩)
  (refine zkn rfl rfl (zst_p (yP rfl (yg rfl ?_))); refine bcase_split (fun h => ?_) (fun h => ?_) <;> try simp only [zB] at h)
  · (refine zg_t (zs_q rfl rfl (zq1 zI (zkq (zst_bx (y1 rfl (y2 rfl (zs_n rfl rfl rfl (zqX zI ?_)))))))); refine ⟨_, _, (shape_isAt y), ?_⟩)
    (refine zkn rfl rfl (zst_p (yP rfl (yA rfl (yR zi ?_)))); refine And.intro ?_ trivial)
    simp [bool, h]
  · (refine zg_f (zst_p (y0 rfl (y0 rfl (yP rfl (yA rfl (yR zi ?_)))))); refine And.intro ?_ trivial)
    simp [bool, h]
theorem shape_isRect (r : Rect) : ACalls C 194 [.pv (.ag (rc r))] (.p (bool (Reg.isRect r))) [] := by
  refine fun_go hC Tryz.func194 rfl rfl 21 rfl (by decide) (by kernel_rfl) fun _ _ _ _ _ => ?_
  (refine yS (yn rfl (zq1 zI (zkns (zst_bx (yA rfl (yU (yV rfl (yP rfl (yn rfl (zqX zI ?_)))))))))); refine ⟨_, _, (shape_isAt r.x0), ?_⟩)
  (refine zkn rfl rfl (zst_p (yP rfl (yg rfl ?_))); refine bcase_split (fun h1 => ?_) (fun h1 => ?_) <;> try simp only [zB] at h1)
  · (refine zg_t (zs_q rfl rfl (zq1 zI (zkq (zst_bx (y1 rfl (y2 rfl (zs_n rfl rfl rfl (zqX zI ?_)))))))); refine ⟨_, _, (shape_isAt r.y0), ?_⟩)
    (refine zkn rfl rfl (zst_p (yP rfl (yP rfl (yg rfl ?_)))); refine bcase_split (fun h2 => ?_) (fun h2 => ?_) <;> try simp only [zB] at h2)
    · (refine zg_t (zs_q rfl rfl (zq1 zI (zkq (zst_bx (y1 rfl (y2 rfl (zs_n rfl rfl rfl (zqX zI ?_)))))))); refine ⟨_, _, (shape_isAt r.x1), ?_⟩)
      (refine zkn rfl rfl (zst_p (yP rfl (yP rfl (yg rfl ?_)))); refine bcase_split (fun h3 => ?_) (fun h3 => ?_) <;> try simp only [zB] at h3)
      · (refine zg_t (zs_q rfl rfl (zq1 zI (zkq (zst_bx (y1 rfl (y2 rfl (zs_n rfl rfl rfl (zqX zI ?_)))))))); refine ⟨_, _, (shape_isAt r.y1), ?_⟩)
        (refine zkn rfl rfl (zst_p (yP rfl (yA rfl (yR zi ?_)))); refine And.intro ?_ trivial)
        simp [bool, Reg.isRect, h1, h2, h3]
      · (refine zg_f (zst_p (y0 rfl (y0 rfl (yP rfl (yA rfl (yR zi ?_)))))); refine And.intro ?_ trivial)
        simp [bool, Reg.isRect, h1, h2, h3]
    · refine zg_f (zst_p (y0 rfl (y0 rfl (yP rfl (yP rfl (y0 rfl (y0 rfl (y0 rfl (yP rfl (yA rfl (yR zi ?_)))))))))))
      (skip; refine And.intro ?_ trivial)
      simp [bool, Reg.isRect, h1, h2]
  · (refine zg_f (zst_p (y0 rfl (y0 rfl (yP rfl (yP rfl (y0 rfl (y0 rfl (y0 rfl (yP rfl (yP rfl (y0 rfl (y0 rfl (y0 rfl ?_))))))))))))); refine yP rfl (yA rfl (yR zi ?_)))
    (skip; refine And.intro ?_ trivial)
    simp [bool, Reg.isRect, h1]
/-- where a list's first element lies that is so -/
def firstP {α : Type} (p : α → Bool) : List α → Nat → Int
  | [], _ => -1
  | x :: r, k => match p x with
    | true => k
    | false => firstP p r (k + 1)
theorem firstP_none {α : Type} {p : α → Bool} : ∀ {l : List α} {k : Nat}, (∀ x ∈ l, p x = false) → firstP p l k = -1 := by
  intro l
  induction l with
  | nil => intro k _; rfl
  | cons x l ih => intro k h; rw [firstP, h x (by simp)]; exact ih fun y hy => h y (by simp [hy])
theorem firstP_at {α : Type} {p : α → Bool} : ∀ {l : List α} {i k : Nat} {x : α}, l[i]? = some x → p x = true → (∀ y ∈ l.take i, p y = false) → firstP p l k = ((k + i : Nat) : Int) := by
  intro l
  induction l with
  | nil => intro i k x h; simp at h
  | cons y l ih =>
    intro i k x h hp hn
    cases i with
    | zero => simp at h; subst h; rw [firstP, hp]; rfl
    | succ i =>
      rw [firstP, hn y (by simp)]
      have := ih (i := i) (k := k + 1) (by simpa using h) hp fun z hz => hn z (by simp [hz])
      simp only [this]
      omega
theorem firstP_any {α : Type} (p : α → Bool) : ∀ (l : List α) (k : Nat), decide (0 ≤ firstP p l k) = l.any p := by
  intro l
  induction l with
  | nil => intro k; rfl
  | cons x l ih =>
    intro k
    rw [firstP, List.any_cons]
    cases p x with
    | true => simp
    | false => simpa using ih (k + 1)
theorem take_no {α : Type} {p : α → Bool} {l : List α} {i : Nat} {x : α} (hx : l[i]? = some x) (hp : p x = false) (h : ∀ y ∈ l.take i, p y = false) : ∀ y ∈ l.take (i + 1), p y = false := by
  intro y hy
  rw [take_succ' hx, List.mem_append, List.mem_singleton] at hy
  rcases hy with hy | rfl
  · exact h y hy
  · exact hp
theorem index_int (l : List Int) (hN : l.length ≤ 140737488355328) : ACalls C 261 [.pv (ints l), .pv (.im (.func (.func 197) #[] #[]))] (.p (i64 (firstP (fun n => !isRule n) l 0))) [] := by
  refine fun_go hC Tryz.func261 rfl rfl 19 rfl (by decide) (by kernel_rfl) fun _ _ _ _ _ => ?_
  have lm := len_map l fun n => [i64 n]
  refine yS (yA rfl (yT (zw_s (yS (yP rfl (yP rfl (yP rfl (yT (zw_b ?_)))))))))
  refine loop_ok' (fun i : Nat => i ≤ l.length ∧ ∀ x ∈ l.take i, (!isRule x) = false) (fun i => [(0, .p (ints l)), (1, .p (.im (.func (.func 197) #[] #[]))), (7, .p (i64 (l.map fun n => [i64 n]).length)), (8, .p (i64 i))]) (fun _ => []) (fun i => l.length - i) 0 _ (SLe.refl _ _) ⟨Nat.zero_le _, by simp⟩ ⟨rfl, rfl, rfl, rfl, trivial⟩ trivial fun i hi t h => ?_
  (refine yS (yP rfl (yT (zw_s (zw_c rfl ?_)))); refine bcase_split (fun h1 => ?_) (fun h1 => ?_) <;> try simp only [zB] at h1)
  · rw [lm] at h1
    obtain ⟨x, hx⟩ := get_of (l := l) (i := i) (by omega)
    (refine zw_k (zt_n (zw_s (zw_b (yS (yP rfl (yA rfl (yU (yP rfl (yP rfl (yP rfl (yq rfl (zqX zI ?_)))))))))))); refine ⟨[i64 x], (idx rfl hx), ?_⟩)
    (refine yk (yP rfl (yn rfl (zqX zI ?_))); refine ⟨_, _, (rules_check1 x), ?_⟩)
    (refine zkn rfl rfl (zst_p (yT (zw_c rfl ?_))); refine bcase_split (fun h2 => ?_) (fun h2 => ?_) <;> try simp only [zB] at h2)
    · (refine yS (yP rfl (yA rfl (yT (zw_r (zb_r (zt_r (zt_r (zb_r (zt_r (ze_r zi ?_)))))))))); refine And.intro ?_ trivial)
      rw [firstP_at hx (by simp [h2]) hi.2, Nat.zero_add]
    · (refine zw_k (zb_n (zt_n (zw_o (yq rfl (zqA zI ?_))))); refine And.intro ⟨by omega, by omega⟩ ?_)
      (refine yk (yP rfl (yT (zaf_raw ?_))); refine ⟨(i + 1), _, SLe.refl _ _, ?_⟩)
      exact ⟨⟨by omega, take_no hx (by simp [h2]) hi.2⟩, by omega, ⟨rfl, rfl, rfl, rfl, trivial⟩, trivial⟩
  · rw [lm] at h1
    (refine zw_x (zt_x (zt_x (zb_h (zt_n (yS (yA rfl (yR zi ?_))))))); refine And.intro ?_ trivial)
    have h2 := hi.2
    rw [List.take_of_length_le (by omega)] at h2
    rw [firstP_none h2]
    rfl
theorem contains_int (l : List Int) (hN : l.length ≤ 140737488355328) : ACalls C 196 [.pv (ints l), .pv (.im (.func (.func 197) #[] #[]))] (.p (bool (l.any fun n => !isRule n))) [] := by
  refine fun_go hC Tryz.func196 rfl rfl 9 rfl (by decide) (by kernel_rfl) fun _ _ _ _ _ => ?_
  (refine yS (yA rfl (yU (yP rfl (yP rfl (yn rfl (zqX zI ?_)))))); refine ⟨_, _, (index_int l hN), ?_⟩)
  (refine zkn rfl rfl (zst_p (yP rfl (yA rfl (yR zi ?_)))); refine And.intro ?_ trivial)
  rw [← firstP_any _ l 0]
  rfl
end Go.Proofs.YthjfllfhagdnpaaGreatDoor.M
namespace Go.Proofs.YthjfllfhagdnpaaGreatDoor.M
open Go.AM Go.RowKit
open Reg (Rect Spans Band)

set_option maxRecDepth 100000 in
set_option maxHeartbeats 1000000 in
theorem house_isWord (s : ByteArray) (hs : s.size ≤ 9223372036854775807) : ACalls C 229 [.pv (str s)] (.p (bool (wordB s))) [] := by
  refine fun_go hC Tryz.func229 rfl rfl 49 rfl (by decide) (by kernel_rfl) fun _ _ _ _ _ => ?_
  have hsz : s.data.toList.length = s.size := by simp
  refine yS (yA rfl (yT (zw_s (yS (yP rfl (yP rfl (yP rfl (yT (zw_b ?_)))))))))
  refine loop_ok' (fun i : Nat => i ≤ s.size ∧ (s.data.toList.take i).all okB = true) (fun i => [(0, .p (str s)), (6, .p (i64 s.size)), (7, .p (i64 i))]) (fun _ => []) (fun i => s.size - i) 0 _ (SLe.refl _ _) ⟨Nat.zero_le _, by simp⟩ ⟨rfl, rfl, rfl, trivial⟩ trivial fun i hi t h => ?_
  (refine yS (yP rfl (yT (zw_s (zw_c rfl ?_)))); refine bcase_split (fun h1 => ?_) (fun h1 => ?_) <;> try simp only [zB] at h1)
  · obtain ⟨b, hb, hb'⟩ := byte_get (s := s) (i := i) (by omega)
    have hbad : okB b = false → wordB s = false := fun h => by
      rw [wordB, Bool.and_eq_false_iff]
      refine .inl ?_
      rw [List.all_eq_false]
      exact ⟨b, List.mem_of_getElem? hb', by simp [h]⟩
    have hnext : okB b = true → (s.data.toList.take (i + 1)).all okB = true := fun h => by rw [take_succ' hb', List.all_append, hi.2]; simp [h]
    (refine zw_k (zt_n (zw_s (zw_b (yS (yP rfl (yA rfl (yU (yP rfl (yP rfl (yq rfl (zqX zI ?_))))))))))); refine ⟨b, ⟨by omega, by rw [Int.toNat_natCast]; exact hb⟩, ?_⟩)
    have hix := indexByte_any ⟨#[95, 43, 45, 35]⟩ b.toNat
    rw [byte_back] at hix
    repeat' first | ((first | (refine zg_f (zst_p (y0 rfl (y1 rfl (yP rfl (yP rfl (y1 rfl (y1 rfl (y1 rfl (yg rfl ?_)))))))))) | (refine zg_f (zst_p (y0 rfl (yP rfl (yP rfl (y1 rfl (y1 rfl (y1 rfl (yg rfl ?_))))))))) | (refine zg_t (zs_q rfl rfl (zq1 zI (yk (y1 rfl (y1 rfl (yP rfl (yP rfl (yg rfl ?_))))))))) | (refine zg_t (zs_q rfl rfl (zq1 zI (yk (y1 rfl (y1 rfl (yg rfl ?_))))))) | (refine yk (yA rfl (yU (yP rfl (yP rfl (yP rfl (yg rfl ?_))))))) | (refine zg_t (zs_q rfl rfl (zq1 zI (yk (y1 rfl (yP rfl (yP rfl (yg rfl ?_)))))))) | (refine zkn rfl rfl (zst_p (y1 rfl (yP rfl (yT (zw_c rfl ?_))))))); refine bcase_split (fun h => ?_) (fun h => ?_) <;> try simp only [zB] at h) | ((first | (refine zg_f (zst_p (y0 rfl (y1 rfl (yP rfl (yP rfl (y1 rfl (y2 rfl (zs_n rfl rfl rfl (zqX zI ?_)))))))))) | (refine zg_t (zs_q rfl rfl (zq1 zI (yk (y2 rfl (zs_n rfl rfl rfl (zqX zI ?_)))))))); refine ⟨_, _, hix, ?_⟩)
    all_goals (first | (refine zg_f (zst_p (y0 rfl (y0 rfl (zo_gu rfl rfl rfl rfl (zst_p (zo_gu rfl rfl rfl rfl (zst_p (y0 rfl (yP rfl (yP rfl (y0 rfl (y0 rfl (y0 rfl ?_))))))))))))); refine zo_gu rfl rfl rfl rfl (zst_p (zo_gu rfl rfl rfl rfl (zst_p (y0 rfl (yP rfl (yP rfl (y0 rfl (y0 rfl (y0 rfl (yP rfl (yT (zw_c rfl (zc_f ?_))))))))))))); refine zw_k (zb_n (zt_n (zw_o (yq rfl (zqA zI ?_)))))) | (refine zg_f (zst_p (y0 rfl (y0 rfl (zo_gu rfl rfl rfl rfl (zst_p (zo_gu rfl rfl rfl rfl (zst_p (y0 rfl (yP rfl (yP rfl (y0 rfl (y0 rfl (y0 rfl ?_))))))))))))); refine yP rfl (yT (zw_c rfl (zc_f (zw_k (zb_n (zt_n (zw_o (yq rfl (zqA zI ?_)))))))))) | (refine zg_f (zst_p (y0 rfl (y0 rfl (yP rfl (yT (zw_c rfl (zc_f (zw_k (zb_n (zt_n (zw_o (yq rfl (zqA zI ?_)))))))))))))) | (refine yS (yA rfl (yT (zw_r (zb_r (zt_r (zt_r (zb_r (zt_r (ze_r zi ?_)))))))))) | (refine zw_k (zb_n (zt_n (zw_o (yq rfl (zqA zI ?_)))))))
    all_goals first
      | (refine And.intro ⟨by omega, by omega⟩ ?_
         (refine yk (yP rfl (yT (zaf_raw ?_))); refine ⟨(i + 1), _, SLe.refl _ _, ?_⟩)
         exact ⟨⟨by omega, hnext (by simp only [okB, Bool.or_eq_true, Bool.and_eq_true, decide_eq_true_eq, Bool.not_eq_true', decide_eq_false_iff_not]; omega)⟩, by omega, ⟨rfl, rfl, rfl, trivial⟩, trivial⟩)
      | (refine And.intro ?_ trivial
         rw [hbad (by simp only [okB, Bool.or_eq_false_iff, Bool.and_eq_false_iff, decide_eq_false_iff_not, Bool.not_eq_false', decide_eq_true_eq]; omega)]
         rfl)
  · have hall : s.data.toList.all okB = true := by
      have := hi.2
      rwa [List.take_of_length_le (by omega)] at this
    (refine zw_x (zt_x (zt_x (zb_h (zt_n (yS (yP rfl (yP rfl (yP rfl (yP rfl (yg rfl ?_)))))))))); refine bcase_split (fun h2 => ?_) (fun h2 => ?_) <;> try simp only [zB] at h2)
    · (refine zg_t (zs_q rfl rfl (zq1 zI (yk (y1 rfl (y1 rfl (yP rfl (yA rfl (yR zi ?_)))))))); refine And.intro ?_ trivial)
      simp [bool, wordB, hall, h2]
    · (refine zg_f (zst_p (y0 rfl (y0 rfl (yP rfl (yA rfl (yR zi ?_)))))); refine And.intro ?_ trivial)
      simp [bool, wordB, hall, h2]
theorem isPath_1 (s : ByteArray) (hs : s.size ≤ 9223372036854775807) : ACalls C 283 [.pv (str s)] (.p (bool (!wordB s))) [] := by
  refine fun_go hC Tryz.func283 rfl rfl 6 rfl (by decide) (by kernel_rfl) fun _ _ _ _ _ => ?_
  (refine yS (yA rfl (yU (yP rfl (yn rfl (zqX zI ?_))))); refine ⟨_, _, (house_isWord s hs), ?_⟩)
  (refine zkn rfl rfl (zst_p (yP rfl (yA rfl (yR zi ?_)))); refine And.intro ?_ trivial)
  rfl
theorem index_str (l : List ByteArray) (hN : l.length ≤ 140737488355328) (hS : ∀ s ∈ l, s.size ≤ 9223372036854775807) : ACalls C 257 [.pv (strs l), .pv (.im (.func (.func 283) #[] #[]))] (.p (i64 (firstP (fun s => !wordB s) l 0))) [] := by
  refine fun_go hC Tryz.func257 rfl rfl 19 rfl (by decide) (by kernel_rfl) fun _ _ _ _ _ => ?_
  have lm := len_map l fun s => [str s]
  refine yS (yA rfl (yT (zw_s (yS (yP rfl (yP rfl (yP rfl (yT (zw_b ?_)))))))))
  refine loop_ok' (fun i : Nat => i ≤ l.length ∧ ∀ x ∈ l.take i, (!wordB x) = false) (fun i => [(0, .p (strs l)), (1, .p (.im (.func (.func 283) #[] #[]))), (7, .p (i64 (l.map fun s => [str s]).length)), (8, .p (i64 i))]) (fun _ => []) (fun i => l.length - i) 0 _ (SLe.refl _ _) ⟨Nat.zero_le _, by simp⟩ ⟨rfl, rfl, rfl, rfl, trivial⟩ trivial fun i hi t h => ?_
  (refine yS (yP rfl (yT (zw_s (zw_c rfl ?_)))); refine bcase_split (fun h1 => ?_) (fun h1 => ?_) <;> try simp only [zB] at h1)
  · rw [lm] at h1
    obtain ⟨x, hx⟩ := get_of (l := l) (i := i) (by omega)
    (refine zw_k (zt_n (zw_s (zw_b (yS (yP rfl (yA rfl (yU (yP rfl (yP rfl (yP rfl (yq rfl (zqX zI ?_)))))))))))); refine ⟨[str x], (idx rfl hx), ?_⟩)
    (refine yk (yP rfl (yn rfl (zqX zI ?_))); refine ⟨_, _, (isPath_1 x (hS x (List.mem_of_getElem? hx))), ?_⟩)
    (refine zkn rfl rfl (zst_p (yT (zw_c rfl ?_))); refine bcase_split (fun h2 => ?_) (fun h2 => ?_) <;> try simp only [zB] at h2)
    · (refine yS (yP rfl (yA rfl (yT (zw_r (zb_r (zt_r (zt_r (zb_r (zt_r (ze_r zi ?_)))))))))); refine And.intro ?_ trivial)
      rw [firstP_at hx (by simp [h2]) hi.2, Nat.zero_add]
    · (refine zw_k (zb_n (zt_n (zw_o (yq rfl (zqA zI ?_))))); refine And.intro ⟨by omega, by omega⟩ ?_)
      (refine yk (yP rfl (yT (zaf_raw ?_))); refine ⟨(i + 1), _, SLe.refl _ _, ?_⟩)
      exact ⟨⟨by omega, take_no hx (by simp [h2]) hi.2⟩, by omega, ⟨rfl, rfl, rfl, rfl, trivial⟩, trivial⟩
  · rw [lm] at h1
    (refine zw_x (zt_x (zt_x (zb_h (zt_n (yS (yA rfl (yR zi ?_))))))); refine And.intro ?_ trivial)
    have h2 := hi.2
    rw [List.take_of_length_le (by omega)] at h2
    rw [firstP_none h2]
    rfl
theorem contains_str (l : List ByteArray) (hN : l.length ≤ 140737488355328) (hS : ∀ s ∈ l, s.size ≤ 9223372036854775807) : ACalls C 186 [.pv (strs l), .pv (.im (.func (.func 283) #[] #[]))] (.p (bool (l.any fun s => !wordB s))) [] := by
  refine fun_go hC Tryz.func186 rfl rfl 9 rfl (by decide) (by kernel_rfl) fun _ _ _ _ _ => ?_
  (refine yS (yA rfl (yU (yP rfl (yP rfl (yn rfl (zqX zI ?_)))))); refine ⟨_, _, (index_str l hN hS), ?_⟩)
  (refine zkn rfl rfl (zst_p (yP rfl (yA rfl (yR zi ?_)))); refine And.intro ?_ trivial)
  rw [← firstP_any _ l 0]
  rfl
theorem any_not {α : Type} (p : α → Bool) : ∀ l : List α, (!l.any fun s => !p s) = l.all p := by
  intro l
  induction l with
  | nil => rfl
  | cons x l ih => rw [List.any_cons, List.all_cons, ← ih, Bool.not_or, Bool.not_not]
theorem house_isPath (s : ByteArray) (hs : s.size < 4294967281) : ACalls C 215 [.pv (str s)] (.p (bool (pathB s))) [] := by
  refine fun_go hC Tryz.func215 rfl rfl 12 rfl (by decide) (by kernel_rfl) fun _ _ _ _ _ => ?_
  have pl := parts_le s
  (refine yS (yA rfl (yU (yP rfl (yP rfl (yP rfl (yP rfl (yg rfl ?_))))))); refine bcase_split (fun h1 => ?_) (fun h1 => ?_) <;> try simp only [zB] at h1)
  · (refine zg_t (zs_q rfl rfl (zq1 zI (yk (y2 rfl (zs_n rfl rfl rfl (zqX zI ?_)))))); refine ⟨_, _, (split_any s hs), ?_⟩)
    (refine zkns (zst_ow (y2 rfl (zs_n rfl rfl rfl (zqX zI ?_)))); refine ⟨_, _, (contains_str (parts s) (by omega) fun x hx => by have := splitB_size _ _ _ x hx; omega), ?_⟩)
    (refine zkn rfl rfl (zst_p (y1 rfl (yP rfl (yA rfl (yR zi ?_))))); refine And.intro ?_ trivial)
    rw [any_not, pathB, decide_eq_true h1, Bool.and_true]
    rfl
  · (refine zg_f (zst_p (y0 rfl (y0 rfl (y0 rfl (yP rfl (yA rfl (yR zi ?_))))))); refine And.intro ?_ trivial)
    rw [pathB, decide_eq_false h1, Bool.and_false]
    rfl
end Go.Proofs.YthjfllfhagdnpaaGreatDoor.M
namespace Go.Proofs.YthjfllfhagdnpaaGreatDoor.M
open Go.AM Go.RowKit
open Reg (Rect Spans Band)

set_option maxHeartbeats 1000000 in
theorem house_checkRects (l : List Rect) : ACalls C 125 [.pv (rects l)] (.p (i64 (Reg.checkRects l))) [] := by
  refine fun_go hC Tryz.func125 rfl rfl 30 rfl (by decide) (by kernel_rfl) fun _ _ _ _ _ => ?_
  have lm := len_map l rc
  (refine yS (yA rfl (yT (zw_s (yS (yP rfl (yP rfl (yP rfl (yT (zw_c rfl ?_))))))))); refine bcase_split (fun h0 => ?_) (fun h0 => ?_) <;> try simp only [zB] at h0)
  · rw [lm] at h0
    (refine yS (yA rfl (yT (zw_r (zt_r (ze_r zi ?_))))); refine And.intro ?_ trivial)
    rw [Reg.checkRects, if_pos (by omega)]; rfl
  · rw [lm] at h0
    have hc : Reg.checkRects l = Reg.rectsFault l := by rw [Reg.checkRects, if_neg (by omega)]
    refine zw_k (zt_n (zw_s (yS (yP rfl (yP rfl (yP rfl (yT (zw_b ?_))))))))
    refine loop_ok' (fun i : Nat => i ≤ l.length ∧ Reg.rectsFault l = Reg.rectsFault (l.drop i)) (fun i => [(8, .p (rects l)), (9, .p (i64 (l.map rc).length)), (10, .p (i64 i))]) (fun _ => []) (fun i => l.length - i) 0 _ (SLe.refl _ _) ⟨Nat.zero_le _, rfl⟩ ⟨rfl, rfl, rfl, trivial⟩ trivial fun i hi t h => ?_
    (refine yS (yP rfl (yT (zw_s (zw_c rfl ?_)))); refine bcase_split (fun h1 => ?_) (fun h1 => ?_) <;> try simp only [zB] at h1)
    · rw [lm] at h1
      obtain ⟨r, hr⟩ := get_of (l := l) (i := i) (by omega)
      have hs := rects_fault_step hr
      (refine zw_k (zt_n (zw_s (zw_b (yS (yq rfl (zqX zI ?_)))))); refine ⟨(rc r), (idx rfl hr), ?_⟩)
      ((refine yk (yP rfl (yn rfl (zq1 zI (zkns (zst_bx (yq rfl (zq1 zI (zkq (zst_e (zst_0 (yT (zw_s (yS ?_))))))))))))); refine yP rfl (yn rfl (zqX zI ?_))); refine ⟨_, _, (shape_isRect r), ?_⟩)
      (refine zkn rfl rfl (zst_p (yP rfl (yT (zw_c rfl ?_)))); refine bcase_split (fun g1 => ?_) (fun g1 => ?_) <;> try simp only [zB] at g1)
      · (refine yS (yA rfl (yT (zw_r (zt_r (zb_r (zt_r (zt_r (zb_r (zt_r (ze_r zi ?_)))))))))); refine And.intro ?_ trivial)
        rw [hc, hi.2, hs, if_neg (by simp [g1])]; rfl
      rw [if_pos g1] at hs
      (refine zw_k (zt_n (yS (yV rfl (yP rfl (yV rfl (yP rfl (yP rfl (yP rfl (yg rfl ?_))))))))); refine bcase_split (fun e1 => ?_) (fun e1 => ?_) <;> try simp only [zB] at e1)
      · ((refine zg_f (zst_p (y0 rfl (y0 rfl (y0 rfl (y0 rfl (yP rfl (yT (zw_c rfl (zc_t (yS (yA rfl (yT (zw_r ?_))))))))))))); refine zb_r (zt_r (zt_r (zb_r (zt_r (ze_r zi ?_)))))); refine And.intro ?_ trivial)
        rw [hc, hi.2, hs, if_pos (.inl e1)]; rfl
      ((refine zg_t (zs_q rfl rfl (zq1 zI (zkq (zst_bx (y1 rfl (y2 rfl (zs_q rfl rfl (zq1 zI (zkq (zst_bx (y1 rfl (y1 rfl (yP rfl ?_))))))))))))); refine yT (zw_c rfl ?_)); refine bcase_split (fun e2 => ?_) (fun e2 => ?_) <;> try simp only [zB] at e2)
      · (refine yS (yA rfl (yT (zw_r (zb_r (zt_r (zt_r (zb_r (zt_r (ze_r zi ?_))))))))); refine And.intro ?_ trivial)
        rw [hc, hi.2, hs, if_pos (.inr e2)]; rfl
      (refine zw_k (zb_n (zt_n (zw_o (yq rfl (zqA zI ?_))))); refine And.intro ⟨by omega, by omega⟩ ?_)
      (refine yk (yP rfl (yT (zaf_raw ?_))); refine ⟨(i + 1), _, SLe.refl _ _, ?_⟩)
      refine ⟨⟨by omega, ?_⟩, by omega, ⟨rfl, rfl, rfl, trivial⟩, trivial⟩
      rw [hi.2, hs, if_neg (by omega)]
    · rw [lm] at h1
      (refine zw_x (zt_x (zt_x (zb_h (zt_n (yS (yA rfl (yR zi ?_))))))); refine And.intro ?_ trivial)
      rw [hc, hi.2, List.drop_of_length_le (by omega)]; rfl
set_option maxHeartbeats 1000000 in
theorem equal_rects (l m : List Rect) (hN : l.length ≤ 140737488355328) : ACalls C 126 [.pv (rects l), .pv (rects m)] (.p (bool (decide (l = m)))) [] := by
  refine fun_go hC Tryz.func126 rfl rfl 26 rfl (by decide) (by kernel_rfl) fun _ _ _ _ _ => ?_
  have lm := len_map l rc
  have mm := len_map m rc
  (refine yS (yA rfl (yT (zw_s (yS (yP rfl (yP rfl (yP rfl (yP rfl (yP rfl (yT (zw_c rfl ?_))))))))))); refine bcase_split (fun h0 => ?_) (fun h0 => ?_) <;> try simp only [zB] at h0)
  · rw [lm, mm] at h0
    (refine yS (yA rfl (yT (zw_r (zt_r (ze_r zi ?_))))); refine And.intro ?_ trivial)
    rw [decide_eq_false (fun e : l = m => h0 (by rw [e]))]
    rfl
  · rw [lm, mm] at h0
    refine zw_k (zt_n (zw_s (yS (yP rfl (yP rfl (yP rfl (yT (zw_b ?_))))))))
    refine loop_ok' (fun i : Nat => i ≤ l.length ∧ (l = m ↔ l.drop i = m.drop i)) (fun i => [(0, .p (rects l)), (1, .p (rects m)), (12, .p (i64 (l.map rc).length)), (13, .p (i64 i))]) (fun _ => []) (fun i => l.length - i) 0 _ (SLe.refl _ _) ⟨Nat.zero_le _, Iff.rfl⟩ ⟨rfl, rfl, rfl, rfl, trivial⟩ trivial fun i hi t h => ?_
    (refine yS (yP rfl (yT (zw_s (zw_c rfl ?_)))); refine bcase_split (fun h1 => ?_) (fun h1 => ?_) <;> try simp only [zB] at h1)
    · rw [lm] at h1
      obtain ⟨r, hr⟩ := get_of (l := l) (i := i) (by omega)
      obtain ⟨q, hq⟩ := get_of (l := m) (i := i) (by omega)
      have hs := drop_same hr hq
      ((refine zw_k (zt_n (zw_s (zw_b (yS (yP rfl (yA rfl (yT (zw_s (zw_d false [true, true, true, true, true, true, true, true, true] rfl (by kernel_rfl) (zp_q rfl (yD rfl (yD rfl (dq rfl ?_))))))))))))); refine zqX zI ?_); refine ⟨(rc r), (idx rfl hr), ?_⟩)
      (refine zkd (zst_p (yD rfl (yD rfl (yD rfl (dq rfl (zqX zI ?_)))))); refine ⟨(rc q), (idx rfl hq), ?_⟩)
      have he := Reg.Rect.ext_iff' r q
      (refine zkd (zst_p (yD rfl (yD rfl (zd_0 (zr_q rfl (zt_n (zw_c rfl ?_))))))); refine bcase_split (fun h2 => ?_) (fun h2 => ?_) <;> try simp only [zB] at h2)
      · (refine yS (yA rfl (yT (zw_r (zb_r (zt_r (zt_r (zb_r (zt_r (ze_r zi ?_))))))))); refine And.intro ?_ trivial)
        rw [decide_eq_false]; rfl
        rw [hi.2, hs, he]
        simp only [Bool.and_eq_false_iff, decide_eq_false_iff_not] at h2
        intro ⟨⟨e1, e2, e3, e4⟩, _⟩
        simp [e1, e2, e3, e4] at h2
      · (refine zw_k (zb_n (zt_n (zw_o (yq rfl (zqA zI ?_))))); refine And.intro ⟨by omega, by omega⟩ ?_)
        (refine yk (yP rfl (yT (zaf_raw ?_))); refine ⟨(i + 1), _, SLe.refl _ _, ?_⟩)
        refine ⟨⟨by omega, ?_⟩, by omega, ⟨rfl, rfl, rfl, rfl, trivial⟩, trivial⟩
        rw [hi.2, hs, he]
        simp [decide_eq_true_eq] at h2
        exact and_iff_right h2
    · (refine zw_x (zt_x (zt_x (zb_h (zt_n (yS (yA rfl (yR zi ?_))))))); refine And.intro ?_ trivial)
      rw [lm] at h1
      rw [decide_eq_true]; rfl
      rw [hi.2, List.drop_of_length_le (by omega), List.drop_of_length_le (by omega)]
set_option maxHeartbeats 1000000 in
theorem equal_ints (l m : List Int) (hN : l.length ≤ 140737488355328) : ACalls C 222 [.pv (ints l), .pv (ints m)] (.p (bool (decide (l = m)))) [] := by
  refine fun_go hC Tryz.func222 rfl rfl 26 rfl (by decide) (by kernel_rfl) fun _ _ _ _ _ => ?_
  have lm := len_map l fun n => [i64 n]
  have mm := len_map m fun n => [i64 n]
  (refine yS (yA rfl (yT (zw_s (yS (yP rfl (yP rfl (yP rfl (yP rfl (yP rfl (yT (zw_c rfl ?_))))))))))); refine bcase_split (fun h0 => ?_) (fun h0 => ?_) <;> try simp only [zB] at h0)
  · rw [lm, mm] at h0
    (refine yS (yA rfl (yT (zw_r (zt_r (ze_r zi ?_))))); refine And.intro ?_ trivial)
    rw [decide_eq_false (fun e : l = m => h0 (by rw [e]))]
    rfl
  · rw [lm, mm] at h0
    refine zw_k (zt_n (zw_s (yS (yP rfl (yP rfl (yP rfl (yT (zw_b ?_))))))))
    refine loop_ok' (fun i : Nat => i ≤ l.length ∧ (l = m ↔ l.drop i = m.drop i)) (fun i => [(0, .p (ints l)), (1, .p (ints m)), (12, .p (i64 (l.map fun n => [i64 n]).length)), (13, .p (i64 i))]) (fun _ => []) (fun i => l.length - i) 0 _ (SLe.refl _ _) ⟨Nat.zero_le _, Iff.rfl⟩ ⟨rfl, rfl, rfl, rfl, trivial⟩ trivial fun i hi t h => ?_
    (refine yS (yP rfl (yT (zw_s (zw_c rfl ?_)))); refine bcase_split (fun h1 => ?_) (fun h1 => ?_) <;> try simp only [zB] at h1)
    · rw [lm] at h1
      obtain ⟨r, hr⟩ := get_of (l := l) (i := i) (by omega)
      obtain ⟨q, hq⟩ := get_of (l := m) (i := i) (by omega)
      have hs := drop_same hr hq
      ((refine zw_k (zt_n (zw_s (zw_b (yS (yP rfl (yA rfl (yT (zw_s (zw_d false [true, true, true, true, true, true, true, true, true] rfl (by kernel_rfl) (zp_q rfl (yD rfl (yD rfl (dq rfl ?_))))))))))))); refine zqX zI ?_); refine ⟨[i64 r], (idx rfl hr), ?_⟩)
      (refine zkd (zst_p (yD rfl (yD rfl (yD rfl (dq rfl (zqX zI ?_)))))); refine ⟨[i64 q], (idx rfl hq), ?_⟩)
      (refine zkd (zst_p (yD rfl (yD rfl (zd_0 (zr_q rfl (zt_n (zw_c rfl ?_))))))); refine bcase_split (fun h2 => ?_) (fun h2 => ?_) <;> try simp only [zB] at h2)
      · (refine yS (yA rfl (yT (zw_r (zb_r (zt_r (zt_r (zb_r (zt_r (ze_r zi ?_))))))))); refine And.intro ?_ trivial)
        rw [decide_eq_false]; rfl
        rw [hi.2, hs]
        exact fun h => h2 h.1
      · (refine zw_k (zb_n (zt_n (zw_o (yq rfl (zqA zI ?_))))); refine And.intro ⟨by omega, by omega⟩ ?_)
        (refine yk (yP rfl (yT (zaf_raw ?_))); refine ⟨(i + 1), _, SLe.refl _ _, ?_⟩)
        refine ⟨⟨by omega, ?_⟩, by omega, ⟨rfl, rfl, rfl, rfl, trivial⟩, trivial⟩
        rw [hi.2, hs]
        exact and_iff_right h2
    · (refine zw_x (zt_x (zt_x (zb_h (zt_n (yS (yA rfl (yR zi ?_))))))); refine And.intro ?_ trivial)
      rw [lm] at h1
      rw [decide_eq_true]; rfl
      rw [hi.2, List.drop_of_length_le (by omega), List.drop_of_length_le (by omega)]
/-- spans as the house keeps them -/
def flat : Spans → List Int
  | [] => []
  | p :: s => p.1 :: p.2 :: flat s
theorem flat_length : ∀ s : Spans, (flat s).length = 2 * s.length := by
  intro s
  induction s with
  | nil => rfl
  | cons p s ih => simp only [flat, List.length_cons, ih]; omega
theorem flat_inj : ∀ {s u : Spans}, flat s = flat u → s = u := by
  intro s
  induction s with
  | nil => intro u h; cases u with | nil => rfl | cons => cases h
  | cons p s ih =>
    intro u h
    cases u with
    | nil => cases h
    | cons q u =>
      simp only [flat, List.cons.injEq] at h
      rw [ih h.2.2, Prod.ext h.1 h.2.1]
theorem flat_append (s u : Spans) : flat (s ++ u) = flat s ++ flat u := by
  induction s with
  | nil => rfl
  | cons p s ih => simp only [List.cons_append, flat, ih]
/-- a band of the house -/
def hb (b : Band) : List PV := [i64 b.y0, i64 b.y1, ints (flat b.xs)]
set_option maxRecDepth 100000 in
set_option maxHeartbeats 1000000 in
theorem house_push (l : List Band) (b : Band) (hb0 : b.y0 < b.y1) (hN : l.length ≤ 1000000000000) (hX : ∀ t ∈ l, t.xs.length ≤ 1000000000000) : ACalls C 137 [.row 204 (l.map hb), .pv (.ag (hb b))] (.own 204 ((Reg.pushB l b).map hb)) [.gone] := by
  refine fun_go hC Tryz.func137 rfl rfl 54 rfl (by decide) (by kernel_rfl) fun _ _ _ _ _ => ?_
  have lm := len_map l hb
  have sm := len_map (flat b.xs) fun n => [i64 n]
  have fl := flat_length b.xs
  have done : ∀ z : List Band, z = Reg.pushB l b → AB.row 204 (z.map hb) = AB.row 204 ((Reg.pushB l b).map hb) := fun z e => by rw [e]
  ((refine yS (yn rfl (zq1 zI (zkns (zst_bx (yB rfl (yT (zw_s (yS (yV rfl (yP rfl (yP rfl (yP rfl (yP rfl ?_))))))))))))); refine yg rfl ?_); refine bcase_split (fun h1 => ?_) (fun h1 => ?_) <;> try simp only [zB] at h1)
  · rw [sm, fl] at h1
    have he : b.xs = [] := List.eq_nil_of_length_eq_zero (by omega)
    (refine zg_f (zst_p (y0 rfl (y0 rfl (y0 rfl (y0 rfl (yP rfl (yT (zw_c rfl (zc_t (yS (yq rfl (zq1 zI (zkq ?_))))))))))))); refine zst_ow (zo_n rfl (zs_ar rfl rfl rfl rfl rfl (yT (zw_r (zt_r (ze_r zi ?_)))))))
    exact ⟨done l (by rw [Reg.pushB, if_pos he]), rfl, trivial⟩
  · rw [sm, fl] at h1
    have he : b.xs ≠ [] := fun e => h1 (by rw [e]; rfl)
    have more : l ++ [b] = Reg.pushB l b → AB.row 204 (l.map hb ++ [hb b]) = AB.row 204 ((Reg.pushB l b).map hb) := fun e => by rw [← e, List.map_append]; rfl
    ((refine zg_t (zs_q rfl rfl (zq1 zI (zkq (zst_bx (y1 rfl (y2 rfl (zs_q rfl rfl (zq1 zI (zkq (zst_bx (y1 rfl (y1 rfl (yP rfl ?_))))))))))))); refine yT (zw_c rfl ?_)); refine bcase_split (fun h0 => ?_) (fun h0 => ?_) <;> try simp only [zB] at h0)
    · omega
    (refine zw_k (zt_n (zw_s (yS (yq rfl (zq1 zI (zkq (zst_ow (yP rfl (yq rfl (zqA zI ?_)))))))))); refine And.intro ⟨by rw [lm]; omega, by rw [lm]; omega⟩ ?_)
    ((refine yk (yA rfl (yT (zw_s (zw_d false [true, true, true, true, true, true, true, true, true, true, true, true, true, true, true, true, true, true, true, true, true, true] rfl (by kernel_rfl) (zp_s rfl (zp_s rfl (zp_s rfl (zp_s rfl (zp_s rfl (zp_s rfl (zp_s rfl (zp_s rfl (zp_s rfl ?_))))))))))))); refine zp_s rfl (zp_s rfl (zp_s rfl (zp_s rfl (zp_s rfl (zp_s rfl (zp_s rfl (zp_s rfl (zp_s rfl (zp_s rfl (zp_s rfl (zp_n rfl rfl (zp_q rfl (yD rfl ?_))))))))))))); refine yD rfl (yD rfl (dg rfl ?_))); refine bcase_split (fun h2 => ?_) (fun h2 => ?_) <;> try simp only [zB] at h2)
    · rw [lm] at h2
      obtain ⟨m, hm⟩ : ∃ m, l.length = m + 1 := ⟨l.length - 1, by omega⟩
      have hi : ((l.map hb).length : Int) - 1 = (m : Nat) := by rw [lm]; omega
      have hp : Reg.pushB l b = match l.getLast? with
        | some t => if t.y1 = b.y0 ∧ t.xs = b.xs then l.dropLast ++ [⟨t.y0, b.y1, t.xs⟩] else l ++ [b]
        | none => [b] := by rw [Reg.pushB, if_neg he]; rfl
      obtain ⟨t, ht⟩ := get_of (l := l) (i := m) (by omega)
      rw [last_get hm ht] at hp
      simp only at hp
      have ft := flat_length t.xs
      (refine zg_t (zd_q rfl (zq1 zI (zkd (zst_ow (d1 rfl (d2 rfl (zd_q rfl (zqA zI ?_)))))))); refine And.intro ⟨by rw [hi]; omega, by rw [hi, lm]; omega⟩ ?_)
      (refine zkd (zst_rp (d2 rfl (zd_q rfl (zq1 zI (zkd (zst_rp (d2 rfl (zd_q rfl (zqX zI ?_))))))))); refine ⟨(hb t), (idx hi ht).2, ?_⟩)
      (refine zkd (zst_p (d2 rfl (zd_q rfl (zq1 zI (zkd (zst_bx (d1 rfl (d1 rfl (yD rfl (yD rfl (dg rfl ?_))))))))))); refine bcase_split (fun h3 => ?_) (fun h3 => ?_) <;> try simp only [zB] at h3)
      · (refine zg_t (zd_q rfl (zq1 zI (zkd (zst_ow (d1 rfl (d2 rfl (zd_q rfl (zqA zI ?_)))))))); refine And.intro ⟨by rw [hi]; omega, by rw [hi, lm]; omega⟩ ?_)
        (refine zkd (zst_rp (d2 rfl (zd_q rfl (zq1 zI (zkd (zst_rp (d2 rfl (zd_q rfl (zqX zI ?_))))))))); refine ⟨(hb t), (idx hi ht).2, ?_⟩)
        (refine zkd (zst_p (d2 rfl (zd_q rfl (zq1 zI (zkd (zst_bx (d1 rfl (d2 rfl (zd_q rfl (zqX zI ?_)))))))))); refine ⟨_, _, (equal_ints (flat t.xs) (flat b.xs) (by have := hX t (List.mem_of_getElem? ht); omega)), ?_⟩)
        (refine zkd (zst_p (yD rfl (zd_0 (zr_q rfl (zt_n (zw_c rfl ?_)))))); refine bcase_split (fun h4 => ?_) (fun h4 => ?_) <;> try simp only [zB] at h4)
        · have h4 : t.xs = b.xs := flat_inj h4
          (refine yS (yq rfl (zq1 zI (zkq (zst_ow (yP rfl (yV rfl (yP rfl (yq rfl (zqA zI ?_))))))))); refine And.intro ⟨by rw [hi]; omega, by rw [hi, lm]; omega⟩ ?_)
          (refine zkq (zst_rp (yV rfl (yq rfl (zqX zI ?_)))); refine ⟨(hb t), (idx hi ht).2, ?_⟩)
          refine zkq (zst_e (zst_0 (yU (yq rfl (zq1 zI (zkq (zst_ow (zo_n rfl (zs_ar rfl rfl rfl rfl rfl (yT (zw_r (zt_r (ze_r zi ?_)))))))))))))
          rw [if_pos ⟨h3, h4⟩] at hp
          have hset : ∀ k : Nat, k = m → AB.row 204 ((l.map hb).set k [i64 t.y0, i64 b.y1, ints (flat t.xs)]) = AB.row 204 ((Reg.pushB l b).map hb) := by
            intro k e
            subst e
            rw [hp]
            obtain ⟨d, hd⟩ := List.getLast?_eq_some_iff.1 (last_get hm ht)
            subst hd
            have hk : k = d.length := by simp at hm; omega
            subst hk
            simp [hb]
          exact ⟨hset _ (by rw [hi]; rfl), rfl, trivial⟩
        · have h4 : t.xs ≠ b.xs := fun e => h4 (by rw [e])
          rw [if_neg (fun h => h4 h.2)] at hp
          (refine zw_k (zt_n (yS (yq rfl (zq1 zI (zkq (zst_ow (yP rfl (yn rfl (zq1 zI (zkns (zst_ow (yn rfl (zqA zI ?_))))))))))))); refine And.intro ⟨by simp, by simp; omega, by simp; omega⟩ ?_)
          refine zkns (zst_e (zst_ow (zo_n rfl (zs_ar rfl rfl rfl rfl rfl (yR zi ?_)))))
          exact ⟨more hp.symm, rfl, trivial⟩
      · rw [if_neg (fun h => h3 h.1)] at hp
        ((refine zg_f (zst_p (d0 rfl (d0 rfl (d0 rfl (d0 rfl (d0 rfl (d0 rfl (d0 rfl (yD rfl (zd_0 (zr_q rfl (zt_n (zw_c rfl ?_))))))))))))); refine zc_f (zw_k (zt_n (yS (yq rfl (zq1 zI (zkq (zst_ow (yP rfl (yn rfl (zq1 zI (zkns (zst_ow (yn rfl ?_))))))))))))); refine zqA zI ?_); refine And.intro ⟨by simp, by simp; omega, by simp; omega⟩ ?_)
        refine zkns (zst_e (zst_ow (zo_n rfl (zs_ar rfl rfl rfl rfl rfl (yR zi ?_)))))
        exact ⟨more hp.symm, rfl, trivial⟩
    · rw [lm] at h2
      have hl : l = [] := List.eq_nil_of_length_eq_zero (by omega)
      ((refine zg_f (zst_p (d0 rfl (d0 rfl (d0 rfl (d0 rfl (d0 rfl (d0 rfl (d0 rfl (yD rfl (yD rfl (d0 rfl (d0 rfl (d0 rfl ?_))))))))))))); refine d0 rfl (d0 rfl (d0 rfl (d0 rfl (d0 rfl (yD rfl (zd_0 (zr_q rfl (zt_n (zw_c rfl (zc_f (zw_k (zt_n (yS ?_))))))))))))); refine yq rfl (zq1 zI (zkq (zst_ow (yP rfl (yn rfl (zq1 zI (zkns (zst_ow (yn rfl (zqA zI ?_))))))))))); refine And.intro ⟨by simp, by simp; omega, by simp; omega⟩ ?_)
      refine zkns (zst_e (zst_ow (zo_n rfl (zs_ar rfl rfl rfl rfl rfl (yR zi ?_)))))
      exact ⟨more (by subst hl; rw [Reg.pushB, if_neg he]; rfl), rfl, trivial⟩
end Go.Proofs.YthjfllfhagdnpaaGreatDoor.M
namespace Go.Proofs.YthjfllfhagdnpaaGreatDoor.M
open Go.AM Go.RowKit
open Reg (Rect Spans Band)

theorem flat_get : ∀ {s : Spans} {k : Nat} {p : Int × Int}, s[k]? = some p → (flat s)[2 * k]? = some p.1 ∧ (flat s)[2 * k + 1]? = some p.2 := by
  intro s
  induction s with
  | nil => intro k p h; simp at h
  | cons q s ih =>
    intro k p h
    cases k with
    | zero => simp at h; subst h; exact ⟨rfl, rfl⟩
    | succ k =>
      obtain ⟨h1, h2⟩ := ih (k := k) (p := p) (by simpa using h)
      rw [show 2 * (k + 1) = (2 * k + 1) + 1 by omega]
      exact ⟨by simpa [flat] using h1, by simpa [flat] using h2⟩
set_option maxRecDepth 100000 in
set_option maxHeartbeats 1000000 in
theorem house_rects' (l : List Band) (hN : l.length ≤ 1000000000000) (hX : ∀ t ∈ l, t.xs.length ≤ 1000000000000) (hT : (Reg.told l).length ≤ 4398046511104) : ACalls C 127 [.pv (.sl (l.map hb))] (.own 73 ((Reg.told l).map rc)) [] := by
  refine fun_go hC Tryz.func127 rfl rfl 41 rfl (by decide) (by kernel_rfl) fun _ _ _ _ _ => ?_
  have lm := len_map l hb
  have tl : ∀ i, (Reg.told (l.take i)).length ≤ (Reg.told l).length := fun i => by
    have e : Reg.told l = Reg.told (l.take i) ++ Reg.told (l.drop i) := by
      unfold Reg.told
      rw [← List.flatMap_append, List.take_append_drop]
    rw [e, List.length_append]
    omega
  refine yS (yB rfl (yU (yB rfl (yT (zw_s (yS (yP rfl (yP rfl (yP rfl (yT (zw_b ?_)))))))))))
  refine loop_ok' (fun i : Nat => i ≤ l.length) (fun i => [(7, .p (.sl (l.map hb))), (8, .p (i64 (l.map hb).length)), (3, .ow 3), (9, .p (i64 i))]) (fun i => [(3, .row 73 ((Reg.told (l.take i)).map rc))]) (fun i => l.length - i) 0 _ (SLe.nilRow hC _ 3 73 _ (by decide) rfl rfl (by decide)) (Nat.zero_le _) ⟨rfl, rfl, rfl, rfl, trivial⟩ ⟨rfl, trivial⟩ fun i hi t h => ?_
  (refine yS (yP rfl (yT (zw_s (zw_c rfl ?_)))); refine bcase_split (fun h1 => ?_) (fun h1 => ?_) <;> try simp only [zB] at h1)
  · rw [lm] at h1
    obtain ⟨b, hbb⟩ := get_of (l := l) (i := i) (by omega)
    have bm := len_map (flat b.xs) fun n => [i64 n]
    have fl := flat_length b.xs
    have hb' := hX b (List.mem_of_getElem? hbb)
    have ht := tl (i + 1)
    rw [told_step hbb, List.length_append, List.length_map] at ht
    (refine zw_k (zt_n (zw_s (zw_b (yS (yq rfl (zqX zI ?_)))))); refine ⟨(hb b), (idx rfl hbb), ?_⟩)
    (refine yk (yP rfl (yn rfl (zq1 zI (zkns (zst_bx (yq rfl (zq1 zI (zkq (zst_e (zst_0 (yU (yA rfl (yT ?_))))))))))))); refine zw_b ?_)
    refine cutB' (fun _ : Unit => True) (fun _ => [(7, .p (.sl (l.map hb))), (8, .p (i64 (l.map hb).length)), (3, .ow 3), (9, .p (i64 i))]) (fun _ => [(3, .row 73 ((Reg.told (l.take (i + 1))).map rc))]) (fun _ _ t h => ?_) ?_
    · (refine zb_n (zt_n (zw_o (yq rfl (zqA zI ?_)))); refine And.intro ⟨by omega, by omega⟩ ?_)
      (refine yk (yP rfl (yT (zaf_raw ?_))); refine ⟨(i + 1), _, SLe.refl _ _, ?_⟩)
      exact ⟨by omega, by omega, ⟨rfl, rfl, rfl, rfl, trivial⟩, ⟨rfl, trivial⟩⟩
    · refine loop_ok' (fun k : Nat => k ≤ b.xs.length) (fun k => [(7, .p (.sl (l.map hb))), (8, .p (i64 (l.map hb).length)), (3, .ow 3), (9, .p (i64 i)), (5, .bx 5 0), (6, .p (i64 ((2 * k : Nat) : Int)))]) (fun k => [(3, .row 73 ((Reg.told (l.take i) ++ cutR b k).map rc)), (5, .box [.p (i64 b.y0), .p (i64 b.y1), .p (ints (flat b.xs))])]) (fun k => b.xs.length - k) 0 _ (SLe.refl _ _) (Nat.zero_le _) ⟨rfl, rfl, rfl, rfl, rfl, rfl, trivial⟩ ⟨by rw [cutR]; simp; rfl, rfl, trivial⟩ fun k hk t h => ?_
      have hkl : (cutR b k).length ≤ k := by simp [cutR]; omega
      (refine zw_s (yS (yP rfl (yV rfl (yP rfl (yP rfl (yP rfl (yT (zw_c rfl ?_)))))))); refine bcase_split (fun h2 => ?_) (fun h2 => ?_) <;> try simp only [zB] at h2)
      · rw [bm, fl] at h2
        obtain ⟨p, hp⟩ := get_of (l := b.xs) (i := k) (by omega)
        obtain ⟨g1, g2⟩ := flat_get hp
        ((refine zw_k (zt_n (zw_s (zw_b (zw_d true [true, true, true, true, true, true, true, true, true, true, true, true, true, true, true, true, true, true, true, true] rfl (by kernel_rfl) (zp_s rfl (zp_s rfl (zp_s rfl (zp_s rfl (zp_s rfl (zp_s rfl (zp_s rfl (zp_s rfl (zp_s rfl ?_))))))))))))); refine zp_s rfl (zp_s rfl (zp_s rfl (zp_s rfl (zp_s rfl (zp_s rfl (zp_s rfl (zp_s rfl (zp_n rfl rfl (zp_n rfl rfl (zp_q rfl (dq rfl (zq1 zI (zkd ?_))))))))))))); refine zst_ow (yW rfl (yD rfl (yD rfl (dq rfl (zqX zI ?_)))))); refine ⟨[i64 p.1], (idx rfl g1), ?_⟩)
        (refine zkd (zst_p (yD rfl (yW rfl (yD rfl (yW rfl (yD rfl (yD rfl (dq rfl (zqA zI ?_))))))))); refine And.intro ⟨by omega, by omega⟩ ?_)
        (refine zkd (zst_p (dq rfl (zqX zI ?_))); refine ⟨[i64 p.2], (idx (by omega) g2), ?_⟩)
        (refine zkd (zst_p (yD rfl (yW rfl (yD rfl (yD rfl (dq rfl (zq1 zI (zkdn rfl rfl (zst_ow (dq rfl (zqA zI ?_))))))))))); refine And.intro ⟨one_row rfl, by simp; omega, by simp; omega⟩ ?_)
        ((refine zkden rfl rfl rfl (zsn_e (zsn_0 (zst_ow (dq rfl (zq1 zI (zkd (zst_ow (zd_0 (zr_s rfl (zr_s rfl (zr_s rfl (zr_s rfl (zr_s rfl ?_))))))))))))); refine zr_s rfl (zr_s rfl (zr_s rfl (zr_s rfl (zr_s rfl (zr_s rfl (zr_s rfl (zr_s rfl (zr_s rfl (zr_s rfl (zr_s rfl (zr_s rfl (zr_s rfl (zr_s rfl ?_))))))))))))); refine zr_r rfl rfl rfl rfl rfl (zr_q rfl (zb_n (zt_n (zw_o (yP rfl (yq rfl (zqA zI ?_)))))))); refine And.intro ⟨by omega, by omega⟩ ?_)
        (refine yk (yA rfl (yT (zaf_raw ?_))); refine ⟨(k + 1), _, SLe.refl _ _, ?_⟩)
        refine ⟨by omega, by omega, ⟨rfl, rfl, rfl, rfl, rfl, av_i64 (by omega), trivial⟩, ⟨?_, rfl, trivial⟩⟩
        have hc : cutR b (k + 1) = cutR b k ++ [⟨p.1, b.y0, p.2, b.y1⟩] := by simp [cutR, take_succ' hp]
        have e : (Reg.told (l.take i) ++ cutR b k).map rc ++ [rc ⟨p.1, b.y0, p.2, b.y1⟩] = (Reg.told (l.take i) ++ cutR b (k + 1)).map rc := by
          rw [hc, ← List.append_assoc, List.map_append (l₂ := [_])]
          rfl
        exact congrArg (AB.row 73) e
      · rw [bm, fl] at h2
        refine zw_x (zt_x (zt_x (zb_h (zt_n (zaf_raw (zX zi ?_))))))
        refine ⟨(), trivial, ⟨rfl, rfl, rfl, rfl, trivial⟩, ⟨?_, trivial⟩⟩
        rw [told_step hbb]
        have : cutR b k = b.xs.map fun p => ⟨p.1, b.y0, p.2, b.y1⟩ := by rw [cutR, List.take_of_length_le (by omega)]
        rw [← this]
        rfl
  · rw [lm] at h1
    refine zw_x (zt_x (zt_x (zb_h (zt_n (yS (yq rfl (zq1 zI (zkq (zst_ow (zo_n rfl (zs_ar rfl rfl rfl rfl rfl (yR zi ?_))))))))))))
    rw [List.take_of_length_le (by omega)]
    exact ⟨rfl, rfl, trivial⟩
theorem house_rects (l : List Band) (hN : l.length ≤ 1000000) (hX : ∀ t ∈ l, t.xs.length ≤ 1000000) : ACalls C 127 [.pv (.sl (l.map hb))] (.own 73 ((Reg.told l).map rc)) [] :=
  house_rects' l (by omega) (fun t ht => by have := hX t ht; omega) (by
    have h1 := told_length l hX
    have h3 : l.length * 1000000 ≤ 1000000 * 1000000 := Nat.mul_le_mul_right _ hN
    omega)
end Go.Proofs.YthjfllfhagdnpaaGreatDoor.M
