/- By the machine: words and paths of the house. -/
import Derived.Test.YtcfhiodoogkcpaaGreatDoorMHouse1
set_option linter.unusedSimpArgs false
set_option linter.unusedVariables false
namespace Go.Proofs.YtcfhiodoogkcpaaGreatDoor.M
open Go.AM Go.RowKit
open Reg (Rect Spans Band)

set_option maxRecDepth 100000 in
set_option maxHeartbeats 1000000 in
theorem house_isWord (s : ByteArray) (hs : s.size ≤ 9223372036854775807) : ACalls C 55 [.pv (str s)] (.p (bool (wordB s))) [] := by
  refine fun_go hC Tryz.func55 rfl rfl 49 rfl (by decide) (by kernel_rfl) fun _ _ _ _ _ => ?_
  have hsz : s.data.toList.length = s.size := by simp
  refine yS (yA rfl (yT (zw_s (yS (yP rfl (yP rfl (yP rfl (yT (zw_b ?_)))))))))
  refine loop_ok' (fun i : Nat => i ≤ s.size ∧ (s.data.toList.take i).all okB = true) (fun i => [(0, .p (str s)), (6, .p (i64 s.size)), (7, .p (i64 i))]) (fun _ => []) (fun i => s.size - i) 0 _ (SLe.refl _ _) ⟨Nat.zero_le _, by simp⟩ ⟨rfl, rfl, rfl, trivial⟩ trivial fun i hi t h => ?_
  (refine yS (yP rfl (yT (zw_s (zw_c rfl ?_)))); refine bcase_split (fun h1 => ?_) (fun h1 => ?_) <;> try simp only [zB] at h1)
  · obtain ⟨b, hb, hb'⟩ := byte_get (s := s) (i := i) (by omega)
    have hbad : okB b = false → wordB s = false := fun h => by
      rw [wordB, Bool.and_eq_false_iff]
      refine .inl ?_
      rw [List.all_eq_false]
      exact ⟨b, List.mem_of_getElem? hb', by simp [h]⟩
    have hnext : okB b = true → (s.data.toList.take (i + 1)).all okB = true := fun h => by rw [take_succ' hb', List.all_append, hi.2]; simp [h]
    (refine zw_k (zt_n (zw_s (zw_b (yS (yP rfl (yA rfl (yU (yP rfl (yP rfl (yq rfl (zqX zI ?_))))))))))); refine ⟨b, ⟨by omega, by rw [Int.toNat_natCast]; exact hb⟩, ?_⟩)
    have hix := indexByte_any ⟨#[95, 43, 45, 35]⟩ b.toNat
    rw [byte_back] at hix
    repeat' first | ((first | (refine zg_f (zst_p (y0 rfl (y1 rfl (yP rfl (yP rfl (y1 rfl (y1 rfl (y1 rfl (yg rfl ?_)))))))))) | (refine zg_f (zst_p (y0 rfl (yP rfl (yP rfl (y1 rfl (y1 rfl (y1 rfl (yg rfl ?_))))))))) | (refine zg_t (zs_q rfl rfl (zq1 zI (yk (y1 rfl (y1 rfl (yP rfl (yP rfl (yg rfl ?_))))))))) | (refine zg_t (zs_q rfl rfl (zq1 zI (yk (y1 rfl (y1 rfl (yg rfl ?_))))))) | (refine yk (yA rfl (yU (yP rfl (yP rfl (yP rfl (yg rfl ?_))))))) | (refine zg_t (zs_q rfl rfl (zq1 zI (yk (y1 rfl (yP rfl (yP rfl (yg rfl ?_)))))))) | (refine zkn rfl rfl (zst_p (y1 rfl (yP rfl (yT (zw_c rfl ?_))))))); refine bcase_split (fun h => ?_) (fun h => ?_) <;> try simp only [zB] at h) | ((first | (refine zg_f (zst_p (y0 rfl (y1 rfl (yP rfl (yP rfl (y1 rfl (y2 rfl (zs_n rfl rfl rfl (zqX zI ?_)))))))))) | (refine zg_t (zs_q rfl rfl (zq1 zI (yk (y2 rfl (zs_n rfl rfl rfl (zqX zI ?_)))))))); refine ⟨_, _, hix, ?_⟩)
    all_goals (first | (refine zg_f (zst_p (y0 rfl (y0 rfl (zo_gu rfl rfl rfl rfl (zst_p (zo_gu rfl rfl rfl rfl (zst_p (y0 rfl (yP rfl (yP rfl (y0 rfl (y0 rfl (y0 rfl ?_))))))))))))); refine zo_gu rfl rfl rfl rfl (zst_p (zo_gu rfl rfl rfl rfl (zst_p (y0 rfl (yP rfl (yP rfl (y0 rfl (y0 rfl (y0 rfl (yP rfl (yT (zw_c rfl (zc_f ?_))))))))))))); refine zw_k (zb_n (zt_n (zw_o (yq rfl (zqA zI ?_)))))) | (refine zg_f (zst_p (y0 rfl (y0 rfl (zo_gu rfl rfl rfl rfl (zst_p (zo_gu rfl rfl rfl rfl (zst_p (y0 rfl (yP rfl (yP rfl (y0 rfl (y0 rfl (y0 rfl ?_))))))))))))); refine yP rfl (yT (zw_c rfl (zc_f (zw_k (zb_n (zt_n (zw_o (yq rfl (zqA zI ?_)))))))))) | (refine zg_f (zst_p (y0 rfl (y0 rfl (yP rfl (yT (zw_c rfl (zc_f (zw_k (zb_n (zt_n (zw_o (yq rfl (zqA zI ?_)))))))))))))) | (refine yS (yA rfl (yT (zw_r (zb_r (zt_r (zt_r (zb_r (zt_r (ze_r zi ?_)))))))))) | (refine zw_k (zb_n (zt_n (zw_o (yq rfl (zqA zI ?_)))))))
    all_goals first
      | (refine And.intro ⟨by omega, by omega⟩ ?_
         (refine yk (yP rfl (yT (zaf_raw ?_))); refine ⟨(i + 1), _, SLe.refl _ _, ?_⟩)
         exact ⟨⟨by omega, hnext (by simp only [okB, Bool.or_eq_true, Bool.and_eq_true, decide_eq_true_eq, Bool.not_eq_true', decide_eq_false_iff_not]; omega)⟩, by omega, ⟨rfl, rfl, rfl, trivial⟩, trivial⟩)
      | (refine And.intro ?_ trivial
         rw [hbad (by simp only [okB, Bool.or_eq_false_iff, Bool.and_eq_false_iff, decide_eq_false_iff_not, Bool.not_eq_false', decide_eq_true_eq]; omega)]
         rfl)
  · have hall : s.data.toList.all okB = true := by
      have := hi.2
      rwa [List.take_of_length_le (by omega)] at this
    (refine zw_x (zt_x (zt_x (zb_h (zt_n (yS (yP rfl (yP rfl (yP rfl (yP rfl (yg rfl ?_)))))))))); refine bcase_split (fun h2 => ?_) (fun h2 => ?_) <;> try simp only [zB] at h2)
    · (refine zg_t (zs_q rfl rfl (zq1 zI (yk (y1 rfl (y1 rfl (yP rfl (yA rfl (yR zi ?_)))))))); refine And.intro ?_ trivial)
      simp [bool, wordB, hall, h2]
    · (refine zg_f (zst_p (y0 rfl (y0 rfl (yP rfl (yA rfl (yR zi ?_)))))); refine And.intro ?_ trivial)
      simp [bool, wordB, hall, h2]
theorem isPath_1 (s : ByteArray) (hs : s.size ≤ 9223372036854775807) : ACalls C 97 [.pv (str s)] (.p (bool (!wordB s))) [] := by
  refine fun_go hC Tryz.func97 rfl rfl 6 rfl (by decide) (by kernel_rfl) fun _ _ _ _ _ => ?_
  (refine yS (yA rfl (yU (yP rfl (yn rfl (zqX zI ?_))))); refine ⟨_, _, (house_isWord s hs), ?_⟩)
  (refine zkn rfl rfl (zst_p (yP rfl (yA rfl (yR zi ?_)))); refine And.intro ?_ trivial)
  rfl
theorem index_str (l : List ByteArray) (hN : l.length ≤ 140737488355328) (hS : ∀ s ∈ l, s.size ≤ 9223372036854775807) : ACalls C 123 [.pv (strs l), .pv (.im (.func (.func 97) #[] #[]))] (.p (i64 (firstP (fun s => !wordB s) l 0))) [] := by
  refine fun_go hC Tryz.func123 rfl rfl 19 rfl (by decide) (by kernel_rfl) fun _ _ _ _ _ => ?_
  have lm := len_map l fun s => [str s]
  refine yS (yA rfl (yT (zw_s (yS (yP rfl (yP rfl (yP rfl (yT (zw_b ?_)))))))))
  refine loop_ok' (fun i : Nat => i ≤ l.length ∧ ∀ x ∈ l.take i, (!wordB x) = false) (fun i => [(0, .p (strs l)), (1, .p (.im (.func (.func 97) #[] #[]))), (7, .p (i64 (l.map fun s => [str s]).length)), (8, .p (i64 i))]) (fun _ => []) (fun i => l.length - i) 0 _ (SLe.refl _ _) ⟨Nat.zero_le _, by simp⟩ ⟨rfl, rfl, rfl, rfl, trivial⟩ trivial fun i hi t h => ?_
  (refine yS (yP rfl (yT (zw_s (zw_c rfl ?_)))); refine bcase_split (fun h1 => ?_) (fun h1 => ?_) <;> try simp only [zB] at h1)
  · rw [lm] at h1
    obtain ⟨x, hx⟩ := get_of (l := l) (i := i) (by omega)
    (refine zw_k (zt_n (zw_s (zw_b (yS (yP rfl (yA rfl (yU (yP rfl (yP rfl (yP rfl (yq rfl (zqX zI ?_)))))))))))); refine ⟨[str x], (idx rfl hx), ?_⟩)
    (refine yk (yP rfl (yn rfl (zqX zI ?_))); refine ⟨_, _, (isPath_1 x (hS x (List.mem_of_getElem? hx))), ?_⟩)
    (refine zkn rfl rfl (zst_p (yT (zw_c rfl ?_))); refine bcase_split (fun h2 => ?_) (fun h2 => ?_) <;> try simp only [zB] at h2)
    · (refine yS (yP rfl (yA rfl (yT (zw_r (zb_r (zt_r (zt_r (zb_r (zt_r (ze_r zi ?_)))))))))); refine And.intro ?_ trivial)
      rw [firstP_at hx (by simp [h2]) hi.2, Nat.zero_add]
    · (refine zw_k (zb_n (zt_n (zw_o (yq rfl (zqA zI ?_))))); refine And.intro ⟨by omega, by omega⟩ ?_)
      (refine yk (yP rfl (yT (zaf_raw ?_))); refine ⟨(i + 1), _, SLe.refl _ _, ?_⟩)
      exact ⟨⟨by omega, take_no hx (by simp [h2]) hi.2⟩, by omega, ⟨rfl, rfl, rfl, rfl, trivial⟩, trivial⟩
  · rw [lm] at h1
    (refine zw_x (zt_x (zt_x (zb_h (zt_n (yS (yA rfl (yR zi ?_))))))); refine And.intro ?_ trivial)
    have h2 := hi.2
    rw [List.take_of_length_le (by omega)] at h2
    rw [firstP_none h2]
    rfl
theorem contains_str (l : List ByteArray) (hN : l.length ≤ 140737488355328) (hS : ∀ s ∈ l, s.size ≤ 9223372036854775807) : ACalls C 95 [.pv (strs l), .pv (.im (.func (.func 97) #[] #[]))] (.p (bool (l.any fun s => !wordB s))) [] := by
  refine fun_go hC Tryz.func95 rfl rfl 9 rfl (by decide) (by kernel_rfl) fun _ _ _ _ _ => ?_
  (refine yS (yA rfl (yU (yP rfl (yP rfl (yn rfl (zqX zI ?_)))))); refine ⟨_, _, (index_str l hN hS), ?_⟩)
  (refine zkn rfl rfl (zst_p (yP rfl (yA rfl (yR zi ?_)))); refine And.intro ?_ trivial)
  rw [← firstP_any _ l 0]
  rfl
theorem any_not {α : Type} (p : α → Bool) : ∀ l : List α, (!l.any fun s => !p s) = l.all p := by
  intro l
  induction l with
  | nil => rfl
  | cons x l ih => rw [List.any_cons, List.all_cons, ← ih, Bool.not_or, Bool.not_not]
theorem house_isPath (s : ByteArray) (hs : s.size < 4294967281) : ACalls C 56 [.pv (str s)] (.p (bool (pathB s))) [] := by
  refine fun_go hC Tryz.func56 rfl rfl 12 rfl (by decide) (by kernel_rfl) fun _ _ _ _ _ => ?_
  have pl := parts_le s
  (refine yS (yA rfl (yU (yP rfl (yP rfl (yP rfl (yP rfl (yg rfl ?_))))))); refine bcase_split (fun h1 => ?_) (fun h1 => ?_) <;> try simp only [zB] at h1)
  · (refine zg_t (zs_q rfl rfl (zq1 zI (yk (y2 rfl (zs_n rfl rfl rfl (zqX zI ?_)))))); refine ⟨_, _, (split_any s hs), ?_⟩)
    (refine zkns (zst_ow (y2 rfl (zs_n rfl rfl rfl (zqX zI ?_)))); refine ⟨_, _, (contains_str (parts s) (by omega) fun x hx => by have := splitB_size _ _ _ x hx; omega), ?_⟩)
    (refine zkn rfl rfl (zst_p (y1 rfl (yP rfl (yA rfl (yR zi ?_))))); refine And.intro ?_ trivial)
    rw [any_not, pathB, decide_eq_true h1, Bool.and_true]
    rfl
  · (refine zg_f (zst_p (y0 rfl (y0 rfl (y0 rfl (yP rfl (yA rfl (yR zi ?_))))))); refine And.intro ?_ trivial)
    rw [pathB, decide_eq_false h1, Bool.and_false]
    rfl
end Go.Proofs.YtcfhiodoogkcpaaGreatDoor.M
