/- By the machine: the reference of rules, its small functions. -/
import Derived.Test.YthjfllfhagdnpaaGreatDoorMReg5
set_option linter.unusedSimpArgs false
set_option linter.unusedVariables false
namespace Go.Proofs.YthjfllfhagdnpaaGreatDoor.M
open Go.AM Go.RowKit
open Reg (Rect Spans Band)

def str (s : ByteArray) : PV := .im (.string s)
/-- lists of texts by content -/
def strs (l : List ByteArray) : PV := .sl (l.map fun s => [str s])
def isRule (n : Int) : Bool := decide (0 ≤ n) && decide (n ≤ 100000)
theorem ref6_within (n lo hi : Int) : ACalls C 85 [.pv (i64 n), .pv (i64 lo), .pv (i64 hi)] (.p (bool (decide (lo ≤ n) && decide (n ≤ hi)))) [] := by
  refine fun_go hC Tryz.func85 rfl rfl 15 rfl (by decide) (by kernel_rfl) fun _ _ _ _ _ => ?_
  (refine yS (yA rfl (yU (yP rfl (yP rfl (yP rfl (yP rfl (yg rfl ?_))))))); refine bcase_split (fun h => ?_) (fun h => ?_) <;> try simp only [zB] at h) <;> ((first | (refine zg_t (zs_q rfl rfl (zq1 zI (yk (y1 rfl (y1 rfl (yP rfl (yA rfl (yR zi ?_))))))))) | (refine zg_f (zst_p (y0 rfl (y0 rfl (yP rfl (yA rfl (yR zi ?_)))))))); refine And.intro ?_ trivial) <;> simp [bool, h]
theorem ref6_rule (n : Int) : ACalls C 59 [.pv (i64 n)] (.p (bool (isRule n))) [] := by
  refine fun_go hC Tryz.func59 rfl rfl 5 rfl (by decide) (by kernel_rfl) fun _ _ _ _ _ => ?_
  (refine yS (yA rfl (yU (yP rfl (yn rfl (zqX zI ?_))))); refine ⟨_, _, (ref6_within n 0 100000), ?_⟩)
  (refine zkn rfl rfl (zst_p (yA rfl (yR zi ?_))); refine And.intro ?_ trivial)
  rfl
def hasB (l : List ByteArray) (x : ByteArray) : Bool := l.any fun y => decide (y = x)
theorem hasB_iff {l : List ByteArray} {x : ByteArray} : hasB l x = true ↔ x ∈ l := by
  simp [hasB]
theorem ref6_has (l : List ByteArray) (x : ByteArray) (hN : l.length ≤ 140737488355328) : ACalls C 256 [.pv (strs l), .pv (str x)] (.p (bool (hasB l x))) [] := by
  refine fun_go hC Tryz.func256 rfl rfl 18 rfl (by decide) (by kernel_rfl) fun _ _ _ _ _ => ?_
  have lm := len_map l fun s => [str s]
  refine yS (yA rfl (yT (zw_s (yS (yA rfl (yT (zw_b ?_)))))))
  refine loop_ok' (fun i : Nat => i ≤ l.length ∧ x ∉ l.take i) (fun i => [(0, .p (strs l)), (1, .p (str x)), (5, .p (i64 i))]) (fun _ => []) (fun i => l.length - i) 0 _ (SLe.refl _ _) ⟨Nat.zero_le _, by simp⟩ ⟨rfl, rfl, rfl, trivial⟩ trivial fun i hi t h => ?_
  (refine zw_s (yS (yP rfl (yP rfl (yP rfl (yP rfl (yT (zw_c rfl ?_))))))); refine bcase_split (fun h1 => ?_) (fun h1 => ?_) <;> try simp only [zB] at h1)
  · rw [lm] at h1
    obtain ⟨y, hy⟩ := get_of (l := l) (i := i) (by omega)
    (refine zw_k (zt_n (zw_s (zw_b (yS (yP rfl (yP rfl (yq rfl (zqX zI ?_)))))))); refine ⟨[str y], (idx rfl hy), ?_⟩)
    (refine yk (yP rfl (yP rfl (yP rfl (yT (zw_c rfl ?_))))); refine bcase_split (fun h2 => ?_) (fun h2 => ?_) <;> try simp only [zB] at h2)
    · (refine yS (yA rfl (yT (zw_r (zb_r (zt_r (zt_r (zb_r (zt_r (ze_r zi ?_))))))))); refine And.intro ?_ trivial)
      rw [hasB_iff.2 (by rw [← h2]; exact List.mem_of_getElem? hy)]
      rfl
    · (refine zw_k (zb_n (zt_n (zw_o (yP rfl (yq rfl (zqA zI ?_)))))); refine And.intro ⟨by omega, by omega⟩ ?_)
      (refine yk (yA rfl (yT (zaf_raw ?_))); refine ⟨(i + 1), _, SLe.refl _ _, ?_⟩)
      refine ⟨⟨by omega, ?_⟩, by omega, ⟨rfl, rfl, rfl, trivial⟩, trivial⟩
      rw [take_succ' hy, List.mem_append, List.mem_singleton]
      rintro (h | h)
      · exact hi.2 h
      · exact h2 h.symm
  · rw [lm] at h1
    (refine zw_x (zt_x (zt_x (zb_h (zt_n (yS (yA rfl (yR zi ?_))))))); refine And.intro ?_ trivial)
    have h2 := hi.2
    rw [List.take_of_length_le (by omega)] at h2
    rw [show hasB l x = false by rw [Bool.eq_false_iff]; exact fun h => h2 (hasB_iff.1 h)]
    rfl
end Go.Proofs.YthjfllfhagdnpaaGreatDoor.M
