/- By the machine: doings checked, traces of the reference. -/
import Derived.Test.YtngikpapepnkaaaGreatDoorMShop2
set_option linter.unusedSimpArgs false
set_option linter.unusedVariables false
namespace Go.Proofs.YtngikpapepnkaaaGreatDoor.M
open Go.AM Go.RowKit
open Reg (stab SortedL SameKinds)

def strOK (s : ByteArray) : Prop := s.size < 4294967281
def doingFault (d : Doing) : Int := if wordB d.lot = true then (if inR d.panel 0 199 = true ∧ 0 ≤ d.step ∧ 0 ≤ d.machine ∧ 0 ≤ d.from_ ∧ 0 ≤ d.till then (if d.till < d.from_ then 8 else 0) else 1) else 5
def doingsFault (l : List Doing) : Int := if 3600000 < l.length then 2 else orI (l.map doingFault)
theorem orI_at {α : Type} {l : List α} {f : α → Int} {i : Nat} {x : α} (hn : ∀ y ∈ l.take i, f y = 0) (hx : l[i]? = some x) (h0 : f x ≠ 0) : orI (l.map f) = f x := by
  have e : (l.map f).take i = (l.take i).map f := by rw [List.map_take]
  have hz : ∀ y ∈ (l.map f).take i, y = 0 := fun y hy => by
    rw [e] at hy
    obtain ⟨z, hz, rfl⟩ := List.mem_map.1 hy
    exact hn z hz
  exact orI_none (orI_zero hz) hz (by rw [List.getElem?_map, hx]; rfl) h0
theorem orI_all {α : Type} {l : List α} {f : α → Int} (hn : ∀ y ∈ l, f y = 0) : orI (l.map f) = 0 := orI_zero fun y hy => by
  obtain ⟨z, hz, rfl⟩ := List.mem_map.1 hy
  exact hn z hz
theorem all_succ {α : Type} {l : List α} {f : α → Int} {i : Nat} {x : α} (hn : ∀ y ∈ l.take i, f y = 0) (hx : l[i]? = some x) (h0 : f x = 0) : ∀ y ∈ l.take (i + 1), f y = 0 := fun y hy => by
  rw [take_succ' hx, List.mem_append, List.mem_singleton] at hy
  rcases hy with hy | rfl
  · exact hn y hy
  · exact h0
set_option maxRecDepth 100000 in
set_option maxHeartbeats 1000000 in
theorem house_checkDoings (l : List Doing) (hS : ∀ d ∈ l, strOK d.lot) (hN : l.length ≤ 140737488355328) : ACalls C 16 [.pv (.sl (l.map dc))] (.p (i64 (doingsFault l))) [] := by
  refine fun_go hC Tryz.func16 rfl rfl 51 rfl (by decide) (by kernel_rfl) fun _ _ _ _ _ => ?_
  have lm := len_map l dc
  (refine yS (yA rfl (yT (zw_s (yS (yP rfl (yP rfl (yP rfl (yT (zw_c rfl ?_))))))))); refine bcase_split (fun h0 => ?_) (fun h0 => ?_) <;> try simp only [zB] at h0)
  · (refine yS (yA rfl (yT (zw_r (zt_r (ze_r zi ?_))))); refine And.intro ?_ trivial)
    rw [doingsFault, if_pos (by omega)]; rfl
  · rw [doingsFault, if_neg (by omega)]
    refine zw_k (zt_n (zw_s (yS (yP rfl (yP rfl (yP rfl (yT (zw_b ?_))))))))
    refine loop_ok' (fun i : Nat => i ≤ l.length ∧ ∀ y ∈ l.take i, doingFault y = 0) (fun i => [(8, .p (.sl (l.map dc))), (9, .p (i64 l.length)), (10, .p (i64 i))]) (fun _ => []) (fun i => l.length - i) 0 _ (SLe.refl _ _) ⟨Nat.zero_le _, by simp⟩ ⟨rfl, congrArg (fun n : Nat => AV.p (i64 n)) lm, rfl, trivial⟩ trivial fun i hi t h => ?_
    (refine yS (yP rfl (yT (zw_s (zw_c rfl ?_)))); refine bcase_split (fun h1 => ?_) (fun h1 => ?_) <;> try simp only [zB] at h1)
    · obtain ⟨d, hd⟩ := get_of (l := l) (i := i) (by omega)
      have bad : doingFault d ≠ 0 → orI (l.map doingFault) = doingFault d := orI_at hi.2 hd
      (refine zw_k (zt_n (zw_s (zw_b (yS (yq rfl (zqX zI ?_)))))); refine ⟨(dc d), (idx rfl hd), ?_⟩)
      ((refine yk (yP rfl (yn rfl (zq1 zI (zkns (zst_bx (yq rfl (zq1 zI (zkq (zst_e (zst_0 (yT (zw_b (yS ?_))))))))))))); refine yV rfl (yP rfl (yn rfl (zqX zI ?_)))); refine ⟨_, _, (house_isWord d.lot (by have : d.lot.size < 4294967281 := hS d (List.mem_of_getElem? hd); omega)), ?_⟩)
      (refine zkn rfl rfl (zst_p (yP rfl (yA rfl (yT (zw_c rfl ?_))))); refine bcase_split (fun h2 => ?_) (fun h2 => ?_) <;> try simp only [zB] at h2)
      · (refine yS (yA rfl (yT (zw_r (zb_r (zb_r (zt_r (zt_r (zb_r (zt_r (ze_r zi ?_)))))))))); refine And.intro ?_ trivial)
        have e : doingFault d = 5 := by rw [doingFault, if_neg (by simp [h2])]
        rw [bad (by rw [e]; decide), e]; rfl
      · have e0 : doingFault d = (if inR d.panel 0 199 = true ∧ 0 ≤ d.step ∧ 0 ≤ d.machine ∧ 0 ≤ d.from_ ∧ 0 ≤ d.till then (if d.till < d.from_ then 8 else 0) else 1) := by rw [doingFault, if_pos (by simpa using h2)]
        have bad1 : ¬ (inR d.panel 0 199 = true ∧ 0 ≤ d.step ∧ 0 ≤ d.machine ∧ 0 ≤ d.from_ ∧ 0 ≤ d.till) → orI (l.map doingFault) = 1 := fun hb => by rw [if_neg hb] at e0; rw [bad (by rw [e0]; decide), e0]
        (refine yS (yV rfl (yP rfl (yn rfl (zqX zI ?_)))); refine ⟨_, _, (house_isPanel d.panel), ?_⟩)
        (refine zkn rfl rfl (zst_p (yP rfl (yP rfl (yg rfl ?_)))); refine bcase_split (fun h3 => ?_) (fun h3 => ?_) <;> try simp only [zB] at h3)
        · ((refine zg_f (zst_p (y0 rfl (y0 rfl (yP rfl (yP rfl (y0 rfl (y0 rfl (y0 rfl (yP rfl (yP rfl (y0 rfl (y0 rfl (y0 rfl ?_))))))))))))); refine yP rfl (yP rfl (y0 rfl (y0 rfl (y0 rfl (yP rfl (yA rfl (yT (zw_c rfl (zc_t (yS (yA rfl (yT (zw_r ?_))))))))))))); refine zb_r (zb_r (zt_r (zt_r (zb_r (zt_r (ze_r zi ?_))))))); refine And.intro ?_ trivial)
          rw [bad1 (fun hb => by first | (simp_all; done) | omega)]; rfl
        · (refine zg_t (zs_q rfl rfl (zq1 zI (zkq (zst_bx (y1 rfl (y1 rfl (yP rfl (yP rfl (yg rfl ?_))))))))); refine bcase_split (fun h4 => ?_) (fun h4 => ?_) <;> try simp only [zB] at h4)
          · ((refine zg_f (zst_p (y0 rfl (y0 rfl (yP rfl (yP rfl (y0 rfl (y0 rfl (y0 rfl (yP rfl (yP rfl (y0 rfl (y0 rfl (y0 rfl ?_))))))))))))); refine yP rfl (yA rfl (yT (zw_c rfl (zc_t (yS (yA rfl (yT (zw_r (zb_r (zb_r (zt_r (zt_r (zb_r ?_))))))))))))); refine zt_r (ze_r zi ?_)); refine And.intro ?_ trivial)
            rw [bad1 (fun hb => by first | (simp_all; done) | omega)]; rfl
          · (refine zg_t (zs_q rfl rfl (zq1 zI (zkq (zst_bx (y1 rfl (y1 rfl (yP rfl (yP rfl (yg rfl ?_))))))))); refine bcase_split (fun h5 => ?_) (fun h5 => ?_) <;> try simp only [zB] at h5)
            · ((refine zg_f (zst_p (y0 rfl (y0 rfl (yP rfl (yP rfl (y0 rfl (y0 rfl (y0 rfl (yP rfl (yA rfl (yT (zw_c rfl (zc_t ?_))))))))))))); refine yS (yA rfl (yT (zw_r (zb_r (zb_r (zt_r (zt_r (zb_r (zt_r (ze_r zi ?_))))))))))); refine And.intro ?_ trivial)
              rw [bad1 (fun hb => by first | (simp_all; done) | omega)]; rfl
            · (refine zg_t (zs_q rfl rfl (zq1 zI (zkq (zst_bx (y1 rfl (y1 rfl (yP rfl (yP rfl (yg rfl ?_))))))))); refine bcase_split (fun h6 => ?_) (fun h6 => ?_) <;> try simp only [zB] at h6)
              · ((refine zg_f (zst_p (y0 rfl (y0 rfl (yP rfl (yA rfl (yT (zw_c rfl (zc_t (yS (yA rfl (yT (zw_r (zb_r ?_))))))))))))); refine zb_r (zt_r (zt_r (zb_r (zt_r (ze_r zi ?_)))))); refine And.intro ?_ trivial)
                rw [bad1 (fun hb => by first | (simp_all; done) | omega)]; rfl
              · (refine zg_t (zs_q rfl rfl (zq1 zI (zkq (zst_bx (y1 rfl (y1 rfl (yP rfl (yA rfl (yT (zw_c rfl ?_)))))))))); refine bcase_split (fun h7 => ?_) (fun h7 => ?_) <;> try simp only [zB] at h7)
                · (refine yS (yA rfl (yT (zw_r (zb_r (zb_r (zt_r (zt_r (zb_r (zt_r (ze_r zi ?_)))))))))); refine And.intro ?_ trivial)
                  rw [bad1 (fun hb => by first | (simp_all; done) | omega)]; rfl
                · have good : inR d.panel 0 199 = true ∧ 0 ≤ d.step ∧ 0 ≤ d.machine ∧ 0 ≤ d.from_ ∧ 0 ≤ d.till := ⟨by simpa using h3, by omega, by omega, by omega, by omega⟩
                  rw [if_pos good] at e0
                  (refine yS (yV rfl (yP rfl (yV rfl (yP rfl (yP rfl (yA rfl (yT (zw_c rfl ?_)))))))); refine bcase_split (fun h8 => ?_) (fun h8 => ?_) <;> try simp only [zB] at h8)
                  · (refine yS (yA rfl (yT (zw_r (zb_r (zb_r (zt_r (zt_r (zb_r (zt_r (ze_r zi ?_)))))))))); refine And.intro ?_ trivial)
                    rw [if_pos h8] at e0
                    rw [bad (by rw [e0]; decide), e0]; rfl
                  · rw [if_neg h8] at e0
                    (refine zw_k (zb_n (zb_n (zt_n (zw_o (yq rfl (zqA zI ?_)))))); refine And.intro ⟨by omega, by omega⟩ ?_)
                    (refine yk (yP rfl (yT (zaf_raw ?_))); refine ⟨(i + 1), _, SLe.refl _ _, ?_⟩)
                    exact ⟨⟨by omega, all_succ hi.2 hd e0⟩, by omega, ⟨rfl, rfl, rfl, trivial⟩, trivial⟩
    · (refine zw_x (zt_x (zt_x (zb_h (zt_n (yS (yA rfl (yR zi ?_))))))); refine And.intro ?_ trivial)
      rw [orI_all fun y hy => hi.2 y (by rw [List.take_of_length_le (by omega)]; exact hy)]
      rfl
set_option maxRecDepth 100000 in
set_option maxHeartbeats 1000000 in
theorem ref12_checkDoings (l : List Doing) (hS : ∀ d ∈ l, strOK d.lot) (hN : l.length ≤ 140737488355328) : ACalls C 20 [.pv (.sl (l.map dc))] (.p (i64 (doingsFault l))) [] := by
  refine fun_go hC Tryz.func20 rfl rfl 51 rfl (by decide) (by kernel_rfl) fun _ _ _ _ _ => ?_
  have lm := len_map l dc
  (refine yS (yA rfl (yT (zw_s (yS (yP rfl (yP rfl (yP rfl (yT (zw_c rfl ?_))))))))); refine bcase_split (fun h0 => ?_) (fun h0 => ?_) <;> try simp only [zB] at h0)
  · (refine yS (yA rfl (yT (zw_r (zt_r (ze_r zi ?_))))); refine And.intro ?_ trivial)
    rw [doingsFault, if_pos (by omega)]; rfl
  · rw [doingsFault, if_neg (by omega)]
    refine zw_k (zt_n (zw_s (yS (yA rfl (yT (zw_b ?_))))))
    refine loop_ok' (fun i : Nat => i ≤ l.length ∧ ∀ y ∈ l.take i, doingFault y = 0) (fun i => [(0, .p (.sl (l.map dc))), (3, .p (i64 i))]) (fun _ => []) (fun i => l.length - i) 0 _ (SLe.refl _ _) ⟨Nat.zero_le _, by simp⟩ ⟨rfl, rfl, trivial⟩ trivial fun i hi t h => ?_
    (refine zw_s (yS (yP rfl (yP rfl (yP rfl (yP rfl (yT (zw_c rfl ?_))))))); refine bcase_split (fun h1 => ?_) (fun h1 => ?_) <;> try simp only [zB] at h1)
    · obtain ⟨d, hd⟩ := get_of (l := l) (i := i) (by omega)
      have bad : doingFault d ≠ 0 → orI (l.map doingFault) = doingFault d := orI_at hi.2 hd
      (refine zw_k (zt_n (zw_s (zw_b (yS (yP rfl (yP rfl (yq rfl (zqX zI ?_)))))))); refine ⟨(dc d), (idx rfl hd), ?_⟩)
      ((refine yk (yP rfl (yn rfl (zq1 zI (zkns (zst_bx (yq rfl (zq1 zI (zkq (zst_e (zst_0 (yT (zw_s (yS ?_))))))))))))); refine yV rfl (yP rfl (yn rfl (zqX zI ?_)))); refine ⟨_, _, (ref5_isWord d.lot (by have : d.lot.size < 4294967281 := hS d (List.mem_of_getElem? hd); omega)), ?_⟩)
      (refine zkn rfl rfl (zst_p (yP rfl (yT (zw_c rfl ?_)))); refine bcase_split (fun h2 => ?_) (fun h2 => ?_) <;> try simp only [zB] at h2)
      · (refine yS (yA rfl (yT (zw_r (zt_r (zb_r (zt_r (zt_r (zb_r (zt_r (ze_r zi ?_)))))))))); refine And.intro ?_ trivial)
        have e : doingFault d = 5 := by rw [doingFault, if_neg (by simp [h2])]
        rw [bad (by rw [e]; decide), e]; rfl
      · have e0 : doingFault d = (if inR d.panel 0 199 = true ∧ 0 ≤ d.step ∧ 0 ≤ d.machine ∧ 0 ≤ d.from_ ∧ 0 ≤ d.till then (if d.till < d.from_ then 8 else 0) else 1) := by rw [doingFault, if_pos (by simpa using h2)]
        have bad1 : ¬ (inR d.panel 0 199 = true ∧ 0 ≤ d.step ∧ 0 ≤ d.machine ∧ 0 ≤ d.from_ ∧ 0 ≤ d.till) → orI (l.map doingFault) = 1 := fun hb => by rw [if_neg hb] at e0; rw [bad (by rw [e0]; decide), e0]
        (refine zw_k (zt_n (zw_s (yS (yV rfl (yP rfl (yn rfl (zqX zI ?_))))))); refine ⟨_, _, (ref12_inRange d.panel 0 199), ?_⟩)
        (refine zkn rfl rfl (zst_p (yP rfl (yP rfl (yg rfl ?_)))); refine bcase_split (fun h3 => ?_) (fun h3 => ?_) <;> try simp only [zB] at h3)
        · ((refine zg_f (zst_p (y0 rfl (y0 rfl (yP rfl (yP rfl (y0 rfl (y0 rfl (y0 rfl (yP rfl (yP rfl (y0 rfl (y0 rfl (y0 rfl ?_))))))))))))); refine yP rfl (yP rfl (y0 rfl (y0 rfl (y0 rfl (yP rfl (yT (zw_c rfl (zc_t (yS (yA rfl (yT (zw_r (zt_r ?_))))))))))))); refine zb_r (zt_r (zt_r (zb_r (zt_r (ze_r zi ?_)))))); refine And.intro ?_ trivial)
          rw [bad1 (fun hb => by first | (simp_all; done) | omega)]; rfl
        · (refine zg_t (zs_q rfl rfl (zq1 zI (zkq (zst_bx (y1 rfl (y1 rfl (yP rfl (yP rfl (yg rfl ?_))))))))); refine bcase_split (fun h4 => ?_) (fun h4 => ?_) <;> try simp only [zB] at h4)
          · ((refine zg_f (zst_p (y0 rfl (y0 rfl (yP rfl (yP rfl (y0 rfl (y0 rfl (y0 rfl (yP rfl (yP rfl (y0 rfl (y0 rfl (y0 rfl ?_))))))))))))); refine yP rfl (yT (zw_c rfl (zc_t (yS (yA rfl (yT (zw_r (zt_r (zb_r (zt_r (zt_r (zb_r (zt_r ?_))))))))))))); refine ze_r zi ?_); refine And.intro ?_ trivial)
            rw [bad1 (fun hb => by first | (simp_all; done) | omega)]; rfl
          · (refine zg_t (zs_q rfl rfl (zq1 zI (zkq (zst_bx (y1 rfl (y1 rfl (yP rfl (yP rfl (yg rfl ?_))))))))); refine bcase_split (fun h5 => ?_) (fun h5 => ?_) <;> try simp only [zB] at h5)
            · ((refine zg_f (zst_p (y0 rfl (y0 rfl (yP rfl (yP rfl (y0 rfl (y0 rfl (y0 rfl (yP rfl (yT (zw_c rfl (zc_t (yS ?_))))))))))))); refine yA rfl (yT (zw_r (zt_r (zb_r (zt_r (zt_r (zb_r (zt_r (ze_r zi ?_)))))))))); refine And.intro ?_ trivial)
              rw [bad1 (fun hb => by first | (simp_all; done) | omega)]; rfl
            · (refine zg_t (zs_q rfl rfl (zq1 zI (zkq (zst_bx (y1 rfl (y1 rfl (yP rfl (yP rfl (yg rfl ?_))))))))); refine bcase_split (fun h6 => ?_) (fun h6 => ?_) <;> try simp only [zB] at h6)
              · ((refine zg_f (zst_p (y0 rfl (y0 rfl (yP rfl (yT (zw_c rfl (zc_t (yS (yA rfl (yT (zw_r (zt_r (zb_r ?_))))))))))))); refine zt_r (zt_r (zb_r (zt_r (ze_r zi ?_))))); refine And.intro ?_ trivial)
                rw [bad1 (fun hb => by first | (simp_all; done) | omega)]; rfl
              · (refine zg_t (zs_q rfl rfl (zq1 zI (zkq (zst_bx (y1 rfl (y1 rfl (yP rfl (yT (zw_c rfl ?_))))))))); refine bcase_split (fun h7 => ?_) (fun h7 => ?_) <;> try simp only [zB] at h7)
                · (refine yS (yA rfl (yT (zw_r (zt_r (zb_r (zt_r (zt_r (zb_r (zt_r (ze_r zi ?_)))))))))); refine And.intro ?_ trivial)
                  rw [bad1 (fun hb => by first | (simp_all; done) | omega)]; rfl
                · have good : inR d.panel 0 199 = true ∧ 0 ≤ d.step ∧ 0 ≤ d.machine ∧ 0 ≤ d.from_ ∧ 0 ≤ d.till := ⟨by simpa using h3, by omega, by omega, by omega, by omega⟩
                  rw [if_pos good] at e0
                  (refine zw_k (zt_n (yS (yV rfl (yP rfl (yV rfl (yP rfl (yP rfl (yT (zw_c rfl ?_))))))))); refine bcase_split (fun h8 => ?_) (fun h8 => ?_) <;> try simp only [zB] at h8)
                  · (refine yS (yA rfl (yT (zw_r (zb_r (zt_r (zt_r (zb_r (zt_r (ze_r zi ?_))))))))); refine And.intro ?_ trivial)
                    rw [if_pos h8] at e0
                    rw [bad (by rw [e0]; decide), e0]; rfl
                  · rw [if_neg h8] at e0
                    (refine zw_k (zb_n (zt_n (zw_o (yP rfl (yq rfl (zqA zI ?_)))))); refine And.intro ⟨by omega, by omega⟩ ?_)
                    (refine yk (yA rfl (yT (zaf_raw ?_))); refine ⟨(i + 1), _, SLe.refl _ _, ?_⟩)
                    exact ⟨⟨by omega, all_succ hi.2 hd e0⟩, by omega, ⟨rfl, rfl, trivial⟩, trivial⟩
    · (refine zw_x (zt_x (zt_x (zb_h (zt_n (yS (yA rfl (yR zi ?_))))))); refine And.intro ?_ trivial)
      rw [orI_all fun y hy => hi.2 y (by rw [List.take_of_length_le (by omega)]; exact hy)]
      rfl
end Go.Proofs.YtngikpapepnkaaaGreatDoor.M
