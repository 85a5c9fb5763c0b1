/- By the machine: Yield, of both sides. -/
import Derived.Test.YtngikpapepnkaaaGreatDoorMTrace1
set_option linter.unusedSimpArgs false
set_option linter.unusedVariables false
namespace Go.Proofs.YtngikpapepnkaaaGreatDoor.M
open Go.AM Go.RowKit

/-- what became of a panel -/
structure Made where
  lot : ByteArray
  panel : Int
  done : Bool
  at_ : Int
  rework : Int
def mc (m : Made) : List PV := [str m.lot, i64 m.panel, bool m.done, i64 m.at_, i64 m.rework]
def madeFault (m : Made) : Int := if wordB m.lot = true then (if inR m.panel 0 199 = true ∧ 0 ≤ m.at_ ∧ 0 ≤ m.rework then 0 else 1) else 5
def madesFault (l : List Made) : Int := if 20000 < l.length then 2 else orI (l.map madeFault)
def doneN (l : List Made) : Nat := (l.filter Made.done).length
def yieldF (l : List Made) : Int × Int × Int := if madesFault l = 0 then (if l.length = 0 then (0, 1, 0) else ((doneN l / Nat.gcd (doneN l) l.length : Nat), (l.length / Nat.gcd (doneN l) l.length : Nat), 0)) else (0, 0, madesFault l)
theorem done_succ {l : List Made} {i : Nat} {m : Made} (hm : l[i]? = some m) : doneN (l.take (i + 1)) = doneN (l.take i) + (if m.done = true then 1 else 0) := by
  unfold doneN
  rw [take_succ' hm, List.filter_append, List.length_append]
  congr 1
  cases h : m.done <;> simp [List.filter_cons, h]
theorem done_le (l : List Made) : doneN l ≤ l.length := List.length_filter_le _ _
/-- the remainder, step by step -/
theorem gcd_step {a b : Nat} (h : b ≠ 0) : Nat.gcd b (a % b) = Nat.gcd a b := by
  rw [Nat.gcd_comm a b, Nat.gcd_rec b a, Nat.gcd_comm]
theorem tmod_nat (a b : Nat) : ((a : Int).tmod (b : Int)) = ((a % b : Nat) : Int) := rfl
theorem tdiv_nat (a b : Nat) : ((a : Int).tdiv (b : Int)) = ((a / b : Nat) : Int) := rfl
theorem av_nat {a b : Int} (h : a = b) : AV.p (i64 a) = AV.p (i64 b) := by rw [h]
set_option maxRecDepth 100000 in
theorem house_lowest (n d : Nat) (h0 : n ≤ d) (h1 : 0 < d) (h2 : d ≤ 1000000) : ACalls C 14 [.pv (i64 n), .pv (i64 d)] (.p (.ag [i64 (n / Nat.gcd n d : Nat), i64 (d / Nat.gcd n d : Nat)])) [] := by
  refine fun_go hC Tryz.func14 rfl rfl 22 rfl (by decide) (by kernel_rfl) fun _ _ _ _ _ => ?_
  have hg : 0 < Nat.gcd n d := Nat.gcd_pos_of_pos_right _ h1
  have hgl : Nat.gcd n d ≤ d := Nat.gcd_le_right _ h1
  refine yS (yn rfl (zq1 zI (zkns (zst_bx (yU (yP rfl (yP rfl (yA rfl (yA rfl (yT (zw_s (zw_b ?_))))))))))))
  refine loop_ok' (fun p : Nat × Nat => Nat.gcd p.1 p.2 = Nat.gcd n d ∧ p.1 ≤ d ∧ p.2 ≤ d) (fun p => [(0, .p (i64 n)), (1, .p (i64 d)), (4, .bx 4 0), (5, .p (i64 p.1)), (6, .p (i64 p.2))]) (fun _ => [(4, .box [.p (i64 0), .p (i64 0)])]) (fun p => p.2) (n, d) _ (SLe.refl _ _) ⟨rfl, h0, Nat.le_refl _⟩ ⟨rfl, rfl, rfl, rfl, rfl, trivial⟩ ⟨rfl, trivial⟩ fun ⟨a, b⟩ hi t h => ?_
  obtain ⟨q1, q2, q3⟩ := hi
  simp only at q1 q2 q3
  (refine zw_s (yS (yP rfl (yP rfl (yT (zw_c rfl ?_))))); refine bcase_split (fun h3 => ?_) (fun h3 => ?_) <;> try simp only [zB] at h3)
  · have hb : b ≠ 0 := fun e => h3 (by rw [e]; rfl)
    (refine zw_k (zt_n (zw_b (zw_d [] false [true, true, true, true, true, true] rfl (by kernel_rfl) (zp_q rfl (yD rfl (yD rfl (yD rfl (dq rfl (zqA zI ?_))))))))); refine And.intro (fun e => hb (by have e : (b : Int) = 0 := e; omega)) ?_)
    ((refine zkd (zst_p (yD rfl (yD rfl (zd_0 (zr_s rfl (zr_s rfl (zr_s rfl (zr_s rfl (zr_k rfl rfl (zr_k rfl rfl (zr_q rfl (zb_n (zt_n ?_))))))))))))); refine zaf_raw ?_); refine ⟨(b, a % b), _, SLe.refl _ _, ?_⟩)
    have hm : a % b < b := Nat.mod_lt _ (Nat.pos_of_ne_zero hb)
    exact ⟨⟨by dsimp only; rw [gcd_step hb, q1], by dsimp only; omega, by dsimp only; omega⟩, hm, ⟨rfl, rfl, rfl, rfl, rfl, trivial⟩, ⟨rfl, trivial⟩⟩
  · have hb : b = 0 := by omega
    subst hb
    rw [Nat.gcd_zero_right] at q1
    have hga : a = Nat.gcd n d := q1
    have e1 : n / a ≤ n := Nat.div_le_self _ _
    have e2 : d / a ≤ d := Nat.div_le_self _ _
    (refine zw_x (zt_x (zt_x (zb_h (zt_n (zw_s (zw_d [] false [true, true, true, true, true, true, true, true] rfl (by kernel_rfl) (zp_q rfl (yD rfl (yD rfl (dq rfl (zqA zI ?_))))))))))); refine And.intro (fun e => by have e : (a : Int) = 0 := e; omega) ?_)
    (refine zA zi ?_; refine And.intro ⟨(by show (-9223372036854775808 : Int) ≤ ((n / a : Nat) : Int); have := Int.natCast_nonneg (n / a); omega), (by show ((n / a : Nat) : Int) ≤ 9223372036854775807; omega)⟩ ?_)
    (refine zkd (zst_p (yD rfl (yD rfl (dq rfl (zqA zI ?_))))); refine And.intro (fun e => by have e : (a : Int) = 0 := e; omega) ?_)
    (refine zA zi ?_; refine And.intro ⟨(by show (-9223372036854775808 : Int) ≤ ((d / a : Nat) : Int); have := Int.natCast_nonneg (d / a); omega), (by show ((d / a : Nat) : Int) ≤ 9223372036854775807; omega)⟩ ?_)
    (refine zkd (zst_p (yD rfl (dq rfl (zq1 zI (zkde rfl (zst_e (zst_0 (zd_0 (zr_q rfl (zt_n (zw_r (ze_r zi ?_)))))))))))); refine And.intro ?_ trivial)
    rw [← hga]
    rfl
theorem yield_bad {l : List Made} {i : Nat} {m : Made} (hn : ∀ y ∈ l.take i, madeFault y = 0) (hm : l[i]? = some m) (h0 : madeFault m ≠ 0) (hl : ¬ 20000 < l.length) : yieldF l = (0, 0, madeFault m) := by
  have e : madesFault l = madeFault m := by rw [madesFault, if_neg hl, orI_at hn hm h0]
  rw [yieldF, if_neg (by rw [e]; exact h0), e]
set_option maxRecDepth 100000 in
set_option maxHeartbeats 1000000 in
theorem house_Yield (l : List Made) (hS : ∀ d ∈ l, strOK d.lot) (hN : l.length ≤ 140737488355328) : ACalls C 4 [.pv (.sl (l.map mc))] (.tu [.ag [i64 (yieldF l).1, i64 (yieldF l).2.1], i64 (yieldF l).2.2]) [] := by
  refine fun_go hC Tryz.func4 rfl rfl 50 rfl (by decide) (by kernel_rfl) fun _ _ _ _ _ => ?_
  have lm := len_map l mc
  (refine yS (yn rfl (zq1 zI (zkns (zst_bx (yA rfl (yT (zw_s (yS (yP rfl (yP rfl (yP rfl (yT (zw_c rfl ?_))))))))))))); refine bcase_split (fun h0 => ?_) (fun h0 => ?_) <;> try simp only [zB] at h0)
  · have e : madesFault l = 2 := by rw [madesFault, if_pos (by omega)]
    (refine yS (yP rfl (yq rfl (zq1 zI (zkq (zst_e (zst_0 (yA rfl (yT (zw_r (zt_r (ze_r zi ?_))))))))))); refine And.intro ?_ trivial)
    rw [yieldF, if_neg (by rw [e]; decide), e]; rfl
  · have hl : ¬ 20000 < l.length := by omega
    refine zw_k (zt_n (yS (yA rfl (yT (zw_s (yS (yP rfl (yP rfl (yP rfl (yT (zw_b ?_)))))))))))
    refine loop_ok' (fun i : Nat => i ≤ l.length ∧ ∀ y ∈ l.take i, madeFault y = 0) (fun i => [(0, .p (.sl (l.map mc))), (2, .bx 2 0), (4, .p (i64 (doneN (l.take i)))), (11, .p (.sl (l.map mc))), (12, .p (i64 l.length)), (13, .p (i64 i))]) (fun _ => [(2, .box [.p (i64 0), .p (i64 0)])]) (fun i => l.length - i) 0 _ (SLe.refl _ _) ⟨Nat.zero_le _, by simp⟩ ⟨rfl, rfl, rfl, rfl, congrArg (fun n : Nat => AV.p (i64 n)) lm, rfl, trivial⟩ ⟨rfl, trivial⟩ fun i hi t h => ?_
    have dl := done_le (l.take i)
    rw [List.length_take] at dl
    (refine yS (yP rfl (yT (zw_s (zw_c rfl ?_)))); refine bcase_split (fun h1 => ?_) (fun h1 => ?_) <;> try simp only [zB] at h1)
    · obtain ⟨d, hd⟩ := get_of (l := l) (i := i) (by omega)
      (refine zw_k (zt_n (zw_s (zw_b (yS (yq rfl (zqX zI ?_)))))); refine ⟨(mc d), (idx rfl hd), ?_⟩)
      ((refine yk (yP rfl (yn rfl (zq1 zI (zkns (zst_bx (yq rfl (zq1 zI (zkq (zst_e (zst_0 (yT (zw_s (yS ?_))))))))))))); refine yV rfl (yP rfl (yn rfl (zqX zI ?_)))); refine ⟨_, _, (house_isWord d.lot (by have : d.lot.size < 4294967281 := hS d (List.mem_of_getElem? hd); omega)), ?_⟩)
      (refine zkn rfl rfl (zst_p (yP rfl (yT (zw_c rfl ?_)))); refine bcase_split (fun h2 => ?_) (fun h2 => ?_) <;> try simp only [zB] at h2)
      · have e : madeFault d = 5 := by rw [madeFault, if_neg (by simp [h2])]
        ((refine yS (yP rfl (yq rfl (zq1 zI (zkq (zst_e (zst_0 (yA rfl (yT (zw_r (zt_r (zb_r (zt_r (zt_r ?_))))))))))))); refine zb_r (zt_r (ze_r zi ?_))); refine And.intro ?_ trivial)
        rw [yield_bad hi.2 hd (by rw [e]; decide) hl, e]; rfl
      · have e0 : madeFault d = (if inR d.panel 0 199 = true ∧ 0 ≤ d.at_ ∧ 0 ≤ d.rework then 0 else 1) := by rw [madeFault, if_pos (by simpa using h2)]
        have bad1 : ¬ (inR d.panel 0 199 = true ∧ 0 ≤ d.at_ ∧ 0 ≤ d.rework) → yieldF l = (0, 0, 1) := fun hb => by rw [if_neg hb] at e0; rw [yield_bad hi.2 hd (by rw [e0]; decide) hl, e0]
        (refine zw_k (zt_n (zw_s (yS (yV rfl (yP rfl (yn rfl (zqX zI ?_))))))); refine ⟨_, _, (house_isPanel d.panel), ?_⟩)
        (refine zkn rfl rfl (zst_p (yP rfl (yP rfl (yg rfl ?_)))); refine bcase_split (fun h3 => ?_) (fun h3 => ?_) <;> try simp only [zB] at h3)
        · ((refine zg_f (zst_p (y0 rfl (y0 rfl (yP rfl (yP rfl (y0 rfl (y0 rfl (y0 rfl (yP rfl (yT (zw_c rfl (zc_t (yS ?_))))))))))))); refine yP rfl (yq rfl (zq1 zI (zkq (zst_e (zst_0 (yA rfl (yT (zw_r (zt_r (zb_r (zt_r (zt_r (zb_r ?_))))))))))))); refine zt_r (ze_r zi ?_)); refine And.intro ?_ trivial)
          rw [bad1 (fun hb => by simp_all)]; rfl
        · (refine zg_t (zs_q rfl rfl (zq1 zI (zkq (zst_bx (y1 rfl (y1 rfl (yP rfl (yP rfl (yg rfl ?_))))))))); refine bcase_split (fun h4 => ?_) (fun h4 => ?_) <;> try simp only [zB] at h4)
          · ((refine zg_f (zst_p (y0 rfl (y0 rfl (yP rfl (yT (zw_c rfl (zc_t (yS (yP rfl (yq rfl (zq1 zI (zkq (zst_e ?_))))))))))))); refine zst_0 (yA rfl (yT (zw_r (zt_r (zb_r (zt_r (zt_r (zb_r (zt_r (ze_r zi ?_))))))))))); refine And.intro ?_ trivial)
            rw [bad1 (fun hb => by omega)]; rfl
          · (refine zg_t (zs_q rfl rfl (zq1 zI (zkq (zst_bx (y1 rfl (y1 rfl (yP rfl (yT (zw_c rfl ?_))))))))); refine bcase_split (fun h5 => ?_) (fun h5 => ?_) <;> try simp only [zB] at h5)
            · ((refine yS (yP rfl (yq rfl (zq1 zI (zkq (zst_e (zst_0 (yA rfl (yT (zw_r (zt_r (zb_r (zt_r (zt_r ?_))))))))))))); refine zb_r (zt_r (ze_r zi ?_))); refine And.intro ?_ trivial)
              rw [bad1 (fun hb => by omega)]; rfl
            · rw [if_pos ⟨by simpa using h3, by omega, by omega⟩] at e0
              have next := all_succ hi.2 hd e0
              have ds := done_succ hd
              (refine zw_k (zt_n (yS (yV rfl (yP rfl (yT (zw_c rfl ?_)))))); refine bcase_split (fun h6 => ?_) (fun h6 => ?_) <;> try simp only [zB] at h6)
              · rw [if_pos h6] at ds
                (refine zw_o (yP rfl (yq rfl (zqA zI ?_))); refine And.intro ⟨by omega, by omega⟩ ?_)
                (refine yk (yA rfl (zo_0 (zb_n (zt_n (zw_o (yq rfl (zqA zI ?_))))))); refine And.intro ⟨by omega, by omega⟩ ?_)
                (refine yk (yP rfl (yT (zaf_raw ?_))); refine ⟨(i + 1), _, SLe.refl _ _, ?_⟩)
                exact ⟨⟨by omega, next⟩, by omega, ⟨rfl, rfl, av_nat (by rw [ds]; rfl), rfl, rfl, rfl, trivial⟩, ⟨rfl, trivial⟩⟩
              · rw [if_neg (by simp [h6])] at ds
                (refine zw_k (zb_n (zt_n (zw_o (yq rfl (zqA zI ?_))))); refine And.intro ⟨by omega, by omega⟩ ?_)
                (refine yk (yP rfl (yT (zaf_raw ?_))); refine ⟨(i + 1), _, SLe.refl _ _, ?_⟩)
                exact ⟨⟨by omega, next⟩, by omega, ⟨rfl, rfl, av_nat (by rw [ds]; rfl), rfl, rfl, rfl, trivial⟩, ⟨rfl, trivial⟩⟩
    · have e1 : i = l.length := by omega
      have hz : madesFault l = 0 := by rw [madesFault, if_neg hl, orI_all fun y hy => hi.2 y (by rw [List.take_of_length_le (by omega)]; exact hy)]
      (refine zw_x (zt_x (zt_x (zb_h (zt_n (zw_s (yS (yP rfl (yP rfl (yP rfl (yT (zw_c rfl ?_))))))))))); refine bcase_split (fun h2 => ?_) (fun h2 => ?_) <;> try simp only [zB] at h2)
      · (refine yS (yP rfl (yq rfl (zq1 zI (zkq (zst_e (zst_0 (yA rfl (yT (zw_r (zt_r (ze_r zi ?_))))))))))); refine And.intro ?_ trivial)
        rw [yieldF, if_pos hz, if_pos (by omega)]; rfl
      · have hlo := house_lowest (doneN (l.take i)) l.length (by omega) (by omega) (by omega)
        have e2 : l.take i = l := by rw [e1, List.take_length]
        have e3 : yieldF l = (((doneN (l.take i) / Nat.gcd (doneN (l.take i)) l.length : Nat) : Int), ((l.length / Nat.gcd (doneN (l.take i)) l.length : Nat) : Int), (0 : Int)) := by rw [yieldF, if_pos hz, if_neg (by omega), e2]
        generalize (doneN (l.take i) / Nat.gcd (doneN (l.take i)) l.length : Nat) = x at hlo e3
        generalize (l.length / Nat.gcd (doneN (l.take i)) l.length : Nat) = y at hlo e3
        rw [← lm] at hlo
        (refine zw_k (zt_n (yS (yP rfl (yP rfl (yP rfl (yn rfl (zqX zI ?_))))))); refine ⟨_, _, hlo, ?_⟩)
        (refine zkn rfl rfl (zst_p (yq rfl (zq1 zI (zkq (zst_e (zst_0 (yA rfl (yR zi ?_)))))))); refine And.intro ?_ trivial)
        rw [e3]
        rfl
set_option maxRecDepth 100000 in
set_option maxHeartbeats 1000000 in
theorem ref12_checkMade (l : List Made) (hS : ∀ d ∈ l, strOK d.lot) (hN : l.length ≤ 140737488355328) : ACalls C 15 [.pv (.sl (l.map mc))] (.p (i64 (madesFault l))) [] := by
  refine fun_go hC Tryz.func15 rfl rfl 43 rfl (by decide) (by kernel_rfl) fun _ _ _ _ _ => ?_
  have lm := len_map l mc
  (refine yS (yA rfl (yT (zw_s (yS (yP rfl (yP rfl (yP rfl (yT (zw_c rfl ?_))))))))); refine bcase_split (fun h0 => ?_) (fun h0 => ?_) <;> try simp only [zB] at h0)
  · (refine yS (yA rfl (yT (zw_r (zt_r (ze_r zi ?_))))); refine And.intro ?_ trivial)
    rw [madesFault, if_pos (by omega)]; rfl
  · rw [madesFault, if_neg (by omega)]
    refine zw_k (zt_n (zw_s (yS (yA rfl (yT (zw_b ?_))))))
    refine loop_ok' (fun i : Nat => i ≤ l.length ∧ ∀ y ∈ l.take i, madeFault y = 0) (fun i => [(0, .p (.sl (l.map mc))), (3, .p (i64 i))]) (fun _ => []) (fun i => l.length - i) 0 _ (SLe.refl _ _) ⟨Nat.zero_le _, by simp⟩ ⟨rfl, rfl, trivial⟩ trivial fun i hi t h => ?_
    (refine zw_s (yS (yP rfl (yP rfl (yP rfl (yP rfl (yT (zw_c rfl ?_))))))); refine bcase_split (fun h1 => ?_) (fun h1 => ?_) <;> try simp only [zB] at h1)
    · obtain ⟨d, hd⟩ := get_of (l := l) (i := i) (by omega)
      have bad : madeFault d ≠ 0 → orI (l.map madeFault) = madeFault d := orI_at hi.2 hd
      (refine zw_k (zt_n (zw_s (zw_b (zw_s (yS (yP rfl (yP rfl (yq rfl (zqX zI ?_))))))))); refine ⟨(mc d), (idx rfl hd), ?_⟩)
      (refine yk (yP rfl (yP rfl (yn rfl (zqX zI ?_)))); refine ⟨_, _, (ref5_isWord d.lot (by have : d.lot.size < 4294967281 := hS d (List.mem_of_getElem? hd); omega)), ?_⟩)
      (refine zkn rfl rfl (zst_p (yP rfl (yT (zw_c rfl ?_)))); refine bcase_split (fun h2 => ?_) (fun h2 => ?_) <;> try simp only [zB] at h2)
      · have e : madeFault d = 5 := by rw [madeFault, if_neg (by simp [h2])]
        (refine yS (yA rfl (yT (zw_r (zt_r (zb_r (zt_r (zt_r (zb_r (zt_r (ze_r zi ?_)))))))))); refine And.intro ?_ trivial)
        rw [bad (by rw [e]; decide), e]; rfl
      · have e0 : madeFault d = (if inR d.panel 0 199 = true ∧ 0 ≤ d.at_ ∧ 0 ≤ d.rework then 0 else 1) := by rw [madeFault, if_pos (by simpa using h2)]
        have bad1 : ¬ (inR d.panel 0 199 = true ∧ 0 ≤ d.at_ ∧ 0 ≤ d.rework) → orI (l.map madeFault) = 1 := fun hb => by rw [if_neg hb] at e0; rw [bad (by rw [e0]; decide), e0]
        (refine zw_k (zt_n (yS (yP rfl (yP rfl (yq rfl (zqX zI ?_)))))); refine ⟨(mc d), (idx rfl hd), ?_⟩)
        (refine yk (yP rfl (yP rfl (yn rfl (zqX zI ?_)))); refine ⟨_, _, (ref12_inRange d.panel 0 199), ?_⟩)
        (refine zkn rfl rfl (zst_p (yP rfl (yP rfl (yg rfl ?_)))); refine bcase_split (fun h3 => ?_) (fun h3 => ?_) <;> try simp only [zB] at h3)
        · ((refine zg_f (zst_p (y0 rfl (y0 rfl (y0 rfl (y0 rfl (y0 rfl (yP rfl (yP rfl (y0 rfl (y0 rfl (y0 rfl (y0 rfl (y0 rfl ?_))))))))))))); refine y0 rfl (yP rfl (yT (zw_c rfl (zc_t (yS (yA rfl (yT (zw_r (zb_r (zt_r (zt_r (zb_r (zt_r ?_))))))))))))); refine ze_r zi ?_); refine And.intro ?_ trivial)
          rw [bad1 (fun hb => by simp_all)]; rfl
        · (refine zg_t (zs_q rfl rfl (zq1 zI (yk (y1 rfl (y2 rfl (zs_q rfl rfl (zqX zI ?_))))))); refine ⟨(mc d), (idx rfl hd), ?_⟩)
          (refine yk (y1 rfl (y1 rfl (y1 rfl (yP rfl (yP rfl (yg rfl ?_)))))); refine bcase_split (fun h4 => ?_) (fun h4 => ?_) <;> try simp only [zB] at h4)
          · ((refine zg_f (zst_p (y0 rfl (y0 rfl (y0 rfl (y0 rfl (y0 rfl (yP rfl (yT (zw_c rfl (zc_t (yS (yA rfl (yT ?_))))))))))))); refine zw_r (zb_r (zt_r (zt_r (zb_r (zt_r (ze_r zi ?_))))))); refine And.intro ?_ trivial)
            rw [bad1 (fun hb => by omega)]; rfl
          · (refine zg_t (zs_q rfl rfl (zq1 zI (yk (y1 rfl (y2 rfl (zs_q rfl rfl (zqX zI ?_))))))); refine ⟨(mc d), (idx rfl hd), ?_⟩)
            (refine yk (y1 rfl (y1 rfl (y1 rfl (yP rfl (yT (zw_c rfl ?_)))))); refine bcase_split (fun h5 => ?_) (fun h5 => ?_) <;> try simp only [zB] at h5)
            · (refine yS (yA rfl (yT (zw_r (zb_r (zt_r (zt_r (zb_r (zt_r (ze_r zi ?_))))))))); refine And.intro ?_ trivial)
              rw [bad1 (fun hb => by omega)]; rfl
            · rw [if_pos ⟨by simpa using h3, by omega, by omega⟩] at e0
              (refine zw_k (zb_n (zt_n (zw_o (yP rfl (yq rfl (zqA zI ?_)))))); refine And.intro ⟨by omega, by omega⟩ ?_)
              (refine yk (yA rfl (yT (zaf_raw ?_))); refine ⟨(i + 1), _, SLe.refl _ _, ?_⟩)
              exact ⟨⟨by omega, all_succ hi.2 hd e0⟩, by omega, ⟨rfl, rfl, trivial⟩, trivial⟩
    · (refine zw_x (zt_x (zt_x (zb_h (zt_n (yS (yA rfl (yR zi ?_))))))); refine And.intro ?_ trivial)
      rw [orI_all fun y hy => hi.2 y (by rw [List.take_of_length_le (by omega)]; exact hy)]
      rfl
set_option maxRecDepth 100000 in
set_option maxHeartbeats 1000000 in
theorem ref12_Yield (l : List Made) (hS : ∀ d ∈ l, strOK d.lot) (hN : l.length ≤ 140737488355328) : ACalls C 5 [.pv (.sl (l.map mc))] (.tu [.ag [i64 (yieldF l).1, i64 (yieldF l).2.1], i64 (yieldF l).2.2]) [] := by
  refine fun_go hC Tryz.func5 rfl rfl 48 rfl (by decide) (by kernel_rfl) fun _ _ _ _ _ => ?_
  have lm := len_map l mc
  have hf := ref12_checkMade l hS hN
  by_cases h0 : madesFault l = 0
  · have hlen : l.length ≤ 20000 := by
      unfold madesFault at h0
      split at h0
      · cases h0
      · omega
    rw [h0] at hf
    have dl := done_le l
    (refine yS (yn rfl (zq1 zI (zkns (zst_bx (yA rfl (yT (zw_s (yS (yP rfl (yn rfl (zqX zI ?_))))))))))); refine ⟨_, _, hf, ?_⟩)
    (refine zkn rfl rfl (zst_p (yA rfl (yU (yP rfl (yP rfl (yT (zw_c rfl (zc_f (zw_k (zt_n (yS (yA rfl (yT ?_))))))))))))); refine zw_s (yS (yA rfl (yT (zw_b ?_)))))
    refine loop_ok' (fun i : Nat => i ≤ l.length) (fun i => [(0, .p (.sl (l.map mc))), (2, .bx 2 0), (5, .p (i64 (doneN (l.take i)))), (6, .p (i64 i))]) (fun _ => [(2, .box [.p (i64 0), .p (i64 0)])]) (fun i => l.length - i) 0 _ (SLe.refl _ _) (Nat.zero_le _) ⟨rfl, rfl, rfl, rfl, trivial⟩ ⟨rfl, trivial⟩ fun i hi t h => ?_
    have di := done_le (l.take i)
    rw [List.length_take] at di
    (refine zw_s (yS (yP rfl (yP rfl (yP rfl (yP rfl (yT (zw_c rfl ?_))))))); refine bcase_split (fun h1 => ?_) (fun h1 => ?_) <;> try simp only [zB] at h1)
    · obtain ⟨d, hd⟩ := get_of (l := l) (i := i) (by omega)
      have ds := done_succ hd
      (refine zw_k (zt_n (zw_s (zw_b (yS (yP rfl (yP rfl (yq rfl (zqX zI ?_)))))))); refine ⟨(mc d), (idx rfl hd), ?_⟩)
      (refine yk (yP rfl (yP rfl (yT (zw_c rfl ?_)))); refine bcase_split (fun h6 => ?_) (fun h6 => ?_) <;> try simp only [zB] at h6)
      · rw [if_pos h6] at ds
        (refine zw_o (yP rfl (yq rfl (zqA zI ?_))); refine And.intro ⟨by omega, by omega⟩ ?_)
        (refine yk (yA rfl (zo_0 (zb_n (zt_n (zw_o (yP rfl (yq rfl (zqA zI ?_)))))))); refine And.intro ⟨by omega, by omega⟩ ?_)
        (refine yk (yA rfl (yT (zaf_raw ?_))); refine ⟨(i + 1), _, SLe.refl _ _, ?_⟩)
        exact ⟨by omega, by omega, ⟨rfl, rfl, av_nat (by rw [ds]; rfl), rfl, trivial⟩, ⟨rfl, trivial⟩⟩
      · rw [if_neg (by simp [h6])] at ds
        (refine zw_k (zb_n (zt_n (zw_o (yP rfl (yq rfl (zqA zI ?_)))))); refine And.intro ⟨by omega, by omega⟩ ?_)
        (refine yk (yA rfl (yT (zaf_raw ?_))); refine ⟨(i + 1), _, SLe.refl _ _, ?_⟩)
        exact ⟨by omega, by omega, ⟨rfl, rfl, av_nat (by rw [ds]; rfl), rfl, trivial⟩, ⟨rfl, trivial⟩⟩
    · have e1 : i = l.length := by omega
      have e2 : l.take i = l := by rw [e1, List.take_length]
      obtain ⟨n, hn⟩ : ∃ n, n = doneN (l.take i) := ⟨_, rfl⟩
      have hnl : n ≤ l.length := by omega
      rw [← hn]
      have hy : yieldF l = if l.length = 0 then (0, 1, 0) else (((n / Nat.gcd n l.length : Nat) : Int), ((l.length / Nat.gcd n l.length : Nat) : Int), (0 : Int)) := by rw [yieldF, if_pos h0, hn, e2]
      refine zw_x (zt_x (zt_x (zb_h (zt_n (yS (yP rfl (yP rfl (yP rfl (yA rfl (yA rfl (yT (zw_s (zw_b ?_)))))))))))))
      refine loop_ok' (fun p : Nat × Nat => Nat.gcd p.1 p.2 = Nat.gcd n l.length ∧ p.1 ≤ l.length ∧ p.2 ≤ l.length) (fun p => [(0, .p (.sl (l.map mc))), (2, .bx 2 0), (5, .p (i64 n)), (7, .p (i64 p.1)), (8, .p (i64 p.2))]) (fun _ => [(2, .box [.p (i64 0), .p (i64 0)])]) (fun p => p.2) (n, l.length) _ (SLe.refl _ _) ⟨rfl, hnl, Nat.le_refl _⟩ ⟨rfl, rfl, av_nat (by rw [hn]), av_nat (by rw [hn]), av_nat (by dsimp only; omega), trivial⟩ ⟨rfl, trivial⟩ fun ⟨a, b⟩ hp t h => ?_
      obtain ⟨q1, q2, q3⟩ := hp
      simp only at q1 q2 q3
      (refine zw_s (yS (yP rfl (yP rfl (yT (zw_c rfl ?_))))); refine bcase_split (fun h3 => ?_) (fun h3 => ?_) <;> try simp only [zB] at h3)
      · have hb : b ≠ 0 := fun e => h3 (by rw [e]; rfl)
        (refine zw_k (zt_n (zw_b (zw_d [] false [true, true, true, true, true, true] rfl (by kernel_rfl) (zp_q rfl (yD rfl (yD rfl (yD rfl (dq rfl (zqA zI ?_))))))))); refine And.intro (fun e => hb (by have e : (b : Int) = 0 := e; omega)) ?_)
        ((refine zkd (zst_p (yD rfl (yD rfl (zd_0 (zr_s rfl (zr_s rfl (zr_s rfl (zr_s rfl (zr_k rfl rfl (zr_k rfl rfl (zr_q rfl (zb_n (zt_n ?_))))))))))))); refine zaf_raw ?_); refine ⟨(b, a % b), _, SLe.refl _ _, ?_⟩)
        have hm : a % b < b := Nat.mod_lt _ (Nat.pos_of_ne_zero hb)
        exact ⟨⟨by dsimp only; rw [gcd_step hb, q1], by dsimp only; omega, by dsimp only; omega⟩, hm, ⟨rfl, rfl, rfl, rfl, rfl, trivial⟩, ⟨rfl, trivial⟩⟩
      · have hb : b = 0 := by omega
        subst hb
        rw [Nat.gcd_zero_right] at q1
        (refine zw_x (zt_x (zt_x (zb_h (zt_n (zw_s (yS (yP rfl (yP rfl (yT (zw_c rfl ?_)))))))))); refine bcase_split (fun h4 => ?_) (fun h4 => ?_) <;> try simp only [zB] at h4)
        · have ha : a = 0 := by omega
          have hz : l.length = 0 := by
            have := Nat.gcd_eq_zero_iff.1 (q1.symm.trans ha)
            exact this.2
          (refine yS (yP rfl (yq rfl (zq1 zI (zkq (zst_e (zst_0 (yA rfl (yT (zw_r (zt_r (ze_r zi ?_))))))))))); refine And.intro ?_ trivial)
          rw [hy, if_pos hz]; rfl
        · have hga : a = Nat.gcd n l.length := q1
          have hnz : l.length ≠ 0 := fun e => h4 (by
            have : n = 0 := by omega
            rw [hga, this, e]; rfl)
          have e1 : n / a ≤ n := Nat.div_le_self _ _
          have e2 : l.length / a ≤ l.length := Nat.div_le_self _ _
          have hlo : ((l.map mc).length : Int) = (l.length : Int) := by omega
          (refine zw_k (zt_n (zw_s (zw_d [] false [true, true, true, true, true, true, true, true, true, true] rfl (by kernel_rfl) (zp_q rfl (yD rfl (yD rfl (dq rfl (zqA zI ?_)))))))); refine And.intro (fun e => h4 e) ?_)
          (refine zA zi ?_; refine And.intro ⟨(by show (-9223372036854775808 : Int) ≤ ((n / a : Nat) : Int); have := Int.natCast_nonneg (n / a); omega), (by show ((n / a : Nat) : Int) ≤ 9223372036854775807; omega)⟩ ?_)
          (refine zkd (zst_p (yD rfl (yD rfl (yD rfl (dq rfl (zqA zI ?_)))))); refine And.intro (fun e => h4 e) ?_)
          (refine zA zi ?_; refine And.intro ⟨(by rw [lm]; show (-9223372036854775808 : Int) ≤ ((l.length / a : Nat) : Int); have := Int.natCast_nonneg (l.length / a); omega), (by rw [lm]; show ((l.length / a : Nat) : Int) ≤ 9223372036854775807; omega)⟩ ?_)
          ((refine zkd (zst_p (yD rfl (dq rfl (zq1 zI (zkde rfl (zst_e (zst_0 (yD rfl (zd_0 (zr_s rfl (zr_s rfl (zr_s rfl (zr_s rfl ?_))))))))))))); refine zr_s rfl (zr_s rfl (zr_s rfl (zr_s rfl (zr_s rfl (zr_k rfl rfl (zr_q rfl (zt_n (zw_r (ze_r zi ?_)))))))))); refine And.intro ?_ trivial)
          rw [hy, if_neg hnz, ← hga, lm]
          rfl
  · have e : yieldF l = (0, 0, madesFault l) := by rw [yieldF, if_neg h0]
    rw [e]
    (refine yS (yn rfl (zq1 zI (zkns (zst_bx (yA rfl (yT (zw_s (yS (yP rfl (yn rfl (zqX zI ?_))))))))))); refine ⟨_, _, hf, ?_⟩)
    (refine zkn rfl rfl (zst_p (yA rfl (yU (yP rfl (yP rfl (yT (zw_c rfl ?_))))))); refine bcase_split (fun h1 => ?_) (fun h1 => ?_) <;> try simp only [zB] at h1)
    · (refine yS (yP rfl (yP rfl (yq rfl (zq1 zI (zkq (zst_e (zst_0 (yA rfl (yT (zw_r (zt_r (ze_r zi ?_)))))))))))); refine And.intro ?_ trivial)
      rfl
    · exact absurd (by simpa using h1) h0
end Go.Proofs.YtngikpapepnkaaaGreatDoor.M
