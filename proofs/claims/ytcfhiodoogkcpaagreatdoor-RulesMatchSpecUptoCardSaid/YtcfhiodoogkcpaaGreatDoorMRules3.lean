/- By the machine: the classes of the rules. -/
import Derived.Test.YtcfhiodoogkcpaaGreatDoorMRules2
set_option linter.unusedSimpArgs false
set_option linter.unusedVariables false
namespace Go.Proofs.YtcfhiodoogkcpaaGreatDoor.M
open Go.AM Go.RowKit Go.Lib
open Reg (Rect Spans Band)

/-- the first answer that is not 0, from `i`, `n` of them -/
def firstN (f : Nat → Int) (i : Nat) : Nat → Int
  | 0 => 0
  | n + 1 => if f i = 0 then firstN f (i + 1) n else f i
theorem firstN_none {f : Nat → Int} : ∀ {n i : Nat}, (∀ k, i ≤ k → k < i + n → f k = 0) → firstN f i n = 0
  | 0, _, _ => rfl
  | n + 1, i, h => by
    rw [firstN, if_pos (h i (Nat.le_refl _) (by omega))]
    exact firstN_none fun k h1 h2 => h k (by omega) (by omega)
theorem firstN_at {f : Nat → Int} {m : Nat} (hm : f m ≠ 0) : ∀ {n i : Nat}, (∀ k, i ≤ k → k < m → f k = 0) → i ≤ m → m < i + n → firstN f i n = f m
  | 0, i, _, h1, h2 => by omega
  | n + 1, i, h, h1, h2 => by
    rw [firstN]
    by_cases e : i = m
    · subst e; rw [if_neg hm]
    · rw [if_pos (h i (Nat.le_refl _) (by omega))]
      exact firstN_at hm (fun k h3 h4 => h k (by omega) h4) (by omega) (by omega)
/-- the text before the `j`-th is not less: out of order -/
def backAt (l : List ByteArray) (j : Nat) : Bool := match l[j]?, l[j - 1]? with
  | some a, some b => decide (0 < j) && (ltS a b || decide (a = b))
  | _, _ => false
def seenIn (cs : List Class) (x : ByteArray) : Bool := cs.any fun c => hasB c.nets x
def netFault (cs : List Class) (i : Nat) (l : List ByteArray) (j : Nat) : Int := match l[j]? with
  | some y => if pathB y = true then (if backAt l j = true then 8 else if seenIn (cs.take i) y = true then 7 else 0) else 5
  | none => 0
def classFault (cs : List Class) (i : Nat) : Int := match cs[i]? with
  | some c => if wordB c.name = true then (if 1000 < c.nets.length then 2 else
      if firstN (netFault cs i c.nets) 0 c.nets.length = 0 then
        (if (isRule c.clearance && isRule c.width) = true then (if backAt (cs.map Class.name) i = true then 8 else 0) else 1)
      else firstN (netFault cs i c.nets) 0 c.nets.length) else 5
  | none => 0
theorem vEq_str (a b : ByteArray) : vEq (.string a) (.string b) = decide (a = b) := rfl
theorem vEq_of {k : ByteArray} {k' : Value} (h : vEq (.string k) k' = true) : k' = .string k := by
  cases k' <;> simp_all [vEq]
theorem mget_mput (v : PV) (k n : ByteArray) : ∀ es : List (Value × PV), mget (mput es (.string k) v) (.string n) = if n = k then some v else mget es (.string n)
  | [] => by
    simp only [mput, mget, vEq_str]
    by_cases h : n = k <;> simp [h]
  | (k', u) :: r => by
    simp only [mput]
    cases h : vEq (.string k) k'
    · simp only [mget, mget_mput v k n r]
      by_cases e : n = k
      · subst e; simp [h]
      · simp [e]
    · have e := vEq_of h
      subst e
      simp only [mget, vEq_str]
      by_cases e : n = k <;> simp [e]
def strOK (s : ByteArray) : Prop := s.size < 4294967281
def classOK (c : Class) : Prop := strOK c.name ∧ c.nets.length ≤ 1048576 ∧ ∀ s ∈ c.nets, strOK s
set_option maxRecDepth 100000 in
set_option maxHeartbeats 1000000 in
theorem house_checkClasses (cs : List Class) (hok : ∀ c ∈ cs, classOK c) (hN : cs.length ≤ 1048576) : ACalls C 30 [.pv (.sl (cs.map kl))] (.p (i64 (if 50 < cs.length then 2 else firstN (classFault cs) 0 cs.length))) [] := by
  refine fun_go hC Tryz.func30 rfl rfl 93 rfl (by decide) (by kernel_rfl) fun _ _ _ _ _ => ?_
  have lm := len_map cs kl
  (refine yS (yA rfl (yT (zw_s (yS (yP rfl (yP rfl (yP rfl (yT (zw_c rfl ?_))))))))); refine bcase_split (fun h0 => ?_) (fun h0 => ?_) <;> try simp only [zB] at h0)
  · (refine yS (yA rfl (yT (zw_r (zt_r (ze_r zi ?_))))); refine And.intro ?_ trivial)
    rw [if_pos (by omega)]; rfl
  · rw [if_neg (by omega)]
    (refine zw_k (zt_n (yS (yn rfl (zq1 zI (zkns (zst_ow (zo_n rfl (zs_as rfl rfl rfl (zas_o rfl) (zst_ow (yT (zw_s (yS (yP rfl ?_))))))))))))); refine yP rfl (yP rfl (yT (zw_b ?_))))
    refine loop_ok' (fun p : Nat × List (Value × PV) => p.1 ≤ cs.length ∧ (∀ k, k < p.1 → classFault cs k = 0) ∧ ∀ n, mget p.2 (.string n) = if seenIn (cs.take p.1) n = true then some (bool true) else none) (fun p => [(0, .p (.sl (cs.map kl))), (3, .ow 13), (14, .p (.sl (cs.map kl))), (15, .p (i64 (cs.map kl).length)), (16, .p (i64 p.1))]) (fun p => [(13, .map .str p.2)]) (fun p => cs.length - p.1) (0, []) _ (SLe.refl _ _) ⟨Nat.zero_le _, fun k h => by omega, fun n => rfl⟩ ⟨rfl, rfl, rfl, rfl, rfl, trivial⟩ ⟨rfl, trivial⟩ fun ⟨i, es⟩ hi t h => ?_
    obtain ⟨q1, q2, q3⟩ := hi
    (refine yS (yP rfl (yT (zw_s (zw_c rfl ?_)))); refine bcase_split (fun h1 => ?_) (fun h1 => ?_) <;> try simp only [zB] at h1)
    · obtain ⟨c, hc⟩ := get_of (l := cs) (i := i) (by omega)
      obtain ⟨o1, o2, o3⟩ := hok c (List.mem_of_getElem? hc)
      have bad : classFault cs i ≠ 0 → firstN (classFault cs) 0 cs.length = classFault cs i := fun hb => firstN_at hb (fun k _ hk => q2 k hk) (Nat.zero_le _) (by omega)
      have cf : classFault cs i = (if wordB c.name = true then (if 1000 < c.nets.length then 2 else
      if firstN (netFault cs i c.nets) 0 c.nets.length = 0 then
        (if (isRule c.clearance && isRule c.width) = true then (if backAt (cs.map Class.name) i = true then 8 else 0) else 1)
      else firstN (netFault cs i c.nets) 0 c.nets.length) else 5) := by rw [classFault, hc]
      have lc := len_map c.nets fun s => [str s]
      (refine zw_k (zt_n (zw_s (zw_b (yS (yP rfl (yq rfl (zqX zI ?_))))))); refine ⟨(kl c), (idx rfl hc), ?_⟩)
      ((refine yk (yP rfl (yn rfl (zq1 zI (zkns (zst_bx (yA rfl (yq rfl (zq1 zI (zkq (zst_e (zst_0 (yT (zw_s ?_))))))))))))); refine yS (yV rfl (yP rfl (yn rfl (zqX zI ?_))))); refine ⟨_, _, (house_isWord c.name (by have : c.name.size < 4294967281 := o1; omega)), ?_⟩)
      (refine zkn rfl rfl (zst_p (yP rfl (yT (zw_c rfl ?_)))); refine bcase_split (fun h2 => ?_) (fun h2 => ?_) <;> try simp only [zB] at h2)
      · (refine yS (yA rfl (yT (zw_r (zt_r (zb_r (zt_r (zt_r (zb_r (zt_r (ze_r zi ?_)))))))))); refine And.intro ?_ trivial)
        rw [if_neg (by simp [h2])] at cf
        rw [bad (by rw [cf]; decide), cf]; rfl
      · rw [if_pos (by simpa using h2)] at cf
        (refine zw_k (zt_n (zw_s (yS (yV rfl (yP rfl (yP rfl (yP rfl (yT (zw_c rfl ?_))))))))); refine bcase_split (fun h3 => ?_) (fun h3 => ?_) <;> try simp only [zB] at h3)
        · (refine yS (yA rfl (yT (zw_r (zt_r (zb_r (zt_r (zt_r (zb_r (zt_r (ze_r zi ?_)))))))))); refine And.intro ?_ trivial)
          rw [if_pos (by omega)] at cf
          rw [bad (by rw [cf]; decide), cf]; rfl
        · rw [if_neg (by omega)] at cf
          refine zw_k (zt_n (zw_s (yS (yV rfl (yP rfl (yP rfl (yP rfl (yT (zw_b ?_)))))))))
          refine loop_ok' (fun j : Nat => j ≤ c.nets.length ∧ ∀ k, k < j → netFault cs i c.nets k = 0) (fun j => [(0, .p (.sl (cs.map kl))), (3, .ow 13), (14, .p (.sl (cs.map kl))), (15, .p (i64 (cs.map kl).length)), (16, .p (i64 i)), (4, .p (i64 i)), (5, .bx 5 0), (30, .p (strs c.nets)), (31, .p (i64 (c.nets.map fun s => [str s]).length)), (32, .p (i64 j))]) (fun _ => [(5, .box [.p (str c.name), .p (strs c.nets), .p (i64 c.clearance), .p (i64 c.width)]), (13, .map .str es)]) (fun j => c.nets.length - j) 0 _ (SLe.refl _ _) ⟨Nat.zero_le _, fun k h => by omega⟩ ⟨rfl, rfl, rfl, rfl, rfl, rfl, rfl, rfl, rfl, rfl, trivial⟩ ⟨rfl, rfl, trivial⟩ fun j hj t h => ?_
          obtain ⟨p1, p2⟩ := hj
          (refine yS (yP rfl (yT (zw_s (zw_c rfl ?_)))); refine bcase_split (fun h4 => ?_) (fun h4 => ?_) <;> try simp only [zB] at h4)
          · obtain ⟨y, hy⟩ := get_of (l := c.nets) (i := j) (by omega)
            have nbad : netFault cs i c.nets j ≠ 0 → firstN (classFault cs) 0 cs.length = netFault cs i c.nets j := fun hb => by
              have e : firstN (netFault cs i c.nets) 0 c.nets.length = netFault cs i c.nets j := firstN_at hb (fun k _ hk => p2 k hk) (Nat.zero_le _) (by omega)
              rw [e, if_neg hb] at cf
              rw [bad (by rw [cf]; exact hb), cf]
            have nf : netFault cs i c.nets j = (if pathB y = true then (if backAt c.nets j = true then 8 else if seenIn (cs.take i) y = true then 7 else 0) else 5) := by rw [netFault, hy]
            (refine zw_k (zt_n (zw_s (zw_b (yS (yP rfl (yq rfl (zqX zI ?_))))))); refine ⟨[str y], (idx rfl hy), ?_⟩)
            (refine yk (yP rfl (yA rfl (yA rfl (yT (zw_b (yS (yP rfl (yn rfl (zqX zI ?_))))))))); refine ⟨_, _, (house_isPath y (o3 y (List.mem_of_getElem? hy))), ?_⟩)
            (refine zkn rfl rfl (zst_p (yP rfl (yA rfl (yT (zw_c rfl ?_))))); refine bcase_split (fun h5 => ?_) (fun h5 => ?_) <;> try simp only [zB] at h5)
            · ((refine yS (yA rfl (yT (zw_r (zb_r (zb_r (zt_r (zt_r (zb_r (zt_r (zb_r (zt_r (zt_r (zb_r ?_))))))))))))); refine zt_r (ze_r zi ?_)); refine And.intro ?_ trivial)
              rw [if_neg (by simp [h5])] at nf
              rw [nbad (by rw [nf]; decide), nf]; rfl
            · rw [if_pos (by simpa using h5)] at nf
              have q := q3 y
              have next : netFault cs i c.nets j = 0 → ∀ k, k < j + 1 → netFault cs i c.nets k = 0 := fun h0 k hk => by
                by_cases e : k = j
                · subst e; exact h0
                · exact p2 k (by omega)
              (refine yS (yP rfl (yP rfl (yP rfl (yg rfl ?_)))); refine bcase_split (fun h6 => ?_) (fun h6 => ?_) <;> try simp only [zB] at h6)
              · obtain ⟨z, hz⟩ := get_of (l := c.nets) (i := j - 1) (by omega)
                have bk : backAt c.nets j = (ltS y z || decide (y = z)) := by
                  simp only [backAt, hy, hz]
                  rw [decide_eq_true (by omega : 0 < j)]; rfl
                (refine zg_t (zs_q rfl rfl (zq1 zI (yk (y2 rfl (zs_q rfl rfl (zq1 zI (zkq (zst_bx (y1 rfl (y1 rfl (y2 rfl (zs_q rfl rfl (zqA zI ?_))))))))))))); refine And.intro ⟨by omega, by omega⟩ ?_)
                (refine yk (y2 rfl (zs_q rfl rfl (zqX zI ?_))); refine ⟨[str z], (idx (show (j : Int) - 1 = ((j - 1 : Nat) : Int) by omega) hz), ?_⟩)
                (refine yk (y1 rfl (y1 rfl (yP rfl (yA rfl (yT (zw_c rfl ?_)))))); refine bcase_split (fun h7 => ?_) (fun h7 => ?_) <;> try simp only [zB] at h7)
                · ((refine yS (yA rfl (yT (zw_r (zb_r (zb_r (zt_r (zt_r (zb_r (zt_r (zb_r (zt_r (zt_r (zb_r ?_))))))))))))); refine zt_r (ze_r zi ?_)); refine And.intro ?_ trivial)
                  have h7 : (ltS y z || decide (y = z)) = true := by simpa [ltS] using h7
                  rw [bk, h7, if_pos rfl] at nf
                  rw [nbad (by rw [nf]; decide), nf]; rfl
                · have h7 : (ltS y z || decide (y = z)) = false := by simpa [ltS] using h7
                  rw [bk, h7, if_neg (by decide)] at nf
                  cases hS : seenIn (cs.take i) y
                  · rw [hS] at q nf
                    (refine yS (yq rfl (zq1 zI (zkq (zst_ow (yP rfl (yq rfl (zqX zI ?_))))))); refine ⟨none, q, ?_⟩)
                    (refine yk (yA rfl (yT (zw_c rfl (zc_f (zw_k (zb_n (zb_n (zt_n (zw_o (yq rfl (zqA zI ?_))))))))))); refine And.intro ⟨by omega, by omega⟩ ?_)
                    (refine yk (yP rfl (yT (zaf_raw ?_))); refine ⟨(j + 1), _, SLe.refl _ _, ?_⟩)
                    exact ⟨⟨by omega, next (by simpa using nf)⟩, by omega, ⟨rfl, rfl, rfl, rfl, rfl, rfl, rfl, rfl, rfl, rfl, trivial⟩, ⟨rfl, rfl, trivial⟩⟩
                  · rw [hS] at q nf
                    rw [if_pos rfl] at nf
                    (refine yS (yq rfl (zq1 zI (zkq (zst_ow (yP rfl (yq rfl (zqX zI ?_))))))); refine ⟨(some (bool true)), q, ?_⟩)
                    ((refine yk (yA rfl (yT (zw_c rfl (zc_t (yS (yA rfl (yT (zw_r (zb_r (zb_r (zt_r (zt_r (zb_r ?_))))))))))))); refine zt_r (zb_r (zt_r (zt_r (zb_r (zt_r (ze_r zi ?_))))))); refine And.intro ?_ trivial)
                    rw [nbad (by rw [nf]; decide), nf]; rfl
              · have h0 : j = 0 := by omega
                have bk : backAt c.nets j = false := by
                  subst h0
                  simp only [backAt, hy]
                  rfl
                rw [bk, if_neg (by decide)] at nf
                cases hS : seenIn (cs.take i) y
                · rw [hS] at q nf
                  ((refine zg_f (zst_p (y0 rfl (y0 rfl (y0 rfl (y0 rfl (y0 rfl (y0 rfl (y0 rfl (yP rfl (yA rfl (yT (zw_c rfl (zc_f ?_))))))))))))); refine yS (yq rfl (zq1 zI (zkq (zst_ow (yP rfl (yq rfl (zqX zI ?_)))))))); refine ⟨none, q, ?_⟩)
                  (refine yk (yA rfl (yT (zw_c rfl (zc_f (zw_k (zb_n (zb_n (zt_n (zw_o (yq rfl (zqA zI ?_))))))))))); refine And.intro ⟨by omega, by omega⟩ ?_)
                  (refine yk (yP rfl (yT (zaf_raw ?_))); refine ⟨(j + 1), _, SLe.refl _ _, ?_⟩)
                  exact ⟨⟨by omega, next (by simpa using nf)⟩, by omega, ⟨rfl, rfl, rfl, rfl, rfl, rfl, rfl, rfl, rfl, rfl, trivial⟩, ⟨rfl, rfl, trivial⟩⟩
                · rw [hS] at q nf
                  rw [if_pos rfl] at nf
                  ((refine zg_f (zst_p (y0 rfl (y0 rfl (y0 rfl (y0 rfl (y0 rfl (y0 rfl (y0 rfl (yP rfl (yA rfl (yT (zw_c rfl (zc_f ?_))))))))))))); refine yS (yq rfl (zq1 zI (zkq (zst_ow (yP rfl (yq rfl (zqX zI ?_)))))))); refine ⟨(some (bool true)), q, ?_⟩)
                  ((refine yk (yA rfl (yT (zw_c rfl (zc_t (yS (yA rfl (yT (zw_r (zb_r (zb_r (zt_r (zt_r (zb_r ?_))))))))))))); refine zt_r (zb_r (zt_r (zt_r (zb_r (zt_r (ze_r zi ?_))))))); refine And.intro ?_ trivial)
                  rw [nbad (by rw [nf]; decide), nf]; rfl
          · have z0 : firstN (netFault cs i c.nets) 0 c.nets.length = 0 := firstN_none fun k _ hk => p2 k (by omega)
            rw [if_pos z0] at cf
            refine zw_x (zt_x (zt_x (zb_h (zt_n (zw_s (yS (yV rfl (yP rfl (yP rfl (yP rfl (yT (zw_b ?_))))))))))))
            refine loop_ok' (fun p : Nat × List (Value × PV) => p.1 ≤ c.nets.length ∧ ∀ n, mget p.2 (.string n) = if (seenIn (cs.take i) n || hasB (c.nets.take p.1) n) = true then some (bool true) else none) (fun p => [(0, .p (.sl (cs.map kl))), (3, .ow 13), (14, .p (.sl (cs.map kl))), (15, .p (i64 (cs.map kl).length)), (16, .p (i64 i)), (4, .p (i64 i)), (5, .bx 5 0), (60, .p (strs c.nets)), (61, .p (i64 (c.nets.map fun s => [str s]).length)), (62, .p (i64 p.1))]) (fun p => [(5, .box [.p (str c.name), .p (strs c.nets), .p (i64 c.clearance), .p (i64 c.width)]), (13, .map .str p.2)]) (fun p => c.nets.length - p.1) (0, es) _ (SLe.refl _ _) ⟨Nat.zero_le _, fun n => by rw [show hasB (c.nets.take 0) n = false from rfl, Bool.or_false]; exact q3 n⟩ ⟨rfl, rfl, rfl, rfl, rfl, rfl, rfl, rfl, rfl, rfl, trivial⟩ ⟨rfl, rfl, trivial⟩ fun ⟨j, es'⟩ hj t h => ?_
            obtain ⟨r1, r2⟩ := hj
            (refine yS (yP rfl (yT (zw_s (zw_c rfl ?_)))); refine bcase_split (fun h9 => ?_) (fun h9 => ?_) <;> try simp only [zB] at h9)
            · obtain ⟨y, hy⟩ := get_of (l := c.nets) (i := j) (by omega)
              (refine zw_k (zt_n (zw_s (zw_b (yS (yq rfl (zqX zI ?_)))))); refine ⟨[str y], (idx rfl hy), ?_⟩)
              ((refine yk (yP rfl (yA rfl (yT (zw_o (yq rfl (zq1 zI (zkq (zst_ow (yP rfl (yq rfl (zq1 zI (zkq (zst_e ?_))))))))))))); refine zst_0 (zo_0 (zb_n (zt_n (zw_o (yq rfl (zqA zI ?_))))))); refine And.intro ⟨by omega, by omega⟩ ?_)
              (refine yk (yP rfl (yT (zaf_raw ?_))); refine ⟨(j + 1, mput es' (.string y) (bool true)), _, SLe.refl _ _, ?_⟩)
              refine ⟨⟨by omega, fun n => ?_⟩, by omega, ⟨rfl, rfl, rfl, rfl, rfl, rfl, rfl, rfl, rfl, rfl, trivial⟩, ⟨rfl, rfl, trivial⟩⟩
              simp only
              rw [mget_mput, take_succ' hy]
              by_cases e : n = y
              · subst e
                rw [if_pos rfl, if_pos]
                simp [hasB]
              · rw [if_neg e, r2 n]
                have : hasB (c.nets.take j ++ [y]) n = hasB (c.nets.take j) n := by
                  unfold hasB
                  rw [List.any_append]
                  rw [show ([y].any fun z => decide (z = n)) = (decide (y = n) || false) from rfl, decide_eq_false (fun h : y = n => e h.symm)]
                  simp
                rw [this]
            · have e9 : j = c.nets.length := by simp only at r1; omega
              have s1 : ∀ n, mget es' (.string n) = if seenIn (cs.take (i + 1)) n = true then some (bool true) else none := fun n => by
                rw [r2 n, e9, List.take_length, take_succ' hc]
                have : seenIn (cs.take i ++ [c]) n = (seenIn (cs.take i) n || hasB c.nets n) := by
                  unfold seenIn
                  rw [List.any_append]
                  simp
                rw [this]
              have bn : ∀ d, cs[i - 1]? = some d → 0 < i → backAt (cs.map Class.name) i = (ltS c.name d.name || decide (c.name = d.name)) := fun d hd h0 => by
                simp only [backAt, List.getElem?_map, hc, hd, Option.map_some]
                rw [decide_eq_true h0]; rfl
              have nextc : classFault cs i = 0 → ∀ k, k < i + 1 → classFault cs k = 0 := fun h0 k hk => by
                by_cases e : k = i
                · subst e; exact h0
                · exact q2 k (by simp only; omega)
              (refine zw_x (zt_x (zt_x (zb_h (zt_n (zw_s (yS (yV rfl (yP rfl (yn rfl (zqX zI ?_)))))))))); refine ⟨_, _, (rules_isRule c.clearance), ?_⟩)
              (refine zkn rfl rfl (zst_p (yP rfl (yP rfl (yg rfl ?_)))); refine bcase_split (fun g1 => ?_) (fun g1 => ?_) <;> try simp only [zB] at g1)
              · ((refine zg_f (zst_p (y0 rfl (y0 rfl (y0 rfl (yP rfl (yT (zw_c rfl (zc_t (yS (yA rfl (yT (zw_r (zt_r ?_))))))))))))); refine zb_r (zt_r (zt_r (zb_r (zt_r (ze_r zi ?_)))))); refine And.intro ?_ trivial)
                rw [if_neg (by simp [g1])] at cf
                rw [bad (by rw [cf]; decide), cf]; rfl
              · (refine zg_t (zs_q rfl rfl (zq1 zI (zkq (zst_bx (y1 rfl (y2 rfl (zs_n rfl rfl rfl (zqX zI ?_)))))))); refine ⟨_, _, (rules_isRule c.width), ?_⟩)
                (refine zkn rfl rfl (zst_p (y1 rfl (yP rfl (yT (zw_c rfl ?_))))); refine bcase_split (fun g2 => ?_) (fun g2 => ?_) <;> try simp only [zB] at g2)
                · (refine yS (yA rfl (yT (zw_r (zt_r (zb_r (zt_r (zt_r (zb_r (zt_r (ze_r zi ?_)))))))))); refine And.intro ?_ trivial)
                  rw [if_neg (by simp [g2])] at cf
                  rw [bad (by rw [cf]; decide), cf]; rfl
                · rw [if_pos (by simp [g1, g2])] at cf
                  (refine zw_k (zt_n (zw_s (zw_d false [true, true, true, true, true, true, true, true, true, true, true, true, true] rfl (by kernel_rfl) (zp_q rfl (yD rfl (yD rfl (yD rfl (dg rfl ?_)))))))); refine bcase_split (fun g3 => ?_) (fun g3 => ?_) <;> try simp only [zB] at g3)
                  · obtain ⟨d, hd⟩ := get_of (l := cs) (i := i - 1) (by omega)
                    (refine zg_t (zd_q rfl (zq1 zI (zkd (zst_bx (d1 rfl (d1 rfl (d1 rfl (d2 rfl (zd_q rfl (zqA zI ?_)))))))))); refine And.intro ⟨by omega, by omega⟩ ?_)
                    (refine zkd (zst_p (d2 rfl (zd_q rfl (zqX zI ?_)))); refine ⟨(kl d), (idx (show (i : Int) - 1 = ((i - 1 : Nat) : Int) by omega) hd), ?_⟩)
                    rw [bn d hd (by omega)] at cf
                    (refine zkd (zst_p (d1 rfl (d1 rfl (d1 rfl (yD rfl (zd_0 (zr_q rfl (zt_n (zw_c rfl ?_))))))))); refine bcase_split (fun g4 => ?_) (fun g4 => ?_) <;> try simp only [zB] at g4)
                    · (refine yS (yA rfl (yT (zw_r (zb_r (zt_r (zt_r (zb_r (zt_r (ze_r zi ?_))))))))); refine And.intro ?_ trivial)
                      have g4 : (ltS c.name d.name || decide (c.name = d.name)) = true := by simpa [ltS] using g4
                      rw [g4, if_pos rfl] at cf
                      rw [bad (by rw [cf]; decide), cf]; rfl
                    · have g4 : (ltS c.name d.name || decide (c.name = d.name)) = false := by simpa [ltS] using g4
                      rw [g4, if_neg (by decide)] at cf
                      (refine zw_k (zb_n (zt_n (zw_o (yq rfl (zqA zI ?_))))); refine And.intro ⟨by omega, by omega⟩ ?_)
                      (refine yk (yP rfl (yT (zaf_raw ?_))); refine ⟨(i + 1, es'), _, SLe.refl _ _, ?_⟩)
                      exact ⟨⟨by omega, nextc cf, s1⟩, by omega, ⟨rfl, rfl, rfl, rfl, rfl, trivial⟩, ⟨rfl, trivial⟩⟩
                  · have h0 : i = 0 := by omega
                    have bk : backAt (cs.map Class.name) i = false := by
                      subst h0
                      simp only [backAt, List.getElem?_map, hc]
                      rfl
                    rw [bk, if_neg (by decide)] at cf
                    ((refine zg_f (zst_p (d0 rfl (d0 rfl (d0 rfl (d0 rfl (d0 rfl (d0 rfl (d0 rfl (d0 rfl (yD rfl (zd_0 (zr_q rfl (zt_n ?_))))))))))))); refine zw_c rfl (zc_f (zw_k (zb_n (zt_n (zw_o (yq rfl (zqA zI ?_)))))))); refine And.intro ⟨by omega, by omega⟩ ?_)
                    (refine yk (yP rfl (yT (zaf_raw ?_))); refine ⟨(i + 1, es'), _, SLe.refl _ _, ?_⟩)
                    exact ⟨⟨by omega, nextc cf, s1⟩, by omega, ⟨rfl, rfl, rfl, rfl, rfl, trivial⟩, ⟨rfl, trivial⟩⟩
    · have e1 : i = cs.length := by simp only at q1; omega
      (refine zw_x (zt_x (zt_x (zb_h (zt_n (yS (yA rfl (yR zi ?_))))))); refine And.intro ?_ trivial)
      rw [firstN_none fun k _ hk => q2 k (by simp only; omega)]
      rfl
end Go.Proofs.YtcfhiodoogkcpaaGreatDoor.M
