/- By the machine: a line to rules, of the house. -/
import Derived.Test.YthjfllfhagdnpaaGreatDoorMClone
set_option linter.unusedSimpArgs false
set_option linter.unusedVariables false
namespace Go.Proofs.YthjfllfhagdnpaaGreatDoor.M
open Go.AM Go.RowKit Go.Lib Go.Proofs.YthjfllfhagdnpaaGreatDoor.Num
open Reg (Rect Spans Band)

set_option maxRecDepth 100000 in
set_option maxHeartbeats 4000000 in
theorem house_line (r : Rules) (hc : r.classes.length ≤ 1000000) (ha : r.areas.length ≤ 1000000) (s : ByteArray) (hs : s.size ≤ 900000) (k : Int) : ACalls C 112 [.hbox (hr r), .pv (i64 k), .pv (str s)] (.p (bool (lineR r s k).isSome)) [.hbox (hr ((lineR r s k).getD r))] := by
  have pl := words_le s
  refine fun_goL hC Tryz.func112 rfl rfl 192 rfl (by decide) (by kernel_rfl) fun _ _ _ _ _ => ⟨_, SLe.open hC _ 100000 [90000, 90001] (by exact rfl) rfl rfl rfl, ?_⟩
  refine yS (yA rfl (yT (zw_sl ?_)))
  (refine zw_o (yP rfl (yn rfl (zqX zI ?_))); refine ⟨_, _, (split_blank s (by omega)), ?_⟩)
  refine zkns (zst_ow (zo_n rfl (zs_ar rfl rfl rfl rfl rfl (yT (zaf_raw ?_)))))
  refine zSL (SLe.own (by exact hC) _ 7 (by exact rfl) (by exact rfl)) ?_
  cases hk : okWords (wordsS s) with
  | false =>
    (refine zw_s (yS (yP rfl (yn rfl (zqX zI ?_)))); refine ⟨_, _, (words_noH (s := s) hs hk), ?_⟩)
    refine zkn rfl rfl (zst_p (yT (zw_c rfl (zc_t (yS (yA rfl (yT (zw_r (zt_r (ze_r zi ?_))))))))))
    rw [lineR, lineW, hk]
    refine And.intro rfl (And.intro ?_ trivial)
    exact ⟨rfl, rfl, rfl, rfl, rfl, rfl, rfl, rfl, trivial⟩
  | true =>
    (refine zw_s (yS (yP rfl (yn rfl (zqX zI ?_)))); refine ⟨_, _, (words_yesH (s := s) hs hk), ?_⟩)
    have e0 : lineR r s k = if k = 0 then headR r (wordsS s) else if isClass r (wordsS s) then classR r (wordsS s) else areaR r (wordsS s) := by rw [lineR, lineW, hk]; rfl
    generalize lineR r s k = R at e0 ⊢
    have hl : (wordsS s).length ≤ 900001 := by omega
    have hz : ∀ x ∈ wordsS s, x.size ≤ 900000 := fun x hx => by have := splitB_size _ _ _ x hx; omega
    have hn0 : wordsS s ≠ [] := fun e => by have := words_length s; rw [e] at this; simp at this
    generalize wordsS s = w at hl hz hn0 hk e0 ⊢
    obtain ⟨w0, wt, rfl⟩ : ∃ w0 wt, w = w0 :: wt := by
      cases w with
      | nil => exact absurd rfl hn0
      | cons a r => exact ⟨a, r, rfl⟩
    have wl : wt.length ≤ 900000 := by simp at hl; omega
    have wz : ∀ x ∈ wt, x.size < 4294967281 := fun x hx => by have := hz x (by simp [hx]); omega
    have lm := len_map wt fun s => [str s]
    ((refine zkn rfl rfl (zst_p (yT (zw_c rfl (zc_f (zw_k (zt_n (zw_s (zw_b (yS (yP rfl (yP rfl (yA rfl (yT ?_))))))))))))); refine zw_c rfl ?_); refine bcase_split (fun h2 => ?_) (fun h2 => ?_) <;> try simp only [zB] at h2)
    · rw [if_pos h2] at e0
      (refine yS (yP rfl (yq rfl (zqA zI ?_))); refine And.intro ⟨by decide, by simp; omega, by simp, fun r hr => by
        rcases List.mem_cons.1 hr with h | h
        · subst h; rfl
        · obtain ⟨_, _, rfl⟩ := List.mem_map.1 h; rfl⟩ ?_)
      rw [drop_pv]
      cases hn : wt.all numB with
      | false =>
        have e : R = none := by rw [e0, headR]; simp [hn]
        subst e
        (refine yk (yn rfl (zqX zI ?_)); refine ⟨_, _, (nums_noH (l := wt) (by omega) wz hn), ?_⟩)
        ((refine zkn rfl rfl (zst_tu (yq rfl (zq1 zI (zkq (zst_tu (yP rfl (yP rfl (yA rfl (yA rfl (yT (zw_s (yS (yP rfl ?_))))))))))))); refine yq rfl (zqX zI ?_)); refine ⟨[str w0], (idx (i := 0) rfl rfl), ?_⟩)
        (refine yk (yP rfl (yP rfl (yP rfl (yg rfl ?_)))); refine bcase_split (fun h3 => ?_) (fun h3 => ?_) <;> try simp only [zB] at h3)
        · (refine zg_f (zst_p (y0 rfl (yP rfl (yP rfl (y0 rfl (y0 rfl (y0 rfl (yP rfl (yT (zw_c rfl (zc_t (yS (yA rfl ?_))))))))))))); refine yT (zw_r (zt_r (zb_r (zt_r (ze_r zi ?_))))))
          exact And.intro rfl (And.intro ⟨rfl, rfl, rfl, rfl, rfl, rfl, rfl, rfl, trivial⟩ trivial)
        · (refine zg_t (zs_q rfl rfl (zq1 zI (yk (y1 rfl (yP rfl (yP rfl (y0 rfl (y0 rfl (y0 rfl (yP rfl (yT (zw_c rfl (zc_t ?_))))))))))))); refine yS (yA rfl (yT (zw_r (zt_r (zb_r (zt_r (ze_r zi ?_))))))))
          exact And.intro rfl (And.intro ⟨rfl, rfl, rfl, rfl, rfl, rfl, rfl, rfl, trivial⟩ trivial)
      | true =>
        (refine yk (yn rfl (zqX zI ?_)); refine ⟨_, _, (nums_yesH (l := wt) (by omega) wz hn), ?_⟩)
        ((refine zkn rfl rfl (zst_tu (yq rfl (zq1 zI (zkq (zst_tu (yP rfl (yP rfl (yA rfl (yA rfl (yT (zw_s (yS (yP rfl ?_))))))))))))); refine yq rfl (zqX zI ?_)); refine ⟨[str w0], (idx (i := 0) rfl rfl), ?_⟩)
        (refine yk (yP rfl (yP rfl (yP rfl (yg rfl ?_)))); refine bcase_split (fun h3 => ?_) (fun h3 => ?_) <;> try simp only [zB] at h3)
        · have e : R = none := by
            have h3 : ¬ w0 = wR := h3
            rw [e0, headR, if_neg]
            simp only [List.head?_cons, Bool.and_eq_true, decide_eq_true_eq, Option.some.injEq]
            exact fun h => h3 h.2
          subst e
          (refine zg_f (zst_p (y0 rfl (yP rfl (yP rfl (y0 rfl (y0 rfl (y0 rfl (yP rfl (yT (zw_c rfl (zc_t (yS (yA rfl ?_))))))))))))); refine yT (zw_r (zt_r (zb_r (zt_r (ze_r zi ?_))))))
          exact And.intro rfl (And.intro ⟨rfl, rfl, rfl, rfl, rfl, rfl, rfl, rfl, trivial⟩ trivial)
        · have h3 : w0 = wR := by first | exact h3 | exact Classical.not_not.1 h3
          (refine zg_t (zs_q rfl rfl (zq1 zI (yk (y1 rfl (yP rfl (yP rfl (y1 rfl (y1 rfl (y1 rfl (yP rfl (yT (zw_c rfl ?_)))))))))))); refine bcase_split (fun h4 => ?_) (fun h4 => ?_) <;> try simp only [zB] at h4)
          · have e : R = none := by
              have h4 : wt.length ≠ 5 := fun h => h4 (by simp [h])
              rw [e0, headR]
              simp only [List.drop_one, List.tail_cons, hn, h3]
              match wt, h4 with
              | [], _ => rfl
              | [_], _ => rfl
              | [_, _], _ => rfl
              | [_, _, _], _ => rfl
              | [_, _, _, _], _ => rfl
              | _ :: _ :: _ :: _ :: _ :: _ :: _, _ => rfl
            subst e
            refine yS (yA rfl (yT (zw_r (zt_r (zb_r (zt_r (ze_r zi ?_)))))))
            exact And.intro rfl (And.intro ⟨rfl, rfl, rfl, rfl, rfl, rfl, rfl, rfl, trivial⟩ trivial)
          · have h4 : wt.length = 5 := by
              have h4 : ((wt.map numV).map fun n => [i64 n]).length = (5 : Int) := by first | exact h4 | exact Classical.not_not.1 h4
              simp at h4; omega
            obtain ⟨a, b, c, d, e, rfl⟩ : ∃ a b c d e, wt = [a, b, c, d, e] := by
              match wt, h4 with
              | [a, b, c, d, e], _ => exact ⟨a, b, c, d, e, rfl⟩
            have e1 : R = some { r with clearance := numV a, width := numV b, ring := numV c, edge := numV d, holeGap := numV e } := by
              rw [e0, headR]
              simp only [List.drop_one, List.tail_cons, hn, h3]
              rfl
            subst e1
            ((refine zw_k (zt_n (zw_s (zw_d false [true, true, true, true, true, true, true, true, true, true, true, true, true, true, true, true, true, true, true, true, true, true, true, true, true, true, true, true, true, true, true, true, true, true, true] rfl (by kernel_rfl) (zp_q rfl (dq rfl (zq1 zI (zkd (zst_bx (dq rfl (zq1 zI (zkd (zst_bx (dq rfl ?_))))))))))))); refine zq1 zI (zkd (zst_bx (dq rfl (zq1 zI (zkd (zst_bx (dq rfl (zq1 zI (zkd (zst_bx (yD rfl (dq rfl (zqX zI ?_)))))))))))))); refine ⟨[i64 (numV a)], (idx (i := 0) rfl rfl), ?_⟩)
            (refine zkd (zst_p (yD rfl (yD rfl (dq rfl (zqX zI ?_))))); refine ⟨[i64 (numV b)], (idx (i := 1) rfl rfl), ?_⟩)
            (refine zkd (zst_p (yD rfl (yD rfl (dq rfl (zqX zI ?_))))); refine ⟨[i64 (numV c)], (idx (i := 2) rfl rfl), ?_⟩)
            (refine zkd (zst_p (yD rfl (yD rfl (dq rfl (zqX zI ?_))))); refine ⟨[i64 (numV d)], (idx (i := 3) rfl rfl), ?_⟩)
            (refine zkd (zst_p (yD rfl (yD rfl (dq rfl (zqX zI ?_))))); refine ⟨[i64 (numV e)], (idx (i := 4) rfl rfl), ?_⟩)
            (refine zkd (zst_p (yD rfl (yW rfl (yW rfl (dq rfl (zq1 zI (zkde rfl (zst_e (zst_0 (yW rfl (yW rfl (dq rfl (zq1 zI ?_))))))))))))); refine zkde rfl (zst_e (zst_0 (yW rfl (yW rfl (dq rfl (zq1 zI (zkde rfl (zst_e (zst_0 (yW rfl (yW rfl (dq rfl (zq1 zI ?_))))))))))))); refine zkde rfl (zst_e (zst_0 (yW rfl (yW rfl (dq rfl (zq1 zI (zkde rfl (zst_e (zst_0 (zd_0 (zr_q rfl (zt_n (yS ?_))))))))))))); refine yA rfl (yT (zw_r (zb_r (zt_r (ze_r zi ?_))))))
            exact And.intro rfl (And.intro ⟨rfl, rfl, rfl, rfl, rfl, rfl, rfl, rfl, trivial⟩ trivial)
    · rw [if_neg h2] at e0
      refine zw_s ?_
      refine cut' (fun b : Bool => b = isClass r (w0 :: wt)) (fun b => [(0, .bx 100000 0), (7, .p (strs (w0 :: wt))), (72, .p (bool b))]) (fun _ => [(100000, .box [.p (i64 r.clearance), .p (i64 r.width), .p (i64 r.ring), .p (i64 r.edge), .p (i64 r.holeGap), .ow 90000, .ow 90001]), (90000, .row 169 (r.classes.map kl)), (90001, .row 171 (r.areas.map arr))]) (fun b hb t h => ?_) ?_
      · have one1 : ∀ q ∈ ((w0 :: wt).map fun s => [str s]), q.length = 1 := fun q hq => by
          obtain ⟨_, _, rfl⟩ := List.mem_map.1 hq; rfl
        subst hb
        cases hcl : isClass r (w0 :: wt) with
        | true =>
          rw [hcl, if_pos rfl] at e0
          have h34 : w0 = wC ∧ 3 ≤ wt.length := by
            simp only [isClass, List.head?_cons, Bool.and_eq_true, decide_eq_true_eq, Option.some.injEq, List.length_cons] at hcl
            exact ⟨hcl.1, by omega⟩
          obtain ⟨h3, h4⟩ := h34
          obtain ⟨n, a, b, nets, rfl⟩ : ∃ n a b nets, wt = n :: a :: b :: nets := by
            match wt, h4 with
            | n :: a :: b :: nets, _ => exact ⟨n, a, b, nets, rfl⟩
          have z2 : ∀ x ∈ [a, b], x.size < 4294967281 := fun x hx => wz x (by simp at hx ⊢; rcases hx with h | h <;> simp [h])
          (refine zw_c rfl (zc_t (yS (yP rfl (yq rfl (zqA zI ?_))))); refine And.intro ⟨by decide, by decide, by simp; omega, one1⟩ ?_)
          cases hn : [a, b].all numB with
          | false =>
            have e : R = none := by
              rw [e0, classR]; simp only [List.all_cons, List.all_nil, Bool.and_true] at hn; rw [hn]; rfl
            subst e
            (refine yk (yn rfl (zqX zI ?_)); refine ⟨_, _, (nums_noH (l := [a, b]) (by simp) z2 hn), ?_⟩)
            (refine zkn rfl rfl (zst_tu (yq rfl (zq1 zI (zkq (zst_tu (yP rfl (yP rfl (yA rfl (yA rfl (yT (zw_s (yS (yP rfl ?_))))))))))))); refine yP rfl (yT (zw_c rfl (zc_t (yS (yA rfl (yT (zw_r (zt_r (zb_r (zt_r (ze_r zi ?_))))))))))))
            exact And.intro rfl (And.intro ⟨rfl, rfl, rfl, rfl, rfl, rfl, rfl, rfl, trivial⟩ trivial)
          | true =>
            have e : R = some { r with classes := r.classes ++ [⟨n, nets, numV a, numV b⟩] } := by
              rw [e0, classR]; simp only [List.all_cons, List.all_nil, Bool.and_true] at hn; rw [hn]; rfl
            subst e
            (refine yk (yn rfl (zqX zI ?_)); refine ⟨_, _, (nums_yesH (l := [a, b]) (by simp) z2 hn), ?_⟩)
            ((refine zkn rfl rfl (zst_tu (yq rfl (zq1 zI (zkq (zst_tu (yP rfl (yP rfl (yA rfl (yA rfl (yT (zw_s (yS (yP rfl ?_))))))))))))); refine yP rfl (yT (zw_c rfl (zc_f (zw_k (zt_n (zw_s (zw_d true [true, true, true, true, true, true, true, true, true, true, true, true, true, true, true, true, true, true, true, true, true, true, true] rfl (by kernel_rfl) (zp_s rfl (zp_s rfl (zp_s rfl (zp_s rfl (zp_s rfl (zp_s rfl ?_))))))))))))); refine zp_s rfl (zp_s rfl (zp_s rfl (zp_s rfl (zp_s rfl (zp_s rfl (zp_s rfl (zp_s rfl (zp_s rfl (zp_s rfl (zp_n rfl rfl (zp_s rfl (zp_n rfl rfl (zp_n rfl rfl ?_))))))))))))); refine zp_q rfl (dq rfl (zq1 zI (zkd (zst_bx (dq rfl (zq1 zI (zkd (zst_bx (yW rfl (yW rfl (dq rfl (zq1 zI (zkd ?_))))))))))))); refine zst_ow (yD rfl (dq rfl (zqX zI ?_)))); refine ⟨[str n], (idx (i := 1) rfl rfl), ?_⟩)
            (refine zkd (zst_p (yD rfl (yD rfl (dq rfl (zqX zI ?_))))); refine ⟨[i64 (numV a)], (idx (i := 0) rfl rfl), ?_⟩)
            (refine zkd (zst_p (yD rfl (yD rfl (dq rfl (zqX zI ?_))))); refine ⟨[i64 (numV b)], (idx (i := 1) rfl rfl), ?_⟩)
            (refine zkd (zst_p (yD rfl (yD rfl (dq rfl (zqA zI ?_))))); refine And.intro ⟨by decide, by simp; omega, by simp, one1⟩ ?_)
            rw [drop_pv]
            (refine zkd (zst_p (dq rfl (zqX zI ?_))); refine ⟨_, _, (clone_strs nets (by simp at wl; omega)), ?_⟩)
            (refine zkd (zst_p (yD rfl (dq rfl (zq1 zI (zkdn rfl rfl (zst_ow (dq rfl (zqA zI ?_)))))))); refine And.intro ⟨fun q hq => by rcases List.mem_singleton.1 hq with rfl; rfl, by simp; omega, by simp; omega⟩ ?_)
            (refine zkden rfl rfl rfl (zsn_e (zsn_0 (zst_ow (yW rfl (yW rfl (dq rfl (zq1 zI (zkde rfl (zst_e (zst_0 (zd_0 (zr_q rfl (zt_n ?_))))))))))))); refine yS (yA rfl (yT (zw_r (zb_r (zt_r (ze_r zi ?_)))))))
            exact And.intro rfl (And.intro ⟨rfl, rfl, rfl, rfl, rfl, rfl, row_snocF _ kl r.classes ⟨n, nets, numV a, numV b⟩, rfl, trivial⟩ trivial)
        | false =>
          rw [hcl] at e0
          have e0 : R = areaR r (w0 :: wt) := e0
          (refine zw_c rfl (zc_f (yS (yP rfl (yq rfl (zqX zI ?_))))); refine ⟨[str w0], (idx (i := 0) rfl rfl), ?_⟩)
          (refine yk (yP rfl (yP rfl (yA rfl (yT (zw_c rfl ?_))))); refine bcase_split (fun h3 => ?_) (fun h3 => ?_) <;> try simp only [zB] at h3)
          · have h3 : w0 = wA := h3
            (refine yS (yP rfl (yq rfl (zqA zI ?_))); refine And.intro ⟨by decide, by simp; omega, by simp, one1⟩ ?_)
            rw [drop_pv]
            cases hn : wt.all numB with
            | false =>
              have e : R = none := by rw [e0, areaR]; simp [hn]
              subst e
              (refine yk (yn rfl (zqX zI ?_)); refine ⟨_, _, (nums_noH (l := wt) (by omega) wz hn), ?_⟩)
              (refine zkn rfl rfl (zst_tu (yq rfl (zq1 zI (zkq (zst_tu (yP rfl (yP rfl (yA rfl (yA rfl (yT (zw_s (yS (yP rfl ?_))))))))))))); refine yP rfl (yP rfl (y0 rfl (y0 rfl (y0 rfl (yP rfl (yP rfl (y0 rfl (y0 rfl (y0 rfl (y0 rfl (yP rfl (yT (zw_c rfl ?_))))))))))))); refine zc_t (yS (yA rfl (yT (zw_r (zt_r (zb_r (zt_r (ze_r zi ?_)))))))))
              exact And.intro rfl (And.intro ⟨rfl, rfl, rfl, rfl, rfl, rfl, rfl, rfl, trivial⟩ trivial)
            | true =>
              (refine yk (yn rfl (zqX zI ?_)); refine ⟨_, _, (nums_yesH (l := wt) (by omega) wz hn), ?_⟩)
              have e1 : R = (match wt.map numV with
                  | l :: c :: q => if q.length % 4 = 0 then some { r with areas := r.areas ++ [⟨l, quads q, c⟩] } else none
                  | _ => none) := by
                rw [e0, areaR, if_pos]
                · rfl
                · simp only [List.drop_one, List.tail_cons, hn, h3]; rfl
              have nl : ((wt.map numV).map fun n => [i64 n]).length = wt.length := by rw [List.length_map, List.length_map]
              ((refine zkn rfl rfl (zst_tu (yq rfl (zq1 zI (zkq (zst_tu (yP rfl (yP rfl (yA rfl (yA rfl (yT (zw_s (yS (yP rfl ?_))))))))))))); refine yP rfl (yP rfl (y1 rfl (y1 rfl (y1 rfl (yP rfl (yP rfl (yg rfl ?_)))))))); refine bcase_split (fun h4 => ?_) (fun h4 => ?_) <;> try simp only [zB] at h4)
              · have h4 : ((((wt.map numV).map fun n => [i64 n]).length : Nat) : Int) < 2 := h4
                rw [nl] at h4
                have e : R = none := by
                  rw [e1]
                  match wt, h4 with
                  | [], _ => rfl
                  | [_], _ => rfl
                  | _ :: _ :: r, h4 => simp at h4; omega
                subst e
                (refine zg_f (zst_p (y0 rfl (y0 rfl (y0 rfl (yP rfl (yT (zw_c rfl (zc_t (yS (yA rfl (yT (zw_r (zt_r ?_))))))))))))); refine zb_r (zt_r (ze_r zi ?_)))
                exact And.intro rfl (And.intro ⟨rfl, rfl, rfl, rfl, rfl, rfl, rfl, rfl, trivial⟩ trivial)
              · have h4 : ¬ ((((wt.map numV).map fun n => [i64 n]).length : Nat) : Int) < 2 := h4
                rw [nl] at h4
                obtain ⟨x1, x2, xq, rfl⟩ : ∃ x1 x2 xq, wt = x1 :: x2 :: xq := by
                  match wt, h4 with
                  | [], h4 => simp at h4
                  | [_], h4 => simp at h4
                  | x1 :: x2 :: xq, _ => exact ⟨x1, x2, xq, rfl⟩
                have e2 : R = if xq.length % 4 = 0 then some { r with areas := r.areas ++ [⟨numV x1, quads (xq.map numV), numV x2⟩] } else none := by
                  rw [e1]; simp
                (refine zg_t (zs_q rfl rfl (zq1 zI (yk (y1 rfl (y2 rfl (zs_q rfl rfl (zqA zI ?_))))))); refine And.intro (show (4 : Int) ≠ 0 by decide) ?_)
                (refine yk (y1 rfl (yP rfl (yT (zw_c rfl ?_)))); refine bcase_split (fun h5 => ?_) (fun h5 => ?_) <;> try simp only [zB] at h5)
                · have e : R = none := by
                    have h5 : ¬ ((((x1 :: x2 :: xq).map numV).map fun n => [i64 n]).length : Int).tmod 4 = 2 := h5
                    rw [nl, tmod4, List.length_cons, List.length_cons] at h5
                    rw [e2, if_neg]
                    intro h
                    exact h5 (by omega)
                  subst e
                  refine yS (yA rfl (yT (zw_r (zt_r (zb_r (zt_r (ze_r zi ?_)))))))
                  exact And.intro rfl (And.intro ⟨rfl, rfl, rfl, rfl, rfl, rfl, rfl, rfl, trivial⟩ trivial)
                · have h5 : ((((x1 :: x2 :: xq).map numV).map fun n => [i64 n]).length : Int).tmod 4 = 2 := by first | exact h5 | exact Classical.not_not.1 h5
                  rw [nl, tmod4, List.length_cons, List.length_cons] at h5
                  have q4 : xq.length % 4 = 0 := by omega
                  rw [if_pos q4] at e2
                  subst e2
                  simp only [List.length_cons] at wl nl
                  have ql := quads_len (xq.map numV)
                  rw [List.length_map] at ql
                  refine zw_k (zt_n (zw_sl ?_))
                  (refine zw_d false [true, true, true, true, true, true, true, true, true] rfl (by kernel_rfl) (zp_s rfl (zp_s rfl (zp_s rfl (zp_s rfl (zp_s rfl (zp_s rfl (zp_s rfl (zp_n rfl rfl (zp_q rfl (yD rfl (dq rfl (zqX zI ?_)))))))))))); refine ⟨[i64 (numV x1)], (idx (i := 0) rfl rfl), ?_⟩)
                  (refine zkd (zst_p (yD rfl (yD rfl (dq rfl (zqX zI ?_))))); refine ⟨[i64 (numV x2)], (idx (i := 1) rfl rfl), ?_⟩)
                  (refine zkd (zst_p (yD rfl (yD rfl (dq rfl (zq1 zI (zkdn rfl rfl (zst_bx (dq rfl (zq1 zI (zkde rfl (zst_e (zst_0 (zd_0 ?_))))))))))))); refine zr_q rfl (zt_n (zaf_raw ?_)))
                  refine zSL (SLe.nilCell (by exact hC) _ 14 1 90002 73 _ _ (by decide) (by decide) (by exact rfl) (by exact rfl) (by exact rfl) (by decide)) ?_
                  refine zw_sl ?_
                  refine yS (yA rfl (yT (zw_b ?_)))
                  refine loop_ok' (fun j : Nat => j ≤ (quads (xq.map numV)).length) (fun j => [(0, .bx 100000 0), (12, .p (ints ((x1 :: x2 :: xq).map numV))), (14, .bx 14 0), (15, .p (i64 (2 + 4 * (j : Int))))])
                    (fun j => [(100000, .box [.p (i64 r.clearance), .p (i64 r.width), .p (i64 r.ring), .p (i64 r.edge), .p (i64 r.holeGap), .ow 90000, .ow 90001]), (90000, .row 169 (r.classes.map kl)), (90001, .row 171 (r.areas.map arr)), (14, .box [.p (i64 (numV x1)), .ow 90002, .p (i64 (numV x2))]), (90002, .row 73 (((quads (xq.map numV)).take j).map rc))])
                    (fun j => (quads (xq.map numV)).length - j) 0 _ (SLe.refl _ _) (Nat.zero_le _) ⟨rfl, rfl, rfl, rfl, trivial⟩ ⟨rfl, rfl, rfl, rfl, rfl, trivial⟩ fun j hj t h => ?_
                  (refine zw_s (yS (yP rfl (yP rfl (yP rfl (yP rfl (yT (zw_c rfl ?_))))))); refine bcase_split (fun h6 => ?_) (fun h6 => ?_) <;> try simp only [zB] at h6)
                  · have h6 : (2 + 4 * (j : Int)) < ((((x1 :: x2 :: xq).map numV).map fun n => [i64 n]).length : Int) := h6
                    rw [nl] at h6
                    obtain ⟨a, b, c, d, ga, gb, gc, gd, gq⟩ := quads_at (xq.map numV) j (by omega)
                    have at_ : ∀ (i : Nat) (v z : Int), (xq.map numV)[4 * j + i]? = some v → z = 2 + 4 * (j : Int) + i → (((x1 :: x2 :: xq).map numV).map fun n => [i64 n])[z.toNat]? = some [i64 v] := fun i v z hv hz => by
                      have e : z.toNat = (4 * j + i) + 2 := by omega
                      rw [e, List.map_cons, List.map_cons, List.map_cons, List.map_cons, List.getElem?_cons_succ, List.getElem?_cons_succ, List.getElem?_map, hv]
                      rfl
                    have tl : (((quads (xq.map numV)).take j).map rc).length = j := by rw [List.length_map, List.length_take]; omega
                    have e6 : AB.row 73 (((quads (xq.map numV)).take j).map rc ++ [rc ⟨a, b, c, d⟩]) = AB.row 73 (((quads (xq.map numV)).take (j + 1)).map rc) := by
                      rw [take_succ' gq, List.map_append]; rfl
                    ((refine zw_k (zt_n (zw_s (zw_b (zw_d true [true, true, true, true, true, true, true, true, true, true, true, true, true, true, true, true, true, true, true, true, true, true, true, true, true, true] rfl (by kernel_rfl) (zp_s rfl (zp_s rfl (zp_s rfl (zp_s rfl (zp_s rfl (zp_s rfl (zp_s rfl (zp_s rfl (zp_s rfl ?_))))))))))))); refine zp_s rfl (zp_s rfl (zp_s rfl (zp_s rfl (zp_s rfl (zp_s rfl (zp_s rfl (zp_s rfl (zp_s rfl (zp_s rfl (zp_s rfl (zp_s rfl (zp_s rfl (zp_n rfl rfl ?_))))))))))))); refine zp_n rfl rfl (zp_q rfl (yW rfl (dq rfl (zq1 zI (zkd (zst_ow (yD rfl (yD rfl (dq rfl (zqX zI ?_))))))))))); refine ⟨[i64 a], ⟨by omega, at_ 0 a _ ga (by omega)⟩, ?_⟩)
                    (refine zkd (zst_p (yD rfl (yD rfl (yD rfl (dq rfl (zqA zI ?_)))))); refine And.intro ⟨by omega, by omega⟩ ?_)
                    (refine zkd (zst_p (dq rfl (zqX zI ?_))); refine ⟨[i64 b], ⟨by omega, at_ 1 b _ gb (by omega)⟩, ?_⟩)
                    (refine zkd (zst_p (yD rfl (yD rfl (yD rfl (dq rfl (zqA zI ?_)))))); refine And.intro ⟨by omega, by omega⟩ ?_)
                    (refine zkd (zst_p (dq rfl (zqX zI ?_))); refine ⟨[i64 c], ⟨by omega, at_ 2 c _ gc (by omega)⟩, ?_⟩)
                    (refine zkd (zst_p (yD rfl (yD rfl (yD rfl (dq rfl (zqA zI ?_)))))); refine And.intro ⟨by omega, by omega⟩ ?_)
                    (refine zkd (zst_p (dq rfl (zqX zI ?_))); refine ⟨[i64 d], ⟨by omega, at_ 3 d _ gd (by omega)⟩, ?_⟩)
                    (refine zkd (zst_p (yD rfl (yD rfl (dq rfl (zq1 zI (zkdn rfl rfl (zst_ow (dq rfl (zqA zI ?_))))))))); refine And.intro ⟨fun q hq => by rcases List.mem_singleton.1 hq with rfl; rfl, by rw [tl]; simp; omega, by rw [tl]; simp; omega⟩ ?_)
                    ((refine zkden rfl rfl rfl (zsn_e (zsn_0 (zst_ow (yW rfl (dq rfl (zq1 zI (zkde rfl (zst_e (zst_0 (zd_0 (zr_q rfl (zb_n (zt_n ?_))))))))))))); refine zw_o (yP rfl (yq rfl (zqA zI ?_)))); refine And.intro ⟨by omega, by omega⟩ ?_)
                    refine yk (yA rfl (yT (zaf_raw ?_)))
                    refine ⟨j + 1, _, SLe.ren _ 180 90002 (by decide) (by decide), ?_⟩
                    exact ⟨by omega, by omega, ⟨rfl, rfl, rfl, congrArg (fun z => AV.p (i64 z)) (by omega), trivial⟩, ⟨rfl, rfl, rfl, rfl, e6, trivial⟩⟩
                  · have h6 : ¬ (2 + 4 * (j : Int)) < ((((x1 :: x2 :: xq).map numV).map fun n => [i64 n]).length : Int) := h6
                    rw [nl] at h6
                    have ej : j = (quads (xq.map numV)).length := by omega
                    subst ej
                    rw [List.take_length]
                    refine zw_x (zt_x (zt_x (zb_h (zt_n (zaf_raw ?_)))))
                    refine zSL (SLe.frzCell (by exact hC) _ 14 1 90002 73 _ _ (by decide) (by exact rfl) (by exact rfl) (by exact rfl)) ?_
                    ((refine zw_s (zw_d true [true, true, true, true, true, true, true, true, true, true, true] rfl (by kernel_rfl) (zp_s rfl (zp_s rfl (zp_s rfl (zp_s rfl (zp_s rfl (zp_s rfl (zp_n rfl rfl (zp_n rfl rfl (zp_q rfl (dq rfl (zq1 zI (zkd ?_))))))))))))); refine zst_bx (dq rfl (zq1 zI (zkd (zst_bx (yW rfl (yW rfl (dq rfl (zq1 zI (zkd (zst_ow (yD rfl (dq rfl (zq1 zI ?_))))))))))))); refine zkdn rfl rfl (zst_ow (dq rfl (zqA zI ?_)))); refine And.intro ⟨fun q hq => by rcases List.mem_singleton.1 hq with rfl; rfl, by simp; omega, by simp; omega⟩ ?_)
                    (refine zkden rfl rfl rfl (zsn_e (zsn_0 (zst_ow (yW rfl (yW rfl (dq rfl (zq1 zI (zkde rfl (zst_e (zst_0 (zd_0 (zr_q rfl (zt_n ?_))))))))))))); refine yS (yA rfl (yT (zw_r (zb_r (zt_r (ze_r zi ?_)))))))
                    exact And.intro rfl (And.intro ⟨rfl, rfl, rfl, rfl, rfl, rfl, rfl, row_snocF _ arr r.areas ⟨numV x1, quads (xq.map numV), numV x2⟩, trivial⟩ trivial)
          · have e : R = none := by
              have h3 : ¬ w0 = wA := h3
              rw [e0, areaR, if_neg]
              simp only [List.head?_cons, Bool.and_eq_true, decide_eq_true_eq, Option.some.injEq]
              exact fun h => h3 h.2
            subst e
            refine zw_k (zb_n (zt_n (yS (yA rfl (yR zi ?_)))))
            exact And.intro rfl (And.intro ⟨rfl, rfl, rfl, rfl, rfl, rfl, rfl, rfl, trivial⟩ trivial)
      · (refine zw_o (yP rfl (yq rfl (zqX zI ?_))); refine ⟨[str w0], (idx (i := 0) rfl rfl), ?_⟩)
        (refine yk (yP rfl (yP rfl (yP rfl (yg rfl ?_)))); refine bcase_split (fun h3 => ?_) (fun h3 => ?_) <;> try simp only [zB] at h3)
        · have h3 : w0 = wC := h3
          (refine zg_t (zs_q rfl rfl (zq1 zI (yk (y1 rfl (y1 rfl (yP rfl (yP rfl (yg rfl ?_)))))))); refine bcase_split (fun h4 => ?_) (fun h4 => ?_) <;> try simp only [zB] at h4)
          · have h4 : (4 : Int) ≤ ((w0 :: wt).map fun s => [str s]).length := h4
            have h4 : 3 ≤ wt.length := by rw [List.length_map, List.length_cons] at h4; omega
            have hcl : decide (((r.areas.map arr).length : Int) = 0) = isClass r (w0 :: wt) := by
              rw [isClass]
              simp [h3]
              intro _
              omega
            (refine zg_t (zs_q rfl rfl (zq1 zI (zkq (zst_bx (y2 rfl (zs_q rfl rfl (zq1 zI (zkq (zst_bx (y2 rfl (zs_q rfl rfl (zq1 zI (zkq ?_))))))))))))); refine zst_bx (y2 rfl (zs_q rfl rfl (zq1 zI (zkq (zst_ow (y1 rfl (y1 rfl (yP rfl (yA rfl (yT (zaf_raw (zX zi ?_)))))))))))))
            exact ⟨isClass r (w0 :: wt), rfl, ⟨rfl, rfl, congrArg (fun z => AV.p (bool z)) hcl, trivial⟩, ⟨rfl, rfl, rfl, trivial⟩⟩
          · have h4 : ¬ (4 : Int) ≤ ((w0 :: wt).map fun s => [str s]).length := h4
            have hcl : isClass r (w0 :: wt) = false := by
              have h4 : ¬ 4 ≤ (w0 :: wt).length := by rw [List.length_map] at h4; omega
              rw [isClass]
              simp only [h4, decide_false, Bool.false_and, Bool.and_false]
            refine zg_f (zst_p (y0 rfl (y0 rfl (y0 rfl (y0 rfl (y0 rfl (yP rfl (yA rfl (yT (zaf_raw (zX zi ?_)))))))))))
            exact ⟨false, hcl.symm, ⟨rfl, rfl, rfl, trivial⟩, ⟨rfl, rfl, rfl, trivial⟩⟩
        · have h3 : ¬ w0 = wC := h3
          have hcl : isClass r (w0 :: wt) = false := by
            simp [isClass, h3]
          (refine zg_f (zst_p (y0 rfl (y0 rfl (yP rfl (yP rfl (y0 rfl (y0 rfl (y0 rfl (y0 rfl (y0 rfl (y0 rfl (yP rfl (yA rfl ?_))))))))))))); refine yT (zaf_raw (zX zi ?_)))
          exact ⟨false, hcl.symm, ⟨rfl, rfl, rfl, trivial⟩, ⟨rfl, rfl, rfl, trivial⟩⟩
end Go.Proofs.YthjfllfhagdnpaaGreatDoor.M
