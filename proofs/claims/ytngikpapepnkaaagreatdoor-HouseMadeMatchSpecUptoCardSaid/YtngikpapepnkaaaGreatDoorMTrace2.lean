/- By the machine: what was done with a panel, by the reference. -/
import Derived.Test.YtngikpapepnkaaaGreatDoorMTrace1
import Derived.Test.YtngikpapepnkaaaGreatDoorMSort5
set_option linter.unusedSimpArgs false
set_option linter.unusedVariables false
namespace Go.Proofs.YtngikpapepnkaaaGreatDoor.M
open Go.AM Go.RowKit
open Reg (stab SortedL SameKinds)

def sameK (lot : ByteArray) (panel : Int) (d : Doing) : Bool := decide (d.lot = lot) && decide (d.panel = panel)
def traceD (l : List Doing) (lot : ByteArray) (panel : Int) : List Doing := stab leD (l.filter (sameK lot panel))
theorem trace_len (l : List Doing) (lot : ByteArray) (panel : Int) : (traceD l lot panel).length ≤ l.length := by rw [traceD, Reg.stab_length]; exact List.length_filter_le _ _
theorem filter_skip {l : List Doing} {i : Nat} {d : Doing} {p : Doing → Bool} (hd : l[i]? = some d) (h : p d = false) : (l.take (i + 1)).filter p = (l.take i).filter p := by
  rw [take_succ' hd, List.filter_append, List.filter_cons_of_neg (by simp [h])]; simp
theorem filter_more {l : List Doing} {i : Nat} {d : Doing} {p : Doing → Bool} (hd : l[i]? = some d) (h : p d = true) : (l.take (i + 1)).filter p = (l.take i).filter p ++ [d] := by
  rw [take_succ' hd, List.filter_append, List.filter_cons_of_pos h]; rfl
theorem rows7 {W : List Doing} {r : List PV} (h : r ∈ W.map dc) : r.length = 7 := by
  obtain ⟨x, _, rfl⟩ := List.mem_map.1 h
  rfl
theorem take_rows (W : List Doing) (q : Int) (k : Nat) (h : q = (k : Int)) : (W.map dc).take q.toNat = (W.take k).map dc := by subst h; rw [Int.toNat_natCast, List.map_take]
theorem row_out {T W : List Doing} {d : Doing} {q : Nat} (h : T = W.take q ++ d :: W.drop q) (hl : (W.map dc).length = W.length) : AV.p (.sl ((((W.map dc).take (Int.toNat q)).drop (Int.toNat 0) ++ [dc d]) ++ ((W.map dc).take (Int.toNat (W.map dc).length)).drop (Int.toNat q))) = AV.p (.sl (T.map dc)) := by
  rw [Int.toNat_natCast, Int.toNat_natCast, List.take_length, h, List.map_append, List.map_cons, List.map_take, List.map_drop]
  simp
set_option maxRecDepth 100000 in
set_option maxHeartbeats 1000000 in
theorem ref12_trace (l : List Doing) (lot : ByteArray) (panel : Int) (hN : l.length ≤ maxD) : ACalls C 21 [.pv (.sl (l.map dc)), .pv (str lot), .pv (i64 panel)] (.p (.sl ((traceD l lot panel).map dc))) [] := by
  refine fun_go hC Tryz.func21 rfl rfl 69 rfl (by decide) (by kernel_rfl) fun _ _ _ _ _ => ?_
  have lm := len_map l dc
  unfold maxD at hN
  refine yS (yB rfl (yU (yB rfl (yT (zw_s (yS (yA rfl (yT (zw_b ?_)))))))))
  refine loop_ok' (fun i : Nat => i ≤ l.length) (fun i => [(0, .p (.sl (l.map dc))), (1, .p (str lot)), (2, .p (i64 panel)), (7, .p (.sl ((traceD (l.take i) lot panel).map dc))), (8, .p (i64 i))]) (fun _ => []) (fun i => l.length - i) 0 _ (SLe.nil hC _ 7 rfl) (Nat.zero_le _) ⟨rfl, rfl, rfl, rfl, rfl, trivial⟩ trivial fun i hi t h => ?_
  have tl := trace_len (l.take i) lot panel
  have tl2 : (l.take i).length ≤ l.length := by rw [List.length_take]; omega
  (refine zw_s (yS (yP rfl (yP rfl (yP rfl (yP rfl (yT (zw_c rfl ?_))))))); refine bcase_split (fun h1 => ?_) (fun h1 => ?_) <;> try simp only [zB] at h1)
  · obtain ⟨d, hd⟩ := get_of (l := l) (i := i) (by omega)
    have skip : sameK lot panel d = false → traceD (l.take (i + 1)) lot panel = traceD (l.take i) lot panel := fun h => by rw [traceD, filter_skip hd h]; rfl
    (refine zw_k (zt_n (zw_s (zw_b (zw_s (yS (yP rfl (yP rfl (yq rfl (zqX zI ?_))))))))); refine ⟨(dc d), (idx rfl hd), ?_⟩)
    (refine yk (yP rfl (yP rfl (yP rfl (yP rfl (yP rfl (yg rfl ?_)))))); refine bcase_split (fun h2 => ?_) (fun h2 => ?_) <;> try simp only [zB] at h2)
    · ((refine zg_f (zst_p (y0 rfl (y0 rfl (y0 rfl (y0 rfl (y0 rfl (y0 rfl (yP rfl (yT (zw_c rfl (zc_t (zw_x (zt_x ?_))))))))))))); refine zb_h (zt_n (zw_o (yP rfl (yq rfl (zqA zI ?_)))))); refine And.intro ⟨by omega, by omega⟩ ?_)
      (refine yk (yA rfl (yT (zaf_raw ?_))); refine ⟨(i + 1), _, SLe.refl _ _, ?_⟩)
      exact ⟨by omega, by omega, ⟨rfl, rfl, rfl, by rw [skip (by simp [sameK, h2])]; rfl, rfl, trivial⟩, trivial⟩
    · (refine zg_t (zs_q rfl rfl (zq1 zI (yk (y1 rfl (y2 rfl (zs_q rfl rfl (zqX zI ?_))))))); refine ⟨(dc d), (idx rfl hd), ?_⟩)
      (refine yk (y1 rfl (y1 rfl (y1 rfl (y1 rfl (yP rfl (yT (zw_c rfl ?_))))))); refine bcase_split (fun h3 => ?_) (fun h3 => ?_) <;> try simp only [zB] at h3)
      · (refine zw_x (zt_x (zb_h (zt_n (zw_o (yP rfl (yq rfl (zqA zI ?_))))))); refine And.intro ⟨by omega, by omega⟩ ?_)
        (refine yk (yA rfl (yT (zaf_raw ?_))); refine ⟨(i + 1), _, SLe.refl _ _, ?_⟩)
        exact ⟨by omega, by omega, ⟨rfl, rfl, rfl, by rw [skip (by simp [sameK, h3])]; rfl, rfl, trivial⟩, trivial⟩
      · have hk : sameK lot panel d = true := by simp_all [sameK]
        obtain ⟨W, hW⟩ : ∃ W, W = traceD (l.take i) lot panel := ⟨_, rfl⟩
        have lw := len_map W dc
        rw [← hW] at tl
        have hs : SortedL leD W := by rw [hW]; exact (Reg.stab_facts preD _).1
        have next : ∀ q, (∀ e ∈ W.drop q, leD e d = false) → (q = 0 ∨ ∃ y, W[q - 1]? = some y ∧ leD y d = true) → traceD (l.take (i + 1)) lot panel = W.take q ++ d :: W.drop q := fun q h1 h2 => by
          rw [traceD, filter_more hd hk]
          exact Reg.put_eq preD (by rw [List.take_append_drop, hW]; rfl) (Reg.take_down hs (fun a b h3 h4 => preD.trans _ _ _ h3 h4) h2) h1
        refine zw_k (zt_n (yS (yP rfl (yP rfl (yA rfl (yT (zw_s (zw_b ?_))))))))
        refine loop_ok' (fun q : Nat => q ≤ W.length ∧ ∀ e ∈ W.drop q, leD e d = false) (fun q => [(0, .p (.sl (l.map dc))), (1, .p (str lot)), (2, .p (i64 panel)), (7, .p (.sl (W.map dc))), (8, .p (i64 i)), (9, .p (i64 q))]) (fun _ => []) (fun q => q) W.length _ (SLe.refl _ _) ⟨Nat.le_refl _, by simp⟩ ⟨rfl, rfl, rfl, by rw [hW]; rfl, rfl, by rw [hW, ← len_map _ dc]; rfl, trivial⟩ trivial fun q hq t h => ?_
        obtain ⟨q1, q2⟩ := hq
        ((refine zw_s (zw_s (zw_d [] false [true, true, true, true, true, true, true, true, true, true, true, true, true, true] rfl (by kernel_rfl) (zp_s rfl (zp_s rfl (zp_s rfl (zp_s rfl (zp_s rfl (zp_s rfl (zp_s rfl (zp_s rfl (zp_s rfl (zp_s rfl (zp_s rfl ?_))))))))))))); refine zp_s rfl (zp_n rfl rfl (zp_q rfl (yD rfl (yD rfl (yD rfl (dg rfl ?_))))))); refine bcase_split (fun h4 => ?_) (fun h4 => ?_) <;> try simp only [zB] at h4)
        · obtain ⟨y, hy⟩ := get_of (l := W) (i := q - 1) (by omega)
          (refine zg_t (zd_q rfl (zq1 zI (zkd (zst_p (d1 rfl (d2 rfl (zd_q rfl (zqA zI ?_)))))))); refine And.intro ⟨by omega, by omega⟩ ?_)
          (refine zkd (zst_p (d2 rfl (zd_q rfl (zqX zI ?_)))); refine ⟨(dc y), (idx (show (q : Int) - 1 = ((q - 1 : Nat) : Int) by omega) hy), ?_⟩)
          (refine zkd (zst_p (d1 rfl (d1 rfl (d1 rfl (d2 rfl (zd_q rfl (zqX zI ?_))))))); refine ⟨(dc d), (idx rfl hd), ?_⟩)
          (refine zkd (zst_p (d1 rfl (d2 rfl (zd_q rfl (zqX zI ?_))))); refine ⟨_, _, (ref12_later y d), ?_⟩)
          (refine zkd (zst_p (yD rfl (zd_0 (zr_q rfl (zt_n (zw_c rfl ?_)))))); refine bcase_split (fun h5 => ?_) (fun h5 => ?_) <;> try simp only [zB] at h5)
          · (refine zw_k (zt_n (zw_b (zw_o (yP rfl (yq rfl (zqA zI ?_)))))); refine And.intro ⟨by omega, by omega⟩ ?_)
            (refine yk (yA rfl (zo_0 (zb_n (zt_n (zaf_raw ?_))))); refine ⟨(q - 1), _, SLe.refl _ _, ?_⟩)
            refine ⟨⟨by omega, fun e he => ?_⟩, by omega, ⟨rfl, rfl, rfl, rfl, rfl, congrArg (fun n : Int => AV.p (i64 n)) (by omega), trivial⟩, trivial⟩
            rw [show q - 1 = q - 1 from rfl, List.drop_eq_getElem_cons (Reg.lt_of_getS hy)] at he
            rw [List.getElem?_eq_getElem (Reg.lt_of_getS hy)] at hy
            injection hy with hy
            rcases List.mem_cons.1 he with e1 | he
            · rw [e1, hy]; simpa using h5
            · exact q2 e (by rw [show q = q - 1 + 1 by omega]; exact he)
          · ((refine zw_x (zt_x (zt_x (zb_h (zt_n (yS (yB rfl (yU (yq rfl (zq1 zI (zkq (zst_nl (yP rfl (yP rfl ?_))))))))))))); refine yq rfl (zqA zI ?_)); refine And.intro ⟨by decide, by omega, by rw [lw]; omega, fun r hr => rows7 hr⟩ ?_)
            (refine yk (yn rfl (zqA zI ?_)); refine And.intro ⟨fun r hr => rows7 (List.mem_of_mem_take (List.mem_of_mem_drop hr)), by simp only [List.length_drop, List.length_take, List.length_map]; omega, by simp only [List.length_drop, List.length_take, List.length_map]; omega⟩ ?_)
            (refine zkns (zst_ow (zo_n rfl (zs_ar rfl rfl rfl rfl rfl (yU (yq rfl (zq1 zI (zkq (zst_ow (yP rfl (yP rfl (yq rfl (zqX zI ?_)))))))))))); refine ⟨(dc d), (idx rfl hd), ?_⟩)
            (refine yk (yP rfl (yn rfl (zq1 zI (zkns (zst_ow (yn rfl (zqA zI ?_))))))); refine And.intro ⟨fun r hr => by simp at hr; subst hr; rfl, by simp only [List.length_append, List.length_drop, List.length_take, List.length_map, List.length_set, List.length_replicate]; omega, by simp only [List.length_append, List.length_drop, List.length_take, List.length_map, List.length_set, List.length_replicate]; omega⟩ ?_)
            ((refine zkns (zst_e (zst_ow (zo_n rfl (zs_ar rfl rfl rfl rfl rfl (yT (zw_o (yq rfl (zq1 zI (zkq (zst_ow (yP rfl (yP rfl (yq rfl ?_))))))))))))); refine zqA zI ?_); refine And.intro ⟨by omega, by rw [lw]; omega, by omega, fun r hr => rows7 hr⟩ ?_)
            (refine yk (yn rfl (zqA zI ?_)); refine And.intro ⟨fun r hr => rows7 (List.mem_of_mem_take (List.mem_of_mem_drop hr)), by simp only [List.length_append, List.length_drop, List.length_take, List.length_map, List.length_set, List.length_replicate]; omega, by simp only [List.length_append, List.length_drop, List.length_take, List.length_map, List.length_set, List.length_replicate]; omega⟩ ?_)
            (refine zkns (zst_e (zst_ow (zo_n rfl (zs_ar rfl rfl rfl rfl rfl (zo_0 (zb_n (zt_n (zw_o (yP rfl (yq rfl (zqA zI ?_))))))))))); refine And.intro ⟨by omega, by omega⟩ ?_)
            refine yk (yA rfl (yT (zaf_raw ?_)))
            refine ⟨i + 1, _, SLe.own (by exact hC) _ 7 (by exact rfl) (by exact rfl), ?_⟩
            refine ⟨by omega, by omega, ⟨rfl, rfl, rfl, row_out (next q q2 (.inr ⟨y, hy, by simpa using h5⟩)) lw, rfl, trivial⟩, trivial⟩
        · ((refine zg_f (zst_p (d0 rfl (d0 rfl (d0 rfl (d0 rfl (d0 rfl (d0 rfl (d0 rfl (d0 rfl (d0 rfl (yD rfl (zd_0 (zr_q rfl ?_))))))))))))); refine zt_n (zw_c rfl (zc_f (zw_x (zt_x (zt_x (zb_h (zt_n (yS (yB rfl (yU (yq rfl (zq1 zI (zkq ?_))))))))))))); refine zst_nl (yP rfl (yP rfl (yq rfl (zqA zI ?_))))); refine And.intro ⟨by decide, by omega, by rw [lw]; omega, fun r hr => rows7 hr⟩ ?_)
          (refine yk (yn rfl (zqA zI ?_)); refine And.intro ⟨fun r hr => rows7 (List.mem_of_mem_take (List.mem_of_mem_drop hr)), by simp only [List.length_drop, List.length_take, List.length_map]; omega, by simp only [List.length_drop, List.length_take, List.length_map]; omega⟩ ?_)
          (refine zkns (zst_ow (zo_n rfl (zs_ar rfl rfl rfl rfl rfl (yU (yq rfl (zq1 zI (zkq (zst_ow (yP rfl (yP rfl (yq rfl (zqX zI ?_)))))))))))); refine ⟨(dc d), (idx rfl hd), ?_⟩)
          (refine yk (yP rfl (yn rfl (zq1 zI (zkns (zst_ow (yn rfl (zqA zI ?_))))))); refine And.intro ⟨fun r hr => by simp at hr; subst hr; rfl, by simp only [List.length_append, List.length_drop, List.length_take, List.length_map, List.length_set, List.length_replicate]; omega, by simp only [List.length_append, List.length_drop, List.length_take, List.length_map, List.length_set, List.length_replicate]; omega⟩ ?_)
          ((refine zkns (zst_e (zst_ow (zo_n rfl (zs_ar rfl rfl rfl rfl rfl (yT (zw_o (yq rfl (zq1 zI (zkq (zst_ow (yP rfl (yP rfl (yq rfl ?_))))))))))))); refine zqA zI ?_); refine And.intro ⟨by omega, by rw [lw]; omega, by omega, fun r hr => rows7 hr⟩ ?_)
          (refine yk (yn rfl (zqA zI ?_)); refine And.intro ⟨fun r hr => rows7 (List.mem_of_mem_take (List.mem_of_mem_drop hr)), by simp only [List.length_append, List.length_drop, List.length_take, List.length_map, List.length_set, List.length_replicate]; omega, by simp only [List.length_append, List.length_drop, List.length_take, List.length_map, List.length_set, List.length_replicate]; omega⟩ ?_)
          (refine zkns (zst_e (zst_ow (zo_n rfl (zs_ar rfl rfl rfl rfl rfl (zo_0 (zb_n (zt_n (zw_o (yP rfl (yq rfl (zqA zI ?_))))))))))); refine And.intro ⟨by omega, by omega⟩ ?_)
          refine yk (yA rfl (yT (zaf_raw ?_)))
          refine ⟨i + 1, _, SLe.own (by exact hC) _ 7 (by exact rfl) (by exact rfl), ?_⟩
          refine ⟨by omega, by omega, ⟨rfl, rfl, rfl, row_out (next q q2 (.inl (by omega))) lw, rfl, trivial⟩, trivial⟩
  · (refine zw_x (zt_x (zt_x (zb_h (zt_n (yS (yP rfl (yA rfl (yR zi ?_)))))))); refine And.intro ?_ trivial)
    have e : i = l.length := by omega
    rw [e, List.take_length]
end Go.Proofs.YtngikpapepnkaaaGreatDoor.M
