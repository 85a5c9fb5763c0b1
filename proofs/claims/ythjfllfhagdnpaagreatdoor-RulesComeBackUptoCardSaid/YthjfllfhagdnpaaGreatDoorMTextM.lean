/- By the machine: the text of rules, of the house; the law on texts. -/
import Derived.Test.YthjfllfhagdnpaaGreatDoorMLine
import Derived.Test.YthjfllfhagdnpaaGreatDoorMTextB
set_option linter.unusedSimpArgs false
set_option linter.unusedVariables false
namespace Go.Proofs.YthjfllfhagdnpaaGreatDoor.M
open Go.AM Go.RowKit Go.Lib
open Reg (Rect Spans Band)

def rulesW : ByteArray := ⟨#[114, 117, 108, 101, 115]⟩
theorem join_all (w : List UInt8) (l : List (List UInt8)) : Lib.join (w :: l) [32] = w ++ l.flatMap (fun s => 32 :: s) := by
  rw [Lib.join_cons, Lib.joinTail, List.flatMap_def]
  rfl
theorem lineB_list (w : ByteArray) (l : List ByteArray) : (lineB w l).data.toList = w.data.toList ++ l.flatMap (fun s => 32 :: s.data.toList) ++ [10] := by
  have e : (lineB w l) = ofL (Lib.join ((w :: l).map (·.data.toList)) [32]) ++ ofL [10] := rfl
  rw [e, ofL_app, ofL_list, List.map_cons, join_all, List.flatMap_map]
theorem join_len (w : ByteArray) (l : List ByteArray) : (Lib.join ((w :: l).map (·.data.toList)) [32]).length + 1 = (lineB w l).data.toList.length := by
  have e : (lineB w l) = ofL (Lib.join ((w :: l).map (·.data.toList)) [32]) ++ ofL [10] := rfl
  rw [e, ofL_app, ofL_list, List.length_append]
  rfl
def itS (n : Int) : ByteArray := ofL (Lib.itoa n)
def clsW : ByteArray := ⟨#[99, 108, 97, 115, 115]⟩
def areaW : ByteArray := ⟨#[97, 114, 101, 97]⟩
def headW (r : Rules) : List ByteArray := [itS r.clearance, itS r.width, itS r.ring, itS r.edge, itS r.holeGap]
def classW (c : Class) : List ByteArray := [c.name, itS c.clearance, itS c.width] ++ c.nets
def rectsW (l : List Rect) : List ByteArray := l.flatMap fun q => [itS q.x0, itS q.y0, itS q.x1, itS q.y1]
def areaWs (a : Area) (j : Nat) : List ByteArray := [itS a.layer, itS a.clearance] ++ rectsW (a.region.take j)
theorem spc_map (l : List Int) : (l.map itS).flatMap (fun s => 32 :: s.data.toList) = spc l := by
  rw [List.flatMap_map]; rfl
theorem head_line (r : Rules) : (lineB rulesW (headW r)).data.toList = headB r := by
  rw [lineB_list]
  have := spc_map [r.clearance, r.width, r.ring, r.edge, r.holeGap]
  rw [show headW r = [r.clearance, r.width, r.ring, r.edge, r.holeGap].map itS from rfl, this]
  rfl
theorem class_line (c : Class) : (lineB clsW (classW c)).data.toList = classB c := by
  rw [lineB_list, classW, List.flatMap_append]
  simp [classB, classL, clsW, netsB, spc, itS, ofL]
theorem rects_flat (l : List Rect) : (rectsW l).flatMap (fun s => 32 :: s.data.toList) = rectsB l := by
  induction l with
  | nil => rfl
  | cons q l ih =>
    rw [rectsW, List.flatMap_cons, List.flatMap_append]
    rw [rectsW] at ih
    rw [ih, rectsB, List.flatMap_cons]
    simp [rectsB, spc, itS, ofL]
theorem area_line (a : Area) : (lineB areaW (areaWs a a.region.length)).data.toList = areaB a := by
  rw [lineB_list, areaWs, List.flatMap_append, List.take_length, rects_flat]
  simp [areaB, areaL, areaW, spc, itS, ofL]
theorem areaWs_len (a : Area) (j : Nat) : (areaWs a j).length ≤ 2 + 4 * a.region.length := by
  have h : ∀ l : List Rect, (rectsW l).length = 4 * l.length := fun l => by
    induction l with
    | nil => rfl
    | cons q l ih =>
      rw [rectsW, List.flatMap_cons, List.length_append]
      rw [rectsW] at ih
      rw [ih]; simp; omega
  rw [areaWs, List.length_append, h, List.length_take]
  simp; omega
theorem areaWs_next {a : Area} {j : Nat} {q : Rect} (h : a.region[j]? = some q) : areaWs a (j + 1) = areaWs a j ++ [itS q.x0, itS q.y0, itS q.x1, itS q.y1] := by
  rw [areaWs, areaWs, take_succ' h, rectsW, List.flatMap_append]
  simp [rectsW]
set_option maxRecDepth 100000 in
set_option maxHeartbeats 4000000 in
theorem house_Text (r : Rules) (ho : rulesOK r) : ACalls C 42 [.pv (.ag (rl r))] (.tu [str (textR r).1, i64 (textR r).2]) [] := by
  refine fun_go hC Tryz.func42 rfl rfl 118 rfl (by decide) (by kernel_rfl) fun _ _ _ _ _ => ?_
  (refine yS (yn rfl (zq1 zI (zkns (zst_bx (yA rfl (yA rfl (yT (zw_s (yS (yP rfl (yn rfl (zqX zI ?_)))))))))))); refine ⟨_, _, (house_checkRules r ho), ?_⟩)
  (refine zkn rfl rfl (zst_p (yA rfl (yU (yP rfl (yP rfl (yT (zw_c rfl ?_))))))); refine bcase_split (fun h1 => ?_) (fun h1 => ?_) <;> try simp only [zB] at h1)
  · (refine yS (yP rfl (yA rfl (yA rfl (yT (zw_r (zt_r (ze_r zi ?_))))))); refine And.intro ?_ trivial)
    have h1 : ¬ rulesFault r = 0 := by simpa using h1
    rw [textR, if_neg h1]; rfl
  · have h1 : rulesFault r = 0 := by simpa using h1
    have hg := rules_good h1
    rw [textR, if_pos h1]
    have hh := head_len hg.nums
    have hn := hg.nums
    simp [numsOK] at hn
    have hs5 : ∀ n ∈ [r.clearance, r.width, r.ring, r.edge, r.holeGap], inI n := fun n hm => by
      simp at hm
      rcases hm with h | h | h | h | h <;> subst h <;> exact inI_rule (by simp [hn])
    refine zw_k ?_
    refine zt_n ?_
    refine zw_sl ?_
    refine zw_o (yn rfl (zq1 zI (zkns (zst_bx (yT (zaf_raw ?_))))))
    refine zSL ((SLe.toPV (by exact hC) _ 1 (y := .ip (rl r)) (fz := [(1, .fbx (rl r))]) (by exact ⟨rfl, rfl⟩)).trans (SLe.nilTcell (by exact hC) _ 5 1 90000 5 160 _ _ (by decide) (by decide) (by exact rfl) (by exact rfl) (by exact rfl) (by decide))) ?_
    have len0 := join_len rulesW (headW r)
    rw [head_line] at len0
    ((refine yS (yV rfl (zo_n rfl (zs_as rfl rfl rfl (zas_n rfl) (zst_fn (yU (yA rfl (yT (zw_s (zw_d true [true, true, true, true, true, true, false, false, true, true, false, false, true, true, false, false, true, true, false, false, true, true, true] rfl (by kernel_rfl) (zp_s rfl (zp_s rfl (zp_s rfl (zp_s rfl ?_))))))))))))); refine zp_n rfl rfl (zp_s rfl (zp_s rfl (zp_s rfl (zp_n rfl rfl (zp_s rfl (zp_s rfl (zp_s rfl (zp_n rfl rfl (zp_s rfl (zp_s rfl (zp_s rfl (zp_n rfl rfl (zp_s rfl ?_))))))))))))); refine zp_s rfl (zp_s rfl (zp_n rfl rfl (zp_n rfl rfl (zp_n rfl rfl (zp_q rfl (dq rfl (zq1 zI (zkd (zst_fn (yD rfl (yD rfl (yD rfl (dq rfl ?_))))))))))))); refine zqX zI ?_); refine ⟨_, _, (itoa_calls r.clearance (hs5 _ (by simp))), ?_⟩)
    (refine zkd (zst_p (yD rfl (yD rfl (yD rfl (dq rfl (zqX zI ?_)))))); refine ⟨_, _, (itoa_calls r.width (hs5 _ (by simp))), ?_⟩)
    (refine zkd (zst_p (yD rfl (yD rfl (yD rfl (dq rfl (zqX zI ?_)))))); refine ⟨_, _, (itoa_calls r.ring (hs5 _ (by simp))), ?_⟩)
    (refine zkd (zst_p (yD rfl (yD rfl (yD rfl (dq rfl (zqX zI ?_)))))); refine ⟨_, _, (itoa_calls r.edge (hs5 _ (by simp))), ?_⟩)
    (refine zkd (zst_p (yD rfl (yD rfl (yD rfl (dq rfl (zqX zI ?_)))))); refine ⟨_, _, (itoa_calls r.holeGap (hs5 _ (by simp))), ?_⟩)
    refine zkd (zst_p (dq rfl (zq1 zI (zkdn rfl rfl (zst_ow (dq rfl (zqX zI ?_)))))))
    refine ⟨_, _, _, line_calls rulesW (headW r) (by simp [headW]) (by simp [headW]) [] (by simp only [List.length_nil]; omega), ?_⟩
    have lc := len_map r.classes kl
    have la := len_map r.areas arr
    have n1 := hg.nc
    have n2 := hg.na
    have e0 : AB.row 5 (bytesR ([] ++ (lineB rulesW (headW r)).data.toList)) = AB.row 5 (bytesR (pre1 r 0)) := by
      rw [head_line, List.nil_append, pre1]
      simp
    (refine zkden rfl rfl rfl (zsn_e (zsn_e (zsn_e (zsn_0 (zst_tu (zd_0 (zr_q rfl (zt_n (zw_s (yS (yP rfl (yP rfl (yP rfl ?_))))))))))))); refine yP rfl (yT (zw_b ?_)))
    refine loop_ok' (fun i : Nat => i ≤ r.classes.length) (fun i => [(1, .p (.ip (rl r))), (5, .bx 5 0), (6, .fn 105 [.bx 5 0]), (7, .p (.im (.func (.func 108) #[] #[]))), (45, .p (.sl (r.classes.map kl))), (46, .p (i64 (r.classes.map kl).length)), (47, .p (i64 i))]) (fun i => [(5, .tbox 160 [.bx 5 0, .ow 90000]), (90000, .row 5 (bytesR (pre1 r i)))]) (fun i => r.classes.length - i) 0 _ (SLe.ren _ 43 90000 (by decide) (by decide)) (Nat.zero_le _) ⟨rfl, rfl, rfl, rfl, rfl, rfl, rfl, trivial⟩ ⟨rfl, e0, trivial⟩ fun i hi t h => ?_
    (refine yS (yP rfl (yT (zw_s (zw_c rfl ?_)))); refine bcase_split (fun h2 => ?_) (fun h2 => ?_) <;> try simp only [zB] at h2)
    · obtain ⟨c, hc⟩ := get_of (l := r.classes) (i := i) (by omega)
      have cm := List.mem_of_getElem? hc
      have c1 := hg.cl c cm
      have c0 : strOK c.name := (ho.1 c cm).1
      have c2 : c.name.size < 4294967281 := c0
      have p1 := pre1_len hg ho i hi
      have q1 := classB_len c1 c0
      have len1 := join_len clsW (classW c)
      rw [class_line] at len1
      have n3 := c1.2.1
      have ln := len_map c.nets fun s => [str s]
      have e1 : AB.row 5 (bytesR (pre1 r i ++ (lineB clsW (classW c)).data.toList)) = AB.row 5 (bytesR (pre1 r (i + 1))) := by
        rw [class_line, pre1, pre1, flat_snoc _ hc, List.append_assoc]
      refine zw_k (zt_n (zw_s (zw_b (zw_sl ?_))))
      (refine zw_o (yq rfl (zqX zI ?_)); refine ⟨(kl c), (idx rfl hc), ?_⟩)
      refine yk (yP rfl (yn rfl (zq1 zI (zkns (zst_bx (yq rfl (zq1 zI (zkq (zst_e (zst_0 (yT (zaf_raw ?_))))))))))))
      refine zPV 9 (y := .ip (kl c)) (fz := [(9, .fbx (kl c))]) (by exact hC) (by exact ⟨rfl, rfl⟩) ?_
      ((refine zw_d true [true, false, false, true, true, true, true, true, false, false, true, true, false, false, true, true] rfl (by kernel_rfl) (zp_s rfl (zp_s rfl (zp_s rfl (zp_s rfl (zp_s rfl (zp_s rfl (zp_n rfl rfl (zp_s rfl (zp_s rfl (zp_s rfl (zp_n rfl rfl (zp_n rfl rfl (zp_s rfl ?_))))))))))))); refine zp_s rfl (zp_n rfl rfl (zp_n rfl rfl (zp_q rfl (dq rfl (zq1 zI (zkd (zst_fn (yD rfl (yD rfl (yD rfl (yD rfl (yD rfl (dq rfl ?_))))))))))))); refine zqX zI ?_); refine ⟨_, _, (itoa_calls c.clearance (inI_rule c1.2.2.2.1)), ?_⟩)
      (refine zkd (zst_p (yD rfl (yD rfl (yD rfl (dq rfl (zqX zI ?_)))))); refine ⟨_, _, (itoa_calls c.width (inI_rule c1.2.2.2.2)), ?_⟩)
      refine zkd (zst_p (dq rfl (zq1 zI (zkdn rfl rfl (zst_ow (yD rfl (yD rfl (dq rfl (zqA zI ?_)))))))))
      (skip; refine And.intro ⟨by simp, by simp; omega, by simp; omega⟩ ?_)
      refine zkden rfl rfl rfl (zsn_e (zsn_0 (zst_ow (dq rfl (zqX zI ?_)))))
      refine ⟨_, _, _, line_calls clsW (classW c) (by simp [classW]) (by simp [classW]; omega) (pre1 r i) (by omega), ?_⟩
      (refine zkden rfl rfl rfl (zsn_e (zsn_e (zsn_e (zsn_0 (zst_tu (zd_0 (zr_q rfl (zb_n (zt_n (zw_o (yq rfl (zqA zI ?_)))))))))))); refine And.intro ⟨by omega, by omega⟩ ?_)
      refine yk (yP rfl (yT (zaf_raw ?_)))
      refine ⟨i + 1, _, SLe.ren _ 66 90000 (by decide) (by decide), ?_⟩
      exact ⟨by omega, by omega, ⟨rfl, rfl, rfl, rfl, rfl, rfl, rfl, trivial⟩, ⟨rfl, e1, trivial⟩⟩
    · have e : i = r.classes.length := by omega
      subst e
      have e4 : AB.row 5 (bytesR (pre1 r r.classes.length)) = AB.row 5 (bytesR (pre2 r 0)) := by rw [pre1_end, pre2]; simp
      refine zw_x (zt_x (zt_x (zb_h (zt_n (zw_s (yS (yP rfl (yP rfl (yP rfl (yP rfl (yT (zw_b ?_))))))))))))
      refine loop_ok' (fun i : Nat => i ≤ r.areas.length) (fun i => [(1, .p (.ip (rl r))), (5, .bx 5 0), (6, .fn 105 [.bx 5 0]), (7, .p (.im (.func (.func 108) #[] #[]))), (69, .p (.sl (r.areas.map arr))), (70, .p (i64 (r.areas.map arr).length)), (71, .p (i64 i))]) (fun i => [(5, .tbox 160 [.bx 5 0, .ow 90000]), (90000, .row 5 (bytesR (pre2 r i)))]) (fun i => r.areas.length - i) 0 _ (SLe.refl _ _) (Nat.zero_le _) ⟨rfl, rfl, rfl, rfl, rfl, rfl, rfl, trivial⟩ ⟨rfl, e4, trivial⟩ fun i hi t h => ?_
      have p2 := pre2_len hg ho h1 i hi
      (refine yS (yP rfl (yT (zw_s (zw_c rfl ?_)))); refine bcase_split (fun h3 => ?_) (fun h3 => ?_) <;> try simp only [zB] at h3)
      · obtain ⟨a, ha⟩ := get_of (l := r.areas) (i := i) (by omega)
        have am' := List.mem_of_getElem? ha
        have a1 := hg.ar a am'
        have a2 := area_top h1 a am'
        obtain ⟨g1, g2⟩ := region_rects a1.2.1
        have q1 := areaB_len a1 a2
        have ln := len_map a.region rc
        refine zw_k (zt_n (zw_s (zw_b (zw_sl ?_))))
        (refine zw_o (yq rfl (zqX zI ?_)); refine ⟨(arr a), (idx rfl ha), ?_⟩)
        refine yk (yP rfl (yn rfl (zq1 zI (zkns (zst_bx (yq rfl (zq1 zI (zkq (zst_e (zst_0 (yT (zaf_raw ?_))))))))))))
        refine zPV 11 (y := .ip (arr a)) (fz := [(11, .fbx (arr a))]) (by exact hC) (by exact ⟨rfl, rfl⟩) ?_
        ((refine zw_s (zw_d true [true, true, true, true, true, false, false, true, true, true] rfl (by kernel_rfl) (zp_s rfl (zp_s rfl (zp_s rfl (zp_n rfl rfl (zp_s rfl (zp_s rfl (zp_s rfl (zp_n rfl rfl (zp_n rfl rfl (zp_q rfl (yD rfl (yD rfl ?_))))))))))))); refine yD rfl (dq rfl (zqX zI ?_))); refine ⟨_, _, (itoa_calls a.layer ⟨by omega, by omega⟩), ?_⟩)
        (refine zkd (zst_p (yD rfl (yD rfl (yD rfl (dq rfl (zqX zI ?_)))))); refine ⟨_, _, (itoa_calls a.clearance (inI_rule a1.2.2)), ?_⟩)
        (refine zkd (zst_p (dq rfl (zq1 zI (zkdn rfl rfl (zst_ow (dq rfl (zq1 zI (zkd (zst_ow (zd_0 (zr_s rfl (zr_s rfl (zr_s rfl ?_))))))))))))); refine zr_s rfl (zr_s rfl (zr_s rfl (zr_s rfl (zr_s rfl (zr_s rfl (zr_r rfl rfl rfl rfl rfl (zr_q rfl (zt_n (zw_s (yS (yP rfl (yP rfl (yP rfl ?_))))))))))))); refine yP rfl (yT (zw_b ?_)))
        refine loop_ok' (fun j : Nat => j ≤ a.region.length) (fun j => [(1, .p (.ip (rl r))), (5, .bx 5 0), (6, .fn 105 [.bx 5 0]), (7, .p (.im (.func (.func 108) #[] #[]))), (69, .p (.sl (r.areas.map arr))), (70, .p (i64 (r.areas.map arr).length)), (71, .p (i64 i)), (12, .ow 12), (85, .p (rects a.region)), (86, .p (i64 (a.region.map rc).length)), (87, .p (i64 j))]) (fun j => [(5, .tbox 160 [.bx 5 0, .ow 90000]), (90000, .row 5 (bytesR (pre2 r i))), (12, .row 9 ((areaWs a j).map fun s => [str s]))]) (fun j => a.region.length - j) 0 _ (SLe.refl _ _) (Nat.zero_le _) ⟨rfl, rfl, rfl, rfl, rfl, rfl, rfl, rfl, rfl, rfl, rfl, trivial⟩ ⟨rfl, rfl, rfl, trivial⟩ fun j hj t h => ?_
        (refine yS (yP rfl (yT (zw_s (zw_c rfl ?_)))); refine bcase_split (fun h4 => ?_) (fun h4 => ?_) <;> try simp only [zB] at h4)
        · obtain ⟨q, hq⟩ := get_of (l := a.region) (i := j) (by omega)
          have g3 := g2 q (List.mem_of_getElem? hq)
          simp [Reg.isRect, Reg.isAt] at g3
          refine zw_k (zt_n (zw_s (zw_b (zw_sl ?_))))
          (refine zw_o (yq rfl (zqX zI ?_)); refine ⟨(rc q), (idx rfl hq), ?_⟩)
          refine yk (yP rfl (yn rfl (zq1 zI (zkns (zst_bx (yq rfl (zq1 zI (zkq (zst_e (zst_0 (yT (zaf_raw ?_))))))))))))
          refine zPV 14 (y := .ip (rc q)) (fz := [(14, .fbx (rc q))]) (by exact hC) (by exact ⟨rfl, rfl⟩) ?_
          have wl := areaWs_len a j
          have e5 : AB.row 9 ((areaWs a j).map (fun s => [str s]) ++ [[str (itS q.x0)], [str (itS q.y0)], [str (itS q.x1)], [str (itS q.y1)]]) = AB.row 9 ((areaWs a (j + 1)).map fun s => [str s]) := by rw [areaWs_next hq]; simp
          ((refine zw_d true [true, true, true, true, true, true, false, false, true, true, false, false, true, true, false, false, true, true, true, true] rfl (by kernel_rfl) (zp_s rfl (zp_s rfl (zp_s rfl (zp_s rfl (zp_n rfl rfl (zp_s rfl (zp_s rfl (zp_s rfl (zp_n rfl rfl (zp_s rfl (zp_s rfl (zp_s rfl (zp_n rfl rfl ?_))))))))))))); refine zp_s rfl (zp_s rfl (zp_s rfl (zp_n rfl rfl (zp_n rfl rfl (zp_n rfl rfl (zp_q rfl (dq rfl (zq1 zI (zkd (zst_ow (yD rfl (yD rfl (yD rfl ?_))))))))))))); refine dq rfl (zqX zI ?_)); refine ⟨_, _, (itoa_calls q.x0 ⟨by omega, by omega⟩), ?_⟩)
          (refine zkd (zst_p (yD rfl (yD rfl (yD rfl (dq rfl (zqX zI ?_)))))); refine ⟨_, _, (itoa_calls q.y0 ⟨by omega, by omega⟩), ?_⟩)
          (refine zkd (zst_p (yD rfl (yD rfl (yD rfl (dq rfl (zqX zI ?_)))))); refine ⟨_, _, (itoa_calls q.x1 ⟨by omega, by omega⟩), ?_⟩)
          (refine zkd (zst_p (yD rfl (yD rfl (yD rfl (dq rfl (zqX zI ?_)))))); refine ⟨_, _, (itoa_calls q.y1 ⟨by omega, by omega⟩), ?_⟩)
          (refine zkd (zst_p (dq rfl (zq1 zI (zkdn rfl rfl (zst_ow (dq rfl (zqA zI ?_))))))); refine And.intro ⟨by simp, by simp; omega, by simp; omega⟩ ?_)
          ((refine zkden rfl rfl rfl (zsn_e (zsn_0 (zst_ow (dq rfl (zq1 zI (zkd (zst_ow (zd_0 (zr_s rfl (zr_s rfl (zr_s rfl (zr_s rfl (zr_s rfl ?_))))))))))))); refine zr_s rfl (zr_s rfl (zr_s rfl (zr_s rfl (zr_s rfl (zr_s rfl (zr_s rfl (zr_s rfl (zr_s rfl (zr_s rfl (zr_s rfl (zr_s rfl (zr_s rfl (zr_s rfl ?_))))))))))))); refine zr_r rfl rfl rfl rfl rfl (zr_q rfl (zb_n (zt_n (zw_o (yq rfl (zqA zI ?_))))))); refine And.intro ⟨by omega, by omega⟩ ?_)
          (refine yk (yP rfl (yT (zaf_raw ?_))); refine ⟨(j + 1), _, SLe.refl _ _, ?_⟩)
          exact ⟨by omega, by omega, ⟨rfl, rfl, rfl, rfl, rfl, rfl, rfl, rfl, rfl, rfl, rfl, trivial⟩, ⟨rfl, rfl, e5, trivial⟩⟩
        · have e : j = a.region.length := by omega
          subst e
          have e6 : AB.row 5 (bytesR (pre2 r i ++ (lineB areaW (areaWs a a.region.length)).data.toList)) = AB.row 5 (bytesR (pre2 r (i + 1))) := by
            rw [area_line, pre2, pre2, flat_snoc _ ha, List.append_assoc]
          have len2 := join_len areaW (areaWs a a.region.length)
          rw [area_line] at len2
          have wl := areaWs_len a a.region.length
          (refine zw_x (zt_x (zt_x (zb_h (zt_n (zw_o (yq rfl (zq1 zI (zkq (zst_fn (yq rfl (zq1 zI (zkq (zst_ow ?_))))))))))))); refine yn rfl (zqX zI ?_))
          refine ⟨_, _, _, line_calls areaW (areaWs a a.region.length) (by simp [areaWs]) (by omega) (pre2 r i) (by omega), ?_⟩
          (refine zkns (zst_e (zst_e (zst_e (zst_tu (zo_0 (zb_n (zt_n (zw_o (yq rfl (zqA zI ?_)))))))))); refine And.intro ⟨by omega, by omega⟩ ?_)
          refine yk (yP rfl (yT (zaf_raw ?_)))
          refine ⟨i + 1, _, SLe.ren _ 113 90000 (by decide) (by decide), ?_⟩
          exact ⟨by omega, by omega, ⟨rfl, rfl, rfl, rfl, rfl, rfl, rfl, trivial⟩, ⟨rfl, e6, trivial⟩⟩
      · have e : i = r.areas.length := by omega
        subst e
        refine zw_x (zt_x (zt_x (zb_h (zt_n (zw_s (yS (yn rfl (zqX zI ?_))))))))
        refine ⟨_, _, _, len_calls (pre2 r r.areas.length), ?_⟩
        have e7 : pre2 r r.areas.length = textB r := pre_end r
        (refine zkns (zst_e (zst_e (zst_p (yP rfl (yT (zw_c rfl ?_)))))); refine bcase_split (fun h5 => ?_) (fun h5 => ?_) <;> try simp only [zB] at h5)
        · (refine yS (yA rfl (yA rfl (yT (zw_r (zt_r (ze_r zi ?_)))))); refine And.intro ?_ trivial)
          rw [e7] at h5
          rw [if_pos (by omega)]; rfl
        · refine zw_k (zt_n (yS (yn rfl (zqX zI ?_))))
          refine ⟨_, _, _, text_calls (pre2 r r.areas.length) (by simp [pre2, headB, rulesL]), ?_⟩
          (refine zkn rfl rfl (zst_e (zst_e (zst_p (yA rfl (yA rfl (yR zi ?_)))))); refine And.intro ?_ trivial)
          rw [e7] at h5 ⊢
          rw [if_neg (by omega)]; rfl
end Go.Proofs.YthjfllfhagdnpaaGreatDoor.M
