/- By the machine: the house's regions: the rectangles of a set, stretches. -/
import Derived.Test.YtcfhiodoogkcpaaGreatDoorMHouse3
set_option linter.unusedSimpArgs false
set_option linter.unusedVariables false
namespace Go.Proofs.YtcfhiodoogkcpaaGreatDoor.M
open Go.AM Go.RowKit
open Reg (Rect Spans Band)

theorem flat_get : ∀ {s : Spans} {k : Nat} {p : Int × Int}, s[k]? = some p → (flat s)[2 * k]? = some p.1 ∧ (flat s)[2 * k + 1]? = some p.2 := by
  intro s
  induction s with
  | nil => intro k p h; simp at h
  | cons q s ih =>
    intro k p h
    cases k with
    | zero => simp at h; subst h; exact ⟨rfl, rfl⟩
    | succ k =>
      obtain ⟨h1, h2⟩ := ih (k := k) (p := p) (by simpa using h)
      rw [show 2 * (k + 1) = (2 * k + 1) + 1 by omega]
      exact ⟨by simpa [flat] using h1, by simpa [flat] using h2⟩
set_option maxRecDepth 100000 in
set_option maxHeartbeats 1000000 in
theorem house_rects' (l : List Band) (hN : l.length ≤ 1000000000000) (hX : ∀ t ∈ l, t.xs.length ≤ 1000000000000) (hT : (Reg.told l).length ≤ 4398046511104) : ACalls C 59 [.pv (.sl (l.map hb))] (.own 44 ((Reg.told l).map rc)) [] := by
  refine fun_go hC Tryz.func59 rfl rfl 41 rfl (by decide) (by kernel_rfl) fun _ _ _ _ _ => ?_
  have lm := len_map l hb
  have tl : ∀ i, (Reg.told (l.take i)).length ≤ (Reg.told l).length := fun i => by
    have e : Reg.told l = Reg.told (l.take i) ++ Reg.told (l.drop i) := by
      unfold Reg.told
      rw [← List.flatMap_append, List.take_append_drop]
    rw [e, List.length_append]
    omega
  refine yS (yB rfl (yU (yB rfl (yT (zw_s (yS (yP rfl (yP rfl (yP rfl (yT (zw_b ?_)))))))))))
  refine loop_ok' (fun i : Nat => i ≤ l.length) (fun i => [(7, .p (.sl (l.map hb))), (8, .p (i64 (l.map hb).length)), (3, .ow 3), (9, .p (i64 i))]) (fun i => [(3, .row 44 ((Reg.told (l.take i)).map rc))]) (fun i => l.length - i) 0 _ (SLe.nilRow hC _ 3 44 _ (by decide) rfl rfl (by decide)) (Nat.zero_le _) ⟨rfl, rfl, rfl, rfl, trivial⟩ ⟨rfl, trivial⟩ fun i hi t h => ?_
  (refine yS (yP rfl (yT (zw_s (zw_c rfl ?_)))); refine bcase_split (fun h1 => ?_) (fun h1 => ?_) <;> try simp only [zB] at h1)
  · rw [lm] at h1
    obtain ⟨b, hbb⟩ := get_of (l := l) (i := i) (by omega)
    have bm := len_map (flat b.xs) fun n => [i64 n]
    have fl := flat_length b.xs
    have hb' := hX b (List.mem_of_getElem? hbb)
    have ht := tl (i + 1)
    rw [told_step hbb, List.length_append, List.length_map] at ht
    (refine zw_k (zt_n (zw_s (zw_b (yS (yq rfl (zqX zI ?_)))))); refine ⟨(hb b), (idx rfl hbb), ?_⟩)
    (refine yk (yP rfl (yn rfl (zq1 zI (zkns (zst_bx (yq rfl (zq1 zI (zkq (zst_e (zst_0 (yU (yA rfl (yT ?_))))))))))))); refine zw_b ?_)
    refine cutB' (fun _ : Unit => True) (fun _ => [(7, .p (.sl (l.map hb))), (8, .p (i64 (l.map hb).length)), (3, .ow 3), (9, .p (i64 i))]) (fun _ => [(3, .row 44 ((Reg.told (l.take (i + 1))).map rc))]) (fun _ _ t h => ?_) ?_
    · (refine zb_n (zt_n (zw_o (yq rfl (zqA zI ?_)))); refine And.intro ⟨by omega, by omega⟩ ?_)
      (refine yk (yP rfl (yT (zaf_raw ?_))); refine ⟨(i + 1), _, SLe.refl _ _, ?_⟩)
      exact ⟨by omega, by omega, ⟨rfl, rfl, rfl, rfl, trivial⟩, ⟨rfl, trivial⟩⟩
    · refine loop_ok' (fun k : Nat => k ≤ b.xs.length) (fun k => [(7, .p (.sl (l.map hb))), (8, .p (i64 (l.map hb).length)), (3, .ow 3), (9, .p (i64 i)), (5, .bx 5 0), (6, .p (i64 ((2 * k : Nat) : Int)))]) (fun k => [(3, .row 44 ((Reg.told (l.take i) ++ cutR b k).map rc)), (5, .box [.p (i64 b.y0), .p (i64 b.y1), .p (ints (flat b.xs))])]) (fun k => b.xs.length - k) 0 _ (SLe.refl _ _) (Nat.zero_le _) ⟨rfl, rfl, rfl, rfl, rfl, rfl, trivial⟩ ⟨by rw [cutR]; simp; rfl, rfl, trivial⟩ fun k hk t h => ?_
      have hkl : (cutR b k).length ≤ k := by simp [cutR]; omega
      (refine zw_s (yS (yP rfl (yV rfl (yP rfl (yP rfl (yP rfl (yT (zw_c rfl ?_)))))))); refine bcase_split (fun h2 => ?_) (fun h2 => ?_) <;> try simp only [zB] at h2)
      · rw [bm, fl] at h2
        obtain ⟨p, hp⟩ := get_of (l := b.xs) (i := k) (by omega)
        obtain ⟨g1, g2⟩ := flat_get hp
        ((refine zw_k (zt_n (zw_s (zw_b (zw_d true [true, true, true, true, true, true, true, true, true, true, true, true, true, true, true, true, true, true, true, true] rfl (by kernel_rfl) (zp_s rfl (zp_s rfl (zp_s rfl (zp_s rfl (zp_s rfl (zp_s rfl (zp_s rfl (zp_s rfl (zp_s rfl ?_))))))))))))); refine zp_s rfl (zp_s rfl (zp_s rfl (zp_s rfl (zp_s rfl (zp_s rfl (zp_s rfl (zp_s rfl (zp_n rfl rfl (zp_n rfl rfl (zp_q rfl (dq rfl (zq1 zI (zkd ?_))))))))))))); refine zst_ow (yW rfl (yD rfl (yD rfl (dq rfl (zqX zI ?_)))))); refine ⟨[i64 p.1], (idx rfl g1), ?_⟩)
        (refine zkd (zst_p (yD rfl (yW rfl (yD rfl (yW rfl (yD rfl (yD rfl (dq rfl (zqA zI ?_))))))))); refine And.intro ⟨by omega, by omega⟩ ?_)
        (refine zkd (zst_p (dq rfl (zqX zI ?_))); refine ⟨[i64 p.2], (idx (by omega) g2), ?_⟩)
        (refine zkd (zst_p (yD rfl (yW rfl (yD rfl (yD rfl (dq rfl (zq1 zI (zkdn rfl rfl (zst_ow (dq rfl (zqA zI ?_))))))))))); refine And.intro ⟨one_row rfl, by simp; omega, by simp; omega⟩ ?_)
        ((refine zkden rfl rfl rfl (zsn_e (zsn_0 (zst_ow (dq rfl (zq1 zI (zkd (zst_ow (zd_0 (zr_s rfl (zr_s rfl (zr_s rfl (zr_s rfl (zr_s rfl ?_))))))))))))); refine zr_s rfl (zr_s rfl (zr_s rfl (zr_s rfl (zr_s rfl (zr_s rfl (zr_s rfl (zr_s rfl (zr_s rfl (zr_s rfl (zr_s rfl (zr_s rfl (zr_s rfl (zr_s rfl ?_))))))))))))); refine zr_r rfl rfl rfl rfl rfl (zr_q rfl (zb_n (zt_n (zw_o (yP rfl (yq rfl (zqA zI ?_)))))))); refine And.intro ⟨by omega, by omega⟩ ?_)
        (refine yk (yA rfl (yT (zaf_raw ?_))); refine ⟨(k + 1), _, SLe.refl _ _, ?_⟩)
        refine ⟨by omega, by omega, ⟨rfl, rfl, rfl, rfl, rfl, av_i64 (by omega), trivial⟩, ⟨?_, rfl, trivial⟩⟩
        have hc : cutR b (k + 1) = cutR b k ++ [⟨p.1, b.y0, p.2, b.y1⟩] := by simp [cutR, take_succ' hp]
        have e : (Reg.told (l.take i) ++ cutR b k).map rc ++ [rc ⟨p.1, b.y0, p.2, b.y1⟩] = (Reg.told (l.take i) ++ cutR b (k + 1)).map rc := by
          rw [hc, ← List.append_assoc, List.map_append (l₂ := [_])]
          rfl
        exact congrArg (AB.row 44) e
      · rw [bm, fl] at h2
        refine zw_x (zt_x (zt_x (zb_h (zt_n (zaf_raw (zX zi ?_))))))
        refine ⟨(), trivial, ⟨rfl, rfl, rfl, rfl, trivial⟩, ⟨?_, trivial⟩⟩
        rw [told_step hbb]
        have : cutR b k = b.xs.map fun p => ⟨p.1, b.y0, p.2, b.y1⟩ := by rw [cutR, List.take_of_length_le (by omega)]
        rw [← this]
        rfl
  · rw [lm] at h1
    refine zw_x (zt_x (zt_x (zb_h (zt_n (yS (yq rfl (zq1 zI (zkq (zst_ow (zo_n rfl (zs_ar rfl rfl rfl rfl rfl (yR zi ?_))))))))))))
    rw [List.take_of_length_le (by omega)]
    exact ⟨rfl, rfl, trivial⟩
theorem house_rects (l : List Band) (hN : l.length ≤ 1000000) (hX : ∀ t ∈ l, t.xs.length ≤ 1000000) : ACalls C 59 [.pv (.sl (l.map hb))] (.own 44 ((Reg.told l).map rc)) [] :=
  house_rects' l (by omega) (fun t ht => by have := hX t ht; omega) (by
    have h1 := told_length l hX
    have h3 : l.length * 1000000 ≤ 1000000 * 1000000 := Nat.mul_le_mul_right _ hN
    omega)
end Go.Proofs.YtcfhiodoogkcpaaGreatDoor.M
