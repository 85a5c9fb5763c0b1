/- By the machine: small functions of the shop, words, of both sides. -/
import Derived.Test.YtngikpapepnkaaaGreatDoorMTab
set_option linter.unusedSimpArgs false
set_option linter.unusedVariables false
namespace Go.Proofs.YtngikpapepnkaaaGreatDoor.M
open Go.AM Go.RowKit

theorem take_succ' {α : Type} {l : List α} {i : Nat} {r : α} (h : l[i]? = some r) : l.take (i + 1) = l.take i ++ [r] := by rw [List.take_add_one, h]; rfl
theorem get_of {α : Type} {l : List α} {i : Nat} (h : i < l.length) : ∃ p, l[i]? = some p := ⟨l[i], List.getElem?_eq_getElem h⟩
theorem idx {α : Type} {l : List α} {f : α → List PV} {i : Int} {k : Nat} {x : α} (h : i = k) (hx : l[k]? = some x) : 0 ≤ i ∧ (l.map f)[i.toNat]? = some (f x) := by
  subst h
  exact ⟨by omega, by rw [Int.toNat_natCast]; exact map_get f hx⟩
theorem len_map {α : Type} (l : List α) (f : α → List PV) : (l.map f).length = l.length := List.length_map ..
def str (s : ByteArray) : PV := .im (.string s)
/-- lists of texts by content -/
def strs (l : List ByteArray) : PV := .sl (l.map fun s => [str s])
theorem indexByte_any (s : ByteArray) (c : Int) : ACalls C 27 [.pv (str s), .pv (.im (.int .u8 c))] (.p (i64 (Lib.indexByte s.data.toList c.toNat.toUInt8))) [] :=
  acalls_im [.string s, .int .u8 c] _ ⟨_, Tryz.func27, rfl, rfl⟩ fun _ w _ _ => (Tryz.strings_IndexByte s c w).mono fun _ _ ⟨h1, h2⟩ => ⟨h1, by rw [h2]; exact Below.refl _ _⟩
theorem ref5_within (n lo hi : Int) : ACalls C 33 [.pv (i64 n), .pv (i64 lo), .pv (i64 hi)] (.p (bool (decide (lo ≤ n) && decide (n ≤ hi)))) [] := by
  refine fun_go hC Tryz.func33 rfl rfl 15 rfl (by decide) (by kernel_rfl) fun _ _ _ _ _ => ?_
  (refine yS (yA rfl (yU (yP rfl (yP rfl (yP rfl (yP rfl (yg rfl ?_))))))); refine bcase_split (fun h => ?_) (fun h => ?_) <;> try simp only [zB] at h) <;> ((first | (refine zg_t (zs_q rfl rfl (zq1 zI (yk (y1 rfl (y1 rfl (yP rfl (yA rfl (yR zi ?_))))))))) | (refine zg_f (zst_p (y0 rfl (y0 rfl (yP rfl (yA rfl (yR zi ?_)))))))); refine And.intro ?_ trivial) <;> simp [bool, h]
/-- the bytes of words -/
def okB (b : UInt8) : Bool := (decide ((97 : Int) ≤ b.toNat) && decide ((b.toNat : Int) ≤ 122)) || (decide ((65 : Int) ≤ b.toNat) && decide ((b.toNat : Int) ≤ 90)) || (decide ((48 : Int) ≤ b.toNat) && decide ((b.toNat : Int) ≤ 57)) || !decide (Lib.indexByte [95, 43, 45, 35] b < 0)
theorem byte_back (b : UInt8) : ((b.toNat : Int)).toNat.toUInt8 = b := by simp
def wordB (s : ByteArray) : Bool := s.data.toList.all okB && (decide ((1 : Int) ≤ s.size) && decide ((s.size : Int) ≤ 40))
theorem byte_get {s : ByteArray} {i : Nat} (h : i < s.size) : ∃ b : UInt8, s[i]? = some b ∧ s.data.toList[i]? = some b := by
  refine ⟨s[i], getElem?_pos s i h, ?_⟩
  rw [Array.getElem?_toList]
  exact Array.getElem?_eq_getElem h
set_option maxRecDepth 100000 in
set_option maxHeartbeats 1000000 in
theorem ref5_isWord (s : ByteArray) (hs : s.size ≤ 9223372036854775807) : ACalls C 22 [.pv (str s)] (.p (bool (wordB s))) [] := by
  refine fun_go hC Tryz.func22 rfl rfl 45 rfl (by decide) (by kernel_rfl) fun _ _ _ _ _ => ?_
  have hsz : s.data.toList.length = s.size := by simp
  refine yS (yA rfl (yT (zw_s (yS (yA rfl (yT (zw_b ?_)))))))
  refine loop_ok' (fun i : Nat => i ≤ s.size ∧ (s.data.toList.take i).all okB = true) (fun i => [(0, .p (str s)), (3, .p (i64 i))]) (fun _ => []) (fun i => s.size - i) 0 _ (SLe.refl _ _) ⟨Nat.zero_le _, by simp⟩ ⟨rfl, rfl, trivial⟩ trivial fun i hi t h => ?_
  (refine zw_s (yS (yP rfl (yP rfl (yP rfl (yP rfl (yT (zw_c rfl ?_))))))); refine bcase_split (fun h1 => ?_) (fun h1 => ?_) <;> try simp only [zB] at h1)
  · obtain ⟨b, hb, hb'⟩ := byte_get (s := s) (i := i) (by omega)
    have hbad : okB b = false → wordB s = false := fun h => by
      rw [wordB, Bool.and_eq_false_iff]
      refine .inl ?_
      rw [List.all_eq_false]
      exact ⟨b, List.mem_of_getElem? hb', by simp [h]⟩
    have hnext : okB b = true → (s.data.toList.take (i + 1)).all okB = true := fun h => by rw [take_succ' hb', List.all_append, hi.2]; simp [h]
    (refine zw_k (zt_n (zw_s (zw_b (yS (yP rfl (yP rfl (yq rfl (zqX zI ?_)))))))); refine ⟨b, ⟨by omega, by rw [Int.toNat_natCast]; exact hb⟩, ?_⟩)
    have hix := indexByte_any ⟨#[95, 43, 45, 35]⟩ b.toNat
    rw [byte_back] at hix
    repeat' first | ((first | (refine zg_f (zst_p (y0 rfl (y1 rfl (yP rfl (yP rfl (y1 rfl (y1 rfl (y1 rfl (yg rfl ?_)))))))))) | (refine zg_f (zst_p (y0 rfl (yP rfl (yP rfl (y1 rfl (y1 rfl (y1 rfl (yg rfl ?_))))))))) | (refine zg_t (zs_q rfl rfl (zq1 zI (yk (y1 rfl (y1 rfl (yP rfl (yP rfl (yP rfl (yg rfl ?_)))))))))) | (refine zg_t (zs_q rfl rfl (zq1 zI (yk (y1 rfl (y1 rfl (yP rfl (yP rfl (yg rfl ?_))))))))) | (refine zg_t (zs_q rfl rfl (zq1 zI (yk (y1 rfl (y1 rfl (yg rfl ?_))))))) | (refine yk (yA rfl (yU (yP rfl (yP rfl (yP rfl (yg rfl ?_))))))) | (refine zg_t (zs_q rfl rfl (zq1 zI (yk (y1 rfl (yP rfl (yP rfl (yg rfl ?_)))))))) | (refine zkn rfl rfl (zst_p (y1 rfl (yP rfl (yT (zw_c rfl ?_))))))); refine bcase_split (fun h => ?_) (fun h => ?_) <;> try simp only [zB] at h) | ((first | (refine zg_f (zst_p (y0 rfl (y1 rfl (yP rfl (yP rfl (yP rfl (y1 rfl (y2 rfl (zs_n rfl rfl rfl (zqX zI ?_))))))))))) | (refine zg_t (zs_q rfl rfl (zq1 zI (yk (y2 rfl (zs_n rfl rfl rfl (zqX zI ?_)))))))); refine ⟨_, _, hix, ?_⟩)
    all_goals (first | (refine zg_f (zst_p (y0 rfl (y0 rfl (zo_gu rfl rfl rfl rfl (zst_p (zo_gu rfl rfl rfl rfl (zst_p (y0 rfl (yP rfl (yP rfl (y0 rfl (y0 rfl (y0 rfl ?_))))))))))))); refine zo_gu rfl rfl rfl rfl (zst_p (zo_gu rfl rfl rfl rfl (zst_p (y0 rfl (yP rfl (yP rfl (yP rfl (y0 rfl (y0 rfl (y0 rfl (yP rfl (yT (zw_c rfl ?_))))))))))))); refine zc_f (zw_k (zb_n (zt_n (zw_o (yP rfl (yq rfl (zqA zI ?_)))))))) | (refine zg_f (zst_p (y0 rfl (y0 rfl (zo_gu rfl rfl rfl rfl (zst_p (zo_gu rfl rfl rfl rfl (zst_p (y0 rfl (yP rfl (yP rfl (yP rfl (y0 rfl (y0 rfl ?_))))))))))))); refine y0 rfl (yP rfl (yT (zw_c rfl (zc_f (zw_k (zb_n (zt_n (zw_o (yP rfl (yq rfl (zqA zI ?_)))))))))))) | (refine zg_f (zst_p (y0 rfl (y0 rfl (yP rfl (yT (zw_c rfl (zc_f (zw_k (zb_n (zt_n (zw_o (yP rfl (yq rfl ?_))))))))))))); refine zqA zI ?_) | (refine yS (yA rfl (yT (zw_r (zb_r (zt_r (zt_r (zb_r (zt_r (ze_r zi ?_)))))))))) | (refine zw_k (zb_n (zt_n (zw_o (yP rfl (yq rfl (zqA zI ?_))))))))
    all_goals first
      | (refine And.intro ⟨by omega, by omega⟩ ?_
         (refine yk (yA rfl (yT (zaf_raw ?_))); refine ⟨(i + 1), _, SLe.refl _ _, ?_⟩)
         exact ⟨⟨by omega, hnext (by simp [okB, *])⟩, by omega, ⟨rfl, rfl, trivial⟩, trivial⟩)
      | (refine And.intro ?_ trivial
         rw [hbad (by simp [okB, *])]
         rfl)
  · have hall : s.data.toList.all okB = true := by
      have := hi.2
      rwa [List.take_of_length_le (by omega)] at this
    (refine zw_x (zt_x (zt_x (zb_h (zt_n (yS (yP rfl (yP rfl (yn rfl (zqX zI ?_))))))))); refine ⟨_, _, (ref5_within s.size 1 40), ?_⟩)
    (refine zkn rfl rfl (zst_p (yA rfl (yR zi ?_))); refine And.intro ?_ trivial)
    rw [wordB, hall, Bool.true_and]
set_option maxRecDepth 100000 in
set_option maxHeartbeats 1000000 in
theorem house_isWord (s : ByteArray) (hs : s.size ≤ 9223372036854775807) : ACalls C 12 [.pv (str s)] (.p (bool (wordB s))) [] := by
  refine fun_go hC Tryz.func12 rfl rfl 49 rfl (by decide) (by kernel_rfl) fun _ _ _ _ _ => ?_
  have hsz : s.data.toList.length = s.size := by simp
  refine yS (yA rfl (yT (zw_s (yS (yP rfl (yP rfl (yP rfl (yT (zw_b ?_)))))))))
  refine loop_ok' (fun i : Nat => i ≤ s.size ∧ (s.data.toList.take i).all okB = true) (fun i => [(0, .p (str s)), (6, .p (i64 s.size)), (7, .p (i64 i))]) (fun _ => []) (fun i => s.size - i) 0 _ (SLe.refl _ _) ⟨Nat.zero_le _, by simp⟩ ⟨rfl, rfl, rfl, trivial⟩ trivial fun i hi t h => ?_
  (refine yS (yP rfl (yT (zw_s (zw_c rfl ?_)))); refine bcase_split (fun h1 => ?_) (fun h1 => ?_) <;> try simp only [zB] at h1)
  · obtain ⟨b, hb, hb'⟩ := byte_get (s := s) (i := i) (by omega)
    have hbad : okB b = false → wordB s = false := fun h => by
      rw [wordB, Bool.and_eq_false_iff]
      refine .inl ?_
      rw [List.all_eq_false]
      exact ⟨b, List.mem_of_getElem? hb', by simp [h]⟩
    have hnext : okB b = true → (s.data.toList.take (i + 1)).all okB = true := fun h => by rw [take_succ' hb', List.all_append, hi.2]; simp [h]
    (refine zw_k (zt_n (zw_s (zw_b (yS (yP rfl (yA rfl (yU (yP rfl (yP rfl (yq rfl (zqX zI ?_))))))))))); refine ⟨b, ⟨by omega, by rw [Int.toNat_natCast]; exact hb⟩, ?_⟩)
    have hix := indexByte_any ⟨#[95, 43, 45, 35]⟩ b.toNat
    rw [byte_back] at hix
    repeat' first | ((first | (refine zg_f (zst_p (y0 rfl (y1 rfl (yP rfl (yP rfl (y1 rfl (y1 rfl (y1 rfl (yg rfl ?_)))))))))) | (refine zg_f (zst_p (y0 rfl (yP rfl (yP rfl (y1 rfl (y1 rfl (y1 rfl (yg rfl ?_))))))))) | (refine zg_t (zs_q rfl rfl (zq1 zI (yk (y1 rfl (y1 rfl (yP rfl (yP rfl (yg rfl ?_))))))))) | (refine zg_t (zs_q rfl rfl (zq1 zI (yk (y1 rfl (y1 rfl (yg rfl ?_))))))) | (refine yk (yA rfl (yU (yP rfl (yP rfl (yP rfl (yg rfl ?_))))))) | (refine zg_t (zs_q rfl rfl (zq1 zI (yk (y1 rfl (yP rfl (yP rfl (yg rfl ?_)))))))) | (refine zkn rfl rfl (zst_p (y1 rfl (yP rfl (yT (zw_c rfl ?_))))))); refine bcase_split (fun h => ?_) (fun h => ?_) <;> try simp only [zB] at h) | ((first | (refine zg_f (zst_p (y0 rfl (y1 rfl (yP rfl (yP rfl (y1 rfl (y2 rfl (zs_n rfl rfl rfl (zqX zI ?_)))))))))) | (refine zg_t (zs_q rfl rfl (zq1 zI (yk (y2 rfl (zs_n rfl rfl rfl (zqX zI ?_)))))))); refine ⟨_, _, hix, ?_⟩)
    all_goals (first | (refine zg_f (zst_p (y0 rfl (y0 rfl (zo_gu rfl rfl rfl rfl (zst_p (zo_gu rfl rfl rfl rfl (zst_p (y0 rfl (yP rfl (yP rfl (y0 rfl (y0 rfl (y0 rfl ?_))))))))))))); refine zo_gu rfl rfl rfl rfl (zst_p (zo_gu rfl rfl rfl rfl (zst_p (y0 rfl (yP rfl (yP rfl (y0 rfl (y0 rfl (y0 rfl (yP rfl (yT (zw_c rfl (zc_f ?_))))))))))))); refine zw_k (zb_n (zt_n (zw_o (yq rfl (zqA zI ?_)))))) | (refine zg_f (zst_p (y0 rfl (y0 rfl (zo_gu rfl rfl rfl rfl (zst_p (zo_gu rfl rfl rfl rfl (zst_p (y0 rfl (yP rfl (yP rfl (y0 rfl (y0 rfl (y0 rfl ?_))))))))))))); refine yP rfl (yT (zw_c rfl (zc_f (zw_k (zb_n (zt_n (zw_o (yq rfl (zqA zI ?_)))))))))) | (refine zg_f (zst_p (y0 rfl (y0 rfl (yP rfl (yT (zw_c rfl (zc_f (zw_k (zb_n (zt_n (zw_o (yq rfl (zqA zI ?_)))))))))))))) | (refine yS (yA rfl (yT (zw_r (zb_r (zt_r (zt_r (zb_r (zt_r (ze_r zi ?_)))))))))) | (refine zw_k (zb_n (zt_n (zw_o (yq rfl (zqA zI ?_)))))))
    all_goals first
      | (refine And.intro ⟨by omega, by omega⟩ ?_
         (refine yk (yP rfl (yT (zaf_raw ?_))); refine ⟨(i + 1), _, SLe.refl _ _, ?_⟩)
         exact ⟨⟨by omega, hnext (by simp only [okB, Bool.or_eq_true, Bool.and_eq_true, decide_eq_true_eq, Bool.not_eq_true', decide_eq_false_iff_not]; omega)⟩, by omega, ⟨rfl, rfl, rfl, trivial⟩, trivial⟩)
      | (refine And.intro ?_ trivial
         rw [hbad (by simp only [okB, Bool.or_eq_false_iff, Bool.and_eq_false_iff, decide_eq_false_iff_not, Bool.not_eq_false', decide_eq_true_eq]; omega)]
         rfl)
  · have hall : s.data.toList.all okB = true := by
      have := hi.2
      rwa [List.take_of_length_le (by omega)] at this
    (refine zw_x (zt_x (zt_x (zb_h (zt_n (yS (yP rfl (yP rfl (yP rfl (yP rfl (yg rfl ?_)))))))))); refine bcase_split (fun h2 => ?_) (fun h2 => ?_) <;> try simp only [zB] at h2)
    · (refine zg_t (zs_q rfl rfl (zq1 zI (yk (y1 rfl (y1 rfl (yP rfl (yA rfl (yR zi ?_)))))))); refine And.intro ?_ trivial)
      simp [bool, wordB, hall, h2]
    · (refine zg_f (zst_p (y0 rfl (y0 rfl (yP rfl (yA rfl (yR zi ?_)))))); refine And.intro ?_ trivial)
      simp [bool, wordB, hall, h2]
def inR (n lo hi : Int) : Bool := decide (lo ≤ n) && decide (n ≤ hi)
theorem house_within (n lo hi : Int) : ACalls C 28 [.pv (i64 n), .pv (i64 lo), .pv (i64 hi)] (.p (bool (inR n lo hi))) [] := by
  refine fun_go hC Tryz.func28 rfl rfl 15 rfl (by decide) (by kernel_rfl) fun _ _ _ _ _ => ?_
  (refine yS (yA rfl (yU (yP rfl (yP rfl (yP rfl (yP rfl (yg rfl ?_))))))); refine bcase_split (fun h => ?_) (fun h => ?_) <;> try simp only [zB] at h) <;> ((first | (refine zg_t (zs_q rfl rfl (zq1 zI (yk (y1 rfl (y1 rfl (yP rfl (yA rfl (yR zi ?_))))))))) | (refine zg_f (zst_p (y0 rfl (y0 rfl (yP rfl (yA rfl (yR zi ?_)))))))); refine And.intro ?_ trivial) <;> simp [bool, inR, h]
theorem ref12_inRange (n lo hi : Int) : ACalls C 23 [.pv (i64 n), .pv (i64 lo), .pv (i64 hi)] (.p (bool (inR n lo hi))) [] := by
  refine fun_go hC Tryz.func23 rfl rfl 15 rfl (by decide) (by kernel_rfl) fun _ _ _ _ _ => ?_
  (refine yS (yA rfl (yU (yP rfl (yP rfl (yP rfl (yP rfl (yg rfl ?_))))))); refine bcase_split (fun h => ?_) (fun h => ?_) <;> try simp only [zB] at h) <;> ((first | (refine zg_t (zs_q rfl rfl (zq1 zI (yk (y1 rfl (y1 rfl (yP rfl (yA rfl (yR zi ?_))))))))) | (refine zg_f (zst_p (y0 rfl (y0 rfl (yP rfl (yA rfl (yR zi ?_)))))))); refine And.intro ?_ trivial) <;> simp [bool, inR, h]
theorem house_isPanel (n : Int) : ACalls C 13 [.pv (i64 n)] (.p (bool (inR n 0 199))) [] := by
  refine fun_go hC Tryz.func13 rfl rfl 5 rfl (by decide) (by kernel_rfl) fun _ _ _ _ _ => ?_
  (refine yS (yA rfl (yU (yP rfl (yn rfl (zqX zI ?_))))); refine ⟨_, _, (house_within n 0 199), ?_⟩)
  (refine zkn rfl rfl (zst_p (yA rfl (yR zi ?_))); refine And.intro ?_ trivial)
  rfl
end Go.Proofs.YtngikpapepnkaaaGreatDoor.M
