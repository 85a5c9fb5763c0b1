/- By the machine: words and paths of the reference. -/
import Derived.Test.YthjfllfhagdnpaaGreatDoorMRule1
import Derived.Lib.SplitLaws
set_option linter.unusedSimpArgs false
set_option linter.unusedVariables false
namespace Go.Proofs.YthjfllfhagdnpaaGreatDoor.M
open Go.AM Go.RowKit

theorem indexByte_any (s : ByteArray) (c : Int) : ACalls C 253 [.pv (str s), .pv (.im (.int .u8 c))] (.p (i64 (Lib.indexByte s.data.toList c.toNat.toUInt8))) [] :=
  acalls_im [.string s, .int .u8 c] _ ⟨_, Tryz.func253, rfl, rfl⟩ fun _ w _ _ => (Tryz.strings_IndexByte s c w).mono fun _ _ ⟨h1, h2⟩ => ⟨h1, by rw [h2]; exact Below.refl _ _⟩
theorem ref5_within (n lo hi : Int) : ACalls C 243 [.pv (i64 n), .pv (i64 lo), .pv (i64 hi)] (.p (bool (decide (lo ≤ n) && decide (n ≤ hi)))) [] := by
  refine fun_go hC Tryz.func243 rfl rfl 15 rfl (by decide) (by kernel_rfl) fun _ _ _ _ _ => ?_
  (refine yS (yA rfl (yU (yP rfl (yP rfl (yP rfl (yP rfl (yg rfl ?_))))))); refine bcase_split (fun h => ?_) (fun h => ?_) <;> try simp only [zB] at h) <;> ((first | (refine zg_t (zs_q rfl rfl (zq1 zI (yk (y1 rfl (y1 rfl (yP rfl (yA rfl (yR zi ?_))))))))) | (refine zg_f (zst_p (y0 rfl (y0 rfl (yP rfl (yA rfl (yR zi ?_)))))))); refine And.intro ?_ trivial) <;> simp [bool, h]
/-- the bytes of words -/
def okB (b : UInt8) : Bool := (decide ((97 : Int) ≤ b.toNat) && decide ((b.toNat : Int) ≤ 122)) || (decide ((65 : Int) ≤ b.toNat) && decide ((b.toNat : Int) ≤ 90)) || (decide ((48 : Int) ≤ b.toNat) && decide ((b.toNat : Int) ≤ 57)) || !decide (Lib.indexByte [95, 43, 45, 35] b < 0)
theorem byte_back (b : UInt8) : ((b.toNat : Int)).toNat.toUInt8 = b := by simp
def wordB (s : ByteArray) : Bool := s.data.toList.all okB && (decide ((1 : Int) ≤ s.size) && decide ((s.size : Int) ≤ 40))
theorem byte_get {s : ByteArray} {i : Nat} (h : i < s.size) : ∃ b : UInt8, s[i]? = some b ∧ s.data.toList[i]? = some b := by
  refine ⟨s[i], getElem?_pos s i h, ?_⟩
  rw [Array.getElem?_toList]
  exact Array.getElem?_eq_getElem h
set_option maxRecDepth 100000 in
set_option maxHeartbeats 1000000 in
theorem ref5_isWord (s : ByteArray) (hs : s.size ≤ 9223372036854775807) : ACalls C 179 [.pv (str s)] (.p (bool (wordB s))) [] := by
  refine fun_go hC Tryz.func179 rfl rfl 45 rfl (by decide) (by kernel_rfl) fun _ _ _ _ _ => ?_
  have hsz : s.data.toList.length = s.size := by simp
  refine yS (yA rfl (yT (zw_s (yS (yA rfl (yT (zw_b ?_)))))))
  refine loop_ok' (fun i : Nat => i ≤ s.size ∧ (s.data.toList.take i).all okB = true) (fun i => [(0, .p (str s)), (3, .p (i64 i))]) (fun _ => []) (fun i => s.size - i) 0 _ (SLe.refl _ _) ⟨Nat.zero_le _, by simp⟩ ⟨rfl, rfl, trivial⟩ trivial fun i hi t h => ?_
  (refine zw_s (yS (yP rfl (yP rfl (yP rfl (yP rfl (yT (zw_c rfl ?_))))))); refine bcase_split (fun h1 => ?_) (fun h1 => ?_) <;> try simp only [zB] at h1)
  · obtain ⟨b, hb, hb'⟩ := byte_get (s := s) (i := i) (by omega)
    have hbad : okB b = false → wordB s = false := fun h => by
      rw [wordB, Bool.and_eq_false_iff]
      refine .inl ?_
      rw [List.all_eq_false]
      exact ⟨b, List.mem_of_getElem? hb', by simp [h]⟩
    have hnext : okB b = true → (s.data.toList.take (i + 1)).all okB = true := fun h => by rw [take_succ' hb', List.all_append, hi.2]; simp [h]
    (refine zw_k (zt_n (zw_s (zw_b (yS (yP rfl (yP rfl (yq rfl (zqX zI ?_)))))))); refine ⟨b, ⟨by omega, by rw [Int.toNat_natCast]; exact hb⟩, ?_⟩)
    have hix := indexByte_any ⟨#[95, 43, 45, 35]⟩ b.toNat
    rw [byte_back] at hix
    repeat' first | ((first | (refine zg_f (zst_p (y0 rfl (y1 rfl (yP rfl (yP rfl (y1 rfl (y1 rfl (y1 rfl (yg rfl ?_)))))))))) | (refine zg_f (zst_p (y0 rfl (yP rfl (yP rfl (y1 rfl (y1 rfl (y1 rfl (yg rfl ?_))))))))) | (refine zg_t (zs_q rfl rfl (zq1 zI (yk (y1 rfl (y1 rfl (yP rfl (yP rfl (yP rfl (yg rfl ?_)))))))))) | (refine zg_t (zs_q rfl rfl (zq1 zI (yk (y1 rfl (y1 rfl (yP rfl (yP rfl (yg rfl ?_))))))))) | (refine zg_t (zs_q rfl rfl (zq1 zI (yk (y1 rfl (y1 rfl (yg rfl ?_))))))) | (refine yk (yA rfl (yU (yP rfl (yP rfl (yP rfl (yg rfl ?_))))))) | (refine zg_t (zs_q rfl rfl (zq1 zI (yk (y1 rfl (yP rfl (yP rfl (yg rfl ?_)))))))) | (refine zkn rfl rfl (zst_p (y1 rfl (yP rfl (yT (zw_c rfl ?_))))))); refine bcase_split (fun h => ?_) (fun h => ?_) <;> try simp only [zB] at h) | ((first | (refine zg_f (zst_p (y0 rfl (y1 rfl (yP rfl (yP rfl (yP rfl (y1 rfl (y2 rfl (zs_n rfl rfl rfl (zqX zI ?_))))))))))) | (refine zg_t (zs_q rfl rfl (zq1 zI (yk (y2 rfl (zs_n rfl rfl rfl (zqX zI ?_)))))))); refine ⟨_, _, hix, ?_⟩)
    all_goals (first | (refine zg_f (zst_p (y0 rfl (y0 rfl (zo_gu rfl rfl rfl rfl (zst_p (zo_gu rfl rfl rfl rfl (zst_p (y0 rfl (yP rfl (yP rfl (y0 rfl (y0 rfl (y0 rfl ?_))))))))))))); refine zo_gu rfl rfl rfl rfl (zst_p (zo_gu rfl rfl rfl rfl (zst_p (y0 rfl (yP rfl (yP rfl (yP rfl (y0 rfl (y0 rfl (y0 rfl (yP rfl (yT (zw_c rfl ?_))))))))))))); refine zc_f (zw_k (zb_n (zt_n (zw_o (yP rfl (yq rfl (zqA zI ?_)))))))) | (refine zg_f (zst_p (y0 rfl (y0 rfl (zo_gu rfl rfl rfl rfl (zst_p (zo_gu rfl rfl rfl rfl (zst_p (y0 rfl (yP rfl (yP rfl (yP rfl (y0 rfl (y0 rfl ?_))))))))))))); refine y0 rfl (yP rfl (yT (zw_c rfl (zc_f (zw_k (zb_n (zt_n (zw_o (yP rfl (yq rfl (zqA zI ?_)))))))))))) | (refine zg_f (zst_p (y0 rfl (y0 rfl (yP rfl (yT (zw_c rfl (zc_f (zw_k (zb_n (zt_n (zw_o (yP rfl (yq rfl ?_))))))))))))); refine zqA zI ?_) | (refine yS (yA rfl (yT (zw_r (zb_r (zt_r (zt_r (zb_r (zt_r (ze_r zi ?_)))))))))) | (refine zw_k (zb_n (zt_n (zw_o (yP rfl (yq rfl (zqA zI ?_))))))))
    all_goals first
      | (refine And.intro ⟨by omega, by omega⟩ ?_
         (refine yk (yA rfl (yT (zaf_raw ?_))); refine ⟨(i + 1), _, SLe.refl _ _, ?_⟩)
         exact ⟨⟨by omega, hnext (by simp [okB, *])⟩, by omega, ⟨rfl, rfl, trivial⟩, trivial⟩)
      | (refine And.intro ?_ trivial
         rw [hbad (by simp [okB, *])]
         rfl)
  · have hall : s.data.toList.all okB = true := by
      have := hi.2
      rwa [List.take_of_length_le (by omega)] at this
    (refine zw_x (zt_x (zt_x (zb_h (zt_n (yS (yP rfl (yP rfl (yn rfl (zqX zI ?_))))))))); refine ⟨_, _, (ref5_within s.size 1 40), ?_⟩)
    (refine zkn rfl rfl (zst_p (yA rfl (yR zi ?_))); refine And.intro ?_ trivial)
    rw [wordB, hall, Bool.true_and]
def slash : ByteArray := ⟨#[47]⟩
/-- the parts of a path -/
def parts (s : ByteArray) : List ByteArray := Lib.splitB slash 0 (Lib.countB s slash) s
def pathB (s : ByteArray) : Bool := (parts s).all wordB && decide ((s.size : Int) ≤ 200)
theorem splitB_size (sep : ByteArray) : ∀ (k : Nat) (s : ByteArray), ∀ x ∈ Lib.splitB sep 0 k s, x.size ≤ s.size := by
  intro k
  induction k with
  | zero =>
    intro s x hx
    rw [Lib.splitB_zero, List.mem_singleton] at hx
    rw [hx]
    omega
  | succ k ih =>
    intro s x hx
    unfold Lib.splitB at hx
    split at hx
    · rw [List.mem_singleton] at hx
      rw [hx]
      omega
    · rcases List.mem_cons.1 hx with h | h
      · rw [h, ByteArray.size_extract]; omega
      · have := ih _ x h
        rw [ByteArray.size_extract] at this
        omega
theorem parts_length (s : ByteArray) : (parts s).length = Lib.countB s slash + 1 := Lib.splitB_all slash (by decide) 0 _ s rfl
theorem parts_le (s : ByteArray) : (parts s).length ≤ s.size + 1 := by
  rw [parts_length]
  have := Lib.countB_le slash (by decide) s.size s (Nat.le_refl _)
  omega
theorem strs_map (l : List ByteArray) : (l.map Value.string).map (fun v => [PV.im v]) = l.map fun s => [str s] := by
  rw [List.map_map]; rfl
theorem split_any (s : ByteArray) (hs : s.size < 4294967281) : ACalls C 178 [.pv (str s), .pv (str slash)] (.own 9 ((parts s).map fun s => [str s])) [] := by
  have h := acalls_made hC (f := 178) [.string s, .string slash] 9 ((parts s).map Value.string) _ rfl rfl (by simp [Value.oneCell']) (by rw [List.length_map]; have := parts_le s; have : maxLen = 9223372036854775807 := rfl; omega) ⟨_, Tryz.func178, rfl, rfl⟩ fun S w hE _ => by
    obtain ⟨_, _, ⟨m, hm⟩, _⟩ := hE
    refine (Tryz.strings_Split s slash m w hs hm (by decide)).mono fun _ _ ⟨h1, h2⟩ => ⟨?_, h2⟩
    rw [h1, List.length_map, parts_length]
  rw [strs_map] at h
  exact h
set_option maxRecDepth 100000 in
theorem ref5_isPath (s : ByteArray) (hs : s.size < 4294967281) : ACalls C 84 [.pv (str s)] (.p (bool (pathB s))) [] := by
  refine fun_go hC Tryz.func84 rfl rfl 22 rfl (by decide) (by kernel_rfl) fun _ _ _ _ _ => ?_
  have lm := len_map (parts s) fun s => [str s]
  have pl := parts_le s
  (refine yS (yA rfl (yU (yP rfl (yn rfl (zqX zI ?_))))); refine ⟨_, _, (split_any s hs), ?_⟩)
  refine zkns (zst_ow (zo_n rfl (zs_ar rfl rfl rfl rfl rfl (yT (zw_s (yS (yA rfl (yT (zw_b ?_)))))))))
  refine loop_ok' (fun i : Nat => i ≤ (parts s).length ∧ ((parts s).take i).all wordB = true) (fun i => [(0, .p (str s)), (3, .p (strs (parts s))), (4, .p (i64 i))]) (fun _ => []) (fun i => (parts s).length - i) 0 _ (SLe.own hC _ 3 rfl rfl) ⟨Nat.zero_le _, by simp⟩ ⟨rfl, rfl, rfl, trivial⟩ trivial fun i hi t h => ?_
  (refine zw_s (yS (yP rfl (yP rfl (yP rfl (yP rfl (yT (zw_c rfl ?_))))))); refine bcase_split (fun h1 => ?_) (fun h1 => ?_) <;> try simp only [zB] at h1)
  · rw [lm] at h1
    obtain ⟨x, hx⟩ := get_of (l := parts s) (i := i) (by omega)
    have hxs := splitB_size _ _ _ x (List.mem_of_getElem? hx)
    (refine zw_k (zt_n (zw_s (zw_b (yS (yP rfl (yP rfl (yq rfl (zqX zI ?_)))))))); refine ⟨[str x], (idx rfl hx), ?_⟩)
    (refine yk (yP rfl (yn rfl (zqX zI ?_))); refine ⟨_, _, (ref5_isWord x (by omega)), ?_⟩)
    (refine zkn rfl rfl (zst_p (yP rfl (yT (zw_c rfl ?_)))); refine bcase_split (fun h2 => ?_) (fun h2 => ?_) <;> try simp only [zB] at h2)
    · (refine yS (yA rfl (yT (zw_r (zb_r (zt_r (zt_r (zb_r (zt_r (ze_r zi ?_))))))))); refine And.intro ?_ trivial)
      rw [show pathB s = false from ?_]
      · rfl
      rw [pathB, Bool.and_eq_false_iff, List.all_eq_false]
      exact .inl ⟨x, List.mem_of_getElem? hx, by simp [h2]⟩
    · (refine zw_k (zb_n (zt_n (zw_o (yP rfl (yq rfl (zqA zI ?_)))))); refine And.intro ⟨by omega, by omega⟩ ?_)
      (refine yk (yA rfl (yT (zaf_raw ?_))); refine ⟨(i + 1), _, SLe.refl _ _, ?_⟩)
      refine ⟨⟨by omega, ?_⟩, by omega, ⟨rfl, rfl, rfl, trivial⟩, trivial⟩
      rw [take_succ' hx, List.all_append, hi.2]
      simp [h2]
  · rw [lm] at h1
    (refine zw_x (zt_x (zt_x (zb_h (zt_n (yS (yP rfl (yP rfl (yP rfl (yA rfl (yR zi ?_)))))))))); refine And.intro ?_ trivial)
    have hall := hi.2
    rw [List.take_of_length_le (by omega)] at hall
    rw [pathB, hall, Bool.true_and]
    rfl
end Go.Proofs.YthjfllfhagdnpaaGreatDoor.M
