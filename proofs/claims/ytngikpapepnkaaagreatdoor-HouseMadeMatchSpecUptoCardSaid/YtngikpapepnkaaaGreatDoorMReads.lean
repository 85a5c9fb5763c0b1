/- By the machine: reads, of the statements on the shop. -/
import Derived.Test.YtngikpapepnkaaaGreatDoorMShop1
import Derived.Lib.SplitLaws
import Derived.Lib.AppendIntMem
import Derived.Lib.SmallJoins
set_option linter.unusedSimpArgs false
set_option linter.unusedVariables false
namespace Go.Proofs.YtngikpapepnkaaaGreatDoor.M
open Go.AM Go.RowKit Go.Lib

def ofL (l : List UInt8) : ByteArray := ⟨l.toArray⟩
theorem itoa_calls (n : Int) (h : -9223372036854775808 ≤ n ∧ n ≤ 9223372036854775807) : ACalls C 63 [.pv (i64 n)] (.p (str (ofL (Lib.itoa n)))) [] :=
  acalls_im [.int .i64 n] (.string (ofL (Lib.itoa n))) ⟨_, Tryz.func63, by decide, rfl⟩ fun S w hE hS => by
    refine (Tryz.strconv_Itoa n h.1 h.2 w hE.2.2.2).mono ?_
    rintro e w' ⟨rfl, k, os, rfl⟩
    exact ⟨rfl, Lib.below_grow _ _ (Nat.le_refl _) k os⟩
theorem prefix_calls (s p : ByteArray) : ACalls C 26 [.pv (str s), .pv (str p)] (.p (bool (Lib.hasPrefix s.data.toList p.data.toList))) [] :=
  acalls_im [.string s, .string p] (.bool _) ⟨_, Tryz.func26, by decide, rfl⟩ fun S w hE hS => by
    refine (Tryz.strings_HasPrefix s p w).mono ?_
    rintro e w' ⟨rfl, rfl⟩
    exact ⟨rfl, Below.refl _ _⟩
theorem contains_calls (s p : ByteArray) (hs : s.size < 4294967281) : ACalls C 35 [.pv (str s), .pv (str p)] (.p (bool (Lib.contains s.data.toList p.data.toList))) [] :=
  acalls_im [.string s, .string p] (.bool _) ⟨_, Tryz.func35, by decide, rfl⟩ fun S w hE hS => by
    obtain ⟨_, _, ⟨m, hm⟩, _⟩ := hE
    refine (Tryz.strings_Contains s p m w hs hm).mono ?_
    rintro e w' ⟨rfl, rfl⟩
    exact ⟨rfl, Below.refl _ _⟩
def digsB : ByteArray := ⟨#[48, 49, 50, 51, 52, 53, 54, 55, 56, 57]⟩
theorem trim_info : (Tryz.prog.info? (Tryz.laysTrim_ren.t 116)).map (fun i => (i.zero, i.size)) = some (some (.agg (Array.replicate 256 (.bool false))), 256) := by kernel_rfl
theorem digs_ascii : ∀ (j : Nat) b, digsB.data.toList[j]? = some b → b.toNat < 128 := fun j b h => by
  have := List.mem_of_getElem? h
  revert b
  intro b _ hb
  exact (show ∀ c ∈ digsB.data.toList, c.toNat < 128 by decide) b hb
theorem trim_calls (s : ByteArray) (hs : s.size ≤ 9223372036854775807) : ACalls C 46 [.pv (str s), .pv (str digsB)] (.p (str (ofL (Lib.trimS s.data.toList digsB.data.toList)))) [] :=
  acalls_im [.string s, .string digsB] (.string _) ⟨_, Tryz.func46, by decide, rfl⟩ fun S w hE hS => by
    refine (Tryz.strings_Trim_laid trim_info s digsB w hs (by decide) digs_ascii).mono ?_
    rintro e w' ⟨rfl, hb⟩
    exact ⟨rfl, hb⟩
/-- plain values in, several plain values out -/
theorem acalls_tu {f : FuncId} (us rs : List Value) (hf : ∃ fn : Func, C.P.funcs[f]? = some fn ∧ (fn.name == "runtime.NumGoroutine") = false ∧ fn.body.isNone = false) (h : ∀ S w, C.E S w → (∀ b, S b → b < w.heap.size) → Calls C.P f us.toArray w fun e w' => e = .returned (.tuple rs.toArray) ∧ Below w.heap.size w w') :
    ACalls C f (us.map fun a => .pv (.im a)) (.tu (rs.map .im)) [] := by
  refine ⟨hf, fun S w vs hE hS hl hr _ => ?_⟩
  have hvs := args_im hl hr
  subst hvs
  exact (h S w hE hS).mono fun e w' ⟨he, hb⟩ => ⟨.tuple rs.toArray, S, he, ⟨hb.os, hb.tape, hb.output, hb.size, fun k hk _ => hb.block k hk⟩, fun _ h => h, fun b hb' => Nat.lt_of_lt_of_le (hS b hb') hb.size, fun b hb' => .inl hb', ⟨rs.toArray, rfl, by simp, fun i x u h1 h2 => by
    rw [List.getElem?_map, Option.map_eq_some_iff] at h1
    obtain ⟨y, hy, rfl⟩ := h1
    have : rs[i]? = some u := by simpa using h2
    rw [hy] at this
    cases this
    exact .im _⟩, fin_im us, finok_im us, fun g h => by cases h⟩
theorem atoi_calls (s : ByteArray) (n : Int) (hl : s.size ≤ 18) (h : Lib.atoi s.data.toList = some n) : ACalls C 47 [.pv (str s)] (.tu [i64 n, .im .nilIface]) [] :=
  acalls_tu [.string s] [.int .i64 n, .nilIface] ⟨_, Tryz.func47, by decide, rfl⟩ fun S w hE hS => by
    refine (Tryz.strconv_Atoi s n hl h w).mono ?_
    rintro e w' ⟨rfl, t, rfl⟩
    exact ⟨rfl, Joins.below_bytesWorld _ _ _ _ (Nat.le_refl _)⟩
def dotB : ByteArray := ⟨#[46]⟩
def s0 : ByteArray := ⟨#[97, 46, 48, 48, 49, 46, 48, 48, 50, 46, 48]⟩
def sA : ByteArray := ⟨#[97]⟩
def s1 : ByteArray := ⟨#[48, 48, 49]⟩
def s2 : ByteArray := ⟨#[48, 48, 50]⟩
def sD : ByteArray := ⟨#[48]⟩
def sF : ByteArray := ⟨#[97, 46, 48, 48, 49, 46, 48, 48, 50]⟩
def sP : ByteArray := ⟨#[97, 46, 48, 48, 49, 46, 48, 48, 50, 46]⟩
def signsB : ByteArray := ⟨#[48, 49, 50, 51, 52, 53, 54, 55, 56, 57, 65, 66, 67, 68, 69, 70, 71, 72, 73, 74, 75, 76, 77, 78, 79, 80, 81, 82, 83, 84, 85, 86, 87, 88, 89, 90, 42]⟩
theorem parts0 : Lib.splitB dotB 0 (Lib.countB s0 dotB) s0 = [sA, s1, s2, sD] := by kernel_rfl
theorem count0 : Lib.countB s0 dotB = 3 := by kernel_rfl
theorem split0 : ACalls C 34 [.pv (str s0), .pv (str dotB)] (.own 9 [[str sA], [str s1], [str s2], [str sD]]) [] :=
  acalls_made hC (f := 34) [.string s0, .string dotB] 9 [.string sA, .string s1, .string s2, .string sD] _ rfl rfl (by simp [Value.oneCell']) (by decide) ⟨_, Tryz.func34, by decide, rfl⟩ fun S w hE hS => by
    obtain ⟨_, _, ⟨m, hm⟩, _⟩ := hE
    refine (Tryz.strings_Split s0 dotB m w (by decide) hm (by decide)).mono fun _ _ ⟨h1, h2⟩ => ⟨?_, ?_⟩
    · rw [h1, count0]; rfl
    · rw [h2, parts0]; rfl
theorem three_of (s : ByteArray) (n : Int) (hs : s.size = 3) (h1 : Lib.trimS s.data.toList digsB.data.toList = []) (h2 : Lib.atoi s.data.toList = some n) : ACalls C 36 [.pv (str s)] (.tu [i64 n, bool true]) [] := by
  refine fun_go hC Tryz.func36 rfl rfl 20 rfl (by decide) (by kernel_rfl) fun _ _ _ _ _ => ?_
  have ht := trim_calls s (by omega)
  rw [h1] at ht
  (refine yS (yA rfl (yA rfl (yT (zw_s (yS (yP rfl (yP rfl (yP rfl (yP rfl (yg rfl ?_)))))))))); refine bcase_split (fun h3 => ?_) (fun h3 => ?_) <;> try simp only [zB] at h3)
  · exact absurd (by omega) h3
  · (refine zg_t (zs_q rfl rfl (zq1 zI (yk (y2 rfl (zs_n rfl rfl rfl (zqX zI ?_)))))); refine ⟨_, _, ht, ?_⟩)
    (refine zkn rfl rfl (zst_p (y1 rfl (yP rfl (yT (zw_c rfl (zc_f (zw_k (zt_n (yS (yP rfl (yn rfl (zqX zI ?_)))))))))))); refine ⟨_, _, (atoi_calls s n (by omega) h2), ?_⟩)
    ((refine zkn rfl rfl (zst_tu (yq rfl (zq1 zI (zkq (zst_tu (yP rfl (yP rfl (yA rfl (yA rfl (yU (yP rfl (yA rfl (yA rfl ?_))))))))))))); refine yR zi ?_); refine And.intro ?_ trivial)
    rfl
/-- the sum of a text's bytes, each times its place -/
def sumB (s : ByteArray) : Nat → Int
  | 0 => 0
  | i + 1 => sumB s i + ((i : Int) + 1) * (((s.data.toList[i]?).getD 0).toNat : Int)
theorem sum_bound (s : ByteArray) : ∀ i, i ≤ 40 → 0 ≤ sumB s i ∧ sumB s i ≤ 10200 * (i : Int)
  | 0, _ => by simp [sumB]
  | i + 1, hi => by
    have ⟨h1, h2⟩ := sum_bound s i (by omega)
    have hb : (((s.data.toList[i]?).getD 0).toNat : Int) ≤ 255 := by have := ((s.data.toList[i]?).getD 0).toNat_lt; omega
    have h0 : (0 : Int) ≤ (((s.data.toList[i]?).getD 0).toNat : Int) := Int.natCast_nonneg _
    rw [sumB]
    generalize (((s.data.toList[i]?).getD 0).toNat : Int) = c at hb h0
    have m1 : ((i : Int) + 1) * c ≤ ((i : Int) + 1) * 255 := Int.mul_le_mul_of_nonneg_left hb (by omega)
    have m0 : 0 ≤ ((i : Int) + 1) * c := Int.mul_nonneg (by omega) h0
    generalize ((i : Int) + 1) * c = z at m1 m0
    omega
set_option maxRecDepth 100000 in
theorem sign_of (s : ByteArray) (hs : s.size ≤ 40) (c : UInt8) (hc : signsB[((sumB s s.size).tmod 37).toNat]? = some c) : ACalls C 37 [.pv (str s)] (.p (.im (.int .u8 c.toNat))) [] := by
  refine fun_go hC Tryz.func37 rfl rfl 23 rfl (by decide) (by kernel_rfl) fun _ _ _ _ _ => ?_
  have hsz : s.data.toList.length = s.size := by simp
  refine yS (yA rfl (yU (yA rfl (yT (zw_s (yS (yP rfl (yP rfl (yP rfl (yT (zw_b ?_)))))))))))
  refine loop_ok' (fun i : Nat => i ≤ s.size) (fun i => [(0, .p (str s)), (3, .p (i64 (sumB s i))), (6, .p (i64 s.size)), (7, .p (i64 i))]) (fun _ => []) (fun i => s.size - i) 0 _ (SLe.refl _ _) (Nat.zero_le _) ⟨rfl, rfl, rfl, rfl, trivial⟩ trivial fun i hi t h => ?_
  have sb := sum_bound s i (by omega)
  (refine yS (yP rfl (yT (zw_s (zw_c rfl ?_)))); refine bcase_split (fun h1 => ?_) (fun h1 => ?_) <;> try simp only [zB] at h1)
  · obtain ⟨b, hb, hb'⟩ := byte_get (s := s) (i := i) (by omega)
    have hbl := b.toNat_lt
    have m1 : ((i : Int) + 1) * (b.toNat : Int) ≤ ((i : Int) + 1) * 255 := Int.mul_le_mul_of_nonneg_left (by omega) (by omega)
    have m0 : 0 ≤ ((i : Int) + 1) * (b.toNat : Int) := Int.mul_nonneg (by omega) (Int.natCast_nonneg _)
    have e : sumB s (i + 1) = sumB s i + ((i : Int) + 1) * (b.toNat : Int) := by rw [sumB, hb']; rfl
    generalize hz : ((i : Int) + 1) * (b.toNat : Int) = z at m1 m0 e
    (refine zw_k (zt_n (zw_s (zw_b (yS (yP rfl (yA rfl (yT (zw_o (yP rfl (yP rfl (yq rfl (zqA zI ?_)))))))))))); refine And.intro ⟨by omega, by omega⟩ ?_)
    (refine yk (yP rfl (yP rfl (yq rfl (zqX zI ?_)))); refine ⟨b, ⟨by omega, by rw [Int.toNat_natCast]; exact hb⟩, ?_⟩)
    (refine yk (yq rfl (zqA zI ?_)); refine And.intro ⟨by omega, by omega⟩ ?_)
    (refine yk (yq rfl (zqA zI ?_)); refine And.intro ⟨by rw [hz]; omega, by rw [hz]; omega⟩ ?_)
    (refine yk (yq rfl (zqA zI ?_)); refine And.intro ⟨by rw [hz]; omega, by rw [hz]; omega⟩ ?_)
    (refine yk (yA rfl (zo_0 (zb_n (zt_n (zw_o (yq rfl (zqA zI ?_))))))); refine And.intro ⟨by omega, by omega⟩ ?_)
    (refine yk (yP rfl (yT (zaf_raw ?_))); refine ⟨(i + 1), _, SLe.refl _ _, ?_⟩)
    exact ⟨by omega, by omega, ⟨rfl, congrArg (fun n : Int => AV.p (i64 n)) (by rw [e, hz]), rfl, rfl, trivial⟩, trivial⟩
  · have e : i = s.size := by omega
    have h37 : 0 ≤ (sumB s i).tmod 37 ∧ (sumB s i).tmod 37 < 37 := ⟨Int.tmod_nonneg _ sb.1, Int.tmod_lt_of_pos _ (by decide)⟩
    rw [← e] at hc
    (refine zw_x (zt_x (zt_x (zb_h (zt_n (yS (yP rfl (yq rfl (zqA zI ?_)))))))); refine And.intro (by decide) ?_)
    (refine yk (yq rfl (zqX zI ?_)); refine ⟨c, ⟨h37.1, hc⟩, ?_⟩)
    (refine yk (yA rfl (yR zi ?_)); refine And.intro ?_ trivial)
    rfl
def sN : ByteArray := ⟨#[49, 48, 48, 49]⟩
theorem digits_of (n : Int) (a b : ByteArray) (h0 : 0 ≤ n ∧ n ≤ 999) (ha : ofL (Lib.itoa (1000 + n)) = a) (hl : a.size = 4) (hb : a.extract 1 4 = b) : ACalls C 48 [.pv (i64 n)] (.p (str b)) [] := by
  refine fun_go hC Tryz.func48 rfl rfl 7 rfl (by decide) (by kernel_rfl) fun _ _ _ _ _ => ?_
  have hi := itoa_calls (1000 + n) ⟨by omega, by omega⟩
  rw [ha] at hi
  (refine yS (yA rfl (yU (yP rfl (yq rfl (zqA zI ?_))))); refine And.intro ⟨by omega, by omega⟩ ?_)
  (refine yk (yn rfl (zqX zI ?_)); refine ⟨_, _, hi, ?_⟩)
  (refine zkn rfl rfl (zst_p (yq rfl (zqA zI ?_))); refine And.intro ⟨by decide, by omega, by omega⟩ ?_)
  (refine yk (yA rfl (yR zi ?_)); refine And.intro ?_ trivial)
  rw [hl]
  exact congrArg (fun z => PV.im (Value.string z)) hb
def sS : ByteArray := ⟨#[97, 46, 48, 48, 49, 46, 48, 48, 50, 46, 88]⟩
theorem sign0 : signsB[((sumB sF sF.size).tmod 37).toNat]? = some 88 := by kernel_rfl
theorem sign_lit (s : ByteArray) (h : s = sF) : ACalls C 37 [.pv (str s)] (.p (.im (.int .u8 88))) [] := by
  rw [h]
  exact sign_of sF (by decide) 88 sign0
theorem digits1 : ACalls C 48 [.pv (i64 1)] (.p (str s1)) [] := digits_of 1 sN s1 (by decide) (by kernel_rfl) (by decide) (by kernel_rfl)
def sN2 : ByteArray := ⟨#[49, 48, 48, 50]⟩
theorem digits2 : ACalls C 48 [.pv (i64 2)] (.p (str s2)) [] := digits_of 2 sN2 s2 (by decide) (by kernel_rfl) (by decide) (by kernel_rfl)
theorem sum0 : sA ++ ⟨#[46]⟩ ++ s1 ++ ⟨#[46]⟩ ++ s2 = sF := by kernel_rfl
theorem sum1 : sA ++ ⟨#[46]⟩ ++ s1 ++ ⟨#[46]⟩ ++ s2 ++ ⟨#[46]⟩ ++ Utf8.encode 88 = sS := by kernel_rfl
theorem sum_size : (sA ++ ⟨#[46]⟩ ++ s1 ++ ⟨#[46]⟩ ++ s2 ++ ⟨#[46]⟩).size + (Utf8.encode 88).size ≤ 9223372036854775807 := by
  have h : (Utf8.encode 88).size = 1 := by kernel_rfl
  rw [h]
  simp only [ByteArray.size_append]
  decide
theorem sign_sum : ACalls C 37 [.pv (.im (.string (sA ++ ⟨#[46]⟩ ++ s1 ++ ⟨#[46]⟩ ++ s2)))] (.p (.im (.int .u8 88))) [] := sign_lit _ sum0
theorem serial0 : ACalls C 38 [.pv (str sA), .pv (i64 1), .pv (i64 2)] (.p (str sS)) [] := by
  refine fun_go hC Tryz.func38 rfl rfl 23 rfl (by decide) (by kernel_rfl) fun _ _ _ _ _ => ?_
  (refine yS (yA rfl (yU (yP rfl (yq rfl (zqA zI ?_))))); refine And.intro (by show _ ≤ 9223372036854775807; first | (simp only [ByteArray.size_append]; decide) | decide) ?_)
  (refine yk (yP rfl (yn rfl (zqX zI ?_))); refine ⟨_, _, digits1, ?_⟩)
  (refine zkn rfl rfl (zst_p (yq rfl (zqA zI ?_))); refine And.intro (by show _ ≤ 9223372036854775807; first | (simp only [ByteArray.size_append]; decide) | decide) ?_)
  (refine yk (yq rfl (zqA zI ?_)); refine And.intro (by show _ ≤ 9223372036854775807; first | (simp only [ByteArray.size_append]; decide) | decide) ?_)
  (refine yk (yP rfl (yn rfl (zqX zI ?_))); refine ⟨_, _, digits2, ?_⟩)
  (refine zkn rfl rfl (zst_p (yq rfl (zqA zI ?_))); refine And.intro (by show _ ≤ 9223372036854775807; first | (simp only [ByteArray.size_append]; decide) | decide) ?_)
  (refine yk (yA rfl (yU (yP rfl (yq rfl (zqA zI ?_))))); refine And.intro (by show _ ≤ 9223372036854775807; first | (simp only [ByteArray.size_append]; decide) | decide) ?_)
  (refine yk (yP rfl (yn rfl (zqX zI ?_))); refine ⟨_, _, sign_sum, ?_⟩)
  (refine zkn rfl rfl (zst_p (yP rfl (yq rfl (zqA zI ?_)))); refine And.intro sum_size ?_)
  (refine yk (yA rfl (yR zi ?_)); refine And.intro ?_ trivial)
  exact congrArg (fun z => PV.im (Value.string z)) sum1
theorem house_Serial0 : ACalls C 25 [.pv (str sA), .pv (i64 1), .pv (i64 2)] (.tu [str sS, i64 0]) [] := by
  refine fun_go hC Tryz.func25 rfl rfl 23 rfl (by decide) (by kernel_rfl) fun _ _ _ _ _ => ?_
  have hw := house_isWord sA (by decide)
  rw [show wordB sA = true from by decide] at hw
  have h1 := house_within 1 0 999
  rw [show inR 1 0 999 = true from by decide] at h1
  have h2 := house_within 2 0 999
  rw [show inR 2 0 999 = true from by decide] at h2
  (refine yS (yA rfl (yA rfl (yT (zw_s (yS (yP rfl (yn rfl (zqX zI ?_)))))))); refine ⟨_, _, hw, ?_⟩)
  (refine zkn rfl rfl (zst_p (yP rfl (yT (zw_c rfl (zc_f (zw_k (zt_n (zw_s (yS (yP rfl (yn rfl (zqX zI ?_)))))))))))); refine ⟨_, _, h1, ?_⟩)
  (refine zkn rfl rfl (zst_p (yP rfl (yP rfl (y1 rfl (y2 rfl (zs_n rfl rfl rfl (zqX zI ?_))))))); refine ⟨_, _, h2, ?_⟩)
  ((refine zkn rfl rfl (zst_p (y1 rfl (yP rfl (yT (zw_c rfl (zc_f (zw_k (zt_n (yS (yP rfl (yP rfl (yP rfl (yn rfl ?_))))))))))))); refine zqX zI ?_); refine ⟨_, _, serial0, ?_⟩)
  (refine zkn rfl rfl (zst_p (yA rfl (yA rfl (yR zi ?_)))); refine And.intro ?_ trivial)
  rfl
theorem house_Read0 : ACalls C 24 [.pv (str s0)] (.tu [str ByteArray.empty, i64 0, i64 0, i64 15]) [] := by
  refine fun_go hC Tryz.func24 rfl rfl 73 rfl (by decide) (by kernel_rfl) fun _ _ _ _ _ => ?_
  have hw := house_isWord sA (by decide)
  rw [show wordB sA = true from by decide] at hw
  have hc := contains_calls signsB sD (by decide)
  rw [show Lib.contains signsB.data.toList sD.data.toList = true from by decide] at hc
  have h1 := three_of s1 1 rfl (by decide) (by decide)
  have h2 := three_of s2 2 rfl (by decide) (by decide)
  (refine yS (yA rfl (yA rfl (yA rfl (yA rfl (yU (yP rfl (yn rfl (zqX zI ?_)))))))); refine ⟨_, _, split0, ?_⟩)
  ((refine zkns (zst_ow (zo_n rfl (zs_ar rfl rfl rfl rfl rfl (yT (zw_s (yS (yq rfl (zq1 zI (zkq (zst_ow (yP rfl (yP rfl (yP rfl ?_))))))))))))); refine y2 rfl (zs_q rfl rfl (zq1 zI (zkq (zst_ow (y2 rfl (zs_q rfl rfl (zqA zI ?_)))))))); refine And.intro ⟨by decide, by decide⟩ ?_)
  (refine zkq (zst_rp (y2 rfl (zs_q rfl rfl (zqX zI ?_)))); refine ⟨[str sA], rfl, ?_⟩)
  (refine yk (y2 rfl (zs_n rfl rfl rfl (zqX zI ?_))); refine ⟨_, _, hw, ?_⟩)
  (refine zkn rfl rfl (zst_p (y1 rfl (yP rfl (yP rfl (y2 rfl (zs_q rfl rfl (zq1 zI (zkq (zst_ow (y2 rfl (zs_q rfl rfl (zqA zI ?_)))))))))))); refine And.intro ⟨by decide, by decide⟩ ?_)
  (refine zkq (zst_rp (y2 rfl (zs_q rfl rfl (zqX zI ?_)))); refine ⟨[str sD], rfl, ?_⟩)
  (refine yk (y1 rfl (y1 rfl (yP rfl (yP rfl (y2 rfl (zs_q rfl rfl (zq1 zI (zkq (zst_ow (y2 rfl (zs_q rfl rfl (zqA zI ?_)))))))))))); refine And.intro ⟨by decide, by decide⟩ ?_)
  (refine zkq (zst_rp (y2 rfl (zs_q rfl rfl (zqX zI ?_)))); refine ⟨[str sD], rfl, ?_⟩)
  (refine yk (y2 rfl (zs_n rfl rfl rfl (zqX zI ?_))); refine ⟨_, _, hc, ?_⟩)
  ((refine zkn rfl rfl (zst_p (y1 rfl (yP rfl (yT (zw_c rfl (zc_f (zw_k (zt_n (yS (yq rfl (zq1 zI (zkq (zst_ow ?_))))))))))))); refine yq rfl (zqA zI ?_)); refine And.intro ⟨by decide, by decide⟩ ?_)
  (refine zkq (zst_rp (yq rfl (zqX zI ?_))); refine ⟨[str s1], rfl, ?_⟩)
  (refine yk (yn rfl (zqX zI ?_)); refine ⟨_, _, h1, ?_⟩)
  ((refine zkn rfl rfl (zst_tu (yq rfl (zq1 zI (zkq (zst_tu (yP rfl (yP rfl (yA rfl (yA rfl (yU (yq rfl (zq1 zI (zkq ?_))))))))))))); refine zst_ow (yq rfl (zqA zI ?_))); refine And.intro ⟨by decide, by decide⟩ ?_)
  (refine zkq (zst_rp (yq rfl (zqX zI ?_))); refine ⟨[str s2], rfl, ?_⟩)
  (refine yk (yn rfl (zqX zI ?_)); refine ⟨_, _, h2, ?_⟩)
  ((refine zkn rfl rfl (zst_tu (yq rfl (zq1 zI (zkq (zst_tu (yP rfl (yP rfl (yA rfl (yA rfl (yT (zw_s (yS (yP rfl ?_))))))))))))); refine yP rfl (yP rfl (y1 rfl (y1 rfl (yP rfl (yT (zw_c rfl (zc_f (zw_k (zt_n (zw_s (zw_s (zw_d [] false [true, true, true, true, true, true, true, true, true, true, true] rfl (by kernel_rfl) (zp_s rfl ?_))))))))))))); refine zp_s rfl (zp_s rfl (zp_s rfl (zp_s rfl (zp_s rfl (zp_s rfl (zp_s rfl (zp_s rfl (zp_n rfl rfl (zp_q rfl (dq rfl (zq1 zI (zkd (zst_ow ?_))))))))))))); refine dq rfl (zqA zI ?_)); refine And.intro ⟨by decide, by decide⟩ ?_)
  (refine zkd (zst_rp (dq rfl (zqX zI ?_))); refine ⟨[str sD], rfl, ?_⟩)
  (refine zkd (zst_p (dq rfl (zqX zI ?_))); refine ⟨48, ⟨by decide, rfl⟩, ?_⟩)
  (refine zkd (zst_p (yD rfl (yD rfl (yD rfl (dq rfl (zqA zI ?_)))))); refine And.intro ⟨by decide, by decide⟩ ?_)
  (refine zkd (zst_p (dq rfl (zqA zI ?_))); refine And.intro ⟨by decide, by decide, by decide⟩ ?_)
  (refine zkd (zst_p (dq rfl (zqX zI ?_))); refine ⟨_, _, (sign_lit (s0.extract 0 9) (by kernel_rfl)), ?_⟩)
  ((refine zkd (zst_p (yD rfl (zd_0 (zr_q rfl (zt_n (zw_c rfl (zc_t (yS (yA rfl (yA rfl (yA rfl (yA rfl (yT ?_))))))))))))); refine zw_r (zt_r (ze_r zi ?_))); refine And.intro ?_ trivial)
  rfl
theorem reads_yes : ACalls C 11 [] (.p (bool true)) [] := by
  refine fun_go hC Tryz.func11 rfl rfl 43 rfl (by decide) (by kernel_rfl) fun _ _ _ _ _ => ?_
  have hp := prefix_calls sS sP
  rw [show Lib.hasPrefix sS.data.toList sP.data.toList = true from by kernel_rfl] at hp
  (refine yS (yA rfl (yU (yn rfl (zqX zI ?_)))); refine ⟨_, _, house_Read0, ?_⟩)
  ((refine zkn rfl rfl (zst_tu (yq rfl (zq1 zI (zkq (zst_tu (yP rfl (yP rfl (yP rfl (yP rfl (yA rfl (yA rfl (yA rfl (yA rfl ?_))))))))))))); refine yU (yn rfl (zqX zI ?_))); refine ⟨_, _, house_Serial0, ?_⟩)
  ((refine zkn rfl rfl (zst_tu (yq rfl (zq1 zI (zkq (zst_tu (yP rfl (yP rfl (yA rfl (yA rfl (yU (yP rfl (yP rfl (yP rfl ?_))))))))))))); refine y1 rfl (y2 rfl (zs_n rfl rfl rfl (zqX zI ?_)))); refine ⟨_, _, hp, ?_⟩)
  ((refine zkn rfl rfl (zst_p (yP rfl (yP rfl (y1 rfl (y1 rfl (y1 rfl (y0 rfl (y0 rfl (y0 rfl (zo_gu rfl rfl rfl rfl (zst_p (zo_gu rfl rfl rfl rfl (zst_p ?_))))))))))))); refine y0 rfl (y0 rfl (zo_gu rfl rfl rfl rfl (zst_p (zo_gu rfl rfl rfl rfl (zst_p (y0 rfl (y0 rfl (zo_gu rfl rfl rfl rfl (zst_p (zo_gu rfl rfl rfl rfl (zst_p (y0 rfl (y1 rfl ?_))))))))))))); refine yP rfl (yA rfl (yR zi ?_))); refine And.intro ?_ trivial)
  rfl
end Go.Proofs.YtngikpapepnkaaaGreatDoor.M
