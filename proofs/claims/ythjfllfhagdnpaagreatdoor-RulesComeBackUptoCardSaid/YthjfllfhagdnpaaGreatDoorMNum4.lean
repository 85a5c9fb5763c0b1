/- By the machine: words and numbers of lines, of both sides. -/
import Derived.Test.YthjfllfhagdnpaaGreatDoorMTextB
import Derived.Test.YthjfllfhagdnpaaGreatDoorPlainNum
import Derived.Lib.SmallJoins
set_option linter.unusedSimpArgs false
set_option linter.unusedVariables false
namespace Go.Proofs.YthjfllfhagdnpaaGreatDoor.M
open Go.AM Go.RowKit Go.Lib Go.Proofs.YthjfllfhagdnpaaGreatDoor.Num

def blankB : ByteArray := ⟨#[32]⟩
def minusB : ByteArray := ⟨#[45]⟩
/-- the pieces of a text -/
def wordsS (s : ByteArray) : List ByteArray := Lib.splitB blankB 0 (Lib.countB s blankB) s
theorem words_length (s : ByteArray) : (wordsS s).length = Lib.countB s blankB + 1 := Lib.splitB_all blankB (by decide) 0 _ s rfl
theorem words_le (s : ByteArray) : (wordsS s).length ≤ s.size + 1 := by
  rw [words_length]
  have := Lib.countB_le blankB (by decide) s.size s (Nat.le_refl _)
  omega
theorem split_blank (s : ByteArray) (hs : s.size < 4294967281) : ACalls C 178 [.pv (str s), .pv (str blankB)] (.own 9 ((wordsS s).map fun s => [str s])) [] := by
  have h := acalls_made hC (f := 178) [.string s, .string blankB] 9 ((wordsS s).map Value.string) _ rfl rfl (by simp [Value.oneCell']) (by rw [List.length_map]; have := words_le s; have : maxLen = 9223372036854775807 := rfl; omega) ⟨_, Tryz.func178, rfl, rfl⟩ fun S w hE _ => by
    obtain ⟨_, _, ⟨m, hm⟩, _⟩ := hE
    refine (Tryz.strings_Split s blankB m w hs hm (by decide)).mono fun _ _ ⟨h1, h2⟩ => ⟨?_, h2⟩
    rw [h1, List.length_map, words_length]
  rw [strs_map] at h
  exact h
def okWords (l : List ByteArray) : Bool := l.all rowB
def wordsA (s : ByteArray) : PV := if okWords (wordsS s) then strs (wordsS s) else .sl []
set_option maxRecDepth 100000 in
set_option maxHeartbeats 1000000 in
theorem ref3_words (s : ByteArray) (hs : s.size < 4294967281) : ACalls C 207 [.pv (str s)] (.tu [wordsA s, bool (okWords (wordsS s))]) [] := by
  refine fun_go hC Tryz.func207 rfl rfl 46 rfl (by decide) (by kernel_rfl) fun _ _ _ _ _ => ?_
  have lm := len_map (wordsS s) fun s => [str s]
  have pl := words_le s
  (refine yS (yB rfl (yA rfl (yU (yP rfl (yn rfl (zqX zI ?_)))))); refine ⟨_, _, (split_blank s hs), ?_⟩)
  refine zkns (zst_ow (zo_n rfl (zs_ar rfl rfl rfl rfl rfl (yT (zw_s (yS (yA rfl (yT (zw_b ?_)))))))))
  refine loop_ok' (fun i : Nat => i ≤ (wordsS s).length ∧ ((wordsS s).take i).all rowB = true) (fun i => [(4, .p (strs (wordsS s))), (5, .p (i64 i))]) (fun _ => []) (fun i => (wordsS s).length - i) 0 _ (SLe.own hC _ 4 rfl rfl) ⟨Nat.zero_le _, by simp⟩ ⟨rfl, rfl, trivial⟩ trivial fun i hi t h => ?_
  (refine zw_s (yS (yP rfl (yP rfl (yP rfl (yP rfl (yT (zw_c rfl ?_))))))); refine bcase_split (fun h1 => ?_) (fun h1 => ?_) <;> try simp only [zB] at h1)
  · rw [lm] at h1
    obtain ⟨x, hx⟩ := get_of (l := wordsS s) (i := i) (by omega)
    have hxs := splitB_size _ _ _ x (List.mem_of_getElem? hx)
    have hxl : x.data.toList.length = x.size := by simp
    have bad : rowB x = false → okWords (wordsS s) = false := fun hb => by
      rw [okWords, List.all_eq_false]
      exact ⟨x, List.mem_of_getElem? hx, by simp [hb]⟩
    (refine zw_k (zt_n (zw_s (zw_b (zw_s (yS (yP rfl (yP rfl (yq rfl (zqX zI ?_))))))))); refine ⟨[str x], (idx rfl hx), ?_⟩)
    (refine yk (yP rfl (yP rfl (yT (zw_c rfl ?_)))); refine bcase_split (fun h2 => ?_) (fun h2 => ?_) <;> try simp only [zB] at h2)
    · (refine yS (yB rfl (yA rfl (yT (zw_r (zt_r (zb_r (zt_r (zt_r (zb_r (zt_r (ze_r zi ?_))))))))))); refine And.intro ?_ trivial)
      have e : rowB x = false := by rw [rowB]; simp [show x = ByteArray.empty from h2]
      rw [wordsA, bad e]; rfl
    · refine zw_k (zt_n (yS (yA rfl (yT (zw_b ?_)))))
      refine loop_ok' (fun k : Nat => k ≤ x.size ∧ (x.data.toList.take k).all okR = true) (fun k => [(4, .p (strs (wordsS s))), (5, .p (i64 i)), (6, .p (i64 k))]) (fun _ => []) (fun k => x.size - k) 0 _ (SLe.refl _ _) ⟨Nat.zero_le _, by simp⟩ ⟨rfl, rfl, rfl, trivial⟩ trivial fun k hk t h => ?_
      (refine zw_s (yS (yP rfl (yP rfl (yP rfl (yq rfl (zqX zI ?_)))))); refine ⟨[str x], (idx rfl hx), ?_⟩)
      (refine yk (yP rfl (yP rfl (yP rfl (yT (zw_c rfl ?_))))); refine bcase_split (fun h3 => ?_) (fun h3 => ?_) <;> try simp only [zB] at h3)
      · obtain ⟨b, hb, hb'⟩ := byte_get (s := x) (i := k) (by omega)
        have badb : okR b = false → okWords (wordsS s) = false := fun hq => bad (by
          rw [rowB, Bool.and_eq_false_iff]
          refine .inr ?_
          rw [List.all_eq_false]
          exact ⟨b, List.mem_of_getElem? hb', by simp [hq]⟩)
        (refine zw_k (zt_n (zw_s (zw_b (yS (yP rfl (yP rfl (yq rfl (zqX zI ?_)))))))); refine ⟨[str x], (idx rfl hx), ?_⟩)
        (refine yk (yP rfl (yP rfl (yq rfl (zqX zI ?_)))); refine ⟨b, ⟨by omega, by rw [Int.toNat_natCast]; exact hb⟩, ?_⟩)
        (refine yk (yP rfl (yP rfl (yg rfl ?_))); refine bcase_split (fun h4 => ?_) (fun h4 => ?_) <;> try simp only [zB] at h4)
        · ((refine zg_f (zst_p (y0 rfl (y0 rfl (y0 rfl (y0 rfl (y0 rfl (y0 rfl (yP rfl (yT (zw_c rfl (zc_t (yS (yB rfl ?_))))))))))))); refine yA rfl (yT (zw_r (zb_r (zt_r (zt_r (zb_r (zb_r (zt_r (zt_r (zb_r (zt_r (ze_r zi ?_))))))))))))); refine And.intro ?_ trivial)
          rw [wordsA, badb (by simp [okR]; omega)]; rfl
        · (refine zg_t (zs_q rfl rfl (zq1 zI (yk (y1 rfl (y2 rfl (zs_q rfl rfl (zqX zI ?_))))))); refine ⟨[str x], (idx rfl hx), ?_⟩)
          (refine yk (y1 rfl (y1 rfl (y2 rfl (zs_q rfl rfl (zqX zI ?_))))); refine ⟨b, ⟨by omega, by rw [Int.toNat_natCast]; exact hb⟩, ?_⟩)
          (refine yk (y1 rfl (yP rfl (yT (zw_c rfl ?_)))); refine bcase_split (fun h5 => ?_) (fun h5 => ?_) <;> try simp only [zB] at h5)
          · ((refine yS (yB rfl (yA rfl (yT (zw_r (zb_r (zt_r (zt_r (zb_r (zb_r (zt_r (zt_r (zb_r (zt_r ?_))))))))))))); refine ze_r zi ?_); refine And.intro ?_ trivial)
            rw [wordsA, badb (by simp [okR]; omega)]; rfl
          · (refine zw_k (zb_n (zt_n (zw_o (yP rfl (yq rfl (zqA zI ?_)))))); refine And.intro ⟨by omega, by omega⟩ ?_)
            (refine yk (yA rfl (yT (zaf_raw ?_))); refine ⟨(k + 1), _, SLe.refl _ _, ?_⟩)
            refine ⟨⟨by omega, ?_⟩, by omega, ⟨rfl, rfl, rfl, trivial⟩, trivial⟩
            rw [take_succ' hb', List.all_append, hk.2]
            simp [okR]
            omega
      · (refine zw_x (zt_x (zt_x (zb_h (zb_n (zt_n (zw_o (yP rfl (yq rfl (zqA zI ?_))))))))); refine And.intro ⟨by omega, by omega⟩ ?_)
        (refine yk (yA rfl (yT (zaf_raw ?_))); refine ⟨(i + 1), _, SLe.refl _ _, ?_⟩)
        refine ⟨⟨by omega, ?_⟩, by omega, ⟨rfl, rfl, trivial⟩, trivial⟩
        rw [take_succ' hx, List.all_append, hi.2]
        have hall := hk.2
        rw [List.take_of_length_le (by omega)] at hall
        have hne : ¬ x = ByteArray.empty := h2
        simp [rowB, hall, hne]
  · rw [lm] at h1
    have hall := hi.2
    rw [List.take_of_length_le (by omega)] at hall
    (refine zw_x (zt_x (zt_x (zb_h (zt_n (yS (yP rfl (yA rfl (yA rfl (yR zi ?_))))))))); refine And.intro ?_ trivial)
    rw [wordsA, okWords, hall]; rfl
theorem pred_bad (w : World) : PredAt Tryz.prog 267 #[] encR badR w := fun W r _ => by
  unfold FnGives
  by_cases h1 : (r : Int) < 33
  · have e : badR r = true := by simp [badR]; omega
    rw [e]
    go_enter Tryz.func267, Tryz.ntmps267
    go_wp2
    go_ret
    exact ⟨rfl, 0, rfl⟩
  · by_cases h2 : (r : Int) > 126
    · have e : badR r = true := by simp [badR]; omega
      rw [e]
      go_enter Tryz.func267, Tryz.ntmps267
      go_wp2
      go_ret
      exact ⟨rfl, 0, rfl⟩
    · have e : badR r = false := by simp [badR]; omega
      rw [e]
      go_enter Tryz.func267, Tryz.ntmps267
      go_wp2
      go_ret
      exact ⟨rfl, 0, rfl⟩
theorem contains_bad (s : ByteArray) : ACalls C 266 [.pv (str s), .pv (.im (.func (.func 267) #[] #[]))] (.p (bool (!s.data.toList.all okR))) [] := by
  rw [← idx_row]
  exact acalls_im [.string s, .func (.func 267) #[] #[]] (.bool (decide (0 ≤ Lib.idxFunc badR true s))) ⟨_, Tryz.func266, by decide, rfl⟩ fun S w hE hS =>
    Tryz.strings_ContainsFunc_laid 267 #[] (enters_of Tryz.func267 (by kernel_rfl) rfl) badR s w (pred_bad w)
theorem house_isRow (s : ByteArray) : ACalls C 204 [.pv (str s)] (.p (bool (rowB s))) [] := by
  refine fun_go hC Tryz.func204 rfl rfl 10 rfl (by decide) (by kernel_rfl) fun _ _ _ _ _ => ?_
  (refine yS (yA rfl (yU (yP rfl (yP rfl (yP rfl (yg rfl ?_)))))); refine bcase_split (fun h1 => ?_) (fun h1 => ?_) <;> try simp only [zB] at h1)
  · (refine zg_t (zs_q rfl rfl (zq1 zI (yk (y2 rfl (zs_n rfl rfl rfl (zqX zI ?_)))))); refine ⟨_, _, (contains_bad s), ?_⟩)
    (refine zkn rfl rfl (zst_p (y1 rfl (yP rfl (yA rfl (yR zi ?_))))); refine And.intro ?_ trivial)
    have hne : ¬ s = ByteArray.empty := h1
    simp [rowB, hne, bool]
  · (refine zg_f (zst_p (y0 rfl (y0 rfl (yP rfl (yA rfl (yR zi ?_)))))); refine And.intro ?_ trivial)
    have e : s = ByteArray.empty := by first | exact h1 | exact Classical.not_not.1 h1
    simp [rowB, e, bool]
end Go.Proofs.YthjfllfhagdnpaaGreatDoor.M
namespace Go.Proofs.YthjfllfhagdnpaaGreatDoor.M
open Go.AM Go.RowKit Go.Lib Go.Proofs.YthjfllfhagdnpaaGreatDoor.Num

/-- plain values in, several plain values out -/
theorem acalls_tu {f : FuncId} (us rs : List Value) (hf : ∃ fn : Func, C.P.funcs[f]? = some fn ∧ (fn.name == "runtime.NumGoroutine") = false ∧ fn.body.isNone = false) (h : ∀ S w, C.E S w → (∀ b, S b → b < w.heap.size) → Calls C.P f us.toArray w fun e w' => e = .returned (.tuple rs.toArray) ∧ Below w.heap.size w w') :
    ACalls C f (us.map fun a => .pv (.im a)) (.tu (rs.map .im)) [] := by
  refine ⟨hf, fun S w vs hE hS hl hr _ => ?_⟩
  have hvs := args_im hl hr
  subst hvs
  exact (h S w hE hS).mono fun e w' ⟨he, hb⟩ => ⟨.tuple rs.toArray, S, he, ⟨hb.os, hb.tape, hb.output, hb.size, fun k hk _ => hb.block k hk⟩, fun _ h => h, fun b hb' => Nat.lt_of_lt_of_le (hS b hb') hb.size, fun b hb' => .inl hb', ⟨rs.toArray, rfl, by simp, fun i x u h1 h2 => by
    rw [List.getElem?_map, Option.map_eq_some_iff] at h1
    obtain ⟨y, hy, rfl⟩ := h1
    have : rs[i]? = some u := by simpa using h2
    rw [hy] at this
    cases this
    exact .im _⟩, fin_im us, finok_im us, fun g h => by cases h⟩
theorem atoi_calls (s : ByteArray) (h : numB s = true) : ACalls C 332 [.pv (str s)] (.tu [i64 (numV s), .im .nilIface]) [] :=
  acalls_tu [.string s] [.int .i64 (numV s), .nilIface] ⟨_, Tryz.func332, by decide, rfl⟩ fun S w hE hS => by
    refine (Tryz.strconv_Atoi s (numV s) (by have := (atoi_of h).2; omega) (atoi_of h).1 w).mono ?_
    rintro e w' ⟨rfl, t, rfl⟩
    exact ⟨rfl, Joins.below_bytesWorld _ _ _ _ (Nat.le_refl _)⟩
/-- a text cut at its first line end -/
def nlB : ByteArray := ⟨#[10]⟩
def cutA (s : ByteArray) : ByteArray := ⟨(Lib.cut s.data.toList [10]).1.toArray⟩
def cutZ (s : ByteArray) : ByteArray := ⟨(Lib.cut s.data.toList [10]).2.1.toArray⟩
def cutB (s : ByteArray) : Bool := (Lib.cut s.data.toList [10]).2.2
theorem cut_calls (s : ByteArray) (hs : s.size < 4294967281) : ACalls C 111 [.pv (str s), .pv (str nlB)] (.tu [str (cutA s), str (cutZ s), bool (cutB s)]) [] :=
  acalls_tu [.string s, .string nlB] [.string (cutA s), .string (cutZ s), .bool (cutB s)] ⟨_, Tryz.func111, by decide, rfl⟩ fun S w hE hS => by
    obtain ⟨_, _, ⟨m, hm⟩, _⟩ := hE
    refine (Tryz.strings_Cut s nlB m w hs hm).mono ?_
    rintro e w' ⟨rfl, n, rfl⟩
    exact ⟨rfl, ⟨rfl, rfl, rfl, Nat.le_refl _, fun _ _ => rfl⟩⟩
/-- what a text's number is, or 0 -/
def numW (s : ByteArray) : Int := if numB s then numV s else 0
def numsA (l : List ByteArray) : PV := if l.all numB then ints (l.map numV) else .sl []
theorem ext_list {a b : ByteArray} (h : a.data.toList = b.data.toList) : a = b := by
  cases a; cases b
  congr 1
  exact Array.ext' h
theorem extract_list (s : ByteArray) (a b : Nat) : (s.extract a b).data.toList = (s.data.toList.take b).drop a := by
  simp [List.drop_take]
theorem has_minus (s : ByteArray) (hs : s.size ≤ 9223372036854775807) : ACalls C 390 [.pv (str s), .pv (str minusB)] (.p (bool (mnB s))) [] := by
  refine fun_go hC Tryz.func390 rfl rfl 18 rfl (by decide) (by kernel_rfl) fun _ _ _ _ _ => ?_
  have hsz : s.data.toList.length = s.size := by simp
  (refine yS (yA rfl (yU (yP rfl (yP rfl (yP rfl (yP rfl (yP rfl (yP rfl (yg rfl ?_))))))))); refine bcase_split (fun h1 => ?_) (fun h1 => ?_) <;> try simp only [zB] at h1)
  · have h1 : 1 ≤ s.size := by have : (1 : Int) ≤ s.size := h1; omega
    (refine zg_t (zs_q rfl rfl (zq1 zI (yk (y1 rfl (y1 rfl (y2 rfl (zs_q rfl rfl (zqA zI ?_)))))))); refine And.intro ⟨by decide, by decide, (show (1 : Int) ≤ s.size by omega)⟩ ?_)
    (refine yk (y1 rfl (y1 rfl (yP rfl (yA rfl (yR zi ?_))))); refine And.intro ?_ trivial)
    have e : (s.extract 0 1 = minusB) ↔ mnB s = true := by
      unfold mnB
      cases hl : s.data.toList with
      | nil => rw [hl] at hsz; simp at hsz; omega
      | cons b r =>
        constructor
        · intro h
          have := congrArg (fun z : ByteArray => z.data.toList) h
          simp only [extract_list, hl] at this
          simp [minusB] at this
          simp [this]
        · intro h
          have hb : b = 45 := by simpa using h
          apply ext_list
          rw [extract_list, hl, hb]
          rfl
    show PV.im (.bool (decide (s.extract 0 1 = minusB))) = _
    congr 2
    rw [Bool.eq_iff_iff, decide_eq_true_eq]
    exact e
  · have h1 : s.size = 0 := by have : ¬ (1 : Int) ≤ s.size := h1; omega
    (refine zg_f (zst_p (y0 rfl (y0 rfl (y0 rfl (y0 rfl (y0 rfl (yP rfl (yA rfl (yR zi ?_))))))))); refine And.intro ?_ trivial)
    have : s.data.toList = [] := List.eq_nil_of_length_eq_zero (by omega)
    simp [bool, mnB, this]
theorem cut_minus (s : ByteArray) (hs : s.size ≤ 9223372036854775807) : ACalls C 376 [.pv (str s), .pv (str minusB)] (.tu [str (ofL (dl s)), bool (mnB s)]) [] := by
  refine fun_go hC Tryz.func376 rfl rfl 15 rfl (by decide) (by kernel_rfl) fun _ _ _ _ _ => ?_
  have hsz : s.data.toList.length = s.size := by simp
  (refine yS (yA rfl (yA rfl (yT (zw_s (yS (yP rfl (yP rfl (yn rfl (zqX zI ?_))))))))); refine ⟨_, _, (has_minus s hs), ?_⟩)
  (refine zkn rfl rfl (zst_p (yP rfl (yT (zw_c rfl ?_)))); refine bcase_split (fun h1 => ?_) (fun h1 => ?_) <;> try simp only [zB] at h1)
  · (refine yS (yP rfl (yA rfl (yA rfl (yT (zw_r (zt_r (ze_r zi ?_))))))); refine And.intro ?_ trivial)
    rw [h1, dl_plain h1]
    rfl
  · have e := dl_minus h1
    have h2 : 1 ≤ s.size := by rw [e] at hsz; simp at hsz; omega
    (refine zw_k (zt_n (yS (yP rfl (yP rfl (yP rfl (yq rfl (zqA zI ?_))))))); refine And.intro ⟨by decide, (show (1 : Int) ≤ s.size by omega), by omega⟩ ?_)
    (refine yk (yA rfl (yA rfl (yR zi ?_))); refine And.intro ?_ trivial)
    rw [h1]
    have : s.extract 1 s.size = ofL (dl s) := by
      apply ext_list
      rw [extract_list, ofL_list, List.take_of_length_le (by omega), e]
      rfl
    show [str (s.extract 1 s.size), _] = _
    rw [this]
    rfl
theorem cut_minus' (s : ByteArray) (hs : s.size ≤ 9223372036854775807) : ACalls C 333 [.pv (str s), .pv (str minusB)] (.tu [str (ofL (dl s)), bool (mnB s)]) [] := by
  refine fun_go hC Tryz.func333 rfl rfl 11 rfl (by decide) (by kernel_rfl) fun _ _ _ _ _ => ?_
  (refine yS (yA rfl (yA rfl (yU (yP rfl (yP rfl (yn rfl (zqX zI ?_))))))); refine ⟨_, _, (cut_minus s hs), ?_⟩)
  (refine zkn rfl rfl (zst_tu (yP rfl (yP rfl (yA rfl (yA rfl (yR zi ?_)))))); refine And.intro ?_ trivial)
  rfl
theorem trim_minus (s : ByteArray) : ACalls C 330 [.pv (str s), .pv (str minusB)] (.p (str (ofL (dl s)))) [] :=
  acalls_im [.string s, .string minusB] (.string (ofL (dl s))) ⟨_, Tryz.func330, by decide, rfl⟩ fun S w hE hS => by
    refine (Tryz.strings_TrimPrefix s minusB w).mono ?_
    rintro e w' ⟨rfl, rfl⟩
    exact ⟨rfl, Below.refl _ _⟩
end Go.Proofs.YthjfllfhagdnpaaGreatDoor.M
namespace Go.Proofs.YthjfllfhagdnpaaGreatDoor.M
open Go.AM Go.RowKit Go.Lib Go.Proofs.YthjfllfhagdnpaaGreatDoor.Num

theorem ref3_within (n lo hi : Int) : ACalls C 334 [.pv (i64 n), .pv (i64 lo), .pv (i64 hi)] (.p (bool (decide (lo ≤ n) && decide (n ≤ hi)))) [] := by
  refine fun_go hC Tryz.func334 rfl rfl 15 rfl (by decide) (by kernel_rfl) fun _ _ _ _ _ => ?_
  (refine yS (yA rfl (yU (yP rfl (yP rfl (yP rfl (yP rfl (yg rfl ?_))))))); refine bcase_split (fun h => ?_) (fun h => ?_) <;> try simp only [zB] at h) <;> ((first | (refine zg_t (zs_q rfl rfl (zq1 zI (yk (y1 rfl (y1 rfl (yP rfl (yA rfl (yR zi ?_))))))))) | (refine zg_f (zst_p (y0 rfl (y0 rfl (yP rfl (yA rfl (yR zi ?_)))))))); refine And.intro ?_ trivial) <;> simp [bool, h]
def digsB : ByteArray := ⟨#[48, 49, 50, 51, 52, 53, 54, 55, 56, 57]⟩
def trimA (s : ByteArray) : ByteArray := ⟨(Lib.trimS s.data.toList digs).toArray⟩
theorem trim_calls (s : ByteArray) (hs : s.size ≤ 9223372036854775807) : ACalls C 331 [.pv (str s), .pv (str digsB)] (.p (str (trimA s))) [] :=
  acalls_im [.string s, .string digsB] (.string (trimA s)) ⟨_, Tryz.func331, by decide, rfl⟩ fun S w hE hS => by
    refine (Tryz.strings_Trim_laid (by kernel_rfl) s digsB w hs (by decide) (fun j b h => ?_)).mono ?_
    · have hm := List.mem_of_getElem? h
      have : b ∈ digs := hm
      simp [digs] at this
      rcases this with h | h | h | h | h | h | h | h | h | h <;> subst h <;> decide
    · rintro e w' ⟨rfl, hb⟩
      exact ⟨rfl, hb⟩
theorem trim_none (l : List UInt8) : trimA (ofL l) = ByteArray.empty ↔ l.all digB = true := by
  rw [← trim_digs]
  constructor
  · intro h
    have := congrArg (fun z : ByteArray => z.data.toList) h
    simpa [trimA, ofL] using this
  · intro h
    show (⟨(Lib.trimS (ofL l).data.toList digs).toArray⟩ : ByteArray) = _
    rw [ofL_list, h]
    rfl
theorem numB_len {s : ByteArray} (h : ¬ (1 ≤ (dl s).length ∧ (dl s).length ≤ 9)) : numB s = false := by
  rw [numB, Bool.and_eq_false_iff]
  refine .inl ?_
  rw [Bool.and_eq_false_iff, decide_eq_false_iff_not, decide_eq_false_iff_not]
  omega
theorem numB_dig {s : ByteArray} (h : (dl s).all digB = false) : numB s = false := by
  rw [numB, h, Bool.false_and, Bool.and_false]
theorem numB_zero {s : ByteArray} (h : (dl s).head? = some 48) (h2 : 1 < (dl s).length ∨ mnB s = true) : numB s = false := by
  rw [numB, h]
  have : (decide (1 < (dl s).length) || mnB s) = true := by
    rcases h2 with h | h
    · simp [h]
    · simp [h]
  rw [this]
  simp
theorem numB_yes {s : ByteArray} (h1 : 1 ≤ (dl s).length) (h2 : (dl s).length ≤ 9) (h3 : (dl s).all digB = true) (h4 : ¬ ((dl s).head? = some 48 ∧ (1 < (dl s).length ∨ mnB s = true))) : numB s = true := by
  rw [numB, h3]
  simp only [h1, h2, decide_true, Bool.true_and, Bool.not_eq_true', Bool.and_eq_false_iff]
  by_cases h5 : (dl s).head? = some 48
  · refine .inr ?_
    rw [Bool.or_eq_false_iff, decide_eq_false_iff_not]
    exact ⟨fun h => h4 ⟨h5, .inl h⟩, by cases h : mnB s with | false => rfl | true => exact (h4 ⟨h5, .inr h⟩).elim⟩
  · exact .inl (by simpa using h5)
theorem num_no {s : ByteArray} (h : numB s = false) : [i64 0, bool false] = [i64 (numW s), bool (numB s)] := by
  rw [numW, h]; rfl
set_option maxRecDepth 100000 in
set_option maxHeartbeats 1000000 in
theorem ref3_number (s : ByteArray) (hs : s.size < 4294967281) : ACalls C 269 [.pv (str s)] (.tu [i64 (numW s), bool (numB s)]) [] := by
  refine fun_go hC Tryz.func269 rfl rfl 53 rfl (by decide) (by kernel_rfl) fun _ _ _ _ _ => ?_
  have hz : (ofL (dl s)).size = (dl s).length := ofL_size _
  have hdl := dl_le s
  have hk : (ofL (dl s)).data.toList = dl s := rfl
  (refine yS (yA rfl (yA rfl (yU (yP rfl (yn rfl (zqX zI ?_)))))); refine ⟨_, _, (cut_minus' s (by omega)), ?_⟩)
  ((refine zkn rfl rfl (zst_tu (yq rfl (zq1 zI (zkq (zst_tu (yP rfl (yP rfl (yA rfl (yA rfl (yT (zw_s (yS (yP rfl ?_))))))))))))); refine yP rfl (yn rfl (zqX zI ?_))); refine ⟨_, _, (ref3_within ((ofL (dl s)).size : Int) 1 9), ?_⟩)
  have loop : ∀ (h1 : 1 ≤ (dl s).length) (h2 : (dl s).length ≤ 9), True := fun _ _ => trivial
  have yes : 1 ≤ (dl s).length → (dl s).length ≤ 9 → ¬ ((dl s).head? = some 48 ∧ (1 < (dl s).length ∨ mnB s = true)) → ∀ i, ¬ i < (dl s).length → ((dl s).take i).all digB = true → numB s = true := fun h1 h2 h4 i hi ha => numB_yes h1 h2 (by rwa [List.take_of_length_le (by omega)] at ha) h4
  have badd : ∀ {i : Nat} {b : UInt8}, (dl s)[i]? = some b → digB b = false → numB s = false := fun hb hd => numB_dig (by
    rw [List.all_eq_false]
    exact ⟨_, List.mem_of_getElem? hb, by simp [hd]⟩)
  (refine zkn rfl rfl (zst_p (yP rfl (yP rfl (yg rfl ?_)))); refine bcase_split (fun h1 => ?_) (fun h1 => ?_) <;> try simp only [zB] at h1)
  · ((refine zg_f (zst_p (y0 rfl (y0 rfl (y0 rfl (zo_gu rfl rfl rfl rfl (zst_p (zo_gu rfl rfl rfl rfl (zst_p (zo_gu rfl rfl rfl rfl (zst_p (zo_gu rfl rfl rfl rfl (zst_p (zo_gu rfl rfl rfl rfl ?_))))))))))))); refine zst_p (zo_gu rfl rfl rfl rfl (zst_p (y0 rfl (yP rfl (yT (zw_c rfl (zc_t (yS (yA rfl (yA rfl (yT (zw_r (zt_r ?_))))))))))))); refine ze_r zi ?_); refine And.intro ?_ trivial)
    exact num_no (numB_len (by simp at h1; omega))
  · simp at h1
    have g1 : 1 ≤ (dl s).length := by omega
    have g2 : (dl s).length ≤ 9 := by omega
    obtain ⟨b, hb, hb'⟩ := byte_get (s := ofL (dl s)) (i := 0) (by omega)
    rw [hk] at hb'
    have hhead : (dl s).head? = some b := by rw [List.head?_eq_getElem?]; exact hb'
    (refine zg_t (zs_q rfl rfl (zq1 zI (yk (y2 rfl (zs_q rfl rfl (zqX zI ?_)))))); refine ⟨b, ⟨by decide, hb⟩, ?_⟩)
    (refine yk (y1 rfl (y1 rfl (yg rfl ?_))); refine bcase_split (fun h2 => ?_) (fun h2 => ?_) <;> try simp only [zB] at h2)
    · have h48 : b = 48 := by
        apply UInt8.toNat_inj.1
        have : (b.toNat : Int) = 48 := h2
        show b.toNat = 48
        omega
      rw [h48] at hhead
      (refine zg_t (zs_q rfl rfl (zq1 zI (yk (y1 rfl (y1 rfl (y1 rfl (yg rfl ?_))))))); refine bcase_split (fun h3 => ?_) (fun h3 => ?_) <;> try simp only [zB] at h3)
      · ((refine zg_f (zst_p (y1 rfl (y1 rfl (yP rfl (yT (zw_c rfl (zc_t (yS (yA rfl (yA rfl (yT (zw_r (zt_r ?_))))))))))))); refine ze_r zi ?_); refine And.intro ?_ trivial)
        exact num_no (numB_zero hhead (.inl (by have : (1 : Int) < (ofL (dl s)).size := h3; omega)))
      · (refine zg_t (zs_q rfl rfl (zq1 zI (yk (y1 rfl (y1 rfl (yP rfl (yT (zw_c rfl ?_)))))))); refine bcase_split (fun h4 => ?_) (fun h4 => ?_) <;> try simp only [zB] at h4)
        · (refine yS (yA rfl (yA rfl (yT (zw_r (zt_r (ze_r zi ?_)))))); refine And.intro ?_ trivial)
          exact num_no (numB_zero hhead (.inr h4))
        · have nz : ¬ ((dl s).head? = some 48 ∧ (1 < (dl s).length ∨ mnB s = true)) := fun h => by
            rcases h.2 with h | h
            · have : ¬ (1 : Int) < (ofL (dl s)).size := h3; omega
            · rw [h4] at h; cases h
          refine zw_k (zt_n (zw_s (yS (yA rfl (yT (zw_b ?_))))))
          refine loop_ok' (fun i : Nat => i ≤ (dl s).length ∧ ((dl s).take i).all digB = true) (fun i => [(0, .p (str s)), (4, .p (str (ofL (dl s)))), (6, .p (i64 i))]) (fun _ => []) (fun i => (dl s).length - i) 0 _ (SLe.refl _ _) ⟨Nat.zero_le _, by simp⟩ ⟨rfl, rfl, rfl, trivial⟩ trivial fun i hi t h => ?_
          (refine zw_s (yS (yP rfl (yP rfl (yP rfl (yP rfl (yT (zw_c rfl ?_))))))); refine bcase_split (fun h5 => ?_) (fun h5 => ?_) <;> try simp only [zB] at h5)
          · have h5 : (i : Int) < (ofL (dl s)).size := h5
            obtain ⟨c, hc, hc'⟩ := byte_get (s := ofL (dl s)) (i := i) (by omega)
            rw [hk] at hc'
            (refine zw_k (zt_n (zw_s (zw_b (yS (yP rfl (yP rfl (yq rfl (zqX zI ?_)))))))); refine ⟨c, ⟨by omega, by rw [Int.toNat_natCast]; exact hc⟩, ?_⟩)
            (refine yk (yP rfl (yP rfl (yg rfl ?_))); refine bcase_split (fun h6 => ?_) (fun h6 => ?_) <;> try simp only [zB] at h6)
            · ((refine zg_f (zst_p (y0 rfl (y0 rfl (y0 rfl (yP rfl (yT (zw_c rfl (zc_t (yS (yA rfl (yA rfl (yT (zw_r ?_))))))))))))); refine zb_r (zt_r (zt_r (zb_r (zt_r (ze_r zi ?_)))))); refine And.intro ?_ trivial)
              exact num_no (badd hc' (by simp [digB]; omega))
            · (refine zg_t (zs_q rfl rfl (zq1 zI (yk (y1 rfl (y2 rfl (zs_q rfl rfl (zqX zI ?_))))))); refine ⟨c, ⟨by omega, by rw [Int.toNat_natCast]; exact hc⟩, ?_⟩)
              (refine yk (y1 rfl (yP rfl (yT (zw_c rfl ?_)))); refine bcase_split (fun h7 => ?_) (fun h7 => ?_) <;> try simp only [zB] at h7)
              · (refine yS (yA rfl (yA rfl (yT (zw_r (zb_r (zt_r (zt_r (zb_r (zt_r (ze_r zi ?_)))))))))); refine And.intro ?_ trivial)
                exact num_no (badd hc' (by simp [digB]; omega))
              · (refine zw_k (zb_n (zt_n (zw_o (yP rfl (yq rfl (zqA zI ?_)))))); refine And.intro ⟨by omega, by omega⟩ ?_)
                (refine yk (yA rfl (yT (zaf_raw ?_))); refine ⟨(i + 1), _, SLe.refl _ _, ?_⟩)
                refine ⟨⟨by omega, ?_⟩, by omega, ⟨rfl, rfl, rfl, trivial⟩, trivial⟩
                rw [take_succ' hc', List.all_append, hi.2]
                simp [digB]
                omega
          · have h5 : ¬ (i : Int) < (ofL (dl s)).size := h5
            have hy := yes g1 g2 nz i (by omega) hi.2
            (refine zw_x (zt_x (zt_x (zb_h (zt_n (yS (yP rfl (yn rfl (zqX zI ?_)))))))); refine ⟨_, _, (atoi_calls s hy), ?_⟩)
            ((refine zkn rfl rfl (zst_tu (yq rfl (zq1 zI (zkq (zst_tu (yP rfl (yP rfl (yA rfl (yA rfl (yU (yP rfl (yA rfl (yA rfl ?_))))))))))))); refine yR zi ?_); refine And.intro ?_ trivial)
            rw [numW, hy]; rfl
    · have nz : ¬ ((dl s).head? = some 48 ∧ (1 < (dl s).length ∨ mnB s = true)) := fun h => by
        rw [hhead] at h
        have := h.1
        injection this with this
        subst this
        exact h2 rfl
      (refine zg_f (zst_p (y0 rfl (y0 rfl (y0 rfl (zo_gu rfl rfl rfl rfl (zst_p (y0 rfl (y1 rfl (yP rfl (yT (zw_c rfl (zc_f (zw_k ?_))))))))))))); refine zt_n (zw_s (yS (yA rfl (yT (zw_b ?_))))))
      refine loop_ok' (fun i : Nat => i ≤ (dl s).length ∧ ((dl s).take i).all digB = true) (fun i => [(0, .p (str s)), (4, .p (str (ofL (dl s)))), (6, .p (i64 i))]) (fun _ => []) (fun i => (dl s).length - i) 0 _ (SLe.refl _ _) ⟨Nat.zero_le _, by simp⟩ ⟨rfl, rfl, rfl, trivial⟩ trivial fun i hi t h => ?_
      (refine zw_s (yS (yP rfl (yP rfl (yP rfl (yP rfl (yT (zw_c rfl ?_))))))); refine bcase_split (fun h5 => ?_) (fun h5 => ?_) <;> try simp only [zB] at h5)
      · have h5 : (i : Int) < (ofL (dl s)).size := h5
        obtain ⟨c, hc, hc'⟩ := byte_get (s := ofL (dl s)) (i := i) (by omega)
        rw [hk] at hc'
        (refine zw_k (zt_n (zw_s (zw_b (yS (yP rfl (yP rfl (yq rfl (zqX zI ?_)))))))); refine ⟨c, ⟨by omega, by rw [Int.toNat_natCast]; exact hc⟩, ?_⟩)
        (refine yk (yP rfl (yP rfl (yg rfl ?_))); refine bcase_split (fun h6 => ?_) (fun h6 => ?_) <;> try simp only [zB] at h6)
        · ((refine zg_f (zst_p (y0 rfl (y0 rfl (y0 rfl (yP rfl (yT (zw_c rfl (zc_t (yS (yA rfl (yA rfl (yT (zw_r ?_))))))))))))); refine zb_r (zt_r (zt_r (zb_r (zt_r (ze_r zi ?_)))))); refine And.intro ?_ trivial)
          exact num_no (badd hc' (by simp [digB]; omega))
        · (refine zg_t (zs_q rfl rfl (zq1 zI (yk (y1 rfl (y2 rfl (zs_q rfl rfl (zqX zI ?_))))))); refine ⟨c, ⟨by omega, by rw [Int.toNat_natCast]; exact hc⟩, ?_⟩)
          (refine yk (y1 rfl (yP rfl (yT (zw_c rfl ?_)))); refine bcase_split (fun h7 => ?_) (fun h7 => ?_) <;> try simp only [zB] at h7)
          · (refine yS (yA rfl (yA rfl (yT (zw_r (zb_r (zt_r (zt_r (zb_r (zt_r (ze_r zi ?_)))))))))); refine And.intro ?_ trivial)
            exact num_no (badd hc' (by simp [digB]; omega))
          · (refine zw_k (zb_n (zt_n (zw_o (yP rfl (yq rfl (zqA zI ?_)))))); refine And.intro ⟨by omega, by omega⟩ ?_)
            (refine yk (yA rfl (yT (zaf_raw ?_))); refine ⟨(i + 1), _, SLe.refl _ _, ?_⟩)
            refine ⟨⟨by omega, ?_⟩, by omega, ⟨rfl, rfl, rfl, trivial⟩, trivial⟩
            rw [take_succ' hc', List.all_append, hi.2]
            simp [digB]
            omega
      · have h5 : ¬ (i : Int) < (ofL (dl s)).size := h5
        have hy := yes g1 g2 nz i (by omega) hi.2
        (refine zw_x (zt_x (zt_x (zb_h (zt_n (yS (yP rfl (yn rfl (zqX zI ?_)))))))); refine ⟨_, _, (atoi_calls s hy), ?_⟩)
        ((refine zkn rfl rfl (zst_tu (yq rfl (zq1 zI (zkq (zst_tu (yP rfl (yP rfl (yA rfl (yA rfl (yU (yP rfl (yA rfl (yA rfl ?_))))))))))))); refine yR zi ?_); refine And.intro ?_ trivial)
        rw [numW, hy]; rfl
theorem eq_zero {s : ByteArray} (h : (dl s).head? = some 48) : s = ⟨#[48]⟩ ↔ ¬ (1 < (dl s).length ∨ mnB s = true) := by
  constructor
  · intro e
    subst e
    decide
  · intro hn
    have hm : mnB s = false := by cases e : mnB s with | false => rfl | true => exact (hn (.inr e)).elim
    apply ext_list
    rw [← dl_plain hm]
    cases e : dl s with
    | nil => rw [e] at h; cases h
    | cons a r =>
      rw [e] at h hn
      injection h with h
      subst h
      cases r with
      | nil => rfl
      | cons c r => exact (hn (.inl (by simp))).elim
set_option maxRecDepth 100000 in
set_option maxHeartbeats 1000000 in
theorem house_number (s : ByteArray) (hs : s.size < 4294967281) : ACalls C 268 [.pv (str s)] (.tu [i64 (numW s), bool (numB s)]) [] := by
  refine fun_go hC Tryz.func268 rfl rfl 37 rfl (by decide) (by kernel_rfl) fun _ _ _ _ _ => ?_
  have hz : (ofL (dl s)).size = (dl s).length := ofL_size _
  have hdl := dl_le s
  have hk : (ofL (dl s)).data.toList = dl s := rfl
  (refine yS (yA rfl (yA rfl (yU (yP rfl (yn rfl (zqX zI ?_)))))); refine ⟨_, _, (trim_minus s), ?_⟩)
  (refine zkn rfl rfl (zst_p (yA rfl (yT (zw_s (yS (yP rfl (yP rfl (yP rfl (yP rfl (yg rfl ?_)))))))))); refine bcase_split (fun h1 => ?_) (fun h1 => ?_) <;> try simp only [zB] at h1)
  · ((refine zg_f (zst_p (y0 rfl (y0 rfl (yP rfl (yP rfl (y0 rfl (y0 rfl (y0 rfl (yP rfl (yP rfl (y0 rfl (y0 rfl (y0 rfl ?_))))))))))))); refine y0 rfl (zo_gu rfl rfl rfl rfl (zst_p (zo_gu rfl rfl rfl rfl (zst_p (y0 rfl (yP rfl (yT (zw_c rfl (zc_t (yS (yA rfl (yA rfl (yT ?_))))))))))))); refine zw_r (zt_r (ze_r zi ?_))); refine And.intro ?_ trivial)
    exact num_no (numB_len (by have : ((ofL (dl s)).size : Int) < 1 := h1; omega))
  · have h1 : ¬ ((ofL (dl s)).size : Int) < 1 := h1
    (refine zg_t (zs_q rfl rfl (zq1 zI (yk (y1 rfl (y1 rfl (yP rfl (yP rfl (yg rfl ?_)))))))); refine bcase_split (fun h2 => ?_) (fun h2 => ?_) <;> try simp only [zB] at h2)
    · ((refine zg_f (zst_p (y0 rfl (y0 rfl (yP rfl (yP rfl (y0 rfl (y0 rfl (y0 rfl (y0 rfl (zo_gu rfl rfl rfl rfl (zst_p (zo_gu rfl rfl rfl rfl (zst_p ?_))))))))))))); refine y0 rfl (yP rfl (yT (zw_c rfl (zc_t (yS (yA rfl (yA rfl (yT (zw_r (zt_r (ze_r zi ?_)))))))))))); refine And.intro ?_ trivial)
      exact num_no (numB_len (by have : (9 : Int) < (ofL (dl s)).size := h2; omega))
    · have h2 : ¬ (9 : Int) < (ofL (dl s)).size := h2
      (refine zg_t (zs_q rfl rfl (zq1 zI (yk (y2 rfl (zs_n rfl rfl rfl (zqX zI ?_)))))); refine ⟨_, _, (trim_calls (ofL (dl s)) (by omega)), ?_⟩)
      (refine zkn rfl rfl (zst_p (y1 rfl (yP rfl (yP rfl (yg rfl ?_))))); refine bcase_split (fun h3 => ?_) (fun h3 => ?_) <;> try simp only [zB] at h3)
      · ((refine zg_f (zst_p (y0 rfl (y0 rfl (y0 rfl (zo_gu rfl rfl rfl rfl (zst_p (zo_gu rfl rfl rfl rfl (zst_p (y0 rfl (yP rfl (yT (zw_c rfl (zc_t ?_))))))))))))); refine yS (yA rfl (yA rfl (yT (zw_r (zt_r (ze_r zi ?_))))))); refine And.intro ?_ trivial)
        refine num_no (numB_dig ?_)
        rw [Bool.eq_false_iff]
        intro h
        exact h3 ((trim_none _).2 h)
      · have had : (dl s).all digB = true := (trim_none _).1 (by first | exact h3 | exact Classical.not_not.1 h3)
        obtain ⟨b, hb, hb'⟩ := byte_get (s := ofL (dl s)) (i := 0) (by omega)
        rw [hk] at hb'
        have hhead : (dl s).head? = some b := by rw [List.head?_eq_getElem?]; exact hb'
        (refine zg_t (zs_q rfl rfl (zq1 zI (yk (y2 rfl (zs_q rfl rfl (zqX zI ?_)))))); refine ⟨b, ⟨by decide, hb⟩, ?_⟩)
        (refine yk (y1 rfl (y1 rfl (yg rfl ?_))); refine bcase_split (fun h4 => ?_) (fun h4 => ?_) <;> try simp only [zB] at h4)
        · have h48 : b = 48 := by
            apply UInt8.toNat_inj.1
            have : (b.toNat : Int) = 48 := h4
            show b.toNat = 48
            omega
          rw [h48] at hhead
          (refine zg_t (zs_q rfl rfl (zq1 zI (yk (y1 rfl (y1 rfl (yP rfl (yT (zw_c rfl ?_)))))))); refine bcase_split (fun h5 => ?_) (fun h5 => ?_) <;> try simp only [zB] at h5)
          · (refine yS (yA rfl (yA rfl (yT (zw_r (zt_r (ze_r zi ?_)))))); refine And.intro ?_ trivial)
            refine num_no (numB_zero hhead (Classical.not_not.1 fun h => ?_))
            exact h5 ((eq_zero hhead).2 h)
          · have h5 : s = ⟨#[48]⟩ := by first | exact h5 | exact Classical.not_not.1 h5
            have hy := numB_yes (s := s) (by omega) (by omega) had (fun h => (eq_zero hhead).1 h5 h.2)
            (refine zw_k (zt_n (yS (yP rfl (yn rfl (zqX zI ?_))))); refine ⟨_, _, (atoi_calls s hy), ?_⟩)
            ((refine zkn rfl rfl (zst_tu (yq rfl (zq1 zI (zkq (zst_tu (yP rfl (yP rfl (yA rfl (yA rfl (yU (yP rfl (yA rfl (yA rfl ?_))))))))))))); refine yR zi ?_); refine And.intro ?_ trivial)
            rw [numW, hy]; rfl
        · have hy := numB_yes (s := s) (by omega) (by omega) had (fun h => by
            rw [hhead] at h
            have := h.1
            injection this with this
            subst this
            exact h4 rfl)
          (refine zg_f (zst_p (y0 rfl (y1 rfl (yP rfl (yT (zw_c rfl (zc_f (zw_k (zt_n (yS (yP rfl (yn rfl (zqX zI ?_))))))))))))); refine ⟨_, _, (atoi_calls s hy), ?_⟩)
          ((refine zkn rfl rfl (zst_tu (yq rfl (zq1 zI (zkq (zst_tu (yP rfl (yP rfl (yA rfl (yA rfl (yU (yP rfl (yA rfl (yA rfl ?_))))))))))))); refine yR zi ?_); refine And.intro ?_ trivial)
          rw [numW, hy]; rfl
end Go.Proofs.YthjfllfhagdnpaaGreatDoor.M
namespace Go.Proofs.YthjfllfhagdnpaaGreatDoor.M
open Go.AM Go.RowKit Go.Lib Go.Proofs.YthjfllfhagdnpaaGreatDoor.Num

def cellsN (l : List ByteArray) : List (List PV) := l.map fun s => [i64 (numV s)]
theorem cellsN_snoc {l : List ByteArray} {i : Nat} {s : ByteArray} (h : l[i]? = some s) : cellsN (l.take (i + 1)) = cellsN (l.take i) ++ [[i64 (numV s)]] := by
  rw [cellsN, take_succ' h, List.map_append]; rfl
theorem numsA_all {l : List ByteArray} (h : l.all numB = true) : numsA l = .sl (cellsN l) := by
  rw [numsA, if_pos h, ints, List.map_map]; rfl
theorem nums_bad {l : List ByteArray} {s : ByteArray} (hm : s ∈ l) (h : numB s = false) : l.all numB = false := by
  rw [List.all_eq_false]
  exact ⟨s, hm, by simp [h]⟩
theorem nums_no {l : List ByteArray} (h : l.all numB = false) : [PV.sl [], bool false] = [numsA l, bool (l.all numB)] := by
  rw [numsA, h]; rfl
theorem row_cong (t : TypeId) {a b : List (List PV)} (h : a = b) : AB.row t a = AB.row t b := by rw [h]
set_option maxRecDepth 100000 in
theorem ref3_numbers (l : List ByteArray) (hl : l.length ≤ 1000000) (hs : ∀ s ∈ l, s.size < 4294967281) : ACalls C 208 [.pv (strs l)] (.tu [numsA l, bool (l.all numB)]) [] := by
  refine fun_go hC Tryz.func208 rfl rfl 29 rfl (by decide) (by kernel_rfl) fun _ _ _ _ _ => ?_
  have lm := len_map l fun s => [str s]
  refine yS (yB rfl (yA rfl (yU (yB rfl (yT (zw_s (yS (yA rfl (yT (zw_b ?_))))))))))
  refine loop_ok' (fun i : Nat => i ≤ l.length ∧ (l.take i).all numB = true) (fun i => [(0, .p (strs l)), (4, .ow 4), (5, .p (i64 i))]) (fun i => [(4, .row 3 (cellsN (l.take i)))]) (fun i => l.length - i) 0 _ (SLe.nilRow hC _ 4 3 _ (by decide) rfl rfl (by decide)) ⟨Nat.zero_le _, by simp⟩ ⟨rfl, rfl, rfl, trivial⟩ ⟨rfl, trivial⟩ fun i hi t h => ?_
  have cl : (cellsN (l.take i)).length = i := by rw [cellsN, List.length_map, List.length_take]; omega
  (refine zw_s (yS (yP rfl (yP rfl (yP rfl (yP rfl (yT (zw_c rfl ?_))))))); refine bcase_split (fun h1 => ?_) (fun h1 => ?_) <;> try simp only [zB] at h1)
  · rw [lm] at h1
    obtain ⟨x, hx⟩ := get_of (l := l) (i := i) (by omega)
    have hm := List.mem_of_getElem? hx
    (refine zw_k (zt_n (zw_s (zw_b (yS (yP rfl (yP rfl (yq rfl (zqX zI ?_)))))))); refine ⟨[str x], (idx rfl hx), ?_⟩)
    (refine yk (yP rfl (yn rfl (zqX zI ?_))); refine ⟨_, _, (ref3_number x (hs x hm)), ?_⟩)
    ((refine zkn rfl rfl (zst_tu (yq rfl (zq1 zI (zkq (zst_tu (yP rfl (yP rfl (yA rfl (yA rfl (yT (zw_s (yS (yP rfl ?_))))))))))))); refine yP rfl (yT (zw_c rfl ?_))); refine bcase_split (fun h2 => ?_) (fun h2 => ?_) <;> try simp only [zB] at h2)
    · (refine yS (yB rfl (yA rfl (yT (zw_r (zt_r (zb_r (zt_r (zt_r (zb_r (zt_r (ze_r zi ?_))))))))))); refine And.intro ?_ trivial)
      exact nums_no (nums_bad hm h2)
    · have e : numW x = numV x := by rw [numW, if_pos h2]
      (refine zw_k (zt_n (zw_o (yq rfl (zq1 zI (zkq (zst_ow (yP rfl (yn rfl (zq1 zI (zkns (zst_ow (yn rfl (zqA zI ?_))))))))))))); refine And.intro ⟨by simp, by rw [cl]; simp; omega, by rw [cl]; simp; omega⟩ ?_)
      (refine zkns (zst_e (zst_ow (zo_n rfl (zs_ar rfl rfl rfl rfl rfl (zo_0 (zb_n (zt_n (zw_o (yP rfl (yq rfl (zqA zI ?_))))))))))); refine And.intro ⟨by omega, by omega⟩ ?_)
      (refine yk (yA rfl (yT (zaf_raw ?_))); refine ⟨(i + 1), _, SLe.refl _ _, ?_⟩)
      refine ⟨⟨by omega, ?_⟩, by omega, ⟨rfl, rfl, rfl, trivial⟩, ⟨?_, trivial⟩⟩
      · rw [take_succ' hx, List.all_append, hi.2]
        simp [h2]
      · refine row_cong _ ?_
        rw [cellsN_snoc hx, ← e]
        rfl
  · rw [lm] at h1
    have hall := hi.2
    rw [List.take_of_length_le (by omega)] at hall
    (refine zw_x (zt_x (zt_x (zb_h (zt_n (yS (yq rfl (zq1 zI (zkq (zst_ow (zo_n rfl (zs_ar rfl rfl rfl rfl rfl (yA rfl (yR zi ?_))))))))))))); refine And.intro ?_ trivial)
    rw [numsA_all hall, hall, List.take_of_length_le (by omega)]
    rfl
set_option maxRecDepth 100000 in
theorem house_numbers (l : List ByteArray) (hl : l.length ≤ 1000000) (hs : ∀ s ∈ l, s.size < 4294967281) : ACalls C 205 [.pv (strs l)] (.tu [numsA l, bool (l.all numB)]) [] := by
  refine fun_go hC Tryz.func205 rfl rfl 28 rfl (by decide) (by kernel_rfl) fun _ _ _ _ _ => ?_
  have lm := len_map l fun s => [str s]
  refine yS (yB rfl (yA rfl (yU (yB rfl (yT (zw_s (yS (yP rfl (yP rfl (yP rfl (yT (zw_b ?_))))))))))))
  refine loop_ok' (fun i : Nat => i ≤ l.length ∧ (l.take i).all numB = true) (fun i => [(9, .p (strs l)), (10, .p (i64 (l.map fun s => [str s]).length)), (4, .ow 4), (11, .p (i64 i))]) (fun i => [(4, .row 3 (cellsN (l.take i)))]) (fun i => l.length - i) 0 _ (SLe.nilRow hC _ 4 3 _ (by decide) rfl rfl (by decide)) ⟨Nat.zero_le _, by simp⟩ ⟨rfl, rfl, rfl, rfl, trivial⟩ ⟨rfl, trivial⟩ fun i hi t h => ?_
  have cl : (cellsN (l.take i)).length = i := by rw [cellsN, List.length_map, List.length_take]; omega
  (refine yS (yP rfl (yT (zw_s (zw_c rfl ?_)))); refine bcase_split (fun h1 => ?_) (fun h1 => ?_) <;> try simp only [zB] at h1)
  · rw [lm] at h1
    obtain ⟨x, hx⟩ := get_of (l := l) (i := i) (by omega)
    have hm := List.mem_of_getElem? hx
    (refine zw_k (zt_n (zw_s (zw_b (yS (yq rfl (zqX zI ?_)))))); refine ⟨[str x], (idx rfl hx), ?_⟩)
    (refine yk (yP rfl (yA rfl (yU (yP rfl (yn rfl (zqX zI ?_)))))); refine ⟨_, _, (house_number x (hs x hm)), ?_⟩)
    ((refine zkn rfl rfl (zst_tu (yq rfl (zq1 zI (zkq (zst_tu (yP rfl (yP rfl (yA rfl (yA rfl (yT (zw_s (yS (yP rfl ?_))))))))))))); refine yP rfl (yT (zw_c rfl ?_))); refine bcase_split (fun h2 => ?_) (fun h2 => ?_) <;> try simp only [zB] at h2)
    · (refine yS (yB rfl (yA rfl (yT (zw_r (zt_r (zb_r (zt_r (zt_r (zb_r (zt_r (ze_r zi ?_))))))))))); refine And.intro ?_ trivial)
      exact nums_no (nums_bad hm h2)
    · have e : numW x = numV x := by rw [numW, if_pos h2]
      (refine zw_k (zt_n (zw_o (yq rfl (zq1 zI (zkq (zst_ow (yP rfl (yn rfl (zq1 zI (zkns (zst_ow (yn rfl (zqA zI ?_))))))))))))); refine And.intro ⟨by simp, by rw [cl]; simp; omega, by rw [cl]; simp; omega⟩ ?_)
      (refine zkns (zst_e (zst_ow (zo_n rfl (zs_ar rfl rfl rfl rfl rfl (zo_0 (zb_n (zt_n (zw_o (yq rfl (zqA zI ?_)))))))))); refine And.intro ⟨by omega, by omega⟩ ?_)
      (refine yk (yP rfl (yT (zaf_raw ?_))); refine ⟨(i + 1), _, SLe.refl _ _, ?_⟩)
      refine ⟨⟨by omega, ?_⟩, by omega, ⟨rfl, rfl, rfl, rfl, trivial⟩, ⟨?_, trivial⟩⟩
      · rw [take_succ' hx, List.all_append, hi.2]
        simp [h2]
      · refine row_cong _ ?_
        rw [cellsN_snoc hx, ← e]
        rfl
  · rw [lm] at h1
    have hall := hi.2
    rw [List.take_of_length_le (by omega)] at hall
    (refine zw_x (zt_x (zt_x (zb_h (zt_n (yS (yq rfl (zq1 zI (zkq (zst_ow (zo_n rfl (zs_ar rfl rfl rfl rfl rfl (yA rfl (yR zi ?_))))))))))))); refine And.intro ?_ trivial)
    rw [numsA_all hall, hall, List.take_of_length_le (by omega)]
    rfl
theorem row_pred (s : ByteArray) : ACalls C 203 [.pv (str s)] (.p (bool (!rowB s))) [] := by
  refine fun_go hC Tryz.func203 rfl rfl 6 rfl (by decide) (by kernel_rfl) fun _ _ _ _ _ => ?_
  (refine yS (yA rfl (yU (yP rfl (yn rfl (zqX zI ?_))))); refine ⟨_, _, (house_isRow s), ?_⟩)
  (refine zkn rfl rfl (zst_p (yP rfl (yA rfl (yR zi ?_)))); refine And.intro ?_ trivial)
  rfl
def fnR : PV := .im (.func (.func 203) #[] #[])
theorem index_row (l : List ByteArray) (hl : l.length ≤ 1000000) : ∃ n : Int, (decide (0 ≤ n) = !okWords l) ∧ ACalls C 257 [.pv (strs l), .pv fnR] (.p (i64 n)) [] := by
  have lm := len_map l fun s => [str s]
  cases hk : okWords l with
  | true =>
    refine ⟨-1, by decide, ?_⟩
    refine fun_go hC Tryz.func257 rfl rfl 19 rfl (by decide) (by kernel_rfl) fun _ _ _ _ _ => ?_
    refine yS (yA rfl (yT (zw_s (yS (yP rfl (yP rfl (yP rfl (yT (zw_b ?_)))))))))
    refine loop_ok' (fun i : Nat => i ≤ l.length) (fun i => [(0, .p (strs l)), (1, .p fnR), (7, .p (i64 (l.map fun s => [str s]).length)), (8, .p (i64 i))]) (fun _ => []) (fun i => l.length - i) 0 _ (SLe.refl _ _) (Nat.zero_le _) ⟨rfl, rfl, rfl, rfl, trivial⟩ trivial fun i hi t h => ?_
    (refine yS (yP rfl (yT (zw_s (zw_c rfl ?_)))); refine bcase_split (fun h1 => ?_) (fun h1 => ?_) <;> try simp only [zB] at h1)
    · rw [lm] at h1
      obtain ⟨x, hx⟩ := get_of (l := l) (i := i) (by omega)
      have hm : rowB x = true := by rw [okWords, List.all_eq_true] at hk; exact hk x (List.mem_of_getElem? hx)
      have hp := row_pred x
      rw [hm] at hp
      (refine zw_k (zt_n (zw_s (zw_b (yS (yP rfl (yA rfl (yU (yP rfl (yP rfl (yP rfl (yq rfl (zqX zI ?_)))))))))))); refine ⟨[str x], (idx rfl hx), ?_⟩)
      (refine yk (yP rfl (yn rfl (zqX zI ?_))); refine ⟨_, _, hp, ?_⟩)
      (refine zkn rfl rfl (zst_p (yT (zw_c rfl (zc_f (zw_k (zb_n (zt_n (zw_o (yq rfl (zqA zI ?_)))))))))); refine And.intro ⟨by omega, by omega⟩ ?_)
      (refine yk (yP rfl (yT (zaf_raw ?_))); refine ⟨(i + 1), _, SLe.refl _ _, ?_⟩)
      exact ⟨by omega, by omega, ⟨rfl, rfl, rfl, rfl, trivial⟩, trivial⟩
    · (refine zw_x (zt_x (zt_x (zb_h (zt_n (yS (yA rfl (yR zi ?_))))))); refine And.intro ?_ trivial)
      rfl
  | false =>
    obtain ⟨k, hk1, hk2⟩ : ∃ k : Nat, k < l.length ∧ (∃ x, l[k]? = some x ∧ rowB x = false) ∧ ∀ (j : Nat) x, j < k → l[j]? = some x → rowB x = true := by
      rw [okWords, List.all_eq_false] at hk
      obtain ⟨x, hm, hx⟩ := hk
      obtain ⟨n, hn⟩ := List.mem_iff_getElem?.1 hm
      have hx : rowB x = false := by simpa using hx
      have : ∀ m n : Nat, n ≤ m → (∃ x, l[n]? = some x ∧ rowB x = false) → ∃ k : Nat, (∃ x, l[k]? = some x ∧ rowB x = false) ∧ ∀ (j : Nat) x, j < k → l[j]? = some x → rowB x = true := by
        intro m
        induction m with
        | zero => intro n hn hx; exact ⟨n, hx, fun j x hj => by omega⟩
        | succ m ih =>
          intro n hn hx
          by_cases hb : ∃ j, j < n ∧ ∃ x, l[j]? = some x ∧ rowB x = false
          · obtain ⟨j, hj, hx'⟩ := hb
            exact ih j (by omega) hx'
          · exact ⟨n, hx, fun j x hj hx' => by cases e : rowB x with | true => rfl | false => exact (hb ⟨j, hj, x, hx', e⟩).elim⟩
      obtain ⟨k, ⟨y, hy, hb⟩, h2⟩ := this n n (Nat.le_refl _) ⟨x, hn, hx⟩
      exact ⟨k, (List.getElem?_eq_some_iff.1 hy).1, ⟨y, hy, hb⟩, h2⟩
    refine ⟨k, by simp, ?_⟩
    refine fun_go hC Tryz.func257 rfl rfl 19 rfl (by decide) (by kernel_rfl) fun _ _ _ _ _ => ?_
    refine yS (yA rfl (yT (zw_s (yS (yP rfl (yP rfl (yP rfl (yT (zw_b ?_)))))))))
    refine loop_ok' (fun i : Nat => i ≤ k) (fun i => [(0, .p (strs l)), (1, .p fnR), (7, .p (i64 (l.map fun s => [str s]).length)), (8, .p (i64 i))]) (fun _ => []) (fun i => l.length - i) 0 _ (SLe.refl _ _) (Nat.zero_le _) ⟨rfl, rfl, rfl, rfl, trivial⟩ trivial fun i hi t h => ?_
    (refine yS (yP rfl (yT (zw_s (zw_c rfl ?_)))); refine bcase_split (fun h1 => ?_) (fun h1 => ?_) <;> try simp only [zB] at h1)
    · rw [lm] at h1
      obtain ⟨x, hx⟩ := get_of (l := l) (i := i) (by omega)
      have hp := row_pred x
      by_cases hik : i = k
      · subst hik
        have hm : rowB x = false := by obtain ⟨⟨y, hy, hb⟩, _⟩ := hk2; rw [hx] at hy; cases hy; exact hb
        rw [hm] at hp
        (refine zw_k (zt_n (zw_s (zw_b (yS (yP rfl (yA rfl (yU (yP rfl (yP rfl (yP rfl (yq rfl (zqX zI ?_)))))))))))); refine ⟨[str x], (idx rfl hx), ?_⟩)
        (refine yk (yP rfl (yn rfl (zqX zI ?_))); refine ⟨_, _, hp, ?_⟩)
        ((refine zkn rfl rfl (zst_p (yT (zw_c rfl (zc_t (yS (yP rfl (yA rfl (yT (zw_r (zb_r (zt_r (zt_r (zb_r ?_))))))))))))); refine zt_r (ze_r zi ?_)); refine And.intro ?_ trivial)
        rfl
      · have hm : rowB x = true := hk2.2 i x (by omega) hx
        rw [hm] at hp
        (refine zw_k (zt_n (zw_s (zw_b (yS (yP rfl (yA rfl (yU (yP rfl (yP rfl (yP rfl (yq rfl (zqX zI ?_)))))))))))); refine ⟨[str x], (idx rfl hx), ?_⟩)
        (refine yk (yP rfl (yn rfl (zqX zI ?_))); refine ⟨_, _, hp, ?_⟩)
        (refine zkn rfl rfl (zst_p (yT (zw_c rfl (zc_f (zw_k (zb_n (zt_n (zw_o (yq rfl (zqA zI ?_)))))))))); refine And.intro ⟨by omega, by omega⟩ ?_)
        (refine yk (yP rfl (yT (zaf_raw ?_))); refine ⟨(i + 1), _, SLe.refl _ _, ?_⟩)
        exact ⟨by omega, by omega, ⟨rfl, rfl, rfl, rfl, trivial⟩, trivial⟩
    · rw [lm] at h1
      omega
theorem contains_row (l : List ByteArray) (hl : l.length ≤ 1000000) : ACalls C 186 [.pv (strs l), .pv fnR] (.p (bool (!okWords l))) [] := by
  obtain ⟨n, hn, hc⟩ := index_row l hl
  rw [← hn]
  refine fun_go hC Tryz.func186 rfl rfl 9 rfl (by decide) (by kernel_rfl) fun _ _ _ _ _ => ?_
  (refine yS (yA rfl (yU (yP rfl (yP rfl (yn rfl (zqX zI ?_)))))); refine ⟨_, _, hc, ?_⟩)
  (refine zkn rfl rfl (zst_p (yP rfl (yA rfl (yR zi ?_)))); refine And.intro ?_ trivial)
  rfl
end Go.Proofs.YthjfllfhagdnpaaGreatDoor.M
