/- By the machine: awake. -/
import Derived.Test.YtcfhiodoogkcpaaGreatDoorMRules7
import Derived.Test.YtcfhiodoogkcpaaGreatDoorText
set_option linter.unusedSimpArgs false
set_option linter.unusedVariables false
namespace Go.Proofs.YtcfhiodoogkcpaaGreatDoor.M
open Go.AM Go.RowKit Go.Lib
open Reg (Rect Spans Band)

def r5 : Rules := ⟨0, 5, 0, 0, 0, [], []⟩
def T5 : ByteArray := ⟨#[114, 117, 108, 101, 115, 32, 48, 32, 53, 32, 48, 32, 48, 32, 48, 10]⟩
theorem ok5 : rulesOK r5 := ⟨(fun c h => by cases h), by decide, by decide⟩
theorem fault5 : rulesFault r5 = 0 := by decide
theorem im_inv {S : Nat → Prop} {w : World} {x v : Value} (h : PRep S w (.im x) v) : v = x := by cases h; rfl
theorem sl_inv {S : Nat → Prop} {w : World} {v : Value} (h : PRep S w (.sl []) v) : ∃ a c, v = .slice a 0 c := by
  cases h with
  | nil a c => exact ⟨a, c, rfl⟩
  | sl es k b off c U hc hS hk hcell h => exact ⟨_, c, rfl⟩
theorem rep5 {S : Nat → Prop} {w : World} {v : Value} (h : PRep S w (.ag (rl r5)) v) : ∃ a c a' c', v = .agg #[.int .i64 0, .int .i64 5, .int .i64 0, .int .i64 0, .int .i64 0, .slice a 0 c, .slice a' 0 c'] := by
  cases h with
  | ag cs vs hl h1 h =>
    have hs : vs.size = 7 := hl.symm
    obtain ⟨vs⟩ := vs
    obtain ⟨v0, v1, v2, v3, v4, v5, v6, rfl⟩ : ∃ a b c d e f g, vs = [a, b, c, d, e, f, g] := by
      match vs, hs with
      | [a, b, c, d, e, f, g], _ => exact ⟨a, b, c, d, e, f, g, rfl⟩
    have e0 := im_inv (h 0 _ _ rfl rfl)
    have e1 := im_inv (h 1 _ _ rfl rfl)
    have e2 := im_inv (h 2 _ _ rfl rfl)
    have e3 := im_inv (h 3 _ _ rfl rfl)
    have e4 := im_inv (h 4 _ _ rfl rfl)
    obtain ⟨a, c, e5⟩ := sl_inv (h 5 _ _ rfl rfl)
    obtain ⟨a', c', e6⟩ := sl_inv (h 6 _ _ rfl rfl)
    subst e0 e1 e2 e3 e4 e5 e6
    exact ⟨a, c, a', c', rfl⟩
theorem repUp {S : Nat → Prop} {w : World} (a a' : Option Addr) (c c' : Nat) : PRep S w (.ag (rl r5)) (.agg #[.int .i64 0, .int .i64 5, .int .i64 0, .int .i64 0, .int .i64 0, .slice a 0 c, .slice a' 0 c']) := by
  refine .ag _ _ rfl (fun u hu => ?_) fun i x v hx hv => ?_
  · simp only [List.mem_cons, List.not_mem_nil, or_false] at hu
    rcases hu with h | h | h | h | h | h | h <;> subst h <;> rfl
  · match i, hx, hv with
    | 0, hx, hv => cases hx; cases hv; exact .im _
    | 1, hx, hv => cases hx; cases hv; exact .im _
    | 2, hx, hv => cases hx; cases hv; exact .im _
    | 3, hx, hv => cases hx; cases hv; exact .im _
    | 4, hx, hv => cases hx; cases hv; exact .im _
    | 5, hx, hv => cases hx; cases hv; exact .nil _ _
    | 6, hx, hv => cases hx; cases hv; exact .nil _ _
    | n + 7, hx, hv => cases hx
theorem mv_no (x : PV) (vs : Array Value) (g : Nat) : ¬ Mv [.pv x] vs g := by
  rintro ⟨j, y, v, h1, _, h2, _⟩
  cases j with
  | zero =>
    injection h1 with h1
    subst h1
    simp [Arg.handed] at h2
  | succ j => cases h1
theorem house_text5 : ACalls C 8 [.pv (.ag (rl r5))] (.tu [str T5, i64 0]) [] := by
  refine ⟨⟨_, Tryz.func8, by decide, rfl⟩, fun S w vs hE hS hl hr _ => ?_⟩
  obtain ⟨vs⟩ := vs
  obtain ⟨v, rfl⟩ : ∃ v, vs = [v] := by
    match vs, hl with
    | [v], _ => exact ⟨v, rfl⟩
  obtain ⟨a, c, a', c', rfl⟩ := rep5 (hr 0 _ _ rfl rfl)
  have b1 : Below w.heap.size w (w.alloc (.cells #[.int .i64 0, .int .i64 5, .int .i64 0, .int .i64 0, .int .i64 0, .slice a 0 c, .slice a' 0 c'] 25)) := (Below.refl _ w).alloc (Nat.le_refl _) _
  have hE1 := env_keep S S w _ hE (fun _ h => h) (fun b hb => b1.block b (hS b hb))
  refine (text5 a a' c c' w ⟨hS _ hE.2.1, hE.2.2.2⟩ ?_).mono ?_
  · refine ((house_checkRules r5 ok5).2 S _ _ hE1 (fun b hb => Nat.lt_of_lt_of_le (hS b hb) b1.size) rfl (fun j x v hx hv => ?_) (fun i j x y v u g h1 h2 h3 h4 h5 => ?_)).mono ?_
    · match j, hx, hv with
      | 0, hx, hv => cases hx; cases hv; exact repUp a a' c c'
      | n + 1, hx, hv => cases hx
    · match i, h1 with
      | 0, h1 =>
      injection h1 with h1
      subst h1
      simp [Arg.handed] at h5
      | n + 1, h1 => cases h1
    · rintro e w' ⟨v, S', rfl, hf, _, _, _, hv, _⟩
      have := im_inv hv
      rw [fault5] at this
      exact ⟨by rw [this], ⟨hf.os, hf.tape, hf.output, hf.size, fun k hk => hf.block k hk (mv_no _ _ _)⟩⟩
  · rintro e w' ⟨rfl, hb⟩
    refine ⟨_, S, rfl, ⟨hb.os, hb.tape, hb.output, hb.size, fun k hk _ => hb.block k hk⟩, fun _ h => h, fun b hb' => Nat.lt_of_lt_of_le (hS b hb') hb.size, fun b hb' => .inl hb', ⟨_, rfl, rfl, fun i x u h1 h2 => ?_⟩, trivial, fun g h => by cases h⟩
    match i, h1, h2 with
    | 0, h1, h2 => cases h1; cases h2; exact .im _
    | 1, h1, h2 => cases h1; cases h2; exact .im _
    | n + 2, h1, h2 => cases h1
theorem awake_yes : ACalls C 12 [] (.p (bool true)) [] := by
  refine fun_go hC Tryz.func12 rfl rfl 14 rfl (by decide) (by kernel_rfl) fun _ _ _ _ _ => ?_
  (refine yS (yA rfl (yU (yP rfl (yn rfl (zqX zI ?_))))); refine ⟨_, _, house_text5, ?_⟩)
  ((refine zkn rfl rfl (zst_tu (yq rfl (zq1 zI (zkq (zst_tu (yP rfl (yP rfl (yA rfl (yA rfl (yU (yP rfl (yP rfl (yP rfl ?_))))))))))))); refine y1 rfl (y1 rfl (yP rfl (yA rfl (yR zi ?_))))); refine And.intro ?_ trivial)
  exact congrArg (fun z => PV.im (Value.bool z)) (show decide (T5 = T5) = true from decide_eq_true rfl)
theorem law_needEven (r : Rules) (ho : rulesOK r) (a b : ByteArray) (ha : strOK a) (hb : strOK b) (layer x y : Int) : ACalls C 4 [.pv (.ag (rl r)), .pv (str a), .pv (str b), .pv (i64 layer), .pv (.ag [i64 x, i64 y])] (.p (bool true)) [] := by
  refine fun_go hC Tryz.func4 rfl rfl 52 rfl (by decide) (by kernel_rfl) fun _ _ _ _ _ => ?_
  have h1 := house_Needs r ho a b ha hb layer x y
  have h2 := house_Needs r ho b a hb ha layer x y
  rw [← needsR_even r a b] at h2
  have h3 : (needsR r a b layer x y).2 = 0 ∨ (needsR r a b layer x y).1 = 0 := by
    unfold needsR
    split
    · split
      · split
        · exact .inl rfl
        · exact .inr rfl
      · exact .inr rfl
    · exact .inr rfl
  generalize needsR r a b layer x y = p at h1 h2 h3
  ((refine yS (yn rfl (zq1 zI (zkns (zst_bx (yn rfl (zq1 zI (zkns (zst_bx (yA rfl (yU (yP rfl (yP rfl (yP rfl ?_))))))))))))); refine yP rfl (yP rfl (yn rfl (zqX zI ?_)))); refine ⟨_, _, h1, ?_⟩)
  ((refine zkn rfl rfl (zst_tu (yq rfl (zq1 zI (zkq (zst_tu (yP rfl (yP rfl (yA rfl (yA rfl (yU (yP rfl (yP rfl (yP rfl ?_))))))))))))); refine yP rfl (yP rfl (yn rfl (zqX zI ?_)))); refine ⟨_, _, h2, ?_⟩)
  ((refine zkn rfl rfl (zst_tu (yq rfl (zq1 zI (zkq (zst_tu (yP rfl (yP rfl (yA rfl (yA rfl (yU (yP rfl (yP rfl (yP rfl ?_))))))))))))); refine yP rfl (yg rfl ?_)); refine bcase_split (fun g1 => ?_) (fun g1 => ?_) <;> try simp only [zB] at g1)
  · (refine zg_t (zs_q rfl rfl (zq1 zI (yk (y1 rfl (y1 rfl (yP rfl (yP rfl (yg rfl ?_)))))))); refine bcase_split (fun g2 => ?_) (fun g2 => ?_) <;> try simp only [zB] at g2)
    · (refine zg_t (zs_q rfl rfl (zq1 zI (yk (y1 rfl (y1 rfl (yg rfl ?_)))))); refine bcase_split (fun g3 => ?_) (fun g3 => ?_) <;> try simp only [zB] at g3)
      · (refine zg_f (zst_p (y0 rfl (y1 rfl (yP rfl (yP rfl (y2 rfl (zs_n rfl rfl rfl (zqX zI ?_)))))))); refine ⟨_, _, awake_yes, ?_⟩)
        (refine zkn rfl rfl (zst_p (yP rfl (yA rfl (yR zi ?_)))); refine And.intro ?_ trivial)
        rfl
      · (refine zg_t (zs_q rfl rfl (zq1 zI (yk (y1 rfl (y1 rfl (yP rfl (yP rfl (yg rfl ?_)))))))); refine bcase_split (fun g4 => ?_) (fun g4 => ?_) <;> try simp only [zB] at g4)
        · (refine zg_t (zs_n rfl rfl rfl (zqX zI ?_)); refine ⟨_, _, awake_yes, ?_⟩)
          (refine zkn rfl rfl (zst_p (yP rfl (yA rfl (yR zi ?_)))); refine And.intro ?_ trivial)
          rfl
        · exact (h3.elim g3 g4).elim
    · exact absurd trivial g2
  · exact absurd trivial g1
end Go.Proofs.YtcfhiodoogkcpaaGreatDoor.M
