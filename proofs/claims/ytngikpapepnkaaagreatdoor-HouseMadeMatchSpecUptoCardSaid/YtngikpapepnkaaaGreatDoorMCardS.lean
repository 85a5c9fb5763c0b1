/- From the arguments of the shop's laws to the machine's contents. -/
import Derived.Test.YtngikpapepnkaaaGreatDoorMYield
import Derived.Test.YtngikpapepnkaaaGreatDoorMLong1
import Derived.Test.YtngikpapepnkaaaGreatDoorAM4
import Derived.Test.YtngikpapepnkaaaGreatDoorClaimKit
import Derived.Deep.Fields
import Derived.Carry
import Derived.DataShut
set_option linter.unusedSimpArgs false
set_option linter.unusedVariables false
namespace Go.AM
open Go.RowKit Go.ChangeShapes
section
variable {H : Type} {enc : TypeId × Value → H} {P : Program} {w : World} {S : Nat → Prop}
theorem dec_bool {t : TypeId} (ht : P.underlying t = some .bool) : Dec enc P w S t 1 fun xs d => ∃ b : Bool, xs = [.im (.bool b)] := fun n cs x h => by
  obtain ⟨b, rfl, rfl⟩ := DataW.trod_bool ht h
  exact ⟨[.im (.bool b)], rfl, rfl, one_cell ⟨.im _, rfl⟩, b, rfl⟩
theorem dec_i64 {t : TypeId} (ht : P.underlying t = some (.int .i64)) : Dec enc P w S t 1 fun xs d => ∃ n : Int, xs = [.im (.int .i64 n)] ∧ n ≤ 9223372036854775807 := fun n cs x h => by
  obtain ⟨z, rfl, rfl, hw⟩ := DataW.trod_int ht h
  exact ⟨[.im (.int .i64 z)], rfl, rfl, one_cell ⟨.im _, rfl⟩, z, rfl, ((Lit.wf_int_iff _ _).1 hw).2⟩
end
end Go.AM
namespace Go.Proofs.YtngikpapepnkaaaGreatDoor.M
open Go.AM Go.RowKit Go.Lib
variable {H : Type} {enc : TypeId × Value → H} {w : World} {S : Nat → Prop}
theorem dec_i : Dec enc Tryz.prog w S 3 1 fun xs d => ∃ n : Int, xs = [i64 n] ∧ d = .lit (.int .i64 n) := dec_int Tryz.underlying3
theorem dec_s : Dec enc Tryz.prog w S 9 1 fun xs d => ∃ s : ByteArray, xs = [str s] ∧ d = .lit (.string s.data.toList) := dec_str Tryz.underlying9
/-- values of a type by content, and what their bulk says of them -/
abbrev Sp (enc : TypeId × Value → H) (w : World) (S : Nat → Prop) (t : TypeId) (k : Nat) {γ : Type} (f : γ → List PV) (B : γ → Nat → Prop) : Prop := Dec enc Tryz.prog w S t k fun xs d => ∃ r, xs = f r ∧ B r (Rows.uptoBulk d)
theorem sp_i : Sp enc w S 3 1 (fun n => [i64 n]) fun _ _ => True := fun n cs x h => by
  obtain ⟨xs, l1, l2, l3, z, e, _⟩ := dec_i (S := S) n cs x h
  exact ⟨xs, l1, l2, l3, z, e, trivial⟩
theorem sp_s : Sp enc w S 9 1 (fun s => [str s]) fun s n => s.size ≤ n := fun n cs x h => by
  obtain ⟨xs, l1, l2, l3, z, e, d⟩ := dec_s (S := S) n cs x h
  refine ⟨xs, l1, l2, l3, z, e, ?_⟩
  rw [d, bulk_string]
  have : z.data.toList.length = z.size := by simp
  omega
theorem list_of {α γ : Type} {f : γ → α} {B : γ → Nat → Prop} (hm : ∀ r m n, m ≤ n → B r m → B r n) : ∀ {es : List α} {ds : List (DataW H)}, es.length = ds.length → (∀ (i : Nat) x y, es[i]? = some x → ds[i]? = some y → ∃ r, x = f r ∧ B r (Rows.uptoBulk y)) → ∃ l : List γ, es = l.map f ∧ l.length ≤ Rows.uptoBulkAll ds ∧ ∀ r ∈ l, B r (Rows.uptoBulkAll ds)
  | [], _, _, _ => ⟨[], rfl, Nat.zero_le _, fun r h => by cases h⟩
  | x :: es, [], hl, _ => by cases hl
  | x :: es, y :: ds, hl, h => by
    obtain ⟨r, rfl, hr⟩ := h 0 x y rfl rfl
    obtain ⟨l, rfl, h1, h2⟩ := list_of hm (es := es) (ds := ds) (by simpa using hl) (fun i a b h1 h2 => h (i + 1) a b (by simpa using h1) (by simpa using h2))
    have e : Rows.uptoBulkAll (y :: ds) = Rows.uptoBulk y + Rows.uptoBulkAll ds := by simp only [Rows.uptoBulkAll]
    have b1 := bulk_one y
    refine ⟨r :: l, rfl, by rw [List.length_cons]; omega, fun q hq => ?_⟩
    rcases List.mem_cons.1 hq with h | h
    · subst h; exact hm _ _ _ (by omega) hr
    · exact hm _ _ _ (by omega) (h2 q h)
theorem sp_slice {t e : TypeId} {k : Nat} {γ : Type} {f : γ → List PV} {B : γ → Nat → Prop} (ht : Tryz.prog.underlying t = some (.slice e)) (hc : Tryz.prog.cellsOf e = k) (hk : 0 < k) (hS : ∀ b, b < w.heap.size → S b) (hm : ∀ r m n, m ≤ n → B r m → B r n) (he : Sp enc w S e k f B) :
    Sp enc w S t 1 (fun l : List γ => [.sl (l.map f)]) fun l n => l.length ≤ n ∧ ∀ r ∈ l, B r n := fun n cs x h => by
  obtain ⟨xs, l1, l2, l3, es, ds, sp, rfl, hl, hd, q⟩ := dec_slice ht hc hk hS he _ _ _ h
  obtain ⟨l, rfl, b1, b2⟩ := list_of hm hl q
  have hb : Rows.uptoBulkAll ds ≤ Rows.uptoBulk x.1 := by
    rcases hd with ⟨h1, h2⟩ | h1
    · rw [h2]; exact Nat.zero_le _
    · rw [h1]; simp only [Rows.uptoBulk]; omega
  exact ⟨_, l1, l2, l3, l, rfl, by omega, fun r hr => hm _ _ _ hb (b2 r hr)⟩
theorem in_agg {ds : List (DataW H)} {i : Nat} {y : DataW H} (h : ds[i]? = some y) : Rows.uptoBulk y ≤ Rows.uptoBulk (.agg ds) := by
  have := bulk_part (List.mem_of_getElem? h)
  simp only [Rows.uptoBulk]
  omega
theorem sp_r : Sp enc w S 3 1 (fun n => [i64 n]) fun n _ => n ≤ 9223372036854775807 := fun n cs x h => by
  obtain ⟨xs, l1, l2, l3, z, e, hz⟩ := dec_i64 (S := S) Tryz.underlying3 n cs x h
  exact ⟨xs, l1, l2, l3, z, e, hz⟩
theorem sp_b : Sp enc w S 4 1 (fun b => [bool b]) fun _ _ => True := fun n cs x h => by
  obtain ⟨xs, l1, l2, l3, z, e⟩ := dec_bool (S := S) Tryz.underlying4 n cs x h
  exact ⟨xs, l1, l2, l3, z, e, trivial⟩
theorem sp_made : Sp enc w S 39 5 mc fun x n => x.lot.size ≤ n := fun n cs x h => by
  obtain ⟨xs, l1, l2, l3, ds, e, ld, q⟩ := dec_struct (S := S) (Qs := fun i xs d => match i with
      | 0 => ∃ r, xs = [str r] ∧ r.size ≤ Rows.uptoBulk d
      | 1 => ∃ r, xs = [i64 r] ∧ True
      | 2 => ∃ r, xs = [bool r] ∧ True
      | 3 => ∃ r, xs = [i64 r] ∧ True
      | _ => ∃ r, xs = [i64 r] ∧ True) Tryz.underlying39 (Go.Deep.hone_of (by kernel_rfl)) (by kernel_rfl) (fun i f hf => by
    match i, hf with
    | 0, hf => cases hf; exact sp_s
    | 1, hf => cases hf; exact sp_i
    | 2, hf => cases hf; exact sp_b
    | 3, hf => cases hf; exact sp_i
    | 4, hf => cases hf; exact sp_i
    | n + 5, hf => cases hf) _ _ _ h
  have l1 : xs.length = 5 := l1
  have ld : ds.length = 5 := ld
  obtain ⟨x0, x1, x2, x3, x4, rfl⟩ : ∃ a b c d e, xs = [a, b, c, d, e] := by
    match xs, l1 with
    | [a, b, c, d, e], _ => exact ⟨a, b, c, d, e, rfl⟩
  obtain ⟨y0, y1, y2, y3, y4, rfl⟩ : ∃ a b c d e, ds = [a, b, c, d, e] := by
    match ds, ld with
    | [a, b, c, d, e], _ => exact ⟨a, b, c, d, e, rfl⟩
  obtain ⟨n0, e0, p0⟩ := q 0 _ _ rfl rfl
  obtain ⟨n1, e1, p1⟩ := q 1 _ _ rfl rfl
  obtain ⟨n2, e2, p2⟩ := q 2 _ _ rfl rfl
  obtain ⟨n3, e3, p3⟩ := q 3 _ _ rfl rfl
  obtain ⟨n4, e4, p4⟩ := q 4 _ _ rfl rfl
  cases e0; cases e1; cases e2; cases e3; cases e4
  have i0 := in_agg (ds := [y0, y1, y2, y3, y4]) (i := 0) rfl
  rw [← e] at i0
  exact ⟨_, rfl, l2, l3, ⟨n0, n1, n2, n3, n4⟩, rfl, by exact Nat.le_trans p0 i0⟩
def doIn (x : Doing) (n : Nat) : Prop := x.lot.size ≤ n ∧ x.from_ ≤ 9223372036854775807 ∧ x.till ≤ 9223372036854775807
theorem sp_doing : Sp enc w S 35 7 dc doIn := fun n cs x h => by
  obtain ⟨xs, l1, l2, l3, ds, e, ld, q⟩ := dec_struct (S := S) (Qs := fun i xs d => match i with
      | 0 => ∃ r, xs = [str r] ∧ r.size ≤ Rows.uptoBulk d
      | 1 => ∃ r, xs = [i64 r] ∧ True
      | 2 => ∃ r, xs = [i64 r] ∧ True
      | 3 => ∃ r, xs = [i64 r] ∧ True
      | 4 => ∃ r : Int, xs = [i64 r] ∧ r ≤ 9223372036854775807
      | 5 => ∃ r : Int, xs = [i64 r] ∧ r ≤ 9223372036854775807
      | _ => ∃ r, xs = [bool r] ∧ True) Tryz.underlying35 (Go.Deep.hone_of (by kernel_rfl)) (by kernel_rfl) (fun i f hf => by
    match i, hf with
    | 0, hf => cases hf; exact sp_s
    | 1, hf => cases hf; exact sp_i
    | 2, hf => cases hf; exact sp_i
    | 3, hf => cases hf; exact sp_i
    | 4, hf => cases hf; exact sp_r
    | 5, hf => cases hf; exact sp_r
    | 6, hf => cases hf; exact sp_b
    | n + 7, hf => cases hf) _ _ _ h
  have l1 : xs.length = 7 := l1
  have ld : ds.length = 7 := ld
  obtain ⟨x0, x1, x2, x3, x4, x5, x6, rfl⟩ : ∃ a b c d e f g, xs = [a, b, c, d, e, f, g] := by
    match xs, l1 with
    | [a, b, c, d, e, f, g], _ => exact ⟨a, b, c, d, e, f, g, rfl⟩
  obtain ⟨y0, y1, y2, y3, y4, y5, y6, rfl⟩ : ∃ a b c d e f g, ds = [a, b, c, d, e, f, g] := by
    match ds, ld with
    | [a, b, c, d, e, f, g], _ => exact ⟨a, b, c, d, e, f, g, rfl⟩
  obtain ⟨n0, e0, p0⟩ := q 0 _ _ rfl rfl
  obtain ⟨n1, e1, p1⟩ := q 1 _ _ rfl rfl
  obtain ⟨n2, e2, p2⟩ := q 2 _ _ rfl rfl
  obtain ⟨n3, e3, p3⟩ := q 3 _ _ rfl rfl
  obtain ⟨n4, e4, p4⟩ := q 4 _ _ rfl rfl
  obtain ⟨n5, e5, p5⟩ := q 5 _ _ rfl rfl
  obtain ⟨n6, e6, p6⟩ := q 6 _ _ rfl rfl
  cases e0; cases e1; cases e2; cases e3; cases e4; cases e5; cases e6
  have i0 := in_agg (ds := [y0, y1, y2, y3, y4, y5, y6]) (i := 0) rfl
  rw [← e] at i0
  exact ⟨_, rfl, l2, l3, ⟨n0, n1, n2, n3, n4, n5, n6⟩, rfl, by exact Nat.le_trans p0 i0, p4, p5⟩
theorem sp_mades (hS : ∀ b, b < w.heap.size → S b) : Sp enc w S 22 1 (fun l : List Made => [.sl (l.map mc)]) fun l n => l.length ≤ n ∧ ∀ x ∈ l, x.lot.size ≤ n := sp_slice (k := 5) Tryz.underlying22 (by kernel_rfl) (by decide) hS (fun _ _ _ h1 h2 => Nat.le_trans h2 h1) sp_made
theorem sp_doings (hS : ∀ b, b < w.heap.size → S b) : Sp enc w S 23 1 (fun l : List Doing => [.sl (l.map dc)]) fun l n => l.length ≤ n ∧ ∀ x ∈ l, doIn x n := sp_slice (k := 7) Tryz.underlying23 (by kernel_rfl) (by decide) hS (fun _ _ _ h1 h2 => ⟨Nat.le_trans h2.1 h1, h2.2⟩) sp_doing
def MadesOK (l : List Made) : Prop := (∀ x ∈ l, strOK x.lot) ∧ l.length ≤ 140737488355328
def DoingsOK (l : List Doing) : Prop := (∀ x ∈ l, DOK x) ∧ l.length ≤ 140737488355328
theorem bulk_le {d : DataW H} {l : List (DataW H)} (hk : Rows.uptoSmall H l = true) (h : d ∈ l) : Rows.uptoBulk d ≤ 1048576 := Nat.le_trans (bulk_part h) (bulk_bound hk)
/-- arguments read again in a later world -/
theorem argsAgain {P : Program} (hl : laidOutB P = true) {W W' : World} (hb : Below W.heap.size W W') : ∀ {ts : List TypeId} {vs : List Value} {ds : List (DataW H)} {ps : List MemPlace}, (ts.all fun t => P.readableRec t && decide (t < P.types.size)) = true → DataW.TrodAll enc P W 0 (fun _ => true) true ts vs ds ps → (∀ p ∈ ps, p.block < W.heap.size) → ∀ sp : Nat → Bool, (∀ p ∈ ps, sp p.block = true) → DataW.TrodAll enc P W' 0 sp true ts vs ds ps
  | [], [], [], _, _, h, _, _, _ => h
  | t :: ts, v :: vs, d :: ds, ps, ht, h, hlt, sp, hs => by
    obtain ⟨p, q, h1, h2, rfl⟩ := h
    simp only [List.all_cons, Bool.and_eq_true, decide_eq_true_eq] at ht
    have ht2 : (ts.all fun t => P.readableRec t && decide (t < P.types.size)) = true := by simpa using ht.2
    exact ⟨p, q, Go.WideElems.Trod_stays hl ht.1.1 ht.1.2 h1 (fun x hx => hb.same (hlt x (List.mem_append_left _ hx))) (fun x hx => hs x (List.mem_append_left _ hx)),
      argsAgain hl hb ht2 h2 (fun x hx => hlt x (List.mem_append_right _ hx)) sp (fun x hx => hs x (List.mem_append_right _ hx)), rfl⟩
  | [], _ :: _, _, _, _, h, _, _, _ => h.elim
  | [], [], _ :: _, _, _, h, _, _, _ => h.elim
  | _ :: _, [], _, _, _, h, _, _, _ => h.elim
  | _ :: _, _ :: _, [], _, _, h, _, _, _ => h.elim
/-- what the walks ask of the world, from a card's premises -/
theorem env_of_card {W : World} (h1 : ∃ m : Int, W.cell? ⟨0, 0, none⟩ = some (.int .i64 m)) (h2 : Lib.TabIs Tryz.prog W "internal/strconv.uint64pow10" .u64 Lib.pow10Tab) : Env (fun b => b < W.heap.size) W := by
  refine ⟨?_, block_lt_of_cell (h2.cell gPow 0 (by decide)), h1, h2⟩
  obtain ⟨m, hm⟩ := h1
  exact block_lt_of_cell hm
theorem laidO : laidOutB Tryz.prog = true := by kernel_rfl
theorem str_ok {s : ByteArray} (h : s.size ≤ 1048576) : strOK s := Nat.lt_of_le_of_lt h (by decide)
theorem mades_ok {l : List Made} {n : Nat} (hn : n ≤ 1048576) (h : l.length ≤ n ∧ ∀ x ∈ l, x.lot.size ≤ n) : MadesOK l := ⟨fun x hx => str_ok (Nat.le_trans (h.2 x hx) hn), Nat.le_trans h.1 (Nat.le_trans hn (by decide))⟩
theorem doings_ok {l : List Doing} {n : Nat} (hn : n ≤ 1048576) (h : l.length ≤ n ∧ ∀ x ∈ l, doIn x n) : DoingsOK l := ⟨fun x hx => ⟨str_ok (Nat.le_trans (h.2 x hx).1 hn), (h.2 x hx).2⟩, Nat.le_trans h.1 (Nat.le_trans hn (by decide))⟩
end Go.Proofs.YtngikpapepnkaaaGreatDoor.M
