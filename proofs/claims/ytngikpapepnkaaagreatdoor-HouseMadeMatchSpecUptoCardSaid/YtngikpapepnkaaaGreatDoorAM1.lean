/- The machine of values by content: its values, its state, its single steps. -/
import Derived.StillTail
import Derived.OwnWalk
import Derived.WalkKit
import Derived.Lib.Hide
import Derived.Below
import Derived.MapKept
set_option linter.unusedSimpArgs false
set_option linter.unusedVariables false
namespace Go.AM
open Go.RowKit

/-- a value by its content: what it reaches is never written -/
inductive PV where
  | im (x : Value)
  | ag (cs : List PV)
  | sl (es : List (List PV))
  | ip (cs : List PV)
  | fn (f : FuncId) (cap : List PV)

/-- a value in a slot -/
inductive AV where
  | p (x : PV)
  | nl
  | ow (id : Nat)
  | rp (id i off : Nat)
  | bx (id off : Nat)
  | vw (id lo hi : Nat)
  | fn (f : FuncId) (cap : List AV)
  | tu (xs : List AV)
  /-- a struct, cell by cell -/
  | st (xs : List AV)
  | junk

/-- the kinds of keys -/
inductive MK where
  | str
  | int (k : IntKind)
  /-- a struct of plain cells: 0 a text, 1 a number, 2 a truth -/
  | st (sh : List Nat)
def okCell : Nat → Value → Prop
  | 0, .string _ => True
  | 1, .int k _ => k = .i64
  | 2, .bool _ => True
  | _, _ => False
def okCells : List Nat → List Value → Prop
  | [], [] => True
  | n :: s, v :: r => okCell n v ∧ okCells s r
  | _, _ => False
def MK.ok : MK → Value → Prop
  | .str, .string _ => True
  | .int k, .int k' _ => k' = k
  | .st sh, .agg xs => okCells sh xs.toList
  | _, _ => False
/-- a cell of a box that owns its rows -/
inductive HC where
  | p (x : PV)
  | row (e : TypeId) (es : List (List PV))
def HC.isRow : HC → Prop
  | .row .. => True
  | _ => False
/-- a cell of a row that owns rows in its cells -/
inductive HX where
  | av (x : AV)
  | row (e : TypeId) (es : List (List PV))
/-- an object of the call's own -/
inductive AB where
  | none
  | row (e : TypeId) (es : List (List PV))
  | frz (es : List (List PV))
  | box (cs : List AV)
  /-- a box of a known type (a builder) -/
  | tbox (ty : TypeId) (cs : List AV)
  | fbx (cs : List PV)
  | map (mk : MK) (es : List (Value × PV))
  /-- a box with rows that it owns -/
  | hbox (cs : List HC)
  /-- a row that owns rows in its cells -/
  | hrow (e : TypeId) (es : List (List HX))

def AB.live : AB → Prop
  | .row .. | .box .. | .tbox .. | .map .. | .hbox .. | .hrow .. => True
  | _ => False
/-- the type of a row's elements -/
def AB.rowE : AB → Option TypeId
  | .row e _ => some e
  | .hrow e _ => some e
  | _ => Option.none
def AB.there : AB → Prop
  | .none => False
  | _ => True

structure AS where
  t : Nat → AV
  h : Nat → AB

def upd {α : Type} (f : Nat → α) (i : Nat) (x : α) (j : Nat) : α := match Nat.beq j i with | true => x | false => f j
theorem upd_same {α : Type} (f : Nat → α) (i : Nat) (x : α) : upd f i x i = x := by simp [upd]
theorem upd_ne {α : Type} (f : Nat → α) {i j : Nat} (x : α) (h : j ≠ i) : upd f i x j = f j := by
  unfold upd
  have : Nat.beq j i = false := by rw [Bool.eq_false_iff]; intro e; exact h (Nat.eq_of_beq_eq_true e)
  rw [this]
theorem upd_self {α : Type} (f : Nat → α) (i : Nat) (x : α) (h : f i = x) : upd f i x = f := by
  funext j
  by_cases e : j = i
  · subst e; rw [upd_same, h]
  · rw [upd_ne _ _ e]

/-- what values by content say of values in a world; S: the blocks that stay -/
inductive PRep (S : Nat → Prop) (w : World) : PV → Value → Prop
  | im (x : Value) : PRep S w (.im x) x
  | ag (cs : List PV) (vs : Array Value) (hl : cs.length = vs.size) (h1 : ∀ u ∈ vs.toList, u.oneCell' = true) (h : ∀ (i : Nat) c v, cs[i]? = some c → vs[i]? = some v → PRep S w c v) : PRep S w (.ag cs) (.agg vs)
  | nil (a : Option Addr) (c : Nat) : PRep S w (.sl []) (.slice a 0 c)
  | sl (es : List (List PV)) (k b off c : Nat) (U : Nat → Nat → Value) (hc : es.length ≤ c) (hS : S b) (hk : ∀ e ∈ es, e.length = k)
      (hcell : ∀ (i : Nat) e (j : Nat) x, es[i]? = some e → e[j]? = some x → w.cell? ⟨b, off + i * k + j, none⟩ = some (U i j) ∧ (U i j).oneCell' = true)
      (h : ∀ (i : Nat) e (j : Nat) x, es[i]? = some e → e[j]? = some x → PRep S w x (U i j)) : PRep S w (.sl es) (.slice (some ⟨b, off, none⟩) es.length c)
  | ip (cs : List PV) (b off : Nat) (U : Nat → Value) (hS : S b) (hcell : ∀ (j : Nat) x, cs[j]? = some x → w.cell? ⟨b, off + j, none⟩ = some (U j) ∧ (U j).oneCell' = true)
      (h : ∀ (j : Nat) x, cs[j]? = some x → PRep S w x (U j)) : PRep S w (.ip cs) (.pointer (some ⟨b, off, none⟩))
  | fn (f : FuncId) (cap : List PV) (vs : Array Value) (hl : cap.length = vs.size) (h : ∀ (i : Nat) c v, cap[i]? = some c → vs[i]? = some v → PRep S w c v) : PRep S w (.fn f cap) (.func (.func f) #[] vs)

theorem PRep.mono {S S' : Nat → Prop} {w w' : World} {x : PV} {v : Value} (h : PRep S w x v) (hS : ∀ b, S b → S' b) (hw : ∀ b, S b → w'.heap[b]? = w.heap[b]?) : PRep S' w' x v := by
  induction h with
  | im x => exact .im x
  | ag cs vs hl h1 h ih => exact .ag cs vs hl h1 ih
  | nil a c => exact .nil a c
  | sl es k b off c U hc hb hk hcell h ih => exact .sl es k b off c U hc (hS b hb) hk (fun i e j x h1 h2 => ⟨(World.cell?_of_block (hw b hb)).trans (hcell i e j x h1 h2).1, (hcell i e j x h1 h2).2⟩) ih
  | ip cs b off U hb hcell h ih => exact .ip cs b off U (hS b hb) (fun j x h1 => ⟨(World.cell?_of_block (hw b hb)).trans (hcell j x h1).1, (hcell j x h1).2⟩) ih
  | fn f cap vs hl h ih => exact .fn f cap vs hl ih

/-- nothing but the blocks mv below the old size has turned -/
structure Fr (mv : Nat → Prop) (w w' : World) : Prop where
  os : w'.os = w.os
  tape : w'.tape = w.tape
  output : w'.output = w.output
  size : w.heap.size ≤ w'.heap.size
  block : ∀ k, k < w.heap.size → ¬ mv k → w'.heap[k]? = w.heap[k]?
theorem Fr.refl (mv : Nat → Prop) (w : World) : Fr mv w w := ⟨rfl, rfl, rfl, Nat.le_refl _, fun _ _ _ => rfl⟩
theorem Fr.trans {mv mv' : Nat → Prop} {a b c : World} (h : Fr mv a b) (k : Fr mv' b c) (hm : ∀ i, mv' i → mv i ∨ a.heap.size ≤ i) : Fr mv a c :=
  ⟨k.os.trans h.os, k.tape.trans h.tape, k.output.trans h.output, Nat.le_trans h.size k.size, fun i hi hn =>
    (k.block i (Nat.lt_of_lt_of_le hi h.size) (fun hm' => by rcases hm i hm' with h1 | h1; exact hn h1; omega)).trans (h.block i hi hn)⟩
theorem Fr.below {w w' : World} (h : Fr (fun _ => False) w w') : Below w.heap.size w w' := ⟨h.os, h.tape, h.output, h.size, fun k hk => h.block k hk (fun x => x)⟩
theorem Fr.of_below {w w' : World} (h : Below w.heap.size w w') : Fr (fun _ => False) w w' := ⟨h.os, h.tape, h.output, h.size, fun k hk _ => h.block k hk⟩

/-- a slice of the call's own: its block lies apart, its first cells read as es -/
def RowRep {α : Type} (P : Program) (w : World) (R : α → Value → Prop) (e : TypeId) (es : List (List α)) (v : Value) : Prop :=
  ∃ i xs, P.info? e = some i ∧ 0 < i.size ∧ w.ownsRow 0 e i.size v es.length xs ∧ (∀ r ∈ es, r.length = i.size) ∧ (∀ u ∈ xs, u.oneCell' = true) ∧
    ∀ (a : Nat) r (j : Nat) x, es[a]? = some r → r[j]? = some x → ∃ u, xs[a * i.size + j]? = some u ∧ R x u

def blk : Value → Option Nat
  | .slice (some a) _ _ => some a.block
  | .pointer (some a) => some a.block
  | .map (some g) => some g
  | _ => none

/-- what the slots say; rho: the handles of the call's own objects; L: which of them are there yet -/
inductive LRep (S : Nat → Prop) (w : World) (P : Program) (L : Nat → Prop) (rho : Nat → Value) (h : Nat → AB) : AV → Value → Prop
  | p (x : PV) (v : Value) (hx : PRep S w x v) : LRep S w P L rho h (.p x) v
  | nl : LRep S w P L rho h .nl (.slice none 0 0)
  | ow (id : Nat) (v : Value) (hv : (h id).there → L id ∧ v = rho id) : LRep S w P L rho h (.ow id) v
  | rp (id i off : Nat) (v : Value) (hv : ∀ e, (h id).rowE = some e → L id ∧ ∃ g n c ti, rho id = .slice (some ⟨g, 0, none⟩) n c ∧ P.info? e = some ti ∧ v = .pointer (some ⟨g, i * ti.size + off, none⟩)) : LRep S w P L rho h (.rp id i off) v
  | bx (id off : Nat) (v : Value) (hv : (h id).there → L id ∧ ∃ g, rho id = .pointer (some ⟨g, 0, none⟩) ∧ v = .pointer (some ⟨g, off, none⟩)) : LRep S w P L rho h (.bx id off) v
  | vw (id lo hi : Nat) (v : Value) (hv : ∀ e, (h id).rowE = some e → L id ∧ ∃ n c a ti, rho id = .slice a n c ∧ P.info? e = some ti ∧ lo ≤ hi ∧ hi ≤ n ∧ n ≤ c ∧ v = .slice (if c = lo then a else a.map (·.add (lo * ti.size))) (hi - lo) (c - lo)) : LRep S w P L rho h (.vw id lo hi) v
  | fn (f : FuncId) (cap : List AV) (vs : Array Value) (hl : cap.length = vs.size) (hc : ∀ (i : Nat) c v, cap[i]? = some c → vs[i]? = some v → LRep S w P L rho h c v) : LRep S w P L rho h (.fn f cap) (.func (.func f) #[] vs)
  | tu (xs : List AV) (vs : Array Value) (hl : xs.length = vs.size) (hc : ∀ (i : Nat) c v, xs[i]? = some c → vs[i]? = some v → LRep S w P L rho h c v) : LRep S w P L rho h (.tu xs) (.tuple vs)
  | st (xs : List AV) (vs : Array Value) (hl : xs.length = vs.size) (h1 : ∀ u ∈ vs.toList, u.oneCell' = true) (hc : ∀ (i : Nat) c v, xs[i]? = some c → vs[i]? = some v → LRep S w P L rho h c v) : LRep S w P L rho h (.st xs) (.agg vs)
  | junk (v : Value) : LRep S w P L rho h .junk v

def HCRep (S : Nat → Prop) (w : World) (P : Program) : HC → Value → Prop
  | .p x, u => PRep S w x u
  | .row e es, u => RowRep P w (PRep S w) e es u
/-- a box with rows that it owns, at the block g -/
structure HBox (S : Nat → Prop) (w : World) (P : Program) (cs : List HC) (g : Nat) (ty : TypeId) (c : Array Value) : Prop where
  hp : w.heap[g]? = some (.cells c ty (0, 0))
  sz : c.size = cs.length
  cell : ∀ (j : Nat) x u, cs[j]? = some x → c[j]? = some u → u.oneCell' = true ∧ HCRep S w P x u
  top : ∀ (j : Nat) x u b, cs[j]? = some x → c[j]? = some u → x.isRow → blk u = some b → b ≠ g
  dis : ∀ (i j : Nat) x y u v b, cs[i]? = some x → cs[j]? = some y → c[i]? = some u → c[j]? = some v → x.isRow → y.isRow → blk u = some b → blk v = some b → i = j
/-- what a cell of a row with rows says -/
def HXRep (S : Nat → Prop) (w : World) (P : Program) (L : Nat → Prop) (rho : Nat → Value) (h : Nat → AB) : HX → Value → Prop
  | .av x, u => LRep S w P L rho h x u
  | .row e es, u => RowRep P w (PRep S w) e es u
/-- the value of an owned row in a row's cell -/
def hcellB (w : World) (es : List (List HX)) (g : Nat) (a j : Nat) (u : Value) : Prop := ∃ (r : List HX) (e : TypeId) (xs : List (List PV)) (c : Array Value) (ty : TypeId) (m : Nat × Nat), es[a]? = some r ∧ r[j]? = some (.row e xs) ∧ w.heap[g]? = some (.cells c ty m) ∧ c[a * r.length + j]? = some u
/-- a row with rows in its cells: they lie apart -/
structure HSep (w : World) (es : List (List HX)) (v : Value) : Prop where
  top : ∀ g a j u b, blk v = some g → hcellB w es g a j u → blk u = some b → b ≠ g
  dis : ∀ g a j a' j' u u' b, blk v = some g → hcellB w es g a j u → hcellB w es g a' j' u' → blk u = some b → blk u' = some b → a = a' ∧ j = j'
/-- the blocks of the rows that a row owns in its cells -/
def innR (w : World) (x : AB) (v : Value) (k : Nat) : Prop := ∃ e es g a j u, x = .hrow e es ∧ blk v = some g ∧ hcellB w es g a j u ∧ blk u = some k
/-- the blocks of the rows that a box owns -/
def innC (w : World) (x : AB) (v : Value) (k : Nat) : Prop := ∃ cs g, x = .hbox cs ∧ blk v = some g ∧ ∃ (c : Array Value) (ty : TypeId) (m : Nat × Nat) (j : Nat) (y : HC) (u : Value), w.heap[g]? = some (.cells c ty m) ∧ cs[j]? = some y ∧ y.isRow ∧ c[j]? = some u ∧ blk u = some k
def inn (w : World) (x : AB) (v : Value) (k : Nat) : Prop := innC w x v k ∨ innR w x v k
/-- the blocks that an object owns -/
def hasB (w : World) (x : AB) (v : Value) (k : Nat) : Prop := blk v = some k ∨ inn w x v k
theorem hasB_blk {w : World} {x : AB} {v : Value} {k : Nat} (h : blk v = some k) : hasB w x v k := .inl h
theorem hcellB_turn {w w' : World} {es : List (List HX)} {g a j : Nat} {u : Value} (hw : w'.heap[g]? = w.heap[g]?) (h : hcellB w' es g a j u) : hcellB w es g a j u := by
  obtain ⟨r, e, xs, c, ty, m, h1, h2, h3, h4⟩ := h
  exact ⟨r, e, xs, c, ty, m, h1, h2, by rw [← hw]; exact h3, h4⟩
theorem hasB_turn {w w' : World} {x : AB} {v : Value} {k : Nat} (hw : ∀ g, blk v = some g → w'.heap[g]? = w.heap[g]?) (h : hasB w' x v k) : hasB w x v k := by
  rcases h with h | ⟨cs, g, hx, hv, c, ty, m, j, y, u, h1, h2⟩ | ⟨e, es, g, a, j, u, hx, hv, h1, h2⟩
  · exact .inl h
  · exact .inr (.inl ⟨cs, g, hx, hv, c, ty, m, j, y, u, by rw [← hw g hv]; exact h1, h2⟩)
  · exact .inr (.inr ⟨e, es, g, a, j, u, hx, hv, hcellB_turn (hw g hv) h1, h2⟩)
def notH : AB → Bool
  | .hbox _ => false
  | .hrow _ _ => false
  | _ => true
theorem hasB_plain {w : World} {x : AB} {v : Value} {k : Nat} (hx : notH x = true) (h : hasB w x v k) : blk v = some k := by
  rcases h with h | ⟨cs, g, rfl, _⟩ | ⟨e, es, g, a, j, u, rfl, _⟩
  · exact h
  · cases hx
  · cases hx
/-- what an object of the call's own says -/
def HRep (S : Nat → Prop) (w : World) (P : Program) (L : Nat → Prop) (rho : Nat → Value) (h : Nat → AB) (id : Nat) : AB → Prop
  | .none => True
  | .row e es => RowRep P w (PRep S w) e es (rho id)
  | .frz es => PRep S w (.sl es) (rho id)
  | .box cs => ∃ g ty c, rho id = .pointer (some ⟨g, 0, none⟩) ∧ w.heap[g]? = some (.cells c ty (0, 0)) ∧ c.size = cs.length ∧ ∀ (j : Nat) x u, cs[j]? = some x → c[j]? = some u → u.oneCell' = true ∧ LRep S w P L rho h x u
  | .tbox ty cs => ∃ g c, rho id = .pointer (some ⟨g, 0, none⟩) ∧ w.heap[g]? = some (.cells c ty (0, 0)) ∧ c.size = cs.length ∧ ∀ (j : Nat) x u, cs[j]? = some x → c[j]? = some u → u.oneCell' = true ∧ LRep S w P L rho h x u
  | .fbx cs => PRep S w (.ip cs) (rho id)
  | .hbox cs => ∃ g ty c, rho id = .pointer (some ⟨g, 0, none⟩) ∧ HBox S w P cs g ty c
  | .hrow e es => RowRep P w (HXRep S w P L rho h) e es (rho id) ∧ HSep w es (rho id)
  | .map mk es => ∃ g ms clock, rho id = .map (some g) ∧ w.heap[g]? = some (.map ms clock) ∧ ms.size = es.length ∧ ∀ (i : Nat) p m, es[i]? = some p → ms[i]? = some m → m.key = p.1 ∧ mk.ok p.1 ∧ PRep S w p.2 m.val

end Go.AM
namespace Go.AM
open Go.RowKit

/-- a type, as far as the machine wants it -/
inductive UD where
  | sc
  | int (k : IntKind)
  | st (fs : List (Nat × Nat × Bool))
  | sl (e : TypeId)
  | str
  | mp (k e : TypeId)
structure TI where
  ud : UD
  size : Nat
  bytes : Nat
  zero : List Value
  /-- plain equality: all cells are numbers, letters or truths -/
  eq : Bool := false
def UD.agg : UD → Bool
  | .st _ => true
  | _ => false

inductive Arg where
  | pv (x : PV)
  | row (e : TypeId) (es : List (List PV))
  | box (cs : List PV)
  | hbox (cs : List HC)
inductive AR where
  | p (x : PV)
  | own (e : TypeId) (es : List (List PV))
  | tu (xs : List PV)
  | hown (cs : List HC)
inductive Fin where
  | gone
  | row (es : List (List PV))
  | box (cs : List PV)
  | hbox (cs : List HC)

structure Ctx where
  P : Program
  T : TypeId → Option TI
  md : FuncId → Nat → Bool
  E : (Nat → Prop) → World → Prop
  /-- functions that take a box with a row of its own (a builder) last -/
  bl : FuncId → Bool := fun _ => false
  /-- the types of such boxes -/
  bt : TypeId → Bool := fun _ => false
  /-- structs that are built with their nil slices known as such -/
  bn : TypeId → Bool := fun _ => false
  /-- structs that are built cell by cell, their own rows kept -/
  bo : TypeId → Bool := fun _ => false
  /-- rows that are built as contents, by the slot -/
  bf : Nat → Bool := fun _ => false

/-- keys -/
def vEq0 : Value → Value → Bool
  | .string a, .string b => decide (a = b)
  | .int _ a, .int _ b => decide (a = b)
  | .bool a, .bool b => decide (a = b)
  | _, _ => false
def vEqs : List Value → List Value → Bool
  | [], [] => true
  | x :: r, y :: s => vEq0 x y && vEqs r s
  | _, _ => false
def vEq : Value → Value → Bool
  | .string a, .string b => decide (a = b)
  | .int _ a, .int _ b => decide (a = b)
  | .agg a, .agg b => vEqs a.toList b.toList
  | _, _ => false
def mget : List (Value × PV) → Value → Option PV
  | [], _ => none
  | (k', v) :: r, k => match vEq k k' with
    | true => some v
    | false => mget r k
def mput : List (Value × PV) → Value → PV → List (Value × PV)
  | [], k, v => [(k, v)]
  | (k', u) :: r, k, v => match vEq k k' with
    | true => (k, v) :: r
    | false => (k', u) :: mput r k v
def shOf : List Value → Option (List Nat)
  | [] => some []
  | .string _ :: r => (shOf r).map (0 :: ·)
  | .int .i64 _ :: r => (shOf r).map (1 :: ·)
  | .bool _ :: r => (shOf r).map (2 :: ·)
  | _ => none
def mkOf (ti : TI) : Option MK := match ti.ud with
  | .str => some .str
  | .int k => some (.int k)
  | .st _ => match ti.eq with
    | true => (shOf ti.zero).map .st
    | false => none
  | _ => none
def shB : List Nat → List Nat → Bool
  | [], [] => true
  | a :: r, b :: s => match Nat.beq a b with
    | true => shB r s
    | false => false
  | _, _ => false
def mkB : MK → MK → Bool
  | .str, .str => true
  | .int .i64, .int .i64 => true
  | .st a, .st b => shB a b
  | _, _ => false
def keyCells : List Nat → List PV → Option (List Value)
  | [], [] => some []
  | 0 :: s, .im (.string x) :: r => (keyCells s r).map (.string x :: ·)
  | 1 :: s, .im (.int .i64 x) :: r => (keyCells s r).map (.int .i64 x :: ·)
  | 2 :: s, .im (.bool x) :: r => (keyCells s r).map (.bool x :: ·)
  | _, _ => none
def keyOf : MK → AV → Option Value
  | .str, .p (.im (.string s)) => some (.string s)
  | .int .i64, .p (.im (.int .i64 n)) => some (.int .i64 n)
  | .st sh, .p (.ag cs) => (keyCells sh cs).map fun l => .agg l.toArray
  | _, _ => none
/-- an operation's value, what it does to the objects that are there, the object that it makes (its name: the slot) -/
abbrev KK := AV → List (Nat × AB) → Option AB → Prop
def app (h : Nat → AB) : List (Nat × AB) → Nat → AB
  | [] => h
  | (i, b) :: r => app (upd h i b) r

def pvOf : Value → PV
  | .slice none 0 0 => .sl []
  | v => .im v
def pvN (b : Bool) (v : Value) : PV := match b with
  | true => .im v
  | false => pvOf v
def avN : PV → AV
  | .im (.slice none 0 0) => .nl
  | x => .p x
def avOf : Value → AV
  | .slice none 0 0 => .nl
  | v => .p (.im v)
def constAV : Value → AV
  | .slice none 0 0 => .nl
  | .agg cs => match cs.toList.all Value.oneCell' with
    | true => .p (.ag (cs.toList.map pvOf))
    | false => .junk
  | v => .p (.im v)
def ev (t : Nat → AV) : Operand → AV
  | .tmp j => t j
  | .const v => constAV v
  | .global g => .p (.im (.pointer (some ⟨g, 0, none⟩)))
  | .func f => .p (.im (.func (.func f) #[] #[]))

def cellsPV : List AV → Option (List PV)
  | [] => some []
  | .p x :: r => (cellsPV r).map (x :: ·)
  | .nl :: r => (cellsPV r).map (.sl [] :: ·)
  | _ => none
/-- a value by content; what is the call's own is from now on never written -/
def toPV1 (h : Nat → AB) (a : AV) (K : PV → List (Nat × AB) → Prop) : Prop :=
  match a with
  | .p x => K x []
  | .nl => K (.sl []) []
  | .ow id => match h id with
    | .row _ es => K (.sl es) [(id, .frz es)]
    | .frz es => K (.sl es) []
    | _ => False
  | .bx id off => match h id with
    | .box cs => match cellsPV cs with
      | some xs => K (.ip (xs.drop off)) [(id, .fbx xs)]
      | none => False
    | .fbx xs => K (.ip (xs.drop off)) []
    | _ => False
  | _ => False
def toPVs (h : Nat → AB) : List AV → (List PV → List (Nat × AB) → Prop) → Prop
  | [], K => K [] []
  | a :: r, K => toPV1 h a fun x fz => toPVs h r fun xs fz' => K (x :: xs) (fz ++ fz')
/-- a function with what it reaches, too -/
def toPV (h : Nat → AB) (a : AV) (K : PV → List (Nat × AB) → Prop) : Prop :=
  match a with
  | .fn f cap => toPVs h cap fun xs fz => K (.fn f xs) fz
  | a => toPV1 h a K
/-- the cells of a value by content -/
def pcells : PV → Option (List PV)
  | .ag cs => some cs
  | .im x => match x.oneCell' with
    | true => some [.im x]
    | false => none
  | x => some [x]
/-- a value of one cell -/
def one1 (h : Nat → AB) : AV → Bool
  | .p (.im x) => x.oneCell'
  | .p (.ag _) => false
  | .p _ => true
  | .nl => true
  | .ow id => match h id with
    | .row _ _ => true
    | .hrow _ _ => true
    | .frz _ => true
    | _ => false
  | .bx id _ => match h id with
    | .none => false
    | _ => true
  | .rp id _ _ => match h id with
    | .row _ _ => true
    | .hrow _ _ => true
    | _ => false
  | .fn _ _ => true
  | _ => false
def setCells {α : Type} : List α → Nat → List α → List α
  | cs, _, [] => cs
  | cs, off, x :: r => setCells (cs.set off x) (off + 1) r
def noId (id : Nat) : List (Nat × AB) → Bool
  | [] => true
  | (i, _) :: r => match Nat.beq i id with
    | true => false
    | false => noId id r
def leB (a b : Nat) : Bool := Nat.ble a b
def eqB (a b : Nat) : Bool := Nat.beq a b
def InI (x : Int) : Prop := -9223372036854775808 ≤ x ∧ x ≤ 9223372036854775807
def isNil0 {α : Type} : List α → Bool
  | [] => true
  | _ => false
def kB (a b : IntKind) : Bool := match a, b with
  | .i8, .i8 | .i16, .i16 | .i32, .i32 | .i64, .i64 | .u8, .u8 | .u16, .u16 | .u32, .u32 | .u64, .u64 => true
  | _, _ => false
def is64 : IntKind → Bool
  | .i64 => true
  | _ => false
/-- a number: of 64 bits it must lie in the range -/
def numK (k : IntKind) (n : Int) (K : Value → Prop) : Prop := match is64 k with
  | true => InI n ∧ K (.int .i64 n)
  | false => K (.int k (k.wrap n))

def eqCells : List Value → List PV → List PV → Option Bool
  | [], [], [] => some true
  | .int _ _ :: z, .im (.int k a) :: r, .im (.int k' b) :: s => match kB k k' with
    | true => (eqCells z r s).map (decide (a = b) && ·)
    | false => none
  | .string _ :: z, .im (.string a) :: r, .im (.string b) :: s => (eqCells z r s).map (decide (a = b) && ·)
  | .bool _ :: z, .im (.bool a) :: r, .im (.bool b) :: s => (eqCells z r s).map (decide (a = b) && ·)
  | _, _, _ => none

/-- a slice with cells, held against nil -/
def anil (T : TypeId → Option TI) (op : BinOp) (t : TypeId) (x : PV) (K : Value → Prop) : Prop := match x with
  | .sl es => match isNil0 es with
    | true => False
    | false => match T t with
      | some { ud := .sl _, .. } => match op with
        | .eql => K (.bool false)
        | .neq => K (.bool true)
        | _ => False
      | _ => False
  | _ => False
def shrB : BinOp → Bool
  | .shr => true
  | _ => false
def abin (T : TypeId → Option TI) (op : BinOp) (t : TypeId) (x y : PV) (K : Value → Prop) : Prop :=
  match x, y with
  | .im (.int k a), .im (.int k' b) => match shrB op with
   | true => (0 ≤ b ∧ b < 64) ∧ K (.int k (a.fdiv (2 ^ (min b.toNat k.bits))))
   | false => match kB k k' with
    | false => False
    | true => match op with
      | .add => numK k (a + b) K
      | .sub => numK k (a - b) K
      | .mul => numK k (a * b) K
      | .quo => b ≠ 0 ∧ numK k (a.tdiv b) K
      | .rem => b ≠ 0 ∧ K (.int k (a.tmod b))
      | .eql => K (.bool (decide (a = b)))
      | .neq => K (.bool (!decide (a = b)))
      | .lss => K (.bool (decide (a < b)))
      | .leq => K (.bool (decide (a ≤ b)))
      | .gtr => K (.bool (decide (a > b)))
      | .geq => K (.bool (decide (a ≥ b)))
      | _ => False
  | .im (.string a), .im (.string b) => match op with
    | .add => a.size + b.size ≤ 9223372036854775807 ∧ K (.string (a ++ b))
    | .eql => K (.bool (decide (a = b)))
    | .neq => K (.bool (!decide (a = b)))
    | .lss => K (.bool (Op.bytesLess a.data.toList b.data.toList))
    | .leq => K (.bool (Op.bytesLess a.data.toList b.data.toList || decide (a = b)))
    | .gtr => K (.bool !(Op.bytesLess a.data.toList b.data.toList || decide (a = b)))
    | .geq => K (.bool !(Op.bytesLess a.data.toList b.data.toList))
    | _ => False
  | .im (.bool a), .im (.bool b) => match T t with
    | some { ud := .sc, eq := true, .. } => match op with
      | .eql => K (.bool (decide (a = b)))
      | .neq => K (.bool (!decide (a = b)))
      | _ => False
    | _ => False
  | .ag a, .ag b => match T t with
    | some { ud := .st _, eq := true, size := n, zero := z, .. } => match eqB n a.length with
      | false => False
      | true => match op with
        | .eql => match eqCells z a b with
          | some r => K (.bool r)
          | none => False
        | .neq => match eqCells z a b with
          | some r => K (.bool !r)
          | none => False
        | _ => False
    | _ => False
  | _, _ => False

def blkIs (v : Value) (g : Nat) : Prop := blk v = some g
/-- what an argument says; a handed one lies apart from what stays -/
def ArgRep (S : Nat → Prop) (w : World) (P : Program) : Arg → Value → Prop
  | .pv x, v => PRep S w x v
  | .row e es, v => RowRep P w (PRep S w) e es v ∧ ∀ g, blk v = some g → ¬ S g
  | .box cs, v => ∃ g ty c, v = .pointer (some ⟨g, 0, none⟩) ∧ w.heap[g]? = some (.cells c ty (0, 0)) ∧ c.size = cs.length ∧ ¬ S g ∧ ∀ (j : Nat) x u, cs[j]? = some x → c[j]? = some u → u.oneCell' = true ∧ PRep S w x u
  | .hbox cs, v => ∃ g ty c, v = .pointer (some ⟨g, 0, none⟩) ∧ HBox S w P cs g ty c ∧ ∀ k, hasB w (.hbox cs) v k → ¬ S k ∧ k < w.heap.size
def argB : Arg → AB
  | .hbox cs => .hbox cs
  | _ => .none
def finB : Fin → AB
  | .hbox cs => .hbox cs
  | _ => .none
def Arg.handed : Arg → Bool
  | .pv _ => false
  | _ => true
/-- the blocks that are handed over -/
def Mv (w : World) (args : List Arg) (vs : Array Value) (g : Nat) : Prop := ∃ (j : Nat) (x : Arg) (v : Value), args[j]? = some x ∧ vs[j]? = some v ∧ x.handed = true ∧ hasB w (argB x) v g
/-- what comes back in a handed argument -/
def FinRep (S : Nat → Prop) (w : World) (P : Program) : Arg → Fin → Value → Prop
  | _, .gone, _ => True
  | .row e _, .row es, v => RowRep P w (PRep S w) e es v ∧ ∀ g, blk v = some g → ¬ S g
  | .box _, .box cs, v => ∃ g ty c, v = .pointer (some ⟨g, 0, none⟩) ∧ w.heap[g]? = some (.cells c ty (0, 0)) ∧ c.size = cs.length ∧ ¬ S g ∧ ∀ (j : Nat) x u, cs[j]? = some x → c[j]? = some u → u.oneCell' = true ∧ PRep S w x u
  | .hbox _, .hbox cs, v => ∃ g ty c, v = .pointer (some ⟨g, 0, none⟩) ∧ HBox S w P cs g ty c ∧ ∀ k, hasB w (.hbox cs) v k → ¬ S k
  | _, _, _ => False
def Fin.kept : Fin → Bool
  | .gone => false
  | _ => true
def RRep (S : Nat → Prop) (w : World) (P : Program) : AR → Value → Prop
  | .p x, v => PRep S w x v
  | .own e es, v => RowRep P w (PRep S w) e es v ∧ ∀ g, blk v = some g → ¬ S g
  | .hown cs, v => ∃ g ty c, v = .pointer (some ⟨g, 0, none⟩) ∧ HBox S w P cs g ty c ∧ ∀ k, hasB w (.hbox cs) v k → ¬ S k
  | .tu xs, v => ∃ vs : Array Value, v = .tuple vs ∧ xs.length = vs.size ∧ ∀ (i : Nat) x u, xs[i]? = some x → vs[i]? = some u → PRep S w x u
def AR.owns : AR → Bool
  | .own .. => true
  | .hown .. => true
  | _ => false
def AR.ab : AR → AB
  | .hown cs => .hbox cs
  | _ => .none
/-- the handed arguments, each with what comes back -/
def FinAll (S : Nat → Prop) (w : World) (P : Program) : List Arg → List Fin → List Value → Prop
  | [], [], [] => True
  | x :: xs, fs, v :: vs => match x.handed with
    | false => FinAll S w P xs fs vs
    | true => match fs with
      | f :: fs => FinRep S w P x f v ∧ FinAll S w P xs fs vs
      | [] => False
  | _, _, _ => False
/-- the blocks of handed arguments that come back as the call's own, by the argument's place -/
def finOwn (w : World) : List Arg → List Fin → List Value → Nat → Nat → Prop
  | x :: xs, fs, v :: vs, i, g => match x.handed with
    | false => match i with
      | 0 => False
      | i + 1 => finOwn w xs fs vs i g
    | true => match fs with
      | f :: fs => match i with
        | 0 => f.kept = true ∧ hasB w (finB f) v g
        | i + 1 => finOwn w xs fs vs i g
      | [] => False
  | _, _, _, _, _ => False
/-- what comes back lies apart, and comes of what was handed or is new -/
def FinOK (w w' : World) (args : List Arg) (fin : List Fin) (vs : Array Value) : Prop :=
  (∀ i g, finOwn w' args fin vs.toList i g → g < w'.heap.size ∧ (w.heap.size ≤ g ∨ Mv w args vs g)) ∧ ∀ i j g, finOwn w' args fin vs.toList i g → finOwn w' args fin vs.toList j g → i = j

/-- a call of f at these arguments returns r, and leaves what was handed as fin says; nothing else turns -/
def ACalls (C : Ctx) (f : FuncId) (args : List Arg) (r : AR) (fin : List Fin) : Prop :=
  (∃ fn : Func, C.P.funcs[f]? = some fn ∧ (fn.name == "runtime.NumGoroutine") = false ∧ fn.body.isNone = false) ∧
  ∀ (S : Nat → Prop) (w : World) (vs : Array Value), C.E S w → (∀ b, S b → b < w.heap.size) → args.length = vs.size →
    (∀ (j : Nat) x v, args[j]? = some x → vs[j]? = some v → ArgRep S w C.P x v) →
    (∀ (i j : Nat) x y v u g, args[i]? = some x → args[j]? = some y → vs[i]? = some v → vs[j]? = some u → x.handed = true → y.handed = true → hasB w (argB x) v g → hasB w (argB y) u g → i = j) →
    Calls C.P f vs w fun e w' => ∃ v S', e = .returned v ∧ Fr (Mv w args vs) w w' ∧ (∀ b, S b → S' b) ∧ (∀ b, S' b → b < w'.heap.size) ∧ (∀ b, S' b → S b ∨ w.heap.size ≤ b ∨ Mv w args vs b) ∧
      RRep S' w' C.P r v ∧ FinAll S' w' C.P args fin vs.toList ∧ FinOK w w' args fin vs ∧ (∀ g, r.owns = true → hasB w' r.ab v g → g < w'.heap.size ∧ (w.heap.size ≤ g ∨ Mv w args vs g) ∧ ∀ i, ¬ finOwn w' args fin vs.toList i g)

/-- the arguments of a call: by content, or handed over; ids: the handed objects as they were; fz: what a kept content would freeze -/
def aargs (md : Nat → Bool) (h : Nat → AB) : Nat → List AV → (List Arg → List (Nat × AB) → List (Nat × AB) → Prop) → Prop
  | _, [], K => K [] [] []
  | j, a :: r, K => match md j with
    | false => toPV h a fun x fz => aargs md h (j + 1) r fun xs ids fz' => K (.pv x :: xs) ids (fz ++ fz')
    | true => match a with
      | .ow id => match h id with
        | .row e es => aargs md h (j + 1) r fun xs ids fz => K (.row e es :: xs) ((id, .row e es) :: ids) fz
        | .frz es => aargs md h (j + 1) r fun xs ids fz => K (.pv (.sl es) :: xs) ids fz
        | _ => False
      | .p x => aargs md h (j + 1) r fun xs ids fz => K (.pv x :: xs) ids fz
      | .bx id 0 => match h id with
        | .box cs => match cellsPV cs with
          | some ys => aargs md h (j + 1) r fun xs ids fz => K (.box ys :: xs) ((id, .box cs) :: ids) fz
          | none => False
        | .hbox cs => aargs md h (j + 1) r fun xs ids fz => K (.hbox cs :: xs) ((id, .hbox cs) :: ids) fz
        | _ => False
      | _ => False
def pfree : PV → Bool
  | .im _ => true
  | .ag cs => cs.all fun | .im _ => true | _ => false
  | _ => false
def AR.free : AR → Bool
  | .p x => pfree x
  | .tu xs => xs.all pfree
  | .own .. => false
  | .hown .. => false
def finEff : List (Nat × AB) → List Fin → Option (List (Nat × AB))
  | [], [] => some []
  | (id, _) :: ids, .gone :: fs => (finEff ids fs).map ((id, .none) :: ·)
  | (id, .row e _) :: ids, .row es :: fs => (finEff ids fs).map ((id, .row e es) :: ·)
  | (id, .box _) :: ids, .box cs :: fs => (finEff ids fs).map ((id, .box (cs.map .p)) :: ·)
  | (id, .hbox _) :: ids, .hbox cs :: fs => (finEff ids fs).map ((id, .hbox cs) :: ·)
  | _, _ => none
def rNew : AR → Option AB
  | .own e es => some (.row e es)
  | .hown cs => some (.hbox cs)
  | _ => none
def rAV (d : Nat) : AR → AV
  | .p x => .p x
  | .own .. => .ow d
  | .hown _ => .bx d 0
  | .tu xs => .tu (xs.map .p)
def isNil {α : Type} : List α → Bool
  | [] => true
  | _ => false
/-- what is handed over is handed once, and is not kept as a content beside it -/
def okIds : List (Nat × AB) → List (Nat × AB) → Bool
  | [], _ => true
  | (i, _) :: r, fz => noId i fz && noId i r && okIds r fz
def acall0 (C : Ctx) (h : Nat → AB) (d : Nat) (f : FuncId) (args : List AV) (K : KK) : Prop :=
  aargs (C.md f) h 0 args fun xs ids fz => ∃ r fin, ACalls C f xs r fin ∧ match finEff ids fin with
    | some fe => match okIds ids fz with
      | true => match r.free && isNil ids with
        | true => K (rAV d r) [] none
        | false => K (rAV d r) (fz ++ fe) (rNew r)
      | false => False
    | none => False
/-- a cell by its content -/
inductive HXP : HX → PV → Prop
  | p (x : PV) : HXP (.av (.p x)) x
  | nl : HXP (.av .nl) (.sl [])
  | row (e : TypeId) (xs : List (List PV)) : HXP (.row e xs) (.sl xs)
/-- a row with rows, by the content of its cells -/
structure HXs (es : List (List HX)) (ps : List (List PV)) : Prop where
  len : ps.length = es.length
  row : ∀ (a : Nat) r q, es[a]? = some r → ps[a]? = some q → q.length = r.length ∧ ∀ (j : Nat) x y, r[j]? = some x → q[j]? = some y → HXP x y
/-- what a value says by content, while nothing is written -/
inductive View1 (h : Nat → AB) : AV → PV → Prop
  | p (x : PV) : View1 h (.p x) x
  | nl : View1 h .nl (.sl [])
  | row (id : Nat) (e : TypeId) (es : List (List PV)) (hr : h id = .row e es) : View1 h (.ow id) (.sl es)
  | frz (id : Nat) (es : List (List PV)) (hr : h id = .frz es) : View1 h (.ow id) (.sl es)
  | hrow (id : Nat) (e : TypeId) (es : List (List HX)) (ps : List (List PV)) (hr : h id = .hrow e es) (hp : HXs es ps) : View1 h (.ow id) (.sl ps)
inductive Views1 (h : Nat → AB) : List AV → List PV → Prop
  | nil : Views1 h [] []
  | cons {a : AV} {x : PV} {as : List AV} {xs : List PV} (h1 : View1 h a x) (h2 : Views1 h as xs) : Views1 h (a :: as) (x :: xs)
inductive View (h : Nat → AB) : AV → PV → Prop
  | one {a : AV} {x : PV} (h1 : View1 h a x) : View h a x
  | box (id off : Nat) (cs : List AV) (xs : List PV) (hb : h id = .box cs) (hx : Views1 h cs xs) : View h (.bx id off) (.ip (xs.drop off))
  | fbx (id off : Nat) (xs : List PV) (hb : h id = .fbx xs) : View h (.bx id off) (.ip (xs.drop off))
inductive Views (h : Nat → AB) : List AV → List PV → Prop
  | nil : Views h [] []
  | cons {a : AV} {x : PV} {as : List AV} {xs : List PV} (h1 : View h a x) (h2 : Views h as xs) : Views h (a :: as) (x :: xs)
/-- a call that only looks: what it gives reaches nothing -/
def vcall (C : Ctx) (h : Nat → AB) (d : Nat) (f : FuncId) (args : List AV) (K : KK) : Prop := ∃ xs r, Views h args xs ∧ ACalls C f (xs.map .pv) r [] ∧ r.free = true ∧ K (rAV d r) [] none
def isOw : AV → Bool
  | .ow _ => true
  | _ => false
def anyB {α : Type} (f : α → Bool) : List α → Bool
  | [] => false
  | x :: r => match f x with
    | true => true
    | false => anyB f r
def needsV1 (h : Nat → AB) : AV → Bool
  | .bx id _ => match h id with
    | .box cs => anyB isOw cs
    | _ => false
  | .ow id => match h id with
    | .hrow _ _ => true
    | _ => false
  | _ => false
def acall (C : Ctx) (h : Nat → AB) (d : Nat) (f : FuncId) (args : List AV) (K : KK) : Prop := match anyB (needsV1 h) args with
  | false => acall0 C h d f args K
  | true => vcall C h d f args K

/-- a call of f at contents and a box that holds a pointer to itself (or none) and a row of its own: the row is turned -/
def BCalls (C : Ctx) (f : FuncId) (xs : List PV) (ty e : TypeId) (es : List (List PV)) (r : AR) (ch : Bool) (es' : Option (List (List PV))) : Prop :=
  (∃ fn : Func, C.P.funcs[f]? = some fn ∧ (fn.name == "runtime.NumGoroutine") = false ∧ fn.body.isNone = false) ∧
  ∀ (S : Nat → Prop) (w : World) (vs : List Value) (b : Nat) (u0 u1 : Value), C.E S w → (∀ k, S k → k < w.heap.size) → xs.length = vs.length →
    (∀ (j : Nat) x v, xs[j]? = some x → vs[j]? = some v → PRep S w x v) → w.heap[b]? = some (.cells #[u0, u1] ty (0, 0)) → (u0 = .pointer none ∨ u0 = .pointer (some ⟨b, 0, none⟩)) →
    RowRep C.P w (PRep S w) e es u1 → ¬ S b → (∀ g, blk u1 = some g → ¬ S g ∧ g ≠ b ∧ g < w.heap.size) →
    Calls C.P f (vs ++ [Value.pointer (some ⟨b, 0, none⟩)]).toArray w fun e' w' => ∃ v, e' = .returned v ∧ Fr (fun k => k = b ∨ blk u1 = some k) w w' ∧ RRep S w' C.P r v ∧ match es' with
      | none => True
      | some es' => ∃ u1', w'.heap[b]? = some (.cells #[(match ch with | true => Value.pointer (some ⟨b, 0, none⟩) | false => u0), u1'] ty (0, 0)) ∧ RowRep C.P w' (PRep S w') e es' u1' ∧ ∀ g, blk u1' = some g → g < w'.heap.size ∧ (blk u1 = some g ∨ w.heap.size ≤ g)
def splitLast : List AV → Option (List AV × AV)
  | [] => none
  | [x] => some ([], x)
  | x :: y :: r => match splitLast (y :: r) with
    | some (l, z) => some (x :: l, z)
    | none => none
def selfB (id : Nat) : AV → Bool
  | .p (.im (.pointer none)) => true
  | .bx i 0 => Nat.beq i id
  | _ => false
def selfA (ch : Bool) (id : Nat) (c : AV) : AV := match ch with
  | true => .bx id 0
  | false => c
def bcall (C : Ctx) (h : Nat → AB) (d : Nat) (f : FuncId) (args : List AV) (K : KK) : Prop :=
  match splitLast args with
  | some (as, .bx id 0) => match h id with
    | .tbox ty [c, .ow rid] => match selfB id c with
      | true => match h rid with
        | .row e es => toPVs h as fun xs fz => ∃ r ch es', BCalls C f xs ty e es r ch es' ∧ match r.free && (noId id fz && (noId rid fz && !Nat.beq id rid)) with
          | true => match es' with
            | some es' => K (rAV d r) (fz ++ [(rid, .none), (id, .tbox ty [selfA ch id c, .ow d])]) (some (.row e es'))
            | none => K (rAV d r) (fz ++ [(rid, .none), (id, .none)]) none
          | false => False
        | _ => False
      | false => False
    | _ => False
  | _ => False

/-- the parts of a struct that is built -/
def afill (h : Nat → AB) (fs : List (Nat × Nat × Bool)) (rho : Operand → AV) : List (Nat × Operand) → List PV → (List PV → List (Nat × AB) → Prop) → Prop
  | [], cs, K => K cs []
  | (i, x) :: r, cs, K => match fs[i]? with
    | some (off, size, _) => toPV h (rho x) fun y fz => match pcells y with
      | some ys => match eqB ys.length size && leB (off + size) cs.length with
        | true => afill h fs rho r (setCells cs off ys) fun cs' fz' => K cs' (fz ++ fz')
        | false => False
      | none => False
    | none => False
/-- a struct that is built cell by cell -/
def bfill (h : Nat → AB) (fs : List (Nat × Nat × Bool)) (rho : Operand → AV) : List (Nat × Operand) → List AV → (List AV → Prop) → Prop
  | [], cs, K => K cs
  | (i, x) :: r, cs, K => match fs[i]? with
    | some (off, size, _) => match eqB size 1 && leB (off + 1) cs.length && one1 h (rho x) with
      | true => bfill h fs rho r (cs.set off (rho x)) K
      | false => False
    | none => False
/-- a value by content; b: a nil slice is known as such -/
def toPVn (b : Bool) (h : Nat → AB) (a : AV) (K : PV → List (Nat × AB) → Prop) : Prop := match b, a with
  | true, .nl => K (.im (.slice none 0 0)) []
  | _, a => toPV h a K
/-- the elements of a slice that is built -/
def aelems (b : Bool) (h : Nat → AB) (size : Nat) (rho : Operand → AV) : List (Nat × Operand) → List (List PV) → (List (List PV) → List (Nat × AB) → Prop) → Prop
  | [], es, K => K es []
  | (i, x) :: r, es, K => toPVn b h (rho x) fun y fz => match pcells y with
    | some ys => match eqB ys.length size && Nat.blt i es.length with
      | true => aelems b h size rho r (es.set i ys) fun es' fz' => K es' (fz ++ fz')
      | false => False
    | none => False

/-- the content of a slice -/
def aslice (h : Nat → AB) (a : AV) (K : List (List PV) → Prop) : Prop := match a with
  | .p (.sl es) => K es
  | .nl => K []
  | .ow id => match h id with
    | .row _ es => K es
    | .frz es => K es
    | _ => False
  | _ => False

inductive CK where
  | len
  | clear
  | min
  | max
  | append
  | val (g : Operand)
  | other
def calleeB : Builtin → CK
  | .len => .len
  | .clear => .clear
  | .min => .min
  | .max => .max
  | .append => .append
  | _ => .other
def calleeK : Callee → CK
  | .builtin b => calleeB b
  | .value g => .val g
  | .invoke _ _ => .other
/-- what a value calls -/
def calleeF : Fn → Option FuncId
  | .func f => some f
  | _ => none
def calleeV : Value → Option (FuncId × List AV)
  | .func fn first cap => match isNil first.toList && isNil cap.toList with
    | true => match calleeF fn with
      | some f => some (f, [])
      | none => none
    | false => none
  | _ => none
def calleeP : PV → Option (FuncId × List AV)
  | .im v => calleeV v
  | .fn f cap => some (f, cap.map .p)
  | _ => none
def calleeOf : AV → Option (FuncId × List AV)
  | .p x => calleeP x
  | .fn f cap => some (f, cap)
  | _ => none
def zeroPV (ti : TI) : PV := match ti.ud.agg with
  | true => .ag (ti.zero.map pvOf)
  | false => match ti.zero with
    | z :: _ => pvOf z
    | [] => .im undef
/-- a part of a slice by content -/
def qslice (C : Ctx) (rho : Operand → AV) (h : Nat → AB) (t : TypeId) (x : Operand) (lo hi : Option Operand) (K : KK) : Prop :=
    let l := match lo with | some y => rho y | none => .p (.im (.int .i64 0))
    match C.T t with
    | some { ud := .str, .. } => match rho x with
      | .p (.im (.string s)) =>
        match l, (match hi with | some y => rho y | none => .p (.im (.int .i64 s.size))) with
        | .p (.im (.int _ a)), .p (.im (.int _ b)) => (0 ≤ a ∧ a ≤ b ∧ b ≤ s.size) ∧ K (.p (.im (.string (s.extract a.toNat b.toNat)))) [] none
        | _, _ => False
      | _ => False
    | some { ud := .sl e, .. } => match C.T e with
      | none => False
      | some te => toPV h (rho x) fun y fz => match y with
        | .sl es => match l, (match hi with | some y => rho y | none => .p (.im (.int .i64 es.length))) with
          | .p (.im (.int _ a)), .p (.im (.int _ b)) => (0 ≤ a ∧ a ≤ b ∧ b ≤ es.length ∧ ∀ r ∈ es, r.length = te.size) ∧ K (.p (.sl ((es.take b.toNat).drop a.toNat))) fz none
          | _, _ => False
        | _ => False
    | _ => False
/-- a part of a slice of the call's own, that stays one -/
def qview (C : Ctx) (rho : Operand → AV) (t : TypeId) (lo hi : Option Operand) (id : Nat) (e' : TypeId) (es : List (List PV)) (K : KK) : Prop :=
  match C.T t with
  | some { ud := .sl e, .. } => match eqB e' e with
    | true => match (match lo with | some y => rho y | none => .p (.im (.int .i64 0))), (match hi with | some y => rho y | none => .p (.im (.int .i64 es.length))) with
      | .p (.im (.int _ a)), .p (.im (.int _ b)) => (0 ≤ a ∧ a ≤ b ∧ b ≤ es.length) ∧ K (.vw id a.toNat b.toNat) [] none
      | _, _ => False
    | false => False
  | _ => False
def nat (K : Value → Prop) (n : Nat) : Prop := K (.int .i64 n)

/-- the length of a row with rows -/
def hlen (h : Nat → AB) : AV → Option Nat
  | .ow id => match h id with
    | .hrow _ es => some es.length
    | _ => none
  | _ => none
/-- an element by content, as one of a row with rows -/
def hxs (r : List PV) : List HX := r.map fun x => .av (avN x)
def qop (C : Ctx) (o : Oper) (rho : Operand → AV) (h : Nat → AB) (K : KK) : Prop :=
  let d := o.dst.getD 0
  match o.op with
  | .move x => K (rho x) [] none
  | .assign x => K (rho x) [] none
  | .pick c a b => match rho c with
    | .p (.im (.bool t)) => match t with
      | true => K (rho a) [] none
      | false => K (rho b) [] none
    | _ => False
  | .binOp op t x y _ => match rho x, rho y with
    | .p a, .p b => abin C.T op t a b fun v => K (.p (.im v)) [] none
    | .p a, .nl => anil C.T op t a fun v => K (.p (.im v)) [] none
    | _, _ => False
  | .unOp op _ x => match op, rho x with
    | .not, .p (.im (.bool b)) => K (.p (.im (.bool !b))) [] none
    | .neg, .p (.im (.int k n)) => numK k (0 - n) fun v => K (.p (.im v)) [] none
    | _, _ => False
  | .convert src dst x => match rho x, C.T src, C.T dst with
    | .p (.im (.int _ n)), some _, some { ud := .int k, .. } => numK k n fun v => K (.p (.im v)) [] none
    | .p (.im (.string s)), some { ud := .str, .. }, some { ud := .str, .. } => K (.p (.im (.string s))) [] none
    | .p (.im (.int _ n)), some { ud := .int _, .. }, some { ud := .str, .. } => K (.p (.im (.string (Utf8.encode n)))) [] none
    | _, _, _ => False
  | .nilCheck x => match rho x with
    | .p (.ip cs) => K (.p (.ip cs)) [] none
    | .bx id off => match h id with
      | .box _ => K (.bx id off) [] none
      | .fbx _ => K (.bx id off) [] none
      | _ => False
    | .rp id i off => match h id with
      | .row _ _ => K (.rp id i off) [] none
      | .hrow _ _ => K (.rp id i off) [] none
      | _ => False
    | _ => False
  | .extract x i => match rho x with
    | .tu xs => match xs[i]? with
      | some a => K a [] none
      | none => False
    | _ => False
  | .box _ x => match rho x with
    | .p (.ag cs) => K (.bx d 0) [] (some (.box (cs.map .p)))
    | .st xs => K (.bx d 0) [] (some (.box xs))
    | a => match one1 h a with
      | true => K (.bx d 0) [] (some (.box [a]))
      | false => False
  | .alloc e => match C.T e with
    | some ti => match C.bt e with
      | false => K (.bx d 0) [] (some (.box (ti.zero.map avOf)))
      | true => K (.bx d 0) [] (some (.tbox e (ti.zero.map avOf)))
    | none => False
  | .load t a => match C.T t with
    | none => False
    | some ti => match rho a with
      | .p (.ip cs) => match ti.ud.agg with
        | true => match leB ti.size cs.length with
          | true => K (.p (.ag (cs.take ti.size))) [] none
          | false => False
        | false => match cs with
          | c :: _ => K (.p c) [] none
          | [] => False
      | .bx id off => match h id with
        | .box cs => match ti.ud.agg with
          | true => match leB (off + ti.size) cs.length, cellsPV ((cs.drop off).take ti.size) with
            | true, some xs => K (.p (.ag xs)) [] none
            | _, _ => False
          | false => match cs.drop off with
            | c :: _ => K c [] none
            | [] => False
        | .fbx cs => match ti.ud.agg with
          | true => match leB (off + ti.size) cs.length with
            | true => K (.p (.ag ((cs.drop off).take ti.size))) [] none
            | _ => False
          | false => match cs.drop off with
            | c :: _ => K (.p c) [] none
            | [] => False
        | _ => False
      | .rp id i off => match h id with
        | .row _ es => ∃ r, es[i]? = some r ∧ match ti.ud.agg with
          | true => match leB (off + ti.size) r.length with
            | true => K (.p (.ag ((r.drop off).take ti.size))) [] none
            | _ => False
          | false => match r.drop off with
            | c :: _ => K (.p c) [] none
            | [] => False
        | .hrow _ es => ∃ r, es[i]? = some r ∧ match ti.ud.agg with
          | true => False
          | false => match r.drop off with
            | .av c :: _ => K c [] none
            | _ => False
        | _ => False
      | _ => False
  | .store t a x => match C.T t with
    | none => False
    | some ti => match rho a with
      | .bx id off => match h id with
        | .box cs => match ti.ud.agg with
          | true => toPV h (rho x) fun y fz => match y with
            | .ag ys => match eqB ys.length ti.size && leB (off + ti.size) cs.length && noId id fz with
              | true => K .junk (fz ++ [(id, .box (setCells cs off (ys.map avN)))]) none
              | false => False
            | _ => False
          | false => match leB (off + 1) cs.length && eqB ti.size 1 && one1 h (rho x) with
            | true => K .junk [(id, .box (cs.set off (rho x)))] none
            | false => False
        | _ => False
      | .rp id i off => match h id with
        | .row e es => ∃ r, es[i]? = some r ∧ toPV h (rho x) fun y fz => match pcells y with
          | some ys => match eqB ys.length ti.size && leB (off + ti.size) r.length && noId id fz with
            | true => K .junk (fz ++ [(id, .row e (es.set i (setCells r off ys)))]) none
            | false => False
          | none => False
        | .hrow e es => ∃ r, es[i]? = some r ∧ match ti.ud.agg with
          | true => False
          | false => match leB (off + 1) r.length && eqB ti.size 1 && one1 h (rho x) with
            | true => K .junk [(id, .hrow e (es.set i (r.set off (.av (rho x)))))] none
            | false => False
        | _ => False
      | _ => False
  | .fieldAddr t x f => match C.T t with
    | some { ud := .st fs, .. } => match fs[f]? with
      | some (off, _, _) => match rho x with
        | .p (.ip cs) => K (.p (.ip (cs.drop off))) [] none
        | .bx id o => match h id with
          | .none => False
          | _ => K (.bx id (o + off)) [] none
        | .rp id i o => match h id with
          | .row _ _ => K (.rp id i (o + off)) [] none
          | .hrow _ _ => K (.rp id i (o + off)) [] none
          | _ => False
        | _ => False
      | none => False
    | _ => False
  | .field t x f => match C.T t, rho x with
    | some { ud := .st fs, .. }, .p (.ag cs) => match fs[f]? with
      | some (off, size, agg) => match agg with
        | true => match leB (off + size) cs.length with
          | true => K (.p (.ag ((cs.drop off).take size))) [] none
          | false => False
        | false => match cs.drop off with
          | c :: _ => K (.p c) [] none
          | [] => False
      | none => False
    | _, _ => False
  | .indexAddr t x ix => match C.T t, rho ix with
    | some { ud := .sl e, .. }, .p (.im (.int _ i)) => match C.T e with
      | none => False
      | some te => match rho x with
        | .p (.sl es) => ∃ r, (0 ≤ i ∧ es[i.toNat]? = some r) ∧ match eqB r.length te.size with
          | true => K (.p (.ip r)) [] none
          | false => False
        | .ow id => match h id with
          | .row e' es => match eqB e' e with
            | true => (0 ≤ i ∧ i.toNat < es.length) ∧ K (.rp id i.toNat 0) [] none
            | false => False
          | .hrow e' es => match eqB e' e with
            | true => (0 ≤ i ∧ i.toNat < es.length) ∧ K (.rp id i.toNat 0) [] none
            | false => False
          | .frz es => ∃ r, (0 ≤ i ∧ es[i.toNat]? = some r) ∧ match eqB r.length te.size with
            | true => K (.p (.ip r)) [] none
            | false => False
          | _ => False
        | _ => False
    | _, _ => False
  | .index t x ix => match C.T t, rho x, rho ix with
    | some { ud := .str, .. }, .p (.im (.string s)), .p (.im (.int _ i)) => ∃ b, (0 ≤ i ∧ s[i.toNat]? = some b) ∧ K (.p (.im (.int .u8 b.toNat))) [] none
    | _, _, _ => False
  | .slice t x lo hi none => match rho x with
    | .ow id => match h id with
      | .row e' es => qview C rho t lo hi id e' es K ∨ qslice C rho h t x lo hi K
      | _ => qslice C rho h t x lo hi K
    | _ => qslice C rho h t x lo hi K
  | .makeMap t none => match C.T t with
    | some { ud := .mp kt _, .. } => match C.T kt with
      | some tk => match mkOf tk with
        | some mk => K (.ow d) [] (some (.map mk []))
        | none => False
      | none => False
    | _ => False
  | .lookup t x i ck => match C.T t with
    | some { ud := .mp kt et, .. } => match C.T kt, C.T et with
      | some tk, some te => match mkOf tk with
        | some mk => match rho x with
          | .ow id => match h id with
            | .map mk' es => match mkB mk mk' with
              | true => match keyOf mk (rho i) with
                | some k => ∃ r, mget es k = r ∧ match ck with
                  | true => K (.tu [.p (r.getD (zeroPV te)), .p (.im (.bool r.isSome))]) [] none
                  | false => K (.p (r.getD (zeroPV te))) [] none
                | none => False
              | false => False
            | _ => False
          | _ => False
        | none => False
      | _, _ => False
    | _ => False
  | .mapUpdate t x i y => match C.T t with
    | some { ud := .mp kt _, .. } => match C.T kt with
      | some tk => match mkOf tk with
        | some mk => match rho x with
          | .ow id => match h id with
            | .map mk' es => match mkB mk mk' with
              | true => match keyOf mk (rho i) with
                | some k => toPV h (rho y) fun v fz => match noId id fz with
                  | true => K .junk (fz ++ [(id, .map mk' (mput es k v))]) none
                  | false => False
                | none => False
              | false => False
            | _ => False
          | _ => False
        | none => False
      | none => False
    | _ => False
  | .build t ps => match C.T t with
    | some { ud := .st fs, zero := z, .. } => match C.bo t with
      | false => afill h fs rho ps.toList (z.map (pvN (C.bn t))) fun cs fz => K (.p (.ag cs)) fz none
      | true => bfill h fs rho ps.toList (z.map avOf) fun cs => K (.st cs) [] none
    | _ => False
  | .buildSlice t len ps => match C.T t with
    | some { ud := .sl e, .. } => match C.T e with
      | some ti => match Nat.blt 0 ti.size && leB (len * ti.size) 16777216 with
        | true => match C.bf d with
          | false => aelems (C.bn t) h ti.size rho ps.toList (List.replicate len (ti.zero.map pvOf)) fun es fz => K (.ow d) fz (some (.row e es))
          | true => aelems (C.bn t) h ti.size rho ps.toList (List.replicate len (ti.zero.map pvOf)) fun es fz => K (.ow d) fz (some (.frz es))
        | false => False
      | none => False
    | _ => False
  | .makeSlice t n c => match C.T t, rho n, rho c with
    | some { ud := .sl e, .. }, .p (.im (.int _ n)), .p (.im (.int _ c)) => match C.T e with
      | some ti => match Nat.blt 0 ti.size with
        | true => (0 ≤ n ∧ n ≤ c ∧ c * ti.bytes ≤ 140737488355328 ∧ c ≤ 9223372036854775807) ∧ K (.ow d) [] (some (.row e (List.replicate n.toNat (ti.zero.map pvOf))))
        | false => False
      | none => False
    | _, _, _ => False
  | .makeFunc (.func f) first cap => match isNil first.toList with
    | true => K (.fn f (cap.toList.map rho)) [] none
    | false => False
  | .call c => match calleeK c.callee with
    | .len => match c.args.toList, c.argTypes.toList with
      | [x], [t] => match C.T t with
        | some { ud := .str, .. } => match rho x with
          | .p (.im (.string s)) => K (.p (.im (.int .i64 s.size))) [] none
          | _ => False
        | some { ud := .sl _, .. } => match hlen h (rho x) with
          | some n => K (.p (.im (.int .i64 n))) [] none
          | none => aslice h (rho x) fun es => K (.p (.im (.int .i64 es.length))) [] none
        | some { ud := .mp _ _, .. } => match rho x with
          | .ow id => match h id with
            | .map _ es => K (.p (.im (.int .i64 es.length))) [] none
            | _ => False
          | _ => False
        | _ => False
      | _, _ => False
    | .clear => match c.args.toList, c.argTypes.toList with
      | [x], [t] => match C.T t with
        | some { ud := .sl e, .. } => match C.T e with
          | some ti => match rho x with
            | .vw id lo hi => match h id with
              | .row e' es => match eqB e' e && Nat.blt 0 ti.size with
                | true => (lo ≤ hi ∧ hi ≤ es.length) ∧ K (.tu []) [(id, .row e' (es.take lo ++ List.replicate (hi - lo) (ti.zero.map pvOf) ++ es.drop hi))] none
                | false => False
              | _ => False
            | _ => False
          | none => False
        | _ => False
      | _, _ => False
    | .min => match c.args.toList with
      | [x, y] => match rho x, rho y with
        | .p (.im (.int k a)), .p (.im (.int _ b)) => K (.p (.im (.int k (min a b)))) [] none
        | _, _ => False
      | _ => False
    | .max => match c.args.toList with
      | [x, y] => match rho x, rho y with
        | .p (.im (.int k a)), .p (.im (.int _ b)) => K (.p (.im (.int k (max a b)))) [] none
        | _, _ => False
      | [x, y, z] => match rho x, rho y, rho z with
        | .p (.im (.int k a)), .p (.im (.int _ b)), .p (.im (.int _ c)) => K (.p (.im (.int k (max (max a b) c)))) [] none
        | _, _, _ => False
      | [x, y, z, u, v] => match rho x, rho y, rho z, rho u, rho v with
        | .p (.im (.int k a)), .p (.im (.int _ b)), .p (.im (.int _ c)), .p (.im (.int _ d)), .p (.im (.int _ e)) => K (.p (.im (.int k (max (max (max (max a b) c) d) e)))) [] none
        | _, _, _, _, _ => False
      | _ => False
    | .append => match c.args.toList, c.argTypes.toList with
      | [x, y], [t, t'] => match eqB t t', C.T t with
        | true, some { ud := .sl e, .. } => match C.T e with
          | some ti => match Nat.blt 0 ti.size with
            | true => aslice h (rho y) fun ys => match rho x with
              | .nl => ((∀ r ∈ ys, r.length = ti.size) ∧ ys.length * ti.bytes ≤ 140737488355328 ∧ ys.length ≤ 140737488355328) ∧ K (.ow d) [] (some (.row e ys))
              | .ow id => match h id with
                | .row e' xs => match eqB e' e with
                  | true => ((∀ r ∈ ys, r.length = ti.size) ∧ (xs.length + ys.length) * ti.bytes ≤ 140737488355328 ∧ xs.length + ys.length ≤ 140737488355328) ∧ K (.ow d) [(id, .none)] (some (.row e (xs ++ ys)))
                  | false => False
                | .hrow e' xs => match eqB e' e with
                  | true => ((∀ r ∈ ys, r.length = ti.size) ∧ (xs.length + ys.length) * ti.bytes ≤ 140737488355328 ∧ xs.length + ys.length ≤ 140737488355328) ∧ K (.ow d) [(id, .none)] (some (.hrow e (xs ++ ys.map hxs)))
                  | false => False
                | _ => False
              | _ => False
            | false => False
          | none => False
        | _, _ => False
      | _, _ => False
    | .val g => match calleeOf (rho g) with
      | some (f, cap) => match C.bl f with
        | false => acall C h d f (c.args.toList.map rho ++ cap) K
        | true => bcall C h d f (c.args.toList.map rho ++ cap) K
      | none => False
    | _ => False
  | _ => False
end Go.AM
namespace Go.AM
open Go.RowKit

def TIok (P : Program) (t : TypeId) (ti : TI) : Prop :=
  ∃ info z, P.info? t = some info ∧ info.size = ti.size ∧ info.bytes = ti.bytes ∧ info.zero = some z ∧ z.cells = ti.zero.toArray ∧ ti.zero.length = ti.size ∧ (∀ v ∈ ti.zero, v.oneCell' = true) ∧
    match ti.ud with
    | .sc => (∃ d, P.underlying t = some d ∧ (match d with | .struct _ | .array _ _ => False | _ => True)) ∧ (ti.eq = true → P.underlying t = some .bool)
    | .int k => P.underlying t = some (.int k)
    | .st fs => ∃ gs, P.underlying t = some (.struct gs) ∧ fs.length = gs.size ∧ (∀ (i : Nat) f g, fs[i]? = some f → gs[i]? = some g → f.1 = g.offset ∧ f.2.1 ≠ 0 ∧ (∃ i2, P.info? g.type = some i2 ∧ i2.size = f.2.1) ∧
        (∃ d, P.underlying g.type = some d ∧ f.2.2 = (match d with | .struct _ | .array _ _ => true | _ => false)))
    | .sl e => P.underlying t = some (.slice e)
    | .str => P.underlying t = some .string
    | .mp k e => P.underlying t = some (.map k e)

def isAggV : Value → Bool
  | .agg _ => true
  | _ => false
def ZeroOK (P : Program) (t : TypeId) (ti : TI) : Prop := ∃ info z, P.info? t = some info ∧ info.zero = some z ∧ isAggV z = ti.ud.agg
/-- where a key lies -/
def findV (k : Value) : List MapEntry → Nat → Option (Nat × Value)
  | [], _ => none
  | m :: r, i => match vEq k m.key with
    | true => some (i, m.val)
    | false => findV k r (i + 1)
structure KeyOK (P : Program) (kt : TypeId) (mk : MK) : Prop where
  check : ∀ (e : Bool) (k : Value) (w : World), mk.ok k → (Instr.checkKey e 10000 kt k).run P w = .ok () w
  find : ∀ (k : Value) (w : World) (ms : List MapEntry), mk.ok k → (∀ m ∈ ms, mk.ok m.key) → (Instr.findKey kt k ms).run P w = .ok (findV k ms 0) w
structure CtxOK (C : Ctx) : Prop where
  zs : ∀ t ti, C.T t = some ti → ZeroOK C.P t ti
  tab : ∀ t ti, C.T t = some ti → TIok C.P t ti
  env : ∀ S S' w w', C.E S w → (∀ b, S b → S' b) → (∀ b, S b → w'.heap[b]? = w.heap[b]?) → w.heap.size ≤ w'.heap.size → C.E S' w'
  any : C.P.follows .mixedOrders = true
  eqs : ∀ t ti op a b r, C.T t = some ti → ti.eq = true → (∃ fs, ti.ud = .st fs) → eqCells ti.zero a b = some r → ∀ (xs ys : Array Value) w, (∀ (i : Nat) x v, a[i]? = some x → xs[i]? = some v → x = .im v) → (∀ (i : Nat) x v, b[i]? = some x → ys[i]? = some v → x = .im v) →
    a.length = xs.size → b.length = ys.size → ti.size = a.length → (op = .eql ∨ op = .neq) → ∀ (x y : Operand), (do eqGuard op t x y (.agg xs) (.agg ys); binOp op t (.agg xs) (.agg ys) : Sem Value).run C.P w = .ok (.bool (if op = .eql then r else !r)) w
  keys : ∀ kt tk sh, C.T kt = some tk → mkOf tk = some (.st sh) → KeyOK C.P kt (.st sh)

/-- what stays the same through a call -/
structure Amb where
  C : Ctx
  w0 : World
  mv : Nat → Prop
  s0 : Nat → Prop
  n : Nat
  /-- the handles of what was handed over -/
  pin : Nat → Value

structure Sim (A : Amb) (V L : Nat → Prop) (S : Nat → Prop) (rho : Nat → Value) (s : AS) (a : Act) (w : World) : Prop where
  tm : ∀ j, V j → LRep S w A.C.P L rho s.h (s.t j) (a.tmps.getD j undef)
  sz : a.tmps.size = A.n
  df : a.defers = []
  nb : A.n ≤ 100000
  pn : ∀ id, 100000 ≤ id → rho id = A.pin id
  ev : A.C.E S w
  s0 : ∀ b, A.s0 b → S b
  st : ∀ b, S b → b < w.heap.size
  sb : ∀ b, S b → A.s0 b ∨ A.mv b ∨ A.w0.heap.size ≤ b
  hp : ∀ id, L id → HRep S w A.C.P L rho s.h id (s.h id)
  dj : ∀ i j g, L i → L j → (s.h i).live → (s.h j).live → hasB w (s.h i) (rho i) g → hasB w (s.h j) (rho j) g → i = j
  lv : ∀ i g, L i → (s.h i).live → hasB w (s.h i) (rho i) g → g < w.heap.size ∧ ¬ S g ∧ (A.mv g ∨ A.w0.heap.size ≤ g)
  fr : Fr A.mv A.w0 w

theorem Sim.djb {A : Amb} {V L S : Nat → Prop} {rho : Nat → Value} {s : AS} {a : Act} {w : World} (sim : Sim A V L S rho s a w) (i j g : Nat) (hi : L i) (hj : L j) (li : (s.h i).live) (lj : (s.h j).live) (bi : blk (rho i) = some g) (bj : blk (rho j) = some g) : i = j := sim.dj i j g hi hj li lj (.inl bi) (.inl bj)
theorem Sim.lvb {A : Amb} {V L S : Nat → Prop} {rho : Nat → Value} {s : AS} {a : Act} {w : World} (sim : Sim A V L S rho s a w) (i g : Nat) (hi : L i) (li : (s.h i).live) (bi : blk (rho i) = some g) : g < w.heap.size ∧ ¬ S g ∧ (A.mv g ∨ A.w0.heap.size ≤ g) := sim.lv i g hi li (.inl bi)

/-- a turn of the world and of the objects' names that takes nothing back -/
structure Turn (S S' : Nat → Prop) (w w' : World) (L L' : Nat → Prop) (rho rho' : Nat → Value) (h h' : Nat → AB) : Prop where
  hS : ∀ b, S b → S' b
  keep : ∀ b, S b → w'.heap[b]? = w.heap[b]?
  ids : ∀ id, (h' id).there → (h id).there ∧ (L id → L' id ∧ rho' id = rho id)
  rows : ∀ id e, (h' id).rowE = some e → (h id).rowE = some e

theorem rowE_there {b : AB} {e : TypeId} (h : b.rowE = some e) : b.there := by cases b <;> first | trivial | cases h
theorem LRep.turn {S S' : Nat → Prop} {w w' : World} {P : Program} {L L' : Nat → Prop} {rho rho' : Nat → Value} {h h' : Nat → AB} (T : Turn S S' w w' L L' rho rho' h h') {x : AV} {v : Value}
    (hx : LRep S w P L rho h x v) : LRep S' w' P L' rho' h' x v := by
  induction hx with
  | p x v hx => exact .p x v (hx.mono T.hS T.keep)
  | nl => exact .nl
  | ow id v hv =>
    refine .ow id v fun ht => ?_
    · obtain ⟨h1, h2⟩ := T.ids id ht
      obtain ⟨h3, h4⟩ := hv h1
      obtain ⟨h5, h6⟩ := h2 h3
      exact ⟨h5, by rw [h6]; exact h4⟩
  | rp id i off v hv =>
    refine .rp id i off v fun e he => ?_
    · obtain ⟨h3, g, n, c, ti, h4, h5, h6⟩ := hv e (T.rows id e he)
      obtain ⟨h7, h8⟩ := (T.ids id (rowE_there he)).2 h3
      exact ⟨h7, g, n, c, ti, by rw [h8]; exact h4, h5, h6⟩
  | bx id off v hv =>
    refine .bx id off v fun ht => ?_
    · obtain ⟨h1, h2⟩ := T.ids id ht
      obtain ⟨h3, g, h4, h7⟩ := hv h1
      obtain ⟨h5, h6⟩ := h2 h3
      exact ⟨h5, g, by rw [h6]; exact h4, h7⟩
  | vw id lo hi v hv =>
    refine .vw id lo hi v fun e he => ?_
    obtain ⟨h3, n, c, a, ti, h4, h5⟩ := hv e (T.rows id e he)
    obtain ⟨h7, h8⟩ := (T.ids id (rowE_there he)).2 h3
    exact ⟨h7, n, c, a, ti, by rw [h8]; exact h4, h5⟩
  | fn f cap vs hl hc ih => exact .fn f cap vs hl ih
  | tu xs vs hl hc ih => exact .tu xs vs hl ih
  | st xs vs hl h1 hc ih => exact .st xs vs hl h1 ih
  | junk v => exact .junk v

theorem ownsRow_heap {w w' : World} {base : Nat} {e : TypeId} {size : Nat} {v : Value} {n : Nat} {xs : List Value} (h : w.ownsRow base e size v n xs) (hb : ∀ g, blk v = some g → w'.heap[g]? = w.heap[g]?) : w'.ownsRow base e size v n xs := by
  refine ⟨h.1, ?_⟩
  rcases h.2 with h2 | ⟨g, cap, cur, hv, hg, hgg, r⟩
  · exact .inl h2
  · exact .inr ⟨g, cap, cur, hv, hg, by rw [hb g (by rw [hv]; rfl)]; exact hgg, r⟩
theorem RowRep.turn {α : Type} {P : Program} {w w' : World} {R R' : α → Value → Prop} {e : TypeId} {es : List (List α)} {v : Value} (h : RowRep P w R e es v) (hb : ∀ g, blk v = some g → w'.heap[g]? = w.heap[g]?) (hR : ∀ x u, R x u → R' x u) : RowRep P w' R' e es v := by
  obtain ⟨i, xs, h1, h2, h3, h4, h5, h6⟩ := h
  exact ⟨i, xs, h1, h2, ownsRow_heap h3 hb, h4, h5, fun a r j x ha hj => by obtain ⟨u, hu, hr⟩ := h6 a r j x ha hj; exact ⟨u, hu, hR x u hr⟩⟩
theorem hcellB_some {w : World} {es : List (List HX)} {g a j : Nat} {u : Value} (h : hcellB w es g a j u) : ∃ b, w.heap[g]? = some b := by
  obtain ⟨r, e, xs, c, ty, m, h1, h2, h3, h4⟩ := h
  exact ⟨_, h3⟩
theorem HSep.turn {w w' : World} {es : List (List HX)} {v : Value} (h : HSep w es v) (hb : ∀ g, blk v = some g → w'.heap[g]? = w.heap[g]?) : HSep w' es v :=
  ⟨fun g a j u b hg h1 h2 => h.top g a j u b hg (hcellB_turn (hb g hg) h1) h2, fun g a j a' j' u u' b hg h1 h2 h3 h4 => h.dis g a j a' j' u u' b hg (hcellB_turn (hb g hg) h1) (hcellB_turn (hb g hg) h2) h3 h4⟩
/-- a cell of a row's block -/
theorem RowRep.cellB {P : Program} {w : World} {R : HX → Value → Prop} {e : TypeId} {es : List (List HX)} {v : Value} (h : RowRep P w R e es v) {a j : Nat} {r : List HX} {e' : TypeId} {xs' : List (List PV)} (ha : es[a]? = some r) (hj : r[j]? = some (.row e' xs')) :
    ∃ g u, blk v = some g ∧ hcellB w es g a j u ∧ R (.row e' xs') u := by
  obtain ⟨i, xs, h1, h2, h3, h4, h5, h6⟩ := h
  obtain ⟨u, hu, hr⟩ := h6 a r j _ ha hj
  have hrl := h4 r (List.mem_of_getElem? ha)
  rcases h3.2 with ⟨hn, hz⟩ | ⟨g, cap, cur, hv, hg, hgg, k1, k2, k3, k4⟩
  · have := (List.getElem?_eq_some_iff.1 ha).1
    omega
  · refine ⟨g, u, by rw [hv]; rfl, ⟨r, e', xs', _, _, _, ha, hj, hgg, ?_⟩, hr⟩
    rw [hrl]
    rw [← k4, List.getElem?_take] at hu
    split at hu
    · simpa using hu
    · cases hu
theorem HRep.turn {S S' : Nat → Prop} {w w' : World} {P : Program} {L L' : Nat → Prop} {rho rho' : Nat → Value} {h h' : Nat → AB} (T : Turn S S' w w' L L' rho rho' h h') {id : Nat} {x : AB}
    (hb : x.live → ∀ g, hasB w x (rho id) g → w'.heap[g]? = w.heap[g]?) (hr : x.there → rho' id = rho id) (hx : HRep S w P L rho h id x) : HRep S' w' P L' rho' h' id x := by
  cases x with
  | none => trivial
  | row e es =>
    show RowRep P w' (PRep S' w') e es (rho' id)
    rw [hr trivial]
    exact RowRep.turn hx (fun g hg => hb trivial g (.inl hg)) (fun x u hu => hu.mono T.hS T.keep)
  | frz es =>
    show PRep S' w' (.sl es) (rho' id)
    rw [hr trivial]
    exact PRep.mono hx T.hS T.keep
  | box cs =>
    obtain ⟨g, ty, c, h1, h2, h3, h4⟩ := hx
    refine ⟨g, ty, c, by rw [hr trivial]; exact h1, by rw [hb trivial g (.inl (by rw [h1]; rfl))]; exact h2, h3, fun j x u hj hu => ?_⟩
    obtain ⟨h5, h6⟩ := h4 j x u hj hu
    exact ⟨h5, h6.turn T⟩
  | tbox ty cs =>
    obtain ⟨g, c, h1, h2, h3, h4⟩ := hx
    refine ⟨g, c, by rw [hr trivial]; exact h1, by rw [hb trivial g (.inl (by rw [h1]; rfl))]; exact h2, h3, fun j x u hj hu => ?_⟩
    obtain ⟨h5, h6⟩ := h4 j x u hj hu
    exact ⟨h5, h6.turn T⟩
  | fbx cs =>
    show PRep S' w' (.ip cs) (rho' id)
    rw [hr trivial]
    exact PRep.mono hx T.hS T.keep
  | map mk es =>
    obtain ⟨g, ms, clock, h1, h2, h3, h4⟩ := hx
    refine ⟨g, ms, clock, by rw [hr trivial]; exact h1, by rw [hb trivial g (.inl (by rw [h1]; rfl))]; exact h2, h3, fun i p m hi hm => ?_⟩
    obtain ⟨h5, h6, h7⟩ := h4 i p m hi hm
    exact ⟨h5, h6, h7.mono T.hS T.keep⟩
  | hbox cs =>
    obtain ⟨g, ty, c, h1, hB⟩ := hx
    have hg : blk (rho id) = some g := by rw [h1]; rfl
    refine ⟨g, ty, c, by rw [hr trivial]; exact h1, ⟨by rw [hb trivial g (.inl hg)]; exact hB.hp, hB.sz, fun j x u hj hu => ?_, hB.top, hB.dis⟩⟩
    obtain ⟨h5, h6⟩ := hB.cell j x u hj hu
    refine ⟨h5, ?_⟩
    cases x with
    | p x => exact PRep.mono h6 T.hS T.keep
    | row e es => exact RowRep.turn h6 (fun k hk => hb trivial k (.inr (.inl ⟨cs, g, rfl, hg, c, ty, _, j, _, u, hB.hp, hj, trivial, hu, hk⟩))) (fun x u hu => hu.mono T.hS T.keep)
  | hrow e es =>
    obtain ⟨hR, hS⟩ := hx
    have hg : ∀ g, blk (rho id) = some g → w'.heap[g]? = w.heap[g]? := fun g hg => hb trivial g (.inl hg)
    refine ⟨?_, by rw [hr trivial]; exact hS.turn hg⟩
    rw [hr trivial]
    obtain ⟨i, xs, h1, h2, h3, h4, h5, h6⟩ := hR
    refine ⟨i, xs, h1, h2, ownsRow_heap h3 hg, h4, h5, fun a r j x ha hj => ?_⟩
    obtain ⟨u, hu, hru⟩ := h6 a r j x ha hj
    refine ⟨u, hu, ?_⟩
    cases x with
    | av x => exact LRep.turn T hru
    | row e' xs' =>
      refine RowRep.turn hru (fun k hk => hb trivial k (.inr (.inr ?_))) (fun x u hu => hu.mono T.hS T.keep)
      have hrl := h4 r (List.mem_of_getElem? ha)
      rcases h3.2 with ⟨hn, hz⟩ | ⟨g, cap, cur, hv, hg, hgg, k1, k2, k3, k4⟩
      · have := (List.getElem?_eq_some_iff.1 ha).1
        omega
      · refine ⟨e, es, g, a, j, u, rfl, by rw [hv]; rfl, ⟨r, e', xs', _, _, _, ha, hj, hgg, ?_⟩, hk⟩
        rw [hrl]
        rw [← k4, List.getElem?_take] at hu
        split at hu
        · simpa using hu
        · cases hu

theorem Fr.next {mv : Nat → Prop} {w0 w w' : World} (h : Fr mv w0 w) (ho : w'.os = w.os) (ht : w'.tape = w.tape) (hu : w'.output = w.output) (hs : w.heap.size ≤ w'.heap.size) (hb : ∀ k, k < w0.heap.size → ¬ mv k → w'.heap[k]? = w.heap[k]?) : Fr mv w0 w' :=
  ⟨ho.trans h.os, ht.trans h.tape, hu.trans h.output, Nat.le_trans h.size hs, fun k hk hn => (hb k hk hn).trans (h.block k hk hn)⟩

def putT (t : Nat → AV) (d : Option Tmp) (v : AV) : Nat → AV := match d with
  | some d => upd t d v
  | none => t
def addV (V : Nat → Prop) (d : Option Tmp) (j : Nat) : Prop := V j ∨ d = some j

theorem getD_put (a : Act) (d : Tmp) (v : Value) (j : Nat) (hd : d < a.tmps.size) : (a.put (some d) v).tmps.getD j undef = if j = d then v else a.tmps.getD j undef := by
  simp only [Act.put, Array.getD_eq_getD_getElem?, Array.getElem?_setIfInBounds]
  by_cases h : d = j
  · subst h; simp [hd]
  · have : ¬ j = d := fun e => h e.symm
    simp [h, this]

/-- the slots behind a write -/
theorem tm_put {A : Amb} {V L L' S S' : Nat → Prop} {rho rho' : Nat → Value} {s : AS} {a : Act} {w w' : World} {h' : Nat → AB} (sim : Sim A V L S rho s a w) (T : Turn S S' w w' L L' rho rho' s.h h') (dst : Option Tmp) (hd : ∀ d, dst = some d → d < A.n) (x : AV) (v : Value)
    (hv : LRep S' w' A.C.P L' rho' h' x v) : ∀ j, addV V dst j → LRep S' w' A.C.P L' rho' h' (putT s.t dst x j) ((a.put dst v).tmps.getD j undef) := by
  intro j hj
  cases dst with
  | none =>
    rcases hj with hj | hj
    · exact (sim.tm j hj).turn T
    · cases hj
  | some d =>
    rw [getD_put a d v j (by rw [sim.sz]; exact hd d rfl)]
    by_cases e : j = d
    · subst e
      simp only [putT, upd_same, if_true]
      exact hv
    · simp only [putT, upd_ne _ _ e, if_neg e]
      rcases hj with hj | hj
      · exact (sim.tm j hj).turn T
      · injection hj with hj
        exact absurd hj.symm e
theorem put_size (a : Act) (dst : Option Tmp) (v : Value) : (a.put dst v).tmps.size = a.tmps.size := by cases dst <;> simp [Act.put]
theorem put_defers' (a : Act) (dst : Option Tmp) (v : Value) : (a.put dst v).defers = a.defers := by cases dst <;> rfl

/-- a value alone -/
theorem Sim.value {A : Amb} {V L S : Nat → Prop} {rho : Nat → Value} {s : AS} {a : Act} {w : World} (sim : Sim A V L S rho s a w) (dst : Option Tmp) (hd : ∀ d, dst = some d → d < A.n) (x : AV) (v : Value) (hv : LRep S w A.C.P L rho s.h x v) :
    Sim A (addV V dst) L S rho ⟨putT s.t dst x, s.h⟩ (a.put dst v) w :=
  { tm := tm_put sim ⟨fun _ h => h, fun _ _ => rfl, fun _ h => ⟨h, fun hl => ⟨hl, rfl⟩⟩, fun _ _ h => h⟩ dst hd x v hv
    sz := (put_size a dst v).trans sim.sz
    df := (put_defers' a dst v).trans sim.df
    nb := sim.nb, pn := sim.pn
    ev := sim.ev, s0 := sim.s0, st := sim.st, sb := sim.sb, hp := sim.hp, dj := sim.dj, lv := sim.lv, fr := sim.fr }
end Go.AM
namespace Go.AM
open Go.RowKit

theorem wp_value {P : Program} {o : Oper} {a : Act} {w w' : World} {v : Value} {next : Act → World → Prop} {Q : Exit → Act → World → Prop} (h : (execOp a.eval o).run P w = .ok (.value v) w') (hn : next (a.put o.dst v) w') : o.wp P a w next Q := by
  unfold Oper.wp
  rw [h]
  exact hn
theorem wp_skip' {P : Program} {o : Oper} {a : Act} {w w' : World} {next : Act → World → Prop} {Q : Exit → Act → World → Prop} (h : (execOp a.eval o).run P w = .ok .skip w') (hn : next (a.put o.dst undef) w') : o.wp P a w next Q := by
  unfold Oper.wp
  rw [h]
  exact hn

theorem pvOf_rep (S : Nat → Prop) (w : World) (v : Value) : PRep S w (pvOf v) v := by
  unfold pvOf
  split
  · exact .nil _ _
  · exact .im _
theorem pvN_rep (b : Bool) (S : Nat → Prop) (w : World) (v : Value) : PRep S w (pvN b v) v := by
  cases b
  · exact pvOf_rep S w v
  · exact .im v
theorem avN_rep {S : Nat → Prop} {w : World} {P : Program} {L : Nat → Prop} {rho : Nat → Value} {h : Nat → AB} {x : PV} {v : Value} (hx : PRep S w x v) : LRep S w P L rho h (avN x) v := by
  unfold avN
  split
  · cases hx; exact .nl
  · exact .p _ _ hx
theorem avOf_rep (S : Nat → Prop) (w : World) (P : Program) (L : Nat → Prop) (rho : Nat → Value) (h : Nat → AB) (v : Value) : LRep S w P L rho h (avOf v) v := by
  unfold avOf
  split
  · exact .nl
  · exact .p _ _ (.im _)
theorem const_rep (S : Nat → Prop) (w : World) (P : Program) (L : Nat → Prop) (rho : Nat → Value) (h : Nat → AB) (v : Value) : LRep S w P L rho h (constAV v) v := by
  unfold constAV
  split
  · exact .nl
  · rename_i cs
    split
    · rename_i hall
      refine .p _ _ (.ag _ _ (by simp) (fun u hu => ?_) fun i c v hc hv => ?_)
      · rw [List.all_eq_true] at hall
        exact hall u hu
      · rw [List.getElem?_map] at hc
        have hv' : cs.toList[i]? = some v := by simpa using hv
        rw [hv'] at hc
        simp at hc
        rw [← hc]
        exact pvOf_rep S w v
    · exact .junk _
  · exact .p _ _ (.im _)

theorem ev_rep {A : Amb} {V L S : Nat → Prop} {rho : Nat → Value} {s : AS} {a : Act} {w : World} (sim : Sim A V L S rho s a w) (x : Operand) (hx : ∀ j, x = .tmp j → V j) : LRep S w A.C.P L rho s.h (ev s.t x) (a.eval x) := by
  cases x with
  | tmp j => exact sim.tm j (hx j rfl)
  | const v => exact const_rep _ _ _ _ _ _ v
  | global g => exact .p _ _ (.im _)
  | func f => exact .p _ _ (.im _)

theorem LRep.p_inv {S : Nat → Prop} {w : World} {P : Program} {L : Nat → Prop} {rho : Nat → Value} {h : Nat → AB} {x : PV} {v : Value} (hx : LRep S w P L rho h (.p x) v) : PRep S w x v := by cases hx; assumption
theorem PRep.im_inv {S : Nat → Prop} {w : World} {x v : Value} (hx : PRep S w (.im x) v) : v = x := by cases hx; rfl
theorem LRep.im_inv {S : Nat → Prop} {w : World} {P : Program} {L : Nat → Prop} {rho : Nat → Value} {h : Nat → AB} {x v : Value} (hx : LRep S w P L rho h (.p (.im x)) v) : v = x := hx.p_inv.im_inv
theorem PRep.ag_inv {S : Nat → Prop} {w : World} {cs : List PV} {v : Value} (hx : PRep S w (.ag cs) v) : ∃ vs : Array Value, v = .agg vs ∧ cs.length = vs.size ∧ (∀ u ∈ vs.toList, u.oneCell' = true) ∧ (∀ (i : Nat) c u, cs[i]? = some c → vs[i]? = some u → PRep S w c u) := by
  cases hx
  exact ⟨_, rfl, by assumption, by assumption, by assumption⟩
theorem PRep.ip_inv {S : Nat → Prop} {w : World} {cs : List PV} {v : Value} (hx : PRep S w (.ip cs) v) : ∃ b off, ∃ U : Nat → Value, v = .pointer (some ⟨b, off, none⟩) ∧ S b ∧ (∀ (j : Nat) x, cs[j]? = some x → w.cell? ⟨b, off + j, none⟩ = some (U j) ∧ (U j).oneCell' = true) ∧ (∀ (j : Nat) x, cs[j]? = some x → PRep S w x (U j)) := by
  cases hx
  exact ⟨_, _, _, rfl, by assumption, by assumption, by assumption⟩
theorem PRep.sl_inv {S : Nat → Prop} {w : World} {es : List (List PV)} {v : Value} (hx : PRep S w (.sl es) v) : ∃ a c, v = .slice a es.length c ∧ es.length ≤ c ∧ (es ≠ [] → ∃ b off k, a = some ⟨b, off, none⟩ ∧ S b ∧ (∀ e ∈ es, e.length = k) ∧
    ∀ (i : Nat) e (j : Nat) x, es[i]? = some e → e[j]? = some x → ∃ u, w.cell? ⟨b, off + i * k + j, none⟩ = some u ∧ u.oneCell' = true ∧ PRep S w x u) := by
  cases hx with
  | nil a c => exact ⟨a, c, rfl, by simp, fun h => absurd rfl h⟩
  | sl _ k b off c U hc hS hk hcell h => exact ⟨_, c, rfl, hc, fun _ => ⟨b, off, k, rfl, hS, hk, fun i e j x h1 h2 => ⟨U i j, (hcell i e j x h1 h2).1, (hcell i e j x h1 h2).2, h i e j x h1 h2⟩⟩⟩

def addL (L : Nat → Prop) (new : Option AB) (d : Nat) : Nat → Prop := match new with
  | none => L
  | some _ => fun i => L i ∨ i = d

/-- what is to be shown of an operation -/
def OpOK (A : Amb) (o : Oper) : Prop :=
  ∀ (V L S : Nat → Prop) (rho : Nat → Value) (s : AS) (a : Act) (w : World) (K : KK) (next : Act → World → Prop) (Q : Exit → Act → World → Prop), CtxOK A.C → Sim A V L S rho s a w → (∀ j, Operand.tmp j ∈ o.op.operands → V j) → (∀ d, o.dst = some d → d < A.n) →
    qop A.C o (ev s.t) s.h K → (∀ v eff b, K v eff (some b) → ¬ L (o.dst.getD 0) ∧ s.h (o.dst.getD 0) = b) →
    (∀ v eff new S' rho' a' w', K v eff new → Sim A (addV V o.dst) (addL L new (o.dst.getD 0)) S' rho' ⟨putT s.t o.dst v, app s.h eff⟩ a' w' → next a' w') → o.wp A.C.P a w next Q

/-- an operation that gives a value and leaves the world alone -/
theorem ok_value {A : Amb} {o : Oper} {V L S : Nat → Prop} {rho : Nat → Value} {s : AS} {a : Act} {w : World} {K : KK} {next : Act → World → Prop} {Q : Exit → Act → World → Prop} (sim : Sim A V L S rho s a w) (hd : ∀ d, o.dst = some d → d < A.n)
    (hnext : ∀ v eff new S' rho' a' w', K v eff new → Sim A (addV V o.dst) (addL L new (o.dst.getD 0)) S' rho' ⟨putT s.t o.dst v, app s.h eff⟩ a' w' → next a' w') {x : AV} {v : Value} (hq : K x [] none) (hv : LRep S w A.C.P L rho s.h x v)
    (hr : (execOp a.eval o).run A.C.P w = .ok (.value v) w) : o.wp A.C.P a w next Q :=
  wp_value hr (hnext _ _ _ _ _ _ _ hq (sim.value o.dst hd x v hv))

theorem ok_move {A : Amb} {o : Oper} (x : Operand) (hop : o.op = .move x) : OpOK A o := by
  intro V L S rho s a w K next Q hC sim hV hd hq _ hnext
  simp only [qop, hop] at hq
  exact ok_value sim hd hnext hq (ev_rep sim x fun j hj => hV j (by simp [hop, Op.operands, hj])) (by simp [execOp, hop])
theorem ok_assign {A : Amb} {o : Oper} (x : Operand) (hop : o.op = .assign x) : OpOK A o := by
  intro V L S rho s a w K next Q hC sim hV hd hq _ hnext
  simp only [qop, hop] at hq
  exact ok_value sim hd hnext hq (ev_rep sim x fun j hj => hV j (by simp [hop, Op.operands, hj])) (by simp [execOp, hop])
theorem ok_pick {A : Amb} {o : Oper} (c x y : Operand) (hop : o.op = .pick c x y) : OpOK A o := by
  intro V L S rho s a w K next Q hC sim hV hd hq _ hnext
  simp only [qop, hop] at hq
  have hc := ev_rep sim c fun j hj => hV j (by simp [hop, Op.operands, hj])
  have hx := ev_rep sim x fun j hj => hV j (by simp [hop, Op.operands, hj])
  have hy := ev_rep sim y fun j hj => hV j (by simp [hop, Op.operands, hj])
  split at hq
  · rename_i t ht
    rw [ht] at hc
    split at hq
    · exact ok_value sim hd hnext hq hx (by simp [execOp, hop, hc.im_inv, asBool])
    · exact ok_value sim hd hnext hq hy (by simp [execOp, hop, hc.im_inv, asBool])
  · exact hq.elim
theorem LRep.st_inv {S : Nat → Prop} {w : World} {P : Program} {L : Nat → Prop} {rho : Nat → Value} {h : Nat → AB} {xs : List AV} {v : Value} (hx : LRep S w P L rho h (.st xs) v) : ∃ vs : Array Value, v = .agg vs ∧ xs.length = vs.size ∧ (∀ u ∈ vs.toList, u.oneCell' = true) ∧ ∀ (i : Nat) c u, xs[i]? = some c → vs[i]? = some u → LRep S w P L rho h c u := by
  cases hx
  exact ⟨_, rfl, by assumption, by assumption, by assumption⟩
theorem LRep.tu_inv {S : Nat → Prop} {w : World} {P : Program} {L : Nat → Prop} {rho : Nat → Value} {h : Nat → AB} {xs : List AV} {v : Value} (hx : LRep S w P L rho h (.tu xs) v) : ∃ vs : Array Value, v = .tuple vs ∧ xs.length = vs.size ∧ ∀ (i : Nat) c u, xs[i]? = some c → vs[i]? = some u → LRep S w P L rho h c u := by
  cases hx
  exact ⟨_, rfl, by assumption, by assumption⟩
theorem arr_at {α : Type} {vs : Array α} {n i : Nat} (hl : n = vs.size) (hi : i < n) : ∃ v, vs[i]? = some v := ⟨vs[i]'(by omega), Array.getElem?_eq_getElem _⟩
theorem lt_of_get {α : Type} {l : List α} {i : Nat} {x : α} (h : l[i]? = some x) : i < l.length := (List.getElem?_eq_some_iff.1 h).1
theorem ok_extract {A : Amb} {o : Oper} (x : Operand) (i : Nat) (hop : o.op = .extract x i) : OpOK A o := by
  intro V L S rho s a w K next Q hC sim hV hd hq _ hnext
  simp only [qop, hop] at hq
  have hx := ev_rep sim x fun j hj => hV j (by simp [hop, Op.operands, hj])
  split at hq
  · rename_i xs hxs
    rw [hxs] at hx
    split at hq
    · rename_i y hy
      obtain ⟨vs, hev, hl, hc⟩ := hx.tu_inv
      obtain ⟨v, hv⟩ := arr_at hl (lt_of_get hy)
      refine ok_value sim hd hnext hq (hc i y v hy hv) ?_
      simp [execOp, hop, hev, Instr.extract, hv]
    · exact hq.elim
  · exact hq.elim
theorem kB_eq {a b : IntKind} (h : kB a b = true) : a = b := by cases a <;> cases b <;> first | rfl | cases h
theorem is64_eq {k : IntKind} (h : is64 k = true) : k = .i64 := by cases k <;> first | rfl | cases h
theorem numK_run {k : IntKind} {n : Int} {K : Value → Prop} (h : numK k n K) : K (.int k (k.wrap n)) := by
  unfold numK at h
  split at h
  · rename_i h64
    obtain rfl := is64_eq h64
    obtain ⟨⟨h1, h2⟩, h3⟩ := h
    rw [IntWalk.i64_in n ⟨h1, h2⟩]
    exact h3
  · exact h
theorem str_eq (a b : ByteArray) : (a.toList == b.toList) = decide (a = b) := by
  rw [Bool.eq_iff_iff]
  simp only [beq_iff_eq, decide_eq_true_eq, Go.ByteArray.toList_eq]
  constructor
  · intro h
    exact ByteArray.ext (Array.ext' h)
  · rintro rfl; rfl
theorem bl_eq (a b : ByteArray) : Op.bytesLess a.toList b.toList = Op.bytesLess a.data.toList b.data.toList := by rw [Go.ByteArray.toList_eq, Go.ByteArray.toList_eq]
theorem decide_beq (a b : Int) : (a == b) = decide (a = b) := by rw [Bool.eq_iff_iff]; simp
theorem decide_bne (a b : Int) : (a != b) = !decide (a = b) := by rw [bne, decide_beq]
theorem eqB_eq' {a b : Nat} (h : eqB a b = true) : a = b := Nat.eq_of_beq_eq_true h
theorem run_equalIn_slice_nil {P : Program} (w : World) (d : Nat) (t e : TypeId) (a : Option Addr) (l c : Nat) (h : P.underlying t = some (.slice e)) : (Op.equalIn (d + 1) t (.slice a l c) (.slice none 0 0)).run P w = .ok a.isNone w := by
  cases a <;> simp [Op.equalIn, run_underlying h]
theorem run_equal_slice_nil {P : Program} (w : World) (t e : TypeId) (a : Option Addr) (l c : Nat) (h : P.underlying t = some (.slice e)) : (Op.equal t (.slice a l c) (.slice none 0 0)).run P w = .ok a.isNone w := run_equalIn_slice_nil w 9999 t e a l c h
theorem ok_binOp {A : Amb} {o : Oper} (op : BinOp) (t : TypeId) (x y : Operand) (t' : TypeId) (hop : o.op = .binOp op t x y t') : OpOK A o := by
  intro V L S rho s a w K next Q hC sim hV hd hq _ hnext
  simp only [qop, hop] at hq
  have hx := ev_rep sim x fun j hj => hV j (by simp [hop, Op.operands, hj])
  have hy := ev_rep sim y fun j hj => hV j (by simp [hop, Op.operands, hj])
  split at hq
  · rename_i u v hu hv
    rw [hu] at hx; rw [hv] at hy
    replace hx := hx.p_inv
    replace hy := hy.p_inv
    unfold abin at hq
    split at hq
    · rename_i k m k' n
      have e1 := hx.im_inv
      have e2 := hy.im_inv
      split at hq
      · rename_i hs
        have hop2 : op = .shr := by cases op <;> first | rfl | cases hs
        subst hop2
        obtain ⟨⟨h0, h1⟩, hq⟩ := hq
        refine ok_value sim hd hnext hq (.p _ _ (.im _)) ?_
        have hneg : ¬ n < 0 := by omega
        simp [execOp, hop, e1, e2, eqGuard, binOp, Op.shift, hneg]
      split at hq
      · exact hq.elim
      · rename_i hk
        obtain rfl := kB_eq hk
        split at hq
        · exact ok_value sim hd hnext (numK_run hq) (.p _ _ (.im _)) (by simp [execOp, hop, e1, e2, eqGuard, binOp, Op.intArith])
        · exact ok_value sim hd hnext (numK_run hq) (.p _ _ (.im _)) (by simp [execOp, hop, e1, e2, eqGuard, binOp, Op.intArith])
        · exact ok_value sim hd hnext (numK_run hq) (.p _ _ (.im _)) (by simp [execOp, hop, e1, e2, eqGuard, binOp, Op.intArith])
        · exact ok_value sim hd hnext (numK_run hq.2) (.p _ _ (.im _)) (by simp [execOp, hop, e1, e2, eqGuard, binOp, Op.intDiv, hq.1])
        · exact ok_value sim hd hnext hq.2 (.p _ _ (.im _)) (by simp [execOp, hop, e1, e2, eqGuard, binOp, Op.intDiv, hq.1])
        · exact ok_value sim hd hnext hq (.p _ _ (.im _)) (by simp [execOp, hop, e1, e2, eqGuard, binOp, Op.intCmp, decide_beq])
        · exact ok_value sim hd hnext hq (.p _ _ (.im _)) (by simp [execOp, hop, e1, e2, eqGuard, binOp, Op.intCmp, decide_bne])
        · exact ok_value sim hd hnext hq (.p _ _ (.im _)) (by simp [execOp, hop, e1, e2, eqGuard, binOp, Op.intCmp])
        · exact ok_value sim hd hnext hq (.p _ _ (.im _)) (by simp [execOp, hop, e1, e2, eqGuard, binOp, Op.intCmp])
        · exact ok_value sim hd hnext hq (.p _ _ (.im _)) (by simp [execOp, hop, e1, e2, eqGuard, binOp, Op.intCmp])
        · exact ok_value sim hd hnext hq (.p _ _ (.im _)) (by simp [execOp, hop, e1, e2, eqGuard, binOp, Op.intCmp])
        · exact hq.elim
    · rename_i m n
      have e1 := hx.im_inv
      have e2 := hy.im_inv
      split at hq
      · exact ok_value sim hd hnext hq.2 (.p _ _ (.im _)) (by
          have := hq.1
          simp [execOp, hop, e1, e2, eqGuard, binOp, run_string_add_sum w m n this])
      · exact ok_value sim hd hnext hq (.p _ _ (.im _)) (by simp [execOp, hop, e1, e2, eqGuard, binOp, Op.stringOp, str_eq])
      · exact ok_value sim hd hnext hq (.p _ _ (.im _)) (by simp [execOp, hop, e1, e2, eqGuard, binOp, Op.stringOp, str_eq])
      · exact ok_value sim hd hnext hq (.p _ _ (.im _)) (by simp [execOp, hop, e1, e2, eqGuard, binOp, Op.stringOp, bl_eq])
      · exact ok_value sim hd hnext hq (.p _ _ (.im _)) (by simp [execOp, hop, e1, e2, eqGuard, binOp, Op.stringOp, str_eq, bl_eq])
      · exact ok_value sim hd hnext hq (.p _ _ (.im _)) (by simp [execOp, hop, e1, e2, eqGuard, binOp, Op.stringOp, str_eq, bl_eq])
      · exact ok_value sim hd hnext hq (.p _ _ (.im _)) (by simp [execOp, hop, e1, e2, eqGuard, binOp, Op.stringOp, bl_eq])
      · exact hq.elim
    · rename_i m n
      have e1 := hx.im_inv
      have e2 := hy.im_inv
      split at hq
      · rename_i size bytes zero hT
        have hb : A.C.P.underlying t = some .bool := by
          obtain ⟨_, _, _, _, _, _, _, _, _, h⟩ := hC.tab t _ hT
          exact h.2 rfl
        have hrun := fun w => run_equal_bool (P := A.C.P) (w := w) t m n hb
        split at hq
        · exact ok_value sim hd hnext hq (.p _ _ (.im _)) (by simp [execOp, hop, e1, e2, eqGuard, binOp, hrun]; cases m <;> cases n <;> rfl)
        · exact ok_value sim hd hnext hq (.p _ _ (.im _)) (by simp [execOp, hop, e1, e2, eqGuard, binOp, hrun]; cases m <;> cases n <;> rfl)
        · exact hq.elim
      · exact hq.elim
    · rename_i m n
      obtain ⟨xs, e1, hl1, _, hc1⟩ := hx.ag_inv
      obtain ⟨ys, e2, hl2, _, hc2⟩ := hy.ag_inv
      have im : ∀ (z : List Value) (m : List PV) (n : List PV) r, eqCells z m n = some r → (∀ x ∈ m, ∃ v, x = .im v) ∧ (∀ x ∈ n, ∃ v, x = .im v) := by
        intro z
        induction z with
        | nil =>
          intro m n r h
          cases m <;> cases n <;> first
            | (simp [eqCells] at h; done)
            | exact ⟨by simp, by simp⟩
        | cons c z ih =>
          intro m n r h
          unfold eqCells at h
          split at h
          · rename_i h1; cases h1
          all_goals first
            | (rename_i h1
               injection h1 with h1 h1'
               subst h1'
               split at h
               · obtain ⟨r', hr', _⟩ := Option.map_eq_some_iff.1 h
                 obtain ⟨i1, i2⟩ := ih _ _ _ hr'
                 exact ⟨by simpa using i1, by simpa using i2⟩
               · cases h)
            | (rename_i h1
               injection h1 with h1 h1'
               subst h1'
               obtain ⟨r', hr', _⟩ := Option.map_eq_some_iff.1 h
               obtain ⟨i1, i2⟩ := ih _ _ _ hr'
               exact ⟨by simpa using i1, by simpa using i2⟩)
            | cases h
      have key : ∀ z r, eqCells z m n = some r → (∀ (i : Nat) x v, m[i]? = some x → xs[i]? = some v → x = .im v) ∧ (∀ (i : Nat) x v, n[i]? = some x → ys[i]? = some v → x = .im v) := by
        intro z r hr
        obtain ⟨i1, i2⟩ := im z m n r hr
        refine ⟨fun i x v h1 h2 => ?_, fun i x v h1 h2 => ?_⟩
        · obtain ⟨u, rfl⟩ := i1 x (List.mem_of_getElem? h1)
          rw [(hc1 i _ v h1 h2).im_inv]
        · obtain ⟨u, rfl⟩ := i2 x (List.mem_of_getElem? h1)
          rw [(hc2 i _ v h1 h2).im_inv]
      split at hq
      · rename_i fs size bytes zero hT
        split at hq
        · exact hq.elim
        rename_i hsz
        have hsz := eqB_eq' hsz
        split at hq
        · split at hq
          · rename_i r hr
            obtain ⟨k1, k2⟩ := key _ r hr
            have hrun := hC.eqs t _ .eql m n r hT rfl ⟨_, rfl⟩ hr xs ys w k1 k2 hl1 hl2 hsz (.inl rfl) x y
            exact ok_value sim hd hnext hq (.p _ _ (.im _)) (by
              simp only [execOp, hop, e1, e2]
              rw [Sem.run_bind, hrun]
              simp)
          · exact hq.elim
        · split at hq
          · rename_i r hr
            obtain ⟨k1, k2⟩ := key _ r hr
            have hrun := hC.eqs t _ .neq m n r hT rfl ⟨_, rfl⟩ hr xs ys w k1 k2 hl1 hl2 hsz (.inr rfl) x y
            exact ok_value sim hd hnext hq (.p _ _ (.im _)) (by
              simp only [execOp, hop, e1, e2]
              rw [Sem.run_bind, hrun]
              simp)
          · exact hq.elim
        · exact hq.elim
      · exact hq.elim
    · exact hq.elim
  · rename_i u hu hv
    rw [hu] at hx; rw [hv] at hy
    replace hx := hx.p_inv
    have hy' : a.eval y = .slice none 0 0 := by generalize a.eval y = v at hy; cases hy; rfl
    unfold anil at hq
    split at hq
    case h_2 => exact hq.elim
    rename_i es
    split at hq
    case h_1 => exact hq.elim
    rename_i hes
    split at hq
    case h_2 => exact hq.elim
    rename_i e size bytes zero eq hT
    have hti : A.C.P.underlying t = some (.slice e) := by
      obtain ⟨_, _, _, _, _, _, _, _, _, h⟩ := hC.tab t _ hT
      exact h
    obtain ⟨ad, c, hv, _, hne⟩ := hx.sl_inv
    obtain ⟨b, off, k, rfl, _⟩ := hne (fun e => by rw [e] at hes; cases hes)
    split at hq
    · exact ok_value sim hd hnext hq (.p _ _ (.im _)) (by simp [execOp, hop, hv, hy', eqGuard, binOp, run_equal_slice_nil _ _ _ _ _ _ hti])
    · exact ok_value sim hd hnext hq (.p _ _ (.im _)) (by simp [execOp, hop, hv, hy', eqGuard, binOp, run_equal_slice_nil _ _ _ _ _ _ hti])
    · exact hq.elim
  · exact hq.elim
theorem ok_unOp {A : Amb} {o : Oper} (op : UnOp) (t : TypeId) (x : Operand) (hop : o.op = .unOp op t x) : OpOK A o := by
  intro V L S rho s a w K next Q hC sim hV hd hq _ hnext
  simp only [qop, hop] at hq
  have hx := ev_rep sim x fun j hj => hV j (by simp [hop, Op.operands, hj])
  split at hq
  · rename_i b hb
    rw [hb] at hx
    exact ok_value sim hd hnext hq (.p _ _ (.im _)) (by simp [execOp, hop, hx.im_inv, Op.unary])
  · rename_i k n hb
    rw [hb] at hx
    exact ok_value sim hd hnext (numK_run hq) (.p _ _ (.im _)) (by simp [execOp, hop, hx.im_inv, Op.unary, Op.intArith])
  · exact hq.elim

theorem TIok.sizeOf {P : Program} {t : TypeId} {ti : TI} (h : TIok P t ti) (w : World) : (sizeOf t).run P w = .ok ti.size w := by
  obtain ⟨info, z, h1, h2, _⟩ := h
  simp [Go.sizeOf, typeInfo, h1, h2]
theorem TIok.isAgg {P : Program} {t : TypeId} {ti : TI} (h : TIok P t ti) (w : World) : (isAgg t).run P w = .ok ti.ud.agg w := by
  obtain ⟨info, z, _, _, _, _, _, _, _, h⟩ := h
  unfold Go.isAgg
  cases hu : ti.ud with
  | sc =>
    rw [hu] at h
    obtain ⟨⟨d, hd, hn⟩, _⟩ := h
    rw [Sem.run_bind, run_underlying hd]
    cases d <;> first | rfl | exact hn.elim
  | int k => rw [hu] at h; rw [Sem.run_bind, run_underlying h]; rfl
  | st fs => rw [hu] at h; obtain ⟨gs, hg, _⟩ := h; rw [Sem.run_bind, run_underlying hg]; rfl
  | sl e => rw [hu] at h; rw [Sem.run_bind, run_underlying h]; rfl
  | str => rw [hu] at h; rw [Sem.run_bind, run_underlying h]; rfl
  | mp k e => rw [hu] at h; rw [Sem.run_bind, run_underlying h]; rfl
theorem run_load_agg {P : Program} {w : World} {t : TypeId} {ti : TI} (h : TIok P t ti) (ha : ti.ud.agg = true) (b off : Nat) (vs : List Value) (hl : vs.length = ti.size) (hc : ∀ (j : Nat) v, vs[j]? = some v → w.cell? ⟨b, off + j, none⟩ = some v) :
    (Instr.loadAt t (.pointer (some ⟨b, off, none⟩))).run P w = .ok (.agg vs.toArray) w := by
  have := run_loadCells_list (P := P) w ⟨b, off, none⟩ vs (fun j v hj => by rw [Addr.add_lit]; exact hc j v hj)
  rw [hl] at this
  simp [Instr.loadAt, Instr.sureAddr, loadVar, h.isAgg, ha, h.sizeOf, this]
theorem run_load_sc {P : Program} {w : World} {t : TypeId} {ti : TI} (h : TIok P t ti) (ha : ti.ud.agg = false) (b off : Nat) (v : Value) (hc : w.cell? ⟨b, off, none⟩ = some v) :
    (Instr.loadAt t (.pointer (some ⟨b, off, none⟩))).run P w = .ok v w := by
  simp [Instr.loadAt, Instr.sureAddr, loadVar, h.isAgg, ha, load, Sem.run, hc]
theorem ag_of {S : Nat → Prop} {w : World} (cs : List PV) (V : Nat → Value) (h : ∀ (j : Nat) x, cs[j]? = some x → (V j).oneCell' = true ∧ PRep S w x (V j)) : PRep S w (.ag cs) (.agg ((List.range cs.length).map V).toArray) := by
  refine .ag _ _ (by simp) (fun u hu => ?_) fun i c v hc hv => ?_
  · simp at hu
    obtain ⟨j, hj, rfl⟩ := hu
    exact (h j _ (List.getElem?_eq_getElem hj)).1
  · have hi := lt_of_get hc
    simp [hi] at hv
    rw [← hv]
    exact (h i c hc).2
theorem take_drop_get {α : Type} {l : List α} {off n j : Nat} {x : α} (h : ((l.drop off).take n)[j]? = some x) : l[off + j]? = some x := by
  rw [List.getElem?_take] at h
  split at h
  · rwa [List.getElem?_drop] at h
  · cases h
theorem take_drop_len {α : Type} {l : List α} {off n : Nat} (h : off + n ≤ l.length) : ((l.drop off).take n).length = n := by simp; omega
theorem drop_head {α : Type} {l : List α} {off : Nat} {x : α} {r : List α} (h : l.drop off = x :: r) : l[off]? = some x := by
  have : (l.drop off)[0]? = some x := by rw [h]; rfl
  rw [List.getElem?_drop] at this
  exact this
theorem leB_le {a b : Nat} (h : leB a b = true) : a ≤ b := Nat.le_of_ble_eq_true h
theorem eqB_eq {a b : Nat} (h : eqB a b = true) : a = b := Nat.eq_of_beq_eq_true h
theorem cellsPV_spec : ∀ {cs : List AV} {xs : List PV}, cellsPV cs = some xs → cs.length = xs.length ∧ ∀ (j : Nat) c x, cs[j]? = some c → xs[j]? = some x → (c = .p x ∨ (c = .nl ∧ x = .sl [])) := by
  intro cs
  induction cs with
  | nil => intro xs h; simp [cellsPV] at h; subst h; exact ⟨rfl, by simp⟩
  | cons c cs ih =>
    intro xs h
    unfold cellsPV at h
    split at h
    · rename_i h1; cases h1
    · rename_i x r h1
      injection h1 with h1 h2
      subst h1 h2
      obtain ⟨ys, hy, rfl⟩ := Option.map_eq_some_iff.1 h
      obtain ⟨h3, h4⟩ := ih hy
      refine ⟨by simp [h3], fun j c x' hj hx => ?_⟩
      cases j with
      | zero => simp at hj hx; subst hj hx; exact .inl rfl
      | succ j => exact h4 j c x' (by simpa using hj) (by simpa using hx)
    · rename_i r h1
      injection h1 with h1 h2
      subst h1 h2
      obtain ⟨ys, hy, rfl⟩ := Option.map_eq_some_iff.1 h
      obtain ⟨h3, h4⟩ := ih hy
      refine ⟨by simp [h3], fun j c x' hj hx => ?_⟩
      cases j with
      | zero => simp at hj hx; subst hj hx; exact .inr ⟨rfl, rfl⟩
      | succ j => exact h4 j c x' (by simpa using hj) (by simpa using hx)
    · cases h
theorem LRep.of_cell {S : Nat → Prop} {w : World} {P : Program} {L : Nat → Prop} {rho : Nat → Value} {h : Nat → AB} {c : AV} {x : PV} {u : Value} (hc : c = .p x ∨ (c = .nl ∧ x = .sl [])) (hr : LRep S w P L rho h c u) : PRep S w x u := by
  rcases hc with rfl | ⟨rfl, rfl⟩
  · exact hr.p_inv
  · cases hr
    exact .nil _ _
theorem LRep.bx_inv {S : Nat → Prop} {w : World} {P : Program} {L : Nat → Prop} {rho : Nat → Value} {h : Nat → AB} {id off : Nat} {v : Value} (hx : LRep S w P L rho h (.bx id off) v) (ht : (h id).there) : L id ∧ ∃ g, rho id = .pointer (some ⟨g, 0, none⟩) ∧ v = .pointer (some ⟨g, off, none⟩) := by
  cases hx
  rename_i hv
  exact hv ht
theorem LRep.rp_inv {S : Nat → Prop} {w : World} {P : Program} {L : Nat → Prop} {rho : Nat → Value} {h : Nat → AB} {id i off : Nat} {v : Value} (hx : LRep S w P L rho h (.rp id i off) v) {e : TypeId} {es : List (List PV)} (he : h id = .row e es) :
    L id ∧ ∃ g n c ti, rho id = .slice (some ⟨g, 0, none⟩) n c ∧ P.info? e = some ti ∧ v = .pointer (some ⟨g, i * ti.size + off, none⟩) := by
  cases hx
  rename_i hv
  exact hv e (by rw [he]; rfl)
theorem LRep.rp_invH {S : Nat → Prop} {w : World} {P : Program} {L : Nat → Prop} {rho : Nat → Value} {h : Nat → AB} {id i off : Nat} {v : Value} (hx : LRep S w P L rho h (.rp id i off) v) {e : TypeId} {es : List (List HX)} (he : h id = .hrow e es) :
    L id ∧ ∃ g n c ti, rho id = .slice (some ⟨g, 0, none⟩) n c ∧ P.info? e = some ti ∧ v = .pointer (some ⟨g, i * ti.size + off, none⟩) := by
  cases hx
  rename_i hv
  exact hv e (by rw [he]; rfl)
theorem LRep.ow_inv {S : Nat → Prop} {w : World} {P : Program} {L : Nat → Prop} {rho : Nat → Value} {h : Nat → AB} {id : Nat} {v : Value} (hx : LRep S w P L rho h (.ow id) v) (ht : (h id).there) : L id ∧ v = rho id := by
  cases hx
  rename_i hv
  exact hv ht
/-- the cells of a row of the call's own -/
theorem RowRep.cell {α : Type} {P : Program} {w : World} {R : α → Value → Prop} {e : TypeId} {es : List (List α)} {g n c : Nat} {ti : TypeInfo} (h : RowRep P w R e es (.slice (some ⟨g, 0, none⟩) n c)) (hi : P.info? e = some ti) :
    ∀ (a : Nat) r (j : Nat) x, es[a]? = some r → r[j]? = some x → ∃ u, w.cell? ⟨g, a * ti.size + j, none⟩ = some u ∧ u.oneCell' = true ∧ R x u := by
  obtain ⟨i, xs, h1, h2, h3, h4, h5, h6⟩ := h
  rw [hi] at h1
  injection h1 with h1
  subst h1
  intro a r j x ha hj
  obtain ⟨u, hu, hr⟩ := h6 a r j x ha hj
  have := h3.cells (g := g) rfl _ u hu
  rw [Addr.add_lit] at this
  refine ⟨u, by simpa using this, h5 u (List.mem_of_getElem? hu), hr⟩
theorem load_run {A : Amb} {o : Oper} (t : TypeId) (x : Operand) (hop : o.op = .load t x) {V L S : Nat → Prop} {rho : Nat → Value} {s : AS} {a : Act} {w : World} {K : KK} (hC : CtxOK A.C) (sim : Sim A V L S rho s a w) (hV : ∀ j, x = .tmp j → V j) (hq : qop A.C o (ev s.t) s.h K) :
    ∃ av v, K av [] none ∧ LRep S w A.C.P L rho s.h av v ∧ (Instr.loadAt t (a.eval x)).run A.C.P w = .ok v w := by
  simp only [qop, hop] at hq
  have hx := ev_rep sim x hV
  split at hq
  · exact hq.elim
  rename_i ti hT
  have hti := hC.tab t ti hT
  split at hq
  · rename_i cs hcs
    rw [hcs] at hx
    obtain ⟨b, off, U, hv, hb, hcell, hrep⟩ := hx.p_inv.ip_inv
    split at hq
    · rename_i hag
      split at hq
      · rename_i hle
        have hle := leB_le hle
        have hlen : (cs.take ti.size).length = ti.size := by simp; omega
        refine ⟨_, _, hq, .p _ _ (ag_of _ U fun j x hj => ?_), ?_⟩
        · have hj' : cs[j]? = some x := by rw [List.getElem?_take] at hj; split at hj; exact hj; cases hj
          exact ⟨(hcell j x hj').2, hrep j x hj'⟩
        · have := run_load_agg (w := w) hti hag b off ((List.range (cs.take ti.size).length).map U) (by simp; omega) (fun j v hj => by
            have hjl : j < (cs.take ti.size).length := by have := lt_of_get hj; simpa using this
            rw [List.getElem?_map, List.getElem?_range hjl] at hj
            simp at hj
            have hj2 : j < cs.length := by rw [hlen] at hjl; omega
            rw [(hcell j _ (List.getElem?_eq_getElem hj2)).1, hj])
          rw [hv]; exact this
      · exact hq.elim
    · rename_i hag
      split at hq
      · rename_i c r
        refine ⟨_, _, hq, .p _ _ (hrep 0 c rfl), ?_⟩
        have := run_load_sc (w := w) hti hag b off (U 0) (by simpa using (hcell 0 c rfl).1)
        rw [hv]; exact this
      · exact hq.elim
  · rename_i id off hcs
    rw [hcs] at hx
    split at hq
    · rename_i cs hbox
      obtain ⟨hL, g, hg, hv⟩ := hx.bx_inv (by rw [hbox]; trivial)
      have hh := sim.hp id hL
      rw [hbox] at hh
      obtain ⟨g', ty, c, h1, h2, h3, h4⟩ := hh
      rw [hg] at h1
      injection h1 with h1
      injection h1 with h1
      injection h1 with h1
      subst h1
      have hcell : ∀ j u, c[j]? = some u → w.cell? ⟨g, j, none⟩ = some u := fun j u hu => by rw [cell_of_row w g j c ty (0, 0) h2]; exact hu
      split at hq
      · rename_i hag
        split at hq
        · rename_i xs hle hxs
          have hle := leB_le hle
          obtain ⟨hl, hsp⟩ := cellsPV_spec hxs
          have hlen : xs.length = ti.size := by rw [← hl]; exact take_drop_len hle
          have hU : ∀ (j : Nat) x, xs[j]? = some x → ∃ u, c[off + j]? = some u ∧ u.oneCell' = true ∧ PRep S w x u := by
            intro j x hj
            obtain ⟨y, hy⟩ : ∃ y, ((cs.drop off).take ti.size)[j]? = some y := ⟨_, List.getElem?_eq_getElem (by rw [hl]; exact lt_of_get hj)⟩
            have hy' := take_drop_get hy
            obtain ⟨u, hu⟩ := arr_at h3.symm (lt_of_get hy')
            obtain ⟨h5, h6⟩ := h4 _ _ _ hy' hu
            exact ⟨u, hu, h5, h6.of_cell (hsp j y x hy hj)⟩
          refine ⟨_, _, hq, .p _ _ (ag_of xs (fun j => (c[off + j]?).getD undef) fun j x hj => ?_), ?_⟩
          · obtain ⟨u, h5, h6, h7⟩ := hU j x hj
            rw [h5]
            exact ⟨h6, h7⟩
          · have := run_load_agg (w := w) hti hag g off ((List.range xs.length).map (fun j => (c[off + j]?).getD undef)) (by simpa using hlen) (fun j v hj => by
              have hjl : j < xs.length := by have := lt_of_get hj; simpa using this
              rw [List.getElem?_map, List.getElem?_range hjl] at hj
              obtain ⟨u, h5, _⟩ := hU j _ (List.getElem?_eq_getElem hjl)
              simp [h5] at hj
              rw [hcell _ _ h5, hj])
            rw [hv]; exact this
        · exact hq.elim
      · rename_i hag
        split at hq
        · rename_i y r hy
          have hy' := drop_head hy
          obtain ⟨u, hu⟩ := arr_at h3.symm (lt_of_get hy')
          obtain ⟨h5, h6⟩ := h4 _ _ _ hy' hu
          refine ⟨_, _, hq, h6, ?_⟩
          have := run_load_sc (w := w) hti hag g off u (hcell _ _ hu)
          rw [hv]; exact this
        · exact hq.elim
    · rename_i cs hbox
      obtain ⟨hL, g, hg, hv⟩ := hx.bx_inv (by rw [hbox]; trivial)
      have hh := sim.hp id hL
      rw [hbox] at hh
      obtain ⟨b, off', U, h1, hb, hcell, hrep⟩ := PRep.ip_inv hh
      rw [hg] at h1
      injection h1 with h1
      injection h1 with h1
      injection h1 with h1 h2
      subst h1 h2
      split at hq
      · rename_i hag
        split at hq
        · rename_i hle
          have hle := leB_le hle
          have hlen := take_drop_len hle
          refine ⟨_, _, hq, .p _ _ (ag_of _ (fun j => U (off + j)) fun j x hj => ?_), ?_⟩
          · have hj' := take_drop_get hj
            exact ⟨(hcell _ x hj').2, hrep _ x hj'⟩
          · have := run_load_agg (w := w) hti hag g off ((List.range ((cs.drop off).take ti.size).length).map (fun j => U (off + j))) (by simpa using hlen) (fun j v hj => by
              have hjl : j < ((cs.drop off).take ti.size).length := by have := lt_of_get hj; simpa using this
              rw [List.getElem?_map, List.getElem?_range hjl] at hj
              simp at hj
              have hj2 : off + j < cs.length := by rw [hlen] at hjl; omega
              have h5 := (hcell _ _ (List.getElem?_eq_getElem hj2)).1
              rw [Nat.zero_add] at h5
              rw [h5, hj])
            rw [hv]; exact this
        · exact hq.elim
      · rename_i hag
        split at hq
        · rename_i y r hy
          have hy' := drop_head hy
          refine ⟨_, _, hq, .p _ _ (hrep _ _ hy'), ?_⟩
          have := run_load_sc (w := w) hti hag g off (U off) (by simpa using (hcell _ _ hy').1)
          rw [hv]; exact this
        · exact hq.elim
    · exact hq.elim
  · rename_i id i off hcs
    rw [hcs] at hx
    split at hq
    · rename_i e es hrow
      obtain ⟨hL, g, n, c, tj, hg, htj, hv⟩ := hx.rp_inv hrow
      have hh := sim.hp id hL
      rw [hrow] at hh
      have hh' : RowRep A.C.P w (PRep S w) e es (.slice (some ⟨g, 0, none⟩) n c) := by rw [← hg]; exact hh
      have hcell := hh'.cell htj
      obtain ⟨r, hr, hq⟩ := hq
      split at hq
      · rename_i hag
        split at hq
        · rename_i hle
          have hle := leB_le hle
          have hlen := take_drop_len hle
          have hU : ∀ (j : Nat) x, ((r.drop off).take ti.size)[j]? = some x → ∃ u, w.cell? ⟨g, i * tj.size + off + j, none⟩ = some u ∧ u.oneCell' = true ∧ PRep S w x u := by
            intro j x hj
            obtain ⟨u, h1, h2, h3⟩ := hcell i r _ x hr (take_drop_get hj)
            exact ⟨u, by rw [Nat.add_assoc]; exact h1, h2, h3⟩
          refine ⟨_, _, hq, .p _ _ (ag_of _ (fun j => (w.cell? ⟨g, i * tj.size + off + j, none⟩).getD undef) fun j x hj => ?_), ?_⟩
          · obtain ⟨u, h5, h6, h7⟩ := hU j x hj
            rw [h5]
            exact ⟨h6, h7⟩
          · have := run_load_agg (w := w) hti hag g (i * tj.size + off) ((List.range ((r.drop off).take ti.size).length).map (fun j => (w.cell? ⟨g, i * tj.size + off + j, none⟩).getD undef)) (by simpa using hlen) (fun j v hj => by
              have hjl : j < ((r.drop off).take ti.size).length := by have := lt_of_get hj; simpa using this
              rw [List.getElem?_map, List.getElem?_range hjl] at hj
              obtain ⟨u, h5, _⟩ := hU j _ (List.getElem?_eq_getElem hjl)
              simp [h5] at hj
              rw [h5, hj])
            rw [hv]; exact this
        · exact hq.elim
      · rename_i hag
        split at hq
        · rename_i y r' hy
          have hy' := drop_head hy
          obtain ⟨u, h1, h2, h3⟩ := hcell i r _ y hr hy'
          refine ⟨_, _, hq, .p _ _ h3, ?_⟩
          have := run_load_sc (w := w) hti hag g (i * tj.size + off) u h1
          rw [hv]; exact this
        · exact hq.elim
    · rename_i e es hrow
      obtain ⟨hL, g, n, c, tj, hg, htj, hv⟩ := hx.rp_invH hrow
      have hh := sim.hp id hL
      rw [hrow] at hh
      have hh' : RowRep A.C.P w (HXRep S w A.C.P L rho s.h) e es (.slice (some ⟨g, 0, none⟩) n c) := by rw [← hg]; exact hh.1
      have hcell := hh'.cell htj
      obtain ⟨r, hr, hq⟩ := hq
      split at hq
      · exact hq.elim
      · rename_i hag
        split at hq
        · rename_i y r' hy
          have hy' := drop_head hy
          obtain ⟨u, h1, h2, h3⟩ := hcell i r _ _ hr hy'
          refine ⟨_, _, hq, h3, ?_⟩
          have := run_load_sc (w := w) hti hag g (i * tj.size + off) u h1
          rw [hv]; exact this
        · exact hq.elim
    · exact hq.elim
  · exact hq.elim
theorem ok_load {A : Amb} {o : Oper} (t : TypeId) (x : Operand) (hop : o.op = .load t x) : OpOK A o := by
  intro V L S rho s a w K next Q hC sim hV hd hq _ hnext
  obtain ⟨av, v, h1, h2, h3⟩ := load_run t x hop hC sim (fun j hj => hV j (by simp [hop, Op.operands, hj])) hq
  exact ok_value sim hd hnext h1 h2 (by simp only [execOp, hop, Sem.run_bind, h3, Result.andThen_ok, Sem.run_pure])
theorem TIok.under {P : Program} {t : TypeId} {ti : TI} (h : TIok P t ti) : match ti.ud with
    | .sc => (∃ d, P.underlying t = some d ∧ (match d with | .struct _ | .array _ _ => False | _ => True)) ∧ (ti.eq = true → P.underlying t = some .bool)
    | .int k => P.underlying t = some (.int k)
    | .st fs => ∃ gs, P.underlying t = some (.struct gs) ∧ fs.length = gs.size ∧ (∀ (i : Nat) f g, fs[i]? = some f → gs[i]? = some g → f.1 = g.offset ∧ f.2.1 ≠ 0 ∧ (∃ i2, P.info? g.type = some i2 ∧ i2.size = f.2.1) ∧
        (∃ d, P.underlying g.type = some d ∧ f.2.2 = (match d with | .struct _ | .array _ _ => true | _ => false)))
    | .sl e => P.underlying t = some (.slice e)
    | .str => P.underlying t = some .string
    | .mp k e => P.underlying t = some (.map k e) := by
  obtain ⟨_, _, _, _, _, _, _, _, _, h⟩ := h
  exact h
theorem TIok.info {P : Program} {t : TypeId} {ti : TI} (h : TIok P t ti) : ∃ info z, P.info? t = some info ∧ info.size = ti.size ∧ info.bytes = ti.bytes ∧ info.zero = some z ∧ z.cells = ti.zero.toArray ∧ (∀ v ∈ ti.zero, v.oneCell' = true) := by
  obtain ⟨i, z, h1, h2, h3, h4, h5, h6, h7, h⟩ := h
  exact ⟨i, z, h1, h2, h3, h4, h5, h7⟩
theorem TIok.zlen {P : Program} {t : TypeId} {ti : TI} (h : TIok P t ti) : ti.zero.length = ti.size := by
  obtain ⟨i, z, h1, h2, h3, h4, h5, h6, h7, h⟩ := h
  exact h6
theorem ok_fieldAddr {A : Amb} {o : Oper} (t : TypeId) (x : Operand) (f : Nat) (hop : o.op = .fieldAddr t x f) : OpOK A o := by
  intro V L S rho s a w K next Q hC sim hV hd hq _ hnext
  simp only [qop, hop] at hq
  have hx := ev_rep sim x fun j hj => hV j (by simp [hop, Op.operands, hj])
  split at hq
  · rename_i fs size bytes zero eq hT
    have hti := (hC.tab t _ hT).under
    obtain ⟨gs, hgs, hl, hf⟩ := hti
    split at hq
    · rename_i off sz ag hfs
      obtain ⟨g, hg⟩ := arr_at hl (lt_of_get hfs)
      obtain ⟨e1, e2, ⟨i2, hi2, hs2⟩, _⟩ := hf f _ g hfs hg
      have hrun : ∀ b o', (Instr.fieldAt t (.pointer (some ⟨b, o', none⟩)) f).run A.C.P w = .ok (.pointer (some ⟨b, o' + off, none⟩)) w := by
        intro b o'
        simp only at e1 e2 hs2
        simp [Instr.fieldAt, run_underlying hgs, hg, Instr.sureAddr, fieldPlace, Go.sizeOf, typeInfo, hi2, hs2, e2, Addr.add_lit, ← e1]
      split at hq
      · rename_i cs hcs
        rw [hcs] at hx
        obtain ⟨b, o', U, hv, hb, hcell, hrep⟩ := hx.p_inv.ip_inv
        refine ok_value sim hd hnext hq (.p _ _ (.ip _ b (o' + off) (fun j => U (off + j)) hb (fun j y hj => ?_) fun j y hj => ?_)) (by simp [execOp, hop, hv, hrun])
        · rw [List.getElem?_drop] at hj
          rw [Nat.add_assoc]
          exact hcell _ y hj
        · rw [List.getElem?_drop] at hj
          exact hrep _ y hj
      · rename_i id o' hcs
        rw [hcs] at hx
        split at hq
        · exact hq.elim
        · rename_i hne
          have ht : (s.h id).there := by
            cases hh : s.h id <;> first | trivial | exact absurd hh (by simpa using hne)
          obtain ⟨hL, g', hg', hv⟩ := hx.bx_inv ht
          exact ok_value sim hd hnext hq (.bx _ _ _ fun _ => ⟨hL, g', hg', rfl⟩) (by simp [execOp, hop, hv, hrun])
      · rename_i id i o' hcs
        rw [hcs] at hx
        split at hq
        · rename_i e es hrow
          obtain ⟨hL, g', n, c, tj, hg', htj, hv⟩ := hx.rp_inv hrow
          refine ok_value sim hd hnext hq (v := .pointer (some ⟨g', i * tj.size + o' + off, none⟩)) (.rp _ _ _ _ fun e2 he2 => ?_) (by simp [execOp, hop, hv, hrun])
          rw [hrow] at he2
          injection he2 with he2
          subst he2
          exact ⟨hL, g', n, c, tj, hg', htj, by rw [Nat.add_assoc]⟩
        · rename_i e es hrow
          obtain ⟨hL, g', n, c, tj, hg', htj, hv⟩ := hx.rp_invH hrow
          refine ok_value sim hd hnext hq (v := .pointer (some ⟨g', i * tj.size + o' + off, none⟩)) (.rp _ _ _ _ fun e2 he2 => ?_) (by simp [execOp, hop, hv, hrun])
          rw [hrow] at he2
          injection he2 with he2
          subst he2
          exact ⟨hL, g', n, c, tj, hg', htj, by rw [Nat.add_assoc]⟩
        · exact hq.elim
      · exact hq.elim
    · exact hq.elim
  · exact hq.elim
theorem ok_field {A : Amb} {o : Oper} (t : TypeId) (x : Operand) (f : Nat) (hop : o.op = .field t x f) : OpOK A o := by
  intro V L S rho s a w K next Q hC sim hV hd hq _ hnext
  simp only [qop, hop] at hq
  have hx := ev_rep sim x fun j hj => hV j (by simp [hop, Op.operands, hj])
  split at hq
  · rename_i fs size bytes zero eq cs hT hcs
    have hti := (hC.tab t _ hT).under
    obtain ⟨gs, hgs, hl, hf⟩ := hti
    rw [hcs] at hx
    obtain ⟨vs, hv, hl2, h1, hc⟩ := hx.p_inv.ag_inv
    split at hq
    · rename_i off sz ag hfs
      obtain ⟨g, hg⟩ := arr_at hl (lt_of_get hfs)
      obtain ⟨e1, e2, ⟨i2, hi2, hs2⟩, d, hd2, hag⟩ := hf f _ g hfs hg
      simp only at e1 e2 hs2 hag
      split at hq
      · split at hq
        · rename_i hle
          have hle := leB_le hle
          have hlen := take_drop_len hle
          refine ok_value sim hd hnext hq (v := .agg (vs.extract off (off + sz))) (.p _ _ (.ag _ _ (by simp; omega) (fun u hu => h1 u ?_) fun i c v hci hvi => ?_)) ?_
          · simp at hu
            exact List.mem_of_mem_drop (List.mem_of_mem_take hu)
          · have hi := lt_of_get hci
            rw [hlen] at hi
            have hvi' : vs[off + i]? = some v := by
              rw [Array.getElem?_extract] at hvi
              split at hvi
              · exact hvi
              · cases hvi
            exact hc _ c v (take_drop_get hci) hvi'
          · have ha : (isAgg g.type).run A.C.P w = .ok true w := by
              rw [Go.isAgg, Sem.run_bind, run_underlying hd2]
              cases d <;> simp at hag <;> rfl
            simp [execOp, hop, hv, Instr.field, run_underlying hgs, hg, asAgg, part, ha, Go.sizeOf, typeInfo, hi2, hs2, ← e1]
        · exact hq.elim
      · split at hq
        · rename_i c r hy
          have hy' := drop_head hy
          obtain ⟨u, hu⟩ := arr_at hl2 (lt_of_get hy')
          refine ok_value sim hd hnext hq (.p _ _ (hc _ _ _ hy' hu)) ?_
          have ha : (isAgg g.type).run A.C.P w = .ok false w := by
            rw [Go.isAgg, Sem.run_bind, run_underlying hd2]
            cases d <;> simp at hag <;> rfl
          simp [execOp, hop, hv, Instr.field, run_underlying hgs, hg, asAgg, part, ha, ← e1, hu]
        · exact hq.elim
    · exact hq.elim
  · exact hq.elim
theorem run_indexAt {P : Program} {w : World} {t e : TypeId} {ti : TypeInfo} (ht : P.underlying t = some (.slice e)) (hi : P.info? e = some ti) (b off n c : Nat) (k : IntKind) (i : Int) (h0 : 0 ≤ i) (h1 : i.toNat < n) :
    (Instr.indexAt t (.slice (some ⟨b, off, none⟩) n c) (.int k i)).run P w = .ok (.pointer (some ⟨b, off + i.toNat * ti.size, none⟩)) w := by
  have h2 : i < n := by omega
  simp [Instr.indexAt, asIntOf, run_underlying ht, h0, h2, Go.sizeOf, typeInfo, hi, Addr.add_lit]
theorem ok_indexAddr {A : Amb} {o : Oper} (t : TypeId) (x ix : Operand) (hop : o.op = .indexAddr t x ix) : OpOK A o := by
  intro V L S rho s a w K next Q hC sim hV hd hq _ hnext
  simp only [qop, hop] at hq
  have hx := ev_rep sim x fun j hj => hV j (by simp [hop, Op.operands, hj])
  have hy := ev_rep sim ix fun j hj => hV j (by simp [hop, Op.operands, hj])
  split at hq
  · rename_i e size bytes zero eq k i hT hix
    have hti := (hC.tab t _ hT).under
    simp only at hti
    rw [hix] at hy
    replace hy := hy.im_inv
    split at hq
    · exact hq.elim
    rename_i te hTe
    obtain ⟨ie, ze, hie, hse, _⟩ := (hC.tab e te hTe).info
    have slc : ∀ (es : List (List PV)), PRep S w (.sl es) (a.eval x) → (∃ r, (0 ≤ i ∧ es[i.toNat]? = some r) ∧ match eqB r.length te.size with | true => K (.p (.ip r)) [] none | false => False) → o.wp A.C.P a w next Q := by
      intro es hrep hq
      obtain ⟨r, ⟨h0, hr⟩, hq⟩ := hq
      split at hq
      · rename_i hlen
        have hlen := eqB_eq hlen
        obtain ⟨ad, c, hv, hle, hne⟩ := hrep.sl_inv
        obtain ⟨b, off, k', rfl, hb, hk, hcell⟩ := hne (by intro e; rw [e] at hr; simp at hr)
        have hk' : k' = te.size := by rw [← hk r (List.mem_of_getElem? hr), hlen]
        have hU : ∀ (j : Nat) y, r[j]? = some y → ∃ u, w.cell? ⟨b, off + i.toNat * te.size + j, none⟩ = some u ∧ u.oneCell' = true ∧ PRep S w y u := by
          intro j y hj
          have := hcell _ _ j y hr hj
          rw [hk'] at this
          exact this
        refine ok_value sim hd hnext hq (.p _ _ (.ip _ b (off + i.toNat * te.size) (fun j => (w.cell? ⟨b, off + i.toNat * te.size + j, none⟩).getD undef) hb (fun j y hj => ?_) fun j y hj => ?_)) ?_
        · obtain ⟨u, h1, h2, h3⟩ := hU j y hj
          simp [h1, h2]
        · obtain ⟨u, h1, h2, h3⟩ := hU j y hj
          simp only [h1]
          exact h3
        · have := run_indexAt (w := w) hti hie b off es.length c k i h0 (lt_of_get hr)
          simp only [execOp, hop, hv, hy, Sem.run_bind, this, Result.andThen_ok, Sem.run_pure, hse]
      · exact hq.elim
    split at hq
    · rename_i es hes
      rw [hes] at hx
      exact slc es hx.p_inv hq
    · rename_i id hes
      rw [hes] at hx
      split at hq
      · rename_i e' es hrow
        split at hq
        · rename_i hee
          have hee := eqB_eq hee
          subst hee
          obtain ⟨hL, hv⟩ := hx.ow_inv (by rw [hrow]; trivial)
          have hh := sim.hp id hL
          rw [hrow] at hh
          have hh' : RowRep A.C.P w (PRep S w) e' es (rho id) := hh
          obtain ⟨⟨h0, hlt⟩, hq⟩ := hq
          obtain ⟨i', xs, h1, h2, h3, h4, h5, h6⟩ := hh'
          rcases h3.2 with ⟨_, hn⟩ | ⟨g, cap, cur, hg, _, _, hle, _⟩
          · omega
          · refine ok_value sim hd hnext hq (v := .pointer (some ⟨g, i.toNat * ie.size, none⟩)) (.rp _ _ _ _ fun e2 he2 => ?_) ?_
            · rw [hrow] at he2
              injection he2 with he2
              subst he2
              exact ⟨hL, g, _, _, ie, hg, hie, by rw [Nat.add_zero]⟩
            · have := run_indexAt (w := w) hti hie g 0 es.length cap k i h0 hlt
              rw [hg] at hv
              rw [Nat.zero_add] at this
              simp only [execOp, hop, hv, hy, Sem.run_bind, this, Result.andThen_ok, Sem.run_pure]
        · exact hq.elim
      · rename_i e' es hrow
        split at hq
        · rename_i hee
          have hee := eqB_eq hee
          subst hee
          obtain ⟨hL, hv⟩ := hx.ow_inv (by rw [hrow]; trivial)
          have hh := sim.hp id hL
          rw [hrow] at hh
          have hh' : RowRep A.C.P w (HXRep S w A.C.P L rho s.h) e' es (rho id) := hh.1
          obtain ⟨⟨h0, hlt⟩, hq⟩ := hq
          obtain ⟨i', xs, h1, h2, h3, h4, h5, h6⟩ := hh'
          rcases h3.2 with ⟨_, hn⟩ | ⟨g, cap, cur, hg, _, _, hle, _⟩
          · omega
          · refine ok_value sim hd hnext hq (v := .pointer (some ⟨g, i.toNat * ie.size, none⟩)) (.rp _ _ _ _ fun e2 he2 => ?_) ?_
            · rw [hrow] at he2
              injection he2 with he2
              subst he2
              exact ⟨hL, g, _, _, ie, hg, hie, by rw [Nat.add_zero]⟩
            · have := run_indexAt (w := w) hti hie g 0 es.length cap k i h0 hlt
              rw [hg] at hv
              rw [Nat.zero_add] at this
              simp only [execOp, hop, hv, hy, Sem.run_bind, this, Result.andThen_ok, Sem.run_pure]
        · exact hq.elim
      · rename_i es hfrz
        obtain ⟨hL, hv⟩ := hx.ow_inv (by rw [hfrz]; trivial)
        have hh := sim.hp id hL
        rw [hfrz] at hh
        exact slc es (by rw [hv]; exact hh) hq
      · exact hq.elim
    · exact hq.elim
  · exact hq.elim
theorem ok_index {A : Amb} {o : Oper} (t : TypeId) (x ix : Operand) (hop : o.op = .index t x ix) : OpOK A o := by
  intro V L S rho s a w K next Q hC sim hV hd hq _ hnext
  simp only [qop, hop] at hq
  have hx := ev_rep sim x fun j hj => hV j (by simp [hop, Op.operands, hj])
  have hy := ev_rep sim ix fun j hj => hV j (by simp [hop, Op.operands, hj])
  split at hq
  · rename_i size bytes zero eq st k i hT hs hix
    have hti := (hC.tab t _ hT).under
    simp only at hti
    rw [hix] at hy
    rw [hs] at hx
    obtain ⟨b, ⟨h0, hb⟩, hq⟩ := hq
    refine ok_value sim hd hnext hq (.p _ _ (.im _)) ?_
    simp [execOp, hop, hx.im_inv, hy.im_inv, Instr.index, asIntOf, run_underlying hti, h0, hb]
  · exact hq.elim
theorem ok_convert {A : Amb} {o : Oper} (src dst : TypeId) (x : Operand) (hop : o.op = .convert src dst x) : OpOK A o := by
  intro V L S rho s a w K next Q hC sim hV hd hq _ hnext
  simp only [qop, hop] at hq
  have hx := ev_rep sim x fun j hj => hV j (by simp [hop, Op.operands, hj])
  split at hq
  · rename_i k' n tis k size bytes zero eq hv hT1 hT2
    have h2 := (hC.tab dst _ hT2).under
    simp only at h2
    rw [hv] at hx
    have h1 : ∃ d, A.C.P.underlying src = some d := by
      have := (hC.tab src _ hT1).under
      cases hu : tis.ud <;> rw [hu] at this
      · exact ⟨_, this.1.choose_spec.1⟩
      · exact ⟨_, this⟩
      · exact ⟨_, this.choose_spec.1⟩
      · exact ⟨_, this⟩
      · exact ⟨_, this⟩
      · exact ⟨_, this⟩
    obtain ⟨d1, h1⟩ := h1
    exact ok_value sim hd hnext (numK_run hq) (.p _ _ (.im _)) (by simp [execOp, hop, hx.im_inv, convert, run_underlying h1, run_underlying h2, Conv.intToInt])
  · rename_i str size1 bytes1 zero1 eq1 size2 bytes2 zero2 eq2 hv hT1 hT2
    have h2 := (hC.tab dst _ hT2).under
    have h1 := (hC.tab src _ hT1).under
    simp only at h1 h2
    rw [hv] at hx
    exact ok_value sim hd hnext hq (.p _ _ (.im _)) (by simp [execOp, hop, hx.im_inv, convert, run_underlying h1, run_underlying h2])
  · rename_i k' n k'' size1 bytes1 zero1 eq1 size2 bytes2 zero2 eq2 hv hT1 hT2
    have h2 := (hC.tab dst _ hT2).under
    have h1 := (hC.tab src _ hT1).under
    simp only at h1 h2
    rw [hv] at hx
    exact ok_value sim hd hnext hq (.p _ _ (.im _)) (by simp [execOp, hop, hx.im_inv, convert, run_underlying h1, run_underlying h2, Conv.intToString])
  · exact hq.elim
theorem ok_nilCheck {A : Amb} {o : Oper} (x : Operand) (hop : o.op = .nilCheck x) : OpOK A o := by
  intro V L S rho s a w K next Q hC sim hV hd hq _ hnext
  simp only [qop, hop] at hq
  have hx := ev_rep sim x fun j hj => hV j (by simp [hop, Op.operands, hj])
  have fin : ∀ av ad, K av [] none → LRep S w A.C.P L rho s.h av (a.eval x) → a.eval x = .pointer (some ad) → o.wp A.C.P a w next Q := by
    intro av ad hq hl he
    exact ok_value sim hd hnext hq hl (by simp [execOp, hop, he])
  split at hq
  · rename_i cs hcs
    rw [hcs] at hx
    obtain ⟨b, off, U, hv, _⟩ := hx.p_inv.ip_inv
    exact fin _ _ hq hx hv
  · rename_i id off hcs
    rw [hcs] at hx
    split at hq
    · rename_i hb
      obtain ⟨_, g, _, hv⟩ := hx.bx_inv (by rw [hb]; trivial)
      exact fin _ _ hq hx hv
    · rename_i hb
      obtain ⟨_, g, _, hv⟩ := hx.bx_inv (by rw [hb]; trivial)
      exact fin _ _ hq hx hv
    · exact hq.elim
  · rename_i id i off hcs
    rw [hcs] at hx
    split at hq
    · rename_i hb
      obtain ⟨_, g, n, c, tj, _, _, hv⟩ := hx.rp_inv hb
      exact fin _ _ hq hx hv
    · rename_i hb
      obtain ⟨_, g, n, c, tj, _, _, hv⟩ := hx.rp_invH hb
      exact fin _ _ hq hx hv
    · exact hq.elim
  · exact hq.elim
theorem ok_makeFunc {A : Amb} {o : Oper} (f : FuncId) (first cap : Array Operand) (hop : o.op = .makeFunc (.func f) first cap) : OpOK A o := by
  intro V L S rho s a w K next Q hC sim hV hd hq _ hnext
  simp only [qop, hop] at hq
  split at hq
  · rename_i hn
    have he : first = #[] := by
      obtain ⟨l⟩ := first
      cases l with
      | nil => rfl
      | cons y l => simp [isNil] at hn
    subst he
    refine ok_value sim hd hnext hq (.fn f _ (cap.map a.eval) (by simp) fun i c v hc hv => ?_) (by simp [execOp, hop, Instr.makeFunc])
    rw [List.getElem?_map] at hc
    obtain ⟨y, hy, rfl⟩ := Option.map_eq_some_iff.1 hc
    have hy' : cap[i]? = some y := by simpa using hy
    rw [Array.getElem?_map, hy'] at hv
    simp at hv
    rw [← hv]
    exact ev_rep sim y fun j hj => hV j (by simp [hop, Op.operands]; rw [← hj]; exact Array.mem_of_getElem? hy')
  · exact hq.elim
end Go.AM
namespace Go.AM
open Go.RowKit

theorem app_append (h : Nat → AB) (a b : List (Nat × AB)) : app h (a ++ b) = app (app h a) b := by
  induction a generalizing h with
  | nil => rfl
  | cons x a ih => exact ih _

theorem upd_cases {α : Type} (f : Nat → α) (i : Nat) (x : α) (j : Nat) : (j = i ∧ upd f i x j = x) ∨ (j ≠ i ∧ upd f i x j = f j) := by
  by_cases e : j = i
  · subst e; exact .inl ⟨rfl, upd_same _ _ _⟩
  · exact .inr ⟨e, upd_ne _ _ e⟩

/-- an object of the call's own is read by content from now on -/
theorem RowRep.prep {P : Program} {S S' : Nat → Prop} {w : World} {e : TypeId} {es : List (List PV)} {v : Value} (h : RowRep P w (PRep S w) e es v) (hS : ∀ b, S b → S' b) (hb : ∀ g, blk v = some g → S' g) : PRep S' w (.sl es) v := by
  obtain ⟨i, xs, h1, h2, h3, h4, h5, h6⟩ := h
  rcases h3.2 with ⟨rfl, hn⟩ | ⟨g, cap, cur, rfl, _, _, hle, _⟩
  · have : es = [] := List.eq_nil_of_length_eq_zero hn
    subst this
    exact .nil _ _
  · refine .sl es i.size g 0 cap (fun a j => (xs[a * i.size + j]?).getD undef) hle (hb g rfl) h4 (fun a r j x ha hj => ?_) fun a r j x ha hj => ?_
    · obtain ⟨u, hu, hr⟩ := h6 a r j x ha hj
      have := h3.cells (g := g) rfl _ u hu
      rw [Addr.add_lit] at this
      rw [hu, Nat.add_assoc]
      exact ⟨this, h5 u (List.mem_of_getElem? hu)⟩
    · obtain ⟨u, hu, hr⟩ := h6 a r j x ha hj
      rw [hu]
      exact hr.mono hS (fun _ _ => rfl)

theorem hasB_upd {w : World} {h : Nat → AB} {id : Nat} {b : AB} {i : Nat} {v : Value} {g : Nat} (hi : i ≠ id) (ho : hasB w (upd h id b i) v g) : hasB w (h i) v g := by rw [upd_ne _ _ hi] at ho; exact ho
theorem Sim.freezeRow {A : Amb} {V L S : Nat → Prop} {rho : Nat → Value} {s : AS} {a : Act} {w : World} (sim : Sim A V L S rho s a w) (hC : CtxOK A.C) (id : Nat) (hL : L id) {e : TypeId} {es : List (List PV)} (hrow : s.h id = .row e es) :
    Sim A V L (fun b => S b ∨ blk (rho id) = some b) rho ⟨s.t, upd s.h id (.frz es)⟩ a w := by
  have T : Turn S (fun b => S b ∨ blk (rho id) = some b) w w L L rho rho s.h (upd s.h id (.frz es)) := by
    refine ⟨fun b h => .inl h, fun _ _ => rfl, fun j hj => ⟨?_, fun hl => ⟨hl, rfl⟩⟩, fun j e' hj => ?_⟩
    · rcases upd_cases s.h id (.frz es) j with ⟨rfl, h⟩ | ⟨_, h⟩
      · rw [hrow]; trivial
      · rw [h] at hj; exact hj
    · rcases upd_cases s.h id (.frz es) j with ⟨rfl, h⟩ | ⟨_, h⟩
      · rw [h] at hj; cases hj
      · rw [h] at hj; exact hj
  have live' : ∀ j, ((upd s.h id (.frz es)) j).live → j ≠ id ∧ (s.h j).live := by
    intro j hj
    rcases upd_cases s.h id (.frz es) j with ⟨rfl, h⟩ | ⟨h1, h⟩
    · rw [h] at hj; exact hj.elim
    · rw [h] at hj; exact ⟨h1, hj⟩
  have hlive : (s.h id).live := by rw [hrow]; trivial
  exact
  { tm := fun j hj => (sim.tm j hj).turn T
    sz := sim.sz, df := sim.df, nb := sim.nb, pn := sim.pn
    ev := hC.env _ _ _ _ sim.ev (fun b h => .inl h) (fun _ _ => rfl) (Nat.le_refl _)
    s0 := fun b h => .inl (sim.s0 b h)
    st := fun b h => h.elim (sim.st b) fun h => (sim.lvb id b hL hlive h).1
    sb := fun b h => h.elim (sim.sb b) fun h => .inr (sim.lvb id b hL hlive h).2.2
    hp := fun j hj => by
      have hh := sim.hp j hj
      rcases upd_cases s.h id (.frz es) j with ⟨rfl, h⟩ | ⟨h1, h⟩
      · show HRep _ _ _ _ _ _ _ (upd s.h j (.frz es) j)
        rw [h]
        rw [hrow] at hh
        exact RowRep.prep hh (fun b h => .inl h) (fun g h => .inr h)
      · show HRep _ _ _ _ _ _ _ (upd s.h id (.frz es) j)
        rw [h]
        exact hh.turn T (fun _ _ _ => rfl) (fun _ => rfl)
    dj := fun i j g hi hj li lj hgi hgj => sim.dj i j g hi hj (live' i li).2 (live' j lj).2 (hasB_upd (live' i li).1 hgi) (hasB_upd (live' j lj).1 hgj)
    lv := fun i g hi li hg => by
      obtain ⟨h1, h2⟩ := live' i li
      have hg := hasB_upd h1 hg
      obtain ⟨h3, h4, h5⟩ := sim.lv i g hi h2 hg
      refine ⟨h3, fun h => h.elim h4 fun h => h1 (sim.dj i id g hi hL h2 hlive hg (.inl h)), h5⟩
    fr := sim.fr }
theorem Sim.freezeBox {A : Amb} {V L S : Nat → Prop} {rho : Nat → Value} {s : AS} {a : Act} {w : World} (sim : Sim A V L S rho s a w) (hC : CtxOK A.C) (id : Nat) (hL : L id) {cs : List AV} {xs : List PV} (hrow : s.h id = .box cs) (hxs : cellsPV cs = some xs) :
    Sim A V L (fun b => S b ∨ blk (rho id) = some b) rho ⟨s.t, upd s.h id (.fbx xs)⟩ a w := by
  have T : Turn S (fun b => S b ∨ blk (rho id) = some b) w w L L rho rho s.h (upd s.h id (.fbx xs)) := by
    refine ⟨fun b h => .inl h, fun _ _ => rfl, fun j hj => ⟨?_, fun hl => ⟨hl, rfl⟩⟩, fun j e' hj => ?_⟩
    · rcases upd_cases s.h id (.fbx xs) j with ⟨rfl, h⟩ | ⟨_, h⟩
      · rw [hrow]; trivial
      · rw [h] at hj; exact hj
    · rcases upd_cases s.h id (.fbx xs) j with ⟨rfl, h⟩ | ⟨_, h⟩
      · rw [h] at hj; cases hj
      · rw [h] at hj; exact hj
  have live' : ∀ j, ((upd s.h id (.fbx xs)) j).live → j ≠ id ∧ (s.h j).live := by
    intro j hj
    rcases upd_cases s.h id (.fbx xs) j with ⟨rfl, h⟩ | ⟨h1, h⟩
    · rw [h] at hj; exact hj.elim
    · rw [h] at hj; exact ⟨h1, hj⟩
  have hlive : (s.h id).live := by rw [hrow]; trivial
  exact
  { tm := fun j hj => (sim.tm j hj).turn T
    sz := sim.sz, df := sim.df, nb := sim.nb, pn := sim.pn
    ev := hC.env _ _ _ _ sim.ev (fun b h => .inl h) (fun _ _ => rfl) (Nat.le_refl _)
    s0 := fun b h => .inl (sim.s0 b h)
    st := fun b h => h.elim (sim.st b) fun h => (sim.lvb id b hL hlive h).1
    sb := fun b h => h.elim (sim.sb b) fun h => .inr (sim.lvb id b hL hlive h).2.2
    hp := fun j hj => by
      have hh := sim.hp j hj
      rcases upd_cases s.h id (.fbx xs) j with ⟨rfl, h⟩ | ⟨h1, h⟩
      · show HRep _ _ _ _ _ _ _ (upd s.h j (.fbx xs) j)
        rw [h]
        rw [hrow] at hh
        obtain ⟨g, ty, c, k1, k2, k3, k4⟩ := hh
        show PRep _ w (.ip xs) (rho j)
        rw [k1]
        obtain ⟨hl, hsp⟩ := cellsPV_spec hxs
        have hU : ∀ (i : Nat) x, xs[i]? = some x → ∃ u, c[i]? = some u ∧ u.oneCell' = true ∧ PRep S w x u := by
          intro i x hi
          obtain ⟨y, hy⟩ : ∃ y, cs[i]? = some y := ⟨_, List.getElem?_eq_getElem (by rw [hl]; exact lt_of_get hi)⟩
          obtain ⟨u, hu⟩ := arr_at k3.symm (lt_of_get hy)
          obtain ⟨h5, h6⟩ := k4 _ _ _ hy hu
          exact ⟨u, hu, h5, h6.of_cell (hsp i y x hy hi)⟩
        refine .ip xs g 0 (fun i => (c[i]?).getD undef) (.inr rfl) (fun i x hi => ?_) fun i x hi => ?_
        · obtain ⟨u, h5, h6, h7⟩ := hU i x hi
          rw [Nat.zero_add, cell_of_row w g i c ty (0, 0) k2, h5]
          exact ⟨rfl, h6⟩
        · obtain ⟨u, h5, h6, h7⟩ := hU i x hi
          rw [h5]
          exact h7.mono (fun b h => .inl h) (fun _ _ => rfl)
      · show HRep _ _ _ _ _ _ _ (upd s.h id (.fbx xs) j)
        rw [h]
        exact hh.turn T (fun _ _ _ => rfl) (fun _ => rfl)
    dj := fun i j g hi hj li lj hgi hgj => sim.dj i j g hi hj (live' i li).2 (live' j lj).2 (hasB_upd (live' i li).1 hgi) (hasB_upd (live' j lj).1 hgj)
    lv := fun i g hi li hg => by
      obtain ⟨h1, h2⟩ := live' i li
      have hg := hasB_upd h1 hg
      obtain ⟨h3, h4, h5⟩ := sim.lv i g hi h2 hg
      refine ⟨h3, fun h => h.elim h4 fun h => h1 (sim.dj i id g hi hL h2 hlive hg (.inl h)), h5⟩
    fr := sim.fr }

/-- the objects, some of them frozen since -/
def Frz (h h' : Nat → AB) : Prop := ∀ id, h' id = h id ∨ (∃ e es, h id = .row e es ∧ h' id = .frz es) ∨ (∃ cs xs, h id = .box cs ∧ cellsPV cs = some xs ∧ h' id = .fbx xs)
theorem Frz.refl (h : Nat → AB) : Frz h h := fun _ => .inl rfl
theorem Frz.updRow {h h' : Nat → AB} (H : Frz h h') {id : Nat} {e : TypeId} {es : List (List PV)} (hr : h id = .row e es) : Frz h (upd h' id (.frz es)) := by
  intro j
  rcases upd_cases h' id (.frz es) j with ⟨rfl, h1⟩ | ⟨_, h1⟩
  · exact .inr (.inl ⟨e, es, hr, h1⟩)
  · rw [h1]; exact H j
theorem Frz.updBox {h h' : Nat → AB} (H : Frz h h') {id : Nat} {cs : List AV} {xs : List PV} (hr : h id = .box cs) (hx : cellsPV cs = some xs) : Frz h (upd h' id (.fbx xs)) := by
  intro j
  rcases upd_cases h' id (.fbx xs) j with ⟨rfl, h1⟩ | ⟨_, h1⟩
  · exact .inr (.inr ⟨cs, xs, hr, hx, h1⟩)
  · rw [h1]; exact H j

theorem PRep.ip_drop {S : Nat → Prop} {w : World} {xs : List PV} {g off : Nat} {v : Value} (h : PRep S w (.ip xs) v) (hv : v = .pointer (some ⟨g, 0, none⟩)) : PRep S w (.ip (xs.drop off)) (.pointer (some ⟨g, off, none⟩)) := by
  subst hv
  obtain ⟨b, o, U, hv, hb, hcell, hrep⟩ := h.ip_inv
  injection hv with hv
  injection hv with hv
  injection hv with h1 h2
  subst h1 h2
  refine .ip _ g off (fun j => U (off + j)) hb (fun j x hj => ?_) fun j x hj => ?_
  · rw [List.getElem?_drop] at hj
    have := hcell _ x hj
    rwa [Nat.zero_add] at this
  · rw [List.getElem?_drop] at hj
    exact hrep _ x hj

theorem toPV1_sim {A : Amb} {V L S : Nat → Prop} {rho : Nat → Value} {s : AS} {a : Act} {w : World} (hC : CtxOK A.C) {h : Nat → AB} (sim : Sim A V L S rho s a w) (hF : Frz h s.h) {x : AV} {v : Value} (hx : LRep S w A.C.P L rho s.h x v) {K : PV → List (Nat × AB) → Prop} (hq : toPV1 h x K) :
    ∃ y fz S', K y fz ∧ Sim A V L S' rho ⟨s.t, app s.h fz⟩ a w ∧ PRep S' w y v ∧ (∀ b, S b → S' b) ∧ Frz h (app s.h fz) ∧ (∀ p ∈ fz, L p.1) ∧ (∀ p ∈ fz, ¬ p.2.live) := by
  unfold toPV1 at hq
  split at hq
  · exact ⟨_, [], S, hq, sim, hx.p_inv, fun _ h => h, hF, by simp, by simp⟩
  · cases hx
    exact ⟨_, [], S, hq, sim, .nil _ _, fun _ h => h, hF, by simp, by simp⟩
  · rename_i id
    split at hq
    · rename_i e es hrow
      rcases hF id with h1 | ⟨e', es', h1, h2⟩ | ⟨cs, xs, h1, _, _⟩
      · rw [hrow] at h1
        obtain ⟨hL, hv⟩ := hx.ow_inv (by rw [h1]; trivial)
        refine ⟨_, _, _, hq, sim.freezeRow hC id hL h1, ?_, fun b h => .inl h, hF.updRow hrow, by simpa using hL, by simp [AB.live]⟩
        have hh := sim.hp id hL
        rw [h1] at hh
        rw [hv]
        exact RowRep.prep hh (fun b h => .inl h) (fun g h => .inr h)
      · rw [hrow] at h1
        injection h1 with e1 e2
        subst e1 e2
        obtain ⟨hL, hv⟩ := hx.ow_inv (by rw [h2]; trivial)
        have hh := sim.hp id hL
        rw [h2] at hh
        refine ⟨_, _, S, hq, ?_, by rw [hv]; exact hh, fun _ h => h, hF.updRow hrow, by simpa using hL, by simp [AB.live]⟩
        show Sim A V L S rho ⟨s.t, upd s.h id (.frz es)⟩ a w
        rw [upd_self _ _ _ h2]
        exact sim
      · rw [hrow] at h1; cases h1
    · rename_i es hfrz
      rcases hF id with h1 | ⟨e', es', h1, h2⟩ | ⟨cs, xs, h1, _, _⟩
      · rw [hfrz] at h1
        obtain ⟨hL, hv⟩ := hx.ow_inv (by rw [h1]; trivial)
        have hh := sim.hp id hL
        rw [h1] at hh
        exact ⟨_, [], S, hq, sim, by rw [hv]; exact hh, fun _ h => h, hF, by simp, by simp⟩
      · rw [hfrz] at h1; cases h1
      · rw [hfrz] at h1; cases h1
    · exact hq.elim
  · rename_i id off
    split at hq
    · rename_i cs hbox
      split at hq
      · rename_i xs hxs
        rcases hF id with h1 | ⟨e', es', h1, h2⟩ | ⟨cs', xs', h1, hxs', h2⟩
        · rw [hbox] at h1
          obtain ⟨hL, g, hg, hv⟩ := hx.bx_inv (by rw [h1]; trivial)
          have sim' := sim.freezeBox hC id hL h1 hxs
          refine ⟨_, _, _, hq, sim', ?_, fun b h => .inl h, hF.updBox hbox hxs, by simpa using hL, by simp [AB.live]⟩
          have hh := sim'.hp id hL
          have hh' : HRep _ w A.C.P L rho _ id (upd s.h id (.fbx xs) id) := hh
          rw [upd_same] at hh'
          have hh2 : PRep _ w (.ip xs) (rho id) := hh'
          rw [hv]
          exact hh2.ip_drop hg
        · rw [hbox] at h1; cases h1
        · rw [hbox] at h1
          injection h1 with h1
          subst h1
          rw [hxs] at hxs'
          injection hxs' with hxs'
          subst hxs'
          obtain ⟨hL, g, hg, hv⟩ := hx.bx_inv (by rw [h2]; trivial)
          have hh := sim.hp id hL
          rw [h2] at hh
          have hh2 : PRep _ w (.ip xs) (rho id) := hh
          refine ⟨_, _, S, hq, ?_, by rw [hv]; exact hh2.ip_drop hg, fun _ h => h, hF.updBox hbox hxs, by simpa using hL, by simp [AB.live]⟩
          show Sim A V L S rho ⟨s.t, upd s.h id (.fbx xs)⟩ a w
          rw [upd_self _ _ _ h2]
          exact sim
      · exact hq.elim
    · rename_i xs hfbx
      rcases hF id with h1 | ⟨e', es', h1, h2⟩ | ⟨cs, xs', h1, _, _⟩
      · rw [hfbx] at h1
        obtain ⟨hL, g, hg, hv⟩ := hx.bx_inv (by rw [h1]; trivial)
        have hh := sim.hp id hL
        rw [h1] at hh
        have hh2 : PRep _ w (.ip xs) (rho id) := hh
        exact ⟨_, [], S, hq, sim, by rw [hv]; exact hh2.ip_drop hg, fun _ h => h, hF, by simp, by simp⟩
      · rw [hfbx] at h1; cases h1
      · rw [hfbx] at h1; cases h1
    · exact hq.elim
  · exact hq.elim

theorem rowE_live {b : AB} {e : TypeId} (h : b.rowE = some e) : b.live := by cases b <;> first | trivial | cases h
theorem live_back {fz : List (Nat × AB)} (hn : ∀ p ∈ fz, ¬ p.2.live) : ∀ {h : Nat → AB} {id : Nat}, (app h fz id).live → app h fz id = h id := by
  induction fz with
  | nil => intro h id _; rfl
  | cons p fz ih =>
    intro h id hl
    obtain ⟨i, b⟩ := p
    have e := ih (fun p hp => hn p (by simp [hp])) (h := upd h i b) (id := id) hl
    have e2 : app h ((i, b) :: fz) id = upd h i b id := e
    by_cases ei : id = i
    · subst ei
      rw [e2, upd_same] at hl
      exact absurd hl (hn (id, b) (by simp))
    · rw [e2, upd_ne _ _ ei]
theorem Frz.there {h h' : Nat → AB} (H : Frz h h') (id : Nat) : (h' id).there ↔ (h id).there := by
  rcases H id with h1 | ⟨e, es, h1, h2⟩ | ⟨cs, xs, h1, _, h2⟩
  · rw [h1]
  · rw [h1, h2]; exact Iff.rfl
  · rw [h1, h2]; exact Iff.rfl
theorem LRep.froze {S S' : Nat → Prop} {w : World} {P : Program} {L : Nat → Prop} {rho : Nat → Value} {h h' : Nat → AB} {fz : List (Nat × AB)} (hS : ∀ b, S b → S' b) (H : Frz h h') (H2 : Frz h (app h' fz)) (hn : ∀ p ∈ fz, ¬ p.2.live) {x : AV} {v : Value} (hx : LRep S w P L rho h' x v) : LRep S' w P L rho (app h' fz) x v :=
  hx.turn ⟨hS, fun _ _ => rfl, fun id ht => ⟨(H.there id).2 ((H2.there id).1 ht), fun hl => ⟨hl, rfl⟩⟩, fun id e hr => by rw [← live_back (h := h') (id := id) hn (rowE_live hr)]; exact hr⟩
theorem toPVs_sim {A : Amb} {V L : Nat → Prop} {rho : Nat → Value} {t : Nat → AV} {a : Act} {w : World} (hC : CtxOK A.C) {h : Nat → AB} : ∀ (cap : List AV) (vs : List Value) (S : Nat → Prop) (h' : Nat → AB) {K : List PV → List (Nat × AB) → Prop}, cap.length = vs.length → Sim A V L S rho ⟨t, h'⟩ a w → Frz h h' →
    (∀ (i : Nat) c v, cap[i]? = some c → vs[i]? = some v → LRep S w A.C.P L rho h' c v) → toPVs h cap K →
    ∃ xs fz S', K xs fz ∧ Sim A V L S' rho ⟨t, app h' fz⟩ a w ∧ (∀ (i : Nat) x v, xs[i]? = some x → vs[i]? = some v → PRep S' w x v) ∧ (∀ b, S b → S' b) ∧ Frz h (app h' fz) ∧ (∀ p ∈ fz, L p.1) ∧ xs.length = vs.length := by
  intro cap
  induction cap with
  | nil =>
    intro vs S h' K hl sim hF _ hq
    have : vs = [] := List.eq_nil_of_length_eq_zero hl.symm
    subst this
    exact ⟨[], [], S, hq, sim, by simp, fun _ h => h, hF, by simp, rfl⟩
  | cons c cap ih =>
    intro vs S h' K hl sim hF hrep hq
    cases vs with
    | nil => simp at hl
    | cons v vs =>
      obtain ⟨y, fz, S2, hq, sim2, hp, hSS, hF2, hfz, hnl⟩ := toPV1_sim (s := ⟨t, h'⟩) hC sim hF (hrep 0 c v rfl rfl) hq
      obtain ⟨xs, fz', S', k1, k2, k3, k4, k5, k6, k7⟩ := ih vs S2 (app h' fz) (by simpa using hl) sim2 hF2 (fun i x u hx hu => (hrep (i + 1) x u (by simpa using hx) (by simpa using hu)).froze hSS hF hF2 hnl) hq
      refine ⟨y :: xs, fz ++ fz', S', k1, by rw [app_append]; exact k2, fun i x u hx hu => ?_, fun b hb => k4 b (hSS b hb), by rw [app_append]; exact k5, fun p hp => (List.mem_append.1 hp).elim (hfz p) (k6 p), by simp [k7]⟩
      cases i with
      | zero => simp at hx hu; subst hx hu; exact hp.mono k4 (fun _ _ => rfl)
      | succ i => exact k3 i x u (by simpa using hx) (by simpa using hu)
theorem toPV_sim {A : Amb} {V L S : Nat → Prop} {rho : Nat → Value} {s : AS} {a : Act} {w : World} (hC : CtxOK A.C) {h : Nat → AB} (sim : Sim A V L S rho s a w) (hF : Frz h s.h) {x : AV} {v : Value} (hx : LRep S w A.C.P L rho s.h x v) {K : PV → List (Nat × AB) → Prop} (hq : toPV h x K) :
    ∃ y fz S', K y fz ∧ Sim A V L S' rho ⟨s.t, app s.h fz⟩ a w ∧ PRep S' w y v ∧ (∀ b, S b → S' b) ∧ Frz h (app s.h fz) ∧ (∀ p ∈ fz, L p.1) := by
  unfold toPV at hq
  split at hq
  · rename_i f cap
    cases hx with
    | fn _ _ vs hl hc =>
      obtain ⟨xs, fz, S', k1, k2, k3, k4, k5, k6, k7⟩ := toPVs_sim (t := s.t) hC cap vs.toList S s.h (by simpa using hl) sim hF (fun i c v h1 h2 => hc i c v h1 (by simpa using h2)) hq
      exact ⟨_, fz, S', k1, k2, .fn f xs vs (by simpa using k7) (fun i c v h1 h2 => k3 i c v h1 (by simpa using h2)), k4, k5, k6⟩
  · obtain ⟨y, fz, S', h1, h2, h3, h4, h5, h6, _⟩ := toPV1_sim hC sim hF hx hq
    exact ⟨y, fz, S', h1, h2, h3, h4, h5, h6⟩

theorem app_out {d : Nat} : ∀ {fz : List (Nat × AB)} {h : Nat → AB}, (∀ p ∈ fz, p.1 ≠ d) → app h fz d = h d := by
  intro fz
  induction fz with
  | nil => intro h _; rfl
  | cons x fz ih =>
    intro h hn
    show app (upd h x.1 x.2) fz d = h d
    rw [ih (fun p hp => hn p (by simp [hp])), upd_ne _ _ (fun e => hn x (by simp) e.symm)]
theorem Sim.kill {A : Amb} {V L S : Nat → Prop} {rho : Nat → Value} {s : AS} {a : Act} {w : World} (sim : Sim A V L S rho s a w) (id : Nat) : Sim A V L S rho ⟨s.t, upd s.h id .none⟩ a w := by
  have T : Turn S S w w L L rho rho s.h (upd s.h id .none) := by
    refine ⟨fun b h => h, fun _ _ => rfl, fun j hj => ⟨?_, fun hl => ⟨hl, rfl⟩⟩, fun j e' hj => ?_⟩
    · rcases upd_cases s.h id .none j with ⟨rfl, h⟩ | ⟨_, h⟩
      · rw [h] at hj; exact hj.elim
      · rw [h] at hj; exact hj
    · rcases upd_cases s.h id .none j with ⟨rfl, h⟩ | ⟨_, h⟩
      · rw [h] at hj; cases hj
      · rw [h] at hj; exact hj
  have live' : ∀ j, ((upd s.h id .none) j).live → j ≠ id ∧ (s.h j).live := by
    intro j hj
    rcases upd_cases s.h id .none j with ⟨rfl, h⟩ | ⟨h1, h⟩
    · rw [h] at hj; exact hj.elim
    · rw [h] at hj; exact ⟨h1, hj⟩
  exact
  { tm := fun j hj => (sim.tm j hj).turn T
    sz := sim.sz, df := sim.df, nb := sim.nb, pn := sim.pn, ev := sim.ev, s0 := sim.s0, st := sim.st, sb := sim.sb
    hp := fun j hj => by
      have hh := sim.hp j hj
      rcases upd_cases s.h id .none j with ⟨rfl, h⟩ | ⟨h1, h⟩
      · show HRep _ _ _ _ _ _ _ (upd s.h j .none j)
        rw [h]
        trivial
      · show HRep _ _ _ _ _ _ _ (upd s.h id .none j)
        rw [h]
        exact hh.turn T (fun _ _ _ => rfl) (fun _ => rfl)
    dj := fun i j g hi hj li lj hgi hgj => sim.dj i j g hi hj (live' i li).2 (live' j lj).2 (hasB_upd (live' i li).1 hgi) (hasB_upd (live' j lj).1 hgj)
    lv := fun i g hi li hg => sim.lv i g hi (live' i li).2 (hasB_upd (live' i li).1 hg)
    fr := sim.fr }

/-- a new object; R: the blocks that nothing holds any more -/
theorem Sim.newH {A : Amb} {V L S : Nat → Prop} {rho : Nat → Value} {s : AS} {a : Act} {w : World} (sim : Sim A V L S rho s a w) (hC : CtxOK A.C) (d : Nat) (b : AB) (hdb : d < 100000) (hL : ¬ L d) (hb : s.h d = b) (w' : World) (ho : w'.os = w.os) (ht : w'.tape = w.tape) (hu : w'.output = w.output)
    (hsz : w.heap.size ≤ w'.heap.size) (R : Nat → Prop) (hold : ∀ k, k < w.heap.size → ¬ R k → w'.heap[k]? = w.heap[k]?) (hR : ∀ k, R k → ¬ S k ∧ (∀ i, L i → (s.h i).live → ¬ hasB w (s.h i) (rho i) k) ∧ (A.mv k ∨ A.w0.heap.size ≤ k))
    (hv : Value) (hblk : ∀ g, hasB w' b hv g → g < w'.heap.size ∧ (w.heap.size ≤ g ∨ R g))
    (hrep : Turn S S w w' L (fun i => L i ∨ i = d) rho (upd rho d hv) s.h s.h → HRep S w' A.C.P (fun i => L i ∨ i = d) (upd rho d hv) s.h d b) :
    Sim A V (fun i => L i ∨ i = d) S (upd rho d hv) s a w' := by
  have keepS : ∀ b, S b → w'.heap[b]? = w.heap[b]? := fun k hk => hold k (sim.st k hk) fun hr => (hR k hr).1 hk
  have hne : ∀ i, L i → i ≠ d := fun i hi e => hL (e ▸ hi)
  have T : Turn S S w w' L (fun i => L i ∨ i = d) rho (upd rho d hv) s.h s.h :=
    ⟨fun b h => h, keepS, fun j hj => ⟨hj, fun hl => ⟨.inl hl, upd_ne _ _ (hne j hl)⟩⟩, fun j e' hj => hj⟩
  exact
  { tm := fun j hj => (sim.tm j hj).turn T
    sz := sim.sz, df := sim.df, nb := sim.nb, pn := fun id h => by rw [upd_ne _ _ (by omega)]; exact sim.pn id h
    ev := hC.env _ _ _ _ sim.ev (fun b h => h) keepS hsz
    s0 := sim.s0
    st := fun b hb => Nat.lt_of_lt_of_le (sim.st b hb) hsz
    sb := sim.sb
    hp := fun j hj => by
      by_cases e : j = d
      · subst e
        rw [hb]
        exact hrep T
      · have hl : L j := hj.resolve_right e
        refine (sim.hp j hl).turn T (fun li g hg => ?_) (fun _ => upd_ne _ _ e)
        exact hold g (sim.lv j g hl li hg).1 fun hr => (hR g hr).2.1 j hl li hg
    dj := fun i j g hi hj li lj hgi hgj => by
      have back : ∀ i g, L i → (s.h i).live → hasB w' (s.h i) (rho i) g → hasB w (s.h i) (rho i) g := fun i g hl li h => hasB_turn (fun k hk => hold k (sim.lvb i k hl li hk).1 fun hr => (hR k hr).2.1 i hl li (.inl hk)) h
      by_cases e1 : i = d
      · by_cases e2 : j = d
        · rw [e1, e2]
        · have hl : L j := hj.resolve_right e2
          rw [upd_ne _ _ e2] at hgj
          have hgj := back j g hl lj hgj
          rw [e1, upd_same, hb] at hgi
          rcases (hblk g hgi).2 with h | h
          · exact absurd (sim.lv j g hl lj hgj).1 (by omega)
          · exact absurd hgj ((hR g h).2.1 j hl lj)
      · have hl : L i := hi.resolve_right e1
        rw [upd_ne _ _ e1] at hgi
        have hgi := back i g hl li hgi
        by_cases e2 : j = d
        · rw [e2, upd_same, hb] at hgj
          rcases (hblk g hgj).2 with h | h
          · exact absurd (sim.lv i g hl li hgi).1 (by omega)
          · exact absurd hgi ((hR g h).2.1 i hl li)
        · have hl2 : L j := hj.resolve_right e2
          rw [upd_ne _ _ e2] at hgj
          exact sim.dj i j g hl hl2 li lj hgi (back j g hl2 lj hgj)
    lv := fun i g hi li hg => by
      by_cases e : i = d
      · rw [e, upd_same, hb] at hg
        obtain ⟨h1, h2⟩ := hblk g hg
        refine ⟨h1, ?_⟩
        rcases h2 with h | h
        · exact ⟨fun hs => absurd (sim.st g hs) (by omega), .inr (Nat.le_trans sim.fr.size h)⟩
        · exact ⟨(hR g h).1, (hR g h).2.2⟩
      · have hl : L i := hi.resolve_right e
        rw [upd_ne _ _ e] at hg
        obtain ⟨h1, h2, h3⟩ := sim.lv i g hl li (hasB_turn (fun k hk => hold k (sim.lvb i k hl li hk).1 fun hr => (hR k hr).2.1 i hl li (.inl hk)) hg)
        exact ⟨Nat.lt_of_lt_of_le h1 hsz, h2, h3⟩
    fr := sim.fr.next ho ht hu hsz fun k hk hn => hold k (Nat.lt_of_lt_of_le hk sim.fr.size) fun hr => by
      rcases (hR k hr).2.2 with h | h
      · exact hn h
      · omega }

/-- a new object; R: the blocks that nothing holds any more -/
theorem Sim.new {A : Amb} {V L S : Nat → Prop} {rho : Nat → Value} {s : AS} {a : Act} {w : World} (sim : Sim A V L S rho s a w) (hC : CtxOK A.C) (d : Nat) (b : AB) (hdb : d < 100000) (hL : ¬ L d) (hb : s.h d = b) (w' : World) (ho : w'.os = w.os) (ht : w'.tape = w.tape) (hu : w'.output = w.output)
    (hsz : w.heap.size ≤ w'.heap.size) (R : Nat → Prop) (hold : ∀ k, k < w.heap.size → ¬ R k → w'.heap[k]? = w.heap[k]?) (hR : ∀ k, R k → ¬ S k ∧ (∀ i, L i → (s.h i).live → ¬ hasB w (s.h i) (rho i) k) ∧ (A.mv k ∨ A.w0.heap.size ≤ k))
    (hv : Value) (hblk : ∀ g, blk hv = some g → g < w'.heap.size ∧ (w.heap.size ≤ g ∨ R g))
    (hrep : Turn S S w w' L (fun i => L i ∨ i = d) rho (upd rho d hv) s.h s.h → HRep S w' A.C.P (fun i => L i ∨ i = d) (upd rho d hv) s.h d b)
    (hnh : notH b = true := by rfl) :
    Sim A V (fun i => L i ∨ i = d) S (upd rho d hv) s a w' :=
  sim.newH hC d b hdb hL hb w' ho ht hu hsz R hold hR hv (fun g h => hblk g (hasB_plain hnh h)) hrep

/-- the world grows, and some of what is new stays -/
theorem Sim.growS {A : Amb} {V L S : Nat → Prop} {rho : Nat → Value} {s : AS} {a : Act} {w : World} (sim : Sim A V L S rho s a w) (hC : CtxOK A.C) (w' : World) (hf : Fr (fun _ => False) w w') (S' : Nat → Prop) (h1 : ∀ b, S b → S' b) (h2 : ∀ b, S' b → b < w'.heap.size) (h3 : ∀ b, S' b → S b ∨ w.heap.size ≤ b) : Sim A V L S' rho s a w' := by
  have keepS : ∀ b, S b → w'.heap[b]? = w.heap[b]? := fun k hk => hf.block k (sim.st k hk) (fun h => h)
  have T : Turn S S' w w' L L rho rho s.h s.h := ⟨h1, keepS, fun j hj => ⟨hj, fun hl => ⟨hl, rfl⟩⟩, fun j e' hj => hj⟩
  exact
  { tm := fun j hj => (sim.tm j hj).turn T
    sz := sim.sz, df := sim.df, nb := sim.nb, pn := sim.pn
    ev := hC.env _ _ _ _ sim.ev h1 keepS hf.size
    s0 := fun b hb => h1 b (sim.s0 b hb)
    st := h2
    sb := fun b hb => by
      rcases h3 b hb with h | h
      · exact sim.sb b h
      · exact .inr (.inr (Nat.le_trans sim.fr.size h))
    hp := fun j hj => (sim.hp j hj).turn T (fun li g hg => hf.block g (sim.lv j g hj li hg).1 (fun h => h)) (fun _ => rfl)
    dj := fun i j g hi hj li lj hgi hgj => sim.dj i j g hi hj li lj (hasB_turn (fun k hk => hf.block k (sim.lvb i k hi li hk).1 (fun h => h)) hgi) (hasB_turn (fun k hk => hf.block k (sim.lvb j k hj lj hk).1 (fun h => h)) hgj)
    lv := fun i g hi li hg => by
      obtain ⟨a1, a2, a3⟩ := sim.lv i g hi li (hasB_turn (fun k hk => hf.block k (sim.lvb i k hi li hk).1 (fun h => h)) hg)
      refine ⟨Nat.lt_of_lt_of_le a1 hf.size, fun h => ?_, a3⟩
      rcases h3 g h with h | h
      · exact a2 h
      · omega
    fr := sim.fr.next hf.os hf.tape hf.output hf.size fun k hk _ => hf.block k (Nat.lt_of_lt_of_le hk sim.fr.size) (fun h => h) }
/-- a new name for what is never written -/
theorem Sim.newFrz {A : Amb} {V L S : Nat → Prop} {rho : Nat → Value} {s : AS} {a : Act} {w : World} (sim : Sim A V L S rho s a w) (d : Nat) (es : List (List PV)) (hdb : d < 100000) (hL : ¬ L d) (hb : s.h d = .frz es) (hv : Value)
    (hrep : PRep S w (.sl es) hv) : Sim A V (fun i => L i ∨ i = d) S (upd rho d hv) s a w := by
  have hne : ∀ i, L i → i ≠ d := fun i hi e => hL (e ▸ hi)
  have T : Turn S S w w L (fun i => L i ∨ i = d) rho (upd rho d hv) s.h s.h :=
    ⟨fun b h => h, fun _ _ => rfl, fun j hj => ⟨hj, fun hl => ⟨.inl hl, upd_ne _ _ (hne j hl)⟩⟩, fun j e' hj => hj⟩
  have out : ∀ i, (L i ∨ i = d) → (s.h i).live → L i ∧ i ≠ d := fun i hi li => by
    by_cases e : i = d
    · rw [e, hb] at li; exact li.elim
    · exact ⟨hi.resolve_right e, e⟩
  exact
  { tm := fun j hj => (sim.tm j hj).turn T
    sz := sim.sz, df := sim.df, nb := sim.nb, pn := fun id h => by rw [upd_ne _ _ (by omega)]; exact sim.pn id h
    ev := sim.ev
    s0 := sim.s0
    st := sim.st
    sb := sim.sb
    hp := fun j hj => by
      by_cases e : j = d
      · subst e
        rw [hb]
        show PRep S w (.sl es) (upd rho j hv j)
        rw [upd_same]
        exact hrep
      · have hl : L j := hj.resolve_right e
        exact (sim.hp j hl).turn T (fun li g hg => rfl) (fun _ => upd_ne _ _ e)
    dj := fun i j g hi hj li lj hgi hgj => by
      obtain ⟨l1, e1⟩ := out i hi li
      obtain ⟨l2, e2⟩ := out j hj lj
      rw [upd_ne _ _ e1] at hgi
      rw [upd_ne _ _ e2] at hgj
      exact sim.dj i j g l1 l2 li lj hgi hgj
    lv := fun i g hi li hgi => by
      obtain ⟨l1, e1⟩ := out i hi li
      rw [upd_ne _ _ e1] at hgi
      exact sim.lv i g l1 li hgi
    fr := sim.fr }
/-- an object is written -/
theorem Sim.writeH {A : Amb} {V L S : Nat → Prop} {rho : Nat → Value} {s : AS} {a : Act} {w : World} (sim : Sim A V L S rho s a w) (hC : CtxOK A.C) (id : Nat) (hL : L id) (hlive : (s.h id).live) (b' : AB) (hb' : ∀ e, b'.rowE = some e → (s.h id).rowE = some e)
    (w' : World) (ho : w'.os = w.os) (ht : w'.tape = w.tape) (hu : w'.output = w.output) (hsz : w'.heap.size = w.heap.size) (hold : ∀ k, blk (rho id) ≠ some k → w'.heap[k]? = w.heap[k]?)
    (hrep : Turn S S w w' L L rho rho s.h (upd s.h id b') → HRep S w' A.C.P L rho (upd s.h id b') id b') (hown : ∀ g, hasB w' b' (rho id) g → hasB w (s.h id) (rho id) g) : Sim A V L S rho ⟨s.t, upd s.h id b'⟩ a w' := by
  have keepS : ∀ b, S b → w'.heap[b]? = w.heap[b]? := fun k hk => hold k fun e => (sim.lvb id k hL hlive e).2.1 hk
  have hthere : (s.h id).there := by cases hh : s.h id <;> rw [hh] at hlive <;> first | trivial | exact hlive.elim
  have T : Turn S S w w' L L rho rho s.h (upd s.h id b') := by
    refine ⟨fun b h => h, keepS, fun j hj => ⟨?_, fun hl => ⟨hl, rfl⟩⟩, fun j e' hj => ?_⟩
    · rcases upd_cases s.h id b' j with ⟨rfl, h⟩ | ⟨_, h⟩
      · exact hthere
      · rw [h] at hj; exact hj
    · rcases upd_cases s.h id b' j with ⟨rfl, h⟩ | ⟨_, h⟩
      · rw [h] at hj; exact hb' e' hj
      · rw [h] at hj; exact hj
  have live' : ∀ j, ((upd s.h id b') j).live → (s.h j).live := by
    intro j hj
    rcases upd_cases s.h id b' j with ⟨rfl, h⟩ | ⟨h1, h⟩
    · exact hlive
    · rw [h] at hj; exact hj
  have back : ∀ j g, L j → ((upd s.h id b') j).live → hasB w' (upd s.h id b' j) (rho j) g → hasB w (s.h j) (rho j) g := by
    intro j g hl hj ho'
    rcases upd_cases s.h id b' j with ⟨rfl, h⟩ | ⟨h1, h⟩
    · rw [h] at ho'; exact hown g ho'
    · rw [h] at ho' hj
      exact hasB_turn (fun k hk => hold k fun e => h1 (sim.djb j id k hl hL hj hlive hk e)) ho'
  exact
  { tm := fun j hj => (sim.tm j hj).turn T
    sz := sim.sz, df := sim.df, nb := sim.nb, pn := sim.pn
    ev := hC.env _ _ _ _ sim.ev (fun b h => h) keepS (Nat.le_of_eq hsz.symm)
    s0 := sim.s0
    st := fun b hb => by rw [hsz]; exact sim.st b hb
    sb := sim.sb
    hp := fun j hj => by
      rcases upd_cases s.h id b' j with ⟨rfl, h⟩ | ⟨h1, h⟩
      · show HRep _ _ _ _ _ _ _ (upd s.h j b' j)
        rw [h]
        exact hrep T
      · show HRep _ _ _ _ _ _ _ (upd s.h id b' j)
        rw [h]
        refine (sim.hp j hj).turn T (fun li g hg => hold g fun e => ?_) (fun _ => rfl)
        exact h1 (sim.dj j id g hj hL li hlive hg (.inl e))
    dj := fun i j g hi hj li lj hgi hgj => sim.dj i j g hi hj (live' i li) (live' j lj) (back i g hi li hgi) (back j g hj lj hgj)
    lv := fun i g hi li hg => by rw [hsz]; exact sim.lv i g hi (live' i li) (back i g hi li hg)
    fr := sim.fr.next ho ht hu (Nat.le_of_eq hsz.symm) fun k hk hn => hold k fun e => by
      rcases (sim.lvb id k hL hlive e).2.2 with h | h
      · exact hn h
      · omega }

/-- an object is written -/
theorem Sim.write {A : Amb} {V L S : Nat → Prop} {rho : Nat → Value} {s : AS} {a : Act} {w : World} (sim : Sim A V L S rho s a w) (hC : CtxOK A.C) (id : Nat) (hL : L id) (hlive : (s.h id).live) (b' : AB) (hb' : ∀ e, b'.rowE = some e → (s.h id).rowE = some e)
    (w' : World) (ho : w'.os = w.os) (ht : w'.tape = w.tape) (hu : w'.output = w.output) (hsz : w'.heap.size = w.heap.size) (hold : ∀ k, blk (rho id) ≠ some k → w'.heap[k]? = w.heap[k]?)
    (hrep : Turn S S w w' L L rho rho s.h (upd s.h id b') → HRep S w' A.C.P L rho (upd s.h id b') id b') (hnh : notH b' = true := by rfl) : Sim A V L S rho ⟨s.t, upd s.h id b'⟩ a w' :=
  sim.writeH hC id hL hlive b' hb' w' ho ht hu hsz hold hrep fun _ h => .inl (hasB_plain hnh h)

theorem Sim.dstlt {A : Amb} {V L S : Nat → Prop} {rho : Nat → Value} {s : AS} {a : Act} {w : World} (sim : Sim A V L S rho s a w) {dst : Option Tmp} (hd : ∀ d, dst = some d → d < A.n) : dst.getD 0 < 100000 := by
  cases dst with
  | none => exact Nat.zero_lt_succ _
  | some d => exact Nat.lt_of_lt_of_le (hd d rfl) sim.nb
theorem one1_spec {A : Amb} {V L S : Nat → Prop} {rho : Nat → Value} {s : AS} {a : Act} {w : World} (sim : Sim A V L S rho s a w) {x : AV} {v : Value} (h : one1 s.h x = true) (hx : LRep S w A.C.P L rho s.h x v) : v.oneCell' = true := by
  unfold one1 at h
  split at h
  · rw [hx.im_inv]; exact h
  · cases h
  · rename_i y h1 h2
    have hy := hx.p_inv
    cases hy with
    | im => exact absurd rfl (h1 _)
    | ag cs vs => exact absurd rfl (h2 cs)
    | nil => rfl
    | sl => rfl
    | ip => rfl
    | fn => rfl
  · cases hx; rfl
  · rename_i id
    split at h
    · rename_i e es hrow
      obtain ⟨hL, hv⟩ := hx.ow_inv (by rw [hrow]; trivial)
      have hh := sim.hp id hL
      rw [hrow] at hh
      obtain ⟨i, xs, _, _, h3, _⟩ := hh
      rw [hv]
      rcases h3.2 with ⟨h4, _⟩ | ⟨g, cap, cur, h4, _⟩ <;> rw [h4] <;> rfl
    · rename_i e es hrow
      obtain ⟨hL, hv⟩ := hx.ow_inv (by rw [hrow]; trivial)
      have hh := sim.hp id hL
      rw [hrow] at hh
      obtain ⟨⟨i, xs, _, _, h3, _⟩, _⟩ := hh
      rw [hv]
      rcases h3.2 with ⟨h4, _⟩ | ⟨g, cap, cur, h4, _⟩ <;> rw [h4] <;> rfl
    · rename_i es hrow
      obtain ⟨hL, hv⟩ := hx.ow_inv (by rw [hrow]; trivial)
      have hh := sim.hp id hL
      rw [hrow] at hh
      obtain ⟨ad, c, h4, _⟩ := PRep.sl_inv hh
      rw [hv, h4]; rfl
    · cases h
  · rename_i id off
    split at h
    · cases h
    · rename_i hne
      have ht : (s.h id).there := by
        cases hh : s.h id <;> first | trivial | exact absurd hh (by simpa using hne)
      obtain ⟨_, g, _, hv⟩ := hx.bx_inv ht
      rw [hv]; rfl
  · rename_i id i off
    split at h
    · rename_i e es hrow
      obtain ⟨_, g, n, c, tj, _, _, hv⟩ := hx.rp_inv hrow
      rw [hv]; rfl
    · rename_i e es hrow
      obtain ⟨_, g, n, c, tj, _, _, hv⟩ := hx.rp_invH hrow
      rw [hv]; rfl
    · cases h
  · cases hx; rfl
  · cases h
theorem cells_one {v : Value} (h : v.oneCell' = true) : v.cells = #[v] := by cases v <;> first | rfl | cases h
theorem pcells_spec {S : Nat → Prop} {w : World} {x : PV} {ys : List PV} {v : Value} (h : pcells x = some ys) (hx : PRep S w x v) : v.cells.size = ys.length ∧ (∀ u ∈ v.cells.toList, u.oneCell' = true) ∧ ∀ (j : Nat) y u, ys[j]? = some y → v.cells[j]? = some u → PRep S w y u := by
  have one : ∀ {v : Value}, v.oneCell' = true → PRep S w x v → ys = [x] → v.cells.size = ys.length ∧ (∀ u ∈ v.cells.toList, u.oneCell' = true) ∧ ∀ (j : Nat) y u, ys[j]? = some y → v.cells[j]? = some u → PRep S w y u := by
    intro v h1 hx hy
    subst hy
    rw [cells_one h1]
    refine ⟨rfl, by simpa using h1, fun j y u hj hu => ?_⟩
    cases j with
    | zero => simp at hj hu; subst hj hu; exact hx
    | succ j => simp at hj
  unfold pcells at h
  split at h
  · injection h with h
    subst h
    obtain ⟨vs, rfl, h1, h2, h3⟩ := hx.ag_inv
    exact ⟨h1.symm, h2, h3⟩
  · split at h
    · rename_i h1
      injection h with h
      exact one (by rw [hx.im_inv]; exact h1) hx h.symm
    · cases h
  · rename_i h1 h2
    injection h with h
    refine one ?_ hx h.symm
    cases hx with
    | im => exact absurd rfl (h2 _)
    | ag cs => exact absurd rfl (h1 cs)
    | nil => rfl
    | sl => rfl
    | ip => rfl
    | fn => rfl

theorem ok_box {A : Amb} {o : Oper} (e : TypeId) (x : Operand) (hop : o.op = .box e x) : OpOK A o := by
  intro V L S rho s a w K next Q hC sim hV hd hq hn hnext
  simp only [qop, hop] at hq
  have hx := ev_rep sim x fun j hj => hV j (by simp [hop, Op.operands, hj])
  have hr : (execOp a.eval o).run A.C.P w = .ok (.value (.pointer (some ⟨w.heap.size, 0, none⟩))) (w.alloc (.cells (a.eval x).cells e)) := by
    simp [execOp, hop, Instr.box, newVar, newRow, newObj, Sem.run]
  have main : ∀ cs : List AV, K (.bx (o.dst.getD 0) 0) [] (some (.box cs)) → (a.eval x).cells.size = cs.length → (∀ (j : Nat) y u, cs[j]? = some y → (a.eval x).cells[j]? = some u → u.oneCell' = true ∧ LRep S w A.C.P L rho s.h y u) → o.wp A.C.P a w next Q := by
    intro cs hq hl hc
    obtain ⟨hL, hb⟩ := hn _ _ _ hq
    have sim' := sim.new hC (o.dst.getD 0) (.box cs) (sim.dstlt hd) hL hb (w.alloc (.cells (a.eval x).cells e)) rfl rfl rfl (by simp) (fun _ => False) (fun k hk _ => Below.heap_alloc _ _ _ hk) (fun _ h => h.elim) (.pointer (some ⟨w.heap.size, 0, none⟩))
      (fun g hg => by simp [blk] at hg; subst hg; simp) (fun T => ⟨w.heap.size, e, (a.eval x).cells, upd_same _ _ _, heap_alloc_new w _, hl, fun j y u hj hu => ⟨(hc j y u hj hu).1, (hc j y u hj hu).2.turn T⟩⟩)
    refine wp_value hr (hnext _ _ _ _ _ _ _ hq (sim'.value o.dst hd _ _ (.bx _ _ _ fun _ => ⟨.inr rfl, w.heap.size, upd_same _ _ _, rfl⟩)))
  split at hq
  · rename_i cs hcs
    rw [hcs] at hx
    obtain ⟨vs, hv, h1, h2, h3⟩ := hx.p_inv.ag_inv
    refine main _ hq (by rw [hv]; simp [Value.cells, h1]) fun j y u hj hu => ?_
    rw [hv] at hu
    rw [List.getElem?_map] at hj
    obtain ⟨z, hz, rfl⟩ := Option.map_eq_some_iff.1 hj
    have hu' : vs[j]? = some u := hu
    exact ⟨h2 u (by simpa using Array.mem_of_getElem? hu'), .p _ _ (h3 j z u hz hu')⟩
  · rename_i xs hcs
    rw [hcs] at hx
    obtain ⟨vs, hv, h1, h2, h3⟩ := hx.st_inv
    refine main _ hq (by rw [hv]; simp [Value.cells, h1]) fun j y u hj hu => ?_
    rw [hv] at hu
    have hu' : vs[j]? = some u := hu
    exact ⟨h2 u (by simpa using Array.mem_of_getElem? hu'), h3 j y u hj hu'⟩
  · split at hq
    · rename_i h1
      have h2 := one1_spec sim h1 hx
      refine main _ hq (by rw [cells_one h2]; rfl) fun j y u hj hu => ?_
      rw [cells_one h2] at hu
      cases j with
      | zero => simp at hj hu; subst hj hu; exact ⟨h2, hx⟩
      | succ j => simp at hj
    · exact hq.elim
theorem ok_alloc {A : Amb} {o : Oper} (e : TypeId) (hop : o.op = .alloc e) : OpOK A o := by
  intro V L S rho s a w K next Q hC sim hV hd hq hn hnext
  simp only [qop, hop] at hq
  split at hq
  · rename_i ti hT
    obtain ⟨info, z, hi, h1, h2, hz, hcells, hone⟩ := (hC.tab e ti hT).info
    have hr : (execOp a.eval o).run A.C.P w = .ok (.value (.pointer (some ⟨w.heap.size, 0, none⟩))) (w.alloc (.cells z.cells e)) := by
      simp [execOp, hop, Instr.alloc, zeroValue, typeInfo, hi, hz, newVar, newRow, newObj, Sem.run]
    split at hq
    · obtain ⟨hL, hb⟩ := hn _ _ _ hq
      have sim' := sim.new hC (o.dst.getD 0) _ (sim.dstlt hd) hL hb (w.alloc (.cells z.cells e)) rfl rfl rfl (by simp) (fun _ => False) (fun k hk _ => Below.heap_alloc _ _ _ hk) (fun _ h => h.elim) (.pointer (some ⟨w.heap.size, 0, none⟩))
        (fun g hg => by simp [blk] at hg; subst hg; simp) (fun T => ⟨w.heap.size, e, z.cells, upd_same _ _ _, heap_alloc_new w _, by rw [hcells]; simp, fun j y u hj hu => by
          rw [hcells] at hu
          rw [List.getElem?_map] at hj
          obtain ⟨v, hv, rfl⟩ := Option.map_eq_some_iff.1 hj
          have hu' : ti.zero[j]? = some u := by simpa using hu
          rw [hv] at hu'
          injection hu' with hu'
          subst hu'
          exact ⟨hone v (List.mem_of_getElem? hv), avOf_rep _ _ _ _ _ _ v⟩⟩)
      refine wp_value hr (hnext _ _ _ _ _ _ _ hq (sim'.value o.dst hd _ _ (.bx _ _ _ fun _ => ⟨.inr rfl, w.heap.size, upd_same _ _ _, rfl⟩)))
    · obtain ⟨hL, hb⟩ := hn _ _ _ hq
      have sim' := sim.new hC (o.dst.getD 0) _ (sim.dstlt hd) hL hb (w.alloc (.cells z.cells e)) rfl rfl rfl (by simp) (fun _ => False) (fun k hk _ => Below.heap_alloc _ _ _ hk) (fun _ h => h.elim) (.pointer (some ⟨w.heap.size, 0, none⟩))
        (fun g hg => by simp [blk] at hg; subst hg; simp) (fun T => ⟨w.heap.size, z.cells, upd_same _ _ _, heap_alloc_new w _, by rw [hcells]; simp, fun j y u hj hu => by
          rw [hcells] at hu
          rw [List.getElem?_map] at hj
          obtain ⟨v, hv, rfl⟩ := Option.map_eq_some_iff.1 hj
          have hu' : ti.zero[j]? = some u := by simpa using hu
          rw [hv] at hu'
          injection hu' with hu'
          subst hu'
          exact ⟨hone v (List.mem_of_getElem? hv), avOf_rep _ _ _ _ _ _ v⟩⟩)
      refine wp_value hr (hnext _ _ _ _ _ _ _ hq (sim'.value o.dst hd _ _ (.bx _ _ _ fun _ => ⟨.inr rfl, w.heap.size, upd_same _ _ _, rfl⟩)))
  · exact hq.elim
end Go.AM
namespace Go.AM
open Go.RowKit

theorem app_noId {id : Nat} : ∀ {fz : List (Nat × AB)} {h : Nat → AB}, noId id fz = true → app h fz id = h id := by
  intro fz
  induction fz with
  | nil => intro h _; rfl
  | cons x fz ih =>
    intro h hn
    unfold noId at hn
    split at hn
    · cases hn
    · rename_i hne
      show app (upd h x.1 x.2) fz id = h id
      rw [ih hn, upd_ne _ _ (fun e => by rw [e] at hne; simp at hne)]
theorem setCells_len {α : Type} : ∀ (ys : List α) (cs : List α) (off : Nat), (setCells cs off ys).length = cs.length := by
  intro ys
  induction ys with
  | nil => intro cs off; rfl
  | cons y ys ih => intro cs off; simp [setCells, ih]
theorem setCells_get {α : Type} : ∀ (ys : List α) (cs : List α) (off j : Nat), off + ys.length ≤ cs.length → (setCells cs off ys)[j]? = if off ≤ j ∧ j < off + ys.length then ys[j - off]? else cs[j]? := by
  intro ys
  induction ys with
  | nil => intro cs off j _; simp only [setCells, List.length_nil]; rw [if_neg (by omega)]
  | cons y ys ih =>
    intro cs off j hl
    simp only [List.length_cons] at hl ⊢
    simp only [setCells]
    rw [ih _ _ _ (by simp; omega)]
    by_cases h1 : j = off
    · subst h1
      rw [if_neg (by omega), if_pos (by omega), Nat.sub_self, List.getElem?_set_self (by omega)]
      rfl
    · by_cases h2 : off + 1 ≤ j ∧ j < off + 1 + ys.length
      · rw [if_pos h2, if_pos (by omega), show j - off = (j - (off + 1)) + 1 by omega, List.getElem?_cons_succ]
      · rw [if_neg h2, if_neg (by omega), List.getElem?_set_ne (by omega)]
theorem splice_get {α : Type} (cs ys : List α) (off j : Nat) (hl : off + ys.length ≤ cs.length) : (cs.take off ++ ys ++ cs.drop (off + ys.length))[j]? = if off ≤ j ∧ j < off + ys.length then ys[j - off]? else cs[j]? := by
  have h0 : (cs.take off).length = off := by simp; omega
  by_cases h1 : j < off
  · rw [if_neg (by omega), List.append_assoc, List.getElem?_append_left (by omega), List.getElem?_take_of_lt h1]
  · by_cases h2 : j < off + ys.length
    · rw [if_pos (by omega), List.append_assoc, List.getElem?_append_right (by omega), h0, List.getElem?_append_left (by omega)]
    · rw [if_neg (by omega), List.append_assoc, List.getElem?_append_right (by omega), h0, List.getElem?_append_right (by omega), List.getElem?_drop]
      congr 1
      omega
theorem set_get {α : Type} (cs : List α) (off j : Nat) (y : α) (hl : off < cs.length) : (cs.set off y)[j]? = if off ≤ j ∧ j < off + 1 then [y][j - off]? else cs[j]? := setCells_get [y] cs off j hl

theorem run_storeAt {P : Program} {w : World} {t : TypeId} {ti : TI} (h : TIok P t ti) (g off : Nat) (ty : TypeId) (cur : Array Value) (v : Value) (hg : w.heap[g]? = some (.cells cur ty (0, 0))) (hs : v.cells.size = ti.size) (hl : off + ti.size ≤ cur.size) (h1 : ∀ u ∈ v.cells.toList, u.oneCell' = true) :
    (Instr.storeAt t (.pointer (some ⟨g, off, none⟩)) v).run P w = .ok () (w.setRow g (cur.toList.take off ++ v.cells.toList ++ cur.toList.drop (off + v.cells.toList.length)).toArray) := by
  have := run_storeCells_at P g off ty v.cells.toList 0 cur w hg (by simp [hs]; omega) h1
  simp only [Nat.add_zero] at this
  simp [Instr.storeAt, Instr.sureAddr, storeVar, h.sizeOf, hs]
  simpa [hs] using this
theorem run_store_op {P : Program} {a : Act} {o : Oper} {w w' : World} {t : TypeId} {x y : Operand} (hop : o.op = .store t x y) (h : (Instr.storeAt t (a.eval x) (a.eval y)).run P w = .ok () w') : (execOp a.eval o).run P w = .ok .skip w' := by
  simp only [execOp, hop, Sem.run_bind, h, Result.andThen_ok, Sem.run_pure]

/-- cells of a row's element, written -/
theorem RowRep.stored {α : Type} {P : Program} {w : World} {R R' : α → Value → Prop} {e : TypeId} {es : List (List α)} {g n c : Nat} {tj : TypeInfo} (h : RowRep P w R e es (.slice (some ⟨g, 0, none⟩) n c)) (htj : P.info? e = some tj) {cur : Array Value} (hg : w.heap[g]? = some (.cells cur e (0, 0)))
    {i off : Nat} {r : List α} (hr : es[i]? = some r) {ys : List α} {us : List Value} (hle : off + ys.length ≤ r.length) (hlen : us.length = ys.length) (hone : ∀ u ∈ us, u.oneCell' = true) (hR : ∀ x u, R x u → R' x u) (hcells : ∀ (j : Nat) z u, ys[j]? = some z → us[j]? = some u → R' z u) :
    RowRep P (w.setRow g (cur.toList.take (i * tj.size + off) ++ us ++ cur.toList.drop (i * tj.size + off + us.length)).toArray) R' e (es.set i (setCells r off ys)) (.slice (some ⟨g, 0, none⟩) n c) := by
  obtain ⟨ie, xs, k1, k2, k3, k4, k5, k6⟩ := h
  rw [htj] at k1
  injection k1 with k1
  subst k1
  rcases k3.2 with ⟨k7, _⟩ | ⟨g', cap, cur', k7, _, k8, k9, k10, k11, k12⟩
  · cases k7
  injection k7 with k7 kn kc
  injection k7 with k7
  injection k7 with k7
  subst k7 kn kc
  rw [hg] at k8
  injection k8 with k8
  injection k8 with k8
  subst k8
  have hi := lt_of_get hr
  have hrl := k4 r (List.mem_of_getElem? hr)
  have hbnd : i * tj.size + tj.size ≤ es.length * tj.size := by rw [← Nat.succ_mul]; exact Nat.mul_le_mul_right _ hi
  have hbnd2 : es.length * tj.size ≤ cur.size := by rw [k11]; exact Nat.mul_le_mul_right _ k9
  have hxl : xs.length = es.length * tj.size := k3.1
  have hsp := fun j => splice_get cur.toList us (i * tj.size + off) j (by simp; omega)
  have hsx := fun j => setCells_get us xs (i * tj.size + off) j (by omega)
  refine ⟨tj, setCells xs (i * tj.size + off) us, htj, k2, ⟨by rw [setCells_len, hxl, List.length_set], .inr ⟨g, c, _, by rw [List.length_set], Nat.zero_le _, setRow_heap w g cur _ e (0, 0) hg, by rw [List.length_set]; exact k9, k10, ?_, ?_⟩⟩, ?_, ?_, ?_⟩
  · simp only [List.size_toArray, List.length_append, List.length_take, List.length_drop, Array.length_toList]
    rw [k11] at *
    omega
  · apply List.ext_getElem?
    intro j
    rw [List.getElem?_take]
    simp only [List.length_set]
    split
    · rename_i hj
      rw [hsp, hsx]
      split
      · rfl
      · rw [← k12, List.getElem?_take_of_lt hj]
    · rename_i hj
      rw [List.getElem?_eq_none]
      rw [setCells_len, hxl]
      omega
  · intro q hqm
    rcases List.mem_or_eq_of_mem_set hqm with h | h
    · exact k4 q h
    · rw [h, setCells_len]; exact hrl
  · intro u hu
    obtain ⟨j, hj⟩ := List.mem_iff_getElem?.1 hu
    rw [hsx] at hj
    split at hj
    · exact hone u (List.mem_of_getElem? hj)
    · exact k5 u (List.mem_of_getElem? hj)
  · intro a' q j z hq2 hz
    have hql : q.length = tj.size := by
      rcases List.mem_or_eq_of_mem_set (List.mem_of_getElem? hq2) with h | h
      · exact k4 q h
      · rw [h, setCells_len]; exact hrl
    have hjl := lt_of_get hz
    rw [hsx]
    by_cases hai : a' = i
    · subst hai
      rw [List.getElem?_set_self hi] at hq2
      injection hq2 with hq2
      subst hq2
      rw [setCells_get _ _ _ _ (by omega)] at hz
      split at hz
      · rename_i hin
        rw [if_pos (by omega), show a' * tj.size + j - (a' * tj.size + off) = j - off by omega]
        have hjo := lt_of_get hz
        exact ⟨us[j - off]'(by omega), List.getElem?_eq_getElem _, hcells _ z _ hz (List.getElem?_eq_getElem _)⟩
      · rename_i hin
        rw [if_neg (by omega)]
        obtain ⟨u, hu, hr2⟩ := k6 _ _ _ _ hr hz
        exact ⟨u, hu, hR _ _ hr2⟩
    · rw [List.getElem?_set_ne (fun e => hai e.symm)] at hq2
      have hne : ¬ (i * tj.size + off ≤ a' * tj.size + j ∧ a' * tj.size + j < i * tj.size + off + us.length) := by
        rintro ⟨h1, h2⟩
        rcases Nat.lt_or_gt_of_ne hai with h | h
        · have := Nat.mul_le_mul_right tj.size (Nat.succ_le_of_lt h)
          rw [Nat.succ_mul] at this
          omega
        · have := Nat.mul_le_mul_right tj.size (Nat.succ_le_of_lt h)
          rw [Nat.succ_mul] at this
          omega
      rw [if_neg hne]
      obtain ⟨u, hu, hr2⟩ := k6 _ _ _ _ hq2 hz
      exact ⟨u, hu, hR _ _ hr2⟩
/-- a row's block -/
theorem RowRep.block {α : Type} {P : Program} {w : World} {R : α → Value → Prop} {e : TypeId} {es : List (List α)} {g n c : Nat} (h : RowRep P w R e es (.slice (some ⟨g, 0, none⟩) n c)) {tj : TypeInfo} (htj : P.info? e = some tj) : ∃ cur : Array Value, w.heap[g]? = some (.cells cur e (0, 0)) ∧ es.length * tj.size ≤ cur.size ∧ (∀ r ∈ es, r.length = tj.size) ∧ 0 < tj.size := by
  obtain ⟨ie, xs, k1, k2, k3, k4, k5, k6⟩ := h
  rw [htj] at k1
  injection k1 with k1
  subst k1
  rcases k3.2 with ⟨k7, _⟩ | ⟨g', cap, cur', k7, _, k8, k9, k10, k11, k12⟩
  · cases k7
  injection k7 with k7 kn kc
  injection k7 with k7
  injection k7 with k7
  subst k7
  exact ⟨cur', k8, by rw [k11]; exact Nat.mul_le_mul_right _ k9, k4, k2⟩
theorem blk_slice {g o n c : Nat} {p : Option Nat} {k : Nat} : blk (.slice (some ⟨g, o, p⟩) n c) = some k ↔ k = g := by
  simp only [blk, Option.some.injEq]
  exact ⟨fun h => h.symm, fun h => h.symm⟩
/-- the owned rows in a row's cells lie apart from it -/
theorem HSep.strong {P : Program} {w : World} {R : HX → Value → Prop} {e : TypeId} {es : List (List HX)} {v : Value} (hS : HSep w es v) (h : RowRep P w R e es v) :
    RowRep P w (fun x u => R x u ∧ ∀ e' xs', x = .row e' xs' → ∀ g b, blk v = some g → blk u = some b → b ≠ g) e es v := by
  obtain ⟨i, xs, h1, h2, h3, h4, h5, h6⟩ := h
  refine ⟨i, xs, h1, h2, h3, h4, h5, fun a r j x ha hj => ?_⟩
  obtain ⟨u, hu, hr⟩ := h6 a r j x ha hj
  refine ⟨u, hu, hr, fun e' xs' hx g b hg hb => ?_⟩
  subst hx
  have hrl := h4 r (List.mem_of_getElem? ha)
  rcases h3.2 with ⟨hn, hz⟩ | ⟨g', cap, cur, hv, _, hgg, k1, k2, k3, k4⟩
  · have := (List.getElem?_eq_some_iff.1 ha).1
    omega
  · rw [hv] at hg
    obtain rfl := blk_slice.1 hg
    refine hS.top g a j u b (by rw [hv]; rfl) ⟨r, e', xs', _, _, _, ha, hj, hgg, ?_⟩ hb
    rw [hrl]
    rw [← k4, List.getElem?_take] at hu
    split at hu
    · simpa using hu
    · cases hu
/-- a value put into a cell of a row with rows -/
theorem Sim.hput {A : Amb} {V L S : Nat → Prop} {rho : Nat → Value} {s : AS} {a : Act} {w : World} (sim : Sim A V L S rho s a w) (hC : CtxOK A.C) {id : Nat} (hL : L id) {e : TypeId} {es : List (List HX)} (hrow : s.h id = .hrow e es) {g n c : Nat} (hg : rho id = .slice (some ⟨g, 0, none⟩) n c) {tj : TypeInfo} (htj : A.C.P.info? e = some tj)
    {i off : Nat} {r : List HX} (hr : es[i]? = some r) (hle : off + 1 ≤ r.length) {x : AV} {u : Value} (hone : u.oneCell' = true) (hx : LRep S w A.C.P L rho s.h x u) :
    ∃ cur : Array Value, w.heap[g]? = some (.cells cur e (0, 0)) ∧ i * tj.size + off + 1 ≤ cur.size ∧ Sim A V L S rho ⟨s.t, upd s.h id (.hrow e (es.set i (r.set off (.av x))))⟩ a (w.setRow g (cur.toList.take (i * tj.size + off) ++ [u] ++ cur.toList.drop (i * tj.size + off + 1)).toArray) := by
  have hh := sim.hp id hL
  rw [hrow] at hh
  obtain ⟨hR, hS⟩ := hh
  rw [hg] at hR hS
  obtain ⟨cur, hcur, hsz, hlen, hpos⟩ := hR.block htj
  have hi := lt_of_get hr
  have hrl := hlen r (List.mem_of_getElem? hr)
  have hbnd : i * tj.size + tj.size ≤ es.length * tj.size := by rw [← Nat.succ_mul]; exact Nat.mul_le_mul_right _ hi
  -- owned cells of the new row are owned cells of the old one
  have cellb : ∀ k j v, hcellB (w.setRow g (cur.toList.take (i * tj.size + off) ++ [u] ++ cur.toList.drop (i * tj.size + off + 1)).toArray) (es.set i (r.set off (.av x))) g k j v → hcellB w es g k j v := by
    rintro k j v ⟨q, e', xs', c', ty', m', h1, h2, h3, h4⟩
    rw [setRow_heap w g cur _ e (0, 0) hcur] at h3
    injection h3 with h3
    injection h3 with h3 h3' h3''
    have hjl := lt_of_get h2
    have hql : q.length = tj.size := by
      rcases List.mem_or_eq_of_mem_set (List.mem_of_getElem? h1) with h | h
      · exact hlen q h
      · rw [h, List.length_set]; exact hrl
    have key : ∀ p, p ≠ i * tj.size + off → c'[p]? = some v → cur[p]? = some v := fun p hp h => by
      rw [← h3] at h
      have h : (cur.toList.take (i * tj.size + off) ++ [u] ++ cur.toList.drop (i * tj.size + off + 1))[p]? = some v := by simpa using h
      have h2 := splice_get cur.toList [u] (i * tj.size + off) p (by simp; omega)
      simp only [List.length_singleton] at h2
      rw [h2, if_neg (by omega)] at h
      simpa using h
    by_cases hki : k = i
    · subst hki
      rw [List.getElem?_set_self hi] at h1
      injection h1 with h1
      subst h1
      have hjo : j ≠ off := fun e0 => by
        subst e0
        rw [List.getElem?_set_self (by omega)] at h2
        injection h2 with h2
        cases h2
      rw [List.getElem?_set_ne (fun e => hjo e.symm)] at h2
      refine ⟨r, e', xs', cur, _, _, hr, h2, hcur, ?_⟩
      rw [hql] at h4
      rw [hrl]
      exact key _ (by omega) h4
    · rw [List.getElem?_set_ne (fun e => hki e.symm)] at h1
      refine ⟨q, e', xs', cur, _, _, h1, h2, hcur, ?_⟩
      refine key _ ?_ h4
      rw [hql]
      intro he
      rcases Nat.lt_or_gt_of_ne hki with h | h
      · have := Nat.mul_le_mul_right tj.size (Nat.succ_le_of_lt h)
        rw [Nat.succ_mul] at this
        omega
      · have := Nat.mul_le_mul_right tj.size (Nat.succ_le_of_lt h)
        rw [Nat.succ_mul] at this
        omega
  refine ⟨cur, hcur, by omega, ?_⟩
  refine sim.writeH hC id hL (by rw [hrow]; trivial) _ (fun e' h => by rw [hrow]; exact h) _ (setRow_os w g _) (setRow_tape w g _) (setRow_output w g _) (setRow_size w g _) (fun k hk => setRow_other w g k _ fun e => hk (by rw [hg, e]; rfl)) (fun T => ?_) (fun k hk => ?_)
  · show RowRep _ _ _ _ _ (rho id) ∧ HSep _ _ (rho id)
    rw [hg]
    refine ⟨(hS.strong hR).stored htj hcur (ys := [.av x]) (us := [u]) hr hle rfl (by simpa using hone) (fun y v hy => ?_) (fun j z v hz hv => ?_), ?_⟩
    · cases y with
      | av y => exact LRep.turn T hy.1
      | row e' xs' => exact RowRep.turn hy.1 (fun k hk => setRow_other w g k _ (hy.2 _ _ rfl g k rfl hk)) (fun x u hu => hu.mono T.hS T.keep)
    · cases j with
      | zero => simp at hz hv; subst hz hv; exact LRep.turn T hx
      | succ j => simp at hz
    · exact ⟨fun g' k j v b h1 h2 h3 => by
        obtain rfl := blk_slice.1 h1
        exact hS.top _ k j v b h1 (cellb k j v h2) h3, fun g' k j k' j' v v' b h1 h2 h3 h4 h5 => by
        obtain rfl := blk_slice.1 h1
        exact hS.dis _ k j k' j' v v' b h1 (cellb k j v h2) (cellb k' j' v' h3) h4 h5⟩
  · rw [hrow]
    rcases hk with hk | ⟨cs, g', h, _⟩ | ⟨e', es', g', k', j, v, h1, h2, h3, h4⟩
    · exact .inl hk
    · cases h
    · injection h1 with h1 h1'
      subst h1 h1'
      have h2' := h2
      rw [hg] at h2'
      obtain rfl := blk_slice.1 h2'
      exact .inr (.inr ⟨_, _, _, _, _, _, rfl, h2, cellb _ _ _ h3, h4⟩)
theorem ok_store {A : Amb} {o : Oper} (t : TypeId) (x y : Operand) (hop : o.op = .store t x y) : OpOK A o := by
  intro V L S rho s a w K next Q hC sim hV hd hq hn hnext
  simp only [qop, hop] at hq
  have hx := ev_rep sim x fun j hj => hV j (by simp [hop, Op.operands, hj])
  have hy := ev_rep sim y fun j hj => hV j (by simp [hop, Op.operands, hj])
  split at hq
  · exact hq.elim
  rename_i ti hT
  have hti := hC.tab t ti hT
  split at hq
  · rename_i id off hxe
    rw [hxe] at hx
    split at hq
    · rename_i cs hbox
      obtain ⟨hL, g, hg, hv⟩ := hx.bx_inv (by rw [hbox]; trivial)
      -- the store, in a state s2 whose objects may have frozen
      have main : ∀ (S2 : Nat → Prop) (s2 : AS) (cs' : List AV) (ws : List AV), Sim A V L S2 rho s2 a w → s2.h id = .box cs → (a.eval y).cells.size = ti.size → ws.length = ti.size → off + ti.size ≤ cs.length → (∀ u ∈ (a.eval y).cells.toList, u.oneCell' = true) →
          (∀ (j : Nat) z u, ws[j]? = some z → (a.eval y).cells[j]? = some u → LRep S2 w A.C.P L rho s2.h z u) → cs'.length = cs.length → (∀ j, cs'[j]? = if off ≤ j ∧ j < off + ws.length then ws[j - off]? else cs[j]?) →
          ∃ w', (execOp a.eval o).run A.C.P w = .ok .skip w' ∧ Sim A V L S2 rho ⟨s2.t, upd s2.h id (.box cs')⟩ a w' := by
        intro S2 s2 cs' ws sim2 hb2 hsz hws hle hone hcells hlen hget
        have hh := sim2.hp id hL
        rw [hb2] at hh
        obtain ⟨g', ty, c, k1, k2, k3, k4⟩ := hh
        rw [hg] at k1
        injection k1 with k1
        injection k1 with k1
        injection k1 with k1
        subst k1
        have hrun := run_storeAt (w := w) hti g off ty c (a.eval y) k2 hsz (by omega) hone
        refine ⟨_, run_store_op hop (by rw [hv]; exact hrun), ?_⟩
        refine sim2.write hC id hL (by rw [hb2]; trivial) (.box cs') (fun _ h => by cases h) _ (by simp) (by simp) (by simp) (by simp) (fun k hk => setRow_other w g k _ fun e => hk (by rw [hg, e]; rfl)) fun T => ?_
        have hcl : (a.eval y).cells.toList.length = ti.size := by simpa using hsz
        refine ⟨g, ty, _, hg, setRow_heap w g c _ ty (0, 0) k2, by simp [hcl]; omega, fun j z u hj hu => ?_⟩
        have hu' : (c.toList.take off ++ (a.eval y).cells.toList ++ c.toList.drop (off + (a.eval y).cells.toList.length))[j]? = some u := by simpa using hu
        rw [splice_get _ _ _ _ (by rw [hcl]; simpa [k3] using hle)] at hu'
        rw [hget j] at hj
        rw [hcl] at hu'
        rw [hws] at hj
        split at hj
        · rename_i hin
          rw [if_pos hin] at hu'
          have hu2 : (a.eval y).cells[j - off]? = some u := by simpa using hu'
          exact ⟨hone u (List.mem_of_getElem? hu'), (hcells _ z u hj hu2).turn T⟩
        · rename_i hin
          rw [if_neg hin] at hu'
          have hu2 : c[j]? = some u := by simpa using hu'
          obtain ⟨h5, h6⟩ := k4 _ _ _ hj hu2
          exact ⟨h5, h6.turn T⟩
      split at hq
      · rename_i hag
        obtain ⟨yv, fz, S2, hq, sim2, hrep, hSS, hF, hfz⟩ := toPV_sim hC sim (Frz.refl s.h) hy hq
        split at hq
        · rename_i ys
          split at hq
          · rename_i hchk
            simp only [Bool.and_eq_true] at hchk
            obtain ⟨⟨e1, e2⟩, e3⟩ := hchk
            have e1 := eqB_eq e1
            have e2 := leB_le e2
            obtain ⟨vs, hvs, h1, h2, h3⟩ := hrep.ag_inv
            have hcl : (a.eval y).cells = vs := by rw [hvs]; rfl
            obtain ⟨w', hrun, sim3⟩ := main S2 _ (setCells cs off (ys.map avN)) (ys.map avN) sim2 (by simp only; rw [app_noId e3]; exact hbox) (by rw [hcl]; omega) (by simpa using e1) e2 (by rw [hcl]; exact h2)
              (fun j z u hj hu => by
                rw [hcl] at hu
                rw [List.getElem?_map] at hj
                obtain ⟨z', hz, rfl⟩ := Option.map_eq_some_iff.1 hj
                exact avN_rep (h3 j z' u hz hu)) (setCells_len _ _ _) (fun j => setCells_get _ _ _ _ (by simpa [e1] using e2))
            refine wp_skip' hrun (hnext _ _ _ S2 rho _ _ hq ?_)
            have := sim3.value o.dst hd .junk undef (.junk _)
            simp only [app_append, app]
            exact this
          · exact hq.elim
        · exact hq.elim
      · rename_i hag
        split at hq
        · rename_i hchk
          simp only [Bool.and_eq_true] at hchk
          obtain ⟨⟨e1, e2⟩, e3⟩ := hchk
          have e1 := leB_le e1
          have e2 := eqB_eq e2
          have h1 := one1_spec sim e3 hy
          have hcl := cells_one h1
          obtain ⟨w', hrun, sim3⟩ := main S s (cs.set off (ev s.t y)) [ev s.t y] sim hbox (by rw [hcl, e2]; rfl) (by rw [e2]; rfl) (by omega) (by rw [hcl]; simpa using h1)
            (fun j z u hj hu => by
              rw [hcl] at hu
              cases j with
              | zero => simp at hj hu; subst hj hu; exact hy
              | succ j => simp at hj) (by simp) (fun j => set_get _ _ _ _ (by omega))
          refine wp_skip' hrun (hnext _ _ _ S rho _ _ hq ?_)
          exact sim3.value o.dst hd .junk undef (.junk _)
        · exact hq.elim
    · exact hq.elim
  · rename_i id i off hxe
    rw [hxe] at hx
    split at hq
    · rename_i e es hrow
      obtain ⟨hL, g, n, c, tj, hg, htj, hv⟩ := hx.rp_inv hrow
      obtain ⟨r, hr, hq⟩ := hq
      obtain ⟨yv, fz, S2, hq, sim2, hrep, hSS, hF, hfz⟩ := toPV_sim hC sim (Frz.refl s.h) hy hq
      split at hq
      · rename_i ys hys
        split at hq
        · rename_i hchk
          simp only [Bool.and_eq_true] at hchk
          obtain ⟨⟨e1, e2⟩, e3⟩ := hchk
          have e1 := eqB_eq e1
          have e2 := leB_le e2
          obtain ⟨hcsz, hone, hcells⟩ := pcells_spec hys hrep
          have hb2 : (app s.h fz) id = .row e es := by rw [app_noId e3]; exact hrow
          have hh := sim2.hp id hL
          have hh : HRep S2 w A.C.P L rho (app s.h fz) id ((app s.h fz) id) := hh
          rw [hb2] at hh
          obtain ⟨ie, xs, k1, k2, k3, k4, k5, k6⟩ := hh
          rw [htj] at k1
          injection k1 with k1
          subst k1
          rw [hg] at k3
          rcases k3.2 with ⟨k7, _⟩ | ⟨g', cap, cur, k7, _, k8, k9, k10, k11, k12⟩
          · cases k7
          · injection k7 with k7 kn kc
            injection k7 with k7
            injection k7 with k7
            subst k7 kn kc
            have hi := lt_of_get hr
            have hrl := k4 r (List.mem_of_getElem? hr)
            have hbnd : i * tj.size + tj.size ≤ es.length * tj.size := by rw [← Nat.succ_mul]; exact Nat.mul_le_mul_right _ hi
            have hbnd2 : es.length * tj.size ≤ cur.size := by rw [k11]; exact Nat.mul_le_mul_right _ k9
            have hcl : (a.eval y).cells.toList.length = ti.size := by simp; omega
            have hrun := run_storeAt (w := w) hti g (i * tj.size + off) e cur (a.eval y) k8 (by omega) (by omega) hone
            refine wp_skip' (run_store_op hop (by rw [hv]; exact hrun)) (hnext _ _ _ S2 rho _ _ hq ?_)
            have sim3 : Sim A V L S2 rho ⟨s.t, upd (app s.h fz) id (.row e (es.set i (setCells r off ys)))⟩ a (w.setRow g (cur.toList.take (i * tj.size + off) ++ (a.eval y).cells.toList ++ cur.toList.drop (i * tj.size + off + (a.eval y).cells.toList.length)).toArray) := by
              refine sim2.write hC id hL (by show (app s.h fz id).live; rw [hb2]; trivial) (.row e (es.set i (setCells r off ys))) (fun e' h => by show (app s.h fz id).rowE = _; rw [hb2]; exact h) _ (setRow_os w g _) (setRow_tape w g _) (setRow_output w g _) (setRow_size w g _)
                (fun k hk => setRow_other w g k _ fun e => hk (by rw [hg, e]; rfl)) (fun T => ?_)
              show RowRep _ _ _ _ _ (rho id)
              rw [hg]
              have hxl : xs.length = es.length * tj.size := k3.1
              have hcur : ∀ (j : Nat) u, xs[j]? = some u → cur.toList[j]? = some u := fun j u hj => by
                rw [← k12] at hj
                rw [List.getElem?_take] at hj
                split at hj
                · exact hj
                · cases hj
              have hsp := fun j => splice_get cur.toList (a.eval y).cells.toList (i * tj.size + off) j (by rw [hcl]; simp; omega)
              have hsx := fun j => setCells_get (a.eval y).cells.toList xs (i * tj.size + off) j (by rw [hcl, hxl]; omega)
              refine ⟨tj, setCells xs (i * tj.size + off) (a.eval y).cells.toList, htj, k2, ⟨by rw [setCells_len, hxl, List.length_set], .inr ⟨g, c, _, by rw [List.length_set], Nat.zero_le _, setRow_heap w g cur _ e (0, 0) k8, by rw [List.length_set]; exact k9, k10, ?_, ?_⟩⟩, ?_, ?_, ?_⟩
              · simp only [List.size_toArray, List.length_append, List.length_take, List.length_drop, Array.length_toList]
                rw [k11] at *
                simp at hcl
                omega
              · apply List.ext_getElem?
                intro j
                rw [List.getElem?_take]
                simp only [List.length_set]
                split
                · rename_i hj
                  rw [hsp, hsx]
                  split
                  · rfl
                  · rw [← k12, List.getElem?_take_of_lt hj]
                · rename_i hj
                  rw [List.getElem?_eq_none]
                  rw [setCells_len, hxl]
                  omega
              · intro q hqm
                rcases List.mem_or_eq_of_mem_set hqm with h | h
                · exact k4 q h
                · rw [h, setCells_len]; exact hrl
              · intro u hu
                obtain ⟨j, hj⟩ := List.mem_iff_getElem?.1 hu
                rw [hsx] at hj
                split at hj
                · exact hone u (List.mem_of_getElem? hj)
                · exact k5 u (List.mem_of_getElem? hj)
              · intro a' q j z hq2 hz
                have hql : q.length = tj.size := by
                  rcases List.mem_or_eq_of_mem_set (List.mem_of_getElem? hq2) with h | h
                  · exact k4 q h
                  · rw [h, setCells_len]; exact hrl
                have hjl := lt_of_get hz
                rw [hsx]
                by_cases hai : a' = i
                · subst hai
                  rw [List.getElem?_set_self hi] at hq2
                  injection hq2 with hq2
                  subst hq2
                  rw [setCells_get _ _ _ _ (by omega)] at hz
                  split at hz
                  · rename_i hin
                    rw [if_pos (by omega), show a' * tj.size + j - (a' * tj.size + off) = j - off by omega]
                    obtain ⟨u, hu⟩ := arr_at hcsz.symm (lt_of_get hz)
                    exact ⟨u, by simpa using hu, (hcells _ z u hz hu).mono T.hS T.keep⟩
                  · rename_i hin
                    rw [if_neg (by omega)]
                    obtain ⟨u, hu, hr2⟩ := k6 _ _ _ _ hr hz
                    exact ⟨u, hu, hr2.mono T.hS T.keep⟩
                · rw [List.getElem?_set_ne (fun e => hai e.symm)] at hq2
                  have hne : ¬ (i * tj.size + off ≤ a' * tj.size + j ∧ a' * tj.size + j < i * tj.size + off + (a.eval y).cells.toList.length) := by
                    rintro ⟨h1, h2⟩
                    rcases Nat.lt_or_gt_of_ne hai with h | h
                    · have := Nat.mul_le_mul_right tj.size (Nat.succ_le_of_lt h)
                      rw [Nat.succ_mul] at this
                      omega
                    · have := Nat.mul_le_mul_right tj.size (Nat.succ_le_of_lt h)
                      rw [Nat.succ_mul] at this
                      omega
                  rw [if_neg hne]
                  obtain ⟨u, hu, hr2⟩ := k6 _ _ _ _ hq2 hz
                  exact ⟨u, hu, hr2.mono T.hS T.keep⟩
            have := sim3.value o.dst hd .junk undef (.junk _)
            simp only [app_append, app]
            exact this
        · exact hq.elim
      · exact hq.elim
    · rename_i e es hrow
      obtain ⟨hL, g, n, c, tj, hg, htj, hv⟩ := hx.rp_invH hrow
      obtain ⟨r, hr, hq⟩ := hq
      split at hq
      · exact hq.elim
      split at hq
      · rename_i hchk
        simp only [Bool.and_eq_true] at hchk
        obtain ⟨⟨e1, e2⟩, e3⟩ := hchk
        have e1 := leB_le e1
        have e2 := eqB_eq e2
        have h1 := one1_spec sim e3 hy
        have hcl := cells_one h1
        obtain ⟨cur, hcur, hsz, sim3⟩ := sim.hput hC hL hrow hg htj hr e1 h1 hy
        have hrun := run_storeAt (w := w) hti g (i * tj.size + off) e cur (a.eval y) hcur (by rw [hcl, e2]; rfl) (by omega) (by rw [hcl]; simpa using h1)
        rw [hcl] at hrun
        refine wp_skip' (run_store_op hop (by rw [hv]; exact hrun)) (hnext _ _ _ S rho _ _ hq ?_)
        exact sim3.value o.dst hd .junk undef (.junk _)
      · exact hq.elim
    · exact hq.elim
  · exact hq.elim
end Go.AM
namespace Go.AM
open Go.RowKit

theorem ok_len {A : Amb} {o : Oper} (c : Call) (hop : o.op = .call c) (hc : c.callee = .builtin .len) : OpOK A o := by
  intro V L S rho s a w K next Q hC sim hV hd hq _ hnext
  obtain ⟨callee, args, argTypes⟩ := c
  simp only at hc
  subst hc
  simp only [qop, hop, calleeK, calleeB] at hq
  split at hq
  · rename_i x t hargs htys
    have hx := ev_rep sim x fun j hj => hV j (by simp [hop, Op.operands, Call.operands, hj]; rw [← hj]; exact Array.mem_toList_iff.1 (by rw [hargs]; simp))
    have e1 : args = #[x] := by rw [← Array.toArray_toList (xs := args), hargs]
    have e2 : argTypes = #[t] := by rw [← Array.toArray_toList (xs := argTypes), htys]
    subst e1 e2
    split at hq
    · rename_i size bytes zero eq hT
      have hti := (hC.tab t _ hT).under
      simp only at hti
      split at hq
      · rename_i st hst
        rw [hst] at hx
        exact ok_value sim hd hnext hq (.p _ _ (.im _)) (by simp [execOp, hop, resolve, invoke, builtin, hx.im_inv, Builtin.len_, run_underlying hti, goInt])
      · exact hq.elim
    · rename_i e size bytes zero eq hT
      have hti := (hC.tab t _ hT).under
      simp only at hti
      have fin : ∀ (es : List (List PV)) ad c, K (.p (.im (.int .i64 es.length))) [] none → a.eval x = .slice ad es.length c → o.wp A.C.P a w next Q := fun es ad c hq he =>
        ok_value sim hd hnext hq (.p _ _ (.im _)) (by simp [execOp, hop, resolve, invoke, builtin, he, Builtin.len_, run_underlying hti, goInt])
      split at hq
      · rename_i m hm
        unfold hlen at hm
        split at hm
        · rename_i id hes
          rw [hes] at hx
          split at hm
          · rename_i e' es hrow
            injection hm with hm
            subst hm
            obtain ⟨hL, hv⟩ := hx.ow_inv (by rw [hrow]; trivial)
            have hh := sim.hp id hL
            rw [hrow] at hh
            obtain ⟨⟨i, xs, _, _, h3, _⟩, _⟩ := hh
            obtain ⟨ad, c, hv2⟩ : ∃ ad c, rho id = .slice ad es.length c := by
              rcases h3.2 with ⟨h4, h5⟩ | ⟨g, cap, cur, h4, _⟩
              · exact ⟨none, 0, by rw [h4, h5]⟩
              · exact ⟨_, cap, h4⟩
            exact ok_value sim hd hnext hq (.p _ _ (.im _)) (by simp [execOp, hop, resolve, invoke, builtin, hv, hv2, Builtin.len_, run_underlying hti, goInt])
          · cases hm
        · cases hm
      unfold aslice at hq
      split at hq
      · rename_i es hes
        rw [hes] at hx
        obtain ⟨ad, c, hv, _⟩ := hx.p_inv.sl_inv
        exact fin es ad c hq hv
      · rename_i hes
        rw [hes] at hx
        have : a.eval x = .slice none 0 0 := by cases h : a.eval x <;> rw [h] at hx <;> cases hx; rfl
        exact fin [] none 0 hq this
      · rename_i id hes
        rw [hes] at hx
        split at hq
        · rename_i e' es hrow
          obtain ⟨hL, hv⟩ := hx.ow_inv (by rw [hrow]; trivial)
          have hh := sim.hp id hL
          rw [hrow] at hh
          obtain ⟨i, xs, _, _, h3, _⟩ := hh
          rcases h3.2 with ⟨h4, h5⟩ | ⟨g, cap, cur, h4, _⟩
          · exact fin es none 0 hq (by rw [hv, h4, h5])
          · exact fin es _ cap hq (by rw [hv, h4])
        · rename_i es hrow
          obtain ⟨hL, hv⟩ := hx.ow_inv (by rw [hrow]; trivial)
          have hh := sim.hp id hL
          rw [hrow] at hh
          obtain ⟨ad, c, h4, _⟩ := PRep.sl_inv hh
          exact fin es ad c hq (by rw [hv, h4])
        · exact hq.elim
      · exact hq.elim
    · rename_i kt et size bytes zero eq hT
      have hti := (hC.tab t _ hT).under
      simp only at hti
      split at hq
      case h_2 => exact hq.elim
      rename_i id hid
      split at hq
      case h_2 => exact hq.elim
      rename_i mk es hm
      rw [hid] at hx
      obtain ⟨hL, hv⟩ := hx.ow_inv (by rw [hm]; trivial)
      have hh := sim.hp id hL
      rw [hm] at hh
      obtain ⟨g, ms, clock, h1, h2, h3, _⟩ := hh
      exact ok_value sim hd hnext hq (.p _ _ (.im _)) (by simp [execOp, hop, resolve, invoke, builtin, hv, h1, Builtin.len_, run_underlying hti, MapKept.run_getObj_map h2, h3, goInt])
    · exact hq.elim
  · exact hq.elim
theorem ok_min {A : Amb} {o : Oper} (c : Call) (hop : o.op = .call c) (hc : c.callee = .builtin .min) : OpOK A o := by
  intro V L S rho s a w K next Q hC sim hV hd hq _ hnext
  obtain ⟨callee, args, argTypes⟩ := c
  simp only at hc
  subst hc
  simp only [qop, hop, calleeK, calleeB] at hq
  split at hq
  · rename_i x y hargs
    have hx := ev_rep sim x fun j hj => hV j (by simp [hop, Op.operands, Call.operands, hj]; rw [← hj]; exact Array.mem_toList_iff.1 (by rw [hargs]; simp))
    have hy := ev_rep sim y fun j hj => hV j (by simp [hop, Op.operands, Call.operands, hj]; rw [← hj]; exact Array.mem_toList_iff.1 (by rw [hargs]; simp))
    have e1 : args = #[x, y] := by rw [← Array.toArray_toList (xs := args), hargs]
    subst e1
    split at hq
    · rename_i k m k' n h1 h2
      rw [h1] at hx; rw [h2] at hy
      exact ok_value sim hd hnext hq (.p _ _ (.im _)) (by
        simp [execOp, hop, resolve, invoke, builtin, hx.im_inv, hy.im_inv, Builtin.min_, Builtin.min2]
        rw [Int.min_def]
        split <;> split <;> omega)
    · exact hq.elim
  · exact hq.elim
theorem max2_int {P : Program} {w : World} (k k' : IntKind) (m n : Int) : (Builtin.max2 (.int k m) (.int k' n)).run P w = .ok (.int k (max m n)) w := by
  simp only [Builtin.max2, Sem.run_pure]
  rw [Int.max_def]
  by_cases h : n > m
  · rw [if_pos h, if_pos (by omega)]
  · rw [if_neg h]
    by_cases h2 : m ≤ n
    · rw [if_pos h2, show m = n by omega]
    · rw [if_neg h2]
theorem ok_max {A : Amb} {o : Oper} (c : Call) (hop : o.op = .call c) (hc : c.callee = .builtin .max) : OpOK A o := by
  intro V L S rho s a w K next Q hC sim hV hd hq _ hnext
  obtain ⟨callee, args, argTypes⟩ := c
  simp only at hc
  subst hc
  simp only [qop, hop, calleeK, calleeB] at hq
  split at hq
  · rename_i x y hargs
    have hx := ev_rep sim x fun j hj => hV j (by simp [hop, Op.operands, Call.operands, hj]; rw [← hj]; exact Array.mem_toList_iff.1 (by rw [hargs]; simp))
    have hy := ev_rep sim y fun j hj => hV j (by simp [hop, Op.operands, Call.operands, hj]; rw [← hj]; exact Array.mem_toList_iff.1 (by rw [hargs]; simp))
    have e1 : args = #[x, y] := by rw [← Array.toArray_toList (xs := args), hargs]
    subst e1
    split at hq
    · rename_i k m k' n h1 h2
      rw [h1] at hx; rw [h2] at hy
      exact ok_value sim hd hnext hq (.p _ _ (.im _)) (by
        simp [execOp, hop, resolve, invoke, builtin, hx.im_inv, hy.im_inv, Builtin.max_, Builtin.max2]
        rw [Int.max_def]
        split <;> split <;> omega)
    · exact hq.elim
  · rename_i x y z hargs
    have hx := ev_rep sim x fun j hj => hV j (by simp [hop, Op.operands, Call.operands, hj]; rw [← hj]; exact Array.mem_toList_iff.1 (by rw [hargs]; simp))
    have hy := ev_rep sim y fun j hj => hV j (by simp [hop, Op.operands, Call.operands, hj]; rw [← hj]; exact Array.mem_toList_iff.1 (by rw [hargs]; simp))
    have hz := ev_rep sim z fun j hj => hV j (by simp [hop, Op.operands, Call.operands, hj]; rw [← hj]; exact Array.mem_toList_iff.1 (by rw [hargs]; simp))
    have e1 : args = #[x, y, z] := by rw [← Array.toArray_toList (xs := args), hargs]
    subst e1
    split at hq
    · rename_i k0 m0 k1 m1 k2 m2 g0 g1 g2
      rw [g0] at hx
      rw [g1] at hy
      rw [g2] at hz
      exact ok_value sim hd hnext hq (.p _ _ (.im _)) (by
        simp [execOp, hop, resolve, invoke, builtin, hx.im_inv, hy.im_inv, hz.im_inv, Builtin.max_, max2_int])
    · exact hq.elim
  · rename_i x y z u v hargs
    have hx := ev_rep sim x fun j hj => hV j (by simp [hop, Op.operands, Call.operands, hj]; rw [← hj]; exact Array.mem_toList_iff.1 (by rw [hargs]; simp))
    have hy := ev_rep sim y fun j hj => hV j (by simp [hop, Op.operands, Call.operands, hj]; rw [← hj]; exact Array.mem_toList_iff.1 (by rw [hargs]; simp))
    have hz := ev_rep sim z fun j hj => hV j (by simp [hop, Op.operands, Call.operands, hj]; rw [← hj]; exact Array.mem_toList_iff.1 (by rw [hargs]; simp))
    have hu := ev_rep sim u fun j hj => hV j (by simp [hop, Op.operands, Call.operands, hj]; rw [← hj]; exact Array.mem_toList_iff.1 (by rw [hargs]; simp))
    have hv := ev_rep sim v fun j hj => hV j (by simp [hop, Op.operands, Call.operands, hj]; rw [← hj]; exact Array.mem_toList_iff.1 (by rw [hargs]; simp))
    have e1 : args = #[x, y, z, u, v] := by rw [← Array.toArray_toList (xs := args), hargs]
    subst e1
    split at hq
    · rename_i k0 m0 k1 m1 k2 m2 k3 m3 k4 m4 g0 g1 g2 g3 g4
      rw [g0] at hx
      rw [g1] at hy
      rw [g2] at hz
      rw [g3] at hu
      rw [g4] at hv
      exact ok_value sim hd hnext hq (.p _ _ (.im _)) (by
        simp [execOp, hop, resolve, invoke, builtin, hx.im_inv, hy.im_inv, hz.im_inv, hu.im_inv, hv.im_inv, Builtin.max_, max2_int])
    · exact hq.elim
  · exact hq.elim

/-- a freezing alone, then a value -/
theorem ok_frozen {A : Amb} {o : Oper} {V L S : Nat → Prop} {rho : Nat → Value} {s : AS} {a : Act} {w : World} {K : KK} {next : Act → World → Prop} {Q : Exit → Act → World → Prop} {fz : List (Nat × AB)} (sim : Sim A V L S rho ⟨s.t, app s.h fz⟩ a w) (hd : ∀ d, o.dst = some d → d < A.n)
    (hnext : ∀ v eff new S' rho' a' w', K v eff new → Sim A (addV V o.dst) (addL L new (o.dst.getD 0)) S' rho' ⟨putT s.t o.dst v, app s.h eff⟩ a' w' → next a' w') {x : AV} {v : Value} (hq : K x fz none) (hv : LRep S w A.C.P L rho (app s.h fz) x v)
    (hr : (execOp a.eval o).run A.C.P w = .ok (.value v) w) : o.wp A.C.P a w next Q :=
  wp_value hr (hnext _ _ _ _ _ _ _ hq (sim.value o.dst hd x v hv))

theorem PRep.sl_part {S : Nat → Prop} {w : World} {es : List (List PV)} {ad : Option Addr} {c l h sz : Nat} (hx : PRep S w (.sl es) (.slice ad es.length c)) (hl : l ≤ h) (hh : h ≤ es.length) (hc : es.length ≤ c)
    (hk : ∀ b off k, ad = some ⟨b, off, none⟩ → (∀ e ∈ es, e.length = k) → l < h → k = sz) : PRep S w (.sl ((es.take h).drop l)) (.slice (if c = l then ad else ad.map (·.add (l * sz))) (h - l) (c - l)) := by
  have hlen : ((es.take h).drop l).length = h - l := by simp; omega
  by_cases he : h - l = 0
  · have : (es.take h).drop l = [] := List.eq_nil_of_length_eq_zero (by omega)
    rw [this, he]
    exact .nil _ _
  · obtain ⟨ad', c', hv, hle, hne⟩ := hx.sl_inv
    injection hv with e1 e2 e3
    subst e1 e3
    obtain ⟨b, off, k, e4, hb, hkk, hcell⟩ := hne (by intro e; rw [e] at hh; simp at hh; omega)
    have hks := hk b off k e4 hkk (by omega)
    subst e4
    rw [if_neg (by omega)]
    show PRep S w _ (.slice (some (Addr.add ⟨b, off, none⟩ (l * sz))) (h - l) (c - l))
    rw [Addr.add_lit, ← hlen]
    have hget : ∀ (i : Nat) e, ((es.take h).drop l)[i]? = some e → es[l + i]? = some e := by
      intro i e hi
      rw [List.getElem?_drop, List.getElem?_take] at hi
      split at hi
      · exact hi
      · cases hi
    refine .sl _ k b (off + l * sz) _ (fun i j => (w.cell? ⟨b, off + l * sz + i * k + j, none⟩).getD undef) (by rw [hlen]; omega) hb (fun e he => hkk e (List.mem_of_mem_take (List.mem_of_mem_drop he))) (fun i e j x h1 h2 => ?_) fun i e j x h1 h2 => ?_
    · obtain ⟨u, h3, h4, h5⟩ := hcell _ e j x (hget i e h1) h2
      have : off + l * sz + i * k + j = off + (l + i) * k + j := by rw [← hks, Nat.add_mul]; omega
      rw [this, h3]
      exact ⟨rfl, h4⟩
    · obtain ⟨u, h3, h4, h5⟩ := hcell _ e j x (hget i e h1) h2
      have : off + l * sz + i * k + j = off + (l + i) * k + j := by rw [← hks, Nat.add_mul]; omega
      rw [this, h3]
      exact h5

theorem run_sliceBound_in {P : Program} {w : World} (k : IntKind) (i : Int) (y : Nat) (code : BoundsCode) (h : 0 ≤ i ∧ i ≤ y) : (Instr.sliceBound (.int k i) y code).run P w = .ok i.toNat w := by
  simp [Instr.sliceBound, asIntOf, h.1, h.2]
/-- the bounds of a part -/
theorem bounds_run {A : Amb} {V L S : Nat → Prop} {rho : Nat → Value} {s : AS} {a : Act} {w : World} (_ : Sim A V L S rho s a w) (lo hi : Option Operand) (hlo : ∀ y, lo = some y → LRep S w A.C.P L rho s.h (ev s.t y) (a.eval y)) (hhi : ∀ y, hi = some y → LRep S w A.C.P L rho s.h (ev s.t y) (a.eval y)) :
    ∀ (isSlice : Bool) (len cap : Nat) (k : IntKind) (m : Int) (k' : IntKind) (n : Int), len ≤ cap → (match lo with | some y => ev s.t y | none => .p (.im (.int .i64 0))) = .p (.im (.int k m)) → (match hi with | some y => ev s.t y | none => .p (.im (.int .i64 len))) = .p (.im (.int k' n)) → 0 ≤ m → m ≤ n → n ≤ len →
      (Instr.sliceBounds isSlice len cap (lo.map a.eval) (hi.map a.eval) none).run A.C.P w = .ok (m.toNat, n.toNat, cap) w := by
    intro isSlice len cap k m k' n hlc h1 h2 h3 h4 h5
    have e2 : ∀ y, hi = some y → a.eval y = .int k' n := fun y hy => by
      have := hhi y hy
      subst hy
      rw [show ev s.t y = _ from h2] at this
      exact this.im_inv
    have e1 : ∀ y, lo = some y → a.eval y = .int k m := fun y hy => by
      have := hlo y hy
      subst hy
      rw [show ev s.t y = _ from h1] at this
      exact this.im_inv
    have nb : ((n.toNat : Nat) : Int) = n := by omega
    cases hi with
    | some yh =>
      have e2 := e2 yh rfl
      cases lo with
      | some yl =>
        have e1 := e1 yl rfl
        cases isSlice <;> simp [Instr.sliceBounds, e1, e2, run_sliceBound_in k' n cap _ ⟨by omega, by omega⟩, run_sliceBound_in k m n.toNat _ ⟨h3, by omega⟩]
      | none =>
        have h1' : m = 0 := by simp at h1; exact h1.2.symm
        subst h1'
        cases isSlice <;> simp [Instr.sliceBounds, e2, run_sliceBound_in k' n cap _ ⟨by omega, by omega⟩]
    | none =>
      have h2' : n = len := by simp at h2; exact h2.2.symm
      subst h2'
      cases lo with
      | some yl =>
        have e1 := e1 yl rfl
        cases isSlice <;> simp [Instr.sliceBounds, e1, run_sliceBound_in k m len _ ⟨h3, by omega⟩]
      | none =>
        have h1' : m = 0 := by simp at h1; exact h1.2.symm
        subst h1'
        cases isSlice <;> simp [Instr.sliceBounds]
theorem ok_slice0 {A : Amb} {o : Oper} (t : TypeId) (x : Operand) (lo hi : Option Operand) (hop : o.op = .slice t x lo hi none) {V L S : Nat → Prop} {rho : Nat → Value} {s : AS} {a : Act} {w : World} {K : KK} {next : Act → World → Prop} {Q : Exit → Act → World → Prop} (hC : CtxOK A.C) (sim : Sim A V L S rho s a w)
    (hV : ∀ j, (.tmp j) ∈ o.op.operands → V j) (hd : ∀ d, o.dst = some d → d < A.n) (hq : qslice A.C (ev s.t) s.h t x lo hi K)
    (hnext : ∀ v eff new S' rho' a' w', K v eff new → Sim A (addV V o.dst) (addL L new (o.dst.getD 0)) S' rho' ⟨putT s.t o.dst v, app s.h eff⟩ a' w' → next a' w') : o.wp A.C.P a w next Q := by
  simp only [qslice] at hq
  have hx := ev_rep sim x fun j hj => hV j (by simp [hop, Op.operands, hj])
  have hlo : ∀ y, lo = some y → LRep S w A.C.P L rho s.h (ev s.t y) (a.eval y) := fun y hy => ev_rep sim y fun j hj => hV j (by simp [hop, Op.operands, hj, hy])
  have hhi : ∀ y, hi = some y → LRep S w A.C.P L rho s.h (ev s.t y) (a.eval y) := fun y hy => ev_rep sim y fun j hj => hV j (by simp [hop, Op.operands, hj, hy])
  -- the bounds
  have bounds : ∀ (isSlice : Bool) (len cap : Nat) (k : IntKind) (m : Int) (k' : IntKind) (n : Int), len ≤ cap → (match lo with | some y => ev s.t y | none => .p (.im (.int .i64 0))) = .p (.im (.int k m)) → (match hi with | some y => ev s.t y | none => .p (.im (.int .i64 len))) = .p (.im (.int k' n)) → 0 ≤ m → m ≤ n → n ≤ len →
      (Instr.sliceBounds isSlice len cap (lo.map a.eval) (hi.map a.eval) none).run A.C.P w = .ok (m.toNat, n.toNat, cap) w := by
    exact bounds_run sim lo hi hlo hhi
  split at hq
  · rename_i size bytes zero eq hT
    have hti := (hC.tab t _ hT).under
    simp only at hti
    split at hq
    · rename_i st hst
      rw [hst] at hx
      split at hq
      · rename_i k m k' n h1 h2
        obtain ⟨⟨h3, h4, h5⟩, hq⟩ := hq
        have hb := bounds false st.size st.size k m k' n (Nat.le_refl _) h1 h2 h3 h4 h5
        exact ok_value sim hd hnext hq (.p _ _ (.im _)) (by simp [execOp, hop, Instr.sliceAt, Instr.slice, hx.im_inv, run_underlying hti, hb])
      · exact hq.elim
    · exact hq.elim
  · rename_i e size bytes zero eq hT
    have hti := (hC.tab t _ hT).under
    simp only at hti
    split at hq
    · exact hq.elim
    rename_i te hTe
    obtain ⟨ie, ze, hie, hse, _⟩ := (hC.tab e te hTe).info
    obtain ⟨y, fz, S2, hq, sim2, hrep, hSS, hF, hfz⟩ := toPV_sim hC sim (Frz.refl s.h) hx hq
    split at hq
    · rename_i es
      split at hq
      · rename_i k m k' n h1 h2
        obtain ⟨⟨h3, h4, h5, h6⟩, hq⟩ := hq
        obtain ⟨ad, c, hv, hle, _⟩ := hrep.sl_inv
        have hb := bounds true es.length c k m k' n hle h1 h2 h3 h4 h5
        rw [hv] at hrep
        refine ok_frozen sim2 hd hnext hq (.p _ _ (hrep.sl_part (sz := te.size) (l := m.toNat) (h := n.toNat) (by omega) (by omega) hle fun b off kk hk1 hk2 hlt => ?_)) ?_
        · have hpos : 0 < es.length := by omega
          have hm : es[0] ∈ es := List.getElem_mem _
          rw [← hk2 _ hm, h6 _ hm]
        · simp [execOp, hop, Instr.sliceAt, Instr.slice, hv, run_underlying hti, hb, Go.sizeOf, typeInfo, hie, hse]
      · exact hq.elim
    · exact hq.elim
  · exact hq.elim

/-- rows of cells, flat -/
structure Flat (S : Nat → Prop) (w : World) (k : Nat) (es : List (List PV)) (xs : List Value) : Prop where
  len : xs.length = es.length * k
  row : ∀ r ∈ es, r.length = k
  one : ∀ u ∈ xs, u.oneCell' = true
  rep : ∀ (i : Nat) r (j : Nat) x, es[i]? = some r → r[j]? = some x → ∃ u, xs[i * k + j]? = some u ∧ PRep S w x u
theorem Flat.mono {S S' : Nat → Prop} {w w' : World} {k : Nat} {es : List (List PV)} {xs : List Value} (h : Flat S w k es xs) (hS : ∀ b, S b → S' b) (hw : ∀ b, S b → w'.heap[b]? = w.heap[b]?) : Flat S' w' k es xs :=
  ⟨h.len, h.row, h.one, fun i r j x h1 h2 => by obtain ⟨u, h3, h4⟩ := h.rep i r j x h1 h2; exact ⟨u, h3, h4.mono hS hw⟩⟩
theorem Flat.app {S : Nat → Prop} {w : World} {k : Nat} {es fs : List (List PV)} {xs ys : List Value} (h : Flat S w k es xs) (g : Flat S w k fs ys) : Flat S w k (es ++ fs) (xs ++ ys) := by
  refine ⟨by rw [List.length_append, List.length_append, h.len, g.len, Nat.add_mul], fun r hr => (List.mem_append.1 hr).elim (h.row r) (g.row r), fun u hu => (List.mem_append.1 hu).elim (h.one u) (g.one u), fun i r j x h1 h2 => ?_⟩
  by_cases hi : i < es.length
  · rw [List.getElem?_append_left hi] at h1
    obtain ⟨u, h3, h4⟩ := h.rep i r j x h1 h2
    exact ⟨u, by rw [List.getElem?_append_left (lt_of_get h3)]; exact h3, h4⟩
  · rw [List.getElem?_append_right (by omega)] at h1
    obtain ⟨u, h3, h4⟩ := g.rep _ r j x h1 h2
    refine ⟨u, ?_, h4⟩
    have hm : es.length * k ≤ i * k := Nat.mul_le_mul_right _ (by omega)
    rw [List.getElem?_append_right (by rw [h.len]; omega), h.len]
    rw [Nat.sub_mul] at h3
    rw [← h3]
    congr 1
    omega
theorem Flat.set {S : Nat → Prop} {w : World} {k : Nat} {es : List (List PV)} {xs : List Value} (h : Flat S w k es xs) (i : Nat) (hi : i < es.length) (ys : List PV) (vs : List Value) (hy : ys.length = k) (hv : vs.length = k) (h1 : ∀ u ∈ vs, u.oneCell' = true) (hr : ∀ (j : Nat) y u, ys[j]? = some y → vs[j]? = some u → PRep S w y u) :
    Flat S w k (es.set i ys) (setCells xs (i * k) vs) := by
  have hb : i * k + k ≤ xs.length := by rw [h.len, ← Nat.succ_mul]; exact Nat.mul_le_mul_right _ hi
  have hg := fun j => setCells_get vs xs (i * k) j (by rw [hv]; exact hb)
  refine ⟨by rw [setCells_len, List.length_set, h.len], fun r hr => ?_, fun u hu => ?_, fun a r j x ha hj => ?_⟩
  · rcases List.mem_or_eq_of_mem_set hr with h' | h'
    · exact h.row r h'
    · rw [h']; exact hy
  · obtain ⟨j, hj⟩ := List.mem_iff_getElem?.1 hu
    rw [hg] at hj
    split at hj
    · exact h1 u (List.mem_of_getElem? hj)
    · exact h.one u (List.mem_of_getElem? hj)
  · have hjl := lt_of_get hj
    rw [hg]
    by_cases hai : a = i
    · subst hai
      rw [List.getElem?_set_self hi] at ha
      injection ha with ha
      subst ha
      rw [if_pos (by omega), show a * k + j - a * k = j by omega]
      have : j < vs.length := by omega
      exact ⟨_, List.getElem?_eq_getElem this, hr j x _ hj (List.getElem?_eq_getElem this)⟩
    · rw [List.getElem?_set_ne (fun e => hai e.symm)] at ha
      have hrl := h.row r (List.mem_of_getElem? ha)
      rw [if_neg]
      · exact h.rep a r j x ha hj
      · rintro ⟨h2, h3⟩
        rcases Nat.lt_or_gt_of_ne hai with h4 | h4
        · have := Nat.mul_le_mul_right k (Nat.succ_le_of_lt h4)
          rw [Nat.succ_mul] at this
          omega
        · have := Nat.mul_le_mul_right k (Nat.succ_le_of_lt h4)
          rw [Nat.succ_mul] at this
          omega
theorem Flat.zero (S : Nat → Prop) (w : World) {P : Program} {t : TypeId} {ti : TI} (h : TIok P t ti) (hk : 0 < ti.size) (n : Nat) : Flat S w ti.size (List.replicate n (ti.zero.map pvOf)) ((Array.range (n * ti.size)).map (ti.zero.toArray[· % ti.zero.toArray.size]!)).toList := by
  have hz := h.zlen
  obtain ⟨_, _, _, _, _, _, _, hone⟩ := h.info
  have hget : ∀ j, j < n * ti.size → ((Array.range (n * ti.size)).map (ti.zero.toArray[· % ti.zero.toArray.size]!)).toList[j]? = ti.zero[j % ti.size]? := by
    intro j hj
    have hm : j % ti.size < ti.zero.length := by rw [hz]; exact Nat.mod_lt _ hk
    simp [hj, hz]
    rw [List.getElem?_eq_getElem hm]
    rfl
  refine ⟨by simp, fun r hr => by rw [List.eq_of_mem_replicate hr, List.length_map, hz], fun u hu => ?_, fun i r j x hi hj => ?_⟩
  · obtain ⟨j, hj⟩ := List.mem_iff_getElem?.1 hu
    have hjl := lt_of_get hj
    rw [hget j (by simpa using hjl)] at hj
    exact hone u (List.mem_of_getElem? hj)
  · have hin : i < n := by have := lt_of_get hi; simpa using this
    have hr : r = ti.zero.map pvOf := List.eq_of_mem_replicate (List.mem_of_getElem? hi)
    subst hr
    have hjl : j < ti.size := by have := lt_of_get hj; rw [List.length_map, hz] at this; exact this
    rw [List.getElem?_map] at hj
    obtain ⟨v, hv, rfl⟩ := Option.map_eq_some_iff.1 hj
    have hb : i * ti.size + j < n * ti.size := by
      have := Nat.mul_le_mul_right ti.size (Nat.succ_le_of_lt hin)
      rw [Nat.succ_mul] at this
      omega
    refine ⟨v, ?_, pvOf_rep S w v⟩
    rw [hget _ hb, Nat.mul_comm, Nat.mul_add_mod, Nat.mod_eq_of_lt hjl]
    exact hv
theorem RowRep.of_flat {P : Program} {S : Nat → Prop} {w : World} {e : TypeId} {i : TypeInfo} {es : List (List PV)} {v : Value} {xs : List Value} (hi : P.info? e = some i) (hk : 0 < i.size) (ho : w.ownsRow 0 e i.size v es.length xs) (hf : Flat S w i.size es xs) : RowRep P w (PRep S w) e es v :=
  ⟨i, xs, hi, hk, ho, hf.row, hf.one, hf.rep⟩
theorem RowRep.flat {P : Program} {S : Nat → Prop} {w : World} {e : TypeId} {i : TypeInfo} {es : List (List PV)} {v : Value} (hi : P.info? e = some i) (h : RowRep P w (PRep S w) e es v) : ∃ xs, 0 < i.size ∧ w.ownsRow 0 e i.size v es.length xs ∧ Flat S w i.size es xs := by
  obtain ⟨i', xs, h1, h2, h3, h4, h5, h6⟩ := h
  rw [hi] at h1
  injection h1 with h1
  subst h1
  exact ⟨xs, h2, h3, ⟨h3.1, h4, h5, h6⟩⟩
/-- a content as flat cells that lie in memory -/
theorem PRep.flat {S : Nat → Prop} {w : World} {es : List (List PV)} {v : Value} {k : Nat} (hx : PRep S w (.sl es) v) (hk : ∀ r ∈ es, r.length = k) : ∃ ad c xs, v = .slice ad es.length c ∧ Flat S w k es xs ∧ (es ≠ [] → ∃ b off, ad = some ⟨b, off, none⟩ ∧ ∀ (j : Nat) u, xs[j]? = some u → w.cell? ⟨b, off + j, none⟩ = some u) := by
  obtain ⟨ad, c, hv, hle, hne⟩ := hx.sl_inv
  by_cases he : es = []
  · subst he
    exact ⟨ad, c, [], hv, ⟨by simp, by simp, by simp, by simp⟩, fun h => absurd rfl h⟩
  · obtain ⟨b, off, k', rfl, hb, hkk, hcell⟩ := hne he
    have hkeq : k' = k := by
      obtain ⟨r, hr⟩ := List.exists_mem_of_ne_nil _ he
      rw [← hkk r hr, hk r hr]
    subst hkeq
    have key : ∀ q, q < es.length * k' → ∃ u, w.cell? ⟨b, off + q, none⟩ = some u ∧ u.oneCell' = true := by
      intro q hq
      have hk0 : 0 < k' := Nat.pos_of_ne_zero fun h => by rw [h] at hq; simp at hq
      have hi : q / k' < es.length := (Nat.div_lt_iff_lt_mul hk0).2 hq
      have hj : q % k' < k' := Nat.mod_lt _ hk0
      have hr := hk _ (List.getElem_mem hi)
      obtain ⟨u, h1, h2, _⟩ := hcell (q / k') _ (q % k') _ (List.getElem?_eq_getElem hi) (List.getElem?_eq_getElem (by omega))
      refine ⟨u, ?_, h2⟩
      rw [← h1]
      congr 2
      have := Nat.div_add_mod q k'
      rw [Nat.mul_comm] at this
      omega
    refine ⟨_, c, (List.range (es.length * k')).map fun q => (w.cell? ⟨b, off + q, none⟩).getD undef, hv, ⟨by simp, hk, fun u hu => ?_, fun i r j x h1 h2 => ?_⟩, fun _ => ⟨b, off, rfl, fun j u hj => ?_⟩⟩
    · simp at hu
      obtain ⟨q, hq, rfl⟩ := hu
      obtain ⟨u, h1, h2⟩ := key q hq
      rw [h1]
      exact h2
    · obtain ⟨u, h3, h4, h5⟩ := hcell i r j x h1 h2
      refine ⟨u, ?_, h5⟩
      have hil := lt_of_get h1
      have hjl := lt_of_get h2
      rw [hk r (List.mem_of_getElem? h1)] at hjl
      have hb2 : i * k' + j < es.length * k' := by
        have := Nat.mul_le_mul_right k' (Nat.succ_le_of_lt hil)
        rw [Nat.succ_mul] at this
        omega
      rw [List.getElem?_map, List.getElem?_range hb2]
      simp only [Option.map_some]
      rw [← Nat.add_assoc, h3]
      rfl
    · have hjl := lt_of_get hj
      simp at hjl
      rw [List.getElem?_map, List.getElem?_range hjl] at hj
      obtain ⟨u', h1, _⟩ := key j hjl
      simp [h1] at hj
      rw [h1, hj]

/-- a content of a slice, as flat cells -/
def Src (S : Nat → Prop) (w : World) (es : List (List PV)) (v : Value) : Prop :=
  ∀ k, (∀ r ∈ es, r.length = k) → ∃ ad c xs, v = .slice ad es.length c ∧ Flat S w k es xs ∧ (es ≠ [] → ∃ b off, ad = some ⟨b, off, none⟩ ∧ ∀ (j : Nat) u, xs[j]? = some u → w.cell? ⟨b, off + j, none⟩ = some u)
theorem RowRep.src {P : Program} {S : Nat → Prop} {w : World} {e : TypeId} {es : List (List PV)} {v : Value} (h : RowRep P w (PRep S w) e es v) : Src S w es v := by
  intro k hk
  obtain ⟨i, xs, h1, h2, h3, h4, h5, h6⟩ := h
  by_cases he : es = []
  · subst he
    rcases h3.2 with ⟨rfl, _⟩ | ⟨g, cap, cur, rfl, _⟩
    · exact ⟨none, 0, [], rfl, ⟨by simp, by simp, by simp, by simp⟩, fun h => absurd rfl h⟩
    · exact ⟨_, cap, [], rfl, ⟨by simp, by simp, by simp, by simp⟩, fun h => absurd rfl h⟩
  · have hkeq : k = i.size := by
      obtain ⟨r, hr⟩ := List.exists_mem_of_ne_nil _ he
      rw [← hk r hr, h4 r hr]
    subst hkeq
    rcases h3.2 with ⟨_, hn⟩ | ⟨g, cap, cur, hv, _⟩
    · exact absurd (List.eq_nil_of_length_eq_zero hn) he
    · refine ⟨_, cap, xs, hv, ⟨h3.1, h4, h5, h6⟩, fun _ => ⟨g, 0, rfl, fun j u hj => ?_⟩⟩
      have := h3.cells (g := g) (by rw [hv]; rfl) j u hj
      rw [Addr.add_lit] at this
      exact this
theorem aslice_sim {A : Amb} {V L S : Nat → Prop} {rho : Nat → Value} {s : AS} {a : Act} {w : World} (sim : Sim A V L S rho s a w) {x : AV} {v : Value} (hx : LRep S w A.C.P L rho s.h x v) {K : List (List PV) → Prop} (hq : aslice s.h x K) : ∃ es, K es ∧ Src S w es v := by
  unfold aslice at hq
  split at hq
  · exact ⟨_, hq, fun k hk => hx.p_inv.flat hk⟩
  · have : v = .slice none 0 0 := by cases hx; rfl
    exact ⟨[], hq, fun k hk => ⟨none, 0, [], this, ⟨by simp, by simp, by simp, by simp⟩, fun h => absurd rfl h⟩⟩
  · rename_i id
    split at hq
    · rename_i e es hrow
      obtain ⟨hL, hv⟩ := hx.ow_inv (by rw [hrow]; trivial)
      have hh := sim.hp id hL
      rw [hrow] at hh
      exact ⟨es, hq, by rw [hv]; exact RowRep.src hh⟩
    · rename_i es hrow
      obtain ⟨hL, hv⟩ := hx.ow_inv (by rw [hrow]; trivial)
      have hh := sim.hp id hL
      rw [hrow] at hh
      exact ⟨es, hq, by rw [hv]; exact fun k hk => PRep.flat hh hk⟩
    · exact hq.elim
  · exact hq.elim

theorem run_append_at {P : Program} (w : World) (t ty e : TypeId) (i : TypeInfo) (z : Value) (ht : P.underlying t = some (.slice e)) (hi : P.info? e = some i) (hz : i.zero = some z) (hzs : z.cells.size = i.size) (hsz : 0 < i.size)
    (v : Value) (n : Nat) (xs : List Value) (hown : w.ownsRow 0 e i.size v n xs) (ad : Option Addr) (m c : Nat) (news : List Value) (hl : news.length = m * i.size)
    (hnews : m ≠ 0 → ∃ b off, ad = some ⟨b, off, none⟩ ∧ ∀ (j : Nat) u, news[j]? = some u → w.cell? ⟨b, off + j, none⟩ = some u) (h1 : ∀ u ∈ news, u.oneCell' = true) (h63 : n + m ≤ maxLen) (hbytes : (n + m) * i.bytes ≤ 140737488355328) :
    ∃ v' w', (Builtin.append_ #[t, t] ty #[v, .slice ad m c]).run P w = .ok v' w' ∧ w'.ownsRow 0 e i.size v' (n + m) (xs ++ news) ∧ w.grownBy w' v.ownBlock ∧ (v'.ownBlock = v.ownBlock ∨ v'.ownBlock = some w.heap.size) := by
  by_cases hm : m = 0
  · subst hm
    have hn : news = [] := List.eq_nil_of_length_eq_zero (by simpa using hl)
    subst hn
    refine ⟨v, w, ?_, by simpa using hown, ⟨rfl, rfl, rfl, Nat.le_refl _, fun _ _ _ => rfl⟩, .inl rfl⟩
    have hf : (Builtin.firstCells i.size 0 (.slice ad 0 c)).run P w = .ok #[] w := by cases ad <;> simp [Builtin.firstCells, loadCells, loadCellsFrom]
    rcases hown.2 with ⟨rfl, rfl⟩ | ⟨g, cap, cur, rfl, _, _, hnc, _⟩
    · simp [Builtin.append_, run_underlying ht, sizeOf, typeInfo, hi, Builtin.lenOf, hf]
    · simp [Builtin.append_, run_underlying ht, sizeOf, typeInfo, hi, Builtin.lenOf, hnc, hf, storeCells]
  · obtain ⟨b, off, rfl, hc⟩ := hnews hm
    have hnews' : ∀ (j : Nat) u, news[j]? = some u → w.cell? ((⟨b, off, none⟩ : Addr).add j) = some u := fun j u hj => by rw [Addr.add_lit]; exact hc j u hj
    obtain ⟨v', w', hr, h2, h3, _⟩ := run_append_own (P := P) w 0 t ty e i z i.size i.bytes ht hi hz rfl rfl hzs hsz v n xs hown ⟨b, off, none⟩ m c news hl hnews' h1 h63 hbytes (Nat.zero_le _)
    refine ⟨v', w', hr, h2, h3, ?_⟩
    have hsmall : n + m ≤ 9223372036854775807 := by simp only [maxLen] at h63; omega
    rcases hown.2 with ⟨rfl, rfl⟩ | ⟨g, cap, cur, rfl, _, hg, hnc, hcm, hcs, htake⟩
    · have hr2 := run_append_nil (P := P) w t ty e i z ht hi hz ⟨b, off, none⟩ m c news hl hnews' (by omega) (by omega) (by have hb := hbytes; simp only [Nat.zero_add] at hb; omega)
      rw [hr] at hr2
      injection hr2 with hr2
      rw [hr2]
      exact .inr rfl
    · by_cases hroom : n + m ≤ cap
      · have hfit : n * i.size + news.length ≤ cur.size := by rw [hl, hcs, ← Nat.add_mul]; exact Nat.mul_le_mul_right _ hroom
        have hr2 := run_append_room (P := P) w t ty e i ht hi g n cap cur hg ⟨b, off, none⟩ m c news hl hnews' h1 hroom hfit
        rw [hr] at hr2
        injection hr2 with hr2
        rw [hr2]
        exact .inl rfl
      · have hr2 := run_append_grow (P := P) w t ty e i z ht hi hz ⟨g, 0, none⟩ n cap xs hown.1 (hown.cells (g := g) rfl) ⟨b, off, none⟩ m c news hl hnews' (by omega) (by omega) (growslice_fits (by omega) hbytes)
        rw [hr] at hr2
        injection hr2 with hr2
        rw [hr2]
        exact .inr rfl
theorem ownBlock_blk {v : Value} {a : Option Addr} {n c : Nat} (h : v = .slice a n c) : v.ownBlock = blk v := by
  subst h
  cases a <;> rfl
theorem ownsRow_slice {w : World} {base : Nat} {e : TypeId} {size : Nat} {v : Value} {n : Nat} {xs : List Value} (h : w.ownsRow base e size v n xs) : ∃ a c, v = .slice a n c := by
  rcases h.2 with ⟨rfl, rfl⟩ | ⟨g, cap, cur, rfl, _⟩
  · exact ⟨none, 0, rfl⟩
  · exact ⟨_, cap, rfl⟩
/-- the owned cells of a row, by its flat cells -/
theorem hcell_own {w : World} {es : List (List HX)} {v : Value} {e : TypeId} {k : Nat} {ws : List Value} (hown : w.ownsRow 0 e k v es.length ws) (hk : ∀ r ∈ es, r.length = k) {g : Nat} (hg : blk v = some g) {a j : Nat} {u : Value} :
    hcellB w es g a j u ↔ ∃ r e' xs', es[a]? = some r ∧ r[j]? = some (.row e' xs') ∧ ws[a * k + j]? = some u := by
  rcases hown.2 with ⟨hn, _⟩ | ⟨g', cap, cur, hv, _, hgg, k1, k2, k3, k4⟩
  · rw [hn] at hg; cases hg
  rw [hv] at hg
  obtain rfl := blk_slice.1 hg
  have bnd : ∀ {r : List HX} {x : HX}, es[a]? = some r → r[j]? = some x → r.length = k ∧ a * k + j < es.length * k := fun {r x} h1 h2 => by
    have hr := hk r (List.mem_of_getElem? h1)
    have h3 := lt_of_get h1
    have h4 := lt_of_get h2
    have := Nat.mul_le_mul_right k (Nat.succ_le_of_lt h3)
    rw [Nat.succ_mul] at this
    exact ⟨hr, by omega⟩
  constructor
  · rintro ⟨r, e', xs', c, ty, m, h1, h2, h3, h4⟩
    rw [hgg] at h3
    injection h3 with h3
    injection h3 with h3
    subst h3
    obtain ⟨b1, b2⟩ := bnd h1 h2
    refine ⟨r, e', xs', h1, h2, ?_⟩
    rw [← k4, List.getElem?_take_of_lt b2]
    rw [b1] at h4
    simpa using h4
  · rintro ⟨r, e', xs', h1, h2, h3⟩
    obtain ⟨b1, b2⟩ := bnd h1 h2
    refine ⟨r, e', xs', cur, _, _, h1, h2, hgg, ?_⟩
    rw [← k4, List.getElem?_take_of_lt b2] at h3
    rw [b1]
    simpa using h3
theorem ownsRow_front {w : World} {base : Nat} {e : TypeId} {size : Nat} {v : Value} {n : Nat} {xs : List Value} (h : w.ownsRow base e size v n xs) : xs.length = n * size := h.1
/-- elements put behind a row with rows -/
theorem Sim.happ {A : Amb} {V L S : Nat → Prop} {rho : Nat → Value} {s : AS} {a : Act} {w : World} (sim : Sim A V L S rho s a w) (hC : CtxOK A.C) {id d : Nat} (hLid : L id) {e : TypeId} {xs : List (List HX)} (hrow : s.h id = .hrow e xs) {ys : List (List PV)} {ie : TypeInfo} (hie : A.C.P.info? e = some ie)
    (hdb : d < 100000) (hL : ¬ L d) (hb : s.h d = .hrow e (xs ++ ys.map hxs)) {news : List Value} (hfy : Flat S w ie.size ys news) {v' : Value} {w' : World} {ws : List Value} (hown : w.ownsRow 0 e ie.size (rho id) xs.length ws) (h2 : w'.ownsRow 0 e ie.size v' (xs.length + ys.length) (ws ++ news)) (h3 : w.grownBy w' (blk (rho id))) (h4 : blk v' = blk (rho id) ∨ blk v' = some w.heap.size) :
    Sim A V (fun i => L i ∨ i = d) S (upd rho d v') ⟨s.t, upd s.h id .none⟩ a w' := by
  have hlive : (s.h id).live := by rw [hrow]; trivial
  have hidd : id ≠ d := fun e => hL (e ▸ hLid)
  have hh := sim.hp id hLid
  rw [hrow] at hh
  obtain ⟨hR, hS⟩ := hh
  have hR2 := hS.strong hR
  obtain ⟨i0, ws0, k1, k2, k3, k4, k5, k6⟩ := hR2
  rw [hie] at k1
  injection k1 with k1
  subst k1
  have hws : ws0 = ws := by
    rcases k3.2 with ⟨q1, q2⟩ | ⟨g, cap, cur, q1, _, q3, q4, q5, q6, q7⟩
    · have a1 : ws0 = [] := List.eq_nil_of_length_eq_zero (by rw [k3.1, q2]; simp)
      have a2 : ws = [] := List.eq_nil_of_length_eq_zero (by rw [hown.1, q2]; simp)
      rw [a1, a2]
    · rcases hown.2 with ⟨r1, _⟩ | ⟨g', cap', cur', r1, _, r3, r4, r5, r6, r7⟩
      · rw [r1] at q1; cases q1
      · rw [r1] at q1
        injection q1 with q1
        injection q1 with q1
        injection q1 with q1
        subst q1
        rw [q3] at r3
        injection r3 with r3
        injection r3 with r3
        subst r3
        rw [← q7, ← r7]
  subst hws
  have hlenys : ∀ r ∈ ys.map hxs, r.length = ie.size := fun r hr => by
    obtain ⟨q, hq, rfl⟩ := List.mem_map.1 hr
    rw [hxs, List.length_map]
    exact hfy.row q hq
  have hlenall : ∀ r ∈ xs ++ ys.map hxs, r.length = ie.size := fun r hr => (List.mem_append.1 hr).elim (k4 r) (hlenys r)
  have hown' : w'.ownsRow 0 e ie.size v' (xs ++ ys.map hxs).length (ws0 ++ news) := by rw [List.length_append, List.length_map]; exact h2
  have hwl : ws0.length = xs.length * ie.size := k3.1
  -- an owned cell of the new row was one of the old one
  have cellb : ∀ g' k j u, blk v' = some g' → hcellB w' (xs ++ ys.map hxs) g' k j u → ∃ g, blk (rho id) = some g ∧ hcellB w xs g k j u := fun g' k j u hg' hc => by
    obtain ⟨r, e', xs', q1, q2, q3⟩ := (hcell_own hown' hlenall hg').1 hc
    by_cases hk : k < xs.length
    · rw [List.getElem?_append_left hk] at q1
      have hjl := lt_of_get q2
      have hrl := k4 r (List.mem_of_getElem? q1)
      have := Nat.mul_le_mul_right ie.size (Nat.succ_le_of_lt hk)
      rw [Nat.succ_mul] at this
      rw [List.getElem?_append_left (by omega)] at q3
      obtain ⟨g, u2, g1, g2, _⟩ := hR.cellB q1 q2
      refine ⟨g, g1, (hcell_own k3 k4 g1).2 ⟨r, e', xs', q1, q2, q3⟩⟩
    · rw [List.getElem?_append_right (by omega), List.getElem?_map] at q1
      obtain ⟨q, _, rfl⟩ := Option.map_eq_some_iff.1 q1
      rw [hxs, List.getElem?_map] at q2
      obtain ⟨z, _, hz⟩ := Option.map_eq_some_iff.1 q2
      cases hz
  have innb : ∀ g k j u b, blk (rho id) = some g → hcellB w xs g k j u → blk u = some b → hasB w (s.h id) (rho id) b := fun g k j u b h1 h5 h6 => by rw [hrow]; exact .inr (.inr ⟨_, _, _, _, _, _, rfl, h1, h5, h6⟩)
  have T0 : Turn S S w w L L rho rho s.h (upd s.h id .none) := ⟨fun _ h => h, fun _ _ => rfl, fun j hj => ⟨by
      rcases upd_cases s.h id .none j with ⟨rfl, h⟩ | ⟨_, h⟩
      · rw [h] at hj; exact hj.elim
      · rw [h] at hj; exact hj, fun h => ⟨h, rfl⟩⟩, fun j e' hj => by
      rcases upd_cases s.h id .none j with ⟨rfl, h⟩ | ⟨_, h⟩
      · rw [h] at hj; cases hj
      · rw [h] at hj; exact hj⟩
  have hhold : ∀ k, k < w.heap.size → blk (rho id) ≠ some k → w'.heap[k]? = w.heap[k]? := fun k hk hn => h3.block k hk fun e => hn e.symm
  refine (sim.kill id).newH hC d (.hrow e (xs ++ ys.map hxs)) hdb hL (by show upd s.h id .none d = _; rw [upd_ne _ _ hidd.symm]; exact hb) w' h3.os h3.tape h3.output h3.size (fun k => hasB w (s.h id) (rho id) k) (fun k hk hn => hhold k hk fun h => hn (.inl h)) (fun k hk => ?_) v' (fun g hg => ?_) (fun T => ?_)
  · obtain ⟨q1, q2, q3⟩ := sim.lv id k hLid hlive hk
    refine ⟨q2, fun i hi li hgi => ?_, q3⟩
    have li' : (upd s.h id .none i).live := li
    rcases upd_cases s.h id .none i with ⟨rfl, h⟩ | ⟨hne, h⟩
    · rw [h] at li'; exact li'.elim
    · rw [h] at li'; exact hne (sim.dj i id k hi hLid li' hlive (hasB_upd hne hgi) hk)
  · rcases hg with hg | ⟨cs, g', h, _⟩ | ⟨e', es', g', k', j, u, q1, q2, q3, q4⟩
    · obtain ⟨a1, c1, hs1⟩ := ownsRow_slice h2
      refine ⟨(h2.lt g (by rw [ownBlock_blk hs1]; exact hg)).2, ?_⟩
      rcases h4 with h | h
      · exact .inr (.inl (h ▸ hg))
      · rw [h] at hg
        injection hg with hg
        exact .inl (by omega)
    · cases h
    · injection q1 with q1 q1'
      subst q1 q1'
      obtain ⟨g0, g1, g2⟩ := cellb _ _ _ _ q2 q3
      have hb0 := innb _ _ _ _ _ g1 g2 q4
      exact ⟨Nat.lt_of_lt_of_le (sim.lv id g hLid hlive hb0).1 h3.size, .inr hb0⟩
  · show RowRep _ _ _ _ _ (upd rho d v' d) ∧ HSep _ _ (upd rho d v' d)
    rw [upd_same]
    refine ⟨⟨ie, ws0 ++ news, hie, k2, hown', hlenall, fun u hu => (List.mem_append.1 hu).elim (k5 u) (hfy.one u), fun p r j x hp hj => ?_⟩, fun g k j u b hg hc hb' => ?_, fun g k j k' j' u u' b hg hc hc' hb1 hb2 => ?_⟩
    · by_cases hk : p < xs.length
      · rw [List.getElem?_append_left hk] at hp
        obtain ⟨u, hu, hru, hru2⟩ := k6 p r j x hp hj
        refine ⟨u, by rw [List.getElem?_append_left (lt_of_get hu)]; exact hu, ?_⟩
        cases x with
        | av x => exact LRep.turn T (LRep.turn T0 hru)
        | row e' xs' =>
          refine RowRep.turn (show RowRep _ _ _ _ _ _ from hru) (fun b hb' => hhold b ?_ fun h => hru2 _ _ rfl b b h hb' rfl) (fun x u hu => hu.mono T.hS T.keep)
          obtain ⟨g, u2, g1, g2, _⟩ := hR.cellB hp hj
          have : u2 = u := by
            obtain ⟨r', _, _, q1, q2, q3⟩ := (hcell_own k3 k4 g1).1 g2
            rw [hu] at q3
            injection q3 with q3
            exact q3.symm
          subst this
          exact (sim.lv id b hLid hlive (innb _ _ _ _ _ g1 g2 hb')).1
      · rw [List.getElem?_append_right (by omega), List.getElem?_map] at hp
        obtain ⟨q, hq, rfl⟩ := Option.map_eq_some_iff.1 hp
        rw [hxs, List.getElem?_map] at hj
        obtain ⟨z, hz, rfl⟩ := Option.map_eq_some_iff.1 hj
        obtain ⟨u, hu, hru⟩ := hfy.rep _ _ _ _ hq hz
        refine ⟨u, ?_, avN_rep (hru.mono T.hS T.keep)⟩
        have hm : xs.length * ie.size ≤ p * ie.size := Nat.mul_le_mul_right _ (by omega)
        rw [List.getElem?_append_right (by rw [hwl]; omega), hwl]
        rw [Nat.sub_mul] at hu
        rw [← hu]
        congr 1
        omega
    · obtain ⟨g0, g1, g2⟩ := cellb _ _ _ _ hg hc
      rcases h4 with h | h
      · rw [h, g1] at hg
        injection hg with hg
        subst hg
        exact hS.top _ _ _ _ _ g1 g2 hb'
      · rw [h] at hg
        injection hg with hg
        have := (sim.lv id b hLid hlive (innb _ _ _ _ _ g1 g2 hb')).1
        omega
    · obtain ⟨g0, g1, g2⟩ := cellb _ _ _ _ hg hc
      obtain ⟨g0', g1', g2'⟩ := cellb _ _ _ _ hg hc'
      rw [g1] at g1'
      injection g1' with g1'
      subst g1'
      exact hS.dis _ _ _ _ _ _ _ _ g1 g2 g2' hb1 hb2
theorem ok_append {A : Amb} {o : Oper} (c : Call) (hop : o.op = .call c) (hc : c.callee = .builtin .append) : OpOK A o := by
  intro V L S rho s a w K next Q hC sim hV hd hq hn hnext
  obtain ⟨callee, args, argTypes⟩ := c
  simp only at hc
  subst hc
  simp only [qop, hop, calleeK, calleeB] at hq
  split at hq
  · rename_i x y t t' hargs htys
    have hx := ev_rep sim x fun j hj => hV j (by simp [hop, Op.operands, Call.operands, hj]; rw [← hj]; exact Array.mem_toList_iff.1 (by rw [hargs]; simp))
    have hy := ev_rep sim y fun j hj => hV j (by simp [hop, Op.operands, Call.operands, hj]; rw [← hj]; exact Array.mem_toList_iff.1 (by rw [hargs]; simp))
    have e1 : args = #[x, y] := by rw [← Array.toArray_toList (xs := args), hargs]
    have e2 : argTypes = #[t, t'] := by rw [← Array.toArray_toList (xs := argTypes), htys]
    subst e1 e2
    split at hq
    · rename_i e size bytes zero eq htt hT
      have htt := eqB_eq htt
      subst htt
      have hti := (hC.tab t _ hT).under
      simp only at hti
      split at hq
      · rename_i te hTe
        obtain ⟨ie, ze, hie, hse, hbe, hze, hce, hone⟩ := (hC.tab e te hTe).info
        have hzl := (hC.tab e te hTe).zlen
        split at hq
        · rename_i hpos
          have hpos : 0 < ie.size := by rw [hse]; exact Nat.le_of_ble_eq_true hpos
          obtain ⟨ys, hq, hsrc⟩ := aslice_sim sim hy hq
          -- the append itself
          have main : ∀ (xs : List (List PV)) (v : Value) (ws : List Value) (s2 : AS), a.eval x = v → w.ownsRow 0 e ie.size v xs.length ws → Flat S w ie.size xs ws → (∀ r ∈ ys, r.length = te.size) → (xs.length + ys.length) * te.bytes ≤ 140737488355328 → xs.length + ys.length ≤ 140737488355328 →
              Sim A V L S rho s2 a w → (∀ g, blk v = some g → ¬ S g ∧ (∀ i, L i → (s2.h i).live → ¬ hasB w (s2.h i) (rho i) g) ∧ (A.mv g ∨ A.w0.heap.size ≤ g)) → ¬ L (o.dst.getD 0) → s2.h (o.dst.getD 0) = .row e (xs ++ ys) →
              ∃ v' w' rho', (execOp a.eval o).run A.C.P w = .ok (.value v') w' ∧ Sim A V (fun i => L i ∨ i = o.dst.getD 0) S rho' s2 a w' ∧ v' = rho' (o.dst.getD 0) := by
            intro xs v ws s2 hv hown hflat hlen hb1 hb2 sim2 hR hL hb
            obtain ⟨ad, c', news, hyv, hfy, hcell⟩ := hsrc ie.size (fun r hr => by rw [hlen r hr, hse])
            obtain ⟨v', w', hr, h2, h3, h4⟩ := run_append_at (P := A.C.P) w t o.type e ie ze hti hie hze (by rw [hce]; simp [hzl, hse]) hpos v xs.length ws hown ad ys.length c' news hfy.len
              (fun h0 => hcell (fun e => h0 (by rw [e]; rfl))) hfy.one (by simp only [maxLen]; omega) (by rw [hbe]; exact hb1)
            obtain ⟨a0, c0, hs0⟩ := ownsRow_slice hown
            obtain ⟨a1, c1, hs1⟩ := ownsRow_slice h2
            rw [ownBlock_blk hs0] at h3 h4
            rw [ownBlock_blk hs1] at h4
            refine ⟨v', w', upd rho (o.dst.getD 0) v', by simp [execOp, hop, resolve, invoke, builtin, hv, hyv, hr], ?_, (upd_same _ _ _).symm⟩
            refine sim2.new hC (o.dst.getD 0) _ (sim2.dstlt hd) hL hb w' h3.os h3.tape h3.output h3.size (fun k => blk v = some k) (fun k hk hnk => h3.block k hk (fun e => hnk e.symm)) (fun k hk => hR k hk) v' (fun g hg => ?_) (fun T => ?_)
            · refine ⟨(h2.lt g (by rw [ownBlock_blk hs1]; exact hg)).2, ?_⟩
              rcases h4 with h | h
              · exact .inr (h ▸ hg)
              · rw [h] at hg
                injection hg with hg
                exact .inl (by omega)
            · show RowRep A.C.P w' (PRep S w') e (xs ++ ys) (upd rho (o.dst.getD 0) v' (o.dst.getD 0))
              rw [upd_same]
              exact RowRep.of_flat hie hpos (by rw [List.length_append]; exact h2) ((hflat.app hfy).mono T.hS T.keep)
          split at hq
          · rename_i hxe
            rw [hxe] at hx
            have hv : a.eval x = .slice none 0 0 := by cases h : a.eval x <;> rw [h] at hx <;> cases hx; rfl
            obtain ⟨⟨h1, h2, h3⟩, hq⟩ := hq
            obtain ⟨hL, hb⟩ := hn _ _ _ hq
            obtain ⟨v', w', rho', hr, sim2, hv'⟩ := main [] _ [] s hv ⟨by simp, .inl ⟨rfl, rfl⟩⟩ ⟨by simp, by simp, by simp, by simp⟩ h1 (by simpa using h2) (by simpa using h3) sim (fun g hg => by simp [blk] at hg) hL (by simpa using hb)
            exact wp_value hr (hnext _ _ _ S rho' _ _ hq (sim2.value o.dst hd _ _ (.ow _ _ fun _ => ⟨.inr rfl, hv'⟩)))
          · rename_i id hxe
            rw [hxe] at hx
            split at hq
            · rename_i e' xs hrow
              split at hq
              · rename_i hee
                have hee := eqB_eq hee
                subst hee
                obtain ⟨⟨h1, h2, h3⟩, hq⟩ := hq
                obtain ⟨hL, hb⟩ := hn _ _ _ hq
                obtain ⟨hLid, hv⟩ := hx.ow_inv (by rw [hrow]; trivial)
                have hh := sim.hp id hLid
                rw [hrow] at hh
                obtain ⟨ws, _, hown, hflat⟩ := RowRep.flat hie hh
                have hidd : id ≠ o.dst.getD 0 := fun e => hL (e ▸ hLid)
                have hlive : (s.h id).live := by rw [hrow]; trivial
                obtain ⟨v', w', rho', hr, sim2, hv'⟩ := main xs _ ws ⟨s.t, upd s.h id .none⟩ hv hown hflat h1 h2 h3 (sim.kill id) (fun g hg => by
                    obtain ⟨k1, k2, k3⟩ := sim.lvb id g hLid hlive hg
                    refine ⟨k2, fun i hi li hgi => ?_, k3⟩
                    have li' : (upd s.h id .none i).live := li
                    rcases upd_cases s.h id .none i with ⟨rfl, h⟩ | ⟨hne, h⟩
                    · rw [h] at li'; exact li'.elim
                    · rw [h] at li'; exact hne (sim.dj i id g hi hLid li' hlive (hasB_upd hne hgi) (.inl hg))) hL (by show upd s.h id .none (o.dst.getD 0) = _; rw [upd_ne _ _ hidd.symm]; exact hb)
                exact wp_value hr (hnext _ _ _ S rho' _ _ hq (sim2.value o.dst hd _ _ (.ow _ _ fun _ => ⟨.inr rfl, hv'⟩)))
              · exact hq.elim
            · rename_i e' xs hrow
              split at hq
              · rename_i hee
                have hee := eqB_eq hee
                subst hee
                obtain ⟨⟨h1, h2, h3⟩, hq⟩ := hq
                obtain ⟨hL, hb⟩ := hn _ _ _ hq
                obtain ⟨hLid, hv⟩ := hx.ow_inv (by rw [hrow]; trivial)
                have hh := sim.hp id hLid
                rw [hrow] at hh
                obtain ⟨⟨i0, ws, hi0, _, hown, _⟩, _⟩ := hh
                rw [hie] at hi0
                injection hi0 with hi0
                subst hi0
                obtain ⟨ad, c', news, hyv, hfy, hcell⟩ := hsrc ie.size (fun r hr => by rw [h1 r hr, hse])
                obtain ⟨v', w', hr, q2, q3, q4⟩ := run_append_at (P := A.C.P) w t o.type e' ie ze hti hie hze (by rw [hce]; simp [hzl, hse]) hpos (rho id) xs.length ws hown ad ys.length c' news hfy.len
                  (fun h0 => hcell (fun e => h0 (by rw [e]; rfl))) hfy.one (by simp only [maxLen]; omega) (by rw [hbe]; exact h2)
                obtain ⟨a0, c0, hs0⟩ := ownsRow_slice hown
                obtain ⟨a1, c1, hs1⟩ := ownsRow_slice q2
                rw [ownBlock_blk hs0] at q3 q4
                rw [ownBlock_blk hs1] at q4
                have sim2 := sim.happ hC hLid hrow hie (sim.dstlt hd) hL hb hfy hown q2 q3 q4
                exact wp_value (by simp [execOp, hop, resolve, invoke, builtin, hv, hyv, hr]) (hnext _ _ _ S _ _ _ hq (sim2.value o.dst hd _ _ (.ow _ _ fun _ => ⟨.inr rfl, (upd_same _ _ _).symm⟩)))
              · exact hq.elim
            · exact hq.elim
          · exact hq.elim
        · exact hq.elim
      · exact hq.elim
    · exact hq.elim
  · exact hq.elim
theorem ok_makeSlice {A : Amb} {o : Oper} (t : TypeId) (x y : Operand) (hop : o.op = .makeSlice t x y) : OpOK A o := by
  intro V L S rho s a w K next Q hC sim hV hd hq hn hnext
  simp only [qop, hop] at hq
  have hx := ev_rep sim x fun j hj => hV j (by simp [hop, Op.operands, hj])
  have hy := ev_rep sim y fun j hj => hV j (by simp [hop, Op.operands, hj])
  split at hq
  · rename_i e size bytes zero eq k n k' c hT h1 h2
    have hti := (hC.tab t _ hT).under
    simp only at hti
    rw [h1] at hx; rw [h2] at hy
    split at hq
    · rename_i te hTe
      obtain ⟨ie, ze, hie, hse, hbe, hze, hce, hone⟩ := (hC.tab e te hTe).info
      have hzl := (hC.tab e te hTe).zlen
      split at hq
      · rename_i hpos
        have hpos : 0 < te.size := Nat.le_of_ble_eq_true hpos
        obtain ⟨⟨h0, hnc, hb, h63⟩, hq⟩ := hq
        obtain ⟨hL, hdb⟩ := hn _ _ _ hq
        have hr := run_make (P := A.C.P) w t e ie ze hti hie hze k k' n c h0 hnc (by rw [hbe, Int.mul_comm]; omega) h63
        have hflat := Flat.zero S (w.alloc (.cells (madeCells ze.cells (c.toNat * ie.size)) e)) (hC.tab e te hTe) hpos n.toNat
        have key : ∀ (W : World) es xs, Flat S W te.size es xs → Flat S W ie.size es xs := fun W es xs h => by rw [hse]; exact h
        have hle : n.toNat * te.size ≤ c.toNat * te.size := Nat.mul_le_mul_right _ (by omega)
        have htk : ((Array.range (n.toNat * te.size)).map (te.zero.toArray[· % te.zero.toArray.size]!)).toList = (madeCells ze.cells (c.toNat * ie.size)).toList.take (n.toNat * te.size) := by
          apply List.ext_getElem?
          intro j
          rw [List.getElem?_take]
          split
          · rename_i hj
            simp [madeCells, hce, hse, hj, Nat.lt_of_lt_of_le hj hle]
          · rename_i hj
            rw [List.getElem?_eq_none (by simpa using hj)]
        have sim2 := sim.new hC (o.dst.getD 0) _ (sim.dstlt hd) hL hdb (w.alloc (.cells (madeCells ze.cells (c.toNat * ie.size)) e)) rfl rfl rfl (by simp) (fun _ => False) (fun k hk _ => Below.heap_alloc _ _ _ hk) (fun _ h => h.elim) (.slice (some ⟨w.heap.size, 0, none⟩) n.toNat c.toNat)
          (fun g hg => by simp [blk] at hg; subst hg; simp) (fun T => by
            show RowRep A.C.P _ _ e _ (upd rho (o.dst.getD 0) _ (o.dst.getD 0))
            rw [upd_same]
            refine RowRep.of_flat hie (by omega) ?_ (key _ _ _ hflat)
            rw [htk, ← hse]
            refine ⟨by rw [List.length_take, List.length_replicate, Array.length_toList, size_madeCells, hse]; omega, .inr ⟨w.heap.size, c.toNat, _, by simp, Nat.zero_le _, heap_alloc_new w _, by simp; omega, by simp only [maxLen]; omega, size_madeCells _ _, by simp⟩⟩)
        exact wp_value (by simp only [execOp, hop, hx.im_inv, hy.im_inv, Sem.run_bind, hr, Result.andThen_ok, Sem.run_pure]) (hnext _ _ _ S _ _ _ hq (sim2.value o.dst hd _ _ (.ow _ _ fun _ => ⟨.inr rfl, (upd_same _ _ _).symm⟩)))
      · exact hq.elim
    · exact hq.elim
  · exact hq.elim
end Go.AM
namespace Go.AM
open Go.RowKit

theorem fold_set (off : Nat) : ∀ (vs : List Value) (k : Nat) (cs : Array Value), (vs.zipIdx k).foldl (fun (cs : Array Value) (x : Value × Nat) => cs.setIfInBounds (off + x.2) x.1) cs = (setCells cs.toList (off + k) vs).toArray := by
  intro vs
  induction vs with
  | nil => intro k cs; simp [setCells]
  | cons v vs ih =>
    intro k cs
    simp only [List.zipIdx_cons, List.foldl_cons]
    rw [ih]
    simp [setCells, Nat.add_assoc]
theorem fill_cons (place : Nat → Option (Nat × Nat)) (cells : Array Value) (i : Nat) (v : Value) (rest : List (Nat × Value)) (off size : Nat) (hp : place i = some (off, size)) (hs : v.cells.size = size) (hl : off + size ≤ cells.size) :
    Instr.fill place cells ((i, v) :: rest) = Instr.fill place (setCells cells.toList off v.cells.toList).toArray rest := by
  rw [Instr.fill, hp]
  simp only
  rw [if_neg (by simp [hs]; omega)]
  congr 1
  have := fold_set off v.cells.toList 0 cells
  rw [Nat.add_zero] at this
  rw [← this, ← Array.foldl_toList, Array.toList_zipIdx]

/-- cells by content -/
structure CellsOK (S : Nat → Prop) (w : World) (cs : List PV) (vs : List Value) : Prop where
  len : vs.length = cs.length
  one : ∀ u ∈ vs, u.oneCell' = true
  rep : ∀ (j : Nat) x u, cs[j]? = some x → vs[j]? = some u → PRep S w x u
theorem CellsOK.mono {S S' : Nat → Prop} {w : World} {cs : List PV} {vs : List Value} (h : CellsOK S w cs vs) (hS : ∀ b, S b → S' b) : CellsOK S' w cs vs :=
  ⟨h.len, h.one, fun j x u h1 h2 => (h.rep j x u h1 h2).mono hS (fun _ _ => rfl)⟩
theorem CellsOK.set {S : Nat → Prop} {w : World} {cs ys : List PV} {vs us : List Value} (h : CellsOK S w cs vs) (g : CellsOK S w ys us) (off : Nat) (hl : off + ys.length ≤ cs.length) : CellsOK S w (setCells cs off ys) (setCells vs off us) := by
  have e1 := fun j => setCells_get ys cs off j hl
  have e2 := fun j => setCells_get us vs off j (by rw [g.len, h.len]; exact hl)
  refine ⟨by rw [setCells_len, setCells_len, h.len], fun u hu => ?_, fun j x u hj hu => ?_⟩
  · obtain ⟨j, hj⟩ := List.mem_iff_getElem?.1 hu
    rw [e2] at hj
    split at hj
    · exact g.one u (List.mem_of_getElem? hj)
    · exact h.one u (List.mem_of_getElem? hj)
  · rw [e1] at hj
    rw [e2, g.len] at hu
    split at hj
    · rename_i hin
      rw [if_pos hin] at hu
      exact g.rep _ x u hj hu
    · rename_i hin
      rw [if_neg hin] at hu
      exact h.rep _ x u hj hu
theorem pcells_ok {S : Nat → Prop} {w : World} {x : PV} {ys : List PV} {v : Value} (h : pcells x = some ys) (hx : PRep S w x v) : CellsOK S w ys v.cells.toList := by
  obtain ⟨h1, h2, h3⟩ := pcells_spec h hx
  exact ⟨by simpa using h1, h2, fun j y u hj hu => h3 j y u hj (by simpa using hu)⟩

theorem afill_sim {A : Amb} (hC : CtxOK A.C) {V L : Nat → Prop} {rho : Nat → Value} {t : Nat → AV} {a : Act} {w : World} {h : Nat → AB} {fs : List (Nat × Nat × Bool)} (place : Nat → Option (Nat × Nat)) (hp : ∀ (i : Nat) f, fs[i]? = some f → place i = some (f.1, f.2.1)) :
    ∀ (ps : List (Nat × Operand)) (h' : Nat → AB) (S : Nat → Prop) (cs : List PV) (vs : List Value) (K : List PV → List (Nat × AB) → Prop), (∀ p ∈ ps, ∀ j, p.2 = .tmp j → V j) → Sim A V L S rho ⟨t, h'⟩ a w → Frz h h' → CellsOK S w cs vs → afill h fs (ev t) ps cs K →
    ∃ cs' fz S' vs', K cs' fz ∧ Sim A V L S' rho ⟨t, app h' fz⟩ a w ∧ Frz h (app h' fz) ∧ CellsOK S' w cs' vs' ∧ Instr.fill place vs.toArray (ps.map fun p => (p.1, a.eval p.2)) = some vs'.toArray ∧ (∀ p ∈ fz, L p.1) := by
  intro ps
  induction ps with
  | nil => intro h' S cs vs K _ sim hF hc hq; exact ⟨cs, [], S, vs, hq, sim, hF, hc, rfl, by simp⟩
  | cons p ps ih =>
    intro h' S cs vs K hV sim hF hc hq
    obtain ⟨i, x⟩ := p
    unfold afill at hq
    split at hq
    · rename_i off size ag hfs
      have hx := ev_rep sim x fun j hj => hV (i, x) (by simp) j hj
      obtain ⟨y, fz, S2, hq, sim2, hrep, hSS, hF2, hfz⟩ := toPV_sim hC sim hF hx hq
      split at hq
      · rename_i ys hys
        split at hq
        · rename_i hchk
          simp only [Bool.and_eq_true] at hchk
          have e1 := eqB_eq hchk.1
          have e2 := leB_le hchk.2
          have hok := pcells_ok hys hrep
          obtain ⟨cs', fz', S', vs', k1, k2, k3, k4, k5, k9⟩ := ih (app h' fz) S2 _ _ _ (fun p hp => hV p (by simp [hp])) sim2 hF2 ((hc.mono hSS).set hok off (by omega)) hq
          refine ⟨cs', fz ++ fz', S', vs', k1, by rw [app_append]; exact k2, by rw [app_append]; exact k3, k4, ?_, fun p hp => (List.mem_append.1 hp).elim (hfz p) (k9 p)⟩
          rw [List.map_cons, fill_cons place _ i _ _ off size (hp i _ hfs) (by simpa [e1] using hok.len) (by simp [hc.len]; omega)]
          exact k5
        · exact hq.elim
      · exact hq.elim
    · exact hq.elim

theorem built_of {P : Program} {t : TypeId} {fs : List (Nat × Nat × Bool)} {size bytes : Nat} {zero : List Value} {eq : Bool} (hti : TIok P t ⟨.st fs, size, bytes, zero, eq⟩) {l : List (Nat × Value)} {vs' : Array Value}
    (k5 : Instr.fill (fun i => (fs[i]?).map fun f => (f.1, f.2.1)) zero.toArray l = some vs') : P.built t l = some vs' := by
  obtain ⟨info, z, hi, hsz, hby, hz, hcells, hone⟩ := hti.info
  obtain ⟨gs, hgs, hl, hf⟩ := hti.under
  simp only at hcells
  have hplaces : gs.toList.mapM (fun f => (P.info? f.type).map fun i => (f.offset, i.size)) = some (fs.map fun f => (f.1, f.2.1)) := by
    have gen : ∀ (gl : List Field) (fl : List (Nat × Nat × Bool)), fl.length = gl.length → (∀ (i : Nat) f g, fl[i]? = some f → gl[i]? = some g → f.1 = g.offset ∧ (∃ i2, P.info? g.type = some i2 ∧ i2.size = f.2.1)) → gl.mapM (fun f => (P.info? f.type).map fun i => (f.offset, i.size)) = some (fl.map fun f => (f.1, f.2.1)) := by
      intro gl
      induction gl with
      | nil => intro fl h1 _; have : fl = [] := List.eq_nil_of_length_eq_zero h1; subst this; rfl
      | cons g gl ih =>
        intro fl h1 h2
        cases fl with
        | nil => simp at h1
        | cons f fl =>
          obtain ⟨e1, i2, e2, e3⟩ := h2 0 f g rfl rfl
          have := ih fl (by simpa using h1) (fun i f g h3 h4 => h2 (i + 1) f g (by simpa using h3) (by simpa using h4))
          rw [List.mapM_cons, e2, this]
          simp [e1, e3]
    exact gen gs.toList fs (by simpa using hl) (fun i f g h3 h4 => by
      obtain ⟨e1, _, e2, _⟩ := hf i f g h3 (by simpa using h4)
      exact ⟨e1, e2⟩)
  unfold Program.built
  rw [hi, hgs]
  simp only [hz, hplaces, hcells]
  rw [← k5]
  congr 1
  funext i
  simp
theorem bfill_sim {A : Amb} {V L S : Nat → Prop} {rho : Nat → Value} {s : AS} {a : Act} {w : World} (sim : Sim A V L S rho s a w) {fs : List (Nat × Nat × Bool)} (place : Nat → Option (Nat × Nat)) (hp : ∀ (i : Nat) f, fs[i]? = some f → place i = some (f.1, f.2.1)) :
    ∀ (ps : List (Nat × Operand)) (cs : List AV) (vs : List Value) (K : List AV → Prop), (∀ p ∈ ps, ∀ j, p.2 = .tmp j → V j) → cs.length = vs.length → (∀ u ∈ vs, u.oneCell' = true) → (∀ (i : Nat) c u, cs[i]? = some c → vs[i]? = some u → LRep S w A.C.P L rho s.h c u) → bfill s.h fs (ev s.t) ps cs K →
    ∃ (cs' : List AV) (vs' : List Value), K cs' ∧ cs'.length = vs'.length ∧ (∀ u ∈ vs', u.oneCell' = true) ∧ (∀ (i : Nat) c u, cs'[i]? = some c → vs'[i]? = some u → LRep S w A.C.P L rho s.h c u) ∧ Instr.fill place vs.toArray (ps.map fun p => (p.1, a.eval p.2)) = some vs'.toArray := by
  intro ps
  induction ps with
  | nil => intro cs vs K _ hl h1 hc hq; exact ⟨cs, vs, hq, hl, h1, hc, rfl⟩
  | cons p ps ih =>
    intro cs vs K hV hl h1 hc hq
    obtain ⟨i, x⟩ := p
    unfold bfill at hq
    split at hq
    · rename_i off size ag hfs
      split at hq
      · rename_i hchk
        simp only [Bool.and_eq_true] at hchk
        obtain ⟨⟨e1, e2⟩, e3⟩ := hchk
        have e1 := eqB_eq e1
        have e2 := leB_le e2
        have hx := ev_rep sim x fun j hj => hV (i, x) (by simp) j hj
        have o1 := one1_spec sim e3 hx
        have hcl := cells_one o1
        have hlen : off < vs.length := by omega
        obtain ⟨cs', vs', k1, k2, k3, k4, k5⟩ := ih (cs.set off (ev s.t x)) (vs.set off (a.eval x)) K (fun p hp => hV p (by simp [hp])) (by simp [hl]) (fun u hu => by
            rcases List.mem_or_eq_of_mem_set hu with h | h
            · exact h1 u h
            · rw [h]; exact o1) (fun j c u hj hu => by
            by_cases e : j = off
            · subst e
              rw [List.getElem?_set_self (by omega)] at hj hu
              injection hj with hj
              injection hu with hu
              subst hj hu
              exact hx
            · rw [List.getElem?_set_ne (fun e' => e e'.symm)] at hj hu
              exact hc j c u hj hu) hq
        refine ⟨cs', vs', k1, k2, k3, k4, ?_⟩
        rw [List.map_cons, fill_cons place _ i _ _ off size (hp i _ hfs) (by rw [hcl, e1]; rfl) (by simp; omega), hcl]
        exact k5
      · exact hq.elim
    · exact hq.elim
theorem ok_build {A : Amb} {o : Oper} (t : TypeId) (ps : Array (Nat × Operand)) (hop : o.op = .build t ps) : OpOK A o := by
  intro V L S rho s a w K next Q hC sim hV hd hq _ hnext
  simp only [qop, hop] at hq
  split at hq
  · rename_i fs size bytes zero eq hT
    have hti := (hC.tab t _ hT).under
    obtain ⟨info, z, hi, hsz, hby, hz, hcells, hone⟩ := (hC.tab t _ hT).info
    obtain ⟨gs, hgs, hl, hf⟩ := hti
    simp only at hcells hone
    have hpl : ∀ (i : Nat) f, fs[i]? = some f → (fun i => (fs[i]?).map fun f => (f.1, f.2.1)) i = some (f.1, f.2.1) := fun i f h => by simp [h]
    split at hq
    case h_2 =>
      obtain ⟨cs', vs', k1, k2, k3, k4, k5⟩ := bfill_sim sim (fun i => (fs[i]?).map fun f => (f.1, f.2.1)) hpl ps.toList (zero.map avOf) zero (fun cs => K (.st cs) [] none)
        (fun p hp j hj => hV j (by simp [hop, Op.operands]; exact ⟨p.1, by rw [← hj]; exact Array.mem_toList_iff.1 hp⟩)) (by simp) hone (fun j x u hj hu => by
          rw [List.getElem?_map, hu] at hj
          simp at hj
          rw [← hj]
          exact avOf_rep _ _ _ _ _ _ u) hq
      have hbuilt := built_of (hC.tab t _ hT) k5
      exact ok_value sim hd hnext k1 (.st _ vs'.toArray (by simpa using k2) (by simpa using k3) (fun i c u h1 h2 => k4 i c u h1 (by simpa using h2))) (by
        have hr := run_build (P := A.C.P) w t (ps.map fun p => (p.1, a.eval p.2)) vs'.toArray (by simpa using hbuilt)
        simp only [execOp, hop, Sem.run_bind]
        rw [hr]
        simp)
    obtain ⟨cs', fz, S', vs', k1, k2, k3, k4, k5, _⟩ := afill_sim hC (fun i => (fs[i]?).map fun f => (f.1, f.2.1)) hpl ps.toList s.h S (zero.map (pvN (A.C.bn t))) zero (fun cs fz => K (.p (.ag cs)) fz none)
      (fun p hp j hj => hV j (by simp [hop, Op.operands]; exact ⟨p.1, by rw [← hj]; exact Array.mem_toList_iff.1 hp⟩)) sim (Frz.refl _) ⟨by simp, hone, fun j x u hj hu => by
        rw [List.getElem?_map, hu] at hj
        simp at hj
        rw [← hj]
        exact pvN_rep _ _ _ u⟩ hq
    have hplaces : gs.toList.mapM (fun f => (A.C.P.info? f.type).map fun i => (f.offset, i.size)) = some (fs.map fun f => (f.1, f.2.1)) := by
      have gen : ∀ (gl : List Field) (fl : List (Nat × Nat × Bool)), fl.length = gl.length → (∀ (i : Nat) f g, fl[i]? = some f → gl[i]? = some g → f.1 = g.offset ∧ (∃ i2, A.C.P.info? g.type = some i2 ∧ i2.size = f.2.1)) → gl.mapM (fun f => (A.C.P.info? f.type).map fun i => (f.offset, i.size)) = some (fl.map fun f => (f.1, f.2.1)) := by
        intro gl
        induction gl with
        | nil => intro fl h1 _; have : fl = [] := List.eq_nil_of_length_eq_zero h1; subst this; rfl
        | cons g gl ih =>
          intro fl h1 h2
          cases fl with
          | nil => simp at h1
          | cons f fl =>
            obtain ⟨e1, i2, e2, e3⟩ := h2 0 f g rfl rfl
            have := ih fl (by simpa using h1) (fun i f g h3 h4 => h2 (i + 1) f g (by simpa using h3) (by simpa using h4))
            rw [List.mapM_cons, e2, this]
            simp [e1, e3]
      exact gen gs.toList fs (by simpa using hl) (fun i f g h3 h4 => by
        obtain ⟨e1, _, e2, _⟩ := hf i f g h3 (by simpa using h4)
        exact ⟨e1, e2⟩)
    have hbuilt : A.C.P.built t (ps.toList.map fun p => (p.1, a.eval p.2)) = some vs'.toArray := by
      unfold Program.built
      rw [hi, hgs]
      simp only [hz, hplaces, hcells]
      rw [← k5]
      congr 1
      funext i
      simp
    refine ok_frozen (s := s) k2 hd hnext k1 (v := .agg vs'.toArray) (.p _ _ (.ag _ _ (by simp [k4.len]) (by simpa using k4.one) fun i c v h1 h2 => k4.rep i c v h1 (by simpa using h2))) ?_
    have hr := run_build (P := A.C.P) w t (ps.map fun p => (p.1, a.eval p.2)) vs'.toArray (by simpa using hbuilt)
    simp only [execOp, hop, Sem.run_bind]
    rw [hr]
    simp
  · exact hq.elim

theorem toPVn_sim {A : Amb} {V L S : Nat → Prop} {rho : Nat → Value} {s : AS} {a : Act} {w : World} {b : Bool} (hC : CtxOK A.C) {h : Nat → AB} (sim : Sim A V L S rho s a w) (hF : Frz h s.h) {x : AV} {v : Value} (hx : LRep S w A.C.P L rho s.h x v) {K : PV → List (Nat × AB) → Prop} (hq : toPVn b h x K) :
    ∃ y fz S', K y fz ∧ Sim A V L S' rho ⟨s.t, app s.h fz⟩ a w ∧ PRep S' w y v ∧ (∀ b, S b → S' b) ∧ Frz h (app s.h fz) ∧ (∀ p ∈ fz, L p.1) := by
  unfold toPVn at hq
  split at hq
  · have : v = .slice none 0 0 := by cases hx; rfl
    rw [this]
    exact ⟨_, [], S, hq, sim, .im _, fun _ h => h, hF, by simp⟩
  · exact toPV_sim hC sim hF hx hq
theorem aelems_sim {A : Amb} (hC : CtxOK A.C) {V L : Nat → Prop} {rho : Nat → Value} {t : Nat → AV} {a : Act} {w : World} {h : Nat → AB} {size : Nat} {b : Bool} :
    ∀ (ps : List (Nat × Operand)) (h' : Nat → AB) (S : Nat → Prop) (es : List (List PV)) (vs : List Value) (K : List (List PV) → List (Nat × AB) → Prop), (∀ p ∈ ps, ∀ j, p.2 = .tmp j → V j) → Sim A V L S rho ⟨t, h'⟩ a w → Frz h h' → Flat S w size es vs → aelems b h size (ev t) ps es K →
    ∃ es' fz S' vs', K es' fz ∧ Sim A V L S' rho ⟨t, app h' fz⟩ a w ∧ Frz h (app h' fz) ∧ Flat S' w size es' vs' ∧ es'.length = es.length ∧ Instr.fill (fun i => some (i * size, size)) vs.toArray (ps.map fun p => (p.1, a.eval p.2)) = some vs'.toArray ∧ (∀ p ∈ fz, L p.1) := by
  intro ps
  induction ps with
  | nil => intro h' S es vs K _ sim hF hc hq; exact ⟨es, [], S, vs, hq, sim, hF, hc, rfl, rfl, by simp⟩
  | cons p ps ih =>
    intro h' S es vs K hV sim hF hc hq
    obtain ⟨i, x⟩ := p
    unfold aelems at hq
    have hx := ev_rep sim x fun j hj => hV (i, x) (by simp) j hj
    obtain ⟨y, fz, S2, hq, sim2, hrep, hSS, hF2, hfz⟩ := toPVn_sim hC sim hF hx hq
    split at hq
    · rename_i ys hys
      split at hq
      · rename_i hchk
        simp only [Bool.and_eq_true] at hchk
        have e1 := eqB_eq hchk.1
        have e2 : i < es.length := Nat.le_of_ble_eq_true hchk.2
        have hok := pcells_ok hys hrep
        have hvl : (a.eval x).cells.toList.length = size := by rw [hok.len, e1]
        have hb : i * size + size ≤ vs.length := by rw [hc.len, ← Nat.succ_mul]; exact Nat.mul_le_mul_right _ e2
        obtain ⟨es', fz', S', vs', k1, k2, k3, k4, k5, k6, k9⟩ := ih (app h' fz) S2 _ _ _ (fun p hp => hV p (by simp [hp])) sim2 hF2 ((hc.mono hSS (fun _ _ => rfl)).set i e2 ys _ e1 hvl hok.one (fun j y u h1 h2 => hok.rep j y u h1 h2)) hq
        refine ⟨es', fz ++ fz', S', vs', k1, by rw [app_append]; exact k2, by rw [app_append]; exact k3, k4, by rw [k5, List.length_set], ?_, fun p hp => (List.mem_append.1 hp).elim (hfz p) (k9 p)⟩
        rw [List.map_cons, fill_cons _ _ i _ _ (i * size) size rfl (by simpa using hvl) (by simpa using hb)]
        exact k6
      · exact hq.elim
    · exact hq.elim
theorem ok_buildSlice {A : Amb} {o : Oper} (t : TypeId) (len : Nat) (ps : Array (Nat × Operand)) (hop : o.op = .buildSlice t len ps) : OpOK A o := by
  intro V L S rho s a w K next Q hC sim hV hd hq hn hnext
  simp only [qop, hop] at hq
  split at hq
  · rename_i e size bytes zero eq hT
    have hti := (hC.tab t _ hT).under
    simp only at hti
    split at hq
    · rename_i te hTe
      obtain ⟨ie, ze, hie, hse, hbe, hze, hce, hone⟩ := (hC.tab e te hTe).info
      have hzl := (hC.tab e te hTe).zlen
      split at hq
      · rename_i hchk
        simp only [Bool.and_eq_true] at hchk
        have hpos : 0 < te.size := Nat.le_of_ble_eq_true hchk.1
        have hsm := leB_le hchk.2
        split at hq
        · rename_i hbf
          obtain ⟨es', fz, S', vs', k1, k2, k3, k4, k5, k6, k9⟩ := aelems_sim hC ps.toList s.h S _ _ (fun es fz => K (.ow (o.dst.getD 0)) fz (some (.row e es)))
            (fun p hp j hj => hV j (by simp [hop, Op.operands]; exact ⟨p.1, by rw [← hj]; exact Array.mem_toList_iff.1 hp⟩)) sim (Frz.refl _) (Flat.zero S w (hC.tab e te hTe) hpos len) hq
          rw [List.length_replicate] at k5
          obtain ⟨hL, hb⟩ := hn _ _ _ k1
          have hdn : (app s.h fz) (o.dst.getD 0) = .row e es' := by
            rw [app_out (fun p hp (e : p.1 = _) => hL (by rw [← e]; exact k9 p hp)), hb]
          have hrun : (execOp a.eval o).run A.C.P w = .ok (.value (.slice (some ⟨w.heap.size, 0, none⟩) len len)) (w.alloc (.cells vs'.toArray e)) := by
            have e0 : len * te.size = (Array.range (len * te.size)).size := by simp
            have hn16 : ¬ 16777216 < len * te.size := by omega
            have k6' : Instr.fill (fun i => some (i * te.size, te.size)) ((Array.range (len * te.size)).map (te.zero.toArray[· % te.zero.toArray.size]!)) (ps.map fun p => (p.1, a.eval p.2)).toList = some vs'.toArray := by
              rw [Array.toList_map]
              rw [← k6]
            have hsz : (Go.sizeOf e).run A.C.P w = .ok te.size w := (hC.tab e te hTe).sizeOf w
            simp only [execOp, hop, Instr.buildSlice, Sem.run_bind, run_underlying hti, Result.andThen_ok, hsz]
            rw [if_neg (show ¬ len * te.size > 2 ^ 24 by omega)]
            by_cases h0 : len * te.size = 0
            · rw [if_pos h0]
              have k7 : Instr.fill (fun i => some (i * te.size, te.size)) ((Array.range (len * te.size)).map ((#[] : Array Value)[· % (#[] : Array Value).size]!)) (ps.map fun p => (p.1, a.eval p.2)).toList = some vs'.toArray := by
                have hz0 : ∀ f : Nat → Value, (Array.range 0).map f = #[] := fun f => by apply Array.ext'; simp
                rw [← k6', h0, hz0, hz0]
              simp only [Sem.run_bind, Sem.run_pure, Result.andThen_ok]
              rw [k7]
              simp [newRow, newObj, Sem.run]
            · rw [if_neg h0]
              have hzv : (zeroValue e).run A.C.P w = .ok ze w := by simp [zeroValue, typeInfo, hie, hze]
              simp only [Sem.run_bind, Sem.run_pure, Result.andThen_ok, hzv]
              rw [hce, k6']
              simp [newRow, newObj, Sem.run]
          have sim2 := k2.new hC (o.dst.getD 0) _ (k2.dstlt hd) hL hdn (w.alloc (.cells vs'.toArray e)) rfl rfl rfl (by simp) (fun _ => False) (fun k hk _ => Below.heap_alloc _ _ _ hk) (fun _ h => h.elim) (.slice (some ⟨w.heap.size, 0, none⟩) len len)
            (fun g hg => by simp [blk] at hg; subst hg; simp) (fun T => by
              show RowRep A.C.P _ _ e _ (upd rho (o.dst.getD 0) _ (o.dst.getD 0))
              rw [upd_same]
              refine RowRep.of_flat hie (by omega) ?_ (by rw [hse]; exact k4.mono T.hS T.keep)
              have := World.ownsRow_lit (base := 0) (e := e) (size := te.size) w vs'.toArray len (Nat.zero_le _) (by simp only [maxLen]; have := Nat.le_mul_of_pos_right len hpos; omega) (by simp [k4.len, k5])
              rw [hse, k5]
              exact this)
          exact wp_value hrun (hnext _ _ _ S' _ _ _ k1 (sim2.value o.dst hd _ _ (.ow _ _ fun _ => ⟨.inr rfl, (upd_same _ _ _).symm⟩)))
        · rename_i hbf
          obtain ⟨es', fz, S', vs', k1, k2, k3, k4, k5, k6, k9⟩ := aelems_sim hC ps.toList s.h S _ _ (fun es fz => K (.ow (o.dst.getD 0)) fz (some (.frz es)))
            (fun p hp j hj => hV j (by simp [hop, Op.operands]; exact ⟨p.1, by rw [← hj]; exact Array.mem_toList_iff.1 hp⟩)) sim (Frz.refl _) (Flat.zero S w (hC.tab e te hTe) hpos len) hq
          rw [List.length_replicate] at k5
          obtain ⟨hL, hb⟩ := hn _ _ _ k1
          have hdn : (app s.h fz) (o.dst.getD 0) = .frz es' := by
            rw [app_out (fun p hp (e : p.1 = _) => hL (by rw [← e]; exact k9 p hp)), hb]
          have hrun : (execOp a.eval o).run A.C.P w = .ok (.value (.slice (some ⟨w.heap.size, 0, none⟩) len len)) (w.alloc (.cells vs'.toArray e)) := by
            have e0 : len * te.size = (Array.range (len * te.size)).size := by simp
            have hn16 : ¬ 16777216 < len * te.size := by omega
            have k6' : Instr.fill (fun i => some (i * te.size, te.size)) ((Array.range (len * te.size)).map (te.zero.toArray[· % te.zero.toArray.size]!)) (ps.map fun p => (p.1, a.eval p.2)).toList = some vs'.toArray := by
              rw [Array.toList_map]
              rw [← k6]
            have hsz : (Go.sizeOf e).run A.C.P w = .ok te.size w := (hC.tab e te hTe).sizeOf w
            simp only [execOp, hop, Instr.buildSlice, Sem.run_bind, run_underlying hti, Result.andThen_ok, hsz]
            rw [if_neg (show ¬ len * te.size > 2 ^ 24 by omega)]
            by_cases h0 : len * te.size = 0
            · rw [if_pos h0]
              have k7 : Instr.fill (fun i => some (i * te.size, te.size)) ((Array.range (len * te.size)).map ((#[] : Array Value)[· % (#[] : Array Value).size]!)) (ps.map fun p => (p.1, a.eval p.2)).toList = some vs'.toArray := by
                have hz0 : ∀ f : Nat → Value, (Array.range 0).map f = #[] := fun f => by apply Array.ext'; simp
                rw [← k6', h0, hz0, hz0]
              simp only [Sem.run_bind, Sem.run_pure, Result.andThen_ok]
              rw [k7]
              simp [newRow, newObj, Sem.run]
            · rw [if_neg h0]
              have hzv : (zeroValue e).run A.C.P w = .ok ze w := by simp [zeroValue, typeInfo, hie, hze]
              simp only [Sem.run_bind, Sem.run_pure, Result.andThen_ok, hzv]
              rw [hce, k6']
              simp [newRow, newObj, Sem.run]
          have hfr : Fr (fun _ => False) w (w.alloc (.cells vs'.toArray e)) := ⟨rfl, rfl, rfl, by simp, fun k hk _ => Below.heap_alloc _ _ _ hk⟩
          have grow := k2.growS hC (w.alloc (.cells vs'.toArray e)) hfr (fun b => S' b ∨ b = w.heap.size) (fun b h => .inl h) (fun b h => by
            rcases h with h | h
            · exact Nat.lt_of_lt_of_le (k2.st b h) hfr.size
            · subst h; simp) (fun b h => h.imp id fun h => by omega)
          have rr : RowRep A.C.P (w.alloc (.cells vs'.toArray e)) (PRep S' (w.alloc (.cells vs'.toArray e))) e es' (.slice (some ⟨w.heap.size, 0, none⟩) len len) := by
            refine RowRep.of_flat hie (by omega) ?_ (by rw [hse]; exact k4.mono (fun _ h => h) (fun b hb => Below.heap_alloc _ _ _ (k2.st b hb)))
            have := World.ownsRow_lit (base := 0) (e := e) (size := te.size) w vs'.toArray len (Nat.zero_le _) (by simp only [maxLen]; have := Nat.le_mul_of_pos_right len hpos; omega) (by simp [k4.len, k5])
            rw [hse, k5]
            exact this
          have hpr : PRep (fun b => S' b ∨ b = w.heap.size) (w.alloc (.cells vs'.toArray e)) (.sl es') (.slice (some ⟨w.heap.size, 0, none⟩) len len) := rr.prep (fun b h => .inl h) (fun g hg => by simp [blk] at hg; exact .inr hg.symm)
          have sim2 := grow.newFrz (o.dst.getD 0) es' (k2.dstlt hd) hL hdn _ hpr
          exact wp_value hrun (hnext _ _ _ _ _ _ _ k1 (sim2.value o.dst hd _ _ (.ow _ _ fun _ => ⟨.inr rfl, (upd_same _ _ _).symm⟩)))
      · exact hq.elim
    · exact hq.elim
  · exact hq.elim
end Go.AM
namespace Go.AM
open Go.RowKit

theorem shB_eq : ∀ {a b : List Nat}, shB a b = true → a = b
  | [], [], _ => rfl
  | [], _ :: _, h => by cases h
  | _ :: _, [], h => by cases h
  | a :: r, b :: s, h => by
    unfold shB at h
    split at h
    · rename_i e
      rw [Nat.eq_of_beq_eq_true e, shB_eq h]
    · cases h
theorem mkB_eq {a b : MK} (h : mkB a b = true) : a = b := by
  cases a with
  | str => cases b with | str => rfl | int k => cases h | st s => cases h
  | int k => cases b with
    | str => cases k <;> cases h
    | int k' => cases k <;> cases k' <;> first | rfl | cases h
    | st s => cases k <;> cases h
  | st s => cases b with
    | str => cases h
    | int k => cases k <;> cases h
    | st s' => rw [shB_eq h]
def descOf : MK → TypeDesc
  | .str => .string
  | .int k => .int k
  | .st _ => .string
def plainK : MK → Prop
  | .st _ => False
  | _ => True
theorem mkOf_under {P : Program} {t : TypeId} {ti : TI} (h : TIok P t ti) {mk : MK} (hp : plainK mk) (hm : mkOf ti = some mk) : P.underlying t = some (descOf mk) := by
  have hu := h.under
  unfold mkOf at hm
  cases hud : ti.ud <;> rw [hud] at hm hu <;> simp only at hm <;> first
    | (cases hm; done)
    | (injection hm with hm; subst hm; exact hu)
    | (split at hm
       · obtain ⟨s, _, rfl⟩ := Option.map_eq_some_iff.1 hm; exact hp.elim
       · cases hm)
theorem keyCells_spec : ∀ {sh : List Nat} {cs : List PV} {l : List Value}, keyCells sh cs = some l → cs = l.map .im ∧ okCells sh l := by
  intro sh
  induction sh with
  | nil =>
    intro cs l h
    cases cs with
    | nil => injection h with h; subst h; exact ⟨rfl, trivial⟩
    | cons c cs => cases h
  | cons n sh ih =>
    intro cs l h
    cases cs with
    | nil => simp [keyCells] at h
    | cons c cs =>
      unfold keyCells at h
      split at h
      all_goals first
        | contradiction
        | (rename_i h1 h2
           injection h1 with h1 h1'
           injection h2 with h2 h2'
           subst h1 h1' h2 h2'
           obtain ⟨l', hl, rfl⟩ := Option.map_eq_some_iff.1 h
           obtain ⟨i1, i2⟩ := ih hl
           subst i1
           first
             | exact ⟨rfl, trivial, i2⟩
             | exact ⟨rfl, rfl, i2⟩)
        | (cases h)
theorem keyOf_spec {mk : MK} {a : AV} {k : Value} (h : keyOf mk a = some k) : ∃ x, a = .p x ∧ mk.ok k ∧ ∀ S w v, PRep S w x v → v = k := by
  unfold keyOf at h
  split at h
  · injection h with h; subst h; exact ⟨_, rfl, trivial, fun S w v hv => hv.im_inv⟩
  · injection h with h; subst h; exact ⟨_, rfl, rfl, fun S w v hv => hv.im_inv⟩
  · obtain ⟨l, hl, rfl⟩ := Option.map_eq_some_iff.1 h
    obtain ⟨rfl, h2⟩ := keyCells_spec hl
    refine ⟨_, rfl, by simpa [MK.ok] using h2, fun S w v hv => ?_⟩
    obtain ⟨xs, e1, hl1, _, hc1⟩ := hv.ag_inv
    rw [e1]
    congr 1
    apply Array.ext'
    apply List.ext_getElem?
    intro i
    by_cases hi : i < xs.size
    · have hi' : i < l.length := by have : l.length = xs.size := by simpa using hl1
                                    omega
      have := (hc1 i (.im l[i]) xs[i] (by rw [List.getElem?_map, List.getElem?_eq_getElem hi']; rfl) (Array.getElem?_eq_getElem hi)).im_inv
      rw [Array.getElem?_toList, Array.getElem?_eq_getElem hi, this]
      simp [hi']
    · have hi' : ¬ i < l.length := by have : l.length = xs.size := by simpa using hl1
                                      omega
      rw [List.getElem?_eq_none (by simpa using hi), List.getElem?_eq_none (by simpa using hi')]
  · cases h
theorem sameNow_eq {mk : MK} (hp : plainK mk) {a b : Value} (ha : mk.ok a) (hb : mk.ok b) : Instr.sameNow (descOf mk) a b = some (vEq a b) := by
  cases mk with
  | str =>
    cases a <;> first | (exact ha.elim) | skip
    cases b <;> first | (exact hb.elim) | skip
    simp only [Instr.sameNow, descOf, vEq]
    congr 1
    rw [Bool.eq_iff_iff, MapKept.bytes_beq]; simp
  | int k =>
    cases a <;> first | (exact ha.elim) | skip
    cases b <;> first | (exact hb.elim) | skip
    have h1 : _ = k := ha
    have h2 : _ = k := hb
    subst h1
    subst h2
    simp [Instr.sameNow, descOf, vEq]
    rw [Bool.eq_iff_iff]; simp
  | st s => exact hp.elim
theorem isKey_ok {mk : MK} (hp : plainK mk) {k : Value} (h : mk.ok k) : MapKept.IsKey (descOf mk) k := by
  cases mk with
  | str => cases k <;> first | (exact h.elim) | exact trivial
  | int j => cases k <;> first | (exact h.elim) | exact h
  | st s => exact hp.elim
theorem CtxOK.key {C : Ctx} (hC : CtxOK C) {kt : TypeId} {tk : TI} {mk : MK} (h : C.T kt = some tk) (hm : mkOf tk = some mk) : KeyOK C.P kt mk := by
  by_cases hp : plainK mk
  · have hu := mkOf_under (hC.tab kt tk h) hp hm
    refine ⟨fun e k w hk => MapKept.run_checkKey hu (isKey_ok hp hk) e 9999, fun k w ms hk hms => MapKept.run_findKey hu ?_⟩
    generalize 0 = i
    induction ms generalizing i with
    | nil => rfl
    | cons m ms ih =>
      have hs := sameNow_eq hp hk (hms m List.mem_cons_self)
      unfold Instr.findNow findV
      rw [hs]
      cases vEq k m.key with
      | true => rfl
      | false => exact ih (fun x hx => hms x (List.mem_cons_of_mem _ hx)) _
  · cases mk with
    | st s => exact hC.keys kt tk s h hm
    | str => exact (hp trivial).elim
    | int j => exact (hp trivial).elim
theorem vEqs_eq : ∀ {sh : List Nat} {a b : List Value}, okCells sh a → okCells sh b → vEqs a b = true → a = b := by
  intro sh
  induction sh with
  | nil =>
    intro a b ha hb _
    cases a with
    | nil => cases b with
      | nil => rfl
      | cons y b => exact hb.elim
    | cons x a => exact ha.elim
  | cons n sh ih =>
    intro a b ha hb h
    cases a with
    | nil => exact ha.elim
    | cons x a => cases b with
      | nil => exact hb.elim
      | cons y b =>
        simp only [vEqs, Bool.and_eq_true] at h
        rw [ih ha.2 hb.2 h.2]
        have e : x = y := by
          have h1 := ha.1
          have h2 := hb.1
          unfold okCell at h1 h2
          split at h1
          · split at h2 <;> first | (exact h2.elim) | (rename_i e1; cases e1; done) | skip
            have := h.1
            simp [vEq0] at this
            rw [this]
          · split at h2 <;> first | (exact h2.elim) | (rename_i e1; cases e1; done) | skip
            have := h.1
            simp [vEq0] at this
            rw [this, h1, h2]
          · split at h2 <;> first | (exact h2.elim) | (rename_i e1; cases e1; done) | skip
            have := h.1
            simp [vEq0] at this
            rw [this]
          · exact h1.elim
        rw [e]
theorem vEq_eq {mk : MK} {a b : Value} (ha : mk.ok a) (hb : mk.ok b) (h : vEq a b = true) : a = b := by
  cases mk with
  | str =>
    cases a <;> first | (exact ha.elim) | skip
    cases b <;> first | (exact hb.elim) | skip
    simp [vEq] at h
    rw [h]
  | int k =>
    cases a <;> first | (exact ha.elim) | skip
    cases b <;> first | (exact hb.elim) | skip
    have h1 : _ = k := ha
    have h2 : _ = k := hb
    subst h1
    subst h2
    simp [vEq] at h
    rw [h]
  | st s =>
    cases a <;> first | (exact ha.elim) | skip
    cases b <;> first | (exact hb.elim) | skip
    congr 1
    exact Array.ext' (vEqs_eq (sh := s) ha hb h)
/-- where a key lies -/
theorem find_spec {mk : MK} {k : Value} (hk : mk.ok k) : ∀ (es : List (Value × PV)) (ms : List MapEntry) (j : Nat), ms.length = es.length → (∀ (i : Nat) p m, es[i]? = some p → ms[i]? = some m → m.key = p.1 ∧ mk.ok p.1) →
    (findV k ms j = none ∧ mget es k = none ∧ ∀ v, mput es k v = es ++ [(k, v)]) ∨
    ∃ i m p, findV k ms j = some (j + i, m.val) ∧ ms[i]? = some m ∧ es[i]? = some p ∧ p.1 = k ∧ mget es k = some p.2 ∧ ∀ v, mput es k v = es.set i (k, v) := by
  intro es
  induction es with
  | nil =>
    intro ms j hl _
    have : ms = [] := List.eq_nil_of_length_eq_zero hl
    subst this
    exact .inl ⟨rfl, rfl, fun v => rfl⟩
  | cons p es ih =>
    intro ms j hl hkey
    cases ms with
    | nil => cases hl
    | cons m ms =>
      obtain ⟨k', u⟩ := p
      obtain ⟨h1, h2⟩ := hkey 0 _ _ rfl rfl
      simp only at h1 h2
      cases hv : vEq k k' with
      | true =>
        refine .inr ⟨0, m, (k', u), ?_, rfl, rfl, (vEq_eq hk h2 hv).symm, by simp [mget, hv], fun v => by simp [mput, hv]⟩
        simp [findV, h1, hv]
      | false =>
        rcases ih ms (j + 1) (by simpa using hl) (fun i p m hp hm => hkey (i + 1) p m (by simpa using hp) (by simpa using hm)) with ⟨q1, q2, q3⟩ | ⟨i, m', p, q1, q2, q3, q4, q5, q6⟩
        · exact .inl ⟨by simp [findV, h1, hv, q1], by simp [mget, hv, q2], fun v => by simp [mput, hv, q3 v]⟩
        · refine .inr ⟨i + 1, m', p, ?_, by simpa using q2, by simpa using q3, q4, by simp [mget, hv, q5], fun v => by simp [mput, hv, q6 v]⟩
          simp only [findV, h1, hv, q1]
          rw [Nat.add_assoc, Nat.add_comm 1 i]
theorem sameBits_cells {n : Nat} : ∀ {sh : List Nat} {l : List Value}, okCells sh l → ((l.zip l).all fun (x, y) => Instr.sameBits n x y) = true := by
  intro sh
  induction sh with
  | nil => intro l h; cases l with
    | nil => rfl
    | cons x l => exact h.elim
  | cons c sh ih =>
    intro l h
    cases l with
    | nil => exact h.elim
    | cons x l =>
      rw [List.zip_cons_cons, List.all_cons, ih h.2, Bool.and_true]
      have h1 := h.1
      unfold okCell at h1
      split at h1
      · cases n <;> exact (MapKept.bytes_beq _ _).2 rfl
      · cases n <;> simp [Instr.sameBits]
      · cases n <;> simp [Instr.sameBits]
      · exact h1.elim
theorem sameBits_self {mk : MK} {k : Value} (hk : mk.ok k) : Instr.sameBits 10000 k k = true := by
  cases mk with
  | str =>
    cases k <;> first | (exact hk.elim) | skip
    simp only [Instr.sameBits]
    exact (MapKept.bytes_beq _ _).2 rfl
  | int j =>
    cases k <;> first | (exact hk.elim) | skip
    simp [Instr.sameBits]
  | st s =>
    cases k <;> first | (exact hk.elim) | skip
    rename_i xs
    show (xs.size == xs.size && (xs.toList.zip xs.toList).all fun (x, y) => Instr.sameBits 9999 x y) = true
    rw [sameBits_cells (sh := s) hk]
    simp

theorem ok_makeMap {A : Amb} {o : Oper} (t : TypeId) (hop : o.op = .makeMap t none) : OpOK A o := by
  intro V L S rho s a w K next Q hC sim hV hd hq hn hnext
  simp only [qop, hop] at hq
  split at hq
  · split at hq
    · split at hq
      · obtain ⟨hL, hdb⟩ := hn _ _ _ hq
        have sim2 := sim.new hC (o.dst.getD 0) _ (sim.dstlt hd) hL hdb (w.alloc (.map #[] 0)) rfl rfl rfl (by simp) (fun _ => False) (fun k hk _ => Below.heap_alloc _ _ _ hk) (fun _ h => h.elim) (.map (some w.heap.size))
          (fun g hg => by simp [blk] at hg; subst hg; simp) (fun T => by
            refine ⟨w.heap.size, #[], 0, upd_same _ _ _, (MapKept.heap_alloc w _).1, rfl, by simp⟩)
        exact wp_value (by simp [execOp, hop, Instr.makeMap]) (hnext _ _ _ S _ _ _ hq (sim2.value o.dst hd _ _ (.ow _ _ fun _ => ⟨.inr rfl, (upd_same _ _ _).symm⟩)))
      · exact hq.elim
    · exact hq.elim
  · exact hq.elim
/-- a map's content -/
theorem map_parts {S : Nat → Prop} {w : World} {P : Program} {L : Nat → Prop} {rho : Nat → Value} {h : Nat → AB} {id : Nat} {mk : MK} {es : List (Value × PV)} (hh : HRep S w P L rho h id (.map mk es)) :
    ∃ g ms clock, rho id = .map (some g) ∧ w.heap[g]? = some (.map ms clock) ∧ ms.size = es.length ∧ ∀ (i : Nat) p m, es[i]? = some p → ms[i]? = some m → m.key = p.1 ∧ mk.ok p.1 ∧ PRep S w p.2 m.val := hh
theorem all_ok {mk : MK} {es : List (Value × PV)} {ms : Array MapEntry} {R : PV → Value → Prop} (h3 : ms.size = es.length) (h4 : ∀ (i : Nat) p m, es[i]? = some p → ms[i]? = some m → m.key = p.1 ∧ mk.ok p.1 ∧ R p.2 m.val) : ∀ m ∈ ms.toList, mk.ok m.key := by
  intro m hm
  obtain ⟨i, hi, rfl⟩ := List.getElem_of_mem hm
  have hi' : i < es.length := by rw [← h3]; simpa using hi
  obtain ⟨q1, q2, _⟩ := h4 i es[i] (ms.toList[i]) (List.getElem?_eq_getElem hi') (by simp at hi; simp [hi])
  rw [q1]
  exact q2
theorem zeroPV_rep {P : Program} {t : TypeId} {ti : TI} (h : TIok P t ti) (hz : ZeroOK P t ti) (S : Nat → Prop) (w : World) : ∃ z, (zeroValue t).run P w = .ok z w ∧ PRep S w (zeroPV ti) z := by
  obtain ⟨info, z, h1, h2, h3, h4, h5, h6, h7, h8⟩ := h
  obtain ⟨info', z', g1, g2, g3⟩ := hz
  rw [h1] at g1; injection g1 with g1; subst g1
  rw [h4] at g2; injection g2 with g2; subst g2
  refine ⟨z, by simp [zeroValue, typeInfo, h1, h4], ?_⟩
  unfold zeroPV
  cases hag : ti.ud.agg with
  | true =>
    rw [hag] at g3
    cases z <;> first | cases g3 | skip
    rename_i cs
    have hc : cs = ti.zero.toArray := h5
    subst hc
    refine .ag _ _ (by simp) (fun u hu => h7 u (by simpa using hu)) fun i c v hi hv => ?_
    rw [List.getElem?_map] at hi
    obtain ⟨u, hu, rfl⟩ := Option.map_eq_some_iff.1 hi
    have : u = v := by simpa [hu] using hv
    subst this
    exact pvOf_rep S w u
  | false =>
    rw [hag] at g3
    have hc : z.cells = #[z] := by cases z <;> first | rfl | cases g3
    rw [hc] at h5
    have : ti.zero = [z] := by simpa using (congrArg Array.toList h5).symm
    rw [this]
    exact pvOf_rep S w z
theorem ok_lookup {A : Amb} {o : Oper} (t : TypeId) (x i : Operand) (ck : Bool) (hop : o.op = .lookup t x i ck) : OpOK A o := by
  intro V L S rho s a w K next Q hC sim hV hd hq hn hnext
  simp only [qop, hop] at hq
  have hx := ev_rep sim x fun j hj => hV j (by simp [hop, Op.operands, hj])
  have hi := ev_rep sim i fun j hj => hV j (by simp [hop, Op.operands, hj])
  split at hq
  case h_2 => exact hq.elim
  rename_i kt et size bytes zero eq hT
  have hti := (hC.tab t _ hT).under
  simp only at hti
  split at hq
  case h_2 => exact hq.elim
  rename_i tk te hTk hTe
  split at hq
  case h_2 => exact hq.elim
  rename_i mk hmk
  have hku := hC.key hTk hmk
  split at hq
  case h_2 => exact hq.elim
  rename_i id hid
  split at hq
  case h_2 => exact hq.elim
  rename_i mk' es hmap
  split at hq
  case h_2 => exact hq.elim
  rename_i hmm
  obtain rfl := mkB_eq hmm
  split at hq
  case h_2 => exact hq.elim
  rename_i k hk
  obtain ⟨xk, hk1, hk2, hk3⟩ := keyOf_spec hk
  obtain ⟨r, hr, hq⟩ := hq
  rw [hid] at hx
  obtain ⟨hL, hv⟩ := hx.ow_inv (by rw [hmap]; trivial)
  have hh := sim.hp id hL
  rw [hmap] at hh
  obtain ⟨g, ms, clock, h1, h2, h3, h4⟩ := map_parts hh
  rw [hk1] at hi
  have hi := hk3 _ _ _ hi.p_inv
  obtain ⟨z, hz, hzr⟩ := zeroPV_rep (hC.tab et te hTe) (hC.zs et te hTe) S w
  have hall : ∀ m ∈ ms.toList, mk.ok m.key := all_ok h3 h4
  have key : ∃ u, (Instr.lookup t (a.eval x) (a.eval i) ck).run A.C.P w = .ok (if ck then .tuple #[u, .bool r.isSome] else u) w ∧ PRep S w (r.getD (zeroPV te)) u := by
    rcases find_spec hk2 es ms.toList 0 (by simpa using h3) (fun i p m hp hm => by obtain ⟨q1, q2, _⟩ := h4 i p m hp (by simpa using hm); exact ⟨q1, q2⟩) with ⟨q1, q2, _⟩ | ⟨j, m, p, q1, q2, q3, q4, q5, _⟩
    · rw [hr] at q2
      subst q2
      refine ⟨z, ?_, hzr⟩
      cases ck <;> simp [Instr.lookup, run_underlying hti, hv, h1, MapKept.run_getObj_map h2, hi, hku.check _ _ _ hk2, hku.find _ _ _ hk2 hall, q1, hz]
    · rw [hr] at q5
      subst q5
      refine ⟨m.val, ?_, (h4 j p m q3 (by simpa using q2)).2.2⟩
      cases ck <;> simp [Instr.lookup, run_underlying hti, hv, h1, MapKept.run_getObj_map h2, hi, hku.check _ _ _ hk2, hku.find _ _ _ hk2 hall, q1]
  obtain ⟨u, hrun, hu⟩ := key
  cases ck with
  | true =>
    refine ok_value sim hd hnext hq (.tu _ _ rfl fun i c v hc hv => ?_) (by simp only [execOp, hop, Sem.run_bind, hrun, Result.andThen_ok, Sem.run_pure]; rfl)
    match i with
    | 0 => simp at hc hv; subst hc hv; exact .p _ _ hu
    | 1 => simp at hc hv; subst hc hv; exact .p _ _ (.im _)
    | i + 2 => simp at hc
  | false => exact ok_value sim hd hnext hq (.p _ _ hu) (by simp only [execOp, hop, Sem.run_bind, hrun, Result.andThen_ok, Sem.run_pure]; rfl)
theorem ok_mapUpdate {A : Amb} {o : Oper} (t : TypeId) (x i y : Operand) (hop : o.op = .mapUpdate t x i y) : OpOK A o := by
  intro V L S rho s a w K next Q hC sim hV hd hq hn hnext
  simp only [qop, hop] at hq
  have hx := ev_rep sim x fun j hj => hV j (by simp [hop, Op.operands, hj])
  have hi := ev_rep sim i fun j hj => hV j (by simp [hop, Op.operands, hj])
  have hy := ev_rep sim y fun j hj => hV j (by simp [hop, Op.operands, hj])
  split at hq
  case h_2 => exact hq.elim
  rename_i kt et size bytes zero eq hT
  have hti := (hC.tab t _ hT).under
  simp only at hti
  split at hq
  case h_2 => exact hq.elim
  rename_i tk hTk
  split at hq
  case h_2 => exact hq.elim
  rename_i mk hmk
  have hku := hC.key hTk hmk
  split at hq
  case h_2 => exact hq.elim
  rename_i id hid
  split at hq
  case h_2 => exact hq.elim
  rename_i mk' es hmap
  split at hq
  case h_2 => exact hq.elim
  rename_i hmm
  obtain rfl := mkB_eq hmm
  split at hq
  case h_2 => exact hq.elim
  rename_i k hk
  obtain ⟨xk, hk1, hk2, hk3⟩ := keyOf_spec hk
  obtain ⟨yv, fz, S2, hq, sim2, hrep, hSS, hF, hfz⟩ := toPV_sim hC sim (Frz.refl s.h) hy hq
  split at hq
  case h_2 => exact hq.elim
  rename_i hno
  have hb2 : app s.h fz id = .map mk es := by rw [app_noId hno]; exact hmap
  rw [hid] at hx
  obtain ⟨hL, hv⟩ := hx.ow_inv (by rw [hmap]; trivial)
  have hh := sim2.hp id hL
  have hh : HRep S2 w A.C.P L rho (app s.h fz) id (app s.h fz id) := hh
  rw [hb2] at hh
  obtain ⟨g, ms, clock, h1, h2, h3, h4⟩ := map_parts hh
  rw [hk1] at hi
  have hi := hk3 _ _ _ hi.p_inv
  have hall : ∀ m ∈ ms.toList, mk.ok m.key := all_ok h3 h4
  have fin : ∀ ms' clock', (Instr.mapUpdate t (a.eval x) (a.eval i) (a.eval y)).run A.C.P w = .ok () { w with heap := w.heap.setIfInBounds g (.map ms' clock') } → ms'.size = (mput es k yv).length →
      (∀ (i : Nat) p m, (mput es k yv)[i]? = some p → ms'[i]? = some m → m.key = p.1 ∧ mk.ok p.1 ∧ PRep S2 w p.2 m.val) → o.wp A.C.P a w next Q := by
    intro ms' clock' hrun hsz hent
    obtain ⟨g1, g2⟩ := MapKept.heap_set (o' := .map ms' clock') h2
    refine wp_skip' (w' := { w with heap := w.heap.setIfInBounds g (.map ms' clock') }) (by simp only [execOp, hop, Sem.run_bind, hrun, Result.andThen_ok, Sem.run_pure]) ?_
    have sim3 := sim2.write hC id hL (by show (app s.h fz id).live; rw [hb2]; trivial) (.map mk (mput es k yv)) (fun _ h => by cases h) { w with heap := w.heap.setIfInBounds g (.map ms' clock') } rfl rfl rfl (by simp) (fun k hk => g2 k fun e => hk (by rw [h1, e]; rfl)) fun T => by
      refine ⟨g, ms', clock', h1, g1, hsz, fun i p m hp hm => ?_⟩
      obtain ⟨q1, q2, q3⟩ := hent i p m hp hm
      exact ⟨q1, q2, q3.mono T.hS T.keep⟩
    have := hnext _ _ _ S2 _ _ _ hq (by
      rw [app_append]
      exact sim3.value o.dst hd .junk undef (.junk _))
    exact this
  rcases find_spec hk2 es ms.toList 0 (by simpa using h3) (fun i p m hp hm => by obtain ⟨q1, q2, _⟩ := h4 i p m hp (by simpa using hm); exact ⟨q1, q2⟩) with ⟨q1, q2, q3⟩ | ⟨j, m, p, q1, q2, q3, q4, q5, q6⟩
  · refine fin (ms.push { key := k, val := a.eval y, born := clock }) (clock + 1) ?_ (by rw [q3]; simp [h3]) fun i p m hp hm => ?_
    · simp [Instr.mapUpdate, run_underlying hti, hv, h1, MapKept.run_getObj_map h2, hi, hku.check _ _ _ hk2, hku.find _ _ _ hk2 hall, q1, MapKept.run_setObj_map _ h2]
    · rw [q3] at hp
      by_cases hlt : i < es.length
      · rw [List.getElem?_append_left hlt] at hp
        rw [Array.getElem?_push_lt (by omega)] at hm
        exact h4 i p m hp (by rw [← hm]; exact Array.getElem?_eq_getElem _)
      · have hie : i = es.length := by
          have := lt_of_get hp
          simp at this
          omega
        subst hie
        rw [← h3] at hm
        simp at hp hm
        subst hp hm
        exact ⟨rfl, hk2, hrep⟩
  · have hms : ms[j]? = some m := by simpa using q2
    have hmk : m.key = k := by rw [← q4]; exact (h4 j p m q3 hms).1
    refine fin (ms.modify j fun e => { e with key := k, val := a.eval y }) clock ?_ (by rw [q6]; simp [h3]) fun i p' m' hp hm => ?_
    · simp [Instr.mapUpdate, run_underlying hti, hv, h1, MapKept.run_getObj_map h2, hi, hku.check _ _ _ hk2, hku.find _ _ _ hk2 hall, q1, hms, hmk, Instr.keyThatStays, sameBits_self hk2, MapKept.run_setObj_map _ h2]
    · rw [q6] at hp
      rw [Array.getElem?_modify] at hm
      by_cases e : j = i
      · subst e
        rw [if_pos rfl, hms] at hm
        rw [List.getElem?_set_self (lt_of_get q3)] at hp
        simp at hp hm
        subst hp hm
        exact ⟨rfl, hk2, hrep⟩
      · rw [if_neg e] at hm
        rw [List.getElem?_set_ne e] at hp
        exact h4 i p' m' hp hm
theorem ok_slice {A : Amb} {o : Oper} (t : TypeId) (x : Operand) (lo hi : Option Operand) (hop : o.op = .slice t x lo hi none) : OpOK A o := by
  intro V L S rho s a w K next Q hC sim hV hd hq hn hnext
  have old := ok_slice0 t x lo hi hop hC sim hV hd (K := K) (Q := Q) (next := next)
  simp only [qop, hop] at hq
  split at hq
  case h_2 => exact old hq hnext
  rename_i id hid
  split at hq
  case h_2 => exact old hq hnext
  rename_i e' es hrow
  rcases hq with hq | hq
  case inr => exact old hq hnext
  have hx := ev_rep sim x fun j hj => hV j (by simp [hop, Op.operands, hj])
  have hlo : ∀ y, lo = some y → LRep S w A.C.P L rho s.h (ev s.t y) (a.eval y) := fun y hy => ev_rep sim y fun j hj => hV j (by simp [hop, Op.operands, hj, hy])
  have hhi : ∀ y, hi = some y → LRep S w A.C.P L rho s.h (ev s.t y) (a.eval y) := fun y hy => ev_rep sim y fun j hj => hV j (by simp [hop, Op.operands, hj, hy])
  unfold qview at hq
  split at hq
  case h_2 => exact hq.elim
  rename_i e size bytes zero eq hT
  have hti := (hC.tab t _ hT).under
  simp only at hti
  split at hq
  case h_2 => exact hq.elim
  rename_i hee
  obtain rfl := eqB_eq hee
  split at hq
  case h_2 => exact hq.elim
  rename_i k m k' n h1 h2
  obtain ⟨⟨h3, h4, h5⟩, hq⟩ := hq
  rw [hid] at hx
  obtain ⟨hL, hv⟩ := hx.ow_inv (by rw [hrow]; trivial)
  have hh := sim.hp id hL
  rw [hrow] at hh
  have hh : RowRep A.C.P w (PRep S w) e' es (rho id) := hh
  obtain ⟨ie, xs, hie, hpos, hown, _⟩ := hh
  have hform : ∃ ad c, rho id = .slice ad es.length c ∧ es.length ≤ c := by
    rcases hown.2 with ⟨g1, g2⟩ | ⟨g, cap, cur, g1, _, _, g2, _⟩
    · exact ⟨none, 0, by rw [g1, g2], by omega⟩
    · exact ⟨_, cap, g1, g2⟩
  obtain ⟨ad, c, hform, hle⟩ := hform
  have hb := bounds_run sim lo hi hlo hhi true es.length c k m k' n hle h1 h2 h3 h4 h5
  refine ok_value sim hd hnext hq (.vw id _ _ _ fun e2 he2 => ?_) (by simp [execOp, hop, Instr.sliceAt, Instr.slice, hv, hform, run_underlying hti, hb, Go.sizeOf, typeInfo, hie]; rfl)
  rw [hrow] at he2
  injection he2 with he2
  subst he2
  exact ⟨hL, es.length, c, ad, ie, hform, hie, by omega, by omega, hle, rfl⟩
theorem Flat.take {S : Nat → Prop} {w : World} {k : Nat} {es : List (List PV)} {xs : List Value} (h : Flat S w k es xs) (n : Nat) (hn : n ≤ es.length) : Flat S w k (es.take n) (xs.take (n * k)) := by
  have hnk : n * k ≤ es.length * k := Nat.mul_le_mul_right _ hn
  refine ⟨by rw [List.length_take, List.length_take, h.len]; rw [Nat.min_eq_left hnk, Nat.min_eq_left hn], fun r hr => h.row r (List.mem_of_mem_take hr), fun u hu => h.one u (List.mem_of_mem_take hu), fun i r j x hi hj => ?_⟩
  have hil := lt_of_get hi
  rw [List.length_take] at hil
  rw [List.getElem?_take_of_lt (by omega)] at hi
  obtain ⟨u, h1, h2⟩ := h.rep i r j x hi hj
  have hjk : j < k := by rw [← h.row r (List.mem_of_getElem? hi)]; exact lt_of_get hj
  refine ⟨u, ?_, h2⟩
  rw [List.getElem?_take_of_lt, h1]
  have := Nat.mul_le_mul_right k (show i + 1 ≤ n by omega)
  rw [Nat.succ_mul] at this
  omega
theorem Flat.drop {S : Nat → Prop} {w : World} {k : Nat} {es : List (List PV)} {xs : List Value} (h : Flat S w k es xs) (n : Nat) : Flat S w k (es.drop n) (xs.drop (n * k)) := by
  refine ⟨by rw [List.length_drop, List.length_drop, h.len, Nat.sub_mul], fun r hr => h.row r (List.mem_of_mem_drop hr), fun u hu => h.one u (List.mem_of_mem_drop hu), fun i r j x hi hj => ?_⟩
  rw [List.getElem?_drop] at hi
  obtain ⟨u, h1, h2⟩ := h.rep (n + i) r j x hi hj
  refine ⟨u, ?_, h2⟩
  rw [List.getElem?_drop, ← h1]
  congr 1
  rw [Nat.add_mul, Nat.add_assoc]
theorem LRep.vw_inv {S : Nat → Prop} {w : World} {P : Program} {L : Nat → Prop} {rho : Nat → Value} {h : Nat → AB} {id lo hi : Nat} {v : Value} (hx : LRep S w P L rho h (.vw id lo hi) v) {e : TypeId} {es : List (List PV)} (he : h id = .row e es) :
    L id ∧ ∃ n c a ti, rho id = .slice a n c ∧ P.info? e = some ti ∧ lo ≤ hi ∧ hi ≤ n ∧ n ≤ c ∧ v = .slice (if c = lo then a else a.map (·.add (lo * ti.size))) (hi - lo) (c - lo) := by
  cases hx with
  | vw _ _ _ _ hv => exact hv e (by rw [he]; rfl)
theorem ok_clear {A : Amb} {o : Oper} (c : Call) (hop : o.op = .call c) (hc : c.callee = .builtin .clear) : OpOK A o := by
  intro V L S rho s a w K next Q hC sim hV hd hq _ hnext
  obtain ⟨callee, args, argTypes⟩ := c
  simp only at hc
  subst hc
  simp only [qop, hop, calleeK, calleeB] at hq
  split at hq
  case h_2 => exact hq.elim
  rename_i x t hargs htys
  have hx := ev_rep sim x fun j hj => hV j (by simp [hop, Op.operands, Call.operands, hj]; rw [← hj]; exact Array.mem_toList_iff.1 (by rw [hargs]; simp))
  have e1 : args = #[x] := by rw [← Array.toArray_toList (xs := args), hargs]
  have e2 : argTypes = #[t] := by rw [← Array.toArray_toList (xs := argTypes), htys]
  subst e1 e2
  split at hq
  case h_2 => exact hq.elim
  rename_i e size bytes zero eq hT
  have hti := (hC.tab t _ hT).under
  simp only at hti
  split at hq
  case h_2 => exact hq.elim
  rename_i ti hTe
  split at hq
  case h_2 => exact hq.elim
  rename_i id lo hi hid
  split at hq
  case h_2 => exact hq.elim
  rename_i e' es hrow
  split at hq
  case h_2 => exact hq.elim
  rename_i hcond
  simp only [Bool.and_eq_true] at hcond
  obtain ⟨hee, hpos⟩ := hcond
  obtain ⟨⟨hlh, hhl⟩, hq⟩ := hq
  obtain rfl := eqB_eq hee
  have hpos : 0 < ti.size := Nat.le_of_ble_eq_true hpos
  rw [hid] at hx
  obtain ⟨hL, n, cp, ad, ti', hrho, hi', _, hhn, hnc, hval⟩ := hx.vw_inv hrow
  have hh := sim.hp id hL
  rw [hrow] at hh
  have hh : RowRep A.C.P w (PRep S w) e' es (rho id) := hh
  obtain ⟨ie, ze, hie, hse, hbe, hze, hce, hone⟩ := (hC.tab e' ti hTe).info
  rw [hie] at hi'; injection hi' with hi'; subst hi'
  obtain ⟨xs, hp2, hown, hflat⟩ := RowRep.flat hie hh
  have fin : ∀ w', (∀ ty, (Builtin.clear_ #[t] ty #[a.eval x]).run A.C.P w = .ok (.tuple #[]) w') → Sim A V L S rho ⟨s.t, upd s.h id (.row e' (es.take lo ++ List.replicate (hi - lo) (ti.zero.map pvOf) ++ es.drop hi))⟩ a w' → o.wp A.C.P a w next Q := by
    intro w' hrun sim'
    exact wp_value (v := .tuple #[]) (by simp [execOp, hop, resolve, invoke, builtin, hrun]) (hnext _ _ _ S _ _ _ hq (sim'.value o.dst hd (.tu []) _ (.tu [] #[] rfl (by simp))))
  by_cases heq : hi = lo
  · subst heq
    refine fin w (fun ty => ?_) ?_
    · rw [hval, Nat.sub_self]
      cases (if cp = hi then ad else ad.map (·.add (hi * ie.size))) <;> simp [Builtin.clear_, run_underlying hti]
    · rw [Nat.sub_self, List.replicate_zero, List.append_nil, List.take_append_drop, upd_self _ _ _ hrow]
      exact sim
  · rcases hown.2 with ⟨g1, g2⟩ | ⟨g, cap, cur, g1, _, g3, g4, g5, g6, g7⟩
    · exact absurd g2 (by omega)
    have hrho2 := hrho
    rw [g1] at hrho2
    injection hrho2 with r1 r2 r3
    subst r1 r2 r3
    have hv2 : a.eval x = .slice (some ⟨g, lo * ie.size, none⟩) (hi - lo) (cap - lo) := by
      rw [hval, if_neg (by omega)]
      simp only [Option.map_some, Addr.add]
      split
      · rename_i h0; rw [h0]
      · simp
    have hzs : ((Array.range ((hi - lo) * ti.size)).map (ti.zero.toArray[· % ti.zero.toArray.size]!)) = Builtin.zeroCells ze.cells (hi - lo) := by
      unfold Builtin.zeroCells
      rw [hce, (show ti.zero.toArray.size = ti.size by simpa using (hC.tab e' ti hTe).zlen)]
    have hz := Flat.zero S w (hC.tab e' ti hTe) hpos (hi - lo)
    rw [hzs, ← hse] at hz
    have hcl : (Builtin.zeroCells ze.cells (hi - lo)).toList.length = (hi - lo) * ie.size := by rw [hz.len, List.length_replicate]
    have hcap : hi * ie.size ≤ cap * ie.size := Nat.mul_le_mul_right _ (by omega)
    have hsum : lo * ie.size + (hi - lo) * ie.size = hi * ie.size := by rw [← Nat.add_mul]; congr 1; omega
    have hst := run_storeCells_at A.C.P g (lo * ie.size) e' (Builtin.zeroCells ze.cells (hi - lo)).toList 0 cur w g3 (by rw [hcl, g6]; omega) hz.one
    simp only [Nat.add_zero] at hst
    have hne0 : hi - lo ≠ 0 := by omega
    refine fin (w.setRow g (cur.toList.take (lo * ie.size) ++ (Builtin.zeroCells ze.cells (hi - lo)).toList ++ cur.toList.drop (lo * ie.size + (Builtin.zeroCells ze.cells (hi - lo)).toList.length)).toArray) (fun ty => ?_) ?_
    · rw [hv2]
      cases hk : hi - lo with
      | zero => exact absurd hk hne0
      | succ m =>
        rw [hk] at hst
        simp [Builtin.clear_, run_underlying hti, zeroValue, typeInfo, hie, hze, hst]
    · refine sim.write hC id hL (by rw [hrow]; trivial) _ (fun e2 h => by rw [hrow]; exact h) _ (setRow_os w g _) (setRow_tape w g _) (setRow_output w g _) (setRow_size w g _) (fun k hk => setRow_other w g k _ fun e => hk (by rw [g1, e]; rfl)) fun T => ?_
      show RowRep A.C.P _ _ e' _ (rho id)
      have hF : Flat S w ie.size (es.take lo ++ List.replicate (hi - lo) (ti.zero.map pvOf) ++ es.drop hi) (xs.take (lo * ie.size) ++ (Builtin.zeroCells ze.cells (hi - lo)).toList ++ xs.drop (hi * ie.size)) := ((hflat.take lo (by omega)).app hz).app (hflat.drop hi)
      refine RowRep.of_flat hie hp2 ?_ (hF.mono T.hS T.keep)
      have hel : (es.take lo ++ List.replicate (hi - lo) (ti.zero.map pvOf) ++ es.drop hi).length = es.length := by simp; omega
      rw [hel]
      refine ⟨by rw [hF.len, hel], .inr ⟨g, cap, _, g1, Nat.zero_le _, setRow_heap w g cur _ e' (0, 0) g3, g4, g5, ?_, ?_⟩⟩
      · rw [List.size_toArray, List.length_append, List.length_append, hcl, List.length_take, List.length_drop, Array.length_toList, g6]
        omega
      · rw [← g7, hcl, hsum]
        have h1 : lo * ie.size ≤ es.length * ie.size := Nat.mul_le_mul_right _ (by omega)
        have h2 : hi * ie.size ≤ es.length * ie.size := Nat.mul_le_mul_right _ hhl
        have h3 : es.length * ie.size ≤ cap * ie.size := Nat.mul_le_mul_right _ g4
        simp only [List.take_append, List.length_append, List.length_take, Array.length_toList, g6, hcl, List.take_take, List.drop_take]
        rw [Nat.min_eq_left (show lo * ie.size ≤ cap * ie.size by omega), Nat.min_eq_left h1]
        rw [Nat.min_eq_right h1, List.take_of_length_le (l := (Builtin.zeroCells ze.cells (hi - lo)).toList) (by rw [hcl]; omega)]
        rw [show es.length * ie.size - (lo * ie.size + (hi - lo) * ie.size) = es.length * ie.size - hi * ie.size by omega]
end Go.AM
