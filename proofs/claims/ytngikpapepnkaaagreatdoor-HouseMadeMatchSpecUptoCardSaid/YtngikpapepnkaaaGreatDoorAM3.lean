/- The machine: drawn regions, the rules of a walk, loops, library functions. -/
import Derived.Test.YtngikpapepnkaaaGreatDoorAM2
import Derived.WideKeyRuns
set_option linter.unusedSimpArgs false
set_option linter.unusedVariables false
namespace Go.AM
open Go.RowKit

def isApp : Op → Bool
  | .call c => match c.callee with
    | .builtin .append => true
    | _ => false
  | _ => false
def anyMd (m : Nat → Bool) : Nat → Bool
  | 0 => false
  | n + 1 => m n || anyMd m n
/-- may an object be gone behind it -/
def isKill (C : Ctx) (o : Op) : Bool := isApp o || match o with
  | .call c => match c.callee with
    | .value (.func f) => anyMd (C.md f) 8 || C.bl f
    | .value (.tmp _) => true
    | _ => false
  | _ => false
/-- 0: no object is looked at · 1: only whether it is there · 2: looked at · 3: written -/
def cls (C : Ctx) (ap : Bool) : Op → Nat
  | .move _ => 0
  | .assign _ => 0
  | .pick _ _ _ => 0
  | .binOp _ _ _ _ _ => 0
  | .unOp _ _ _ => 0
  | .convert _ _ _ => 0
  | .extract _ _ => 0
  | .index _ _ _ => 0
  | .field _ _ _ => 0
  | .makeFunc _ _ _ => 0
  | .fieldAddr _ _ _ => match ap with
    | true => 2
    | false => 1
  | .nilCheck _ => match ap with
    | true => 2
    | false => 1
  | .store _ _ _ => 3
  | .mapUpdate _ _ _ _ => 3
  | .call c => match c.callee with
    | .builtin .append => 3
    | .builtin .clear => 3
    | .builtin .min => 0
    | .builtin .max => 0
    | .value (.func f) => match anyMd (C.md f) 8 || C.bl f with
      | true => 3
      | false => 2
    | .value (.tmp _) => 3
    | _ => 2
  | _ => 2
def kindB : AB → AB → Bool
  | .row e _, .row e' _ => beqN e e'
  | .box _, .box _ => true
  | .map _ _, .map _ _ => true
  | _, _ => false
def thereB : AB → Bool
  | .none => false
  | _ => true
def effThere (h : Nat → AB) : List (Nat × AB) → Bool
  | [] => true
  | (i, _) :: r => thereB (h i) && effThere h r
def effKind (h : Nat → AB) : List (Nat × AB) → Bool
  | [] => true
  | (i, b) :: r => kindB (h i) b && effKind h r
def newDst (op : Op) : Option AB → Option Tmp → Bool
  | none, _ => true
  | some _, some _ => mayNew op
  | some _, none => false
def isPV : AV → Bool
  | .p _ => true
  | _ => false
/-- what reads only what is never written -/
def pvOnly (o : Oper) (rho : Operand → AV) : Bool := match o.op with
  | .load _ a => isPV (rho a)
  | .indexAddr _ x _ => isPV (rho x)
  | .slice _ x _ _ none => isPV (rho x)
  | .build _ ps => ps.toList.all fun p => isPV (rho p.2)
  | .call c => match c.callee, c.args.toList with
    | .builtin .len, [x] => isPV (rho x)
    | _, _ => false
  | .fieldAddr _ x _ => isPV (rho x)
  | .nilCheck x => isPV (rho x)
  | _ => false
/-- objects that stay as they are but for what stands in order to all that looks -/
def inX : List Nat → Nat → Bool
  | [], _ => false
  | i :: r, k => match beqN i k with
    | true => true
    | false => inX r k
def fpX (X : List Nat) : AV → Bool
  | .ow id => inX X id
  | .rp id _ _ => inX X id
  | .bx id _ => inX X id
  | _ => false
/-- what looks only at such objects -/
def fpLook (X : List Nat) (o : Oper) (rho : Operand → AV) : Bool := match o.op with
  | .load _ a => fpX X (rho a)
  | .indexAddr _ x _ => fpX X (rho x)
  | .lookup _ x _ _ => fpX X (rho x)
  | .call c => match c.callee, c.args.toList with
    | .builtin .len, [x] => fpX X (rho x)
    | _, _ => false
  | _ => false
/-- what makes such an object, and looks at none -/
def fpMake (X : List Nat) (o : Oper) (rho : Operand → AV) : Bool := match o.op with
  | .makeSlice _ _ _ => inX X (o.dst.getD 0)
  | .buildSlice _ _ ps => inX X (o.dst.getD 0) && ps.toList.all fun p => isPV (rho p.2)
  | _ => false
def fpOnly (X : List Nat) (o : Oper) (rho : Operand → AV) : Bool := fpLook X o rho || fpMake X o rho
def noX (X : List Nat) : List (Nat × AB) → Bool
  | [] => true
  | (i, _) :: r => match inX X i with
    | true => false
    | false => noX X r
/-- what an object is: a box, a row -/
def kc : AB → Nat
  | .box _ => 1
  | .fbx _ => 1
  | .row _ _ => 2
  | .hrow _ _ => 2
  | _ => 0
/-- objects that stay what they are: i is marked by i + 1000000 -/
def keepX (X : List Nat) (h : Nat → AB) : List (Nat × AB) → Bool
  | [] => true
  | (i, b) :: r => match inX X (i + 1000000) with
    | true => Nat.beq (kc b) (kc (h i)) && (!Nat.beq (kc (h i)) 0 && keepX X h r)
    | false => keepX X h r
def okX (X : List Nat) (f : Bool) (h : Nat → AB) (e : List (Nat × AB)) : Bool := (f || noX X e) && keepX X h e
theorem okX_nil (X : List Nat) (f : Bool) (h : Nat → AB) : okX X f h [] = true := by simp [okX, noX, keepX]
def thV (X : List Nat) : AV → Bool
  | .bx id _ => inX X (id + 1000000)
  | .rp id _ _ => inX X (id + 1000000)
  | _ => false
/-- what looks only whether such a box is there -/
def thOnly (X : List Nat) (o : Oper) (rho : Operand → AV) : Bool := match o.op with
  | .fieldAddr _ x _ => thV X (rho x)
  | .nilCheck x => thV X (rho x)
  | _ => false
def lookOK (C : Ctx) (ap : Bool) (X : List Nat) (f : Bool) (o : Oper) (rho : Operand → AV) : Bool := f || pvOnly o rho || fpOnly X o rho || thOnly X o rho || Nat.beq (cls C ap o.op) 3
def dstep0 (C : Ctx) (ap : Bool) (X : List Nat) (f : Bool) (o : Oper) (K : AS → Prop) (s : AS) : Prop :=
  qop C o (ev s.t) s.h fun v eff new => match newDst o.op new o.dst with
    | false => False
    | true => match Nat.beq (cls C ap o.op) 3 with
      | true => match effThere s.h eff && (ap || effKind s.h eff) && okX X f s.h eff with
        | true => K ⟨putT s.t o.dst v, newH (app s.h eff) (o.dst.getD 0) new⟩
        | false => False
      | false => match eff with
        | [] => K ⟨putT s.t o.dst v, newH s.h (o.dst.getD 0) new⟩
        | _ => False
def dstep (C : Ctx) (ap : Bool) (X : List Nat) (f : Bool) (o : Oper) (K : AS → Prop) (s : AS) : Prop := match lookOK C ap X f o (ev s.t) with
  | true => dstep0 C ap X f o K s
  | false => False
def dops (C : Ctx) (ap : Bool) (X : List Nat) (all : List Oper) : List Bool → List Oper → (AS → Prop) → AS → Prop
  | _, [], K, s => K s
  | [], _ :: _, _, _ => False
  | f :: fl, o :: r, K, s => match o.guard with
    | none => dstep C ap X f o (dops C ap X all fl r K) s
    | some (g, want) => match all[g]? with
      | none => False
      | some og => match og.dst with
        | none => False
        | some tg => match s.t tg with
          | .p (.im (.bool b)) => bcase b
              (match want with
                | true => dstep C ap X f o (dops C ap X all fl r K) ⟨upd s.t tg (boolAV true), s.h⟩
                | false => dops C ap X all fl r K ⟨putT (upd s.t tg (boolAV true)) o.dst unAV, s.h⟩)
              (match want with
                | false => dstep C ap X f o (dops C ap X all fl r K) ⟨upd s.t tg (boolAV false), s.h⟩
                | true => dops C ap X all fl r K ⟨putT (upd s.t tg (boolAV false)) o.dst unAV, s.h⟩)
          | .p (.im (.tuple _)) => dops C ap X all fl r K ⟨putT s.t o.dst unAV, s.h⟩
          | _ => False

structure RR where
  run : Bool
  v : AV
  eff : List (Nat × AB)
  new : Option AB
structure DStep (C : Ctx) (ap : Bool) (all : List Oper) (o : Oper) (s : AS) (r : RR) (s' : AS) : Prop where
  guard : match o.guard with
    | none => r.run = true
    | some (g, want) => ∃ og tg b, all[g]? = some og ∧ og.dst = some tg ∧ s.t tg = .p (.im b) ∧ r.run = gval b want
  ran : r.run = true → qop C o (ev s.t) s.h fun v e n => v = r.v ∧ e = r.eff ∧ n = r.new
  not : r.run = false → r.v = unAV ∧ r.eff = [] ∧ r.new = none
  next : s' = ⟨putT s.t o.dst r.v, newH (app s.h r.eff) (o.dst.getD 0) r.new⟩
  there : effThere s.h r.eff = true
  kind : ap = false → effKind s.h r.eff = true
  quiet : cls C ap o.op ≠ 3 → r.eff = []
  ndst : newDst o.op r.new o.dst = true

theorem dstep_run {C : Ctx} {ap f : Bool} {X : List Nat} {o : Oper} {K : AS → Prop} {s : AS} (h : dstep0 C ap X f o K s) : ∃ v eff new, (qop C o (ev s.t) s.h fun v' e' n' => v' = v ∧ e' = eff ∧ n' = new) ∧ effThere s.h eff = true ∧ (ap = false → effKind s.h eff = true) ∧ (cls C ap o.op ≠ 3 → eff = []) ∧ newDst o.op new o.dst = true ∧ okX X f s.h eff = true ∧ K ⟨putT s.t o.dst v, newH (app s.h eff) (o.dst.getD 0) new⟩ := by
  obtain ⟨v, eff, new, h1, h2⟩ := qop_lin (fun _ => .inr rfl) h
  refine ⟨v, eff, new, h2 _ ⟨rfl, rfl, rfl⟩, ?_⟩
  split at h1
  · exact h1.elim
  · rename_i hnd
    split at h1
    · rename_i hc
      have hc : cls C ap o.op = 3 := Nat.eq_of_beq_eq_true hc
      split at h1
      · rename_i hk
        have hx : okX X f s.h eff = true := (Bool.and_eq_true _ _ ▸ hk).2
        simp only [Bool.and_eq_true, Bool.or_eq_true] at hk
        exact ⟨hk.1.1, fun e => hk.1.2.resolve_left (by rw [e]; decide), fun h => absurd hc h, hnd, hx, h1⟩
      · exact h1.elim
    · split at h1
      · exact ⟨rfl, fun _ => rfl, fun _ => rfl, hnd, okX_nil _ _ _, h1⟩
      · exact h1.elim

/-- how an operation that is run may stand to the others -/
def DLook (C : Ctx) (ap : Bool) (X : List Nat) (fl : List Bool) (o : Oper) (s : AS) (r : RR) (i : Nat) : Prop := r.run = true → (fl[i]? = some true ∨ pvOnly o (ev s.t) = true ∨ fpOnly X o (ev s.t) = true ∨ thOnly X o (ev s.t) = true ∨ cls C ap o.op = 3) ∧ (fl[i]? = some true ∨ noX X r.eff = true) ∧ keepX X s.h r.eff = true
theorem dops_run {C : Ctx} {ap : Bool} {X : List Nat} {all : List Oper} {K : AS → Prop} : ∀ (l : List Oper) (fl : List Bool) (s : AS), dops C ap X all fl l K s → ∃ (st : Nat → AS) (r : Nat → RR), st 0 = s ∧ K (st l.length) ∧ ∀ (i : Nat) o, l[i]? = some o → DStep C ap all o (st i) (r i) (st (i + 1)) ∧ DLook C ap X fl o (st i) (r i) i := by
  intro l
  induction l with
  | nil => intro fl s h; exact ⟨fun _ => s, fun _ => ⟨false, .junk, [], none⟩, rfl, by cases fl <;> exact h, by simp⟩
  | cons o l ih =>
    intro fl s h
    cases fl with
    | nil => exact h.elim
    | cons f fl =>
    have ext : ∀ (r : RR) (s' : AS), DStep C ap all o s r s' → (r.run = true → lookOK C ap X f o (ev s.t) = true ∧ okX X f s.h r.eff = true) → dops C ap X all fl l K s' → ∃ (st : Nat → AS) (r : Nat → RR), st 0 = s ∧ K (st (o :: l).length) ∧ ∀ (i : Nat) o', (o :: l)[i]? = some o' → DStep C ap all o' (st i) (r i) (st (i + 1)) ∧ DLook C ap X (f :: fl) o' (st i) (r i) i := by
      intro r0 s' hd hf hk
      obtain ⟨st, r, h1, h2, h3⟩ := ih fl s' hk
      refine ⟨fun i => match i with | 0 => s | i + 1 => st i, fun i => match i with | 0 => r0 | i + 1 => r i, rfl, h2, fun i o' hi => ?_⟩
      cases i with
      | zero =>
        simp at hi
        subst hi
        refine ⟨?_, fun hr => ?_⟩
        · show DStep C ap all o s r0 (st 0)
          rw [h1]
          exact hd
        · obtain ⟨q1, q2⟩ := hf hr
          simp only [okX, Bool.and_eq_true] at q2
          obtain ⟨q2, q3⟩ := q2
          exact ⟨by cases f with
            | true => exact .inl rfl
            | false => simp only [lookOK, Bool.false_or, Bool.or_eq_true] at q1; exact .inr (by rcases q1 with ((h | h) | h) | h; exact .inl h; exact .inr (.inl h); exact .inr (.inr (.inl h)); exact .inr (.inr (.inr (Nat.eq_of_beq_eq_true h)))), by cases f with
            | true => exact .inl rfl
            | false => exact .inr q2, q3⟩
      | succ i =>
        obtain ⟨q1, q2⟩ := h3 i o' (by simpa using hi)
        exact ⟨q1, fun hr => q2 hr⟩
    have runs : (match o.guard with
        | none => true = true
        | some (g, want) => ∃ og tg b, all[g]? = some og ∧ og.dst = some tg ∧ s.t tg = .p (.im b) ∧ true = gval b want) → dstep C ap X f o (dops C ap X all fl l K) s → ∃ (st : Nat → AS) (r : Nat → RR), st 0 = s ∧ K (st (o :: l).length) ∧ ∀ (i : Nat) o', (o :: l)[i]? = some o' → DStep C ap all o' (st i) (r i) (st (i + 1)) ∧ DLook C ap X (f :: fl) o' (st i) (r i) i := by
      intro hg hs
      unfold dstep at hs
      split at hs
      case h_2 => exact hs.elim
      rename_i hf
      obtain ⟨v, eff, new, k1, k2, k3, k4, k6, k7, k5⟩ := dstep_run hs
      exact ext ⟨true, v, eff, new⟩ _ ⟨hg, fun _ => k1, (fun h => by cases h), rfl, k2, k3, k4, k6⟩ (fun _ => ⟨hf, k7⟩) k5
    unfold dops at h
    split at h
    · rename_i hg
      exact runs (by rw [hg]) h
    · rename_i g want hg
      split at h
      · exact h.elim
      · rename_i og hog
        split at h
        · exact h.elim
        · rename_i tg htg
          split at h
          · rename_i b hb
            have hsame : ∀ b', b = b' → upd s.t tg (boolAV b') = s.t := fun b' e => upd_self _ _ _ (by rw [hb, e]; rfl)
            have skips : dops C ap X all fl l K ⟨putT s.t o.dst unAV, s.h⟩ → (false = (b == want)) → ∃ (st : Nat → AS) (r : Nat → RR), st 0 = s ∧ K (st (o :: l).length) ∧ ∀ (i : Nat) o', (o :: l)[i]? = some o' → DStep C ap all o' (st i) (r i) (st (i + 1)) ∧ DLook C ap X (f :: fl) o' (st i) (r i) i := fun hs he =>
              ext ⟨false, unAV, [], none⟩ _ ⟨by rw [hg]; exact ⟨og, tg, .bool b, hog, htg, hb, by rw [he]; cases b <;> cases want <;> rfl⟩, fun h => (by cases h), fun _ => ⟨rfl, rfl, rfl⟩, rfl, rfl, fun _ => rfl, fun _ => rfl, rfl⟩ (fun h => by cases h) hs
            cases b <;> cases want <;> simp only [bcase] at h
            · rw [hsame false rfl] at h
              exact runs (by rw [hg]; exact ⟨og, tg, .bool false, hog, htg, hb, rfl⟩) h
            · rw [hsame false rfl] at h
              exact skips h rfl
            · rw [hsame true rfl] at h
              exact skips h rfl
            · rw [hsame true rfl] at h
              exact runs (by rw [hg]; exact ⟨og, tg, .bool true, hog, htg, hb, rfl⟩) h
          · rename_i q hb
            exact ext ⟨false, unAV, [], none⟩ _ ⟨by rw [hg]; exact ⟨og, tg, .tuple q, hog, htg, hb, by cases want <;> rfl⟩, fun h => (by cases h), fun _ => ⟨rfl, rfl, rfl⟩, rfl, rfl, fun _ => rfl, fun _ => rfl, rfl⟩ (fun h => by cases h) h
          · exact h.elim

/-- what no object is asked for -/
theorem qop_h0 {C : Ctx} {ap : Bool} {o : Oper} {rho : Operand → AV} {h h' : Nat → AB} {K : KK} (hc : cls C ap o.op = 0) (hq : qop C o rho h K) : qop C o rho h' K := by
  cases hop : o.op <;> rw [hop] at hc <;> try (simp only [qop, hop] at hq ⊢; exact hq)
  all_goals try (cases hc; done)
  case makeFunc fn first cap =>
    cases fn with
    | func f => simp only [qop, hop] at hq ⊢; exact hq
    | _ => simp only [qop, hop] at hq
  case fieldAddr => cases ap <;> cases hc
  case nilCheck => cases ap <;> cases hc
  case call c =>
    simp only [qop, hop] at hq ⊢
    simp only [cls] at hc
    split at hc
    · cases hc
    · cases hc
    · rename_i h1; simp only [h1, calleeK, calleeB] at hq ⊢; exact hq
    · rename_i h1; simp only [h1, calleeK, calleeB] at hq ⊢; exact hq
    · split at hc <;> cases hc
    · cases hc
    · cases hc
/-- what only asks whether an object is there -/
theorem qop_h1 {C : Ctx} {ap : Bool} {o : Oper} {rho : Operand → AV} {h h' : Nat → AB} {K : KK} (hc : cls C ap o.op = 1) (hh : ∀ id, (h id).there → ((h' id).there ∧ (∀ e es, h id = .row e es → ∃ es', h' id = .row e es') ∧ (∀ cs, h id = .box cs → ∃ cs', h' id = .box cs') ∧ (∀ cs, h id = .fbx cs → ∃ cs', h' id = .fbx cs') ∧ (∀ e es, h id = .hrow e es → ∃ es', h' id = .hrow e es'))) (hq : qop C o rho h K) : qop C o rho h' K := by
  cases hop : o.op <;> rw [hop] at hc <;> try (cases hc; done)
  case call c =>
    exfalso
    simp only [cls] at hc
    split at hc <;> first | cases hc | (split at hc <;> cases hc)
  case fieldAddr t x f =>
    simp only [qop, hop] at hq ⊢
    split at hq
    · split at hq
      · split at hq
        · exact hq
        · rename_i id o' hx
          split at hq
          · exact hq.elim
          · rename_i hne
            have ht : (h id).there := by cases h1 : h id <;> first | trivial | exact absurd h1 (by simpa using hne)
            have := (hh id ht).1
            split
            · rename_i h2; rw [h2] at this; exact this.elim
            · exact hq
        · rename_i id i o' hx
          split at hq
          · rename_i e es hr
            obtain ⟨es', h2⟩ := (hh id (by rw [hr]; trivial)).2.1 e es hr
            simp only [h2]
            exact hq
          · rename_i e es hr
            obtain ⟨es', h2⟩ := (hh id (by rw [hr]; trivial)).2.2.2.2 e es hr
            simp only [h2]
            exact hq
          · exact hq.elim
        · exact hq
      · exact hq
    · exact hq
  case nilCheck x =>
    simp only [qop, hop] at hq ⊢
    split at hq
    · exact hq
    · rename_i id off hx
      split at hq
      · rename_i cs hr
        obtain ⟨cs', h2⟩ := (hh id (by rw [hr]; trivial)).2.2.1 cs hr
        simp only [h2]
        exact hq
      · rename_i cs hr
        obtain ⟨cs', h2⟩ := (hh id (by rw [hr]; trivial)).2.2.2.1 cs hr
        simp only [h2]
        exact hq
      · exact hq.elim
    · rename_i id i off hx
      split at hq
      · rename_i e es hr
        obtain ⟨es', h2⟩ := (hh id (by rw [hr]; trivial)).2.1 e es hr
        simp only [h2]
        exact hq
      · rename_i e es hr
        obtain ⟨es', h2⟩ := (hh id (by rw [hr]; trivial)).2.2.2.2 e es hr
        simp only [h2]
        exact hq
      · exact hq.elim
    · exact hq

/-- the operand slots that an operation reads, the guard's among them -/
def looksB (ops : Array Oper) (o : Oper) (d : Tmp) : Bool := (o.looksAt ops).contains d
def pairOK (C : Ctx) (ap : Bool) (ops : Array Oper) (b : Array Nat) (i j : Nat) (oi oj : Oper) : Bool :=
  (match oi.dst, oj.dst with
    | some x, some y => !beqN x y
    | _, _ => true) &&
  (match oj.dst with
    | some d => !looksB ops oi d || (b.getD j 0).testBit i
    | none => true) &&
  (match oi.dst with
    | some d => !looksB ops oj d || (b.getD j 0).testBit i
    | none => true) &&
  (if cls C ap oj.op = 3 then (if cls C ap oi.op = 3 then (b.getD j 0).testBit i else true) else true)
/-- what looks at objects stands in order to all that writes -/
def ordB (ops : Array Oper) (b : Array Nat) (C : Ctx) (ap : Bool) (c i : Nat) : Bool := (List.range ops.size).all fun k => match ops[k]? with
    | none => true
    | some ok => !beqN (cls C ap ok.op) c || (if k < i then (b.getD i 0).testBit k else if i < k then (b.getD k 0).testBit i else true)
def isTh : Op → Bool
  | .fieldAddr _ _ _ => true
  | .nilCheck _ => true
  | _ => false
/-- what writes stands in order to all that looks at what is in objects -/
def ordT (ops : Array Oper) (b : Array Nat) (C : Ctx) (ap : Bool) (i : Nat) : Bool := (List.range ops.size).all fun k => match ops[k]? with
    | none => true
    | some ok => (isTh ok.op || !beqN (cls C ap ok.op) 2) || (if k < i then (b.getD i 0).testBit k else if i < k then (b.getD k 0).testBit i else true)
def lateOK (C : Ctx) (ap : Bool) (ops : Array Oper) (b : Array Nat) (i : Nat) (oi : Oper) : Bool :=
  match cls C ap oi.op with
  | 2 => ordB ops b C ap 3 i
  | 3 => ordT ops b C ap i
  | _ => true
def lateFl (C : Ctx) (ap : Bool) (ops : Array Oper) : List Bool :=
  let b := Region.before ops
  (List.range ops.size).map fun i => match ops[i]? with
    | some oi => lateOK C ap ops b i oi
    | none => true
theorem ord_spec {C : Ctx} {ap : Bool} {ops : Array Oper} {i : Nat} {oi : Oper} {c : Nat} (hi : ops[i]? = some oi) (h : ordB ops (Region.before ops) C ap c i = true) :
    ∀ (k : Nat) ok, ops[k]? = some ok → cls C ap ok.op = c → (k < i → ((Region.before ops).getD i 0).testBit k = true) ∧ (i < k → ((Region.before ops).getD k 0).testBit i = true) := by
  intro k ok hk hc3
  have hin := (Array.getElem?_eq_some_iff.1 hi).1
  have hkn := (Array.getElem?_eq_some_iff.1 hk).1
  have h2 := List.all_eq_true.1 h k (List.mem_range.2 hkn)
  simp only [hk, beqN_eq.2 hc3, Bool.not_true, Bool.false_or] at h2
  refine ⟨fun hlt => ?_, fun hlt => ?_⟩
  · rwa [if_pos hlt] at h2
  · rwa [if_neg (by omega), if_pos hlt] at h2
theorem late_get {C : Ctx} {ap : Bool} {ops : Array Oper} {i : Nat} {oi : Oper} (hi : ops[i]? = some oi) (h : (lateFl C ap ops)[i]? = some true) : lateOK C ap ops (Region.before ops) i oi = true := by
  have hin := (Array.getElem?_eq_some_iff.1 hi).1
  simpa only [lateFl, List.getElem?_map, List.getElem?_range hin, Option.map_some, hi, Option.some.injEq] using h
theorem late_spec {C : Ctx} {ap : Bool} {ops : Array Oper} {i : Nat} {oi : Oper} (hi : ops[i]? = some oi) (h : (lateFl C ap ops)[i]? = some true) (hc : cls C ap oi.op = 2) :
    ∀ (k : Nat) ok, ops[k]? = some ok → cls C ap ok.op = 3 → (k < i → ((Region.before ops).getD i 0).testBit k = true) ∧ (i < k → ((Region.before ops).getD k 0).testBit i = true) := by
  have h2 := late_get hi h
  simp only [lateOK, hc] at h2
  exact ord_spec hi h2
theorem late_spec3 {C : Ctx} {ap : Bool} {ops : Array Oper} {i : Nat} {oi : Oper} (hi : ops[i]? = some oi) (h : (lateFl C ap ops)[i]? = some true) (hc : cls C ap oi.op = 3) :
    ∀ (k : Nat) ok, ops[k]? = some ok → cls C ap ok.op = 2 → isTh ok.op = false → (k < i → ((Region.before ops).getD i 0).testBit k = true) ∧ (i < k → ((Region.before ops).getD k 0).testBit i = true) := by
  have h2 := late_get hi h
  simp only [lateOK, hc] at h2
  intro k ok hk hc3 hth
  have hin := (Array.getElem?_eq_some_iff.1 hi).1
  have hkn := (Array.getElem?_eq_some_iff.1 hk).1
  have h2 := List.all_eq_true.1 h2 k (List.mem_range.2 hkn)
  simp only [hk, hth, beqN_eq.2 hc3, Bool.not_true, Bool.false_or] at h2
  refine ⟨fun hlt => ?_, fun hlt => ?_⟩
  · rwa [if_pos hlt] at h2
  · rwa [if_neg (by omega), if_pos hlt] at h2
theorem fp_noTh {X : List Nat} {o : Oper} {rho : Operand → AV} (h : fpOnly X o rho = true) : isTh o.op = false := by
  unfold fpOnly fpLook fpMake at h
  cases e : o.op <;> rw [e] at h <;> first | rfl | cases h
theorem inX_mem {X : List Nat} {k : Nat} : inX X k = true ↔ k ∈ X := by
  induction X with
  | nil => simp [inX]
  | cons i r ih =>
    unfold inX
    split
    · rename_i h; simp [beqN_eq.1 h]
    · rename_i h
      have : i ≠ k := fun e => by rw [beqN_eq.2 e] at h; cases h
      rw [ih]
      rw [List.mem_cons]
      exact ⟨.inr, fun h => h.resolve_left fun e => this e.symm⟩
theorem noX_spec {X : List Nat} : ∀ {eff : List (Nat × AB)}, noX X eff = true → ∀ p ∈ eff, inX X p.1 = false := by
  intro eff
  induction eff with
  | nil => intro _ p hp; cases hp
  | cons x r ih =>
    intro h p hp
    unfold noX at h
    split at h
    · cases h
    · rename_i hx
      rcases List.mem_cons.1 hp with e | e
      · rw [e]; exact hx
      · exact ih h p e
theorem isPV_inv {a : AV} (h : isPV a = true) : ∃ x, a = .p x := by cases a <;> first | exact ⟨_, rfl⟩ | cases h
theorem afill_pv {h h' : Nat → AB} {fs : List (Nat × Nat × Bool)} {rho : Operand → AV} : ∀ (ps : List (Nat × Operand)) (cs : List PV) (K : List PV → List (Nat × AB) → Prop), (ps.all fun p => isPV (rho p.2)) = true → afill h fs rho ps cs K → afill h' fs rho ps cs K := by
  intro ps
  induction ps with
  | nil => intro cs K _ hq; exact hq
  | cons p ps ih =>
    intro cs K hp hq
    obtain ⟨i, x⟩ := p
    simp only [List.all_cons, Bool.and_eq_true] at hp
    obtain ⟨y, hy⟩ := isPV_inv hp.1
    simp only [afill] at hq ⊢
    split at hq
    · rw [hy] at hq ⊢
      simp only [toPV, toPV1] at hq ⊢
      revert hq
      cases pcells y with
      | none => exact id
      | some ys =>
        simp only
        cases eqB ys.length _ && leB _ cs.length with
        | false => exact id
        | true => intro hq; exact ih _ _ hp.2 hq
    · exact hq.elim
theorem bfill_pv {h h' : Nat → AB} {fs : List (Nat × Nat × Bool)} {rho : Operand → AV} : ∀ (ps : List (Nat × Operand)) (cs : List AV) (K : List AV → Prop), (ps.all fun p => isPV (rho p.2)) = true → bfill h fs rho ps cs K → bfill h' fs rho ps cs K := by
  intro ps
  induction ps with
  | nil => intro cs K _ hq; exact hq
  | cons p ps ih =>
    intro cs K hp hq
    obtain ⟨i, x⟩ := p
    simp only [List.all_cons, Bool.and_eq_true] at hp
    obtain ⟨y, hy⟩ := isPV_inv hp.1
    unfold bfill at hq ⊢
    split at hq
    · rename_i h1
      split at hq
      · rename_i h2
        have e : one1 h' (rho x) = one1 h (rho x) := by rw [hy]; cases y <;> rfl
        simp only [h1, e, h2]
        exact ih _ _ hp.2 hq
      · exact hq.elim
    · exact hq.elim
theorem afill_none {h : Nat → AB} {fs : List (Nat × Nat × Bool)} {rho : Operand → AV} {Q : Prop} : ∀ (ps : List (Nat × Operand)) (cs : List PV) (K : List PV → List (Nat × AB) → Prop), (∀ a b, K a b → Q) → afill h fs rho ps cs K → Q := by
  intro ps
  induction ps with
  | nil => intro cs K hk hq; exact hk _ _ hq
  | cons p ps ih =>
    intro cs K hk hq
    obtain ⟨i, x⟩ := p
    simp only [afill] at hq
    split at hq
    · obtain ⟨y, fz, h1, _⟩ := toPV_lin (fun _ => .inr rfl) hq
      split at h1
      · split at h1
        · exact ih _ _ (fun a b h => hk _ _ h) h1
        · exact h1.elim
      · exact h1.elim
    · exact hq.elim
theorem qop_pv {C : Ctx} {o : Oper} {rho : Operand → AV} {h h' : Nat → AB} {K : KK} (hp : pvOnly o rho = true) (hq : qop C o rho h K) : qop C o rho h' K := by
  unfold pvOnly at hp
  split at hp
  · rename_i t a hop
    obtain ⟨x, hx⟩ := isPV_inv hp
    simp only [qop, hop] at hq ⊢
    rw [hx] at hq ⊢
    cases x <;> exact hq
  · rename_i t x ix hop
    obtain ⟨y, hx⟩ := isPV_inv hp
    simp only [qop, hop] at hq ⊢
    rw [hx] at hq ⊢
    cases y <;> exact hq
  · rename_i t x lo hi hop
    obtain ⟨y, hx⟩ := isPV_inv hp
    simp only [qop, hop] at hq ⊢
    rw [hx] at hq ⊢
    have hq : qslice C rho h t x lo hi K := hq
    show qslice C rho h' t x lo hi K
    simp only [qslice] at hq ⊢
    rw [hx] at hq ⊢
    exact hq
  · rename_i t ps hop
    simp only [qop, hop] at hq ⊢
    split at hq
    · split at hq
      · exact afill_pv _ _ _ hp hq
      · exact bfill_pv _ _ _ hp hq
    · exact hq.elim
  · rename_i c hop
    split at hp
    · rename_i x hc ha
      obtain ⟨y, hx⟩ := isPV_inv hp
      simp only [qop, hop, hc, ha, calleeK, calleeB] at hq ⊢
      split at hq
      · rename_i ha' ht
        simp only [ha, ht] at *
        injection ha' with ha' _
        subst ha'
        rw [hx] at hq ⊢
        cases y <;> exact hq
      · exact hq.elim
    · cases hp
  · rename_i t x f hop
    obtain ⟨y, hx⟩ := isPV_inv hp
    simp only [qop, hop] at hq ⊢
    rw [hx] at hq ⊢
    cases y <;> exact hq
  · rename_i x hop
    obtain ⟨y, hx⟩ := isPV_inv hp
    simp only [qop, hop] at hq ⊢
    rw [hx] at hq ⊢
    cases y <;> exact hq
  · cases hp
theorem qop_pv_new {C : Ctx} {o : Oper} {rho : Operand → AV} {h : Nat → AB} {v : AV} {e : List (Nat × AB)} {n : Option AB} (hp : pvOnly o rho = true) (hq : qop C o rho h fun v' e' n' => v' = v ∧ e' = e ∧ n' = n) : n = none := by
  have aux : ∀ (x : AV) (K : List (List PV) → Prop) (Q : Prop), (∀ es, K es → Q) → aslice h x K → Q := by
    intro x K Q hk hq
    unfold aslice at hq
    repeat' (split at hq)
    all_goals first | exact hq.elim | exact hk _ hq
  unfold pvOnly at hp
  split at hp
  · rename_i t a hop
    obtain ⟨x, hx⟩ := isPV_inv hp
    simp only [qop, hop] at hq
    split at hq
    · exact hq.elim
    · rw [hx] at hq
      split at hq
      · split at hq
        · split at hq
          · exact hq.2.2.symm
          · exact hq.elim
        · split at hq
          · exact hq.2.2.symm
          · exact hq.elim
      · rename_i h1; cases h1
      · rename_i h1; cases h1
      · exact hq.elim
  · rename_i t x ix hop
    obtain ⟨y, hx⟩ := isPV_inv hp
    simp only [qop, hop] at hq
    split at hq
    · split at hq
      · exact hq.elim
      · rw [hx] at hq
        split at hq
        · obtain ⟨r, _, hq⟩ := hq
          split at hq
          · exact hq.2.2.symm
          · exact hq.elim
        · rename_i h1; cases h1
        · exact hq.elim
    · exact hq.elim
  · rename_i t x lo hi hop
    obtain ⟨y, hx⟩ := isPV_inv hp
    simp only [qop, hop] at hq
    rw [hx] at hq
    have hq : qslice C rho h t x lo hi _ := hq
    simp only [qslice] at hq
    split at hq
    · rw [hx] at hq
      split at hq
      · split at hq
        · exact hq.2.2.2.symm
        · exact hq.elim
      · exact hq.elim
    · split at hq
      · exact hq.elim
      · obtain ⟨z, fz, hq, _⟩ := toPV_lin (fun _ => .inr rfl) hq
        split at hq
        · split at hq
          · exact hq.2.2.2.symm
          · exact hq.elim
        · exact hq.elim
    · exact hq.elim
  · rename_i t ps hop
    simp only [qop, hop] at hq
    split at hq
    · split at hq
      · exact afill_none _ _ _ (fun _ _ h => h.2.2.symm) hq
      · obtain ⟨z, h1, _⟩ := bfill_lin (fun _ => .inr rfl) hq
        exact h1.2.2.symm
    · exact hq.elim
  · rename_i c hop
    split at hp
    · rename_i x hc ha
      simp only [qop, hop, hc, ha, calleeK, calleeB] at hq
      split at hq
      · split at hq
        · split at hq
          · exact hq.2.2.symm
          · exact hq.elim
        · split at hq
          · exact hq.2.2.symm
          · exact aux _ _ _ (fun _ h => h.2.2.symm) hq
        · split at hq
          · split at hq
            · exact hq.2.2.symm
            · exact hq.elim
          · exact hq.elim
        · exact hq.elim
      · exact hq.elim
    · cases hp
  · rename_i t x f hop
    obtain ⟨y, hx⟩ := isPV_inv hp
    simp only [qop, hop] at hq
    rw [hx] at hq
    repeat' (split at hq)
    all_goals first | exact hq.elim | exact hq.2.2.symm | (rename_i h1; cases h1)
  · rename_i x hop
    obtain ⟨y, hx⟩ := isPV_inv hp
    simp only [qop, hop] at hq
    rw [hx] at hq
    repeat' (split at hq)
    all_goals first | exact hq.elim | exact hq.2.2.symm | (rename_i h1; cases h1)
  · cases hp
/-- what looks only at certain objects -/
theorem qop_fpL {C : Ctx} {o : Oper} {X : List Nat} {rho : Operand → AV} {h h' : Nat → AB} {K : KK} (hh : ∀ id, inX X id = true → h id = .none ∨ h' id = h id) (hp : fpLook X o rho = true) (hq : qop C o rho h K) : qop C o rho h' K := by
  have hx : ∀ {a : AV}, fpX X a = true → (∃ id, a = .ow id ∧ (h id = .none ∨ h' id = h id)) ∨ (∃ id i off, a = .rp id i off ∧ (h id = .none ∨ h' id = h id)) ∨ ∃ id off, a = .bx id off ∧ (h id = .none ∨ h' id = h id) := by
    intro a ha
    cases a with
    | ow id => exact .inl ⟨id, rfl, hh id ha⟩
    | rp id i off => exact .inr (.inl ⟨id, i, off, rfl, hh id ha⟩)
    | bx id off => exact .inr (.inr ⟨id, off, rfl, hh id ha⟩)
    | _ => cases ha
  unfold fpLook at hp
  split at hp
  · rename_i t a hop
    simp only [qop, hop] at hq ⊢
    cases hT : C.T t with
    | none => simp only [hT] at hq
    | some ti =>
      simp only [hT] at hq ⊢
      rcases hx hp with ⟨id, e, e2⟩ | ⟨id, i, off, e, e2⟩ | ⟨id, off, e, e2⟩ <;> simp only [e] at hq ⊢ <;> rcases e2 with e2 | e2 <;> first | (simp only [e2] at hq; done) | (rw [e2]; exact hq)
  · rename_i t x ix hop
    simp only [qop, hop] at hq ⊢
    split at hq
    case h_2 => exact hq.elim
    rename_i e size bytes zero eq k i hT hix
    cases hTe : C.T e with
    | none => simp only [hTe] at hq
    | some te =>
      simp only [hTe] at hq ⊢
      rcases hx hp with ⟨id, e, e2⟩ | ⟨id, i, off, e, e2⟩ | ⟨id, off, e, e2⟩ <;> simp only [e] at hq ⊢ <;> rcases e2 with e2 | e2 <;> first | (simp only [e2] at hq; done) | (rw [e2]; exact hq)
  · rename_i t x ix ck hop
    simp only [qop, hop] at hq ⊢
    rcases hx hp with ⟨id, e, e2⟩ | ⟨id, i, off, e, e2⟩ | ⟨id, off, e, e2⟩ <;> simp only [e] at hq ⊢
    · rcases e2 with e2 | e2
      · simp only [e2] at hq
        repeat' (split at hq)
        all_goals exact hq.elim
      · rw [e2]; exact hq
    · exact hq
    · exact hq
  · rename_i c hop
    split at hp
    · rename_i x hc ha
      simp only [qop, hop, hc, ha, calleeK, calleeB] at hq ⊢
      split at hq
      case h_2 => exact hq.elim
      rename_i x' t ha' ht
      injection ha' with ha' _
      subst ha'
      split at hq
      · rcases hx hp with ⟨id, e, e2⟩ | ⟨id, i, off, e, e2⟩ | ⟨id, off, e, e2⟩ <;> simp only [e] at hq
      · rename_i hT
        rcases hx hp with ⟨id, e, e2⟩ | ⟨id, i, off, e, e2⟩ | ⟨id, off, e, e2⟩ <;> simp only [hT, e, hlen, aslice] at hq ⊢
        rcases e2 with e2 | e2
        · simp only [e2] at hq
        · rw [e2]; exact hq
      · rename_i hT
        rcases hx hp with ⟨id, e, e2⟩ | ⟨id, i, off, e, e2⟩ | ⟨id, off, e, e2⟩ <;> simp only [hT, e] at hq ⊢
        rcases e2 with e2 | e2
        · simp only [e2] at hq
        · rw [e2]; exact hq
      · exact hq.elim
    · cases hp
  · cases hp
theorem qop_fpL_new {C : Ctx} {o : Oper} {X : List Nat} {rho : Operand → AV} {h : Nat → AB} {v : AV} {e : List (Nat × AB)} {n : Option AB} (hp : fpLook X o rho = true) (hq : qop C o rho h fun v' e' n' => v' = v ∧ e' = e ∧ n' = n) : n = none := by
  have aux : ∀ (x : AV) (K : List (List PV) → Prop) (Q : Prop), (∀ es, K es → Q) → aslice h x K → Q := by
    intro x K Q hk hq
    unfold aslice at hq
    repeat' (split at hq)
    all_goals first | exact hq.elim | exact hk _ hq
  unfold fpLook at hp
  split at hp
  · rename_i hop
    simp only [qop, hop] at hq
    repeat' (split at hq)
    all_goals first | exact hq.elim | exact hq.2.2.symm | (exfalso; obtain ⟨r, hr, hq⟩ := hq; exact hq) | (rcases hq with ⟨r, hr, hq⟩; first | exact hq.2.2.symm | (split at hq <;> first | exact hq.elim | exact hq.2.2.symm))
  · rename_i hop
    simp only [qop, hop] at hq
    repeat' (split at hq)
    all_goals first | exact hq.elim | exact hq.2.2.symm | exact hq.2.2.2.symm | (obtain ⟨r, hr, hq⟩ := hq; split at hq <;> first | exact hq.elim | exact hq.2.2.symm)
  · rename_i hop
    simp only [qop, hop] at hq
    repeat' (split at hq)
    all_goals first | exact hq.elim | (obtain ⟨r, hr, hq⟩ := hq; exact hq.2.2.symm) | (obtain ⟨r, hr, hq⟩ := hq; split at hq <;> exact hq.2.2.symm)
  · rename_i c hop
    split at hp
    · rename_i x hc ha
      simp only [qop, hop, hc, ha, calleeK, calleeB] at hq
      split at hq
      · split at hq
        · split at hq
          · exact hq.2.2.symm
          · exact hq.elim
        · split at hq
          · exact hq.2.2.symm
          · exact aux _ _ _ (fun _ h => h.2.2.symm) hq
        · split at hq
          · split at hq
            · exact hq.2.2.symm
            · exact hq.elim
          · exact hq.elim
        · exact hq.elim
      · exact hq.elim
    · cases hp
  · cases hp
theorem qop_fp {C : Ctx} {o : Oper} {X : List Nat} {rho : Operand → AV} {h h' : Nat → AB} {K : KK} (hh : ∀ id, inX X id = true → h id = .none ∨ h' id = h id) (hp : fpOnly X o rho = true) (hq : qop C o rho h K) : qop C o rho h' K := by
  unfold fpOnly at hp
  rcases (Bool.or_eq_true _ _ ▸ hp : fpLook X o rho = true ∨ fpMake X o rho = true) with hp | hp
  · exact qop_fpL hh hp hq
  · unfold fpMake at hp
    split at hp
    · rename_i t n c hop
      simp only [qop, hop] at hq ⊢
      exact hq
    · rename_i t n ps hop
      simp only [Bool.and_eq_true] at hp
      have hall : ∀ p ∈ ps.toList, isPV (rho p.2) = true := List.all_eq_true.1 hp.2
      have aux : ∀ (b : Bool) (size : Nat) (l : List (Nat × Operand)) (es : List (List PV)) (K : List (List PV) → List (Nat × AB) → Prop), (∀ p ∈ l, isPV (rho p.2) = true) → aelems b h size rho l es K → aelems b h' size rho l es K := by
        intro b size l
        induction l with
        | nil => intro es K _ h; exact h
        | cons p r ih =>
          intro es K hl hk
          obtain ⟨i, x⟩ := p
          obtain ⟨y, hy⟩ := isPV_inv (hl _ List.mem_cons_self)
          simp only at hy
          simp only [aelems, hy] at hk ⊢
          have e : ∀ (h : Nat → AB) (Q : PV → List (Nat × AB) → Prop), toPVn b h (.p y) Q = Q y [] := fun h Q => by cases b <;> rfl
          rw [e] at hk ⊢
          revert hk
          split
          · intro hk
            revert hk
            split
            · intro hk
              exact ih _ _ (fun p hp => hl p (List.mem_cons_of_mem _ hp)) hk
            · exact fun hk => hk
          · exact fun hk => hk
      simp only [qop, hop] at hq ⊢
      revert hq
      split
      · split
        · split
          · split
            · exact aux _ _ _ _ _ hall
            · exact aux _ _ _ _ _ hall
          · exact fun hq => hq
        · exact fun hq => hq
      · exact fun hq => hq
    · cases hp
theorem qop_fp_new {C : Ctx} {o : Oper} {X : List Nat} {rho : Operand → AV} {h : Nat → AB} {v : AV} {e : List (Nat × AB)} {n : Option AB} (hp : fpOnly X o rho = true) (hq : qop C o rho h fun v' e' n' => v' = v ∧ e' = e ∧ n' = n) : n = none ∨ inX X (o.dst.getD 0) = true := by
  unfold fpOnly at hp
  rcases (Bool.or_eq_true _ _ ▸ hp : fpLook X o rho = true ∨ fpMake X o rho = true) with hp | hp
  · exact .inl (qop_fpL_new hp hq)
  · unfold fpMake at hp
    split at hp
    · exact .inr hp
    · simp only [Bool.and_eq_true] at hp
      exact .inr hp.1
    · cases hp
theorem qop_th {C : Ctx} {o : Oper} {X : List Nat} {rho : Operand → AV} {h h' : Nat → AB} {K : KK} (hh : ∀ id, inX X (id + 1000000) = true → h id ≠ .none → (kc (h' id) = kc (h id) ∧ kc (h id) ≠ 0) ∨ h' id = h id) (hp : thOnly X o rho = true) (hq : qop C o rho h K) : qop C o rho h' K := by
  have hx : ∀ {a : AV}, thV X a = true → (∃ id off, a = .bx id off ∧ inX X (id + 1000000) = true) ∨ ∃ id i off, a = .rp id i off ∧ inX X (id + 1000000) = true := fun {a} ha => by
    cases a with
    | bx id off => exact .inl ⟨id, off, rfl, ha⟩
    | rp id i off => exact .inr ⟨id, i, off, rfl, ha⟩
    | _ => cases ha
  unfold thOnly at hp
  split at hp
  · rename_i t x f hop
    simp only [qop, hop] at hq ⊢
    split at hq
    case h_2 => exact hq.elim
    rename_i hT
    split at hq
    case h_2 => exact hq.elim
    rcases hx hp with ⟨id, off, e, hi⟩ | ⟨id, i, off, e, hi⟩ <;> simp only [e] at hq ⊢
    · have hne : h id ≠ .none := fun e2 => by rw [e2] at hq; exact hq
      rcases hh id hi hne with ⟨h1, h2⟩ | h2
      · cases e3 : h id <;> rw [e3] at h1 h2 hq <;> first | exact hq.elim | exact absurd rfl h2 | (cases e4 : h' id <;> rw [e4] at h1 <;> first | exact hq | (exfalso; revert h1; decide) | cases h1)
      · rw [h2]; exact hq
    · have hne : h id ≠ .none := fun e2 => by rw [e2] at hq; exact hq
      rcases hh id hi hne with ⟨h1, h2⟩ | h2
      · cases e3 : h id <;> rw [e3] at h1 h2 hq <;> first | exact hq.elim | exact absurd rfl h2 | (cases e4 : h' id <;> rw [e4] at h1 <;> first | exact hq | (exfalso; revert h1; decide) | cases h1)
      · rw [h2]; exact hq
  · rename_i x hop
    simp only [qop, hop] at hq ⊢
    rcases hx hp with ⟨id, off, e, hi⟩ | ⟨id, i, off, e, hi⟩ <;> simp only [e] at hq ⊢
    · have hne : h id ≠ .none := fun e2 => by rw [e2] at hq; exact hq
      rcases hh id hi hne with ⟨h1, h2⟩ | h2
      · cases e3 : h id <;> rw [e3] at h1 h2 hq <;> first | exact hq.elim | exact absurd rfl h2 | (cases e4 : h' id <;> rw [e4] at h1 <;> first | exact hq | (exfalso; revert h1; decide) | cases h1)
      · rw [h2]; exact hq
    · have hne : h id ≠ .none := fun e2 => by rw [e2] at hq; exact hq
      rcases hh id hi hne with ⟨h1, h2⟩ | h2
      · cases e3 : h id <;> rw [e3] at h1 h2 hq <;> first | exact hq.elim | exact absurd rfl h2 | (cases e4 : h' id <;> rw [e4] at h1 <;> first | exact hq | (exfalso; revert h1; decide) | cases h1)
      · rw [h2]; exact hq
  · cases hp
theorem qop_th_new {C : Ctx} {o : Oper} {X : List Nat} {rho : Operand → AV} {h : Nat → AB} {v : AV} {e : List (Nat × AB)} {n : Option AB} (hp : thOnly X o rho = true) (hq : qop C o rho h fun v' e' n' => v' = v ∧ e' = e ∧ n' = n) : n = none := by
  unfold thOnly at hp
  split at hp
  · rename_i hop
    simp only [qop, hop] at hq
    repeat' (split at hq)
    all_goals first | exact hq.elim | exact hq.2.2.symm
  · rename_i hop
    simp only [qop, hop] at hq
    repeat' (split at hq)
    all_goals first | exact hq.elim | exact hq.2.2.symm
  · cases hp
def selfOK (ops : Array Oper) (o : Oper) : Bool := match o.dst with
  | some d => !looksB ops o d
  | none => true
def certOK (ops : Array Oper) (b : Array Nat) : Bool :=
  (List.range ops.size).all fun j => (match ops[j]? with
    | some oj => (oj.after.toList.all fun e => !Region.binds .any e || Nat.blt e.on j) && (List.range j).all fun i => !(b.getD j 0).testBit i || (oj.after.toList.any fun e => Region.binds .any e && (beqN e.on i || (Nat.blt i e.on && (b.getD e.on 0).testBit i)))
    | none => true)
def newOK (o : Oper) : Bool := match mayNew o.op, o.dst with
  | true, none => match o.op with
    | .call _ => true
    | _ => false
  | _, _ => true
def drawOK (C : Ctx) (ops : Array Oper) : Bool :=
  let ap := ops.toList.any fun o => isKill C o.op
  let b := Region.before ops
  certOK ops b && (List.range ops.size).all fun j => match ops[j]? with
    | some oj => selfOK ops oj && (List.range j).all fun i => match ops[i]? with
      | some oi => pairOK C ap ops b i j oi oj
      | none => true
    | none => true

/-- what is run before: closed under the edges -/
def Closed (ops : Array Oper) (E : Nat → Bool) : Prop := ∀ (j : Nat) oj, ops[j]? = some oj → E j = true → ∀ e ∈ oj.after, Region.binds .any e = true → E e.on = true
theorem cert_spec {ops : Array Oper} {b : Array Nat} (h : certOK ops b = true) : (∀ (j : Nat) oj, ops[j]? = some oj → ∀ e ∈ oj.after, Region.binds .any e = true → e.on < j) ∧
    ∀ (E : Nat → Bool), Closed ops E → ∀ (j : Nat) oj, ops[j]? = some oj → (∀ e ∈ oj.after, Region.binds .any e = true → E e.on = true) → ∀ i, i < j → (b.getD j 0).testBit i = true → E i = true := by
  have hj : ∀ (j : Nat) oj, ops[j]? = some oj → (∀ e ∈ oj.after, Region.binds .any e = true → e.on < j) ∧ ∀ i, i < j → (b.getD j 0).testBit i = true → ∃ e ∈ oj.after, Region.binds .any e = true ∧ (e.on = i ∨ (i < e.on ∧ (b.getD e.on 0).testBit i = true)) := by
    intro j oj hoj
    have h1 := List.all_eq_true.1 h j (List.mem_range.2 (Array.getElem?_eq_some_iff.1 hoj).1)
    simp only [hoj, Bool.and_eq_true] at h1
    refine ⟨fun e he hb => ?_, fun i hi ht => ?_⟩
    · have h2 := List.all_eq_true.1 h1.1 e (Array.mem_toList_iff.2 he)
      rw [hb] at h2
      simp only [Bool.not_true, Bool.false_or] at h2
      exact Nat.le_of_ble_eq_true h2
    · have h2 := List.all_eq_true.1 h1.2 i (List.mem_range.2 hi)
      rw [ht] at h2
      simp only [Bool.not_true, Bool.false_or] at h2
      obtain ⟨e, he, h3⟩ := List.any_eq_true.1 h2
      simp only [Bool.and_eq_true, Bool.or_eq_true] at h3
      exact ⟨e, Array.mem_toList_iff.1 he, h3.1, h3.2.imp beqN_eq.1 fun h => ⟨Nat.le_of_ble_eq_true h.1, h.2⟩⟩
  refine ⟨fun j oj hoj => (hj j oj hoj).1, fun E hE j => ?_⟩
  induction j using Nat.strongRecOn with
  | _ j ih =>
    intro oj hoj hall i hi ht
    obtain ⟨e, he, hb, h2⟩ := (hj j oj hoj).2 i hi ht
    rcases h2 with h2 | h2
    · rw [← h2]; exact hall e he hb
    · have hlt := (hj j oj hoj).1 e he hb
      have hEe := hall e he hb
      cases hoe : ops[e.on]? with
      | none =>
        have : e.on < ops.size := Nat.lt_trans hlt (Array.getElem?_eq_some_iff.1 hoj).1
        rw [Array.getElem?_eq_getElem this] at hoe
        cases hoe
      | some oe => exact ih e.on hlt oe hoe (fun e' he' hb' => hE e.on oe hoe hEe e' he' hb') i h2.1 h2.2

theorem afill_congr {h : Nat → AB} {fs : List (Nat × Nat × Bool)} {rho rho' : Operand → AV} : ∀ {ps : List (Nat × Operand)} {cs : List PV}, (∀ p ∈ ps, rho p.2 = rho' p.2) → afill h fs rho ps cs = afill h fs rho' ps cs := by
  intro ps
  induction ps with
  | nil => intro cs _; rfl
  | cons p ps ih =>
    intro cs hp
    obtain ⟨i, x⟩ := p
    funext K
    have e := hp (i, x) (by simp)
    simp only at e
    simp only [afill, e]
    have : ∀ cs, afill h fs rho ps cs = afill h fs rho' ps cs := fun cs => ih (fun p hm => hp p (by simp [hm]))
    simp only [this]
theorem bfill_congr {h : Nat → AB} {fs : List (Nat × Nat × Bool)} {rho rho' : Operand → AV} : ∀ {ps : List (Nat × Operand)} {cs : List AV}, (∀ p ∈ ps, rho p.2 = rho' p.2) → bfill h fs rho ps cs = bfill h fs rho' ps cs := by
  intro ps
  induction ps with
  | nil => intro cs _; rfl
  | cons p ps ih =>
    intro cs hp
    obtain ⟨i, x⟩ := p
    funext K
    have e := hp (i, x) (by simp)
    simp only at e
    simp only [bfill, e]
    have : ∀ cs, bfill h fs rho ps cs = bfill h fs rho' ps cs := fun cs => ih (fun p hm => hp p (by simp [hm]))
    simp only [this]
theorem aelems_congr {b : Bool} {h : Nat → AB} {size : Nat} {rho rho' : Operand → AV} : ∀ {ps : List (Nat × Operand)} {cs : List (List PV)}, (∀ p ∈ ps, rho p.2 = rho' p.2) → aelems b h size rho ps cs = aelems b h size rho' ps cs := by
  intro ps
  induction ps with
  | nil => intro cs _; rfl
  | cons p ps ih =>
    intro cs hp
    obtain ⟨i, x⟩ := p
    funext K
    have e := hp (i, x) (by simp)
    simp only at e
    simp only [aelems, e]
    have : ∀ cs, aelems b h size rho ps cs = aelems b h size rho' ps cs := fun cs => ih (fun p hm => hp p (by simp [hm]))
    simp only [this]
theorem qop_congr {C : Ctx} {o : Oper} {rho rho' : Operand → AV} {h : Nat → AB} {K : KK} (hx : ∀ x ∈ o.op.operands, rho x = rho' x) (hq : qop C o rho h K) : qop C o rho' h K := by
  cases hop : o.op <;> simp only [hop, Op.operands] at hx <;> simp only [qop, hop] at hq ⊢ <;> try exact hq
  case move x => rw [← hx x (by simp)]; exact hq
  case assign x => rw [← hx x (by simp)]; exact hq
  case pick c a b => rw [← hx c (by simp), ← hx a (by simp), ← hx b (by simp)]; exact hq
  case box e x => rw [← hx x (by simp)]; exact hq
  case build t ps =>
    split at hq
    · rename_i fs _ _ _ _ hT
      split at hq
      · rename_i h1
        rw [← afill_congr (rho := rho) (rho' := rho') (fun p hp => hx p.2 (by simp; exact ⟨p.1, Array.mem_toList_iff.1 hp⟩))]
        exact hq
      · rename_i h1
        rw [← bfill_congr (rho := rho) (rho' := rho') (fun p hp => hx p.2 (by simp; exact ⟨p.1, Array.mem_toList_iff.1 hp⟩))]
        exact hq
    · exact hq
  case buildSlice t n ps =>
    split at hq
    · split at hq
      · split at hq
        · split at hq
          · rw [← aelems_congr (rho := rho) (rho' := rho') (fun p hp => hx p.2 (by simp; exact ⟨p.1, Array.mem_toList_iff.1 hp⟩))]
            exact hq
          · rw [← aelems_congr (rho := rho) (rho' := rho') (fun p hp => hx p.2 (by simp; exact ⟨p.1, Array.mem_toList_iff.1 hp⟩))]
            exact hq
        · exact hq
      · exact hq
    · exact hq
  case load t x => rw [← hx x (by simp)]; exact hq
  case store t x y => rw [← hx x (by simp), ← hx y (by simp)]; exact hq
  case nilCheck x => rw [← hx x (by simp)]; exact hq
  case binOp op t x y t' => rw [← hx x (by simp), ← hx y (by simp)]; exact hq
  case unOp op t x => rw [← hx x (by simp)]; exact hq
  case convert s d x => rw [← hx x (by simp)]; exact hq
  case makeFunc fn first cap =>
    cases fn with
    | func f =>
      have : cap.toList.map rho = cap.toList.map rho' := List.map_congr_left fun x hm => hx x (by simp [Array.mem_toList_iff.1 hm])
      simp only [this] at hq
      exact hq
    | _ => exact hq
  case makeSlice t x y => rw [← hx x (by simp), ← hx y (by simp)]; exact hq
  case slice t x lo hi mx =>
    cases mx with
    | some m => exact hq
    | none =>
      have e0 := hx x (by simp)
      have e1 : ∀ y, lo = some y → rho y = rho' y := fun y hy => hx y (by simp [hy])
      have e2 : ∀ y, hi = some y → rho y = rho' y := fun y hy => hx y (by simp [hy])
      have hs : qslice C rho h t x lo hi K = qslice C rho' h t x lo hi K := by
        unfold qslice
        rw [e0]
        cases lo <;> cases hi <;> simp only [Option.some.injEq, forall_eq', forall_eq, reduceCtorEq, false_implies, implies_true] at e1 e2 <;> simp only [e1, e2]
      have hv : ∀ id e' es, qview C rho t lo hi id e' es K = qview C rho' t lo hi id e' es K := fun id e' es => by
        unfold qview
        cases lo <;> cases hi <;> simp only [Option.some.injEq, forall_eq', forall_eq, reduceCtorEq, false_implies, implies_true] at e1 e2 <;> simp only [e1, e2]
      simp only at hq ⊢
      simp only [← e0, ← hs, ← hv]
      exact hq
  case makeMap t r => cases r <;> exact hq
  case lookup t x i ck => rw [← hx x (by simp), ← hx i (by simp)]; exact hq
  case mapUpdate t x i y => rw [← hx x (by simp), ← hx i (by simp), ← hx y (by simp)]; exact hq
  case fieldAddr t x f => rw [← hx x (by simp)]; exact hq
  case field t x f => rw [← hx x (by simp)]; exact hq
  case indexAddr t x y => rw [← hx x (by simp), ← hx y (by simp)]; exact hq
  case index t x y => rw [← hx x (by simp), ← hx y (by simp)]; exact hq
  case extract x i => rw [← hx x (by simp)]; exact hq
  case call c =>
    have hm : c.args.toList.map rho = c.args.toList.map rho' := List.map_congr_left fun x hmm => hx x (by simp [Call.operands, Array.mem_toList_iff.1 hmm])
    have ha : ∀ x ∈ c.args.toList, rho x = rho' x := fun x hmm => hx x (by simp [Call.operands, Array.mem_toList_iff.1 hmm])
    split at hq
    · split at hq
      · rename_i h1 h2; simp only [h1, h2] at *; rw [← ha _ (by simp)]; exact hq
      · exact hq
    · split at hq
      · rename_i h1 h2; simp only [h1, h2] at *; rw [← ha _ (by simp)]; exact hq
      · exact hq
    · split at hq
      · rename_i h1; simp only [h1] at *; rw [← ha _ (by simp), ← ha _ (by simp)]; exact hq
      · exact hq
    · split at hq
      · rename_i h1; simp only [h1] at *; rw [← ha _ (by simp), ← ha _ (by simp)]; exact hq
      · rename_i h1; simp only [h1] at *; rw [← ha _ (by simp), ← ha _ (by simp), ← ha _ (by simp)]; exact hq
      · rename_i h1; simp only [h1] at *; rw [← ha _ (by simp), ← ha _ (by simp), ← ha _ (by simp), ← ha _ (by simp), ← ha _ (by simp)]; exact hq
      · exact hq
    · split at hq
      · rename_i h1 h2; simp only [h1, h2] at *; rw [← ha _ (by simp), ← ha _ (by simp)]; exact hq
      · exact hq
    · rename_i g hc
      have hc' : c.callee = .value g := by
        cases hcc : c.callee with
        | value g' => rw [hcc] at hc; simp only [calleeK] at hc; injection hc with hc; rw [hc]
        | invoke r m => rw [hcc] at hc; cases hc
        | builtin b => rw [hcc] at hc; cases b <;> cases hc
      have hg := hx g (by simp [Call.operands, hc'])
      rw [← hg, ← hm]
      exact hq
    · exact hq
end Go.AM
namespace Go.AM
open Go.RowKit

theorem app_point {h h' : Nat → AB} {id : Nat} : ∀ (fe : List (Nat × AB)) , h id = h' id → app h fe id = app h' fe id := by
  intro fe
  induction fe generalizing h h' with
  | nil => intro e; exact e
  | cons x fe ih =>
    intro e
    refine ih ?_
    by_cases hx : id = x.1
    · rw [hx, upd_same, upd_same]
    · rw [upd_ne _ _ hx, upd_ne _ _ hx]; exact e
theorem effThere_spec {h : Nat → AB} : ∀ {fe : List (Nat × AB)}, effThere h fe = true → ∀ p ∈ fe, (h p.1).there := by
  intro fe
  induction fe with
  | nil => intro _ p hp; cases hp
  | cons x fe ih =>
    intro hh p hp
    simp only [effThere, Bool.and_eq_true] at hh
    rcases List.mem_cons.1 hp with e | e
    · subst e
      have := hh.1
      cases hx : h p.1 <;> rw [hx] at this <;> first | trivial | (simp [thereB] at this)
    · exact ih hh.2 p e

/-- the heap when the operations of E have been run -/
def Hn (B : Nat → AB) (r : Nat → RR) (E : Nat → Bool) : Nat → Nat → AB
  | 0 => B
  | i + 1 => match E i with
    | true => app (Hn B r E i) (r i).eff
    | false => Hn B r E i
theorem Hn_eq {B : Nat → AB} {r : Nat → RR} {E : Nat → Bool} (i : Nat) : ∀ (m : Nat), (∀ k, k < m → (E k = true ↔ k < i) ∨ (r k).eff = []) → i ≤ m → Hn B r E m = Hn B r (fun _ => true) i := by
  have low : ∀ m, m ≤ i → (∀ k, k < m → (E k = true ↔ k < i) ∨ (r k).eff = []) → Hn B r E m = Hn B r (fun _ => true) m := by
    intro m
    induction m with
    | zero => intro _ _; rfl
    | succ m ih =>
      intro hm hk
      have h1 := ih (by omega) (fun k hk' => hk k (by omega))
      simp only [Hn]
      rw [h1]
      rcases hk m (by omega) with h | h
      · rw [h.2 (by omega)]
      · rw [h]
        cases E m <;> rfl
  intro m
  induction m with
  | zero => intro _ hi; have : i = 0 := by omega
            subst this; rfl
  | succ m ih =>
    intro hk hi
    by_cases e : i = m + 1
    · subst e; exact low (m + 1) (Nat.le_refl _) hk
    · have h1 := ih (fun k hk' => hk k (by omega)) (by omega)
      rw [← h1]
      simp only [Hn]
      rcases hk m (by omega) with h | h
      · have : E m = false := by rw [Bool.eq_false_iff]; intro ht; have := h.1 ht; omega
        rw [this]
      · rw [h]
        cases E m <;> rfl
theorem Hn_set {B : Nat → AB} {r : Nat → RR} {E : Nat → Bool} {i : Nat} (hi : E i = false) : ∀ (m : Nat), (∀ k, i < k → k < m → E k = true → (r k).eff = []) → i < m → Hn B r (fun k => E k || beqN k i) m = app (Hn B r E m) (r i).eff := by
  have low : ∀ m, m ≤ i → Hn B r (fun k => E k || beqN k i) m = Hn B r E m := by
    intro m
    induction m with
    | zero => intro _; rfl
    | succ m ih =>
      intro hm
      have : beqN m i = false := by rw [Bool.eq_false_iff]; intro h; have := beqN_eq.1 h; omega
      simp only [Hn, this, Bool.or_false]
      rw [ih (by omega)]
  intro m
  induction m with
  | zero => intro _ h; omega
  | succ m ih =>
    intro hk hlt
    by_cases e : m = i
    · subst e
      simp only [Hn, hi, beqN_eq.2 rfl, Bool.or_true]
      rw [low m (Nat.le_refl _)]
    · have h1 := ih (fun k h1 h2 => hk k h1 (by omega)) (by omega)
      have : beqN m i = false := by rw [Bool.eq_false_iff]; intro h; exact e (beqN_eq.1 h)
      simp only [Hn, this, Bool.or_false]
      rw [h1]
      cases hE : E m with
      | false => rfl
      | true => rw [hk m (by omega) (by omega) hE]; rfl

theorem cls_le (C : Ctx) (ap : Bool) (op : Op) : cls C ap op ≤ 3 := by
  unfold cls
  split <;> first | decide | skip
  all_goals (cases ap <;> first | decide | skip)
  all_goals (split <;> first | decide | skip)
  all_goals (split <;> decide)
theorem cls_true (C : Ctx) (op : Op) : cls C true op ≠ 1 := by
  unfold cls
  split <;> first | decide | skip
  all_goals (split <;> first | decide | skip)
  all_goals (split <;> decide)
theorem qop_new01 {C : Ctx} {ap : Bool} {o : Oper} {rho : Operand → AV} {h : Nat → AB} {K : KK} (hc : cls C ap o.op ≤ 1) (hq : qop C o rho h K) : ∃ v e, K v e none := by
  cases hop : o.op <;> rw [hop] at hc <;> simp only [qop, hop] at hq
  case move x => exact ⟨_, _, hq⟩
  case assign x => exact ⟨_, _, hq⟩
  case pick c a b =>
    split at hq
    · split at hq <;> exact ⟨_, _, hq⟩
    · exact hq.elim
  case binOp op t x y t' =>
    split at hq
    · obtain ⟨v, h1, _⟩ := abin_lin hq; exact ⟨_, _, h1⟩
    · obtain ⟨v, h1, _⟩ := anil_lin hq; exact ⟨_, _, h1⟩
    · exact hq.elim
  case unOp op t x =>
    split at hq
    · exact ⟨_, _, hq⟩
    · obtain ⟨v, h1, _⟩ := numK_lin hq; exact ⟨_, _, h1⟩
    · exact hq.elim
  case convert s d x =>
    split at hq
    · obtain ⟨v, h1, _⟩ := numK_lin hq; exact ⟨_, _, h1⟩
    · exact ⟨_, _, hq⟩
    · exact ⟨_, _, hq⟩
    · exact hq.elim
  case extract x i =>
    split at hq
    · split at hq
      · exact ⟨_, _, hq⟩
      · exact hq.elim
    · exact hq.elim
  case index t x y =>
    split at hq
    · obtain ⟨b, _, hq⟩ := hq; exact ⟨_, _, hq⟩
    · exact hq.elim
  case field t x f =>
    split at hq
    · split at hq
      · split at hq
        · split at hq
          · exact ⟨_, _, hq⟩
          · exact hq.elim
        · split at hq
          · exact ⟨_, _, hq⟩
          · exact hq.elim
      · exact hq.elim
    · exact hq.elim
  case makeFunc fn first cap =>
    cases fn with
    | func f =>
      simp only at hq
      split at hq
      · exact ⟨_, _, hq⟩
      · exact hq.elim
    | _ => exact hq.elim
  case fieldAddr t x f =>
    split at hq
    · split at hq
      · split at hq
        · exact ⟨_, _, hq⟩
        · split at hq
          · exact hq.elim
          · exact ⟨_, _, hq⟩
        · split at hq
          · exact ⟨_, _, hq⟩
          · exact ⟨_, _, hq⟩
          · exact hq.elim
        · exact hq.elim
      · exact hq.elim
    · exact hq.elim
  case nilCheck x =>
    split at hq
    · exact ⟨_, _, hq⟩
    · split at hq
      · exact ⟨_, _, hq⟩
      · exact ⟨_, _, hq⟩
      · exact hq.elim
    · split at hq
      · exact ⟨_, _, hq⟩
      · exact ⟨_, _, hq⟩
      · exact hq.elim
    · exact hq.elim
  case call c =>
    simp only [cls] at hc
    split at hc
    · exact absurd hc (by decide)
    · exact absurd hc (by decide)
    · rename_i h1
      simp only [h1, calleeK, calleeB] at hq
      split at hq
      · split at hq
        · exact ⟨_, _, hq⟩
        · exact hq.elim
      · exact hq.elim
    · rename_i h1
      simp only [h1, calleeK, calleeB] at hq
      split at hq
      · split at hq
        · exact ⟨_, _, hq⟩
        · exact hq.elim
      · split at hq
        · exact ⟨_, _, hq⟩
        · exact hq.elim
      · split at hq
        · exact ⟨_, _, hq⟩
        · exact hq.elim
      · exact hq.elim
    · split at hc <;> exact absurd hc (by decide)
    · exact absurd hc (by decide)
    · exact absurd hc (by decide)
  all_goals exact absurd hc (by simp [cls])
/-- what makes an object is of the third or the fourth class -/
theorem new_cls {C : Ctx} {ap : Bool} {o : Oper} {rho : Operand → AV} {h : Nat → AB} {v : AV} {e : List (Nat × AB)} {n : Option AB} {b : AB} (hq : qop C o rho h fun v' e' n' => v' = v ∧ e' = e ∧ n' = n) (hn : some b = n) : cls C ap o.op = 3 ∨ cls C ap o.op = 2 := by
  have hle := cls_le C ap o.op
  by_cases h1 : cls C ap o.op ≤ 1
  · obtain ⟨_, _, _, _, h2⟩ := qop_new01 h1 hq
    rw [← h2] at hn
    cases hn
  · omega

section
variable {C : Ctx} {ops : Array Oper} {st : Nat → AS} {r : Nat → RR} {ap : Bool} {X : List Nat}

theorem Hn_at {B : Nat → AB} {r : Nat → RR} {E : Nat → Bool} {d : Nat} (i : Nat) : ∀ (m : Nat), (∀ k, k < m → (E k = true ↔ k < i) ∨ ∀ p ∈ (r k).eff, p.1 ≠ d) → i ≤ m → Hn B r E m d = Hn B r (fun _ => true) i d := by
  have low : ∀ m, m ≤ i → (∀ k, k < m → (E k = true ↔ k < i) ∨ ∀ p ∈ (r k).eff, p.1 ≠ d) → Hn B r E m d = Hn B r (fun _ => true) m d := by
    intro m
    induction m with
    | zero => intro _ _; rfl
    | succ m ih =>
      intro hm hk
      have h1 := ih (by omega) (fun k hk' => hk k (by omega))
      simp only [Hn]
      rcases hk m (by omega) with h | h
      · rw [h.2 (by omega)]
        exact app_point _ h1
      · cases E m with
        | true => exact app_point _ h1
        | false => exact h1.trans (app_out h).symm
  intro m
  induction m with
  | zero => intro _ hi; have : i = 0 := by omega
            subst this; rfl
  | succ m ih =>
    intro hk hi
    by_cases e : i = m + 1
    · subst e; exact low (m + 1) (Nat.le_refl _) hk
    · have h1 := ih (fun k hk' => hk k (by omega)) (by omega)
      rw [← h1]
      simp only [Hn]
      rcases hk m (by omega) with h | h
      · have : E m = false := by rw [Bool.eq_false_iff]; intro ht; have := h.1 ht; omega
        rw [this]
      · cases E m with
        | true => exact app_out h
        | false => rfl
structure Pair (C : Ctx) (ap : Bool) (ops : Array Oper) (i j : Nat) (oi oj : Oper) : Prop where
  dst : ∀ x, oi.dst = some x → oj.dst ≠ some x
  war : ∀ d, oj.dst = some d → d ∈ oi.looksAt ops → ((Region.before ops).getD j 0).testBit i = true
  raw : ∀ d, oi.dst = some d → d ∈ oj.looksAt ops → ((Region.before ops).getD j 0).testBit i = true
  w3 : cls C ap oj.op = 3 → cls C ap oi.op = 3 → ((Region.before ops).getD j 0).testBit i = true
theorem pair_spec (hok : drawOK C ops = true) : certOK ops (Region.before ops) = true ∧ (∀ (j : Nat) oj, ops[j]? = some oj → ∀ d, oj.dst = some d → d ∉ oj.looksAt ops) ∧
    ∀ (i j : Nat) oi oj, i < j → ops[i]? = some oi → ops[j]? = some oj → Pair C (ops.toList.any fun o => isKill C o.op) ops i j oi oj := by
  simp only [drawOK, Bool.and_eq_true] at hok
  obtain ⟨h1, h2⟩ := hok
  have hj : ∀ (j : Nat) oj, ops[j]? = some oj → selfOK ops oj = true ∧ ∀ (i : Nat) oi, i < j → ops[i]? = some oi → pairOK C (ops.toList.any fun o => isKill C o.op) ops (Region.before ops) i j oi oj = true := by
    intro j oj hoj
    have h3 := List.all_eq_true.1 h2 j (List.mem_range.2 (Array.getElem?_eq_some_iff.1 hoj).1)
    simp only [hoj, Bool.and_eq_true] at h3
    refine ⟨h3.1, fun i oi hi hoi => ?_⟩
    have h4 := List.all_eq_true.1 h3.2 i (List.mem_range.2 hi)
    simp only [hoi] at h4
    exact h4
  refine ⟨h1, fun j oj hoj d hd => ?_, fun i j oi oj hij hoi hoj => ?_⟩
  · have := (hj j oj hoj).1
    simp only [selfOK, hd, looksB] at this
    simpa using this
  · have h3 := (hj j oj hoj).2 i oi hij hoi
    simp only [pairOK, Bool.and_eq_true] at h3
    obtain ⟨⟨⟨p1, p2⟩, p3⟩, p4⟩ := h3
    refine ⟨fun x hx hy => ?_, fun d hd hm => ?_, fun d hd hm => ?_, fun hc hi => ?_⟩
    · simp only [hx, hy, beqN_eq.2 rfl, Bool.not_true] at p1
      cases p1
    · simp only [hd, looksB] at p2
      have hm' : (oi.looksAt ops).contains d = true := by simpa using hm
      rw [hm'] at p2
      simpa using p2
    · simp only [hd, looksB] at p3
      have hm' : (oj.looksAt ops).contains d = true := by simpa using hm
      rw [hm'] at p3
      simpa using p3
    · rw [if_pos hc, if_pos hi] at p4
      exact p4

/-- what the text's order shows of the slots -/
theorem st_dst (hok : drawOK C ops = true) (H : ∀ (i : Nat) o, ops[i]? = some o → DStep C ap ops.toList o (st i) (r i) (st (i + 1))) {i : Nat} {o : Oper} (ho : ops[i]? = some o) {d : Tmp} (hd : o.dst = some d) : ∀ k, i + 1 ≤ k → k ≤ ops.size → (st k).t d = (r i).v := by
  obtain ⟨_, hs, hp⟩ := pair_spec hok
  intro k
  induction k with
  | zero => intro h; omega
  | succ k ih =>
    intro hik hk
    by_cases e : i = k
    · subst e
      rw [(H i o ho).next, hd]
      exact upd_same _ _ _
    · have h1 := ih (by omega) (by omega)
      have hok' : ops[k]? = some ops[k] := Array.getElem?_eq_getElem (by omega)
      rw [(H k _ hok').next]
      show putT (st k).t _ _ d = _
      have hne := (hp i k o _ (by omega) ho hok').dst d hd
      cases hd' : ops[k].dst with
      | none => exact h1
      | some d' => rw [putT, upd_ne _ _ (fun e => hne (by rw [hd', e]))]; exact h1
theorem st_else (H : ∀ (i : Nat) o, ops[i]? = some o → DStep C ap ops.toList o (st i) (r i) (st (i + 1))) {x : Nat} (hx : ∀ (k : Nat) o, ops[k]? = some o → o.dst ≠ some x) : ∀ k, k ≤ ops.size → (st k).t x = (st 0).t x := by
  intro k
  induction k with
  | zero => intro _; rfl
  | succ k ih =>
    intro hk
    have hok' : ops[k]? = some ops[k] := Array.getElem?_eq_getElem (by omega)
    rw [(H k _ hok').next]
    show putT (st k).t _ _ x = _
    cases hd' : ops[k].dst with
    | none => exact ih (by omega)
    | some d' => rw [putT, upd_ne _ _ (fun e => hx k _ hok' (by rw [hd', e]))]; exact ih (by omega)

theorem st_before (hok : drawOK C ops = true) (H : ∀ (i : Nat) o, ops[i]? = some o → DStep C ap ops.toList o (st i) (r i) (st (i + 1))) {j : Nat} {o : Oper} (ho : ops[j]? = some o) {d : Tmp} (hd : o.dst = some d) : ∀ k, k ≤ j → (st k).t d = (st 0).t d := by
  obtain ⟨_, hs, hp⟩ := pair_spec hok
  have hj := (Array.getElem?_eq_some_iff.1 ho).1
  intro k
  induction k with
  | zero => intro _; rfl
  | succ k ih =>
    intro hk
    have hok' : ops[k]? = some ops[k] := Array.getElem?_eq_getElem (by omega)
    rw [(H k _ hok').next]
    show putT (st k).t _ _ d = _
    cases hd' : ops[k].dst with
    | none => exact ih (by omega)
    | some d' => rw [putT, upd_ne _ _ (fun e => (hp k j _ o (by omega) hok' ho).dst d' hd' (by rw [hd, e]))]; exact ih (by omega)

/-- operation k makes the object d -/
def Crt (ops : Array Oper) (r : Nat → RR) (k d : Nat) (b : AB) : Prop := ∃ o, ops[k]? = some o ∧ o.dst = some d ∧ (r k).new = some b
def Pend (ops : Array Oper) (r : Nat → RR) (i d : Nat) : Prop := ∃ k b, i ≤ k ∧ Crt ops r k d b
theorem heap_claim (hok : drawOK C ops = true) (H : ∀ (i : Nat) o, ops[i]? = some o → DStep C ap ops.toList o (st i) (r i) (st (i + 1))) {B : Nat → AB} (hB1 : ∀ k d b, Crt ops r k d b → B d = b) (hB2 : ∀ d, ¬ Pend ops r 0 d → B d = (st 0).h d) (h0 : ∀ d, Pend ops r 0 d → (st 0).h d = .none) :
    ∀ i, i ≤ ops.size → ∀ d, (Pend ops r i d → (st i).h d = .none ∧ Hn B r (fun _ => true) i d = B d) ∧ (¬ Pend ops r i d → (st i).h d = Hn B r (fun _ => true) i d) := by
  obtain ⟨_, hs, hp⟩ := pair_spec hok
  intro i
  induction i with
  | zero => intro _ d; exact ⟨fun h => ⟨h0 d h, rfl⟩, fun h => (hB2 d h).symm⟩
  | succ i ih =>
    intro hi d
    have ih := ih (by omega)
    have ho : ops[i]? = some ops[i] := Array.getElem?_eq_getElem (by omega)
    have D := H i _ ho
    have hth := effThere_spec D.there
    have hHn : Hn B r (fun _ => true) (i + 1) = app (Hn B r (fun _ => true) i) (r i).eff := rfl
    have hst : (st (i + 1)).h = newH (app (st i).h (r i).eff) (ops[i].dst.getD 0) (r i).new := by rw [D.next]
    have out : Pend ops r i d → ∀ p ∈ (r i).eff, p.1 ≠ d := fun hpd p hpm e => by
      have h1 := hth p hpm
      rw [e, ((ih d).1 hpd).1] at h1
      exact h1
    have newd : ∀ b, (r i).new = some b → ∃ d', ops[i].dst = some d' := fun b hb => by
      have := D.ndst
      rw [hb] at this
      cases hd : ops[i].dst with
      | none => rw [hd] at this; cases this
      | some d' => exact ⟨d', rfl⟩
    refine ⟨fun hpd => ?_, fun hpd => ?_⟩
    · have hpi : Pend ops r i d := by obtain ⟨k, b, h1, h2⟩ := hpd; exact ⟨k, b, by omega, h2⟩
      obtain ⟨h1, h2⟩ := (ih d).1 hpi
      refine ⟨?_, by rw [hHn, app_out (out hpi)]; exact h2⟩
      rw [hst]
      cases hn : (r i).new with
      | none => show app _ _ d = _; rw [app_out (out hpi)]; exact h1
      | some b =>
        obtain ⟨d', hd'⟩ := newd b hn
        rw [hd']
        show upd _ d' b d = _
        have hne : d ≠ d' := fun e => by
          obtain ⟨k, b', h3, o', h4, h5, h6⟩ := hpd
          exact (hp i k _ o' (by omega) ho h4).dst d' hd' (by rw [h5, e])
        rw [upd_ne _ _ hne, app_out (out hpi)]
        exact h1
    · by_cases hc : ∃ b, Crt ops r i d b
      · obtain ⟨b, hc⟩ := hc
        have hpi : Pend ops r i d := ⟨i, b, Nat.le_refl _, hc⟩
        obtain ⟨o', h4, h5, h6⟩ := hc
        rw [ho] at h4
        injection h4 with h4
        rw [hst, hHn, app_out (out hpi), ((ih d).1 hpi).2, h6, h4, h5, hB1 i d b ⟨o', by rw [ho, h4], h5, h6⟩]
        exact upd_same _ _ _
      · have hpi : ¬ Pend ops r i d := fun ⟨k, b, h1, h2⟩ => by
          by_cases e : k = i
          · subst e; exact hc ⟨b, h2⟩
          · exact hpd ⟨k, b, by omega, h2⟩
        have h1 := (ih d).2 hpi
        rw [hst, hHn, ← app_point (r i).eff h1]
        cases hn : (r i).new with
        | none => rfl
        | some b =>
          obtain ⟨d', hd'⟩ := newd b hn
          rw [hd']
          show upd _ d' b d = _
          rw [upd_ne _ _ (fun e => hc ⟨b, _, ho, by rw [hd', e], hn⟩)]

/-- of one kind -/
def KC (b b' : AB) : Prop := b' = b ∨ (∃ e es es', b = .row e es ∧ b' = .row e es') ∨ (∃ cs cs', b = .box cs ∧ b' = .box cs') ∨ (∃ mk es mk' es', b = .map mk es ∧ b' = .map mk' es')
theorem KC.trans {a b c : AB} (h : KC a b) (k : KC b c) : KC a c := by
  rcases h with rfl | ⟨e, es, es', rfl, rfl⟩ | ⟨cs, cs', rfl, rfl⟩ | ⟨m, es, m', es', rfl, rfl⟩
  · exact k
  · rcases k with rfl | ⟨e', fs, fs', h1, rfl⟩ | ⟨cs, cs', h1, rfl⟩ | ⟨_, _, _, _, h1, rfl⟩
    · exact .inr (.inl ⟨_, _, _, rfl, rfl⟩)
    · injection h1 with h1 h2; subst h1; exact .inr (.inl ⟨_, _, _, rfl, rfl⟩)
    · cases h1
    · cases h1
  · rcases k with rfl | ⟨e', fs, fs', h1, rfl⟩ | ⟨ds, ds', h1, rfl⟩ | ⟨_, _, _, _, h1, rfl⟩
    · exact .inr (.inr (.inl ⟨_, _, rfl, rfl⟩))
    · cases h1
    · exact .inr (.inr (.inl ⟨_, _, rfl, rfl⟩))
    · cases h1
  · rcases k with rfl | ⟨e', fs, fs', h1, rfl⟩ | ⟨ds, ds', h1, rfl⟩ | ⟨_, _, _, _, h1, rfl⟩
    · exact .inr (.inr (.inr ⟨_, _, _, _, rfl, rfl⟩))
    · cases h1
    · cases h1
    · exact .inr (.inr (.inr ⟨_, _, _, _, rfl, rfl⟩))
theorem kindB_KC {b b' : AB} (h : kindB b b' = true) : KC b b' := by
  cases b <;> cases b' <;> first | (simp [kindB] at h; done) | skip
  · have := beqN_eq.1 h; subst this; exact .inr (.inl ⟨_, _, _, rfl, rfl⟩)
  · exact .inr (.inr (.inl ⟨_, _, rfl, rfl⟩))
  · exact .inr (.inr (.inr ⟨_, _, _, _, rfl, rfl⟩))
theorem effKind_spec {h : Nat → AB} : ∀ {fe : List (Nat × AB)}, effKind h fe = true → ∀ p ∈ fe, KC (h p.1) p.2 := by
  intro fe
  induction fe with
  | nil => intro _ p hp; cases hp
  | cons x fe ih =>
    intro hh p hp
    simp only [effKind, Bool.and_eq_true] at hh
    rcases List.mem_cons.1 hp with e | e
    · subst e; exact kindB_KC hh.1
    · exact ih hh.2 p e
theorem kind_claim (hok : drawOK C ops = true) (H : ∀ (i : Nat) o, ops[i]? = some o → DStep C ap ops.toList o (st i) (r i) (st (i + 1))) (hap : ap = false) {B : Nat → AB} (hB1 : ∀ k d b, Crt ops r k d b → B d = b) (hB2 : ∀ d, ¬ Pend ops r 0 d → B d = (st 0).h d) (h0 : ∀ d, Pend ops r 0 d → (st 0).h d = .none) (E : Nat → Bool) :
    ∀ m, m ≤ ops.size → ∀ d, KC (B d) (Hn B r E m d) := by
  have hh := heap_claim hok H hB1 hB2 h0
  have canon : ∀ m, m ≤ ops.size → ∀ d, KC (B d) (Hn B r (fun _ => true) m d) := by
    intro m
    induction m with
    | zero => intro _ d; exact .inl rfl
    | succ m ih =>
      intro hm d
      have ho : ops[m]? = some ops[m] := Array.getElem?_eq_getElem (by omega)
      have D := H m _ ho
      show KC (B d) (app (Hn B r (fun _ => true) m) (r m).eff d)
      rcases app_cases (r m).eff (Hn B r (fun _ => true) m) d with ⟨b, h1, h2⟩ | ⟨_, h2⟩
      · rw [h2]
        have hk := effKind_spec (D.kind hap) _ h1
        have ht := effThere_spec D.there _ h1
        have hnp : ¬ Pend ops r m d := fun hp => by rw [((hh m (by omega) d).1 hp).1] at ht; exact ht
        rw [(hh m (by omega) d).2 hnp] at hk
        exact (ih (by omega) d).trans hk
      · rw [h2]; exact ih (by omega) d
  intro m
  induction m with
  | zero => intro _ d; exact .inl rfl
  | succ m ih =>
    intro hm d
    have ho : ops[m]? = some ops[m] := Array.getElem?_eq_getElem (by omega)
    have D := H m _ ho
    simp only [Hn]
    cases E m with
    | false => exact ih (by omega) d
    | true =>
      show KC (B d) (app (Hn B r E m) (r m).eff d)
      rcases app_cases (r m).eff (Hn B r E m) d with ⟨b, h1, h2⟩ | ⟨_, h2⟩
      · rw [h2]
        have hk := effKind_spec (D.kind hap) _ h1
        have ht := effThere_spec D.there _ h1
        have hnp : ¬ Pend ops r m d := fun hp => by rw [((hh m (by omega) d).1 hp).1] at ht; exact ht
        rw [(hh m (by omega) d).2 hnp] at hk
        exact (canon m (by omega) d).trans hk
      · rw [h2]; exact ih (by omega) d

/-- the slots and the objects that are as they will be, once E has been run -/
def VE (ops : Array Oper) (E : Nat → Bool) (x : Nat) : Prop := ∀ (k : Nat) o, ops[k]? = some o → o.dst = some x → E k = true
open Classical in
/-- the slots, once E has been run -/
noncomputable def TE (ops : Array Oper) (st : Nat → AS) (E : Nat → Bool) (x : Nat) : AV := if VE ops E x then (st ops.size).t x else (st 0).t x
def LE (ops : Array Oper) (r : Nat → RR) (E : Nat → Bool) (d : Nat) : Prop := ∀ k b, Crt ops r k d b → E k = true

theorem app_kc {h : Nat → AB} {id c : Nat} : ∀ {eff : List (Nat × AB)}, (∀ p ∈ eff, p.1 = id → kc p.2 = c) → kc (h id) = c → kc (app h eff id) = c := by
  intro eff
  induction eff generalizing h with
  | nil => intro _ h2; exact h2
  | cons p r ih =>
    intro h1 h2
    obtain ⟨q, b⟩ := p
    refine ih (h := upd h q b) (fun p hp e => h1 p (List.mem_cons_of_mem _ hp) e) ?_
    by_cases e : id = q
    · subst e
      rw [upd_same]
      exact h1 _ List.mem_cons_self rfl
    · rw [upd_ne _ _ e]; exact h2
theorem keepX_spec {X : List Nat} {h : Nat → AB} {id : Nat} (hid : inX X (id + 1000000) = true) : ∀ {eff : List (Nat × AB)}, keepX X h eff = true → ∀ p ∈ eff, p.1 = id → kc p.2 = kc (h id) ∧ kc (h id) ≠ 0 := by
  intro eff
  induction eff with
  | nil => intro _ p hp; cases hp
  | cons q r ih =>
    intro hk p hp e
    obtain ⟨i, b⟩ := q
    unfold keepX at hk
    split at hk
    · rename_i hi
      simp only [Bool.and_eq_true, Bool.not_eq_true'] at hk
      obtain ⟨k1, k2, k3⟩ := hk
      rcases List.mem_cons.1 hp with rfl | hp
      · simp only at e
        subst e
        exact ⟨Nat.eq_of_beq_eq_true k1, fun e0 => by rw [e0] at k2; cases k2⟩
      · exact ih k3 p hp e
    · rename_i hi
      rcases List.mem_cons.1 hp with rfl | hp
      · simp only at e
        subst e
        rw [hid] at hi
        cases hi
      · exact ih hk p hp e
/-- a marked object stays what it is, or is not touched -/
theorem bx_claim {X : List Nat} (hok : drawOK C ops = true) (H : ∀ (i : Nat) o, ops[i]? = some o → DStep C ap ops.toList o (st i) (r i) (st (i + 1))) (hkeep : ∀ k, k < ops.size → keepX X (st k).h (r k).eff = true) {B : Nat → AB} (hh : ∀ i, i ≤ ops.size → ∀ d, (Pend ops r i d → (st i).h d = .none ∧ Hn B r (fun _ => true) i d = B d) ∧ (¬ Pend ops r i d → (st i).h d = Hn B r (fun _ => true) i d)) (E : Nat → Bool) {id i : Nat} (hid : inX X (id + 1000000) = true) (hi : i ≤ ops.size) (hne : (st i).h id ≠ .none) :
    (kc (Hn B r E ops.size id) = kc ((st i).h id) ∧ kc ((st i).h id) ≠ 0) ∨ Hn B r E ops.size id = (st i).h id := by
  have sti : ∀ k, k ≤ ops.size → (st k).h id ≠ .none → (st k).h id = Hn B r (fun _ => true) k id := fun k hk h => by
    by_cases hp : Pend ops r k id
    · exact absurd ((hh k hk id).1 hp).1 h
    · exact (hh k hk id).2 hp
  have kcne : ∀ {b : AB}, kc b ≠ 0 → b ≠ .none := fun hb e => by rw [e] at hb; exact hb rfl
  have spec : ∀ m, m < ops.size → ∀ p ∈ (r m).eff, p.1 = id → kc p.2 = kc (Hn B r (fun _ => true) m id) ∧ kc (Hn B r (fun _ => true) m id) ≠ 0 := fun m hm p hp e => by
    obtain ⟨h1, h2⟩ := keepX_spec hid (hkeep m hm) p hp e
    rw [sti m (by omega) (kcne h2)] at h1 h2
    exact ⟨h1, h2⟩
  by_cases ht : ∃ k, k < ops.size ∧ ∃ p ∈ (r k).eff, p.1 = id
  · left
    have same : ∀ m, m ≤ ops.size → kc (Hn B r (fun _ => true) m id) = kc (B id) := by
      intro m
      induction m with
      | zero => intro _; rfl
      | succ m ih =>
        intro hm
        have := ih (by omega)
        show kc (app (Hn B r (fun _ => true) m) (r m).eff id) = _
        exact app_kc (fun p hp e => (spec m (by omega) p hp e).1.trans this) this
    have any : ∀ m, m ≤ ops.size → kc (Hn B r E m id) = kc (B id) := by
      intro m
      induction m with
      | zero => intro _; rfl
      | succ m ih =>
        intro hm
        simp only [Hn]
        cases E m with
        | false => exact ih (by omega)
        | true => exact app_kc (fun p hp e => (spec m (by omega) p hp e).1.trans (same m (by omega))) (ih (by omega))
    obtain ⟨k, hk, p, hp, e⟩ := ht
    have h0 := (spec k hk p hp e).2
    rw [same k (by omega)] at h0
    have hs : kc ((st i).h id) = kc (B id) := by rw [sti i hi hne]; exact same i hi
    exact ⟨by rw [any _ (Nat.le_refl _), hs], by rw [hs]; exact h0⟩
  · right
    have un : ∀ (F : Nat → Bool) m, m ≤ ops.size → Hn B r F m id = B id := by
      intro F m
      induction m with
      | zero => intro _; rfl
      | succ m ih =>
        intro hm
        simp only [Hn]
        cases F m with
        | false => exact ih (by omega)
        | true =>
          show app (Hn B r F m) (r m).eff id = _
          rw [app_out fun p hp' e => ht ⟨m, by omega, p, hp', e⟩]
          exact ih (by omega)
    rw [un E _ (Nat.le_refl _), sti i hi hne, un _ i hi]
theorem draw_op {A : Amb} (hC : CtxOK A.C) (hap : ap = ops.toList.any fun o => isKill A.C o.op) (hok : drawOK A.C ops = true) (hd : ∀ o ∈ ops.toList, tmpsOK o A.n) (H : ∀ (i : Nat) o, ops[i]? = some o → DStep A.C ap ops.toList o (st i) (r i) (st (i + 1))) (G : ∀ (i : Nat) o, ops[i]? = some o → DLook A.C ap X (lateFl A.C ap ops) o (st i) (r i) i) {B : Nat → AB} (hB1 : ∀ k d b, Crt ops r k d b → B d = b) (hB2 : ∀ d, ¬ Pend ops r 0 d → B d = (st 0).h d) (h0 : ∀ d, Pend ops r 0 d → (st 0).h d = .none)
    {E : Nat → Bool} (hE : Closed ops E) {i : Nat} {o : Oper} (ho : ops[i]? = some o) (hi : E i = false) (hall : ∀ e ∈ o.after, Region.binds .any e = true → E e.on = true) {S : Nat → Prop} {rho : Nat → Value} {a : Act} {w : World} (sim : Sim A All (LE ops r E) S rho ⟨TE ops st E, Hn B r E ops.size⟩ a w)
    {Q : Exit → Act → World → Prop} {next : Act → World → Prop} (hnext : ∀ S' rho' a' w', Sim A All (LE ops r fun k => E k || beqN k i) S' rho' ⟨TE ops st (fun k => E k || beqN k i), Hn B r (fun k => E k || beqN k i) ops.size⟩ a' w' → next a' w') : wpOp A.C.P ops Q i next a w := by
  obtain ⟨hcert, hs, hp⟩ := pair_spec hok
  rw [← hap] at hp
  obtain ⟨hdown, hanc⟩ := cert_spec hcert
  have hin : i < ops.size := (Array.getElem?_eq_some_iff.1 ho).1
  have hh := heap_claim hok H hB1 hB2 h0
  have D := H i o ho
  have hdo : tmpsOK o A.n := hd o (List.mem_of_getElem? (by simpa using ho))
  have bits : ∀ k, k < i → ((Region.before ops).getD i 0).testBit k = true → E k = true := hanc E hE i o ho hall
  -- a descendant has not been run
  have later : ∀ (k : Nat) ok, ops[k]? = some ok → i < k → ((Region.before ops).getD k 0).testBit i = true → E k = false := by
    intro k ok hk hik hbit
    rw [Bool.eq_false_iff]
    intro hEk
    have := hanc E hE k ok hk (fun e he hb => hE k ok hk hEk e he hb) i hik hbit
    rw [hi] at this
    cases this
  have tsame : ∀ x, x ∈ o.looksAt ops → TE ops st E x = (st i).t x := by
    intro x hx
    unfold TE
    split
    · rename_i hv
      by_cases hw : ∃ (k : Nat) (ok : Oper), ops[k]? = some ok ∧ ok.dst = some x
      · obtain ⟨k, ok, hk, hdk⟩ := hw
        have hkn := (Array.getElem?_eq_some_iff.1 hk).1
        rcases Nat.lt_trichotomy k i with h | h | h
        · rw [st_dst hok H hk hdk ops.size (by omega) (Nat.le_refl _), st_dst hok H hk hdk i (by omega) (by omega)]
        · subst h
          rw [ho] at hk
          injection hk with hk
          subst hk
          exact absurd hx (hs k o ho x hdk)
        · have h1 := later k ok hk h ((hp i k o ok h ho hk).war x hdk hx)
          rw [hv k ok hk hdk] at h1
          cases h1
      · have hne : ∀ (k : Nat) o, ops[k]? = some o → o.dst ≠ some x := fun k o hk e => hw ⟨k, o, hk, e⟩
        rw [st_else H hne ops.size (Nat.le_refl _), st_else H hne i (by omega)]
    · rename_i hv
      have hex : ∃ (k : Nat) (ok : Oper), ops[k]? = some ok ∧ ok.dst = some x ∧ E k = false := Classical.byContradiction fun hn => hv fun k ok hk hdk => by
        cases hE' : E k with
        | true => rfl
        | false => exact absurd ⟨k, ok, hk, hdk, hE'⟩ hn
      obtain ⟨k, ok, hk, hdk, hEk⟩ := hex
      rcases Nat.lt_trichotomy k i with h | h | h
      · have := bits k h ((hp k i ok o h hk ho).raw x hdk hx)
        rw [hEk] at this
        cases this
      · subst h
        rw [ho] at hk
        injection hk with hk
        subst hk
        exact absurd hx (hs k o ho x hdk)
      · exact (st_before hok H hk hdk i (by omega)).symm
  -- no writer behind i has been run, if i is looked at by it
  have wlate : (cls A.C ap o.op = 3 ∨ (cls A.C ap o.op = 2 ∧ (lateFl A.C ap ops)[i]? = some true)) → ∀ k, i < k → k < ops.size → E k = true → (r k).eff = [] := by
    intro hc k hik hkn hEk
    have hk : ops[k]? = some ops[k] := Array.getElem?_eq_getElem hkn
    by_cases h3 : cls A.C ap ops[k].op = 3
    · have := later k _ hk hik (by
        rcases hc with hc | ⟨hc, hf⟩
        · exact (hp i k o _ hik ho hk).w3 h3 hc
        · exact (late_spec ho hf hc k _ hk h3).2 hik)
      rw [hEk] at this
      cases this
    · exact (H k _ hk).quiet h3
  have quietE : ∀ k, k < ops.size → (r k).eff ≠ [] → cls A.C ap (ops[k]?.getD o).op = 3 := by
    intro k hk hne
    have hk' : ops[k]? = some ops[k] := Array.getElem?_eq_getElem hk
    rw [hk']
    by_cases h3 : cls A.C ap ops[k].op = 3
    · exact h3
    · exact absurd ((H k _ hk').quiet h3) hne
  have heapEq : (cls A.C ap o.op = 3 ∨ (cls A.C ap o.op = 2 ∧ (lateFl A.C ap ops)[i]? = some true)) → Hn B r E ops.size = Hn B r (fun _ => true) i := by
    intro hc
    refine Hn_eq i ops.size (fun k hkn => ?_) (by omega)
    have hk : ops[k]? = some ops[k] := Array.getElem?_eq_getElem hkn
    by_cases hne : (r k).eff = []
    · exact .inr hne
    · have h3 := quietE k hkn hne
      rw [hk] at h3
      have h3 : cls A.C ap ops[k].op = 3 := h3
      refine .inl ⟨fun hEk => ?_, fun hlt => ?_⟩
      · rcases Nat.lt_trichotomy k i with h | h | h
        · exact h
        · subst h; rw [hi] at hEk; cases hEk
        · exact absurd (wlate hc k h hkn hEk) hne
      · rcases hc with hc | ⟨hc, hf⟩
        · exact bits k hlt ((hp k i _ o hlt hk ho).w3 hc h3)
        · exact bits k hlt ((late_spec ho hf hc k _ hk h3).1 hlt)
  have fpEq : cls A.C ap o.op = 2 → isTh o.op = false → ∀ id, inX X id = true → Hn B r E ops.size id = Hn B r (fun _ => true) i id := fun hc hth id hid => by
    refine Hn_at i ops.size (fun k hkn => ?_) (by omega)
    have hk : ops[k]? = some ops[k] := Array.getElem?_eq_getElem hkn
    by_cases hne : ∀ p ∈ (r k).eff, p.1 ≠ id
    · exact .inr hne
    · have hne0 : (r k).eff ≠ [] := fun e => hne (by rw [e]; simp)
      have h3 : cls A.C ap ops[k].op = 3 := by have := quietE k hkn hne0; rw [hk] at this; exact this
      have hrk : (r k).run = true := by
        cases hr : (r k).run with
        | true => rfl
        | false => exact absurd ((H k _ hk).not hr).2.1 hne0
      have hf : (lateFl A.C ap ops)[k]? = some true := by
        rcases (G k _ hk hrk).2.1 with h | h
        · exact h
        · exact absurd (fun p hp e => by have := noX_spec h p hp; rw [e, hid] at this; cases this) hne
      have ord := late_spec3 hk hf h3 i o ho hc hth
      refine .inl ⟨fun hEk => ?_, fun hlt => ?_⟩
      · rcases Nat.lt_trichotomy k i with h | h | h
        · exact h
        · subst h; rw [hi] at hEk; cases hEk
        · have := later k _ hk h (ord.1 h)
          rw [hEk] at this
          cases this
      · exact bits k hlt (ord.2 hlt)
  have ext : ∀ id, (st i).h id = .none ∨ Hn B r (fun _ => true) i id = (st i).h id := by
    intro id
    by_cases hpd : Pend ops r i id
    · exact .inl ((hh i (by omega) id).1 hpd).1
    · exact .inr ((hh i (by omega) id).2 hpd).symm
  -- the operation at the state of E
  have opE : (r i).run = true → qop A.C o (ev (TE ops st E)) (Hn B r E ops.size) fun v e n => v = (r i).v ∧ e = (r i).eff ∧ n = (r i).new := by
    intro hrun
    have h1 := D.ran hrun
    have h2 : qop A.C o (ev (TE ops st E)) (st i).h fun v e n => v = (r i).v ∧ e = (r i).eff ∧ n = (r i).new := by
      refine qop_congr (fun x hx => ?_) h1
      cases x with
      | tmp t =>
        exact (tsame t (List.mem_append_left _ (List.mem_filterMap.2 ⟨.tmp t, by simpa using hx, rfl⟩))).symm
      | const v => rfl
      | global g => rfl
      | func f => rfl
    have four : cls A.C ap o.op = 0 ∨ cls A.C ap o.op = 1 ∨ cls A.C ap o.op = 2 ∨ cls A.C ap o.op = 3 := by
      have := cls_le A.C ap o.op
      omega
    rcases four with h | h | h | h
    · exact qop_h0 h h2
    · have hapf : ap = false := by
        cases hap' : ap with
        | false => rfl
        | true =>
          rw [hap'] at h
          exact absurd h (cls_true A.C o.op)
      refine qop_h1 h (fun id ht => ?_) h2
      have hkc := kind_claim hok H hapf hB1 hB2 h0 E ops.size (Nat.le_refl _) id
      have hkc2 := kind_claim hok H hapf hB1 hB2 h0 (fun _ => true) i (by omega) id
      have heq : (st i).h id = Hn B r (fun _ => true) i id := by
        rcases ext id with e | e
        · rw [e] at ht; exact ht.elim
        · exact e.symm
      rw [← heq] at hkc2
      rcases hkc2 with e | ⟨e, es, es', e1, e2⟩ | ⟨cs, cs', e1, e2⟩ | ⟨m, es, m', es', e1, e2⟩
      · rw [← e] at hkc
        rcases hkc with f | ⟨f, fs, fs', f1, f2⟩ | ⟨cs, cs', f1, f2⟩ | ⟨m, es, m', es', f1, f2⟩
        · rw [f]; exact ⟨ht, fun e es h => ⟨es, h⟩, fun cs h => ⟨cs, h⟩, fun cs h => ⟨cs, h⟩, fun e es h => ⟨es, h⟩⟩
        · rw [f1, f2]; exact ⟨trivial, fun e es h => (by injection h with h1 h2; subst h1; exact ⟨fs', rfl⟩), fun cs h => (by cases h), fun cs h => (by cases h), fun _ _ h => by cases h⟩
        · rw [f1, f2]; exact ⟨trivial, fun e es h => by (cases h), fun cs h => ⟨cs', rfl⟩, fun cs h => (by cases h), fun _ _ h => by cases h⟩
        · rw [f1, f2]; exact ⟨trivial, fun e es h => by (cases h), fun cs h => by (cases h), fun cs h => (by cases h), fun _ _ h => by cases h⟩
      · rw [e1] at hkc
        rw [e2]
        rcases hkc with f | ⟨f, fs, fs', f1, f2⟩ | ⟨cs, cs', f1, f2⟩ | ⟨m, es, m', es', f1, f2⟩
        · rw [f]; exact ⟨trivial, fun e es h => (by injection h with h1 h2; subst h1; exact ⟨_, rfl⟩), fun cs h => by (cases h), fun cs h => (by cases h), fun _ _ h => by cases h⟩
        · injection f1 with f1 _; subst f1
          rw [f2]; exact ⟨trivial, fun e es h => (by injection h with h1 h2; subst h1; exact ⟨_, rfl⟩), fun cs h => by (cases h), fun cs h => (by cases h), fun _ _ h => by cases h⟩
        · cases f1
        · cases f1
      · rw [e1] at hkc
        rw [e2]
        rcases hkc with f | ⟨f, fs, fs', f1, f2⟩ | ⟨ds, ds', f1, f2⟩ | ⟨m, es, m', es', f1, f2⟩
        · rw [f]; exact ⟨trivial, fun e es h => by (cases h), fun cs h => ⟨_, rfl⟩, fun cs h => (by cases h), fun _ _ h => by cases h⟩
        · cases f1
        · rw [f2]; exact ⟨trivial, fun e es h => by (cases h), fun cs h => ⟨_, rfl⟩, fun cs h => (by cases h), fun _ _ h => by cases h⟩
        · cases f1
      · rw [e1] at hkc
        rw [e2]
        rcases hkc with f | ⟨f, fs, fs', f1, f2⟩ | ⟨ds, ds', f1, f2⟩ | ⟨m, es, m', es', f1, f2⟩
        · rw [f]; exact ⟨trivial, fun e es h => by (cases h), fun cs h => by (cases h), fun cs h => (by cases h), fun _ _ h => by cases h⟩
        · cases f1
        · cases f1
        · rw [f2]; exact ⟨trivial, fun e es h => by (cases h), fun cs h => by (cases h), fun cs h => (by cases h), fun _ _ h => by cases h⟩
    · rcases (G i o ho hrun).1 with hf | hpv | hfp | hth | h3
      case inr.inr.inr.inr => rw [h] at h3; cases h3
      case inr.inr.inr.inl =>
        have hkeep : ∀ k, k < ops.size → keepX X (st k).h (r k).eff = true := fun k hkn => by
          have hk : ops[k]? = some ops[k] := Array.getElem?_eq_getElem hkn
          cases hr : (r k).run with
          | true => exact (G k _ hk hr).2.2
          | false => rw [((H k _ hk).not hr).2.1]; rfl
        refine qop_congr (fun x hx => ?_) (qop_th (h' := Hn B r E ops.size) (fun id hid hne => bx_claim hok H hkeep hh E hid (by omega) hne) hth h1)
        cases x with
        | tmp t =>
          exact (tsame t (List.mem_append_left _ (List.mem_filterMap.2 ⟨.tmp t, by simpa using hx, rfl⟩))).symm
        | const v => rfl
        | global g => rfl
        | func f => rfl
      case inr.inr.inl =>
        refine qop_congr (fun x hx => ?_) (qop_fp (h' := Hn B r E ops.size) (fun id hid => ?_) hfp h1)
        · cases x with
          | tmp t =>
            exact (tsame t (List.mem_append_left _ (List.mem_filterMap.2 ⟨.tmp t, by simpa using hx, rfl⟩))).symm
          | const v => rfl
          | global g => rfl
          | func f => rfl
        · rw [fpEq h (fp_noTh hfp) id hid]
          exact ext id
      case inr.inl =>
        refine qop_congr (fun x hx => ?_) (qop_pv hpv h1)
        cases x with
        | tmp t =>
          exact (tsame t (List.mem_append_left _ (List.mem_filterMap.2 ⟨.tmp t, by simpa using hx, rfl⟩))).symm
        | const v => rfl
        | global g => rfl
        | func f => rfl
      rw [heapEq (.inr ⟨h, hf⟩)]
      obtain ⟨v, e, n, ⟨rfl, rfl, rfl⟩, h4⟩ := qop_lin ext h2
      exact h4 _ ⟨rfl, rfl, rfl⟩
    · rw [heapEq (.inl h)]
      obtain ⟨v, e, n, ⟨rfl, rfl, rfl⟩, h4⟩ := qop_lin ext h2
      exact h4 _ ⟨rfl, rfl, rfl⟩
  have vsame : ∀ x, o.dst ≠ some x → (VE ops (fun k => E k || beqN k i) x ↔ VE ops E x) := by
    intro x hx
    refine ⟨fun hv k ok hk hdk => ?_, fun hv k ok hk hdk => by simp [hv k ok hk hdk]⟩
    have := hv k ok hk hdk
    simp only [Bool.or_eq_true] at this
    rcases this with h | h
    · exact h
    · have := beqN_eq.1 h
      subst this
      rw [ho] at hk
      injection hk with hk
      subst hk
      exact absurd hdk hx
  have tput : ∀ v, v = (r i).v → putT (TE ops st E) o.dst v = TE ops st (fun k => E k || beqN k i) := by
    intro v hv
    funext x
    have other : o.dst ≠ some x → TE ops st E x = TE ops st (fun k => E k || beqN k i) x := fun hx => by
      unfold TE
      by_cases hvx : VE ops E x
      · rw [if_pos hvx, if_pos ((vsame x hx).2 hvx)]
      · rw [if_neg hvx, if_neg fun h => hvx ((vsame x hx).1 h)]
    cases hdst : o.dst with
    | none => exact other (by rw [hdst]; intro h; cases h)
    | some d =>
      show upd _ _ _ _ = _
      by_cases e : x = d
      · subst e
        rw [upd_same]
        unfold TE
        rw [if_pos, st_dst hok H ho hdst ops.size (by omega) (Nat.le_refl _), hv]
        intro k ok hk hdk
        have : k = i := by
          rcases Nat.lt_trichotomy k i with h5 | h5 | h5
          · exact absurd hdst ((hp k i ok o h5 hk ho).dst x hdk)
          · exact h5
          · exact absurd hdk ((hp i k o ok h5 ho hk).dst x hdst)
        simp [this, beqN_eq.2]
      · rw [upd_ne _ _ e]
        exact other fun h => e (by rw [hdst] at h; injection h with h; exact h.symm)
  unfold wpOp
  simp only [ho]
  by_cases hrun : (r i).run = true
  · have hwant : Region.wanted o (yielded ops a.tmps) = true := by
      have hg := D.guard
      unfold Region.wanted
      split at hg
      · rename_i h; rw [h]
      · rename_i g want h
        rw [h]
        obtain ⟨og, tg, b, k1, k2, k3, k4⟩ := hg
        have hlook : tg ∈ o.looksAt ops := List.mem_append_right _ (by rw [h]; simp [show ops[g]? = some og by simpa using k1, k2])
        have := yielded_of sim (ops := ops) (g := g) (by simpa using k1) k2 trivial (by show TE ops st E tg = _; rw [tsame tg hlook]; exact k3)
        simp only [this]
        rw [hrun] at k4
        exact k4.symm
    rw [if_pos hwant]
    refine .inl (op_ok A o _ _ _ _ _ _ _ _ next Q hC sim (fun _ _ => trivial) hdo (opE hrun) (fun v eff b hk => ?_) fun v eff new S' rho' a' w' hk sim' => ?_)
    · obtain ⟨_, _, hnb⟩ := hk
      obtain ⟨d, hdst⟩ : ∃ d, o.dst = some d := by
        have := D.ndst
        rw [← hnb] at this
        cases hd' : o.dst with
        | none => rw [hd'] at this; cases this
        | some d => exact ⟨d, rfl⟩
      have hcr : Crt ops r i d b := ⟨o, ho, hdst, hnb.symm⟩
      rw [hdst]
      refine ⟨fun hL => (by have := hL i b hcr; rw [hi] at this; cases this), ?_⟩
      show Hn B r E ops.size d = b
      -- nothing that was run touches it
      have hpd : Pend ops r i d := ⟨i, b, Nat.le_refl _, hcr⟩
      have hne : ∀ k, k < ops.size → E k = true → ∀ p ∈ (r k).eff, p.1 ≠ d := by
        intro k hkn hEk p hpm e
        have hk : ops[k]? = some ops[k] := Array.getElem?_eq_getElem hkn
        have ht := effThere_spec (H k _ hk).there p hpm
        rcases Nat.lt_trichotomy k i with h | h | h
        · have hpk : Pend ops r k d := ⟨i, b, by omega, hcr⟩
          rw [e, ((hh k (by omega) d).1 hpk).1] at ht
          exact ht
        · subst h; rw [hi] at hEk; cases hEk
        · have h3 : cls A.C ap ops[k].op = 3 := by
            by_cases h3 : cls A.C ap ops[k].op = 3
            · exact h3
            · have := (H k _ hk).quiet h3; rw [this] at hpm; cases hpm
          have hmk : cls A.C ap o.op = 3 ∨ cls A.C ap o.op = 2 := new_cls (ap := ap) (opE hrun) hnb
          have := later k _ hk h (by
            rcases hmk with hmk | hmk
            · exact (hp i k o _ h ho hk).w3 h3 hmk
            · rcases (G i o ho hrun).1 with hf | hpv | hfp | hth | h3'
              · exact (late_spec ho hf hmk k _ hk h3).2 h
              · have := qop_pv_new hpv (D.ran hrun)
                rw [← hnb] at this
                cases this
              · rcases qop_fp_new hfp (D.ran hrun) with hno | hdX
                · rw [← hnb] at hno
                  cases hno
                · rw [hdst] at hdX
                  have hdX : inX X d = true := hdX
                  have hne0 : (r k).eff ≠ [] := fun e => by rw [e] at hpm; cases hpm
                  have hrk : (r k).run = true := by
                    cases hr : (r k).run with
                    | true => rfl
                    | false => exact absurd ((H k _ hk).not hr).2.1 hne0
                  have hf : (lateFl A.C ap ops)[k]? = some true := by
                    rcases (G k _ hk hrk).2.1 with h | h
                    · exact h
                    · have := noX_spec h p hpm
                      rw [e, hdX] at this
                      cases this
                  exact (late_spec3 hk hf h3 i o ho hmk (fp_noTh hfp)).1 h
              · have := qop_th_new hth (D.ran hrun)
                rw [← hnb] at this
                cases this
              · rw [hmk] at h3'; cases h3')
          rw [hEk] at this
          cases this
      have : ∀ m, m ≤ ops.size → Hn B r E m d = B d := by
        intro m
        induction m with
        | zero => intro _; rfl
        | succ m ih =>
          intro hm
          simp only [Hn]
          cases hEm : E m with
          | false => exact ih (by omega)
          | true =>
            show app (Hn B r E m) (r m).eff d = _
            rw [app_out (hne m (by omega) hEm)]
            exact ih (by omega)
      rw [this ops.size (Nat.le_refl _), hB1 i d b hcr]
    · obtain ⟨e1, e2, e3⟩ := hk
      refine hnext S' rho' a' w' ?_
      have hH : app (Hn B r E ops.size) eff = Hn B r (fun k => E k || beqN k i) ops.size := by
        rw [e2]
        by_cases hne : (r i).eff = []
        · rw [hne]
          show Hn B r E ops.size = _
          have : ∀ m, Hn B r (fun k => E k || beqN k i) m = Hn B r E m := by
            intro m
            induction m with
            | zero => rfl
            | succ m ih =>
              simp only [Hn]
              rw [ih]
              by_cases e : m = i
              · subst e; rw [hi, beqN_eq.2 rfl, hne]; rfl
              · have : beqN m i = false := by rw [Bool.eq_false_iff]; intro h; exact e (beqN_eq.1 h)
                rw [this, Bool.or_false]
          exact (this _).symm
        · have h3 : cls A.C ap o.op = 3 := by
            by_cases h3 : cls A.C ap o.op = 3
            · exact h3
            · exact absurd (D.quiet h3) hne
          exact (Hn_set hi ops.size (wlate (.inl h3)) hin).symm
      have sim2 := sim'
      rw [tput v e1] at sim2
      have sim3 : Sim A (addV All o.dst) (addL (LE ops r E) new (o.dst.getD 0)) S' rho' ⟨TE ops st (fun k => E k || beqN k i), Hn B r (fun k => E k || beqN k i) ops.size⟩ a' w' := by rw [← hH]; exact sim2
      refine sim3.weak (fun _ _ => .inl trivial) fun d => ?_
      cases hnew : new with
      | none =>
        refine ⟨fun h k b hcr => ?_, fun h k b hcr => by simp [h k b hcr]⟩
        have := h k b hcr
        simp only [Bool.or_eq_true] at this
        rcases this with h | h
        · exact h
        · have := beqN_eq.1 h
          subst this
          obtain ⟨o', h1, h2, h4⟩ := hcr
          rw [← e3, hnew] at h4
          cases h4
      | some b =>
        obtain ⟨d', hdst⟩ : ∃ d, o.dst = some d := by
          have := D.ndst
          rw [← e3, hnew] at this
          cases hd' : o.dst with
          | none => rw [hd'] at this; cases this
          | some d => exact ⟨d, rfl⟩
        rw [hdst]
        show _ ↔ (LE ops r E d ∨ d = d')
        refine ⟨fun h => ?_, fun h k b' hcr => ?_⟩
        · by_cases e : d = d'
          · exact .inr e
          · refine .inl fun k b' hcr => ?_
            have := h k b' hcr
            simp only [Bool.or_eq_true] at this
            rcases this with h | h
            · exact h
            · have := beqN_eq.1 h
              subst this
              obtain ⟨o', h1, h2, h4⟩ := hcr
              rw [ho] at h1
              injection h1 with h1
              rw [← h1, hdst] at h2
              injection h2 with h2
              exact absurd h2.symm e
        · rcases h with h | h
          · simp [h k b' hcr]
          · obtain ⟨o', h1, h2, h4⟩ := hcr
            have : k = i := by
              rcases Nat.lt_trichotomy k i with h5 | h5 | h5
              · exact absurd (by rw [hdst, h]) ((hp k i o' o h5 h1 ho).dst d h2)
              · exact h5
              · exact absurd (by rw [h2, h]) ((hp i k o o' h5 ho h1).dst d' hdst)
            simp [this, beqN_eq.2]
  · have hrun' : (r i).run = false := by simpa using hrun
    obtain ⟨n1, n2, n3⟩ := D.not hrun'
    have hwant : Region.wanted o (yielded ops a.tmps) = false := by
      have hg := D.guard
      unfold Region.wanted
      split at hg
      · rw [hrun'] at hg; cases hg
      · rename_i g want h
        rw [h]
        obtain ⟨og, tg, b, k1, k2, k3, k4⟩ := hg
        have hlook : tg ∈ o.looksAt ops := List.mem_append_right _ (by rw [h]; simp [show ops[g]? = some og by simpa using k1, k2])
        have := yielded_of sim (ops := ops) (g := g) (by simpa using k1) k2 trivial (by show TE ops st E tg = _; rw [tsame tg hlook]; exact k3)
        simp only [this]
        rw [hrun'] at k4
        exact k4.symm
    rw [if_neg (by rw [hwant]; decide)]
    refine hnext S rho _ _ ?_
    have sim2 := sim.value o.dst hdo unAV undef (.p _ _ (.im _))
    rw [tput unAV n1.symm] at sim2
    have hH : Hn B r (fun k => E k || beqN k i) ops.size = Hn B r E ops.size := by
      have : ∀ m, Hn B r (fun k => E k || beqN k i) m = Hn B r E m := by
        intro m
        induction m with
        | zero => rfl
        | succ m ih =>
          simp only [Hn]
          rw [ih]
          by_cases e : m = i
          · subst e; rw [hi, beqN_eq.2 rfl, n2]; rfl
          · have : beqN m i = false := by rw [Bool.eq_false_iff]; intro h; exact e (beqN_eq.1 h)
            rw [this, Bool.or_false]
      exact this _
    rw [hH]
    refine sim2.weak (fun _ _ => .inl trivial) fun d => ⟨fun h k b hcr => ?_, fun h k b hcr => by simp [h k b hcr]⟩
    have := h k b hcr
    simp only [Bool.or_eq_true] at this
    rcases this with h | h
    · exact h
    · have := beqN_eq.1 h
      subst this
      obtain ⟨o', h1, h2, h4⟩ := hcr
      rw [n3] at h4
      cases h4

theorem filter_lt {p q : Nat → Bool} (hpq : ∀ x, q x = true → p x = true) {i : Nat} (hp : p i = true) (hq : q i = false) : ∀ (l : List Nat), (l.filter q).length ≤ (l.filter p).length ∧ (i ∈ l → (l.filter q).length < (l.filter p).length) := by
  intro l
  induction l with
  | nil => exact ⟨Nat.le_refl _, fun h => by cases h⟩
  | cons x l ih =>
    simp only [List.filter_cons]
    refine ⟨?_, fun h => ?_⟩
    · cases hqx : q x with
      | true => rw [hpq x hqx]; simp; exact ih.1
      | false => cases p x <;> simp <;> have := ih.1 <;> omega
    · rcases List.mem_cons.1 h with e | e
      · subst e; rw [hp, hq]; simp; have := ih.1; omega
      · have := ih.2 e
        cases hqx : q x with
        | true => rw [hpq x hqx]; simp; exact this
        | false => cases p x <;> simp <;> omega

theorem draw_go {A : Amb} (hC : CtxOK A.C) (hap : ap = ops.toList.any fun o => isKill A.C o.op) (hok : drawOK A.C ops = true) (hd : ∀ o ∈ ops.toList, tmpsOK o A.n) (H : ∀ (i : Nat) o, ops[i]? = some o → DStep A.C ap ops.toList o (st i) (r i) (st (i + 1))) (G : ∀ (i : Nat) o, ops[i]? = some o → DLook A.C ap X (lateFl A.C ap ops) o (st i) (r i) i) {B : Nat → AB} (hB1 : ∀ k d b, Crt ops r k d b → B d = b) (hB2 : ∀ d, ¬ Pend ops r 0 d → B d = (st 0).h d) (h0 : ∀ d, Pend ops r 0 d → (st 0).h d = .none)
    {Q : Exit → Act → World → Prop} (hQ : ∀ S rho a w, Sim A All All S rho (st ops.size) a w → Q .normal a w) :
    ∀ (fuel : Nat) (listed : Array Bool) (S : Nat → Prop) (rho : Nat → Value) (a : Act) (w : World), listed.size = ops.size → Closed ops (fun i => listed.getD i false) → ((List.range ops.size).filter fun i => !listed.getD i false).length ≤ fuel →
      Sim A All (LE ops r fun i => listed.getD i false) S rho ⟨TE ops st (fun i => listed.getD i false), Hn B r (fun i => listed.getD i false) ops.size⟩ a w → wpAny A.C.P .any ops Q fuel listed a w := by
  obtain ⟨hcert, hs, hp⟩ := pair_spec hok
  obtain ⟨hdown, _⟩ := cert_spec hcert
  have hh := heap_claim hok H hB1 hB2 h0
  -- all has been run
  have fin : ∀ (listed : Array Bool) (S : Nat → Prop) (rho : Nat → Value) (a : Act) (w : World), listed.size = ops.size → Region.ready .any ops listed = [] → Sim A All (LE ops r fun i => listed.getD i false) S rho ⟨TE ops st (fun i => listed.getD i false), Hn B r (fun i => listed.getD i false) ops.size⟩ a w → Q .normal a w := by
    intro listed S rho a w hsz hr sim
    have all : ∀ i, i < ops.size → listed.getD i false = true := by
      intro i
      induction i using Nat.strongRecOn with
      | _ i ih =>
        intro hi
        have ho : ops[i]? = some ops[i] := Array.getElem?_eq_getElem hi
        cases hl : listed.getD i false with
        | true => rfl
        | false =>
          have : i ∈ Region.ready .any ops listed := mem_ready.2 ⟨getD_in (by omega) hl, _, ho, fun e he hb => by
            have h1 := hdown i _ ho e he hb
            exact ih e.on h1 (by omega)⟩
          rw [hr] at this
          cases this
    refine hQ S rho a w ?_
    have hH : Hn B r (fun i => listed.getD i false) ops.size = (st ops.size).h := by
      rw [Hn_eq ops.size ops.size (fun k hk => .inl ⟨fun _ => hk, fun _ => all k hk⟩) (Nat.le_refl _)]
      funext d
      refine ((hh ops.size (Nat.le_refl _) d).2 fun ⟨k, b, h1, o, h2, _⟩ => ?_).symm
      have := (Array.getElem?_eq_some_iff.1 h2).1
      omega
    have hT : TE ops st (fun i => listed.getD i false) = (st ops.size).t := funext fun x => if_pos fun k o hk _ => all k (Array.getElem?_eq_some_iff.1 hk).1
    rw [hH, hT] at sim
    refine sim.weak (fun _ _ => trivial) fun d => ⟨fun _ k b hc => ?_, fun _ => trivial⟩
    obtain ⟨o, h2, _⟩ := hc
    exact all k (Array.getElem?_eq_some_iff.1 h2).1
  intro fuel
  induction fuel with
  | zero =>
    intro listed S rho a w hsz hcl hcnt sim
    have hr : Region.ready .any ops listed = [] := by
      rw [List.eq_nil_iff_forall_not_mem]
      intro i hi
      obtain ⟨h1, o, ho, _⟩ := mem_ready.1 hi
      have hlt := (Array.getElem?_eq_some_iff.1 ho).1
      have hm : i ∈ (List.range ops.size).filter fun i => !listed.getD i false := List.mem_filter.2 ⟨List.mem_range.2 hlt, by rw [getD_both h1]; rfl⟩
      have := List.eq_nil_of_length_eq_zero (Nat.le_zero.1 hcnt)
      rw [this] at hm
      cases hm
    exact ⟨hr, fin listed S rho a w hsz hr sim⟩
  | succ fuel ih =>
    intro listed S rho a w hsz hcl hcnt sim
    refine ⟨fun hr => fin listed S rho a w hsz hr sim, fun i hi => ?_⟩
    obtain ⟨h1, o, ho, hall⟩ := mem_ready.1 hi
    have hlt := (Array.getElem?_eq_some_iff.1 ho).1
    have hEi : listed.getD i false = false := getD_both h1
    have hset : (fun k => (listed.setIfInBounds i true).getD k false) = fun k => listed.getD k false || beqN k i := by
      funext k
      by_cases e : i = k
      · subst e
        rw [beqN_eq.2 rfl, Bool.or_true]
        simp [hsz, hlt]
      · rw [getD_set_ne false e]
        have : beqN k i = false := by rw [Bool.eq_false_iff]; intro h; exact e (beqN_eq.1 h).symm
        rw [this, Bool.or_false]
    refine draw_op hC hap hok hd H G hB1 hB2 h0 (E := fun i => listed.getD i false) hcl ho hEi hall sim fun S' rho' a' w' sim' => ?_
    refine ih (listed.setIfInBounds i true) S' rho' a' w' (by simp [hsz]) ?_ ?_ ?_
    · rw [hset]
      intro j oj hj hEj e he hb
      simp only [Bool.or_eq_true] at hEj ⊢
      rcases hEj with h | h
      · exact .inl (hcl j oj hj h e he hb)
      · have := beqN_eq.1 h
        subst this
        rw [ho] at hj
        injection hj with hj
        subst hj
        exact .inl (hall e he hb)
    · have hset' : ∀ k, (listed.setIfInBounds i true).getD k false = (listed.getD k false || beqN k i) := fun k => congrFun hset k
      have := (filter_lt (p := fun k => !listed.getD k false) (q := fun k => !(listed.setIfInBounds i true).getD k false) (fun x hx => by
        rw [hset' x] at hx
        cases hl : listed.getD x false with
        | true => rw [hl] at hx; cases hx
        | false => rfl) (i := i) (by rw [hEi]; rfl) (by rw [hset' i, beqN_eq.2 rfl, Bool.or_true]; rfl) (List.range ops.size)).2 (List.mem_range.2 hlt)
      omega
    · rw [hset]; exact sim'
end

/-- an object that no slot and no box names, and that is not there -/
def HX.avs : List HX → List AV
  | [] => []
  | .av x :: r => x :: HX.avs r
  | .row _ _ :: r => HX.avs r
theorem HX.avs_map (f : AV → AV) : ∀ (r : List HX), HX.avs (r.map (HX.mapAV f)) = (HX.avs r).map f
  | [] => rfl
  | .av x :: r => by simp [HX.avs, HX.mapAV, HX.avs_map f r]
  | .row _ _ :: r => by simp [HX.avs, HX.mapAV, HX.avs_map f r]
theorem HX.avs_mem {x : AV} : ∀ {r : List HX}, .av x ∈ r → x ∈ HX.avs r
  | .av y :: r, h => by
    rcases List.mem_cons.1 h with h | h
    · injection h with h; subst h; simp [HX.avs]
    · simp [HX.avs, HX.avs_mem h]
  | .row _ _ :: r, h => by
    rcases List.mem_cons.1 h with h | h
    · cases h
    · simp [HX.avs, HX.avs_mem h]
def abCells : AB → List AV
  | .box cs => cs
  | .tbox _ cs => cs
  | .hrow _ es => es.flatMap HX.avs
  | _ => []
theorem abCells_sc (d : Nat) (b : AB) : abCells (scB d b) = (abCells b).map (sc d) := by
  cases b with
  | hrow e es =>
    show (es.map fun r => r.map (HX.mapAV (sc d))).flatMap HX.avs = (es.flatMap HX.avs).map (sc d)
    induction es with
    | nil => rfl
    | cons r es ih => simp only [List.map_cons, List.flatMap_cons, List.map_append, ih, HX.avs_map]
  | _ => rfl
def NoRef (d : Nat) (s : AS) : Prop := s.h d = .none ∧ (∀ j, men d (s.t j) = false) ∧ ∀ k, ∀ x ∈ abCells (s.h k), men d x = false
theorem men_sc (d : Nat) (x : AV) : men d (sc d x) = false := by
  rw [sc_eq]
  split
  · rfl
  · assumption
theorem men_sc' {d d' : Nat} {x : AV} (h : men d x = false) : men d (sc d' x) = false := by
  rw [sc_eq]
  split
  · rfl
  · exact h
theorem scr_h (d : Nat) (s : AS) (k : Nat) : (k = d ∧ (scr d s).h k = .none) ∨ (k ≠ d ∧ (scr d s).h k = scB d (s.h k)) := by
  by_cases e : k = d
  · subst e; exact .inl ⟨rfl, by show upd (fun k' => scB k (s.h k')) k AB.none k = _; rw [upd_same]⟩
  · exact .inr ⟨e, by show upd (fun k' => scB d (s.h k')) d AB.none k = _; rw [upd_ne _ _ e]⟩
theorem noref_scr (d : Nat) (s : AS) : NoRef d (scr d s) := by
  refine ⟨by rcases scr_h d s d with ⟨_, h⟩ | ⟨h, _⟩; exact h; exact absurd rfl h, fun j => men_sc d _, fun k x hx => ?_⟩
  rcases scr_h d s k with ⟨_, h⟩ | ⟨_, h⟩
  · rw [h] at hx; cases hx
  · rw [h, abCells_sc] at hx
    obtain ⟨y, _, rfl⟩ := List.mem_map.1 hx
    exact men_sc d y
theorem noref_scr' {d : Nat} {s : AS} (d' : Nat) (hn : NoRef d s) : NoRef d (scr d' s) := by
  obtain ⟨h1, h2, h3⟩ := hn
  refine ⟨?_, fun j => men_sc' (h2 j), fun k x hx => ?_⟩
  · rcases scr_h d' s d with ⟨_, h⟩ | ⟨_, h⟩
    · exact h
    · rw [h, h1]; rfl
  · rcases scr_h d' s k with ⟨_, h⟩ | ⟨_, h⟩
    · rw [h] at hx; cases hx
    · rw [h, abCells_sc] at hx
      obtain ⟨y, hy, rfl⟩ := List.mem_map.1 hx
      exact men_sc' (h3 k y hy)
def preS : List Oper → AS → AS
  | [], s => s
  | o :: r, s => match mayNew o.op with
    | true => preS r (scr (o.dst.getD 0) s)
    | false => preS r s
theorem preS_noref : ∀ (l : List Oper) (s : AS), (∀ d, NoRef d s → NoRef d (preS l s)) ∧ ∀ o ∈ l, mayNew o.op = true → NoRef (o.dst.getD 0) (preS l s) := by
  intro l
  induction l with
  | nil => intro s; exact ⟨fun _ h => h, fun o h => by cases h⟩
  | cons o l ih =>
    intro s
    unfold preS
    split
    · rename_i hm
      refine ⟨fun d hd => (ih _).1 d (noref_scr' _ hd), fun o' ho' hm' => ?_⟩
      rcases List.mem_cons.1 ho' with e | e
      · subst e; exact (ih _).1 _ (noref_scr _ _)
      · exact (ih _).2 o' e hm'
    · rename_i hm
      refine ⟨fun d hd => (ih _).1 d hd, fun o' ho' hm' => ?_⟩
      rcases List.mem_cons.1 ho' with e | e
      · subst e; rw [hm'] at hm; cases hm
      · exact (ih _).2 o' e hm'
theorem Sim.scr {A : Amb} {S : Nat → Prop} {rho : Nat → Value} {s : AS} {a : Act} {w : World} (sim : Sim A All All S rho s a w) (d : Nat) : Sim A All All S rho (scr d s) a w := by
  have h1 := sim.free d .none
  have hn : (AM.scr d s).h d = .none := (noref_scr d s).1
  rw [upd_self _ _ _ hn] at h1
  exact h1.addDead d hn
theorem Sim.pre {A : Amb} {S : Nat → Prop} {rho : Nat → Value} {a : Act} {w : World} : ∀ (l : List Oper) (s : AS), Sim A All All S rho s a w → Sim A All All S rho (preS l s) a w := by
  intro l
  induction l with
  | nil => intro s sim; exact sim
  | cons o l ih =>
    intro s sim
    unfold preS
    split
    · exact ih _ (sim.scr _)
    · exact ih _ sim
/-- the names behind a region: an own slice is called as its variable -/
def postOp (o : Oper) (s : AS) : AS := match o.op, o.dst with
  | .assign _, some d => match s.t d with
    | .ow i => match s.h i with
      | .row _ _ => match beqN i d with
        | true => s
        | false => renS i d s
      | .hrow _ _ => match beqN i d with
        | true => s
        | false => renS i d s
      | _ => s
    | _ => s
  | _, _ => s
def postS : List Oper → AS → AS
  | [], s => s
  | o :: r, s => postS r (postOp o s)
theorem Sim.post {A : Amb} {S : Nat → Prop} {a : Act} {w : World} : ∀ (l : List Oper) (rho : Nat → Value) (s : AS), (∀ o ∈ l, tmpsOK o A.n) → Sim A All All S rho s a w → ∃ rho', Sim A All All S rho' (postS l s) a w := by
  intro l
  induction l with
  | nil => intro rho s _ sim; exact ⟨rho, sim⟩
  | cons o l ih =>
    intro rho s hd sim
    have hd' : ∀ o ∈ l, tmpsOK o A.n := fun o' ho' => hd o' (by simp [ho'])
    have : ∃ rho', Sim A All All S rho' (postOp o s) a w := by
      unfold postOp
      split
      · rename_i d _ hdst
        split
        · split
          · split
            · exact ⟨rho, sim⟩
            · rename_i hne
              refine ⟨_, sim.rename _ d (fun e => ?_) (Nat.lt_of_lt_of_le (hd o (by simp) d hdst) sim.nb)⟩
              rw [beqN_eq.2 e] at hne
              cases hne
          · split
            · exact ⟨rho, sim⟩
            · rename_i hne
              refine ⟨_, sim.rename _ d (fun e => ?_) (Nat.lt_of_lt_of_le (hd o (by simp) d hdst) sim.nb)⟩
              rw [beqN_eq.2 e] at hne
              cases hne
          · exact ⟨rho, sim⟩
        · exact ⟨rho, sim⟩
      · exact ⟨rho, sim⟩
    obtain ⟨rho', sim'⟩ := this
    exact ih rho' _ hd' sim'

theorem anyMen_mem {d : Nat} {c : AV} : ∀ {xs : List AV}, c ∈ xs → men d c = true → anyMen d xs = true := by
  intro xs
  induction xs with
  | nil => intro h; cases h
  | cons x xs ih =>
    intro h hm
    simp only [anyMen, Bool.or_eq_true]
    rcases List.mem_cons.1 h with e | e
    · subst e; exact .inl hm
    · exact .inr (ih e hm)
theorem LRep.loc {S : Nat → Prop} {w : World} {P : Program} {L' : Nat → Prop} {rho : Nat → Value} {h h' : Nat → AB} {x : AV} {v : Value} (hx : LRep S w P All rho h x v) (hm : ∀ k, men k x = true → h' k = h k ∧ L' k) : LRep S w P L' rho h' x v := by
  induction hx with
  | p x v hx => exact .p x v hx
  | nl => exact .nl
  | ow k v hv => obtain ⟨h1, h2⟩ := hm k (by simp only [men]; exact beqN_eq.2 rfl); exact .ow k v fun ht => ⟨h2, (hv (by rw [← h1]; exact ht)).2⟩
  | rp k a b v hv => obtain ⟨h1, h2⟩ := hm k (by simp only [men]; exact beqN_eq.2 rfl); exact .rp k a b v fun e he => ⟨h2, (hv e (by rw [← h1]; exact he)).2⟩
  | bx k a v hv => obtain ⟨h1, h2⟩ := hm k (by simp only [men]; exact beqN_eq.2 rfl); exact .bx k a v fun ht => ⟨h2, (hv (by rw [← h1]; exact ht)).2⟩
  | vw k a b v hv => obtain ⟨h1, h2⟩ := hm k (by simp only [men]; exact beqN_eq.2 rfl); exact .vw k a b v fun e he => ⟨h2, (hv e (by rw [← h1]; exact he)).2⟩
  | fn f cap vs hl hc ih => exact .fn f cap vs hl fun j c u hj hu => ih j c u hj hu fun k hk => hm k (anyMen_mem (List.mem_of_getElem? hj) hk)
  | tu xs vs hl hc ih => exact .tu xs vs hl fun j c u hj hu => ih j c u hj hu fun k hk => hm k (anyMen_mem (List.mem_of_getElem? hj) hk)
  | st xs vs hl h0 hc ih => exact .st xs vs hl h0 fun j c u hj hu => ih j c u hj hu fun k hk => hm k (anyMen_mem (List.mem_of_getElem? hj) hk)
  | junk v => exact .junk v

theorem W_draw {A : Amb} (hC : CtxOK A.C) {id : Nat} {ops : Array Oper} {K : Exit → AS → Prop} {s : AS} (hok : drawOK A.C ops = true) (hd : ∀ o ∈ ops.toList, tmpsOK o A.n)
    (h : ∃ X, dops A.C (ops.toList.any fun o => isKill A.C o.op) X ops.toList (lateFl A.C (ops.toList.any fun o => isKill A.C o.op) ops) ops.toList (fun s' => K .normal (postS ops.toList s')) (preS ops.toList s)) : W A (.region id ops true) K s := by
  intro S rho a w sim
  have sim0 := (sim.grow hC w.drew ⟨rfl, rfl, rfl, Nat.le_refl _, fun _ _ _ => rfl⟩).pre ops.toList s
  obtain ⟨X, h⟩ := h
  obtain ⟨st, r, h1, h2, h3⟩ := dops_run ops.toList _ _ h
  have hsz : ops.toList.length = ops.size := by simp
  rw [hsz] at h2
  have H : ∀ (i : Nat) o, ops[i]? = some o → DStep A.C (ops.toList.any fun o => isKill A.C o.op) ops.toList o (st i) (r i) (st (i + 1)) := fun i o ho => (h3 i o (by simpa using ho)).1
  have G : ∀ (i : Nat) o, ops[i]? = some o → DLook A.C (ops.toList.any fun o => isKill A.C o.op) X (lateFl A.C (ops.toList.any fun o => isKill A.C o.op) ops) o (st i) (r i) i := fun i o ho => (h3 i o (by simpa using ho)).2
  have nr : ∀ k d b, Crt ops r k d b → NoRef d (st 0) := fun k d b ⟨o, ho, hdst, hb⟩ => by
    have hnd := (H k o ho).ndst
    rw [hb, hdst] at hnd
    rw [h1]
    have := (preS_noref ops.toList s).2 o (List.mem_of_getElem? (by simpa using ho)) hnd
    rw [hdst] at this
    exact this
  have pend : ∀ d, Pend ops r 0 d → NoRef d (st 0) := fun d ⟨k, b, _, hc⟩ => nr k d b hc
  -- the heap with all objects that will be made
  have hdec : ∀ d, Decidable (∃ b k, Crt ops r k d b) := fun d => Classical.propDecidable _
  obtain ⟨B, hB⟩ : ∃ B : Nat → AB, B = fun d => @dite _ (∃ b k, Crt ops r k d b) (hdec d) (fun h => Classical.choose h) (fun _ => (st 0).h d) := ⟨_, rfl⟩
  obtain ⟨_, _, hp⟩ := pair_spec hok
  have hB1 : ∀ k d b, Crt ops r k d b → B d = b := by
    intro k d b hc
    have hex : ∃ b k, Crt ops r k d b := ⟨b, k, hc⟩
    rw [hB]
    simp only
    rw [dif_pos hex]
    obtain ⟨k', hc'⟩ := Classical.choose_spec hex
    generalize Classical.choose hex = b' at hc'
    obtain ⟨o, e1, e2, e3⟩ := hc
    obtain ⟨o', f1, f2, f3⟩ := hc'
    have : k = k' := by
      rcases Nat.lt_trichotomy k k' with h | h | h
      · exact absurd f2 ((hp k k' o o' h e1 f1).dst d e2)
      · exact h
      · exact absurd e2 ((hp k' k o' o h f1 e1).dst d f2)
    subst this
    rw [e3] at f3
    injection f3 with f3
    exact f3.symm
  have hB2 : ∀ d, ¬ Pend ops r 0 d → B d = (st 0).h d := by
    intro d hn
    rw [hB]
    simp only
    rw [dif_neg fun ⟨b, k, hc⟩ => hn ⟨k, b, Nat.zero_le _, hc⟩]
  have hle : ∀ d, ¬ Pend ops r 0 d → LE ops r (fun _ => false) d := fun d hn k b hc => absurd ⟨k, b, Nat.zero_le _, hc⟩ hn
  have hle' : ∀ d, LE ops r (fun _ => false) d → ¬ Pend ops r 0 d := fun d hl ⟨k, b, _, hc⟩ => by cases hl k b hc
  rw [← h1] at sim0
  have simB : Sim A All (LE ops r fun _ => false) S rho ⟨TE ops st (fun _ => false), B⟩ a w.drew :=
    { tm := fun j _ => by
        have ht : TE ops st (fun _ => false) j = (st 0).t j := by
          unfold TE
          split
          · rename_i hv
            exact st_else H (fun k o hk e => by cases hv k o hk e) ops.size (Nat.le_refl _)
          · rfl
        show LRep _ _ _ _ _ _ (TE ops st (fun _ => false) j) _
        rw [ht]
        refine (sim0.tm j trivial).loc fun k hk => ?_
        have hn : ¬ Pend ops r 0 k := fun hpd => by rw [(pend k hpd).2.1 j] at hk; cases hk
        exact ⟨hB2 k hn, hle k hn⟩
      sz := sim0.sz, df := sim0.df, nb := sim0.nb, pn := sim0.pn, ev := sim0.ev, s0 := sim0.s0, st := sim0.st, sb := sim0.sb
      hp := fun k hk => by
        have hn := hle' k hk
        show HRep _ _ _ _ _ _ _ (B k)
        rw [hB2 k hn]
        have hh := sim0.hp k trivial
        cases hb : (st 0).h k with
        | none => trivial
        | row e es => rw [hb] at hh; exact hh
        | frz es => rw [hb] at hh; exact hh
        | fbx es => rw [hb] at hh; exact hh
        | map mk es => rw [hb] at hh; exact hh
        | box cs =>
          rw [hb] at hh
          obtain ⟨g, ty, c, k1, k2, k3, k4⟩ := hh
          refine ⟨g, ty, c, k1, k2, k3, fun j x u hj hu => ⟨(k4 j x u hj hu).1, (k4 j x u hj hu).2.loc fun i hi => ?_⟩⟩
          have hni : ¬ Pend ops r 0 i := fun hpd => by rw [(pend i hpd).2.2 k x (by rw [hb]; exact List.mem_of_getElem? hj)] at hi; cases hi
          exact ⟨hB2 i hni, hle i hni⟩
        | tbox ty cs =>
          rw [hb] at hh
          obtain ⟨g, c, k1, k2, k3, k4⟩ := hh
          refine ⟨g, c, k1, k2, k3, fun j x u hj hu => ⟨(k4 j x u hj hu).1, (k4 j x u hj hu).2.loc fun i hi => ?_⟩⟩
          have hni : ¬ Pend ops r 0 i := fun hpd => by rw [(pend i hpd).2.2 k x (by rw [hb]; exact List.mem_of_getElem? hj)] at hi; cases hi
          exact ⟨hB2 i hni, hle i hni⟩
        | hbox cs => rw [hb] at hh; exact hh
        | hrow e es =>
          rw [hb] at hh
          obtain ⟨⟨i0, xs, k1, k2, k3, k4, k5, k6⟩, hS⟩ := hh
          refine ⟨⟨i0, xs, k1, k2, k3, k4, k5, fun a' r j x ha hj => ?_⟩, hS⟩
          obtain ⟨u, hu, hr⟩ := k6 a' r j x ha hj
          refine ⟨u, hu, ?_⟩
          cases x with
          | row e' es' => exact hr
          | av x =>
            refine LRep.loc hr fun i hi => ?_
            have hni : ¬ Pend ops _ 0 i := fun hpd => by rw [(pend i hpd).2.2 k x (by rw [hb]; exact List.mem_flatMap.2 ⟨r, List.mem_of_getElem? ha, HX.avs_mem (List.mem_of_getElem? hj)⟩)] at hi; cases hi
            exact ⟨hB2 i hni, hle i hni⟩
      dj := fun i j g hi hj li lj hgi hgj => by
        have li' : (B i).live := li
        have lj' : (B j).live := lj
        have hgi : hasB _ (B i) (rho i) g := hgi
        have hgj : hasB _ (B j) (rho j) g := hgj
        rw [hB2 i (hle' i hi)] at li' hgi
        rw [hB2 j (hle' j hj)] at lj' hgj
        exact sim0.dj i j g trivial trivial li' lj' hgi hgj
      lv := fun i g hi li hg => by
        have li' : (B i).live := li
        have hg : hasB _ (B i) (rho i) g := hg
        rw [hB2 i (hle' i hi)] at li' hg
        exact sim0.lv i g trivial li' hg
      fr := sim0.fr }
  refine wp_region_any hC.any ?_
  have hE0 : (fun i => (Array.replicate ops.size false).getD i false) = fun _ => false := by
    funext i
    exact getD_replicate_false _ _
  refine draw_go hC rfl hok hd H G hB1 hB2 (fun d hpd => (pend d hpd).1) (fun S' rho' a' w' sim' => ?_) ops.size (Array.replicate ops.size false) S rho a w.drew (by simp) ?_ ?_ ?_
  · obtain ⟨rho2, sim2⟩ := sim'.post ops.toList rho' (st ops.size) hd
    exact ⟨S', rho2, _, sim2, h2⟩
  · rw [hE0]; intro j oj _ h; cases h
  · have : ((List.range ops.size).filter fun i => !(Array.replicate ops.size false).getD i false).length ≤ (List.range ops.size).length := List.length_filter_le _ _
    simpa using this
  · rw [hE0]
    have : ∀ m, Hn B r (fun _ => false) m = B := by
      intro m
      induction m with
      | zero => rfl
      | succ m ih => exact ih
    rw [this]
    exact simB
end Go.AM
namespace Go.AM
open Go.RowKit

def dstOK (n : Nat) (o : Oper) : Bool := match o.dst with
  | some d => Nat.blt d n
  | none => true
/-- the slots are there, and open orders do no harm -/
def codeOK (C : Ctx) (n : Nat) : Code → Bool
  | .region _ ops draw => ops.toList.all (dstOK n) && (!draw || drawOK C ops)
  | .seq a b => codeOK C n a && codeOK C n b
  | .cond _ a b => codeOK C n a && codeOK C n b
  | .block _ c => codeOK C n c
  | .loop c => codeOK C n c
  | _ => true

def then_ (f : AS → Prop) (K : Exit → AS → Prop) : Exit → AS → Prop
  | .normal, s => f s
  | e, s => K e s
def inBlk (id : Nat) (K : Exit → AS → Prop) : Exit → AS → Prop
  | .exit i, s => bcase (beqN i id) (K .normal s) (K (.exit i) s)
  | e, s => K e s
def awp (A : Amb) : Code → (Exit → AS → Prop) → AS → Prop
  | .skip, K, s => K .normal s
  | .region _ ops draw, K, s => match draw with
    | false => aops A.C ops.toList ops.toList (K .normal) s
    | true => ∃ X, dops A.C (ops.toList.any fun o => isKill A.C o.op) X ops.toList (lateFl A.C (ops.toList.any fun o => isKill A.C o.op) ops) ops.toList (fun s' => K .normal (postS ops.toList s')) (preS ops.toList s)
  | .seq a b, K, s => awp A a (then_ (fun s' => ∃ s'', SLe A s' s'' ∧ awp A b K s'') K) s
  | .cond c a b, K, s => match ev s.t c with
    | .p (.im (.bool t)) => bcase t (awp A a K s) (awp A b K s)
    | _ => False
  | .block id c, K, s => awp A c (inBlk id K) s
  | .loop c, K, s => ∃ (α : Type) (I : α → AS → Prop) (m : α → Nat), (∃ x s', SLe A s s' ∧ I x s') ∧ ∀ x s, I x s → awp A c (then_ (fun s' => ∃ y s'', SLe A s' s'' ∧ I y s'' ∧ m y < m x) K) s
  | .exit id, K, s => K (.exit id) s
  | .ret, K, s => K .ret s
  | _, _, _ => False

theorem tmps_of {n : Nat} {ops : Array Oper} (h : ops.toList.all (dstOK n) = true) : ∀ o ∈ ops.toList, tmpsOK o n := by
  intro o ho d hd
  have := List.all_eq_true.1 h o ho
  unfold dstOK at this
  rw [hd] at this
  exact Nat.le_of_ble_eq_true this
theorem awp_sound {A : Amb} (hC : CtxOK A.C) : ∀ (c : Code) (K : Exit → AS → Prop) (s : AS), codeOK A.C A.n c = true → awp A c K s → W A c K s := by
  intro c
  induction c with
  | skip => intro K s _ h S rho a w sim; exact wp_skip ⟨S, rho, s, sim, h⟩
  | region id ops draw =>
    intro K s hok h
    simp only [codeOK, Bool.and_eq_true] at hok
    cases draw with
    | false => exact W_region hC (tmps_of hok.1) h
    | true => exact W_draw hC (by simpa using hok.2) (tmps_of hok.1) h
  | seq a b iha ihb =>
    intro K s hok h
    simp only [codeOK, Bool.and_eq_true] at hok
    refine W_seq ?_
    refine W_mono (iha _ s hok.1 h) fun e s' hk => ?_
    cases e with
    | normal =>
      obtain ⟨s2, hle, hk⟩ := hk
      exact fun S rho a w sim => by
        obtain ⟨S', rho', sim'⟩ := hle S rho a w sim
        exact ihb K s2 hok.2 hk S' rho' a w sim'
    | exit id => exact hk
    | goto l => exact hk
    | ret => exact hk
    | panic c => exact hk
    | outgrown => exact hk
  | cond c a b iha ihb =>
    intro K s hok h
    simp only [codeOK, Bool.and_eq_true] at hok
    simp only [awp] at h
    split at h
    · rename_i t ht
      refine W_cond ht (fun e => iha K s hok.1 ?_) (fun e => ihb K s hok.2 ?_)
      · rw [e] at h; exact h
      · rw [e] at h; exact h
    · exact h.elim
  | block id c ih =>
    intro K s hok h
    exact W_block (W_mono (ih _ s hok h) fun e s' hk => by cases e <;> exact hk)
  | loop c ih =>
    intro K s hok h
    obtain ⟨α, I, m, h0, hr⟩ := h
    refine W_loop I m h0 fun x s hi => ?_
    exact W_mono (ih _ s hok (hr x s hi)) fun e s' hk => by cases e <;> exact hk
  | exit id => intro K s _ h S rho a w sim; exact wp_exit ⟨S, rho, s, sim, h⟩
  | ret => intro K s _ h S rho a w sim; exact wp_ret ⟨S, rho, s, sim, h⟩
  | rangeFunc => intro K s _ h; exact h.elim
  | scope => intro K s _ h; exact h.elim
  | label => intro K s _ h; exact h.elim
  | goto => intro K s _ h; exact h.elim
  | refuse => intro K s _ h; exact h.elim

/-- slots and objects as a list says -/
def putL {α : Type} : List (Nat × α) → (Nat → α) → Nat → α
  | [], t => t
  | (i, v) :: r, t => upd (putL r t) i v
def invL {α : Type} : List (Nat × α) → (Nat → α) → Prop
  | [], _ => True
  | (i, v) :: r, t => t i = v ∧ invL r t
theorem putL_inv {α : Type} : ∀ (l : List (Nat × α)) (t : Nat → α), invL l t → putL l t = t := by
  intro l
  induction l with
  | nil => intro t _; rfl
  | cons p l ih =>
    intro t h
    obtain ⟨i, v⟩ := p
    show upd (putL l t) i v = t
    rw [ih t h.2]
    exact upd_self _ _ _ h.1
/-- what a loop keeps: x: what changes from round to round -/
theorem loop_ok {A : Amb} {c : Code} {K : Exit → AS → Prop} {s : AS} {α : Type} (R : α → Prop) (ts : α → List (Nat × AV)) (hs : α → List (Nat × AB)) (m : α → Nat) (x0 : α) (s0 : AS) (h0 : SLe A s s0) (hR : R x0) (ht : invL (ts x0) s0.t) (hh : invL (hs x0) s0.h)
    (round : ∀ x, R x → ∀ t h, awp A c (then_ (fun s' => ∃ y s'', SLe A s' s'' ∧ R y ∧ m y < m x ∧ invL (ts y) s''.t ∧ invL (hs y) s''.h) K) ⟨putL (ts x) t, putL (hs x) h⟩) : awp A (.loop c) K s := by
  refine ⟨α, fun x s => R x ∧ invL (ts x) s.t ∧ invL (hs x) s.h, m, ⟨x0, s0, h0, hR, ht, hh⟩, fun x s ⟨h1, h2, h3⟩ => ?_⟩
  have := round x h1 s.t s.h
  rw [putL_inv _ _ h2, putL_inv _ _ h3] at this
  have e : (then_ (fun s' => ∃ y s'', SLe A s' s'' ∧ R y ∧ m y < m x ∧ invL (ts y) s''.t ∧ invL (hs y) s''.h) K) = (then_ (fun s' => ∃ y s'', SLe A s' s'' ∧ (R y ∧ invL (ts y) s''.t ∧ invL (hs y) s''.h) ∧ m y < m x) K) := by
    funext e s'
    cases e <;> try rfl
    apply propext
    constructor
    · rintro ⟨y, s'', k1, k2, k3, k4, k5⟩; exact ⟨y, s'', k1, ⟨k2, k4, k5⟩, k3⟩
    · rintro ⟨y, s'', k1, ⟨k2, k4, k5⟩, k3⟩; exact ⟨y, s'', k1, k2, k3, k4, k5⟩
  rw [← e]
  exact this

/-- A FUNCTION, by what its body's machine shows. -/
theorem fun_awp {C : Ctx} (hC : CtxOK C) {f : FuncId} {fn : Func} {c : Code} (hf : C.P.funcs[f]? = some fn) (hb : fn.body = some c) (hname : (fn.name == "runtime.NumGoroutine") = false) {args : List Arg} {r : AR} {fin : List Fin} (n : Nat) (hn : args.length + (fn.ntmps - args.length) = n) (hn' : n ≤ 100000) (hok : codeOK C n c = true)
    (h : ∀ A : Amb, A.C = C → awp A c (endK C fn.results.toList args r fin) ⟨initT args, initH args⟩) : ACalls C f args r fin :=
  fun_ok hC hf hb hname (by omega) fun A hA hAn => awp_sound (by rw [hA]; exact hC) c _ _ (by rw [hA, hAn, hn]; exact hok) (h A hA)
end Go.AM
namespace Go.AM
open Go.RowKit

def lookT (l : List (Nat × TI)) (t : TypeId) : Option TI := match l with
  | [] => none
  | (i, ti) :: r => match Nat.beq i t with
    | true => some ti
    | false => lookT r t
theorem lookT_mem {t : TypeId} {ti : TI} : ∀ {l : List (Nat × TI)}, lookT l t = some ti → (t, ti) ∈ l := by
  intro l
  induction l with
  | nil => intro h; cases h
  | cons p l ih =>
    intro h
    obtain ⟨i, ti'⟩ := p
    unfold lookT at h
    split at h
    · rename_i e
      have := Nat.eq_of_beq_eq_true e
      subst this
      injection h with h
      subst h
      exact List.mem_cons_self ..
    · exact List.mem_cons_of_mem _ (ih h)

def zeroB : Value → Value → Bool
  | .int k n, .int k' n' => kB k k' && decide (n = n')
  | .bool b, .bool b' => b == b'
  | .string s, .string s' => s.data.toList == s'.data.toList
  | .slice none a b, .slice none a' b' => Nat.beq a a' && Nat.beq b b'
  | .pointer none, .pointer none => true
  | .map none, .map none => true
  | .nilFunc, .nilFunc => true
  | .nilIface, .nilIface => true
  | _, _ => false
theorem zeroB_eq {v u : Value} (h : zeroB v u = true) : v = u := by
  unfold zeroB at h
  split at h
  · simp only [Bool.and_eq_true, decide_eq_true_eq] at h
    rw [kB_eq h.1, h.2]
  · rw [eq_of_beq h]
  · have := eq_of_beq h
    congr 1
    exact ByteArray.ext (Array.ext' this)
  · simp only [Bool.and_eq_true] at h
    rw [Nat.eq_of_beq_eq_true h.1, Nat.eq_of_beq_eq_true h.2]
  · rfl
  · rfl
  · rfl
  · rfl
  · cases h
def zerosB : List Value → List Value → Bool
  | [], [] => true
  | v :: r, u :: s => zeroB v u && zerosB r s
  | _, _ => false
theorem zerosB_eq : ∀ {a b : List Value}, zerosB a b = true → a = b := by
  intro a
  induction a with
  | nil => intro b h; cases b with | nil => rfl | cons => cases h
  | cons v r ih =>
    intro b h
    cases b with
    | nil => cases h
    | cons u s =>
      simp only [zerosB, Bool.and_eq_true] at h
      rw [zeroB_eq h.1, ih h.2]
def aggD : TypeDesc → Bool
  | .struct _ | .array _ _ => true
  | _ => false
def fieldsB (P : Program) : List (Nat × Nat × Bool) → List Field → Bool
  | [], [] => true
  | f :: r, g :: s => Nat.beq f.1 g.offset && !Nat.beq f.2.1 0 && (match P.info? g.type with
    | some i => Nat.beq i.size f.2.1
    | none => false) && (match P.underlying g.type with
    | some d => aggD d == f.2.2
    | none => false) && fieldsB P r s
  | _, _ => false
def udB (P : Program) (t : TypeId) (ti : TI) : Bool := match ti.ud, P.underlying t with
  | .sc, some .bool => true
  | .sc, some d => !aggD d && !ti.eq
  | .int k, some (.int k') => kB k k'
  | .st fs, some (.struct gs) => fieldsB P fs gs.toList
  | .sl e, some (.slice e') => Nat.beq e e'
  | .mp k e, some (.map k' e') => Nat.beq k k' && Nat.beq e e'
  | .str, some .string => true
  | _, _ => false
def tiB (P : Program) (p : Nat × TI) : Bool := match P.info? p.1 with
  | some info => Nat.beq info.size p.2.size && Nat.beq info.bytes p.2.bytes && (match info.zero with
    | some z => zerosB z.cells.toList p.2.zero
    | none => false) && Nat.beq p.2.zero.length p.2.size && p.2.zero.all Value.oneCell' && udB P p.1 p.2
  | none => false
theorem fieldsB_spec {P : Program} : ∀ {fs : List (Nat × Nat × Bool)} {gs : List Field}, fieldsB P fs gs = true → fs.length = gs.length ∧ ∀ (i : Nat) f g, fs[i]? = some f → gs[i]? = some g → f.1 = g.offset ∧ f.2.1 ≠ 0 ∧ (∃ i2, P.info? g.type = some i2 ∧ i2.size = f.2.1) ∧
    (∃ d, P.underlying g.type = some d ∧ f.2.2 = (match d with | .struct _ | .array _ _ => true | _ => false)) := by
  intro fs
  induction fs with
  | nil => intro gs h; cases gs with | nil => exact ⟨rfl, by simp⟩ | cons => cases h
  | cons f r ih =>
    intro gs h
    cases gs with
    | nil => cases h
    | cons g s =>
      simp only [fieldsB, Bool.and_eq_true] at h
      obtain ⟨⟨⟨⟨h1, h2⟩, h3⟩, h4⟩, h5⟩ := h
      obtain ⟨h6, h7⟩ := ih h5
      refine ⟨by simp [h6], fun i f' g' hf hg => ?_⟩
      cases i with
      | succ i => exact h7 i f' g' (by simpa using hf) (by simpa using hg)
      | zero =>
        simp at hf hg
        subst hf hg
        refine ⟨Nat.eq_of_beq_eq_true h1, (fun e => by rw [e] at h2; cases h2), ?_, ?_⟩
        · split at h3
          · rename_i i hi; exact ⟨i, hi, Nat.eq_of_beq_eq_true h3⟩
          · cases h3
        · split at h4
          · rename_i d hd
            refine ⟨d, hd, ?_⟩
            rw [← eq_of_beq h4]
            cases d <;> rfl
          · cases h4
theorem tiB_ok {P : Program} {t : TypeId} {ti : TI} (h : tiB P (t, ti) = true) : TIok P t ti := by
  unfold tiB at h
  split at h
  · rename_i info hi
    simp only [Bool.and_eq_true] at h
    obtain ⟨⟨⟨⟨⟨h1, h2⟩, h3⟩, h4⟩, h5⟩, h6⟩ := h
    split at h3
    · rename_i z hz
      refine ⟨info, z, hi, Nat.eq_of_beq_eq_true h1, Nat.eq_of_beq_eq_true h2, hz, ?_, Nat.eq_of_beq_eq_true h4, fun v hv => List.all_eq_true.1 h5 v hv, ?_⟩
      · rw [← zerosB_eq h3]
      · simp only [udB] at h6
        split at h6
        · rename_i h7 h8
          rw [h7]
          exact ⟨⟨_, h8, trivial⟩, fun _ => h8⟩
        · rename_i d hne h7 h8
          rw [h7]
          simp only [Bool.and_eq_true] at h6
          refine ⟨⟨d, h8, ?_⟩, fun e => ?_⟩
          · cases d <;> first | trivial | (cases h6.1; done)
          · rw [e] at h6; cases h6.2
        · rename_i h7 h8; rw [h7, h8, kB_eq h6]
        · rename_i fs gs h7 h8
          rw [h7]
          obtain ⟨h9, h10⟩ := fieldsB_spec h6
          exact ⟨gs, h8, by simpa using h9, fun i f g hf hg => h10 i f g hf (by simpa using hg)⟩
        · rename_i h7 h8; rw [h7, h8, Nat.eq_of_beq_eq_true h6]
        · rename_i h7 h8
          simp only [Bool.and_eq_true] at h6
          rw [h7, h8, Nat.eq_of_beq_eq_true h6.1, Nat.eq_of_beq_eq_true h6.2]
        · rename_i h7 h8; rw [h7, h8]
        · cases h6
    · cases h3
  · cases h
def zsB (P : Program) (p : Nat × TI) : Bool := match P.info? p.1 with
  | some info => match info.zero with
    | some z => isAggV z == p.2.ud.agg
    | none => false
  | none => false
theorem zs_ok {P : Program} {l : List (Nat × TI)} (h : l.all (zsB P) = true) : ∀ t ti, lookT l t = some ti → ZeroOK P t ti := fun t ti ht => by
  have := List.all_eq_true.1 h _ (lookT_mem ht)
  unfold zsB at this
  split at this
  · rename_i info hi
    split at this
    · rename_i z hz
      exact ⟨info, z, hi, hz, eq_of_beq this⟩
    · cases this
  · cases this
theorem tab_ok {P : Program} {l : List (Nat × TI)} (h : l.all (tiB P) = true) : ∀ t ti, lookT l t = some ti → TIok P t ti := fun _ _ ht => tiB_ok (List.all_eq_true.1 h _ (lookT_mem ht))

/-- a struct of plain cells alone, in a row -/
def fkB : Option TypeDesc → Value → Bool
  | some (.int _), .int _ _ => true
  | some .string, .string _ => true
  | some .bool, .bool _ => true
  | _, _ => false
def intsB (P : Program) : Nat → List Field → List Value → Bool
  | _, [], [] => true
  | i, g :: r, z :: s => fkB (P.underlying g.type) z && Nat.beq g.offset i && g.name != "_" && intsB P (i + 1) r s
  | _, _, _ => false
def eqB' (P : Program) (p : Nat × TI) : Bool := match p.2.eq, p.2.ud with
  | true, .st _ => (match P.underlying p.1 with
    | some (.struct gs) => intsB P 0 gs.toList p.2.zero && Nat.beq gs.size p.2.size
    | _ => false) && !P.stoodInHeld p.1 && !P.eqGuardType P.depth p.1
  | _, _ => true
theorem run_part_pl {P : Program} {w : World} {t : TypeId} {z : Value} (h : fkB (P.underlying t) z = true) {xs : Array Value} {i : Nat} {v : Value} (hv : xs[i]? = some v) : (part t xs i).run P w = .ok v w := by
  have : (isAgg t).run P w = .ok false w := by
    rw [Go.isAgg, Sem.run_bind]
    unfold fkB at h
    split at h <;> first
      | (rename_i hu; rw [run_underlying hu]; rfl)
      | cases h
  simp [part, this, hv]
theorem bytes_toList {a b : ByteArray} (h : a.toList = b.toList) : a = b := by
  rw [ByteArray.toList_eq, ByteArray.toList_eq] at h
  obtain ⟨⟨x⟩⟩ := a
  obtain ⟨⟨y⟩⟩ := b
  simpa using h
theorem fkB_int {o : Option TypeDesc} {k : IntKind} {n : Int} (h : fkB o (.int k n) = true) : ∃ j, o = some (.int j) := by
  cases o with
  | none => cases h
  | some d => cases d <;> first | exact ⟨_, rfl⟩ | cases h
theorem fkB_str {o : Option TypeDesc} {x : ByteArray} (h : fkB o (.string x) = true) : o = some .string := by
  cases o with
  | none => cases h
  | some d => cases d <;> first | rfl | cases h
theorem fkB_bool {o : Option TypeDesc} {x : Bool} (h : fkB o (.bool x) = true) : o = some .bool := by
  cases o with
  | none => cases h
  | some d => cases d <;> first | rfl | cases h
/-- a cell of a kind, held against another one -/
theorem eqCells_cons {P : Program} {t : TypeId} {z : Value} {zs : List Value} {x : PV} {a b : List PV} {r : Bool} (hk : fkB (P.underlying t) z = true) (h : eqCells (z :: zs) (x :: a) b = some r) : ∃ u v s c r', x = .im u ∧ b = .im v :: s ∧ eqCells zs a s = some r' ∧ r = (c && r') ∧ ∀ d w, (Op.equalIn (d + 1) t u v).run P w = .ok c w := by
  cases b with
  | nil => cases z <;> cases x <;> simp [eqCells] at h
  | cons y b =>
    unfold eqCells at h
    split at h
    · rename_i h1 h2 h3; cases h1
    · rename_i h1 h2 h3
      injection h1 with h1 h1'
      injection h2 with h2 h2'
      injection h3 with h3 h3'
      subst h1 h1' h2 h2' h3 h3'
      split at h
      · rename_i hkk
        have := kB_eq hkk
        subst this
        obtain ⟨r', q1, q2⟩ := Option.map_eq_some_iff.1 h
        obtain ⟨j, hu⟩ := fkB_int hk
        refine ⟨_, _, _, _, r', rfl, rfl, q1, q2.symm, fun d w => ?_⟩
        rw [run_equalIn_int (P := P) w d t _ j _ _ hu]
        congr 1
      · cases h
    · rename_i h1 h2 h3
      injection h1 with h1 h1'
      injection h2 with h2 h2'
      injection h3 with h3 h3'
      subst h1 h1' h2 h2' h3 h3'
      obtain ⟨r', q1, q2⟩ := Option.map_eq_some_iff.1 h
      have hu := fkB_str hk
      refine ⟨_, _, _, _, r', rfl, rfl, q1, q2.symm, fun d w => ?_⟩
      rw [run_equalIn_string (P := P) w d t _ _ hu]
      congr 1
      rw [Bool.eq_iff_iff, beq_iff_eq, decide_eq_true_iff]
      exact ⟨fun e => bytes_toList e, fun e => by rw [e]⟩
    · rename_i h1 h2 h3
      injection h1 with h1 h1'
      injection h2 with h2 h2'
      injection h3 with h3 h3'
      subst h1 h1' h2 h2' h3 h3'
      obtain ⟨r', q1, q2⟩ := Option.map_eq_some_iff.1 h
      have hu := fkB_bool hk
      refine ⟨_, _, _, _, r', rfl, rfl, q1, q2.symm, fun d w => ?_⟩
      rw [run_equalIn_bool' (P := P) w d t _ _ hu]
      congr 1
    · cases h
theorem eqFields_ints {P : Program} {w : World} (d : Nat) (xs ys : Array Value) : ∀ (gs : List Field) (zs : List Value) (i : Nat) (a b : List PV) (r : Bool), intsB P i gs zs = true → gs.length = a.length → (∀ (j : Nat) x, a[j]? = some x → ∃ v, xs[i + j]? = some v ∧ x = .im v) → (∀ (j : Nat) x, b[j]? = some x → ∃ v, ys[i + j]? = some v ∧ x = .im v) → eqCells zs a b = some r →
    (Op.eqFields (d + 1) xs ys gs).run P w = .ok r w := by
  intro gs
  induction gs with
  | nil =>
    intro zs i a b r hi hl _ _ he
    have : a = [] := List.eq_nil_of_length_eq_zero hl.symm
    subst this
    cases zs with
    | nil => cases b with
      | nil => simp [eqCells] at he; subst he; rfl
      | cons y b => simp [eqCells] at he
    | cons z zs => simp [intsB] at hi
  | cons g gs ih =>
    intro zs i a b r hi hl ha hb he
    cases a with
    | nil => simp at hl
    | cons x a => cases zs with
      | nil => simp [intsB] at hi
      | cons z zs =>
        simp only [intsB, Bool.and_eq_true] at hi
        obtain ⟨⟨⟨h1, h2⟩, h3⟩, h4⟩ := hi
        have h2 := Nat.eq_of_beq_eq_true h2
        have hname : g.name ≠ "_" := by simpa using h3
        obtain ⟨u, v, s1, c, r', rfl, rfl, hr', rfl, p3⟩ := eqCells_cons h1 he
        obtain ⟨v', hv, hve⟩ := ha 0 _ rfl
        obtain ⟨u', hu', hue⟩ := hb 0 _ rfl
        injection hve with hve
        injection hue with hue
        subst hve hue
        have p1 := run_part_pl (w := w) h1 (xs := xs) (i := g.offset) (by rw [h2]; simpa using hv)
        have p2 := run_part_pl (w := w) h1 (xs := ys) (i := g.offset) (by rw [h2]; simpa using hu')
        have rest := ih zs (i + 1) a s1 r' h4 (by simpa using hl) (fun j x hx => by obtain ⟨v, q1, q2⟩ := ha (j + 1) x (by simpa using hx); exact ⟨v, by rw [← q1]; congr 1; omega, q2⟩) (fun j x hx => by obtain ⟨v, q1, q2⟩ := hb (j + 1) x (by simpa using hx); exact ⟨v, by rw [← q1]; congr 1; omega, q2⟩) hr'
        simp only [Op.eqFields, if_pos hname, Sem.run_bind, p1, p2, p3, Result.andThen_ok]
        cases c with
        | true =>
          simp only [Bool.not_true, Bool.false_eq_true, if_false, Bool.true_and]
          exact rest
        | false => simp
/-- equality of structs of plain cells -/
theorem equal_plain {P : Program} {t : TypeId} {gs : Array Field} {zs : List Value} (hgs : P.underlying t = some (.struct gs)) (h2 : P.stoodInHeld t = false) (h4 : intsB P 0 gs.toList zs = true) {a b : List PV} {r : Bool} (hc : eqCells zs a b = some r) (xs ys : Array Value) (w : World)
    (ha : ∀ (i : Nat) x v, a[i]? = some x → xs[i]? = some v → x = .im v) (hb : ∀ (i : Nat) x v, b[i]? = some x → ys[i]? = some v → x = .im v) (hla : a.length = xs.size) (hlb : b.length = ys.size) (hsz : gs.size = a.length) : (Op.equal t (.agg xs) (.agg ys)).run P w = .ok r w := by
  have hf : P.fieldsOf t = gs := by simp [Program.fieldsOf, hgs]
  have hex : ∀ (l : List PV) (zs : Array Value), l.length = zs.size → (∀ (i : Nat) x v, l[i]? = some x → zs[i]? = some v → x = .im v) → ∀ (j : Nat) x, l[j]? = some x → ∃ v, zs[0 + j]? = some v ∧ x = .im v := by
    intro l zs hl hz j x hx
    obtain ⟨v, hv⟩ := arr_at hl (lt_of_get hx)
    exact ⟨v, by rw [Nat.zero_add]; exact hv, hz j x v hx hv⟩
  have key := eqFields_ints (P := P) (w := w) 9998 xs ys gs.toList zs 0 a b r h4 (by simp; omega) (hex a xs hla ha) (hex b ys hlb hb) hc
  show (Op.equalIn (9999 + 1) t (.agg xs) (.agg ys)).run P w = _
  rw [run_equalIn_struct w 9999 t xs ys (by rw [hf]; exact hgs) h2, hf]
  exact key
theorem eqs_ok {P : Program} {l : List (Nat × TI)} (h : l.all (eqB' P) = true) : ∀ t ti op a b r, lookT l t = some ti → ti.eq = true → (∃ fs, ti.ud = .st fs) → eqCells ti.zero a b = some r → ∀ (xs ys : Array Value) w, (∀ (i : Nat) x v, a[i]? = some x → xs[i]? = some v → x = .im v) → (∀ (i : Nat) x v, b[i]? = some x → ys[i]? = some v → x = .im v) →
    a.length = xs.size → b.length = ys.size → ti.size = a.length → (op = .eql ∨ op = .neq) → ∀ (x y : Operand), (do eqGuard op t x y (.agg xs) (.agg ys); binOp op t (.agg xs) (.agg ys) : Sem Value).run P w = .ok (.bool (if op = .eql then r else !r)) w := by
  intro t ti op a b r ht he ⟨fs, hud⟩ hcells xs ys w ha hb hla hlb hsz hop x y
  have := List.all_eq_true.1 h _ (lookT_mem ht)
  unfold eqB' at this
  simp only [he, hud, Bool.and_eq_true] at this
  obtain ⟨⟨h1, h2⟩, h3⟩ := this
  have h2 : P.stoodInHeld t = false := by simpa using h2
  have h3 : P.eqGuardType P.depth t = false := by simpa using h3
  split at h1
  · rename_i gs hgs
    simp only [Bool.and_eq_true] at h1
    obtain ⟨h4, h5⟩ := h1
    have h5 := Nat.eq_of_beq_eq_true h5
    have heq := equal_plain hgs h2 h4 hcells xs ys w ha hb hla hlb (by omega)
    have hguard : (eqGuard op t x y (.agg xs) (.agg ys)).run P w = .ok () w := by
      rcases hop with rfl | rfl <;> simp [eqGuard, h3]
    rw [Sem.run_bind, hguard, Result.andThen_ok]
    rcases hop with rfl | rfl
    · simp [binOp, heq]
    · simp [binOp, heq]
  · cases h1
/-- structs as keys of maps -/
def keyB (P : Program) (p : Nat × TI) : Bool := match mkOf p.2 with
  | some (.st _) => (match P.underlying p.1 with
    | some (.struct gs) => intsB P 0 gs.toList p.2.zero
    | _ => false) && !P.stoodInHeld p.1
  | _ => true
theorem sh_spec : ∀ {z : List Value} {sh : List Nat} {a b : List Value}, shOf z = some sh → okCells sh a → okCells sh b → eqCells z (a.map .im) (b.map .im) = some (vEqs a b) := by
  intro z
  induction z with
  | nil =>
    intro sh a b h ha hb
    injection h with h
    subst h
    cases a <;> cases b <;> first
      | rfl
      | exact ha.elim
      | exact hb.elim
  | cons c z ih =>
    intro sh a b h ha hb
    unfold shOf at h
    split at h
    · rename_i h1; cases h1
    all_goals first
      | (rename_i h1
         injection h1 with h1 h1'
         subst h1 h1'
         obtain ⟨s, hs, rfl⟩ := Option.map_eq_some_iff.1 h
         cases a with
         | nil => exact ha.elim
         | cons x a => cases b with
           | nil => exact hb.elim
           | cons y b =>
             have hx := ha.1
             have hy := hb.1
             cases x <;> first | (exact hx.elim) | skip
             cases y <;> first | (exact hy.elim) | skip
             have := ih hs ha.2 hb.2
             first
               | (simp only [List.map_cons, eqCells, this, Option.map_some, vEqs, vEq0]; done)
               | (have e1 : _ = IntKind.i64 := hx
                  have e2 : _ = IntKind.i64 := hy
                  subst e1 e2
                  simp only [List.map_cons, eqCells, this, Option.map_some, vEqs, vEq0, kB]; done))
      | cases h
theorem okCells_len : ∀ {sh : List Nat} {a : List Value}, okCells sh a → a.length = sh.length
  | [], [], _ => rfl
  | [], _ :: _, h => h.elim
  | _ :: _, [], h => h.elim
  | _ :: _, _ :: _, h => by simp [okCells_len h.2]
theorem shOf_len : ∀ {z : List Value} {sh : List Nat}, shOf z = some sh → z.length = sh.length := by
  intro z
  induction z with
  | nil => intro sh h; injection h with h; subst h; rfl
  | cons c z ih =>
    intro sh h
    unfold shOf at h
    split at h
    · rename_i h1; cases h1
    all_goals first
      | (rename_i h1
         injection h1 with h1 h1'
         subst h1 h1'
         obtain ⟨s, hs, rfl⟩ := Option.map_eq_some_iff.1 h
         simp [ih hs]; done)
      | cases h
theorem intsB_len {P : Program} : ∀ {gs : List Field} {z : List Value} {i : Nat}, intsB P i gs z = true → gs.length = z.length
  | [], [], _, _ => rfl
  | [], _ :: _, _, h => by simp [intsB] at h
  | _ :: _, [], _, h => by simp [intsB] at h
  | g :: gs, c :: z, i, h => by
    simp only [intsB, Bool.and_eq_true] at h
    simp [intsB_len h.2]
theorem check_plain {P : Program} {t : TypeId} {z : Value} (h : fkB (P.underlying t) z = true) (e : Bool) (n : Nat) (w : World) (v : Value) : (Instr.checkKey e (n + 1) t v).run P w = .ok () w := by
  unfold fkB at h
  split at h
  all_goals first
    | (rename_i hu; cases v <;> simp [Instr.checkKey, run_underlying hu]; done)
    | cases h
theorem check_fields {P : Program} (e : Bool) (n : Nat) (w : World) (xs : Array Value) : ∀ (gs : List Field) (zs : List Value) (i : Nat), intsB P i gs zs = true → (∀ j, j < gs.length → ∃ v, xs[i + j]? = some v) → (forIn gs PUnit.unit fun f _ => (do
      if f.name ≠ "_" then Instr.checkKey e (n + 1) f.type (← part f.type xs f.offset)
      pure (ForInStep.yield PUnit.unit) : Sem (ForInStep PUnit))).run P w = .ok PUnit.unit w := by
  intro gs
  induction gs with
  | nil => intro zs i _ _; rfl
  | cons g gs ih =>
    intro zs i hi hx
    cases zs with
    | nil => simp [intsB] at hi
    | cons z zs =>
      simp only [intsB, Bool.and_eq_true] at hi
      obtain ⟨⟨⟨h1, h2⟩, h3⟩, h4⟩ := hi
      have h2 := Nat.eq_of_beq_eq_true h2
      have hname : g.name ≠ "_" := by simpa using h3
      obtain ⟨v, hv⟩ := hx 0 (by simp)
      have p1 := run_part_pl (w := w) h1 (xs := xs) (i := g.offset) (by rw [h2]; simpa using hv)
      have rest := ih zs (i + 1) h4 fun j hj => by obtain ⟨v, q⟩ := hx (j + 1) (by simpa using hj); exact ⟨v, by rw [← q]; congr 1; omega⟩
      simp only [List.forIn_cons, if_pos hname, Sem.run_bind, p1, check_plain h1, Result.andThen_ok, Sem.run_pure]
      exact rest
theorem check_struct {P : Program} {kt : TypeId} {gs : Array Field} (hgs : P.underlying kt = some (.struct gs)) (e : Bool) (n : Nat) (w : World) (xs : Array Value) : (Instr.checkKey e (n + 1) kt (.agg xs)).run P w = ((forIn gs.toList PUnit.unit fun f _ => (do
      if f.name ≠ "_" then Instr.checkKey e n f.type (← part f.type xs f.offset)
      pure (ForInStep.yield PUnit.unit) : Sem (ForInStep PUnit))).run P w).andThen fun _ w' => .ok () w' := by
  simp only [Instr.checkKey, Sem.run_bind, run_underlying hgs, Result.andThen_ok, ← Array.forIn_toList]
  rfl
theorem keys_ok {P : Program} {l : List (Nat × TI)} (h : l.all (keyB P) = true) : ∀ kt tk sh, lookT l kt = some tk → mkOf tk = some (.st sh) → KeyOK P kt (.st sh) := by
  intro kt tk sh ht hm
  have := List.all_eq_true.1 h _ (lookT_mem ht)
  unfold keyB at this
  simp only [hm, Bool.and_eq_true] at this
  obtain ⟨h1, h2⟩ := this
  have h2 : P.stoodInHeld kt = false := by simpa using h2
  have hsh : shOf tk.zero = some sh := by
    unfold mkOf at hm
    split at hm <;> first
      | (cases hm; done)
      | skip
    all_goals (split at hm)
    all_goals first
      | (cases hm; done)
      | (obtain ⟨s, hs, e⟩ := Option.map_eq_some_iff.1 hm; injection e with e; subst e; exact hs)
  split at h1
  · rename_i gs hgs
    have hlen : gs.size = sh.length := by have := intsB_len h1; rw [shOf_len hsh] at this; simpa using this
    refine ⟨fun e k w hk => ?_, fun k w ms hk hms => ?_⟩
    · cases k <;> first | (exact hk.elim) | skip
      rename_i xs
      have hl := okCells_len (sh := sh) hk
      have hl : xs.size = sh.length := by simpa using hl
      have := check_fields e 9998 w xs gs.toList tk.zero 0 h1 fun j hj => ⟨xs[j]'(by simp at hj; omega), by rw [Nat.zero_add]; exact Array.getElem?_eq_getElem _⟩
      exact (check_struct hgs e 9999 w xs).trans (by rw [this]; rfl)
    · rw [run_findKey_eq w (by rw [hgs]) k ms]
      show (Instr.findAsking kt k ms 0).run P w = .ok (findV k ms 0) w
      generalize 0 = i
      induction ms generalizing i with
      | nil => rfl
      | cons m ms ih =>
        have hm' := hms m List.mem_cons_self
        cases k <;> first | (exact hk.elim) | skip
        rename_i xs
        obtain ⟨mk, mv, mb⟩ := m
        cases mk <;> first | (exact hm'.elim) | skip
        rename_i ys
        have hlx : xs.size = sh.length := by simpa using okCells_len (sh := sh) hk
        have hly : ys.size = sh.length := by simpa using okCells_len (sh := sh) hm'
        have hat : ∀ (zs : Array Value) (i : Nat) x v, (zs.toList.map PV.im)[i]? = some x → zs[i]? = some v → x = .im v := fun zs i x v q1 q2 => by
          rw [List.getElem?_map, Array.getElem?_toList, q2] at q1
          injection q1 with q1
          exact q1.symm
        have := equal_plain hgs h2 h1 (sh_spec (sh := sh) hsh hk hm') xs ys w (hat xs) (hat ys) (by simp) (by simp) (by simp; omega)
        unfold Instr.findAsking findV
        simp only [Sem.run_bind, this, Result.andThen_ok, vEq]
        cases vEqs xs.toList ys.toList with
        | true => rfl
        | false => exact ih (fun x hx => hms x (List.mem_cons_of_mem _ hx)) _
  · cases h1
end Go.AM
namespace Go.AM
open Go.RowKit

/-- a nil slice is an own row without cells -/
theorem SLe.nilRow {A : Amb} (hC : CtxOK A.C) (s : AS) (d : Nat) (e : TypeId) (ti : TI) (hd : d < 100000) (hn : s.t d = .nl) (hT : A.C.T e = some ti) (hpos : 0 < ti.size) :
    SLe A s ⟨upd (scr d s).t d (.ow d), upd (scr d s).h d (.row e [])⟩ := by
  intro S rho a w sim
  have hv : a.tmps.getD d undef = .slice none 0 0 := by
    have := sim.tm d trivial
    rw [hn] at this
    generalize a.tmps.getD d undef = v at this
    cases this; rfl
  have sim1 := sim.free d (.row e [])
  obtain ⟨info, z, h1, h2, h3, h4, h5, h6, h7, h8⟩ := hC.tab e ti hT
  have sim2 := sim1.new hC d (.row e []) hd (fun h => h rfl) (upd_same _ _ _) w rfl rfl rfl (Nat.le_refl _) (fun _ => False) (fun _ _ _ => rfl) (fun _ h => h.elim) (.slice none 0 0) (fun g hg => by cases hg) fun T => by
    show RowRep _ _ _ _ _ (upd rho d _ d)
    rw [upd_same]
    exact ⟨info, [], h1, by omega, ⟨by simp, .inl ⟨rfl, rfl⟩⟩, by simp, by simp, by simp⟩
  have sim3 : Sim A All All S (upd rho d (.slice none 0 0)) ⟨(scr d s).t, upd (scr d s).h d (.row e [])⟩ a w := sim2.weak (fun _ _ => trivial) (fun k => ⟨fun _ => by by_cases e : k = d; exact .inr e; exact .inl e, fun _ => trivial⟩)
  refine ⟨S, _, { sim3 with tm := fun j _ => ?_ }⟩
  by_cases ej : j = d
  · subst ej
    show LRep _ _ _ _ _ _ (upd _ _ _ _) _
    rw [upd_same]
    exact .ow j _ fun _ => ⟨trivial, by rw [upd_same]; exact hv⟩
  · show LRep _ _ _ _ _ _ (upd _ _ _ _) _
    rw [upd_ne _ _ ej]
    exact sim3.tm j trivial

/-- a slot by its content -/
theorem SLe.toPV {A : Amb} (hC : CtxOK A.C) (s : AS) (d : Nat) {y : PV} {fz : List (Nat × AB)} (h : AM.toPV s.h (s.t d) fun y' fz' => y' = y ∧ fz' = fz) : SLe A s ⟨upd s.t d (.p y), app s.h fz⟩ := by
  intro S rho a w sim
  obtain ⟨y', fz', S', ⟨rfl, rfl⟩, sim', hp, hS, hF, _⟩ := toPV_sim hC sim (h := s.h) (fun _ => .inl rfl) (sim.tm d trivial) h
  refine ⟨S', rho, { sim' with tm := fun j _ => ?_ }⟩
  by_cases ej : j = d
  · subst ej
    show LRep _ _ _ _ _ _ (upd _ _ _ _) _
    rw [upd_same]
    exact .p _ _ hp
  · show LRep _ _ _ _ _ _ (upd _ _ _ _) _
    rw [upd_ne _ _ ej]
    exact sim'.tm j trivial
theorem SLe.nil {A : Amb} (hC : CtxOK A.C) (s : AS) (d : Nat) (h : s.t d = .nl) : SLe A s ⟨upd s.t d (.p (.sl [])), s.h⟩ := SLe.toPV hC s d (y := .sl []) (fz := []) (by rw [h]; exact ⟨rfl, rfl⟩)
theorem SLe.own {A : Amb} (hC : CtxOK A.C) (s : AS) (d : Nat) {id : Nat} {e : TypeId} {es : List (List PV)} (h : s.t d = .ow id) (h2 : s.h id = .row e es) : SLe A s ⟨upd s.t d (.p (.sl es)), upd s.h id (.frz es)⟩ := SLe.toPV hC s d (y := .sl es) (fz := [(id, .frz es)]) (by rw [h]; simp only [AM.toPV, AM.toPV1]; rw [h2]; exact ⟨rfl, rfl⟩)
/-- an object by another name -/
theorem SLe.ren {A : Amb} (s : AS) (i d : Nat) (hid : i ≠ d) (hd : d < 100000) : SLe A s (renS i d s) := fun S _ _ _ sim => ⟨S, _, sim.rename i d hid hd⟩
/-- a nil slice in a box is an own row without cells -/
theorem SLe.nilCell {A : Amb} (hC : CtxOK A.C) (s : AS) (id j d : Nat) (e : TypeId) (ti : TI) (cs : List AV) (hd : d < 100000) (hid : id ≠ d) (hb : s.h id = .box cs) (hn : cs[j]? = some .nl) (hT : A.C.T e = some ti) (hpos : 0 < ti.size) :
    SLe A s ⟨(scr d s).t, upd (upd (scr d s).h d (.row e [])) id (.box ((cs.map (sc d)).set j (.ow d)))⟩ := by
  intro S rho a w sim
  have sim1 := sim.free d (.row e [])
  obtain ⟨info, z, h1, h2, h3, h4, h5, h6, h7, h8⟩ := hC.tab e ti hT
  have sim2 := sim1.new hC d (.row e []) hd (fun h => h rfl) (upd_same _ _ _) w rfl rfl rfl (Nat.le_refl _) (fun _ => False) (fun _ _ _ => rfl) (fun _ h => h.elim) (.slice none 0 0) (fun g hg => by cases hg) fun T => by
    show RowRep _ _ _ _ _ (upd rho d _ d)
    rw [upd_same]
    exact ⟨info, [], h1, by omega, ⟨by simp, .inl ⟨rfl, rfl⟩⟩, by simp, by simp, by simp⟩
  have sim3 : Sim A All All S (upd rho d (.slice none 0 0)) ⟨(scr d s).t, upd (scr d s).h d (.row e [])⟩ a w := sim2.weak (fun _ _ => trivial) (fun k => ⟨fun _ => by by_cases e : k = d; exact .inr e; exact .inl e, fun _ => trivial⟩)
  have hbox : (upd (scr d s).h d (.row e [])) id = .box (cs.map (sc d)) := by
    rw [upd_ne _ _ hid]
    show upd (fun k => scB d (s.h k)) d .none id = _
    rw [upd_ne _ _ hid, hb]
    rfl
  refine ⟨S, _, sim3.write hC id trivial (by show ((upd (scr d s).h d (.row e [])) id).live; rw [hbox]; trivial) _ (fun _ h => by cases h) w rfl rfl rfl rfl (fun _ _ => rfl) fun T => ?_⟩
  have hh := sim3.hp id trivial
  have hh : HRep S w A.C.P All (upd rho d (.slice none 0 0)) (upd (scr d s).h d (.row e [])) id ((upd (scr d s).h d (.row e [])) id) := hh
  rw [hbox] at hh
  obtain ⟨g, ty, c, k1, k2, k3, k4⟩ := hh
  refine ⟨g, ty, c, k1, k2, by rw [k3, List.length_set], fun i x u hi hu => ?_⟩
  by_cases ei : i = j
  · subst ei
    have hj : (cs.map (sc d))[i]? = some .nl := by rw [List.getElem?_map, hn]; rfl
    rw [List.getElem?_set_self (lt_of_get hj)] at hi
    injection hi with hi
    subst hi
    obtain ⟨k5, k6⟩ := k4 i _ u hj hu
    refine ⟨k5, .ow d u fun _ => ⟨trivial, ?_⟩⟩
    rw [upd_same]
    cases k6; rfl
  · rw [List.getElem?_set_ne (fun e => ei e.symm)] at hi
    obtain ⟨k5, k6⟩ := k4 i x u hi hu
    exact ⟨k5, k6.turn T⟩
theorem SLe.nilTcell {A : Amb} (hC : CtxOK A.C) (s : AS) (id j d : Nat) (e ty : TypeId) (ti : TI) (cs : List AV) (hd : d < 100000) (hid : id ≠ d) (hb : s.h id = .tbox ty cs) (hn : cs[j]? = some .nl) (hT : A.C.T e = some ti) (hpos : 0 < ti.size) :
    SLe A s ⟨(scr d s).t, upd (upd (scr d s).h d (.row e [])) id (.tbox ty ((cs.map (sc d)).set j (.ow d)))⟩ := by
  intro S rho a w sim
  have sim1 := sim.free d (.row e [])
  obtain ⟨info, z, h1, h2, h3, h4, h5, h6, h7, h8⟩ := hC.tab e ti hT
  have sim2 := sim1.new hC d (.row e []) hd (fun h => h rfl) (upd_same _ _ _) w rfl rfl rfl (Nat.le_refl _) (fun _ => False) (fun _ _ _ => rfl) (fun _ h => h.elim) (.slice none 0 0) (fun g hg => by cases hg) fun T => by
    show RowRep _ _ _ _ _ (upd rho d _ d)
    rw [upd_same]
    exact ⟨info, [], h1, by omega, ⟨by simp, .inl ⟨rfl, rfl⟩⟩, by simp, by simp, by simp⟩
  have sim3 : Sim A All All S (upd rho d (.slice none 0 0)) ⟨(scr d s).t, upd (scr d s).h d (.row e [])⟩ a w := sim2.weak (fun _ _ => trivial) (fun k => ⟨fun _ => by by_cases e : k = d; exact .inr e; exact .inl e, fun _ => trivial⟩)
  have hbox : (upd (scr d s).h d (.row e [])) id = .tbox ty (cs.map (sc d)) := by
    rw [upd_ne _ _ hid]
    show upd (fun k => scB d (s.h k)) d .none id = _
    rw [upd_ne _ _ hid, hb]
    rfl
  refine ⟨S, _, sim3.write hC id trivial (by show ((upd (scr d s).h d (.row e [])) id).live; rw [hbox]; trivial) _ (fun _ h => by cases h) w rfl rfl rfl rfl (fun _ _ => rfl) fun T => ?_⟩
  have hh := sim3.hp id trivial
  have hh : HRep S w A.C.P All (upd rho d (.slice none 0 0)) (upd (scr d s).h d (.row e [])) id ((upd (scr d s).h d (.row e [])) id) := hh
  rw [hbox] at hh
  obtain ⟨g, c, k1, k2, k3, k4⟩ := hh
  refine ⟨g, c, k1, k2, by rw [k3, List.length_set], fun i x u hi hu => ?_⟩
  by_cases ei : i = j
  · subst ei
    have hj : (cs.map (sc d))[i]? = some .nl := by rw [List.getElem?_map, hn]; rfl
    rw [List.getElem?_set_self (lt_of_get hj)] at hi
    injection hi with hi
    subst hi
    obtain ⟨k5, k6⟩ := k4 i _ u hj hu
    refine ⟨k5, .ow d u fun _ => ⟨trivial, ?_⟩⟩
    rw [upd_same]
    cases k6; rfl
  · rw [List.getElem?_set_ne (fun e => ei e.symm)] at hi
    obtain ⟨k5, k6⟩ := k4 i x u hi hu
    exact ⟨k5, k6.turn T⟩
/-- an own row in a box, by its content -/
theorem SLe.frzCell {A : Amb} (hC : CtxOK A.C) (s : AS) (id j i : Nat) (e : TypeId) (es : List (List PV)) (cs : List AV) (hid : id ≠ i) (hb : s.h id = .box cs) (hn : cs[j]? = some (.ow i)) (hr : s.h i = .row e es) :
    SLe A s ⟨s.t, upd (upd s.h i (.frz es)) id (.box (cs.set j (.p (.sl es))))⟩ := by
  intro S rho a w sim
  have sim1 := sim.freezeRow hC i trivial hr
  have hbox : (upd s.h i (.frz es)) id = .box cs := by rw [upd_ne _ _ hid]; exact hb
  refine ⟨_, _, sim1.write hC id trivial (by show ((upd s.h i (.frz es)) id).live; rw [hbox]; trivial) _ (fun _ h => by cases h) w rfl rfl rfl rfl (fun _ _ => rfl) fun T => ?_⟩
  have hh := sim1.hp id trivial
  have hh : HRep _ w A.C.P All rho (upd s.h i (.frz es)) id ((upd s.h i (.frz es)) id) := hh
  rw [hbox] at hh
  have hf := sim1.hp i trivial
  have hf : HRep _ w A.C.P All rho (upd s.h i (.frz es)) i ((upd s.h i (.frz es)) i) := hf
  rw [upd_same] at hf
  obtain ⟨g, ty, c, k1, k2, k3, k4⟩ := hh
  refine ⟨g, ty, c, k1, k2, by rw [k3, List.length_set], fun q x u hi hu => ?_⟩
  by_cases ei : q = j
  · subst ei
    rw [List.getElem?_set_self (lt_of_get hn)] at hi
    injection hi with hi
    subst hi
    obtain ⟨k5, k6⟩ := k4 q _ u hn hu
    refine ⟨k5, .p _ _ ?_⟩
    rw [(k6.ow_inv (by rw [upd_same]; trivial)).2]
    exact hf
  · rw [List.getElem?_set_ne (fun e => ei e.symm)] at hi
    obtain ⟨k5, k6⟩ := k4 q x u hi hu
    exact ⟨k5, k6.turn T⟩
end Go.AM
namespace Go.AM
open Go.RowKit

/-- names that are no more -/
def killL : List Nat → List (Nat × AB)
  | [] => []
  | n :: r => (n, .none) :: killL r
theorem killL_app {h : Nat → AB} : ∀ {l : List Nat} (k : Nat), app h (killL l) k = if k ∈ l then .none else h k
  | [], k => by simp [killL, app]
  | n :: l, k => by
    show app (upd h n .none) (killL l) k = _
    rw [killL_app (l := l) k]
    by_cases h1 : k ∈ l
    · simp [h1]
    · by_cases h2 : k = n
      · subst h2; simp [h1, upd_same]
      · simp [h1, h2, upd_ne]
/-- a box whose rows are objects, as one that owns them -/
theorem SLe.pack {A : Amb} (hC : CtxOK A.C) (s : AS) (id : Nat) {bs : List AV} {cs : List HC} (hb : s.h id = .box bs) (hg : goodNames (cellNames bs) = true) (hp : packs s.h bs cs) : SLe A s ⟨s.t, upd (app s.h (killL (cellNames bs))) id (.hbox cs)⟩ := by
  intro S rho a w sim
  obtain ⟨g, ty, c, k1, k2, k3⟩ := pack_box sim (id := id) trivial hb hg hp
  have hlive : (s.h id).live := by rw [hb]; trivial
  have at' : ∀ j, (j = id ∧ upd (app s.h (killL (cellNames bs))) id (.hbox cs) j = .hbox cs) ∨ (j ≠ id ∧ j ∈ cellNames bs ∧ upd (app s.h (killL (cellNames bs))) id (.hbox cs) j = .none) ∨ (j ≠ id ∧ ¬ j ∈ cellNames bs ∧ upd (app s.h (killL (cellNames bs))) id (.hbox cs) j = s.h j) := fun j => by
    by_cases e : j = id
    · subst e; exact .inl ⟨rfl, upd_same _ _ _⟩
    · rw [upd_ne _ _ e, killL_app]
      by_cases h : j ∈ cellNames bs
      · exact .inr (.inl ⟨e, h, if_pos h⟩)
      · exact .inr (.inr ⟨e, h, if_neg h⟩)
  have T : Turn S S w w All All rho rho s.h (upd (app s.h (killL (cellNames bs))) id (.hbox cs)) := ⟨fun _ h => h, fun _ _ => rfl, fun j hj => ⟨by
      rcases at' j with ⟨rfl, _⟩ | ⟨_, _, h⟩ | ⟨_, _, h⟩
      · rw [hb]; trivial
      · rw [h] at hj; exact hj.elim
      · rw [h] at hj; exact hj, fun _ => ⟨trivial, rfl⟩⟩, fun j e hj => by
      rcases at' j with ⟨_, h⟩ | ⟨_, _, h⟩ | ⟨_, _, h⟩
      · rw [h] at hj; cases hj
      · rw [h] at hj; cases hj
      · rw [h] at hj; exact hj⟩
  -- whose the blocks were
  have owner : ∀ j g, (upd (app s.h (killL (cellNames bs))) id (.hbox cs) j).live → hasB w (upd (app s.h (killL (cellNames bs))) id (.hbox cs) j) (rho j) g → ∃ k, (s.h k).live ∧ hasB w (s.h k) (rho k) g ∧ ((j = id ∧ (k = id ∨ k ∈ cellNames bs)) ∨ (j = k ∧ j ≠ id ∧ ¬ j ∈ cellNames bs)) := fun j g hl ho => by
    rcases at' j with ⟨rfl, h⟩ | ⟨_, _, h⟩ | ⟨h1, h2, h⟩
    · rw [h] at ho
      rcases k3 g ho with h | ⟨n, h1, _, h3, h4⟩
      · exact ⟨j, hlive, .inl h, .inl ⟨rfl, .inl rfl⟩⟩
      · exact ⟨n, h3, .inl h4, .inl ⟨rfl, .inr h1⟩⟩
    · rw [h] at hl; exact hl.elim
    · rw [h] at hl ho
      exact ⟨j, hl, ho, .inr ⟨rfl, h1, h2⟩⟩
  exact ⟨S, rho,
  { tm := fun j hj => (sim.tm j hj).turn T
    sz := sim.sz, df := sim.df, nb := sim.nb, pn := sim.pn, ev := sim.ev, s0 := sim.s0, st := sim.st, sb := sim.sb
    hp := fun j _ => by
      show HRep _ _ _ _ _ _ _ (upd (app s.h (killL (cellNames bs))) id (.hbox cs) j)
      rcases at' j with ⟨rfl, h⟩ | ⟨_, _, h⟩ | ⟨_, _, h⟩
      · rw [h]; exact ⟨g, ty, c, k1, k2⟩
      · rw [h]; trivial
      · rw [h]; exact (sim.hp j trivial).turn T (fun _ _ _ => rfl) (fun _ => rfl)
    dj := fun i j g _ _ li lj hi hj => by
      obtain ⟨k, l1, o1, c1⟩ := owner i g li hi
      obtain ⟨m, l2, o2, c2⟩ := owner j g lj hj
      have := sim.dj k m g trivial trivial l1 l2 o1 o2
      subst this
      rcases c1 with ⟨rfl, c1⟩ | ⟨rfl, c1, c3⟩ <;> rcases c2 with ⟨rfl, c2⟩ | ⟨rfl, c2, c4⟩
      · rfl
      · rcases c1 with c1 | c1
        · exact (c2 c1).elim
        · exact (c4 c1).elim
      · rcases c2 with c2 | c2
        · exact (c1 c2).elim
        · exact (c3 c2).elim
      · rfl
    lv := fun i g _ li hi => by
      obtain ⟨k, l1, o1, _⟩ := owner i g li hi
      exact sim.lv k g trivial l1 o1
    fr := sim.fr }⟩

/-- the cells of a box that owns rows, the rows under names of their own -/
def opA : List HC → List Nat → List AV
  | [], _ => []
  | .p x :: r, ns => .p x :: opA r ns
  | .row _ _ :: r, n :: ns => .ow n :: opA r ns
  | .row _ _ :: r, [] => .junk :: opA r []
def opB : List HC → List Nat → List (Nat × AB)
  | [], _ => []
  | .p _ :: r, ns => opB r ns
  | .row e es :: r, n :: ns => (n, .row e es) :: opB r ns
  | .row _ _ :: _, [] => []
def rowsOf : List HC → Nat
  | [] => 0
  | .p _ :: r => rowsOf r
  | .row _ _ :: r => rowsOf r + 1
def freeAll : List (Nat × AB) → AS → AS
  | [], s => s
  | (d, b) :: r, s => freeAll r ⟨(scr d s).t, upd (scr d s).h d b⟩
theorem opB_names : ∀ {cs : List HC} {ns : List Nat}, rowsOf cs = ns.length → (opB cs ns).map (·.1) = ns
  | [], ns, h => by cases ns with | nil => rfl | cons n ns => simp [rowsOf] at h
  | .p x :: cs, ns, h => by show (opB cs ns).map _ = _; exact opB_names h
  | .row e es :: cs, [], h => by simp [rowsOf] at h
  | .row e es :: cs, n :: ns, h => by
    simp only [rowsOf, List.length_cons, Nat.add_right_cancel_iff] at h
    simp [opB, opB_names h]
/-- a name's cell and row -/
theorem op_at : ∀ {cs : List HC} {ns : List Nat} {n : Nat} {b : AB}, (n, b) ∈ opB cs ns → ∃ (j : Nat) (e : TypeId) (es : List (List PV)), cs[j]? = some (.row e es) ∧ b = .row e es ∧ (opA cs ns)[j]? = some (.ow n)
  | [], ns, n, b, h => by cases h
  | .p x :: cs, ns, n, b, h => by
    obtain ⟨j, e, es, h1, h2, h3⟩ := op_at (cs := cs) (ns := ns) h
    exact ⟨j + 1, e, es, h1, h2, h3⟩
  | .row e es :: cs, [], n, b, h => by cases h
  | .row e es :: cs, m :: ns, n, b, h => by
    rcases List.mem_cons.1 h with h | h
    · injection h with h1 h2
      subst h1 h2
      exact ⟨0, e, es, rfl, rfl, rfl⟩
    · obtain ⟨j, e, es, h1, h2, h3⟩ := op_at (cs := cs) (ns := ns) h
      exact ⟨j + 1, e, es, h1, h2, h3⟩
theorem op_cell : ∀ {cs : List HC} {ns : List Nat} {j : Nat} {x : AV}, rowsOf cs = ns.length → (opA cs ns)[j]? = some x → (∃ z, cs[j]? = some (.p z) ∧ x = .p z) ∨ ∃ n e es, cs[j]? = some (.row e es) ∧ x = .ow n ∧ (n, .row e es) ∈ opB cs ns
  | [], ns, j, x, _, h => by simp [opA] at h
  | .p y :: cs, ns, 0, x, _, h => by simp [opA] at h; exact .inl ⟨y, rfl, h.symm⟩
  | .p y :: cs, ns, j + 1, x, hl, h => by
    have := op_cell (cs := cs) (ns := ns) (j := j) hl (by simpa [opA] using h)
    exact this
  | .row e es :: cs, [], j, x, hl, _ => by simp [rowsOf] at hl
  | .row e es :: cs, n :: ns, 0, x, _, h => by simp [opA] at h; exact .inr ⟨n, e, es, rfl, h.symm, by simp [opB]⟩
  | .row e es :: cs, n :: ns, j + 1, x, hl, h => by
    simp only [rowsOf, List.length_cons, Nat.add_right_cancel_iff] at hl
    rcases op_cell (cs := cs) (ns := ns) (j := j) hl (by simpa [opA] using h) with h | ⟨m, e', es', h1, h2, h3⟩
    · exact .inl h
    · exact .inr ⟨m, e', es', h1, h2, by simp [opB, h3]⟩
theorem opA_len : ∀ {cs : List HC} {ns : List Nat}, (opA cs ns).length = cs.length
  | [], _ => rfl
  | .p x :: cs, ns => by simp [opA, opA_len (cs := cs)]
  | .row e es :: cs, [] => by simp [opA, opA_len (cs := cs)]
  | .row e es :: cs, n :: ns => by simp [opA, opA_len (cs := cs)]
theorem freeAll_sim {A : Amb} {S : Nat → Prop} {rho : Nat → Value} {a : Act} {w : World} : ∀ (l : List (Nat × AB)) (L : Nat → Prop) (s : AS), Sim A All L S rho s a w → Sim A All (fun k => L k ∧ ∀ p ∈ l, p.1 ≠ k) S rho (freeAll l s) a w
  | [], L, s, sim => sim.weak (fun _ h => h) (fun i => ⟨fun h => h.1, fun h => ⟨h, by simp⟩⟩)
  | (d, b) :: l, L, s, sim => (freeAll_sim l _ _ (sim.freeL d b)).weak (fun _ h => h) (fun i => ⟨fun ⟨h1, h2⟩ => ⟨⟨h1, fun e => h2 (d, b) (by simp) e.symm⟩, fun p hp => h2 p (by simp [hp])⟩, fun ⟨⟨h1, h2⟩, h3⟩ => ⟨h1, fun p hp => by
      rcases List.mem_cons.1 hp with h | h
      · subst h; exact fun e => h2 e.symm
      · exact h3 p h⟩⟩)
theorem freeAll_out : ∀ (l : List (Nat × AB)) (s : AS) (k : Nat), (∀ p ∈ l, p.1 ≠ k) → (∀ d, scB d (s.h k) = s.h k) → (freeAll l s).h k = s.h k
  | [], s, k, _, _ => rfl
  | (d, b) :: l, s, k, h, hs => by
    have hk : k ≠ d := fun e => h (d, b) (by simp) e.symm
    have e1 : upd (scr d s).h d b k = s.h k := by
      rw [upd_ne _ _ hk]
      show upd (fun k => scB d (s.h k)) d .none k = _
      rw [upd_ne _ _ hk]
      exact hs d
    show (freeAll l ⟨(scr d s).t, upd (scr d s).h d b⟩).h k = _
    rw [freeAll_out l _ k (fun p hp => h p (by simp [hp])) (fun d' => by show scB d' (upd (scr d s).h d b k) = upd (scr d s).h d b k; rw [e1]; exact hs d')]
    exact e1
theorem freeAll_in : ∀ (l : List (Nat × AB)) (s : AS) (k : Nat) (b : AB), (l.map (·.1)).Nodup → (∀ d, scB d b = b) → (k, b) ∈ l → (freeAll l s).h k = b
  | [], s, k, b, _, _, h => by cases h
  | (d, b') :: l, s, k, b, hn, hb, h => by
    simp only [List.map_cons, List.nodup_cons] at hn
    show (freeAll l ⟨(scr d s).t, upd (scr d s).h d b'⟩).h k = _
    rcases List.mem_cons.1 h with h | h
    · injection h with h1 h2
      subst h1 h2
      rw [freeAll_out l _ k (fun p hp e => hn.1 (List.mem_map.2 ⟨p, hp, e⟩)) (fun d' => by show scB d' (upd (scr k s).h k b k) = upd (scr k s).h k b k; rw [upd_same]; exact hb d')]
      exact upd_same _ _ _
    · exact freeAll_in l _ k b hn.2 hb h
theorem goodNames_nodup : ∀ {l : List Nat}, goodNames l = true → l.Nodup
  | [], _ => by simp
  | n :: l, h => by
    simp [goodNames] at h
    refine List.nodup_cons.2 ⟨fun hm => ?_, goodNames_nodup h.2.2⟩
    rw [hasN_mem.2 hm] at h
    cases h.1
/-- a box that owns rows, opened: its rows are objects of these names -/
theorem SLe.open {A : Amb} (hC : CtxOK A.C) (s : AS) (id : Nat) (ns : List Nat) {cs : List HC} (hb : s.h id = .hbox cs) (hl : rowsOf cs = ns.length) (hg : goodNames ns = true) (hid : hasN id ns = false) :
    SLe A s ⟨(freeAll (opB cs ns) s).t, upd (freeAll (opB cs ns) s).h id (.box (opA cs ns))⟩ := by
  intro S rho a w sim0
  have hnm := opB_names hl
  have hnd : ((opB cs ns).map (·.1)).Nodup := by rw [hnm]; exact goodNames_nodup hg
  have hin : ∀ n, n ∈ ns ↔ ∃ b, (n, b) ∈ opB cs ns := fun n => by rw [show (n ∈ ns) = (n ∈ (opB cs ns).map (·.1)) by rw [hnm]]; simp
  have hidn : ¬ id ∈ ns := fun h => by rw [hasN_mem.2 h] at hid; cases hid
  have sim := freeAll_sim (opB cs ns) All s sim0
  have sim : Sim A All (fun k => ¬ k ∈ ns) S rho (freeAll (opB cs ns) s) a w := sim.weak (fun _ h => h) (fun i => ⟨fun h => ⟨trivial, fun p hp e => h (by rw [hin, ← e]; exact ⟨p.2, hp⟩)⟩, fun ⟨_, h⟩ hm => by obtain ⟨b, hb'⟩ := (hin i).1 hm; exact h _ hb' rfl⟩)
  obtain ⟨s1, hs1⟩ : ∃ s1, s1 = freeAll (opB cs ns) s := ⟨_, rfl⟩
  have hid1 : s1.h id = .hbox cs := by
    rw [hs1, freeAll_out _ _ id (fun p hp e => hidn (by rw [hin, ← e]; exact ⟨p.2, hp⟩)) (fun d => by rw [hb]; rfl), hb]
  have hrow1 : ∀ n b, (n, b) ∈ opB cs ns → s1.h n = b := fun n b hm => by
    obtain ⟨j, e, es, _, rfl, _⟩ := op_at hm
    rw [hs1]; exact freeAll_in _ _ n _ hnd (fun d => rfl) hm
  rw [← hs1] at sim ⊢
  have hh := sim.hp id hidn
  rw [hid1] at hh
  obtain ⟨g, ty, c, k1, hB⟩ := hh
  have hgid : blk (rho id) = some g := by rw [k1]; rfl
  have hlive : (s1.h id).live := by rw [hid1]; trivial
  -- the place of a name
  have place : ∀ n, n ∈ ns → ∃ (j : Nat) (e : TypeId) (es : List (List PV)) (u : Value), cs[j]? = some (.row e es) ∧ (opA cs ns)[j]? = some (.ow n) ∧ c[j]? = some u ∧ s1.h n = .row e es ∧ (n, AB.row e es) ∈ opB cs ns := fun n hm => by
    obtain ⟨b, hb'⟩ := (hin n).1 hm
    obtain ⟨j, e, es, h1, rfl, h3⟩ := op_at hb'
    obtain ⟨u, hu⟩ := arr_at hB.sz.symm (lt_of_get h1)
    exact ⟨j, e, es, u, h1, h3, hu, hrow1 n _ hb', hb'⟩
  obtain ⟨F, hF⟩ : ∃ F : Nat → Value, ∀ n, n ∈ ns → ∃ (j : Nat) (e : TypeId) (es : List (List PV)), cs[j]? = some (.row e es) ∧ (opA cs ns)[j]? = some (.ow n) ∧ c[j]? = some (F n) ∧ s1.h n = .row e es ∧ (n, AB.row e es) ∈ opB cs ns := by
    have ex : ∀ n, ∃ u : Value, n ∈ ns → ∃ (j : Nat) (e : TypeId) (es : List (List PV)), cs[j]? = some (.row e es) ∧ (opA cs ns)[j]? = some (.ow n) ∧ c[j]? = some u ∧ s1.h n = .row e es ∧ (n, AB.row e es) ∈ opB cs ns := fun n => by
      by_cases hm : n ∈ ns
      · obtain ⟨j, e, es, u, h⟩ := place n hm
        exact ⟨u, fun _ => ⟨j, e, es, h⟩⟩
      · exact ⟨undef, fun h => (hm h).elim⟩
    exact ⟨fun n => (ex n).choose, fun n => (ex n).choose_spec⟩
  -- names at one place are one
  have opA_inj : ∀ {cs : List HC} {ns : List Nat} {i j n : Nat}, rowsOf cs = ns.length → goodNames ns = true → (opA cs ns)[i]? = some (.ow n) → (opA cs ns)[j]? = some (.ow n) → i = j := by
    intro cs ns i j n hl hg h1 h2
    have hcn : ∀ {cs : List HC} {ns : List Nat}, rowsOf cs = ns.length → cellNames (opA cs ns) = ns := by
      intro cs
      induction cs with
      | nil => intro ns h; cases ns with | nil => rfl | cons n ns => simp [rowsOf] at h
      | cons x cs ih =>
        intro ns h
        cases x with
        | p x => exact ih h
        | row e es =>
          cases ns with
          | nil => simp [rowsOf] at h
          | cons n ns =>
            simp only [rowsOf, List.length_cons, Nat.add_right_cancel_iff] at h
            show n :: cellNames (opA cs ns) = _
            rw [ih h]
    exact goodNames_at (by rw [hcn hl]; exact hg) h1 h2
  obtain ⟨rho', hrho'⟩ : ∃ rho' : Nat → Value, rho' = fun k => if k ∈ ns then F k else rho k := ⟨_, rfl⟩
  have rin : ∀ k, k ∈ ns → rho' k = F k := fun k hk => by rw [hrho']; exact if_pos hk
  have rout : ∀ k, ¬ k ∈ ns → rho' k = rho k := fun k hk => by rw [hrho']; exact if_neg hk
  have hup : ∀ k, (k = id ∧ upd s1.h id (.box (opA cs ns)) k = .box (opA cs ns)) ∨ (k ≠ id ∧ upd s1.h id (.box (opA cs ns)) k = s1.h k) := fun k => by
    by_cases e : k = id
    · subst e; exact .inl ⟨rfl, upd_same _ _ _⟩
    · exact .inr ⟨e, upd_ne _ _ e⟩
  have T : Turn S S w w (fun k => ¬ k ∈ ns) All rho rho' s1.h (upd s1.h id (.box (opA cs ns))) := ⟨fun _ h => h, fun _ _ => rfl, fun j hj => ⟨by
      rcases hup j with ⟨rfl, h⟩ | ⟨_, h⟩
      · rw [hid1]; trivial
      · rw [h] at hj; exact hj, fun hn => ⟨trivial, rout j hn⟩⟩, fun j e hj => by
      rcases hup j with ⟨_, h⟩ | ⟨_, h⟩
      · rw [h] at hj; cases hj
      · rw [h] at hj; exact hj⟩
  -- whose the blocks were
  have owner : ∀ j k, (upd s1.h id (.box (opA cs ns)) j).live → hasB w (upd s1.h id (.box (opA cs ns)) j) (rho' j) k → ∃ o, ¬ o ∈ ns ∧ (s1.h o).live ∧ hasB w (s1.h o) (rho o) k ∧ (if j ∈ ns then o = id else o = j) := fun j k hl ho => by
    by_cases hj : j ∈ ns
    · obtain ⟨i, e, es, h1, h2, h3, h4, h5⟩ := hF j hj
      have hji : j ≠ id := fun e => hidn (e ▸ hj)
      rw [upd_ne _ _ hji, h4, rin j hj] at ho
      refine ⟨id, hidn, hlive, ?_, by rw [if_pos hj]⟩
      rw [hid1]
      exact .inr <| .inl ⟨cs, g, rfl, hgid, c, ty, _, i, _, F j, hB.hp, h1, trivial, h3, hasB_plain rfl ho⟩
    · rw [rout j hj] at ho
      rcases hup j with ⟨rfl, h⟩ | ⟨_, h⟩
      · rw [h] at ho
        exact ⟨j, hj, hlive, .inl (hasB_plain rfl ho), by rw [if_neg hj]⟩
      · rw [h] at hl ho
        exact ⟨j, hj, hl, ho, by rw [if_neg hj]⟩
  exact ⟨S, rho',
  { tm := fun j hj => (sim.tm j hj).turn T
    sz := sim.sz, df := sim.df, nb := sim.nb
    pn := fun k hk => by rw [rout k fun h => by have := goodNames_lt hg h; omega]; exact sim.pn k hk
    ev := sim.ev, s0 := sim.s0, st := sim.st, sb := sim.sb
    hp := fun j _ => by
      show HRep _ _ _ _ _ _ _ (upd s1.h id (.box (opA cs ns)) j)
      rcases hup j with ⟨rfl, h⟩ | ⟨hne, h⟩
      · rw [h]
        refine ⟨g, ty, c, by rw [rout j hidn]; exact k1, hB.hp, by rw [opA_len]; exact hB.sz, fun i x u hi hu => ?_⟩
        rcases op_cell hl hi with ⟨z, h1, rfl⟩ | ⟨n, e, es, h1, rfl, h3⟩
        · exact ⟨(hB.cell i _ u h1 hu).1, .p _ _ (hB.cell i _ u h1 hu).2⟩
        · refine ⟨(hB.cell i _ u h1 hu).1, .ow n u fun _ => ⟨trivial, ?_⟩⟩
          have hm : n ∈ ns := (hin n).2 ⟨_, h3⟩
          obtain ⟨i', e', es', q1, q2, q3, q4, q5⟩ := hF n hm
          have := opA_inj hl hg q2 hi
          subst this
          rw [rin n hm]
          rw [q3] at hu
          injection hu with hu
          exact hu.symm
      · rw [h]
        by_cases hj : j ∈ ns
        · obtain ⟨i, e, es, h1, h2, h3, h4, h5⟩ := hF j hj
          rw [h4]
          show RowRep _ _ _ _ _ (rho' j)
          rw [rin j hj]
          exact (hB.cell i _ _ h1 h3).2
        · exact (sim.hp j hj).turn T (fun _ _ _ => rfl) (fun _ => rout j hj)
    dj := fun i j k _ _ li lj hi hj => by
      obtain ⟨o, o1, o2, o3, o4⟩ := owner i k li hi
      obtain ⟨p, p1, p2, p3, p4⟩ := owner j k lj hj
      have := sim.dj o p k o1 p1 o2 p2 o3 p3
      subst this
      by_cases ei : i ∈ ns
      · rw [if_pos ei] at o4
        subst o4
        have hi : hasB w (upd s1.h o (.box (opA cs ns)) i) (rho' i) k := hi
        obtain ⟨i1, e1, es1, q1, q2, q3, q4, q5⟩ := hF i ei
        have hib : blk (F i) = some k := by
          rw [upd_ne _ _ (fun e => hidn (by rw [← e]; exact ei)), q4, rin i ei] at hi
          exact hasB_plain rfl hi
        by_cases ej : j ∈ ns
        · have hj : hasB w (upd s1.h o (.box (opA cs ns)) j) (rho' j) k := hj
          obtain ⟨j1, e2, es2, r1, r2, r3, r4, r5⟩ := hF j ej
          have hjb : blk (F j) = some k := by
            rw [upd_ne _ _ (fun e => hidn (by rw [← e]; exact ej)), r4, rin j ej] at hj
            exact hasB_plain rfl hj
          have := hB.dis i1 j1 _ _ _ _ k q1 r1 q3 r3 trivial trivial hib hjb
          subst this
          rw [q2] at r2
          injection r2 with r2
          injection r2
        · rw [if_neg ej] at p4
          subst p4
          exfalso
          have hj : hasB w (upd s1.h o (.box (opA cs ns)) o) (rho' o) k := hj
          rw [upd_same, rout o ej] at hj
          have hj := hasB_plain rfl hj
          rw [hgid] at hj
          injection hj with hj
          exact hB.top i1 _ _ k q1 q3 trivial hib hj.symm
      · rw [if_neg ei] at o4
        by_cases ej : j ∈ ns
        · rw [if_pos ej] at p4
          subst o4
          subst p4
          exfalso
          have hi : hasB w (upd s1.h o (.box (opA cs ns)) o) (rho' o) k := hi
          have hj : hasB w (upd s1.h o (.box (opA cs ns)) j) (rho' j) k := hj
          obtain ⟨j1, e2, es2, r1, r2, r3, r4, r5⟩ := hF j ej
          have hjb : blk (F j) = some k := by
            rw [upd_ne _ _ (fun e => hidn (by rw [← e]; exact ej)), r4, rin j ej] at hj
            exact hasB_plain rfl hj
          rw [upd_same, rout o ei] at hi
          have hi := hasB_plain rfl hi
          rw [hgid] at hi
          injection hi with hi
          exact hB.top j1 _ _ k r1 r3 trivial hjb hi.symm
        · rw [if_neg ej] at p4
          exact o4.symm.trans p4
    lv := fun i k _ li hi => by
      obtain ⟨o, o1, o2, o3, _⟩ := owner i k li hi
      exact sim.lv o k o1 o2 o3
    fr := sim.fr }⟩
end Go.AM
namespace Go.AM
open Go.RowKit

def cellAt (w : World) (g p : Nat) (u : Value) : Prop := ∃ (c : Array Value) (ty : TypeId) (m : Nat × Nat), w.heap[g]? = some (.cells c ty m) ∧ c[p]? = some u
theorem cellAt_uniq {w : World} {g p : Nat} {u v : Value} (h : cellAt w g p u) (k : cellAt w g p v) : u = v := by
  obtain ⟨c, ty, m, h1, h2⟩ := h
  obtain ⟨c', ty', m', k1, k2⟩ := k
  rw [h1] at k1
  injection k1 with k1
  injection k1 with k1
  subst k1
  rw [h2] at k2
  injection k2
theorem hcellB_iff {w : World} {es : List (List HX)} {g a j : Nat} {u : Value} : hcellB w es g a j u ↔ ∃ r e xs, es[a]? = some r ∧ r[j]? = some (.row e xs) ∧ cellAt w g (a * r.length + j) u :=
  ⟨fun ⟨r, e, xs, c, ty, m, h1, h2, h3, h4⟩ => ⟨r, e, xs, h1, h2, c, ty, m, h3, h4⟩, fun ⟨r, e, xs, h1, h2, c, ty, m, h3, h4⟩ => ⟨r, e, xs, c, ty, m, h1, h2, h3, h4⟩⟩
/-- a row seen otherwise, cell by cell -/
theorem RowRep.re {α β : Type} {P : Program} {w : World} {R : α → Value → Prop} {R' : β → Value → Prop} {e : TypeId} {es : List (List α)} {es2 : List (List β)} {v : Value} (h : RowRep P w R e es v) (hl : es2.length = es.length)
    (hk : ∀ (a : Nat) r r2, es[a]? = some r → es2[a]? = some r2 → r2.length = r.length)
    (hc : ∀ (a : Nat) r r2 (j : Nat) x x2 u, es[a]? = some r → es2[a]? = some r2 → r[j]? = some x → r2[j]? = some x2 → (∀ g, blk v = some g → cellAt w g (a * r.length + j) u) → R x u → R' x2 u) : RowRep P w R' e es2 v := by
  obtain ⟨i, xs, h1, h2, h3, h4, h5, h6⟩ := h
  have old : ∀ {a : Nat} {r2 : List β}, es2[a]? = some r2 → ∃ r, es[a]? = some r := fun {a r2} ha => ⟨_, List.getElem?_eq_getElem (by rw [← hl]; exact lt_of_get ha)⟩
  refine ⟨i, xs, h1, h2, by rw [hl]; exact h3, fun r2 hr2 => ?_, h5, fun a r2 j x2 ha hj => ?_⟩
  · obtain ⟨a, ha⟩ := List.mem_iff_getElem?.1 hr2
    obtain ⟨r, hr⟩ := old ha
    rw [hk a r r2 hr ha]
    exact h4 r (List.mem_of_getElem? hr)
  · obtain ⟨r, hr⟩ := old ha
    have hlen := hk a r r2 hr ha
    obtain ⟨x, hx⟩ : ∃ x, r[j]? = some x := ⟨_, List.getElem?_eq_getElem (by rw [← hlen]; exact lt_of_get hj)⟩
    obtain ⟨u, hu, hru⟩ := h6 a r j x hr hx
    refine ⟨u, hu, hc a r r2 j x x2 u hr ha hx hj (fun g hg => ?_) hru⟩
    have hrl := h4 r (List.mem_of_getElem? hr)
    rcases h3.2 with ⟨hn, _⟩ | ⟨g', cap, cur, hv, _, hgg, k1, k2, k3, k4⟩
    · rw [hn] at hg; cases hg
    · rw [hv] at hg
      obtain rfl := blk_slice.1 hg
      refine ⟨cur, _, _, hgg, ?_⟩
      rw [hrl]
      rw [← k4, List.getElem?_take] at hu
      split at hu
      · simpa using hu
      · cases hu
/-- a row of plain cells, as one that may own rows -/
theorem SLe.toH {A : Amb} (hC : CtxOK A.C) (s : AS) (id : Nat) {e : TypeId} {es : List (List PV)} (hb : s.h id = .row e es) : SLe A s ⟨s.t, upd s.h id (.hrow e (es.map hxs))⟩ := by
  intro S rho a w sim
  have nocell : ∀ g k j u, ¬ hcellB w (es.map hxs) g k j u := fun g k j u h => by
    obtain ⟨r, e', xs', h1, h2, _⟩ := hcellB_iff.1 h
    rw [List.getElem?_map] at h1
    obtain ⟨q, _, rfl⟩ := Option.map_eq_some_iff.1 h1
    rw [hxs, List.getElem?_map] at h2
    obtain ⟨z, _, hz⟩ := Option.map_eq_some_iff.1 h2
    cases hz
  have hh := sim.hp id trivial
  rw [hb] at hh
  have hh : RowRep A.C.P w (PRep S w) e es (rho id) := hh
  refine ⟨S, rho, sim.writeH hC id trivial (by rw [hb]; trivial) _ (fun e' h => by rw [hb]; exact h) w rfl rfl rfl rfl (fun _ _ => rfl) (fun T => ?_) (fun g h => ?_)⟩
  · refine ⟨hh.re (by simp) (fun k r r2 h1 h2 => ?_) (fun k r r2 j x x2 u h1 h2 h3 h4 _ hx => ?_), ⟨fun g k j u b _ h => absurd h (nocell _ _ _ _), fun g k j k' j' u u' b _ h => absurd h (nocell _ _ _ _)⟩⟩
    · rw [List.getElem?_map, h1] at h2
      injection h2 with h2
      rw [← h2, hxs, List.length_map]
    · rw [List.getElem?_map, h1] at h2
      injection h2 with h2
      rw [← h2, hxs, List.getElem?_map, h3] at h4
      injection h4 with h4
      rw [← h4]
      exact avN_rep hx
  · rw [hasB_hrow'] at h
    rcases h with h | ⟨g', k, j, u, _, h, _⟩
    · exact .inl h
    · exact absurd h (nocell _ _ _ _)
/-- no cell names an object -/
def sealedC : HX → Prop
  | .av (.p _) => True
  | .av .nl => True
  | .row _ _ => True
  | _ => False
def sealed' (es : List (List HX)) : Prop := ∀ r ∈ es, ∀ x ∈ r, sealedC x
theorem sealed_sc {es : List (List HX)} (h : sealed' es) (d : Nat) : (es.map fun r => r.map (HX.mapAV (sc d))) = es := by
  conv => rhs; rw [← List.map_id es]
  refine List.map_congr_left fun r hr => ?_
  show r.map _ = r
  conv => rhs; rw [← List.map_id r]
  refine List.map_congr_left fun x hx => ?_
  have := h r hr x hx
  cases x with
  | row e es => rfl
  | av y => cases y <;> first | rfl | exact this.elim
theorem set_at {α : Type} {l : List α} {i a : Nat} {x y : α} (h : (l.set i x)[a]? = some y) : (a = i ∧ y = x ∧ i < l.length) ∨ (a ≠ i ∧ l[a]? = some y) := by
  by_cases e : a = i
  · subst e
    have hl := lt_of_get h
    rw [List.length_set] at hl
    rw [List.getElem?_set_self hl] at h
    injection h with h
    exact .inl ⟨rfl, h.symm, hl⟩
  · rw [List.getElem?_set_ne (fun e' => e e'.symm)] at h
    exact .inr ⟨e, h⟩
/-- an owned row taken out of its cell, under the name d -/
theorem SLe.takeOut {A : Amb} (hC : CtxOK A.C) (s : AS) (id i j d : Nat) {e e' : TypeId} {es : List (List HX)} {r : List HX} {xs : List (List PV)} (hd : d < 100000) (hid : id ≠ d) (hb : s.h id = .hrow e es) (hs : sealed' es) (hr : es[i]? = some r) (hj : r[j]? = some (.row e' xs)) :
    SLe A s ⟨(scr d s).t, upd (upd (scr d s).h d (.row e' xs)) id (.hrow e (es.set i (r.set j (.av (.ow d)))))⟩ := by
  intro S rho a w sim0
  have sim := sim0.free d (.row e' xs)
  obtain ⟨h1, hh1⟩ : ∃ h1, h1 = upd (scr d s).h d (.row e' xs) := ⟨_, rfl⟩
  have hid1 : h1 id = .hrow e es := by
    rw [hh1, upd_ne _ _ hid]
    show upd (fun k => scB d (s.h k)) d .none id = _
    rw [upd_ne _ _ hid, hb]
    show AB.hrow e _ = _
    rw [sealed_sc hs]
  have hd1 : h1 d = .row e' xs := by rw [hh1, upd_same]
  rw [← hh1] at sim ⊢
  obtain ⟨es2, hes2⟩ : ∃ es2, es2 = es.set i (r.set j (.av (.ow d))) := ⟨_, rfl⟩
  rw [← hes2]
  have hh := sim.hp id hid
  have hh : HRep S w A.C.P (fun k => k ≠ d) rho h1 id (h1 id) := hh
  rw [hid1] at hh
  obtain ⟨hR, hS⟩ := hh
  obtain ⟨g, u, hg, hcu, hru⟩ := hR.cellB hr hj
  have hru : RowRep A.C.P w (PRep S w) e' xs u := hru
  have hlive : (h1 id).live := by rw [hid1]; trivial
  -- owned cells of the new row
  have cellb : ∀ g' k p v, hcellB w es2 g' k p v → hcellB w es g' k p v ∧ ¬ (k = i ∧ p = j) := by
    intro g' k p v hc
    obtain ⟨q, e2, xs2, q1, q2, q3⟩ := hcellB_iff.1 hc
    rw [hes2] at q1
    rcases set_at q1 with ⟨rfl, rfl, _⟩ | ⟨hk, q1⟩
    · rcases set_at q2 with ⟨_, hx, _⟩ | ⟨hp, q2⟩
      · cases hx
      · exact ⟨hcellB_iff.2 ⟨r, e2, xs2, hr, q2, by rw [List.length_set] at q3; exact q3⟩, fun h => hp h.2⟩
    · exact ⟨hcellB_iff.2 ⟨q, e2, xs2, q1, q2, q3⟩, fun h => hk h.1⟩
  have hown : ∀ b, blk u = some b → hasB w (h1 id) (rho id) b := fun b h => by rw [hid1, hasB_hrow']; exact .inr ⟨g, i, j, u, hg, hcu, h⟩
  obtain ⟨rho', hrho⟩ : ∃ rho', rho' = upd rho d u := ⟨_, rfl⟩
  have rd : rho' d = u := by rw [hrho, upd_same]
  have ro : ∀ k, k ≠ d → rho' k = rho k := fun k h => by rw [hrho, upd_ne _ _ h]
  have T : Turn S S w w (fun k => k ≠ d) All rho rho' h1 (upd h1 id (.hrow e es2)) := ⟨fun _ h => h, fun _ _ => rfl, fun k hk => ⟨by
      rcases upd_cases h1 id (.hrow e es2) k with ⟨rfl, h⟩ | ⟨_, h⟩
      · rw [hid1]; trivial
      · rw [h] at hk; exact hk, fun h => ⟨trivial, ro k h⟩⟩, fun k e2 hk => by
      rcases upd_cases h1 id (.hrow e es2) k with ⟨rfl, h⟩ | ⟨_, h⟩
      · rw [h] at hk; rw [hid1]; exact hk
      · rw [h] at hk; exact hk⟩
  -- whose the blocks were
  have owner : ∀ k b, (upd h1 id (.hrow e es2) k).live → hasB w (upd h1 id (.hrow e es2) k) (rho' k) b → ∃ o, o ≠ d ∧ (h1 o).live ∧ hasB w (h1 o) (rho o) b ∧ (if k = d then o = id ∧ blk u = some b else o = k ∧ (k = id → blk u ≠ some b)) := by
    intro k b hl ho
    by_cases hk : k = d
    · subst hk
      rw [upd_ne _ _ (fun e => hid e.symm), hd1, rd] at ho
      have ho := hasB_plain rfl ho
      exact ⟨id, hid, hlive, hown b ho, by rw [if_pos rfl]; exact ⟨rfl, ho⟩⟩
    · rcases upd_cases h1 id (.hrow e es2) k with ⟨rfl, h⟩ | ⟨hne, h⟩
      · rw [h, ro k hk] at ho
        rw [hasB_hrow'] at ho
        refine ⟨k, hk, hlive, ?_, ?_⟩
        · rw [hid1, hasB_hrow']
          rcases ho with ho | ⟨g', k', p, v, o1, o2, o3⟩
          · exact .inl ho
          · exact .inr ⟨g', k', p, v, o1, (cellb _ _ _ _ o2).1, o3⟩
        · rw [if_neg hk]
          refine ⟨rfl, fun _ hub => ?_⟩
          rcases ho with ho | ⟨g', k', p, v, o1, o2, o3⟩
          · rw [hg] at ho
            injection ho with ho
            exact hS.top g i j u b hg hcu hub ho.symm
          · rw [hg] at o1
            injection o1 with o1
            subst o1
            obtain ⟨c1, c2⟩ := cellb _ _ _ _ o2
            exact c2 (hS.dis g k' p i j v u b hg c1 hcu o3 hub)
      · rw [h, ro k hk] at ho
        rw [h] at hl
        exact ⟨k, hk, hl, ho, by rw [if_neg hk]; exact ⟨rfl, fun e => absurd e hne⟩⟩
  exact ⟨S, rho',
  { tm := fun k hk => (sim.tm k hk).turn T
    sz := sim.sz, df := sim.df, nb := sim.nb
    pn := fun k hk => by rw [ro k (by omega)]; exact sim.pn k hk
    ev := sim.ev, s0 := sim.s0, st := sim.st, sb := sim.sb
    hp := fun k _ => by
      show HRep _ _ _ _ _ _ _ (upd h1 id (.hrow e es2) k)
      by_cases hk : k = d
      · subst hk
        rw [upd_ne _ _ (fun e => hid e.symm), hd1]
        show RowRep _ _ _ _ _ (rho' k)
        rw [rd]
        exact hru
      · rcases upd_cases h1 id (.hrow e es2) k with ⟨rfl, h⟩ | ⟨hne, h⟩
        · rw [h]
          show RowRep _ _ _ _ _ (rho' k) ∧ HSep _ _ (rho' k)
          rw [ro k hk]
          refine ⟨hR.re (by rw [hes2, List.length_set]) (fun p q q2 z1 z2 => ?_) (fun p q q2 m x x2 v z1 z2 z3 z4 hcell hx => ?_), ⟨fun g' p m v b c1 c2 c3 => hS.top g' p m v b c1 (cellb _ _ _ _ c2).1 c3, fun g' p m p' m' v v' b c1 c2 c3 c4 c5 => hS.dis g' p m p' m' v v' b c1 (cellb _ _ _ _ c2).1 (cellb _ _ _ _ c3).1 c4 c5⟩⟩
          · rw [hes2] at z2
            rcases set_at z2 with ⟨rfl, rfl, _⟩ | ⟨_, z2⟩
            · rw [hr] at z1; injection z1 with z1; rw [← z1, List.length_set]
            · rw [z1] at z2; injection z2 with z2; rw [z2]
          · have turnX : HXRep S w A.C.P (fun k => k ≠ d) rho h1 x v → x2 = x → HXRep S w A.C.P All rho' (upd h1 k (.hrow e es2)) x2 v := fun hx hxx => by
              rw [hxx]
              cases x with
              | av y => exact LRep.turn T hx
              | row e2 xs2 => exact hx
            rw [hes2] at z2
            rcases set_at z2 with ⟨rfl, rfl, _⟩ | ⟨_, z2⟩
            · rw [hr] at z1
              injection z1 with z1
              subst z1
              rcases set_at z4 with ⟨rfl, rfl, _⟩ | ⟨_, z4⟩
              · obtain ⟨q', _, _, c1, _, c2⟩ := hcellB_iff.1 hcu
                rw [hr] at c1
                injection c1 with c1
                subst c1
                have := cellAt_uniq (hcell g hg) c2
                subst this
                exact .ow d _ fun _ => ⟨trivial, rd.symm⟩
              · rw [z3] at z4
                injection z4 with z4
                exact turnX hx z4.symm
            · rw [z1] at z2
              injection z2 with z2
              subst z2
              rw [z3] at z4
              injection z4 with z4
              exact turnX hx z4.symm
        · rw [h]
          exact (sim.hp k hk).turn T (fun _ _ _ => rfl) (fun _ => ro k hk)
    dj := fun k m b _ _ lk lm hk hm => by
      obtain ⟨o, o1, o2, o3, o4⟩ := owner k b lk hk
      obtain ⟨p, p1, p2, p3, p4⟩ := owner m b lm hm
      have := sim.dj o p b o1 p1 o2 p2 o3 p3
      subst this
      by_cases ek : k = d <;> by_cases em : m = d
      · rw [ek, em]
      · rw [if_pos ek] at o4
        rw [if_neg em] at p4
        exact absurd o4.2 (p4.2 (p4.1.symm.trans o4.1))
      · rw [if_neg ek] at o4
        rw [if_pos em] at p4
        exact absurd p4.2 (o4.2 (o4.1.symm.trans p4.1))
      · rw [if_neg ek] at o4
        rw [if_neg em] at p4
        exact o4.1.symm.trans p4.1
    lv := fun k b _ lk hk => by
      obtain ⟨o, o1, o2, o3, _⟩ := owner k b lk hk
      exact sim.lv o b o1 o2 o3
    fr := sim.fr }⟩
/-- a row put back into its cell -/
theorem SLe.putIn {A : Amb} (hC : CtxOK A.C) (s : AS) (id i j d : Nat) {e e' : TypeId} {es : List (List HX)} {r : List HX} {xs : List (List PV)} (hid : id ≠ d) (hb : s.h id = .hrow e es) (hdr : s.h d = .row e' xs) (hr : es[i]? = some r) (hj : r[j]? = some (.av (.ow d))) :
    SLe A s ⟨s.t, upd (upd s.h d .none) id (.hrow e (es.set i (r.set j (.row e' xs))))⟩ := by
  intro S rho a w sim
  obtain ⟨es2, hes2⟩ : ∃ es2, es2 = es.set i (r.set j (.row e' xs)) := ⟨_, rfl⟩
  rw [← hes2]
  have hh := sim.hp id trivial
  rw [hb] at hh
  obtain ⟨hR, hS⟩ := hh
  have hlive : (s.h id).live := by rw [hb]; trivial
  have hdl : (s.h d).live := by rw [hdr]; trivial
  have hrd := sim.hp d trivial
  rw [hdr] at hrd
  have hrd : RowRep A.C.P w (PRep S w) e' xs (rho d) := hrd
  have up : ∀ k, (k = id ∧ upd (upd s.h d .none) id (.hrow e es2) k = .hrow e es2) ∨ (k = d ∧ k ≠ id ∧ upd (upd s.h d .none) id (.hrow e es2) k = .none) ∨ (k ≠ d ∧ k ≠ id ∧ upd (upd s.h d .none) id (.hrow e es2) k = s.h k) := fun k => by
    by_cases h1 : k = id
    · subst h1; exact .inl ⟨rfl, upd_same _ _ _⟩
    · by_cases h2 : k = d
      · subst h2; exact .inr (.inl ⟨rfl, h1, by rw [upd_ne _ _ h1, upd_same]⟩)
      · exact .inr (.inr ⟨h2, h1, by rw [upd_ne _ _ h1, upd_ne _ _ h2]⟩)
  have T : Turn S S w w All All rho rho s.h (upd (upd s.h d .none) id (.hrow e es2)) := ⟨fun _ h => h, fun _ _ => rfl, fun k hk => ⟨by
      rcases up k with ⟨rfl, h⟩ | ⟨_, _, h⟩ | ⟨_, _, h⟩
      · rw [hb]; trivial
      · rw [h] at hk; exact hk.elim
      · rw [h] at hk; exact hk, fun h => ⟨trivial, rfl⟩⟩, fun k e2 hk => by
      rcases up k with ⟨rfl, h⟩ | ⟨_, _, h⟩ | ⟨_, _, h⟩
      · rw [h] at hk; rw [hb]; exact hk
      · rw [h] at hk; cases hk
      · rw [h] at hk; exact hk⟩
  -- the value in the cell
  have hval : ∀ g u, blk (rho id) = some g → cellAt w g (i * r.length + j) u → u = rho d := fun g u hg hu => by
    obtain ⟨i0, ws, q1, q2, q3, q4, q5, q6⟩ := hR
    obtain ⟨u2, p1, p2⟩ := q6 i r j _ hr hj
    have p2 : LRep S w A.C.P All rho s.h (.ow d) u2 := p2
    have := (p2.ow_inv (by rw [hdr]; trivial)).2
    rw [← this]
    have hrl := q4 r (List.mem_of_getElem? hr)
    rcases q3.2 with ⟨hn, _⟩ | ⟨g', cap, cur, hv, _, hgg, k1, k2, k3, k4⟩
    · rw [hn] at hg; cases hg
    · rw [hv] at hg
      obtain rfl := blk_slice.1 hg
      refine cellAt_uniq hu ⟨cur, _, _, hgg, ?_⟩
      rw [hrl]
      rw [← k4, List.getElem?_take] at p1
      split at p1
      · simpa using p1
      · cases p1
  have cellb : ∀ g k p v, blk (rho id) = some g → hcellB w es2 g k p v → (hcellB w es g k p v ∧ ¬ (k = i ∧ p = j)) ∨ (k = i ∧ p = j ∧ v = rho d) := by
    intro g k p v hg hc
    obtain ⟨q, e2, xs2, q1, q2, q3⟩ := hcellB_iff.1 hc
    rw [hes2] at q1
    rcases set_at q1 with ⟨rfl, rfl, _⟩ | ⟨hk, q1⟩
    · rw [List.length_set] at q3
      rcases set_at q2 with ⟨rfl, _, _⟩ | ⟨hp, q2⟩
      · exact .inr ⟨rfl, rfl, hval g v hg q3⟩
      · exact .inl ⟨hcellB_iff.2 ⟨r, e2, xs2, hr, q2, q3⟩, fun h => hp h.2⟩
    · exact .inl ⟨hcellB_iff.2 ⟨q, e2, xs2, q1, q2, q3⟩, fun h => hk h.1⟩
  have inner : ∀ g k p v b, blk (rho id) = some g → hcellB w es g k p v → blk v = some b → blk (rho d) ≠ some b := fun g k p v b h1 h2 h3 h4 =>
    hid (sim.dj id d b trivial trivial hlive hdl (by rw [hb, hasB_hrow']; exact .inr ⟨g, k, p, v, h1, h2, h3⟩) (.inl h4))
  have owner : ∀ k b, (upd (upd s.h d .none) id (.hrow e es2) k).live → hasB w (upd (upd s.h d .none) id (.hrow e es2) k) (rho k) b → ∃ o, (s.h o).live ∧ hasB w (s.h o) (rho o) b ∧ (o = k ∧ k ≠ d ∨ o = d ∧ k = id) := by
    intro k b hl ho
    rcases up k with ⟨rfl, h⟩ | ⟨_, _, h⟩ | ⟨h1, _, h⟩
    · rw [h, hasB_hrow'] at ho
      rcases ho with ho | ⟨g, k', p, v, o1, o2, o3⟩
      · exact ⟨k, hlive, .inl ho, .inl ⟨rfl, hid⟩⟩
      · rcases cellb _ _ _ _ o1 o2 with ⟨c1, _⟩ | ⟨_, _, rfl⟩
        · exact ⟨k, hlive, by rw [hb, hasB_hrow']; exact .inr ⟨g, k', p, v, o1, c1, o3⟩, .inl ⟨rfl, hid⟩⟩
        · exact ⟨d, hdl, .inl o3, .inr ⟨rfl, rfl⟩⟩
    · rw [h] at hl; exact hl.elim
    · rw [h] at hl ho
      exact ⟨k, hl, ho, .inl ⟨rfl, h1⟩⟩
  exact ⟨S, rho,
  { tm := fun k hk => (sim.tm k hk).turn T
    sz := sim.sz, df := sim.df, nb := sim.nb, pn := sim.pn
    ev := sim.ev, s0 := sim.s0, st := sim.st, sb := sim.sb
    hp := fun k _ => by
      show HRep _ _ _ _ _ _ _ (upd (upd s.h d .none) id (.hrow e es2) k)
      rcases up k with ⟨rfl, h⟩ | ⟨_, _, h⟩ | ⟨h1, hne, h⟩
      · rw [h]
        refine ⟨hR.re (by rw [hes2, List.length_set]) (fun p q q2 z1 z2 => ?_) (fun p q q2 m x x2 v z1 z2 z3 z4 hcell hx => ?_), ⟨fun g p m v b c1 c2 c3 => ?_, fun g p m p' m' v v' b c1 c2 c3 c4 c5 => ?_⟩⟩
        · rw [hes2] at z2
          rcases set_at z2 with ⟨rfl, rfl, _⟩ | ⟨_, z2⟩
          · rw [hr] at z1; injection z1 with z1; rw [← z1, List.length_set]
          · rw [z1] at z2; injection z2 with z2; rw [z2]
        · have turnX : HXRep S w A.C.P All rho s.h x v → x2 = x → HXRep S w A.C.P All rho (upd (upd s.h d .none) k (.hrow e es2)) x2 v := fun hx hxx => by
            rw [hxx]
            cases x with
            | av y => exact LRep.turn T hx
            | row e2 xs2 => exact hx
          rw [hes2] at z2
          rcases set_at z2 with ⟨rfl, rfl, _⟩ | ⟨_, z2⟩
          · rw [hr] at z1
            injection z1 with z1
            subst z1
            rcases set_at z4 with ⟨rfl, rfl, _⟩ | ⟨_, z4⟩
            · have hx : HXRep S w A.C.P All rho s.h x v := hx
              rw [hj] at z3
              injection z3 with z3
              subst z3
              have hx : LRep S w A.C.P All rho s.h (.ow d) v := hx
              show RowRep A.C.P w (PRep S w) e' xs v
              rw [(hx.ow_inv (by rw [hdr]; trivial)).2]
              exact hrd
            · rw [z3] at z4
              injection z4 with z4
              exact turnX hx z4.symm
          · rw [z1] at z2
            injection z2 with z2
            subst z2
            rw [z3] at z4
            injection z4 with z4
            exact turnX hx z4.symm
        · rcases cellb _ _ _ _ c1 c2 with ⟨q1, _⟩ | ⟨_, _, rfl⟩
          · exact hS.top g p m v b c1 q1 c3
          · intro hbg
            subst hbg
            exact hid (sim.dj k d b trivial trivial hlive hdl (.inl c1) (.inl c3))
        · rcases cellb _ _ _ _ c1 c2 with ⟨q1, q2⟩ | ⟨rfl, rfl, rfl⟩ <;> rcases cellb _ _ _ _ c1 c3 with ⟨q3, q4⟩ | ⟨rfl, rfl, rfl⟩
          · exact hS.dis g p m p' m' v v' b c1 q1 q3 c4 c5
          · exact absurd c5 (inner g p m v b c1 q1 c4)
          · exact absurd c4 (inner g p' m' v' b c1 q3 c5)
          · exact ⟨rfl, rfl⟩
      · rw [h]; trivial
      · rw [h]
        exact (sim.hp k trivial).turn T (fun _ _ _ => rfl) (fun _ => rfl)
    dj := fun k m b _ _ lk lm hk hm => by
      obtain ⟨o, o1, o2, o3⟩ := owner k b lk hk
      obtain ⟨p, p1, p2, p3⟩ := owner m b lm hm
      have := sim.dj o p b trivial trivial o1 p1 o2 p2
      subst this
      rcases o3 with ⟨rfl, o3⟩ | ⟨rfl, o3⟩ <;> rcases p3 with ⟨rfl, p3⟩ | ⟨h, p3⟩
      · rfl
      · exact absurd h o3
      · exact absurd rfl p3
      · rw [o3, p3]
    lv := fun k b _ lk hk => by
      obtain ⟨o, o1, o2, _⟩ := owner k b lk hk
      exact sim.lv o b trivial o1 o2
    fr := sim.fr }⟩
/-- a nil slice in a cell, as an owned row without cells -/
theorem SLe.nilH {A : Amb} (hC : CtxOK A.C) (s : AS) (id i j : Nat) {e e' : TypeId} {es : List (List HX)} {r : List HX} {ti : TI} (hb : s.h id = .hrow e es) (hr : es[i]? = some r) (hj : r[j]? = some (.av .nl)) (hT : A.C.T e' = some ti) (hpos : 0 < ti.size) :
    SLe A s ⟨s.t, upd s.h id (.hrow e (es.set i (r.set j (.row e' []))))⟩ := by
  intro S rho a w sim
  obtain ⟨es2, hes2⟩ : ∃ es2, es2 = es.set i (r.set j (.row e' [])) := ⟨_, rfl⟩
  rw [← hes2]
  have hh := sim.hp id trivial
  rw [hb] at hh
  obtain ⟨hR, hS⟩ := hh
  obtain ⟨info, z, h1, h2, _⟩ := hC.tab e' ti hT
  have hval : ∀ g u, blk (rho id) = some g → cellAt w g (i * r.length + j) u → u = .slice none 0 0 := fun g u hg hu => by
    obtain ⟨i0, ws, q1, q2, q3, q4, q5, q6⟩ := hR
    obtain ⟨u2, p1, p2⟩ := q6 i r j _ hr hj
    have p2 : LRep S w A.C.P All rho s.h .nl u2 := p2
    have : u2 = .slice none 0 0 := by cases p2; rfl
    rw [← this]
    have hrl := q4 r (List.mem_of_getElem? hr)
    rcases q3.2 with ⟨hn, _⟩ | ⟨g', cap, cur, hv, _, hgg, k1, k2, k3, k4⟩
    · rw [hn] at hg; cases hg
    · rw [hv] at hg
      obtain rfl := blk_slice.1 hg
      refine cellAt_uniq hu ⟨cur, _, _, hgg, ?_⟩
      rw [hrl]
      rw [← k4, List.getElem?_take] at p1
      split at p1
      · simpa using p1
      · cases p1
  have cellb : ∀ g k p v b, blk (rho id) = some g → hcellB w es2 g k p v → blk v = some b → hcellB w es g k p v := by
    intro g k p v b hg hc hv
    obtain ⟨q, e2, xs2, q1, q2, q3⟩ := hcellB_iff.1 hc
    rw [hes2] at q1
    rcases set_at q1 with ⟨rfl, rfl, _⟩ | ⟨hk, q1⟩
    · rw [List.length_set] at q3
      rcases set_at q2 with ⟨rfl, _, _⟩ | ⟨hp, q2⟩
      · rw [hval g v hg q3] at hv
        cases hv
      · exact hcellB_iff.2 ⟨r, e2, xs2, hr, q2, q3⟩
    · exact hcellB_iff.2 ⟨q, e2, xs2, q1, q2, q3⟩
  refine ⟨S, rho, sim.writeH hC id trivial (by rw [hb]; trivial) _ (fun e2 h => by rw [hb]; exact h) w rfl rfl rfl rfl (fun _ _ => rfl) (fun T => ?_) (fun g h => ?_)⟩
  · refine ⟨hR.re (by rw [hes2, List.length_set]) (fun p q q2 z1 z2 => ?_) (fun p q q2 m x x2 v z1 z2 z3 z4 hcell hx => ?_), ⟨fun g p m v b c1 c2 c3 => hS.top g p m v b c1 (cellb _ _ _ _ _ c1 c2 c3) c3, fun g p m p' m' v v' b c1 c2 c3 c4 c5 => hS.dis g p m p' m' v v' b c1 (cellb _ _ _ _ _ c1 c2 c4) (cellb _ _ _ _ _ c1 c3 c5) c4 c5⟩⟩
    · rw [hes2] at z2
      rcases set_at z2 with ⟨rfl, rfl, _⟩ | ⟨_, z2⟩
      · rw [hr] at z1; injection z1 with z1; rw [← z1, List.length_set]
      · rw [z1] at z2; injection z2 with z2; rw [z2]
    · have turnX : HXRep S w A.C.P All rho s.h x v → x2 = x → HXRep S w A.C.P All rho (upd s.h id (.hrow e es2)) x2 v := fun hx hxx => by
        rw [hxx]
        cases x with
        | av y => exact LRep.turn T hx
        | row e2 xs2 => exact hx
      rw [hes2] at z2
      rcases set_at z2 with ⟨rfl, rfl, _⟩ | ⟨_, z2⟩
      · rw [hr] at z1
        injection z1 with z1
        subst z1
        rcases set_at z4 with ⟨rfl, rfl, _⟩ | ⟨_, z4⟩
        · rw [hj] at z3
          injection z3 with z3
          subst z3
          have hx : LRep S w A.C.P All rho s.h .nl v := hx
          have : v = .slice none 0 0 := by cases hx; rfl
          rw [this]
          exact ⟨info, [], h1, by omega, ⟨by simp, .inl ⟨rfl, rfl⟩⟩, by simp, by simp, by simp⟩
        · rw [z3] at z4
          injection z4 with z4
          exact turnX hx z4.symm
      · rw [z1] at z2
        injection z2 with z2
        subst z2
        rw [z3] at z4
        injection z4 with z4
        exact turnX hx z4.symm
  · rw [hasB_hrow'] at h
    rw [hb, hasB_hrow']
    rcases h with h | ⟨g', k, p, v, c1, c2, c3⟩
    · exact .inl h
    · exact .inr ⟨g', k, p, v, c1, cellb _ _ _ _ _ c1 c2 c3, c3⟩
theorem HXs.map {α : Type} {l : List α} {f : α → List HX} {g : α → List PV} (h : ∀ x ∈ l, (g x).length = (f x).length ∧ ∀ (j : Nat) u v, (f x)[j]? = some u → (g x)[j]? = some v → HXP u v) : HXs (l.map f) (l.map g) :=
  ⟨by simp, fun a r q h1 h2 => by
    rw [List.getElem?_map] at h1 h2
    obtain ⟨x, hx, rfl⟩ := Option.map_eq_some_iff.1 h1
    rw [hx] at h2
    injection h2 with h2
    subst h2
    exact h x (List.mem_of_getElem? hx)⟩
/-- the rows in the cells are never written from now on -/
theorem SLe.fromH {A : Amb} (hC : CtxOK A.C) (s : AS) (id : Nat) {e : TypeId} {es : List (List HX)} (ps : List (List PV)) (hb : s.h id = .hrow e es) (hps : HXs es ps) : SLe A s ⟨s.t, upd s.h id (.row e ps)⟩ := by
  intro S rho a w sim
  have hh := sim.hp id trivial
  rw [hb] at hh
  obtain ⟨hR, hS⟩ := hh
  have hlive : (s.h id).live := by rw [hb]; trivial
  obtain ⟨I, hI⟩ : ∃ I : Nat → Prop, I = fun b => ∃ g k j u, blk (rho id) = some g ∧ hcellB w es g k j u ∧ blk u = some b := ⟨_, rfl⟩
  have hIb : ∀ b, I b → hasB w (s.h id) (rho id) b := fun b h => by rw [hI] at h; rw [hb, hasB_hrow']; exact .inr h
  have hItop : ∀ b, I b → blk (rho id) ≠ some b := fun b h hg => by
    rw [hI] at h
    obtain ⟨g, k, j, u, h1, h2, h3⟩ := h
    rw [h1] at hg
    injection hg with hg
    exact hS.top g k j u b h1 h2 h3 hg.symm
  have T : Turn S (fun b => S b ∨ I b) w w All All rho rho s.h (upd s.h id (.row e ps)) := by
    refine ⟨fun b h => .inl h, fun _ _ => rfl, fun j hj => ⟨?_, fun hl => ⟨hl, rfl⟩⟩, fun j e' hj => ?_⟩
    · rcases upd_cases s.h id (.row e ps) j with ⟨rfl, h⟩ | ⟨_, h⟩
      · rw [hb]; trivial
      · rw [h] at hj; exact hj
    · rcases upd_cases s.h id (.row e ps) j with ⟨rfl, h⟩ | ⟨_, h⟩
      · rw [h] at hj; rw [hb]; exact hj
      · rw [h] at hj; exact hj
  have live' : ∀ j, ((upd s.h id (.row e ps)) j).live → (s.h j).live := by
    intro j hj
    rcases upd_cases s.h id (.row e ps) j with ⟨rfl, h⟩ | ⟨h1, h⟩
    · exact hlive
    · rw [h] at hj; exact hj
  have back : ∀ j g, hasB w (upd s.h id (.row e ps) j) (rho j) g → hasB w (s.h j) (rho j) g := fun j g h => by
    rcases upd_cases s.h id (.row e ps) j with ⟨rfl, h'⟩ | ⟨h1, h'⟩
    · rw [h'] at h; exact .inl (hasB_plain rfl h)
    · rw [h'] at h; exact h
  exact ⟨fun b => S b ∨ I b, rho,
  { tm := fun j hj => (sim.tm j hj).turn T
    sz := sim.sz, df := sim.df, nb := sim.nb, pn := sim.pn
    ev := hC.env _ _ _ _ sim.ev (fun b h => .inl h) (fun _ _ => rfl) (Nat.le_refl _)
    s0 := fun b h => .inl (sim.s0 b h)
    st := fun b h => h.elim (sim.st b) fun h => (sim.lv id b trivial hlive (hIb b h)).1
    sb := fun b h => h.elim (sim.sb b) fun h => .inr (sim.lv id b trivial hlive (hIb b h)).2.2
    hp := fun j hj => by
      rcases upd_cases s.h id (.row e ps) j with ⟨rfl, h⟩ | ⟨h1, h⟩
      · show HRep _ _ _ _ _ _ _ (upd s.h j (.row e ps) j)
        rw [h]
        refine hR.re hps.len (fun p q q2 z1 z2 => (hps.row p q q2 z1 z2).1) (fun p q q2 m x x2 v z1 z2 z3 z4 hcell hx => ?_)
        have := (hps.row p q q2 z1 z2).2 m x x2 z3 z4
        cases this with
        | p x => exact (LRep.p_inv hx).mono (fun b h => .inl h) (fun _ _ => rfl)
        | nl =>
          have hx : LRep S w A.C.P All rho s.h .nl v := hx
          cases hx
          exact .nil _ _
        | row e' xs =>
          have hx : RowRep A.C.P w (PRep S w) e' xs v := hx
          refine RowRep.prep hx (fun b h => .inl h) fun b hb' => .inr ?_
          rw [hI]
          obtain ⟨g, u, g1, g2, _⟩ := hR.cellB z1 z3
          obtain ⟨q', _, _, c1, _, c2⟩ := hcellB_iff.1 g2
          rw [z1] at c1
          injection c1 with c1
          subst c1
          have := cellAt_uniq (hcell g g1) c2
          subst this
          exact ⟨g, p, m, v, g1, g2, hb'⟩
      · show HRep _ _ _ _ _ _ _ (upd s.h id (.row e ps) j)
        rw [h]
        exact (sim.hp j hj).turn T (fun _ _ _ => rfl) (fun _ => rfl)
    dj := fun i j g hi hj li lj hgi hgj => sim.dj i j g hi hj (live' i li) (live' j lj) (back i g hgi) (back j g hgj)
    lv := fun i g hi li hg => by
      obtain ⟨h3, h4, h5⟩ := sim.lv i g hi (live' i li) (back i g hg)
      refine ⟨h3, fun h => h.elim h4 fun h => ?_, h5⟩
      have := sim.dj i id g hi trivial (live' i li) hlive (back i g hg) (hIb g h)
      subst this
      have hg : hasB w (upd s.h i (.row e ps) i) (rho i) g := hg
      rw [upd_same] at hg
      exact hItop g h (hasB_plain rfl hg)
    fr := sim.fr }⟩
/-- a nil slice in a box's cell, as the value that it is -/
theorem SLe.nilIm {A : Amb} (hC : CtxOK A.C) (s : AS) (id j : Nat) (cs : List AV) (hb : s.h id = .box cs) (hn : cs[j]? = some .nl) : SLe A s ⟨s.t, upd s.h id (.box (cs.set j (.p (.im (.slice none 0 0)))))⟩ := by
  intro S rho a w sim
  refine ⟨S, rho, sim.write hC id trivial (by rw [hb]; trivial) _ (fun _ h => by cases h) w rfl rfl rfl rfl (fun _ _ => rfl) fun T => ?_⟩
  have hh := sim.hp id trivial
  rw [hb] at hh
  obtain ⟨g, ty, c, k1, k2, k3, k4⟩ := hh
  refine ⟨g, ty, c, k1, k2, by rw [k3, List.length_set], fun q x u hi hu => ?_⟩
  by_cases ei : q = j
  · subst ei
    rw [List.getElem?_set_self (lt_of_get hn)] at hi
    injection hi with hi
    subst hi
    obtain ⟨k5, k6⟩ := k4 q _ u hn hu
    have : u = .slice none 0 0 := by cases k6; rfl
    rw [this]
    exact ⟨rfl, .p _ _ (.im _)⟩
  · rw [List.getElem?_set_ne (fun e => ei e.symm)] at hi
    obtain ⟨k5, k6⟩ := k4 q x u hi hu
    exact ⟨k5, k6.turn T⟩
end Go.AM
namespace Go.AM
open Go.RowKit

theorem qop_mono {C : Ctx} {o : Oper} {rho : Operand → AV} {h : Nat → AB} {K K' : KK} (hk : ∀ v e n, K v e n → K' v e n) (hq : qop C o rho h K) : qop C o rho h K' := by
  obtain ⟨v, e, n, h1, h2⟩ := qop_lin (fun _ => .inr rfl) hq
  exact h2 _ (hk _ _ _ h1)
theorem step0_mono {C : Ctx} {o : Oper} {K K' : AS → Prop} {s : AS} (hk : ∀ s, K s → K' s) (hq : step0 C o K s) : step0 C o K' s := by
  unfold step0 at hq ⊢
  split at hq
  · exact qop_mono (fun v e n h => hk _ h) hq
  · split at hq
    · split at hq
      · split at hq
        · split at hq <;> exact hk _ hq
        · split at hq <;> exact hk _ hq
        · exact hk _ hq
      · exact hk _ hq
    · refine qop_mono (fun v e n h => ?_) hq
      cases n with
      | none => exact hk _ h
      | some b => exact h
theorem step_mono {C : Ctx} {o : Oper} {K K' : AS → Prop} {s : AS} (hk : ∀ s, K s → K' s) (hq : step C o K s) : step C o K' s := by
  unfold step at hq ⊢
  split at hq
  · exact ⟨hk _ hq.1, hk _ hq.2⟩
  · exact step0_mono hk hq
theorem bcase_mono {b : Bool} {p q p' q' : Prop} (h1 : p → p') (h2 : q → q') (h : bcase b p q) : bcase b p' q' := by
  cases b <;> simp only [bcase] at h ⊢
  · exact h2 h
  · exact h1 h
theorem aops_mono {C : Ctx} {all : List Oper} {K K' : AS → Prop} (hk : ∀ s, K s → K' s) : ∀ (l : List Oper) (s : AS), aops C all l K s → aops C all l K' s := by
  intro l
  induction l with
  | nil => intro s h; exact hk _ h
  | cons o l ih =>
    intro s h
    unfold aops at h ⊢
    split at h
    · exact step_mono ih h
    · split at h
      · exact h.elim
      · split at h
        · exact h.elim
        · split at h
          · rename_i want _ _ _ _ _ _ _
            refine bcase_mono (fun h => ?_) (fun h => ?_) h
            · split at h
              · exact step_mono ih h
              · exact ih _ h
            · split at h
              · exact step_mono ih h
              · exact ih _ h
          · exact ih _ h
          · exact h.elim
theorem dstep_mono {C : Ctx} {ap f : Bool} {X : List Nat} {o : Oper} {K K' : AS → Prop} {s : AS} (hk : ∀ s, K s → K' s) (hq : dstep C ap X f o K s) : dstep C ap X f o K' s := by
  unfold dstep at hq ⊢
  split at hq
  · refine qop_mono (fun v e n h => ?_) hq
    split at h
    · exact h
    · split at h
      · split at h
        · exact hk _ h
        · exact h
      · split at h
        · exact hk _ h
        · exact h
  · exact hq
theorem dops_mono {C : Ctx} {ap : Bool} {X : List Nat} {all : List Oper} {K K' : AS → Prop} (hk : ∀ s, K s → K' s) : ∀ (l : List Oper) (fl : List Bool) (s : AS), dops C ap X all fl l K s → dops C ap X all fl l K' s := by
  intro l
  induction l with
  | nil => intro fl s h; cases fl <;> exact hk _ h
  | cons o l ih =>
    intro fl s h
    cases fl with
    | nil => exact h
    | cons f fl =>
    unfold dops at h ⊢
    split at h
    · exact dstep_mono (ih fl) h
    · split at h
      · exact h.elim
      · split at h
        · exact h.elim
        · split at h
          · refine bcase_mono (fun h => ?_) (fun h => ?_) h
            · split at h
              · exact dstep_mono (ih fl) h
              · exact ih fl _ h
            · split at h
              · exact dstep_mono (ih fl) h
              · exact ih fl _ h
          · exact ih fl _ h
          · exact h.elim
theorem then_mono {f f' : AS → Prop} {K K' : Exit → AS → Prop} (hf : ∀ s, f s → f' s) (hk : ∀ e s, K e s → K' e s) : ∀ e s, then_ f K e s → then_ f' K' e s := by
  intro e s h
  cases e <;> first | exact hf _ h | exact hk _ _ h
theorem inBlk_mono {id : Nat} {K K' : Exit → AS → Prop} (hk : ∀ e s, K e s → K' e s) : ∀ e s, inBlk id K e s → inBlk id K' e s := by
  intro e s h
  cases e <;> first | exact hk _ _ h | exact bcase_mono (hk _ _) (hk _ _) h
theorem awp_mono {A : Amb} : ∀ (c : Code) (K K' : Exit → AS → Prop) (s : AS), (∀ e s, K e s → K' e s) → awp A c K s → awp A c K' s := by
  intro c
  induction c with
  | skip => intro K K' s hk h; exact hk _ _ h
  | region id ops draw =>
    intro K K' s hk h
    cases draw with
    | false => exact aops_mono (hk _) _ _ h
    | true => obtain ⟨X, h⟩ := h; exact ⟨X, dops_mono (fun _ h => hk _ _ h) _ _ _ h⟩
  | seq a b iha ihb => intro K K' s hk h; exact iha _ _ _ (then_mono (fun s h => by obtain ⟨s2, h1, h2⟩ := h; exact ⟨s2, h1, ihb _ _ _ hk h2⟩) hk) h
  | cond c a b iha ihb =>
    intro K K' s hk h
    simp only [awp] at h ⊢
    split at h
    · exact bcase_mono (iha _ _ _ hk) (ihb _ _ _ hk) h
    · exact h
  | block id c ih => intro K K' s hk h; exact ih _ _ _ (inBlk_mono hk) h
  | loop c ih =>
    intro K K' s hk h
    obtain ⟨α, I, m, h0, hr⟩ := h
    exact ⟨α, I, m, h0, fun x s hi => ih _ _ _ (then_mono (fun _ h => h) hk) (hr x s hi)⟩
  | exit id => intro K K' s hk h; exact hk _ _ h
  | ret => intro K K' s hk h; exact hk _ _ h
  | rangeFunc => intro K K' s _ h; exact h.elim
  | scope => intro K K' s _ h; exact h.elim
  | label => intro K K' s _ h; exact h.elim
  | goto => intro K K' s _ h; exact h.elim
  | refuse => intro K K' s _ h; exact h.elim

/-- what is known where the next code begins -/
def Known {α : Type} (R : α → Prop) (ts : α → List (Nat × AV)) (hs : α → List (Nat × AB)) (s : AS) : Prop := ∃ y, R y ∧ invL (ts y) s.t ∧ invL (hs y) s.h
theorem Known.go {α : Type} {R : α → Prop} {ts : α → List (Nat × AV)} {hs : α → List (Nat × AB)} {f : AS → Prop} (h2 : ∀ y, R y → ∀ t h, f ⟨putL (ts y) t, putL (hs y) h⟩) {s : AS} (h : Known R ts hs s) : f s := by
  obtain ⟨y, h1, h3, h4⟩ := h
  have := h2 y h1 s.t s.h
  rwa [putL_inv _ _ h3, putL_inv _ _ h4] at this
/-- cut: the code in front of what follows -/
theorem cut {A : Amb} {c : Code} {f : AS → Prop} {K : Exit → AS → Prop} {s : AS} {α : Type} (R : α → Prop) (ts : α → List (Nat × AV)) (hs : α → List (Nat × AB))
    (h2 : ∀ y, R y → ∀ t h, f ⟨putL (ts y) t, putL (hs y) h⟩) (h1 : awp A c (then_ (Known R ts hs) K) s) : awp A c (then_ f K) s :=
  awp_mono c _ _ s (then_mono (fun _ h => h.go h2) fun _ _ h => h) h1
theorem then_known {α : Type} {R : α → Prop} {ts : α → List (Nat × AV)} {hs : α → List (Nat × AB)} {K : Exit → AS → Prop} (h2 : ∀ y, R y → ∀ t h, K .normal ⟨putL (ts y) t, putL (hs y) h⟩) : ∀ e s, then_ (Known R ts hs) K e s → K e s := by
  intro e s h
  cases e <;> first | exact h | exact Known.go h2 h
/-- cut: a block's code in front of what follows the block -/
theorem cutB {A : Amb} {c : Code} {id : Nat} {K : Exit → AS → Prop} {s : AS} {α : Type} (R : α → Prop) (ts : α → List (Nat × AV)) (hs : α → List (Nat × AB))
    (h2 : ∀ y, R y → ∀ t h, K .normal ⟨putL (ts y) t, putL (hs y) h⟩) (h1 : awp A c (inBlk id (then_ (Known R ts hs) K)) s) : awp A c (inBlk id K) s :=
  awp_mono c _ _ s (inBlk_mono (then_known h2)) h1
end Go.AM
namespace Go.AM
open Go.RowKit

theorem zI {Q : KK → Prop} (k : KK) (h : Q k) : Q k := h
/-- what is to be shown of a state, its slots and its objects apart -/
structure AF (F : AS → Prop) (t : Nat → AV) (h : Nat → AB) : Prop where
  out : F ⟨t, h⟩
/-- an operation before what follows -/
structure QO (C : Ctx) (o : Oper) (t : Nat → AV) (h : Nat → AB) (k : KK) : Prop where
  out : qop C o (ev t) h k
/-- what an operation leaves, before it is laid down -/
structure ST (F : AS → Prop) (t : Nat → AV) (d : Option Tmp) (v : AV) (h : Nat → AB) (e : List (Nat × AB)) : Prop where
  out : F ⟨putT t d v, app h e⟩
structure SN (F : AS → Prop) (t : Nat → AV) (d : Option Tmp) (v : AV) (h : Nat → AB) (e : List (Nat × AB)) (dd : Nat) (b : AB) : Prop where
  out : F ⟨putT t d v, upd (app h e) dd b⟩
structure KQ (F : AS → Prop) (d : Option Tmp) (t : Nat → AV) (h : Nat → AB) (v : AV) (e : List (Nat × AB)) (n : Option AB) : Prop where
  out : match n with
    | none => F ⟨putT t d v, app h e⟩
    | some _ => False
structure KN (F : AS → Prop) (d : Option Tmp) (dd : Nat) (t : Nat → AV) (h : Nat → AB) (v : AV) (e : List (Nat × AB)) (n : Option AB) : Prop where
  out : F ⟨putT t d v, match n with
    | none => upd (app h e) dd .none
    | some b => app (upd h dd b) e⟩
structure KD (C : Ctx) (ap : Bool) (X : List Nat) (f : Bool) (o : Oper) (F : AS → Prop) (t : Nat → AV) (h : Nat → AB) (v : AV) (e : List (Nat × AB)) (n : Option AB) : Prop where
  out : match newDst o.op n o.dst with
      | false => False
      | true => match Nat.beq (cls C ap o.op) 3 with
        | true => match effThere h e && (ap || effKind h e) && okX X f h e with
          | true => F ⟨putT t o.dst v, newH (app h e) (o.dst.getD 0) n⟩
          | false => False
        | false => match e with
          | [] => F ⟨putT t o.dst v, newH h (o.dst.getD 0) n⟩
          | _ => False

theorem zaf_raw {F : AS → Prop} {t : Nat → AV} {h : Nat → AB} (q : F ⟨t, h⟩) : AF F t h := ⟨q⟩
-- an operation's answer
section
variable {C : Ctx} {o : Oper} {t : Nat → AV} {h : Nat → AB} {k0 : KK}
theorem zq1 {v : AV} {e : List (Nat × AB)} {n : Option AB} (hq : ∀ k : KK, k v e n → qop C o (ev t) h k) (q : k0 v e n) : QO C o t h k0 := ⟨hq _ q⟩
theorem zqA {P : Prop} {R : KK → Prop} (hq : ∀ k : KK, (P ∧ R k) → qop C o (ev t) h k) (q : P ∧ R k0) : QO C o t h k0 := ⟨hq _ q⟩
theorem zqO {R R' : KK → Prop} (hq : ∀ k : KK, (R k ∨ R' k) → qop C o (ev t) h k) (q : R k0 ∨ R' k0) : QO C o t h k0 := ⟨hq _ q⟩
theorem zqX {α : Type} {R : α → KK → Prop} (hq : ∀ k : KK, (∃ r, R r k) → qop C o (ev t) h k) (q : ∃ r, R r k0) : QO C o t h k0 := ⟨hq _ q⟩
end
-- laying it down
section
variable {F : AS → Prop} {t : Nat → AV} {h : Nat → AB} {d : Tmp}
theorem zst_0 {v : AV} (q : AF F t h) : ST F t none v h [] := ⟨q.out⟩
theorem zst_p {x : PV} (q : AF F (upd t d (.p x)) h) : ST F t (some d) (.p x) h [] := ⟨q.out⟩
theorem zst_nl (q : AF F (upd t d .nl) h) : ST F t (some d) .nl h [] := ⟨q.out⟩
theorem zst_ow {i : Nat} (q : AF F (upd t d (.ow i)) h) : ST F t (some d) (.ow i) h [] := ⟨q.out⟩
theorem zst_rp {i j k : Nat} (q : AF F (upd t d (.rp i j k)) h) : ST F t (some d) (.rp i j k) h [] := ⟨q.out⟩
theorem zst_bx {i j : Nat} (q : AF F (upd t d (.bx i j)) h) : ST F t (some d) (.bx i j) h [] := ⟨q.out⟩
theorem zst_vw {i j k : Nat} (q : AF F (upd t d (.vw i j k)) h) : ST F t (some d) (.vw i j k) h [] := ⟨q.out⟩
theorem zst_fn {f : FuncId} {c : List AV} (q : AF F (upd t d (.fn f c)) h) : ST F t (some d) (.fn f c) h [] := ⟨q.out⟩
theorem zst_tu {xs : List AV} (q : AF F (upd t d (.tu xs)) h) : ST F t (some d) (.tu xs) h [] := ⟨q.out⟩
theorem zst_st {xs : List AV} (q : AF F (upd t d (.st xs)) h) : ST F t (some d) (.st xs) h [] := ⟨q.out⟩
theorem zst_junk (q : AF F (upd t d .junk) h) : ST F t (some d) .junk h [] := ⟨q.out⟩
theorem zst_e {i : Nat} {b : AB} {r : List (Nat × AB)} {v : AV} {d : Option Tmp} (q : ST F t d v (upd h i b) r) : ST F t d v h ((i, b) :: r) := ⟨q.out⟩
theorem zsn_e {i dd : Nat} {b b' : AB} {r : List (Nat × AB)} {v : AV} {d : Option Tmp} (q : SN F t d v (upd h i b) r dd b') : SN F t d v h ((i, b) :: r) dd b' := ⟨q.out⟩
theorem zsn_0 {dd : Nat} {b : AB} {v : AV} {d : Option Tmp} (q : ST F t d v (upd h dd b) []) : SN F t d v h [] dd b := ⟨q.out⟩
theorem zkq {v : AV} {e : List (Nat × AB)} {d : Option Tmp} (q : ST F t d v h e) : KQ F d t h v e none := ⟨q.out⟩
theorem zkn {v : AV} {e : List (Nat × AB)} {d : Option Tmp} {dd : Nat} (h0 : h dd = .none) (h1 : noId dd e = true) (q : ST F t d v h e) : KN F d dd t h v e none := ⟨by
  have : upd (app h e) dd .none = app h e := upd_self _ _ _ ((app_noId (h := h) h1).trans h0)
  show F ⟨putT t d v, upd (app h e) dd .none⟩
  rw [this]
  exact q.out⟩
theorem zkns {v : AV} {e : List (Nat × AB)} {d : Option Tmp} {dd : Nat} {b : AB} (q : ST F t d v (upd h dd b) e) : KN F d dd t h v e (some b) := ⟨q.out⟩
variable {C : Ctx} {ap f : Bool} {X : List Nat} {o : Oper}
theorem zkd {v : AV} (q : ST F t o.dst v h []) : KD C ap X f o F t h v [] none := ⟨by
  simp only [newDst, effThere, effKind, okX_nil, Bool.or_true, Bool.and_true]
  split <;> exact q.out⟩
theorem zkdn {v : AV} {b : AB} {d : Tmp} (hd : o.dst = some d) (hm : mayNew o.op = true) (q : ST F t (some d) v (upd h d b) []) : KD C ap X f o F t h v [] (some b) := ⟨by
  simp only [newDst, hd, hm, effThere, effKind, okX_nil, Bool.or_true, Bool.and_true]
  split <;> exact q.out⟩
theorem zkde {v : AV} {e : List (Nat × AB)} (hc : (Nat.beq (cls C ap o.op) 3 && (effThere h e && (ap || effKind h e) && okX X f h e)) = true) (q : ST F t o.dst v h e) : KD C ap X f o F t h v e none := ⟨by
  simp only [Bool.and_eq_true] at hc
  obtain ⟨h1, ⟨h2, h3⟩, h4⟩ := hc
  simp only [newDst, h1, h2, h3, h4, Bool.and_true]
  exact q.out⟩
theorem zkden {v : AV} {e : List (Nat × AB)} {b : AB} {d : Tmp} (hd : o.dst = some d) (hm : mayNew o.op = true) (hc : (Nat.beq (cls C ap o.op) 3 && (effThere h e && (ap || effKind h e) && okX X f h e)) = true) (q : SN F t (some d) v h e d b) : KD C ap X f o F t h v e (some b) := ⟨by
  simp only [Bool.and_eq_true] at hc
  obtain ⟨h1, ⟨h2, h3⟩, h4⟩ := hc
  simp only [newDst, hd, hm, h1, h2, h3, h4, Bool.and_true]
  exact q.out⟩
end
-- slots and objects when a name is struck or turned
def scrT (d : Nat) (t : Nat → AV) (j : Nat) : AV := sc d (t j)
def scrH (d : Nat) (h : Nat → AB) : Nat → AB := upd (fun k => scB d (h k)) d .none
def rnT (i d : Nat) (t : Nat → AV) (j : Nat) : AV := rn i d (t j)
def rnH (i d : Nat) (h : Nat → AB) (j : Nat) : AB := match beqN j d with
  | true => rnB i d (h i)
  | false => match beqN j i with
    | true => .none
    | false => rnB i d (h j)
def notAs (o : Oper) : Bool := match o.op with
  | .assign _ => false
  | _ => true
def quietB (o : Oper) : Bool := !mayNew o.op && notAs o
def isRowB : AB → Bool
  | .row _ _ => true
  | .hrow _ _ => true
  | _ => false
-- operations in order
section
variable {C : Ctx} {o : Oper} {F : AS → Prop} {t : Nat → AV} {h : Nat → AB} {d : Tmp}
theorem zs_q (hn : nilQ C o t = false) (hm : quietB o = true) (q : QO C o t h (KQ F o.dst t h)) : AF (step C o F) t h := ⟨by
  simp only [quietB, Bool.and_eq_true, Bool.not_eq_true'] at hm
  obtain ⟨h1, h2⟩ := hm
  unfold step
  simp only [hn]
  unfold step0
  rw [h1]
  simp only
  have key : qop C o (ev t) h (fun v eff new => match new with
      | none => F ⟨putT t o.dst v, app h eff⟩
      | some _ => False) := qop_mono (fun v e n hk => hk.out) q.out
  split
  · rename_i x d' hop _
    rw [notAs, hop] at h2
    cases h2
  · exact key⟩
theorem zs_n (hn : nilQ C o t = false) (hd : o.dst = some d) (hm : mayNew o.op = true) (q : QO C o (scrT d t) (scrH d h) (KN F (some d) d (scrT d t) (scrH d h))) : AF (step C o F) t h := ⟨by
  unfold step
  simp only [hn]
  unfold step0
  rw [hm]
  simp only [hd]
  exact qop_mono (fun v e n hk => by cases n <;> exact hk.out) q.out⟩
theorem zs_n0 (hn : nilQ C o t = false) (hd : o.dst = none) (hm : mayNew o.op = true) (q : QO C o (scrT 0 t) (scrH 0 h) (KN F none 0 (scrT 0 t) (scrH 0 h))) : AF (step C o F) t h := ⟨by
  unfold step
  simp only [hn]
  unfold step0
  rw [hm]
  simp only [hd]
  exact qop_mono (fun v e n hk => by cases n <;> exact hk.out) q.out⟩
theorem zs_as {x : Operand} {v : AV} (ho : o.op = .assign x) (hd : o.dst = some d) (hv : ev t x = v) (hn : ∀ i, v = .ow i → isRowB (h i) = false) (q : ST F t (some d) v h []) : AF (step C o F) t h := ⟨by
  unfold step
  simp only [nilQ, ho]
  unfold step0
  rw [ho]
  simp only [mayNew, hd]
  rw [hv]
  split
  · rename_i i
    have := hn i rfl
    split
    · rename_i e es he
      rw [he] at this
      cases this
    · rename_i e es he
      rw [he] at this
      cases this
    · exact q.out
  · exact q.out⟩
theorem zas_n {h : Nat → AB} {v : AV} (hv : (match v with | .ow _ => false | _ => true) = true) : ∀ i, v = .ow i → isRowB (h i) = false := fun i e => by subst e; cases hv
theorem zas_o {h : Nat → AB} {i : Nat} (hh : isRowB (h i) = false) : ∀ j, AV.ow i = .ow j → isRowB (h j) = false := fun j e => by injection e with e; subst e; exact hh
theorem zs_ar {x : Operand} {i : Nat} (ho : o.op = .assign x) (hd : o.dst = some d) (hv : ev t x = .ow i) (hh : isRowB (h i) = true) (hne : beqN i d = false) (q : AF F (upd (rnT i d t) d (.ow d)) (rnH i d h)) : AF (step C o F) t h := ⟨by
  unfold step
  simp only [nilQ, ho]
  unfold step0
  rw [ho]
  simp only [mayNew, hd]
  rw [hv]
  cases hb : h i <;> rw [hb] at hh <;> first | (cases hh; done) | (simp only [hb, hne]; exact q.out)⟩
theorem zs_a1 {x : Operand} {i : Nat} (ho : o.op = .assign x) (hd : o.dst = some d) (hv : ev t x = .ow i) (hh : isRowB (h i) = true) (hne : beqN i d = true) (q : AF F (upd t d (.ow i)) h) : AF (step C o F) t h := ⟨by
  unfold step
  simp only [nilQ, ho]
  unfold step0
  rw [ho]
  simp only [mayNew, hd]
  rw [hv]
  cases hb : h i <;> rw [hb] at hh <;> first | (cases hh; done) | (simp only [hb, hne]; exact q.out)⟩
theorem zs_nil (hn : nilQ C o t = true) (hd : o.dst = some d) (q : AF F (upd t d (.p (.im (.bool true)))) h ∧ AF F (upd t d (.p (.im (.bool false)))) h) : AF (step C o F) t h := ⟨by
  unfold step
  simp only [hn, hd]
  exact ⟨q.1.out, q.2.out⟩⟩
-- in open order
variable {ap f : Bool} {X : List Nat}
theorem zd_q (hf : lookOK C ap X f o (ev t) = true) (q : QO C o t h (KD C ap X f o F t h)) : AF (dstep C ap X f o F) t h := ⟨by
  unfold dstep
  rw [hf]
  exact qop_mono (fun v e n hk => hk.out) q.out⟩
end
-- operations, their guards
section
variable {C : Ctx} {o og : Oper} {K : AS → Prop} {t : Nat → AV} {h : Nat → AB} {tg d : Tmp} {all r : List Oper} {g : Nat} {want b : Bool} {ap f : Bool} {X : List Nat} {fl : List Bool}
theorem zo_0 (q : AF K t h) : AF (aops C all [] K) t h := ⟨q.out⟩
theorem zo_n (hg : o.guard = none) (q : AF (step C o (aops C all r K)) t h) : AF (aops C all (o :: r) K) t h := ⟨by
  unfold aops; rw [hg]; exact q.out⟩
/-- run, if the guard's test was as wanted; else passed -/
def gst (run : Bool) (o : Oper) (F G : AS → Prop) (s : AS) : Prop := match run with
  | true => F s
  | false => G ⟨putT s.t o.dst unAV, s.h⟩
theorem zg_t {F G : AS → Prop} (q : AF F t h) : AF (gst true o F G) t h := ⟨q.out⟩
theorem zg_f {F G : AS → Prop} (q : ST G t o.dst unAV h []) : AF (gst false o F G) t h := ⟨q.out⟩
theorem zo_g (hg : o.guard = some (g, want)) (ho : all[g]? = some og) (hd : og.dst = some tg) (hb : t tg = .p (.im (.bool b))) (q : bcase b (AF (gst want o (step C o (aops C all r K)) (aops C all r K)) (upd t tg (boolAV true)) h) (AF (gst (!want) o (step C o (aops C all r K)) (aops C all r K)) (upd t tg (boolAV false)) h)) : AF (aops C all (o :: r) K) t h := ⟨by
  unfold aops
  rw [hg]
  simp only [ho, hd, hb]
  cases b <;> cases want <;> simp only [bcase, Bool.not_true, Bool.not_false] at q ⊢ <;> exact q.out⟩
theorem zo_g1 (hg : o.guard = some (g, want)) (ho : all[g]? = some og) (hd : og.dst = some tg) (hb : t tg = .p (.im (.bool want))) (q : AF (step C o (aops C all r K)) t h) : AF (aops C all (o :: r) K) t h := ⟨by
  unfold aops
  rw [hg]
  simp only [ho, hd, hb]
  have e : upd t tg (boolAV want) = t := upd_self _ _ _ hb
  cases want <;> (simp only [bcase]; rw [e]; exact q.out)⟩
theorem zo_g0 (hg : o.guard = some (g, want)) (ho : all[g]? = some og) (hd : og.dst = some tg) (hb : t tg = .p (.im (.bool (!want)))) (q : ST (aops C all r K) t o.dst unAV h []) : AF (aops C all (o :: r) K) t h := ⟨by
  unfold aops
  rw [hg]
  simp only [ho, hd, hb]
  have e : upd t tg (boolAV !want) = t := upd_self _ _ _ hb
  cases want <;> (simp only [Bool.not_true, Bool.not_false] at e ⊢; simp only [bcase]; rw [e]; exact q.out)⟩
theorem zo_gu {xs : Array Value} (hg : o.guard = some (g, want)) (ho : all[g]? = some og) (hd : og.dst = some tg) (hb : t tg = .p (.im (.tuple xs))) (q : ST (aops C all r K) t o.dst unAV h []) : AF (aops C all (o :: r) K) t h := ⟨by
  unfold aops
  rw [hg]
  simp only [ho, hd, hb]
  exact q.out⟩
theorem zd_0 (q : AF K t h) : AF (dops C ap X all fl [] K) t h := ⟨by cases fl <;> exact q.out⟩
theorem zd_n (hg : o.guard = none) (q : AF (dstep C ap X f o (dops C ap X all fl r K)) t h) : AF (dops C ap X all (f :: fl) (o :: r) K) t h := ⟨by
  unfold dops; rw [hg]; exact q.out⟩
theorem zd_g (hg : o.guard = some (g, want)) (ho : all[g]? = some og) (hd : og.dst = some tg) (hb : t tg = .p (.im (.bool b))) (q : bcase b (AF (gst want o (dstep C ap X f o (dops C ap X all fl r K)) (dops C ap X all fl r K)) (upd t tg (boolAV true)) h) (AF (gst (!want) o (dstep C ap X f o (dops C ap X all fl r K)) (dops C ap X all fl r K)) (upd t tg (boolAV false)) h)) : AF (dops C ap X all (f :: fl) (o :: r) K) t h := ⟨by
  unfold dops
  rw [hg]
  simp only [ho, hd, hb]
  cases b <;> cases want <;> simp only [bcase, Bool.not_true, Bool.not_false] at q ⊢ <;> exact q.out⟩
theorem zd_g1 (hg : o.guard = some (g, want)) (ho : all[g]? = some og) (hd : og.dst = some tg) (hb : t tg = .p (.im (.bool want))) (q : AF (dstep C ap X f o (dops C ap X all fl r K)) t h) : AF (dops C ap X all (f :: fl) (o :: r) K) t h := ⟨by
  unfold dops
  rw [hg]
  simp only [ho, hd, hb]
  have e : upd t tg (boolAV want) = t := upd_self _ _ _ hb
  cases want <;> (simp only [bcase]; rw [e]; exact q.out)⟩
theorem zd_g0 (hg : o.guard = some (g, want)) (ho : all[g]? = some og) (hd : og.dst = some tg) (hb : t tg = .p (.im (.bool (!want)))) (q : ST (dops C ap X all fl r K) t o.dst unAV h []) : AF (dops C ap X all (f :: fl) (o :: r) K) t h := ⟨by
  unfold dops
  rw [hg]
  simp only [ho, hd, hb]
  have e : upd t tg (boolAV !want) = t := upd_self _ _ _ hb
  cases want <;> (simp only [Bool.not_true, Bool.not_false] at e ⊢; simp only [bcase]; rw [e]; exact q.out)⟩
theorem zd_gu {xs : Array Value} (hg : o.guard = some (g, want)) (ho : all[g]? = some og) (hd : og.dst = some tg) (hb : t tg = .p (.im (.tuple xs))) (q : ST (dops C ap X all fl r K) t o.dst unAV h []) : AF (dops C ap X all (f :: fl) (o :: r) K) t h := ⟨by
  unfold dops
  rw [hg]
  simp only [ho, hd, hb]
  exact q.out⟩
-- the plain ways in one
theorem zP {x : PV} (hn : nilQ C o t = false) (hg : o.guard = none) (hm : quietB o = true) (hd : o.dst = some d) (hq : ∀ k : KK, k (.p x) [] none → qop C o (ev t) h k) (q : AF (aops C all r K) (upd t d (.p x)) h) : AF (aops C all (o :: r) K) t h :=
  zo_n hg (zs_q hn hm (zq1 hq (zkq (by rw [hd]; exact zst_p q))))
theorem zV {v : AV} (hn : nilQ C o t = false) (hg : o.guard = none) (hm : quietB o = true) (hd : o.dst = some d) (hq : ∀ k : KK, k v [] none → qop C o (ev t) h k) (q : AF (aops C all r K) (upd t d v) h) : AF (aops C all (o :: r) K) t h :=
  zo_n hg (zs_q hn hm (zq1 hq (zkq (by rw [hd]; exact ⟨q.out⟩))))
theorem zD {x : PV} (hg : o.guard = none) (hf : lookOK C ap X f o (ev t) = true) (hd : o.dst = some d) (hq : ∀ k : KK, k (.p x) [] none → qop C o (ev t) h k) (q : AF (dops C ap X all fl r K) (upd t d (.p x)) h) : AF (dops C ap X all (f :: fl) (o :: r) K) t h :=
  zd_n hg (zd_q hf (zq1 hq (zkd (by rw [hd]; exact zst_p q))))
theorem zW {v : AV} (hg : o.guard = none) (hf : lookOK C ap X f o (ev t) = true) (hd : o.dst = some d) (hq : ∀ k : KK, k v [] none → qop C o (ev t) h k) (q : AF (dops C ap X all fl r K) (upd t d v) h) : AF (dops C ap X all (f :: fl) (o :: r) K) t h :=
  zd_n hg (zd_q hf (zq1 hq (zkd (by rw [hd]; exact ⟨q.out⟩))))
end
-- regions in open order: what stands ahead and behind
def preF (l : List Oper) (G : AS → Prop) (s : AS) : Prop := G (preS l s)
def postF (l : List Oper) (G : AS → Prop) (s : AS) : Prop := G (postS l s)
section
variable {G : AS → Prop} {o : Oper} {r l : List Oper} {t : Nat → AV} {h : Nat → AB} {d i : Nat}
theorem zp_0 (q : AF G t h) : AF (preF [] G) t h := ⟨q.out⟩
theorem zp_n (hm : mayNew o.op = true) (hd : o.dst.getD 0 = d) (q : AF (preF r G) (scrT d t) (scrH d h)) : AF (preF (o :: r) G) t h := ⟨by
  show G (preS (o :: r) _)
  unfold preS
  rw [hm, hd]
  exact q.out⟩
theorem zp_s (hm : mayNew o.op = false) (q : AF (preF r G) t h) : AF (preF (o :: r) G) t h := ⟨by
  show G (preS (o :: r) _)
  unfold preS
  rw [hm]
  exact q.out⟩
theorem zp_q (hm : (l.all fun o => !mayNew o.op) = true) (q : AF G t h) : AF (preF l G) t h := by
  induction l with
  | nil => exact zp_0 q
  | cons o l ih =>
    simp only [List.all_cons, Bool.and_eq_true, Bool.not_eq_true'] at hm
    exact zp_s hm.1 (ih (by simpa using hm.2))
theorem zr_0 (q : AF G t h) : AF (postF [] G) t h := ⟨q.out⟩
theorem zr_s (hm : notAs o = true) (q : AF (postF r G) t h) : AF (postF (o :: r) G) t h := ⟨by
  show G (postS r (postOp o _))
  have : ∀ s, postOp o s = s := fun s => by
    unfold postOp
    split
    · rename_i hop _
      rw [notAs, hop] at hm
      cases hm
    · rfl
  rw [this]
  exact q.out⟩
theorem zr_q (hm : l.all notAs = true) (q : AF G t h) : AF (postF l G) t h := by
  induction l with
  | nil => exact zr_0 q
  | cons o l ih =>
    simp only [List.all_cons, Bool.and_eq_true] at hm
    exact zr_s hm.1 (ih hm.2)
def owRow (t : Nat → AV) (h : Nat → AB) (d : Nat) : Bool := match t d with
  | .ow i => isRowB (h i)
  | _ => false
theorem zr_k (hd : o.dst = some d) (hm : owRow t h d = false) (q : AF (postF r G) t h) : AF (postF (o :: r) G) t h := ⟨by
  show G (postS r (postOp o _))
  have : postOp o ⟨t, h⟩ = ⟨t, h⟩ := by
    unfold postOp
    split
    · rename_i d' _ hd'
      rw [hd] at hd'
      injection hd' with hd'
      subst hd'
      simp only
      split
      · rename_i i hi
        split
        · rename_i e es he
          rw [owRow, hi] at hm
          simp only [he, isRowB] at hm
          cases hm
        · rename_i e es he
          rw [owRow, hi] at hm
          simp only [he, isRowB] at hm
          cases hm
        · rfl
      · rfl
    · rfl
  rw [this]
  exact q.out⟩
theorem zr_1 (hd : o.dst = some d) (ht : t d = .ow d) (q : AF (postF r G) t h) : AF (postF (o :: r) G) t h := ⟨by
  show G (postS r (postOp o _))
  have : postOp o ⟨t, h⟩ = ⟨t, h⟩ := by
    unfold postOp
    split
    · rename_i d' _ hd'
      rw [hd] at hd'
      injection hd' with hd'
      subst hd'
      simp only [ht]
      split
      · have : beqN d d = true := beqN_eq.2 rfl
        rw [this]
      · have : beqN d d = true := beqN_eq.2 rfl
        rw [this]
      · rfl
    · rfl
  rw [this]
  exact q.out⟩
theorem zr_r {x : Operand} (ho : o.op = .assign x) (hd : o.dst = some d) (ht : t d = .ow i) (hh : isRowB (h i) = true) (hne : beqN i d = false) (q : AF (postF r G) (rnT i d t) (rnH i d h)) : AF (postF (o :: r) G) t h := ⟨by
  show G (postS r (postOp o _))
  have : postOp o ⟨t, h⟩ = ⟨rnT i d t, rnH i d h⟩ := by
    unfold postOp
    rw [ho, hd]
    simp only [ht]
    cases hb : h i <;> rw [hb] at hh <;> first | (cases hh; done) | (simp only [hb, hne]; rfl)
  rw [this]
  exact q.out⟩
end
-- code
section
variable {A : Amb} {K : Exit → AS → Prop} {a b c : Code} {t : Nat → AV} {h : Nat → AB} {id i : Nat} {l : List Oper} {f : AS → Prop}
theorem zw_s (q : AF (awp A a (then_ (awp A b K) K)) t h) : AF (awp A (.seq a b) K) t h := ⟨awp_mono a _ _ _ (then_mono (fun s h => ⟨s, SLe.refl _ _, h⟩) (fun _ _ h => h)) q.out⟩
/-- between two pieces of code the state may be seen otherwise -/
theorem zw_sl (q : AF (awp A a (then_ (fun s' => ∃ s'', SLe A s' s'' ∧ awp A b K s'') K)) t h) : AF (awp A (.seq a b) K) t h := ⟨q.out⟩
theorem zL {s2 : AS} (hl : SLe A ⟨t, h⟩ s2) (q : AF (awp A b K) s2.t s2.h) : AF (fun s' => ∃ s'', SLe A s' s'' ∧ awp A b K s'') t h := ⟨⟨s2, hl, q.out⟩⟩
/-- the state seen otherwise between two pieces of code -/
theorem zSL {s2 : AS} (hl : SLe A ⟨t, h⟩ s2) (q : AF (awp A b K) s2.t s2.h) : ∃ s'', SLe A ⟨t, h⟩ s'' ∧ awp A b K s'' := ⟨s2, hl, q.out⟩
/-- a slot turned to its content between two pieces of code -/
theorem zPV (d : Nat) {y : PV} {fz : List (Nat × AB)} (hC : CtxOK A.C) (h0 : AM.toPV h (t d) fun y' fz' => y' = y ∧ fz' = fz) (q : AF (awp A b K) (upd t d (.p y)) (app h fz)) : ∃ s'', SLe A ⟨t, h⟩ s'' ∧ awp A b K s'' := ⟨_, SLe.toPV hC ⟨t, h⟩ d h0, q.out⟩
theorem zw_k (q : AF (K .normal) t h) : AF (awp A .skip K) t h := ⟨q.out⟩
theorem zw_b (q : AF (awp A c (inBlk id K)) t h) : AF (awp A (.block id c) K) t h := ⟨q.out⟩
theorem zw_x (q : AF (K (.exit id)) t h) : AF (awp A (.exit id) K) t h := ⟨q.out⟩
theorem zw_r (q : AF (K .ret) t h) : AF (awp A .ret K) t h := ⟨q.out⟩
theorem zw_o (q : AF (aops A.C l l (K .normal)) t h) : AF (awp A (.region id ⟨l⟩ false) K) t h := ⟨q.out⟩
theorem zw_d (X : List Nat) (ap : Bool) (fl : List Bool) (hap : (l.any fun o => isKill A.C o.op) = ap) (hfl : lateFl A.C ap ⟨l⟩ = fl) (q : AF (preF l (dops A.C ap X l fl l (postF l (K .normal)))) t h) : AF (awp A (.region id ⟨l⟩ true) K) t h := ⟨by
  subst hap; subst hfl; exact ⟨X, q.out⟩⟩
theorem zw_c {x y : Code} {c : Operand} {b : Bool} (hb : ev t c = .p (.im (.bool b))) (q : bcase b (AF (awp A x K) t h) (AF (awp A y K) t h)) : AF (awp A (.cond c x y) K) t h := ⟨by
  unfold awp
  rw [hb]
  exact bcase_mono (fun q => q.out) (fun q => q.out) q⟩
theorem zt_n (q : AF f t h) : AF (then_ f K .normal) t h := ⟨q.out⟩
theorem zt_x (q : AF (K (.exit i)) t h) : AF (then_ f K (.exit i)) t h := ⟨q.out⟩
theorem zt_r (q : AF (K .ret) t h) : AF (then_ f K .ret) t h := ⟨q.out⟩
theorem zb_n (q : AF (K .normal) t h) : AF (inBlk id K .normal) t h := ⟨q.out⟩
theorem zb_r (q : AF (K .ret) t h) : AF (inBlk id K .ret) t h := ⟨q.out⟩
theorem zb_h (q : AF (K .normal) t h) : AF (inBlk id K (.exit id)) t h := ⟨by
  show bcase (beqN id id) _ _
  rw [beqN_eq.2 rfl]
  exact q.out⟩
theorem zb_m (hne : beqN i id = false) (q : AF (K (.exit i)) t h) : AF (inBlk id K (.exit i)) t h := ⟨by
  show bcase (beqN i id) _ _
  rw [hne]
  exact q.out⟩
theorem zc_t {p q : Prop} (h : p) : bcase true p q := h
theorem zc_f {p q : Prop} (h : q) : bcase false p q := h
/-- the end -/
theorem ze_n {C : Ctx} {rs : List ResultVar} {args : List Arg} {r : AR} {fin : List Fin} {P Q : Prop} (hq : (P ∧ Q) → retK C rs args r fin ⟨t, h⟩) (q : P ∧ Q) : AF (endK C rs args r fin .normal) t h := ⟨hq q⟩
theorem ze_r {C : Ctx} {rs : List ResultVar} {args : List Arg} {r : AR} {fin : List Fin} {P Q : Prop} (hq : (P ∧ Q) → retK C rs args r fin ⟨t, h⟩) (q : P ∧ Q) : AF (endK C rs args r fin .ret) t h := ⟨hq q⟩
theorem zi {P : Prop} (h : P) : P := h
theorem zA {P Q G : Prop} (hq : (P ∧ Q) → G) (q : P ∧ Q) : G := hq q
theorem zO {P Q G : Prop} (hq : (P ∨ Q) → G) (q : P ∨ Q) : G := hq q
theorem zX {α : Type} {R : α → Prop} {G : Prop} (hq : (∃ r, R r) → G) (q : ∃ r, R r) : G := hq q
/-- loops, cuts -/
theorem loop_ok' {α : Type} (R : α → Prop) (ts : α → List (Nat × AV)) (hs : α → List (Nat × AB)) (m : α → Nat) (x0 : α) (s0 : AS) (h0 : SLe A ⟨t, h⟩ s0) (hR : R x0) (ht : invL (ts x0) s0.t) (hh : invL (hs x0) s0.h)
    (round : ∀ x, R x → ∀ t h, AF (awp A c (then_ (fun s' => ∃ y s'', SLe A s' s'' ∧ R y ∧ m y < m x ∧ invL (ts y) s''.t ∧ invL (hs y) s''.h) K)) (putL (ts x) t) (putL (hs x) h)) : AF (awp A (.loop c) K) t h :=
  ⟨loop_ok R ts hs m x0 s0 h0 hR ht hh fun x hx t h => (round x hx t h).out⟩
theorem cut' {α : Type} (R : α → Prop) (ts : α → List (Nat × AV)) (hs : α → List (Nat × AB))
    (h2 : ∀ y, R y → ∀ t h, AF f (putL (ts y) t) (putL (hs y) h)) (h1 : AF (awp A c (then_ (Known R ts hs) K)) t h) : AF (awp A c (then_ f K)) t h := ⟨cut R ts hs (fun y hy t h => (h2 y hy t h).out) h1.out⟩
theorem cutB' {α : Type} (R : α → Prop) (ts : α → List (Nat × AV)) (hs : α → List (Nat × AB))
    (h2 : ∀ y, R y → ∀ t h, AF (K .normal) (putL (ts y) t) (putL (hs y) h)) (h1 : AF (awp A c (inBlk id (then_ (Known R ts hs) K))) t h) : AF (awp A c (inBlk id K)) t h := ⟨cutB R ts hs (fun y hy t h => (h2 y hy t h).out) h1.out⟩
end
set_option linter.unusedVariables false in
/-- A FUNCTION, by what its body's machine shows. -/
theorem fun_go {C : Ctx} (hC : CtxOK C) {f : FuncId} {fn : Func} {c : Code} (hf : C.P.funcs[f]? = some fn) (hb : fn.body = some c) (hname : (fn.name == "runtime.NumGoroutine") = false) {args : List Arg} {r : AR} {fin : List Fin} (n : Nat) (hn : args.length + (fn.ntmps - args.length) = n) (hn' : n ≤ 100000) (hok : codeOK C n c = true)
    (h : ∀ (w0 : World) (mv s0 : Nat → Prop) (n : Nat) (pin : Nat → Value), AF (awp ⟨C, w0, mv, s0, n, pin⟩ c (endK C fn.results.toList args r fin)) (initT args) (initH args)) : ACalls C f args r fin :=
  fun_awp hC hf hb hname n hn hn' hok fun A hA => by
    obtain ⟨_, _, _, _, _, _⟩ := A
    subst hA
    exact (h _ _ _ _ _).out
end Go.AM
namespace Go.AM
open Go.RowKit
section
variable {C : Ctx} {o og : Oper} {F K : AS → Prop} {t : Nat → AV} {h : Nat → AB} {tg d : Tmp} {all r l : List Oper} {g id : Nat} {want b : Bool} {ap f : Bool} {X : List Nat} {fl : List Bool}
theorem yP {x : PV} (e : (nilQ C o t, o.guard, quietB o, o.dst, qop C o (ev t) h) = (false, none, true, some d, fun k => k (.p x) [] none)) (q : AF (aops C all r K) (upd t d (.p x)) h) : AF (aops C all (o :: r) K) t h := by
  simp only [Prod.mk.injEq] at e
  obtain ⟨e1, e2, e3, e4, e5⟩ := e
  exact zP e1 e2 e3 e4 (fun k hk => by rw [e5]; exact hk) q
theorem yV {v : AV} (e : (nilQ C o t, o.guard, quietB o, o.dst, qop C o (ev t) h) = (false, none, true, some d, fun k => k v [] none)) (q : AF (aops C all r K) (upd t d v) h) : AF (aops C all (o :: r) K) t h := by
  simp only [Prod.mk.injEq] at e
  obtain ⟨e1, e2, e3, e4, e5⟩ := e
  exact zV e1 e2 e3 e4 (fun k hk => by rw [e5]; exact hk) q
theorem yD {x : PV} (e : (o.guard, lookOK C ap X f o (ev t), o.dst, qop C o (ev t) h) = (none, true, some d, fun k => k (.p x) [] none)) (q : AF (dops C ap X all fl r K) (upd t d (.p x)) h) : AF (dops C ap X all (f :: fl) (o :: r) K) t h := by
  simp only [Prod.mk.injEq] at e
  obtain ⟨e1, e2, e3, e4⟩ := e
  exact zD e1 e2 e3 (fun k hk => by rw [e4]; exact hk) q
theorem yW {v : AV} (e : (o.guard, lookOK C ap X f o (ev t), o.dst, qop C o (ev t) h) = (none, true, some d, fun k => k v [] none)) (q : AF (dops C ap X all fl r K) (upd t d v) h) : AF (dops C ap X all (f :: fl) (o :: r) K) t h := by
  simp only [Prod.mk.injEq] at e
  obtain ⟨e1, e2, e3, e4⟩ := e
  exact zW e1 e2 e3 (fun k hk => by rw [e4]; exact hk) q
theorem yA {x : Operand} {y : PV} (e : (o.guard, o.op, o.dst, ev t x) = (none, .assign x, some d, .p y)) (q : AF (aops C all r K) (upd t d (.p y)) h) : AF (aops C all (o :: r) K) t h := by
  simp only [Prod.mk.injEq] at e
  obtain ⟨e1, e2, e3, e4⟩ := e
  exact zo_n e1 (zs_as e2 e3 e4 (zas_n rfl) (zst_p q))
theorem yB {x : Operand} (e : (o.guard, o.op, o.dst, ev t x) = (none, .assign x, some d, .nl)) (q : AF (aops C all r K) (upd t d .nl) h) : AF (aops C all (o :: r) K) t h := by
  simp only [Prod.mk.injEq] at e
  obtain ⟨e1, e2, e3, e4⟩ := e
  exact zo_n e1 (zs_as e2 e3 e4 (zas_n rfl) (zst_nl q))
theorem y1 {x : PV} (e : (o.guard, all[g]?, og.dst, t tg, nilQ C o t, quietB o, o.dst, qop C o (ev t) h) = (some (g, want), some og, some tg, .p (.im (.bool want)), false, true, some d, fun k => k (.p x) [] none)) (q : AF (aops C all r K) (upd t d (.p x)) h) : AF (aops C all (o :: r) K) t h := by
  simp only [Prod.mk.injEq] at e
  obtain ⟨e1, e2, e3, e4, e5, e6, e7, e8⟩ := e
  exact zo_g1 e1 e2 e3 e4 (zs_q e5 e6 (zq1 (v := .p x) (e := []) (n := none) (fun k hk => by rw [e8]; exact hk) (zkq (by rw [e7]; exact zst_p q))))
theorem y2 (e : (o.guard, all[g]?, og.dst, t tg) = (some (g, want), some og, some tg, .p (.im (.bool want)))) (q : AF (step C o (aops C all r K)) t h) : AF (aops C all (o :: r) K) t h := by
  simp only [Prod.mk.injEq] at e
  obtain ⟨e1, e2, e3, e4⟩ := e
  exact zo_g1 e1 e2 e3 e4 q
theorem y0 (e : (o.guard, all[g]?, og.dst, t tg, o.dst) = (some (g, want), some og, some tg, .p (.im (.bool (!want))), some d)) (q : AF (aops C all r K) (upd t d unAV) h) : AF (aops C all (o :: r) K) t h := by
  simp only [Prod.mk.injEq] at e
  obtain ⟨e1, e2, e3, e4, e5⟩ := e
  exact zo_g0 e1 e2 e3 e4 (by rw [e5]; exact zst_p q)
theorem yg (e : (o.guard, all[g]?, og.dst, t tg) = (some (g, want), some og, some tg, .p (.im (.bool b)))) (q : bcase b (AF (gst want o (step C o (aops C all r K)) (aops C all r K)) (upd t tg (boolAV true)) h) (AF (gst (!want) o (step C o (aops C all r K)) (aops C all r K)) (upd t tg (boolAV false)) h)) : AF (aops C all (o :: r) K) t h := by
  simp only [Prod.mk.injEq] at e
  obtain ⟨e1, e2, e3, e4⟩ := e
  exact zo_g e1 e2 e3 e4 q
theorem yq (e : (o.guard, nilQ C o t, quietB o) = (none, false, true)) (q : QO C o t h (KQ (aops C all r K) o.dst t h)) : AF (aops C all (o :: r) K) t h := by
  simp only [Prod.mk.injEq] at e
  obtain ⟨e1, e2, e3⟩ := e
  exact zo_n e1 (zs_q e2 e3 q)
theorem yn (e : (o.guard, nilQ C o t, o.dst, mayNew o.op) = (none, false, some d, true)) (q : QO C o (scrT d t) (scrH d h) (KN (aops C all r K) (some d) d (scrT d t) (scrH d h))) : AF (aops C all (o :: r) K) t h := by
  simp only [Prod.mk.injEq] at e
  obtain ⟨e1, e2, e3, e4⟩ := e
  exact zo_n e1 (zs_n e2 e3 e4 q)
theorem yk {x : PV} (q : AF F (upd t d (.p x)) h) : KQ F (some d) t h (.p x) [] none := zkq (zst_p q)
theorem d1 {x : PV} (e : (o.guard, all[g]?, og.dst, t tg, lookOK C ap X f o (ev t), o.dst, qop C o (ev t) h) = (some (g, want), some og, some tg, .p (.im (.bool want)), true, some d, fun k => k (.p x) [] none)) (q : AF (dops C ap X all fl r K) (upd t d (.p x)) h) : AF (dops C ap X all (f :: fl) (o :: r) K) t h := by
  simp only [Prod.mk.injEq] at e
  obtain ⟨e1, e2, e3, e4, e5, e6, e7⟩ := e
  exact zd_g1 e1 e2 e3 e4 (zd_q e5 (zq1 (v := .p x) (e := []) (n := none) (fun k hk => by rw [e7]; exact hk) (zkd (by rw [e6]; exact zst_p q))))
theorem d2 (e : (o.guard, all[g]?, og.dst, t tg) = (some (g, want), some og, some tg, .p (.im (.bool want)))) (q : AF (dstep C ap X f o (dops C ap X all fl r K)) t h) : AF (dops C ap X all (f :: fl) (o :: r) K) t h := by
  simp only [Prod.mk.injEq] at e
  obtain ⟨e1, e2, e3, e4⟩ := e
  exact zd_g1 e1 e2 e3 e4 q
theorem d0 (e : (o.guard, all[g]?, og.dst, t tg, o.dst) = (some (g, want), some og, some tg, .p (.im (.bool (!want))), some d)) (q : AF (dops C ap X all fl r K) (upd t d unAV) h) : AF (dops C ap X all (f :: fl) (o :: r) K) t h := by
  simp only [Prod.mk.injEq] at e
  obtain ⟨e1, e2, e3, e4, e5⟩ := e
  exact zd_g0 e1 e2 e3 e4 (by rw [e5]; exact zst_p q)
theorem dg (e : (o.guard, all[g]?, og.dst, t tg) = (some (g, want), some og, some tg, .p (.im (.bool b)))) (q : bcase b (AF (gst want o (dstep C ap X f o (dops C ap X all fl r K)) (dops C ap X all fl r K)) (upd t tg (boolAV true)) h) (AF (gst (!want) o (dstep C ap X f o (dops C ap X all fl r K)) (dops C ap X all fl r K)) (upd t tg (boolAV false)) h)) : AF (dops C ap X all (f :: fl) (o :: r) K) t h := by
  simp only [Prod.mk.injEq] at e
  obtain ⟨e1, e2, e3, e4⟩ := e
  exact zd_g e1 e2 e3 e4 q
theorem dq (e : (o.guard, lookOK C ap X f o (ev t)) = (none, true)) (q : QO C o t h (KD C ap X f o (dops C ap X all fl r K) t h)) : AF (dops C ap X all (f :: fl) (o :: r) K) t h := by
  simp only [Prod.mk.injEq] at e
  exact zd_n e.1 (zd_q e.2 q)
end
section
variable {A : Amb} {K : Exit → AS → Prop} {a b c : Code} {t : Nat → AV} {h : Nat → AB} {id i : Nat} {l all : List Oper} {f : AS → Prop} {C : Ctx}
theorem yT (q : AF f t h) : AF (aops C all [] (then_ f K .normal)) t h := zo_0 (zt_n q)
theorem yS (q : AF (aops A.C l l (then_ (awp A b K) K .normal)) t h) : AF (awp A (.seq (.region id ⟨l⟩ false) b) K) t h := zw_s (zw_o q)
theorem yU (q : AF (aops A.C l l (then_ (awp A b K) K .normal)) t h) : AF (aops C all [] (then_ (awp A (.seq (.region id ⟨l⟩ false) b) K) K .normal)) t h := zo_0 (zt_n (zw_s (zw_o q)))
theorem yR {rs : List ResultVar} {args : List Arg} {r : AR} {fin : List Fin} {P Q : Prop} {C' : Ctx} (hq : (P ∧ Q) → retK C rs args r fin ⟨t, h⟩) (q : P ∧ Q) : AF (aops C' all [] (then_ (awp A .ret (endK C rs args r fin)) K .normal)) t h := zo_0 (zt_n (zw_r (ze_r hq q)))
end
/-- a function whose start is seen otherwise (boxes opened) -/
theorem fun_goL {C : Ctx} (hC : CtxOK C) {f : FuncId} {fn : Func} {c : Code} (hf : C.P.funcs[f]? = some fn) (hb : fn.body = some c) (hname : (fn.name == "runtime.NumGoroutine") = false) {args : List Arg} {r : AR} {fin : List Fin} (n : Nat) (hn : args.length + (fn.ntmps - args.length) = n) (hn' : n ≤ 100000) (hok : codeOK C n c = true)
    (h : ∀ (w0 : World) (mv s0 : Nat → Prop) (n : Nat) (pin : Nat → Value), ∃ s2, SLe ⟨C, w0, mv, s0, n, pin⟩ ⟨initT args, initH args⟩ s2 ∧ AF (awp ⟨C, w0, mv, s0, n, pin⟩ c (endK C fn.results.toList args r fin)) s2.t s2.h) : ACalls C f args r fin :=
  fun_ok hC hf hb hname (by omega) fun A hA hAn S rho a w sim => by
    obtain ⟨_, _, _, _, _, _⟩ := A
    subst hA
    obtain ⟨s2, hl, hw⟩ := h _ _ _ _ _
    obtain ⟨S', rho', sim'⟩ := hl S rho a w sim
    exact awp_sound hC c _ s2 (by show codeOK _ _ c = true; rw [hAn, hn]; exact hok) hw.out S' rho' a w sim'
/-- truths of tests -/
theorem zB : (∀ (p : Prop) [Decidable p], (decide p = true) = p) ∧ (∀ (p : Prop) [Decidable p], (decide p = false) = ¬p) ∧ (∀ (α : Type) [_root_.LE α] (a b : α), (a ≥ b) = (b ≤ a)) ∧ (∀ (α : Type) [_root_.LT α] (a b : α), (a > b) = (b < a)) ∧ (∀ b : Bool, ((!b) = true) = (b = false)) ∧ (∀ b : Bool, ((!b) = false) = (b = true)) :=
  ⟨fun p _ => by simp, fun p _ => by simp, fun _ _ _ _ => rfl, fun _ _ _ _ => rfl, fun b => by simp, fun b => by simp⟩
example (a b : Int) (h : decide (a > b) = true) : b < a := by
  simp only [zB] at h
  exact h
end Go.AM
namespace Go.AM
open Go.RowKit

def FnThere (C : Ctx) (f : FuncId) : Prop := ∃ fn : Func, C.P.funcs[f]? = some fn ∧ (fn.name == "runtime.NumGoroutine") = false ∧ fn.body.isNone = false
theorem args_im {S : Nat → Prop} {w : World} {P : Program} {as : List Value} {vs : Array Value} (hl : (as.map fun a => Arg.pv (.im a)).length = vs.size) (hr : ∀ (j : Nat) x v, (as.map fun a => Arg.pv (.im a))[j]? = some x → vs[j]? = some v → ArgRep S w P x v) : vs = as.toArray := by
  apply Array.ext'
  apply List.ext_getElem?
  intro i
  by_cases hi : i < as.length
  · have h1 : (as.map fun a => Arg.pv (.im a))[i]? = some (.pv (.im as[i])) := by rw [List.getElem?_map, List.getElem?_eq_getElem hi]; rfl
    have hi2 : i < vs.size := by rw [← hl]; simpa using hi
    have h2 := hr i _ vs[i] h1 (Array.getElem?_eq_getElem hi2)
    have h3 : vs[i] = as[i] := by
      have : PRep S w (.im as[i]) vs[i] := h2
      generalize vs[i] = v at this
      cases this; rfl
    rw [Array.getElem?_toList, Array.getElem?_eq_getElem hi2, h3]
    simp [hi]
  · rw [List.getElem?_eq_none (by simpa [← hl] using hi)]
    rw [List.getElem?_eq_none (by simpa using hi)]
theorem fin_im {S : Nat → Prop} {w : World} {P : Program} : ∀ l : List Value, FinAll S w P (l.map fun a => Arg.pv (.im a)) [] l := by
  intro l
  induction l with
  | nil => trivial
  | cons a l ih => exact ih
theorem kept_im {w : World} : ∀ (l : List Value) (i g : Nat), ¬ finOwn w (l.map fun a => Arg.pv (.im a)) [] l i g := by
  intro l
  induction l with
  | nil => exact fun i g h => h
  | cons a l ih =>
    intro i g h
    cases i with
    | zero => exact h
    | succ i => exact ih i g h
theorem finok_im {w w' : World} (l : List Value) : FinOK w w' (l.map fun a => Arg.pv (.im a)) [] l.toArray := ⟨fun i g h => (kept_im l i g h).elim, fun i j g h => (kept_im l i g h).elim⟩
/-- plain values in, a plain value out -/
theorem acalls_im {C : Ctx} {f : FuncId} (as : List Value) (r : Value) (hf : FnThere C f) (h : ∀ S w, C.E S w → (∀ b, S b → b < w.heap.size) → Calls C.P f as.toArray w fun e w' => e = .returned r ∧ Below w.heap.size w w') :
    ACalls C f (as.map fun a => .pv (.im a)) (.p (.im r)) [] := by
  refine ⟨hf, fun S w vs hE hS hl hr _ => ?_⟩
  have hvs := args_im hl hr
  subst hvs
  exact (h S w hE hS).mono fun e w' ⟨he, hb⟩ => ⟨r, S, he, ⟨hb.os, hb.tape, hb.output, hb.size, fun k hk _ => hb.block k hk⟩, fun _ h => h, fun b hb' => Nat.lt_of_lt_of_le (hS b hb') hb.size, fun b hb' => .inl hb', .im r, fin_im as, finok_im as, fun g h => by cases h⟩
/-- plain values in, a row of one-celled plain values out that the callee made -/
theorem acalls_made {C : Ctx} (hC : CtxOK C) {f : FuncId} (as : List Value) (e : TypeId) (xs : List Value) (ti : TI) (hT : C.T e = some ti) (hsz : ti.size = 1) (hone : ∀ v ∈ xs, v.oneCell' = true) (hlen : xs.length ≤ maxLen) (hf : FnThere C f)
    (h : ∀ S w, C.E S w → (∀ b, S b → b < w.heap.size) → Calls C.P f as.toArray w fun e' w' => e' = .returned (.slice (some ⟨w.heap.size, 0, none⟩) xs.length xs.length) ∧ w' = w.alloc (.cells xs.toArray e)) :
    ACalls C f (as.map fun a => .pv (.im a)) (.own e (xs.map fun v => [.im v])) [] := by
  refine ⟨hf, fun S w vs hE hS hl hr _ => ?_⟩
  have hvs := args_im hl hr
  subst hvs
  obtain ⟨info, z, h1, h2, _⟩ := hC.tab e ti hT
  refine (h S w hE hS).mono fun e' w' ⟨he, hw⟩ => ?_
  subst hw
  have hlast : (w.alloc (.cells xs.toArray e)).heap[w.heap.size]? = some (.cells xs.toArray e (0, 0)) := by unfold World.alloc; exact Array.getElem?_push_size
  have hsz2 : (w.alloc (.cells xs.toArray e)).heap.size = w.heap.size + 1 := Array.size_push ..
  have hb : Below w.heap.size w (w.alloc (.cells xs.toArray e)) := (Below.refl _ _).alloc (Nat.le_refl _) _
  refine ⟨_, S, he, ⟨hb.os, hb.tape, hb.output, hb.size, fun k hk _ => hb.block k hk⟩, fun _ h => h, fun b hb' => Nat.lt_of_lt_of_le (hS b hb') hb.size, fun b hb' => .inl hb', ⟨⟨info, xs, h1, by omega, ⟨?_, .inr ⟨w.heap.size, xs.length, xs.toArray, ?_, Nat.zero_le _, hlast, ?_, hlen, ?_, ?_⟩⟩, ?_, hone, ?_⟩, ?_⟩, fin_im as, finok_im as, ?_⟩
  · simp [h2, hsz]
  · simp
  · simp
  · simp [h2, hsz]
  · simp [h2, hsz]
  · intro r hr
    obtain ⟨v, _, rfl⟩ := List.mem_map.1 hr
    simp [h2, hsz]
  · intro a r j x ha hj
    rw [List.getElem?_map] at ha
    obtain ⟨v, hv, rfl⟩ := Option.map_eq_some_iff.1 ha
    cases j with
    | zero =>
      simp at hj
      subst hj
      exact ⟨v, by rw [h2, hsz, Nat.mul_one, Nat.add_zero]; exact hv, .im v⟩
    | succ j => simp at hj
  · intro g hg hs
    injection hg with hg
    have hg : w.heap.size = g := hg
    have := hS g hs
    omega
  · intro g _ hg
    have hg := hasB_plain rfl hg
    injection hg with hg
    have hg : w.heap.size = g := hg
    exact ⟨by omega, .inl (by omega), fun i => kept_im as i g⟩
end Go.AM
