/- Part 3 of 11 of the proof of HouseDrillsEachOnce (the names are shortened by a program: the size of a claim is limited). -/
import Derived.Test.YtiaifckpmefinaaGreatDoorD02
import Derived.WideKeyRuns
set_option linter.unusedVariables false
set_option linter.unusedSimpArgs false
set_option maxRecDepth 100000
set_option maxHeartbeats 8000000
namespace Go.AM
open Go.RowKit
def isApp:Op->Bool
 | .call c=>match c.callee with
  | .builtin .append=>true
  | _=>false
 | _=>false
def DC (m:Nat->Bool):Nat->Bool
 | 0=>false
 | n+1=>m n || DC m n
def fR (C:Ctx) (o:Op):Bool:=isApp o || match o with
 | .call c=>match c.callee with
  | .value (.func f)=>DC (C.md f) 8 || C.bl f
  | .value (.tmp _)=>true
  | _=>false
 | _=>false
def cls (C:Ctx) (ap:Bool):Op->Nat
 | .move _=>0
 | .assign _=>0
 | .pick _ _ _=>0
 | .binOp _ _ _ _ _=>0
 | .unOp _ _ _=>0
 | .convert _ _ _=>0
 | .extract _ _=>0
 | .index _ _ _=>0
 | .field _ _ _=>0
 | .makeFunc _ _ _=>0
 | .fieldAddr _ _ _=>match ap with
  | true=>2
  | false=>1
 | .nilCheck _=>match ap with
  | true=>2
  | false=>1
 | .store _ _ _=>3
 | .mapUpdate _ _ _ _=>3
 | .call c=>match c.callee with
  | .builtin .append=>3
  | .builtin .clear=>3
  | .builtin .min=>0
  | .builtin .max=>0
  | .value (.func f)=>match DC (C.md f) 8 || C.bl f with
   | true=>3
   | false=>2
  | .value (.tmp _)=>3
  | _=>2
 | _=>2
def DD:AB->AB->Bool
 | .row e _,.row e' _=>bw e e'
 | .box _,.box _=>true
 | .map _ _,.map _ _=>true
 | _,_=>false
def DE:AB->Bool
 | .none=>false
 | _=>true
def dH (h:Nat->AB):List (Nat×AB)->Bool
 | []=>true
 | (i,_)::r=>DE (h i) && dH h r
def eU (h:Nat->AB):List (Nat×AB)->Bool
 | []=>true
 | (i,b)::r=>DD (h i) b && eU h r
def jO (op:Op):Option AB->Option Tmp->Bool
 | none,_=>true
 | some _,some _=>ia op
 | some _,none=>false
def o7:AV->Bool
 | .p _=>true
 | _=>false
def o8 (o:Oper) (rho:Operand->AV):Bool:=match o.op with
 | .load _ a=>o7 (rho a)
 | .indexAddr _ x _=>o7 (rho x)
 | .slice _ x _ _ none=>o7 (rho x)
 | .build _ ps=>ps.toList.all fun p=>o7 (rho p.2)
 | .call c=>match c.callee,c.args.toList with
  | .builtin .len,[x]=>o7 (rho x)
  | _,_=>false
 | .fieldAddr _ x _=>o7 (rho x)
 | .nilCheck x=>o7 (rho x)
 | _=>false
def s7:List Nat->Nat->Bool
 | [],_=>false
 | i::r,k=>match bw i k with
  | true=>true
  | false=>s7 r k
def KB (X:List Nat):AV->Bool
 | .ow id=>s7 X id
 | .rp id _ _=>s7 X id
 | .bx id _=>s7 X id
 | _=>false
def kN (X:List Nat) (o:Oper) (rho:Operand->AV):Bool:=match o.op with
 | .load _ a=>KB X (rho a)
 | .indexAddr _ x _=>KB X (rho x)
 | .lookup _ x _ _=>KB X (rho x)
 | .call c=>match c.callee,c.args.toList with
  | .builtin .len,[x]=>KB X (rho x)
  | _,_=>false
 | _=>false
def o9 (X:List Nat) (o:Oper) (rho:Operand->AV):Bool:=match o.op with
 | .makeSlice _ _ _=>s7 X (o.dst.getD 0)
 | .buildSlice _ _ ps=>s7 X (o.dst.getD 0) && ps.toList.all fun p=>o7 (rho p.2)
 | _=>false
def kO (X:List Nat) (o:Oper) (rho:Operand->AV):Bool:=kN X o rho || o9 X o rho
def JK (X:List Nat):List (Nat×AB)->Bool
 | []=>true
 | (i,_)::r=>match s7 X i with
  | true=>false
  | false=>JK X r
def kc:AB->Nat
 | .box _=>1
 | .gC _=>1
 | .row _ _=>2
 | .an _ _=>2
 | _=>0
def nO (X:List Nat) (h:Nat->AB):List (Nat×AB)->Bool
 | []=>true
 | (i,b)::r=>match s7 X (i+1000000) with
  | true=>Nat.beq (kc b) (kc (h i)) && (!Nat.beq (kc (h i)) 0 && nO X h r)
  | false=>nO X h r
def DF (X:List Nat) (f:Bool) (h:Nat->AB) (e:List (Nat×AB)):Bool:=(f || JK X e) && nO X h e
theorem uT (X:List Nat) (f:Bool) (h:Nat->AB):DF X f h []=true:=by simp[DF,JK,nO]
def NB (X:List Nat):AV->Bool
 | .bx id _=>s7 X (id+1000000)
 | .rp id _ _=>s7 X (id+1000000)
 | _=>false
def o_ (X:List Nat) (o:Oper) (rho:Operand->AV):Bool:=match o.op with
 | .fieldAddr _ x _=>NB X (rho x)
 | .nilCheck x=>NB X (rho x)
 | _=>false
def kP (C:Ctx) (ap:Bool) (X:List Nat) (f:Bool) (o:Oper) (rho:Operand->AV):Bool:=f || o8 o rho || kO X o rho || o_ X o rho || Nat.beq (cls C ap o.op) 3
def DG (C:Ctx) (ap:Bool) (X:List Nat) (f:Bool) (o:Oper) (K:AS->Prop) (s:AS):Prop:=
 aY C o (ev s.t) s.h fun v eff new=>match jO o.op new o.dst with
  | false=>False
  | true=>match Nat.beq (cls C ap o.op) 3 with
   | true=>match dH s.h eff && (ap || eU s.h eff) && DF X f s.h eff with
    | true=>K ⟨cQ s.t o.dst v,kG (app s.h eff) (o.dst.getD 0) new⟩
    | false=>False
   | false=>match eff with
    | []=>K ⟨cQ s.t o.dst v,kG s.h (o.dst.getD 0) new⟩
    | _=>False
def fi (C:Ctx) (ap:Bool) (X:List Nat) (f:Bool) (o:Oper) (K:AS->Prop) (s:AS):Prop:=match kP C ap X f o (ev s.t) with
 | true=>DG C ap X f o K s
 | false=>False
def cz (C:Ctx) (ap:Bool) (X:List Nat) (all:List Oper):List Bool->List Oper->(AS->Prop)->AS->Prop
 | _,[],K,s=>K s
 | [],_::_,_,_=>False
 | f::fl,o::r,K,s=>match o.guard with
  | none=>fi C ap X f o (cz C ap X all fl r K) s
  | some (g,want)=>match all[g]? with
   | none=>False
   | some og=>match og.dst with
    | none=>False
    | some tg=>match s.t tg with
     | .p (.im (.bool b))=>eE b
       (match want with
        | true=>fi C ap X f o (cz C ap X all fl r K) ⟨aA s.t tg (cR true),s.h⟩
        | false=>cz C ap X all fl r K ⟨cQ (aA s.t tg (cR true)) o.dst gI,s.h⟩)
       (match want with
        | false=>fi C ap X f o (cz C ap X all fl r K) ⟨aA s.t tg (cR false),s.h⟩
        | true=>cz C ap X all fl r K ⟨cQ (aA s.t tg (cR false)) o.dst gI,s.h⟩)
     | .p (.im (.tuple _))=>cz C ap X all fl r K ⟨cQ s.t o.dst gI,s.h⟩
     | _=>False
structure RR where
 run:Bool
 v:AV
 eff:List (Nat×AB)
 new:Option AB
structure DStep (C:Ctx) (ap:Bool) (all:List Oper) (o:Oper) (s:AS) (r:RR) (s':AS):Prop where
 guard:match o.guard with
  | none=>r.run=true
  | some (g,want)=>∃og tg b,all[g]?=some og/\og.dst=some tg/\s.t tg=.p (.im b)/\r.run=Kt b want
 ran:r.run=true->aY C o (ev s.t) s.h fun v e n=>v=r.v/\e=r.eff/\n=r.new
 not:r.run=false->r.v=gI/\r.eff=[]/\r.new=none
 next:s'=⟨cQ s.t o.dst r.v,kG (app s.h r.eff) (o.dst.getD 0) r.new⟩
 there:dH s.h r.eff=true
 kind:ap=false->eU s.h r.eff=true
 quiet:cls C ap o.op≠3->r.eff=[]
 ndst:jO o.op r.new o.dst=true
theorem B9 {C:Ctx} {ap f:Bool} {X:List Nat} {o:Oper} {K:AS->Prop} {s:AS} (h:DG C ap X f o K s):∃v eff new,(aY C o (ev s.t) s.h fun v' e' n'=>v'=v/\e'=eff/\n'=new)/\dH s.h eff=true/\(ap=false->eU s.h eff=true)/\(cls C ap o.op≠3->eff=[])/\jO o.op new o.dst=true/\DF X f s.h eff=true/\K ⟨cQ s.t o.dst v,kG (app s.h eff) (o.dst.getD 0) new⟩:=by
 obtain⟨v,eff,new,h1,h2⟩:=lJ (fun _=>.inr rfl) h
 refine⟨v,eff,new,h2 _ ⟨rfl,rfl,rfl⟩,?_⟩
 split at h1
 ·exact h1.elim
 rename_i yL
 split at h1
 ·rename_i hc
  have hc:cls C ap o.op=3:=Nat.eq_of_beq_eq_true hc
  split at h1
  ·rename_i hk
   have hx:DF X f s.h eff=true:=(Bool.and_eq_true _ _ ▸ hk).2
   simp only[Bool.and_eq_true,Bool.or_eq_true] at hk
   exact⟨hk.1.1,fun e=>hk.1.2.resolve_left (by rw[e];decide),fun h=>absurd hc h,yL,hx,h1⟩
  exact h1.elim
 split at h1
 ·exact⟨rfl,fun _=>rfl,fun _=>rfl,yL,uT _ _ _,h1⟩
 exact h1.elim
def rH (C:Ctx) (ap:Bool) (X:List Nat) (fl:List Bool) (o:Oper) (s:AS) (r:RR) (i:Nat):Prop:=r.run=true->(fl[i]?=some true\/o8 o (ev s.t)=true\/kO X o (ev s.t)=true\/o_ X o (ev s.t)=true\/cls C ap o.op=3)/\(fl[i]?=some true\/JK X r.eff=true)/\nO X s.h r.eff=true
theorem DH {C:Ctx} {ap:Bool} {X:List Nat} {all:List Oper} {K:AS->Prop}:∀(l:List Oper) (fl:List Bool) (s:AS),cz C ap X all fl l K s->∃(st:Nat->AS) (r:Nat->RR),st 0=s/\K (st l.length)/\∀(i:Nat) o,l[i]?=some o->DStep C ap all o (st i) (r i) (st (i+1))/\rH C ap X fl o (st i) (r i) i:=by
 intro l
 induction l with
 | nil=>intro fl s h;exact⟨fun _=>s,fun _=>⟨false,.junk,[],none⟩,rfl,by cases fl <;> exact h,by simp⟩
 | cons o l ih=>
  intro fl s h
  cases fl with
  | nil=>exact h.elim
  | cons f fl=>
  have ext:∀(r:RR) (s':AS),DStep C ap all o s r s'->(r.run=true->kP C ap X f o (ev s.t)=true/\DF X f s.h r.eff=true)->cz C ap X all fl l K s'->∃(st:Nat->AS) (r:Nat->RR),st 0=s/\K (st (o::l).length)/\∀(i:Nat) o',(o::l)[i]?=some o'->DStep C ap all o' (st i) (r i) (st (i+1))/\rH C ap X (f::fl) o' (st i) (r i) i:=by
   intro r0 s' hd hf hk
   obtain⟨st,r,h1,h2,h3⟩:=ih fl s' hk
   refine⟨fun i=>match i with | 0=>s | i+1=>st i,fun i=>match i with | 0=>r0 | i+1=>r i,rfl,h2,fun i o' hi=>?_⟩
   cases i with
   | zero=>
    simp at hi
    subst hi
    refine⟨?_,fun hr=>?_⟩
    ·show DStep C ap all o s r0 (st 0)
     rw[h1]
     exact hd
    obtain⟨q1,q2⟩:=hf hr
    simp only[DF,Bool.and_eq_true] at q2
    obtain⟨q2,q3⟩:=q2
    exact⟨by cases f with
     | true=>exact .inl rfl
     | false=>simp only[kP,Bool.false_or,Bool.or_eq_true] at q1;exact .inr (by rcases q1 with ((h | h) | h) | h;exact .inl h;exact .inr (.inl h);exact .inr (.inr (.inl h));exact .inr (.inr (.inr (Nat.eq_of_beq_eq_true h)))),by cases f with
     | true=>exact .inl rfl
     | false=>exact .inr q2,q3⟩
   | succ i=>
    obtain⟨q1,q2⟩:=h3 i o' (by simpa using hi)
    exact⟨q1,fun hr=>q2 hr⟩
  have runs:(match o.guard with
    | none=>true=true
    | some (g,want)=>∃og tg b,all[g]?=some og/\og.dst=some tg/\s.t tg=.p (.im b)/\true=Kt b want)->fi C ap X f o (cz C ap X all fl l K) s->∃(st:Nat->AS) (r:Nat->RR),st 0=s/\K (st (o::l).length)/\∀(i:Nat) o',(o::l)[i]?=some o'->DStep C ap all o' (st i) (r i) (st (i+1))/\rH C ap X (f::fl) o' (st i) (r i) i:=by
   intro hg hs
   unfold fi at hs
   split at hs
   case h_2=>exact hs.elim
   rename_i hf
   obtain⟨v,eff,new,k1,k2,k3,k4,k6,k7,k5⟩:=B9 hs
   exact ext ⟨true,v,eff,new⟩ _ ⟨hg,fun _=>k1,(fun h=>by cases h),rfl,k2,k3,k4,k6⟩ (fun _=>⟨hf,k7⟩) k5
  unfold cz at h
  split at h
  ·rename_i hg
   exact runs (by rw[hg]) h
  rename_i g want hg
  split at h
  ·exact h.elim
  rename_i og Ic
  split at h
  ·exact h.elim
  rename_i tg Ie
  split at h
  ·rename_i b hb
   have nN:∀b',b=b'->aA s.t tg (cR b')=s.t:=fun b' e=>dp _ _ _ (by rw[hb,e];rfl)
   have G3:cz C ap X all fl l K ⟨cQ s.t o.dst gI,s.h⟩->(false=(b == want))->∃(st:Nat->AS) (r:Nat->RR),st 0=s/\K (st (o::l).length)/\∀(i:Nat) o',(o::l)[i]?=some o'->DStep C ap all o' (st i) (r i) (st (i+1))/\rH C ap X (f::fl) o' (st i) (r i) i:=fun hs he=>
    ext ⟨false,gI,[],none⟩ _ ⟨by rw[hg];exact⟨og,tg,.bool b,Ic,Ie,hb,by rw[he];cases b <;> cases want <;> rfl⟩,fun h=>(by cases h),fun _=>⟨rfl,rfl,rfl⟩,rfl,rfl,fun _=>rfl,fun _=>rfl,rfl⟩ (fun h=>by cases h) hs
   cases b <;> cases want <;> simp only[eE] at h
   ·rw[nN false rfl] at h
    exact runs (by rw[hg];exact⟨og,tg,.bool false,Ic,Ie,hb,rfl⟩) h
   ·rw[nN false rfl] at h
    exact G3 h rfl
   ·rw[nN true rfl] at h
    exact G3 h rfl
   rw[nN true rfl] at h
   exact runs (by rw[hg];exact⟨og,tg,.bool true,Ic,Ie,hb,rfl⟩) h
  ·rename_i q hb
   exact ext ⟨false,gI,[],none⟩ _ ⟨by rw[hg];exact⟨og,tg,.tuple q,Ic,Ie,hb,by cases want <;> rfl⟩,fun h=>(by cases h),fun _=>⟨rfl,rfl,rfl⟩,rfl,rfl,fun _=>rfl,fun _=>rfl,rfl⟩ (fun h=>by cases h) h
  exact h.elim
theorem Ik {C:Ctx} {ap:Bool} {o:Oper} {rho:Operand->AV} {h h':Nat->AB} {K:KK} (hc:cls C ap o.op=0) (hq:aY C o rho h K):aY C o rho h' K:=by
 cases ax:o.op <;> rw[ax] at hc <;> try (simp only[aY,ax] at hq ⊢;exact hq)
 all_goals try (cases hc;done)
 case makeFunc fn first cap=>
  cases fn with
  | func f=>simp only[aY,ax] at hq ⊢;exact hq
  | _=>simp only[aY,ax] at hq
 case fieldAddr=>cases ap <;> cases hc
 case nilCheck=>cases ap <;> cases hc
 case call c=>
  simp only[aY,ax] at hq ⊢
  simp only[cls] at hc
  split at hc
  ·cases hc
  ·cases hc
  ·rename_i h1;simp only[h1,cM,dm] at hq ⊢;exact hq
  ·rename_i h1;simp only[h1,cM,dm] at hq ⊢;exact hq
  ·split at hc <;> cases hc
  ·cases hc
  cases hc
theorem Il {C:Ctx} {ap:Bool} {o:Oper} {rho:Operand->AV} {h h':Nat->AB} {K:KK} (hc:cls C ap o.op=1) (hh:∀id,(h id).there->((h' id).there/\(∀e es,h id=.row e es->∃bW,h' id=.row e bW)/\(∀cs,h id=.box cs->∃iH,h' id=.box iH)/\(∀cs,h id=.gC cs->∃iH,h' id=.gC iH)/\(∀e es,h id=.an e es->∃bW,h' id=.an e bW))) (hq:aY C o rho h K):aY C o rho h' K:=by
 cases ax:o.op <;> rw[ax] at hc <;> try (cases hc;done)
 case call c=>
  exfalso
  simp only[cls] at hc
  split at hc <;> first | cases hc | (split at hc <;> cases hc)
 case fieldAddr t x f=>
  simp only[aY,ax] at hq ⊢
  split at hq
  ·split at hq
   ·split at hq
    ·exact hq
    ·rename_i id o' hx
     split at hq
     ·exact hq.elim
     rename_i bG
     have ht:(h id).there:=by cases h1:h id <;> first | trivial | exact absurd h1 (by simpa using bG)
     have:=(hh id ht).1
     split
     ·rename_i h2;rw[h2] at this;exact this.elim
     exact hq
    ·rename_i id i o' hx
     split at hq
     ·rename_i e es hr
      obtain⟨bW,h2⟩:=(hh id (by rw[hr];trivial)).2.1 e es hr
      simp only[h2]
      exact hq
     ·rename_i e es hr
      obtain⟨bW,h2⟩:=(hh id (by rw[hr];trivial)).2.2.2.2 e es hr
      simp only[h2]
      exact hq
     exact hq.elim
    exact hq
   exact hq
  exact hq
 case nilCheck x=>
  simp only[aY,ax] at hq ⊢
  split at hq
  ·exact hq
  ·rename_i id off hx
   split at hq
   ·rename_i cs hr
    obtain⟨iH,h2⟩:=(hh id (by rw[hr];trivial)).2.2.1 cs hr
    simp only[h2]
    exact hq
   ·rename_i cs hr
    obtain⟨iH,h2⟩:=(hh id (by rw[hr];trivial)).2.2.2.1 cs hr
    simp only[h2]
    exact hq
   exact hq.elim
  ·rename_i id i off hx
   split at hq
   ·rename_i e es hr
    obtain⟨bW,h2⟩:=(hh id (by rw[hr];trivial)).2.1 e es hr
    simp only[h2]
    exact hq
   ·rename_i e es hr
    obtain⟨bW,h2⟩:=(hh id (by rw[hr];trivial)).2.2.2.2 e es hr
    simp only[h2]
    exact hq
   exact hq.elim
  exact hq
def pb (ops:Array Oper) (o:Oper) (d:Tmp):Bool:=(o.looksAt ops).contains d
def yZ (C:Ctx) (ap:Bool) (ops:Array Oper) (b:Array Nat) (i j:Nat) (oi oj:Oper):Bool:=
 (match oi.dst,oj.dst with
  | some x,some y=>!bw x y
  | _,_=>true) &&
 (match oj.dst with
  | some d=>!pb ops oi d || (b.getD j 0).testBit i
  | none=>true) &&
 (match oi.dst with
  | some d=>!pb ops oj d || (b.getD j 0).testBit i
  | none=>true) &&
 (if cls C ap oj.op=3 then (if cls C ap oi.op=3 then (b.getD j 0).testBit i else true) else true)
def KE (ops:Array Oper) (b:Array Nat) (C:Ctx) (ap:Bool) (c i:Nat):Bool:=(List.range ops.size).all fun k=>match ops[k]? with
  | none=>true
  | some ok=>!bw (cls C ap ok.op) c || (if k < i then (b.getD i 0).testBit k else if i < k then (b.getD k 0).testBit i else true)
def FI:Op->Bool
 | .fieldAddr _ _ _=>true
 | .nilCheck _=>true
 | _=>false
def NC (ops:Array Oper) (b:Array Nat) (C:Ctx) (ap:Bool) (i:Nat):Bool:=(List.range ops.size).all fun k=>match ops[k]? with
  | none=>true
  | some ok=>(FI ok.op || !bw (cls C ap ok.op) 2) || (if k < i then (b.getD i 0).testBit k else if i < k then (b.getD k 0).testBit i else true)
def uU (C:Ctx) (ap:Bool) (ops:Array Oper) (b:Array Nat) (i:Nat) (oi:Oper):Bool:=
 match cls C ap oi.op with
 | 2=>KE ops b C ap 3 i
 | 3=>NC ops b C ap i
 | _=>true
def fC (C:Ctx) (ap:Bool) (ops:Array Oper):List Bool:=
 let b:=Region.before ops
 (List.range ops.size).map fun i=>match ops[i]? with
  | some oi=>uU C ap ops b i oi
  | none=>true
theorem DI {C:Ctx} {ap:Bool} {ops:Array Oper} {i:Nat} {oi:Oper} {c:Nat} (hi:ops[i]?=some oi) (h:KE ops (Region.before ops) C ap c i=true):
  ∀(k:Nat) ok,ops[k]?=some ok->cls C ap ok.op=c->(k < i->((Region.before ops).getD i 0).testBit k=true)/\(i < k->((Region.before ops).getD k 0).testBit i=true):=by
 intro k ok hk ND
 have nu:=(Array.getElem?_eq_some_iff.1 hi).1
 have wR:=(Array.getElem?_eq_some_iff.1 hk).1
 have h2:=List.all_eq_true.1 h k (List.mem_range.2 wR)
 simp only[hk,aL.2 ND,Bool.not_true,Bool.false_or] at h2
 refine⟨fun dS=>?_,fun dS=>?_⟩
 ·rwa [if_pos dS] at h2
 rwa [if_neg (by omega),if_pos dS] at h2
theorem wS {C:Ctx} {ap:Bool} {ops:Array Oper} {i:Nat} {oi:Oper} (hi:ops[i]?=some oi) (h:(fC C ap ops)[i]?=some true):uU C ap ops (Region.before ops) i oi=true:=by
 have nu:=(Array.getElem?_eq_some_iff.1 hi).1
 simpa only[fC,List.getElem?_map,List.getElem?_range nu,Option.map_some,hi,Option.some.injEq] using h
theorem pc {C:Ctx} {ap:Bool} {ops:Array Oper} {i:Nat} {oi:Oper} (hi:ops[i]?=some oi) (h:(fC C ap ops)[i]?=some true) (hc:cls C ap oi.op=2):
  ∀(k:Nat) ok,ops[k]?=some ok->cls C ap ok.op=3->(k < i->((Region.before ops).getD i 0).testBit k=true)/\(i < k->((Region.before ops).getD k 0).testBit i=true):=by
 have h2:=wS hi h
 simp only[uU,hc] at h2
 exact DI hi h2
theorem rI {C:Ctx} {ap:Bool} {ops:Array Oper} {i:Nat} {oi:Oper} (hi:ops[i]?=some oi) (h:(fC C ap ops)[i]?=some true) (hc:cls C ap oi.op=3):
  ∀(k:Nat) ok,ops[k]?=some ok->cls C ap ok.op=2->FI ok.op=false->(k < i->((Region.before ops).getD i 0).testBit k=true)/\(i < k->((Region.before ops).getD k 0).testBit i=true):=by
 have h2:=wS hi h
 simp only[uU,hc] at h2
 intro k ok hk ND hth
 have nu:=(Array.getElem?_eq_some_iff.1 hi).1
 have wR:=(Array.getElem?_eq_some_iff.1 hk).1
 have h2:=List.all_eq_true.1 h2 k (List.mem_range.2 wR)
 simp only[hk,hth,aL.2 ND,Bool.not_true,Bool.false_or] at h2
 refine⟨fun dS=>?_,fun dS=>?_⟩
 ·rwa [if_pos dS] at h2
 rwa [if_neg (by omega),if_pos dS] at h2
theorem AO {X:List Nat} {o:Oper} {rho:Operand->AV} (h:kO X o rho=true):FI o.op=false:=by
 unfold kO kN o9 at h
 cases e:o.op <;> rw[e] at h <;> first | rfl | cases h
theorem wT {X:List Nat}:∀{eff:List (Nat×AB)},JK X eff=true->∀p∈eff,s7 X p.1=false:=by
 intro eff
 induction eff with
 | nil=>intro _ p hp;cases hp
 | cons x r ih=>
  intro h p hp
  unfold JK at h
  split at h
  ·cases h
  rename_i hx
  rcases List.mem_cons.1 hp with e | e
  ·rw[e];exact hx
  exact ih h p e
theorem cV {a:AV} (h:o7 a=true):∃x,a=.p x:=by cases a <;> first | exact⟨_,rfl⟩ | cases h
theorem DJ {h h':Nat->AB} {fs:List (Nat×Nat×Bool)} {rho:Operand->AV}:∀(ps:List (Nat×Operand)) (cs:List PV) (K:List PV->List (Nat×AB)->Prop),(ps.all fun p=>o7 (rho p.2))=true->fM h fs rho ps cs K->fM h' fs rho ps cs K:=by
 intro ps
 induction ps with
 | nil=>intro cs K _ hq;exact hq
 | cons p ps ih=>
  intro cs K hp hq
  obtain⟨i,x⟩:=p
  simp only[List.all_cons,Bool.and_eq_true] at hp
  obtain⟨y,hy⟩:=cV hp.1
  simp only[fM] at hq ⊢
  split at hq
  ·rw[hy] at hq ⊢
   simp only[eh,gY] at hq ⊢
   revert hq
   cases mQ y with
   | none=>exact id
   | some ys=>
    simp only
    cases sQ ys.length _ && Aq _ cs.length with
    | false=>exact id
    | true=>intro hq;exact ih _ _ hp.2 hq
  exact hq.elim
theorem DK {h h':Nat->AB} {fs:List (Nat×Nat×Bool)} {rho:Operand->AV}:∀(ps:List (Nat×Operand)) (cs:List AV) (K:List AV->Prop),(ps.all fun p=>o7 (rho p.2))=true->gD h fs rho ps cs K->gD h' fs rho ps cs K:=by
 intro ps
 induction ps with
 | nil=>intro cs K _ hq;exact hq
 | cons p ps ih=>
  intro cs K hp hq
  obtain⟨i,x⟩:=p
  simp only[List.all_cons,Bool.and_eq_true] at hp
  obtain⟨y,hy⟩:=cV hp.1
  unfold gD at hq ⊢
  split at hq
  ·rename_i h1
   split at hq
   ·rename_i h2
    have e:oS h' (rho x)=oS h (rho x):=by rw[hy];cases y <;> rfl
    simp only[h1,e,h2]
    exact ih _ _ hp.2 hq
   exact hq.elim
  exact hq.elim
theorem y7 {h:Nat->AB} {fs:List (Nat×Nat×Bool)} {rho:Operand->AV} {Q:Prop}:∀(ps:List (Nat×Operand)) (cs:List PV) (K:List PV->List (Nat×AB)->Prop),(∀a b,K a b->Q)->fM h fs rho ps cs K->Q:=by
 intro ps
 induction ps with
 | nil=>intro cs K hk hq;exact hk _ _ hq
 | cons p ps ih=>
  intro cs K hk hq
  obtain⟨i,x⟩:=p
  simp only[fM] at hq
  split at hq
  ·obtain⟨y,fz,h1,_⟩:=eN (fun _=>.inr rfl) hq
   split at h1
   ·split at h1
    ·exact ih _ _ (fun a b h=>hk _ _ h) h1
    exact h1.elim
   exact h1.elim
  exact hq.elim
theorem Im {C:Ctx} {o:Oper} {rho:Operand->AV} {h h':Nat->AB} {K:KK} (hp:o8 o rho=true) (hq:aY C o rho h K):aY C o rho h' K:=by
 unfold o8 at hp
 split at hp
 ·rename_i t a ax
  obtain⟨x,hx⟩:=cV hp
  simp only[aY,ax] at hq ⊢
  rw[hx] at hq ⊢
  cases x <;> exact hq
 ·rename_i t x ix ax
  obtain⟨y,hx⟩:=cV hp
  simp only[aY,ax] at hq ⊢
  rw[hx] at hq ⊢
  cases y <;> exact hq
 ·rename_i t x lo hi ax
  obtain⟨y,hx⟩:=cV hp
  simp only[aY,ax] at hq ⊢
  rw[hx] at hq ⊢
  have hq:dJ C rho h t x lo hi K:=hq
  show dJ C rho h' t x lo hi K
  simp only[dJ] at hq ⊢
  rw[hx] at hq ⊢
  exact hq
 ·rename_i t ps ax
  simp only[aY,ax] at hq ⊢
  split at hq
  ·split at hq
   ·exact DJ _ _ _ hp hq
   exact DK _ _ _ hp hq
  exact hq.elim
 ·rename_i c ax
  split at hp
  ·rename_i x hc ha
   obtain⟨y,hx⟩:=cV hp
   simp only[aY,ax,hc,ha,cM,dm] at hq ⊢
   split at hq
   ·rename_i Io ht
    simp only[ha,ht] at *
    injection Io with Io _
    subst Io
    rw[hx] at hq ⊢
    cases y <;> exact hq
   exact hq.elim
  cases hp
 ·rename_i t x f ax
  obtain⟨y,hx⟩:=cV hp
  simp only[aY,ax] at hq ⊢
  rw[hx] at hq ⊢
  cases y <;> exact hq
 ·rename_i x ax
  obtain⟨y,hx⟩:=cV hp
  simp only[aY,ax] at hq ⊢
  rw[hx] at hq ⊢
  cases y <;> exact hq
 cases hp
theorem y8 {C:Ctx} {o:Oper} {rho:Operand->AV} {h:Nat->AB} {v:AV} {e:List (Nat×AB)} {n:Option AB} (hp:o8 o rho=true) (hq:aY C o rho h fun v' e' n'=>v'=v/\e'=e/\n'=n):n=none:=by
 have aux:∀(x:AV) (K:List (List PV)->Prop) (Q:Prop),(∀es,K es->Q)->dW h x K->Q:=by
  intro x K Q hk hq
  unfold dW at hq
  repeat' (split at hq)
  all_goals first | exact hq.elim | exact hk _ hq
 unfold o8 at hp
 split at hp
 ·rename_i t a ax
  obtain⟨x,hx⟩:=cV hp
  simp only[aY,ax] at hq
  split at hq
  ·exact hq.elim
  rw[hx] at hq
  split at hq
  ·split at hq
   ·split at hq
    ·exact hq.2.2.symm
    exact hq.elim
   split at hq
   ·exact hq.2.2.symm
   exact hq.elim
  ·rename_i h1;cases h1
  ·rename_i h1;cases h1
  exact hq.elim
 ·rename_i t x ix ax
  obtain⟨y,hx⟩:=cV hp
  simp only[aY,ax] at hq
  split at hq
  ·split at hq
   ·exact hq.elim
   rw[hx] at hq
   split at hq
   ·obtain⟨r,_,hq⟩:=hq
    split at hq
    ·exact hq.2.2.symm
    exact hq.elim
   all_goals first | exact hq.elim | (rename_i h1;cases h1;done) | (rename_i h1 _;cases h1;done) | (rename_i h1 _ _;cases h1;done)
  exact hq.elim
 ·rename_i t x lo hi ax
  obtain⟨y,hx⟩:=cV hp
  simp only[aY,ax] at hq
  rw[hx] at hq
  have hq:dJ C rho h t x lo hi _:=hq
  simp only[dJ] at hq
  split at hq
  ·rw[hx] at hq
   split at hq
   ·split at hq
    ·exact hq.2.2.2.symm
    exact hq.elim
   exact hq.elim
  ·split at hq
   ·exact hq.elim
   obtain⟨z,fz,hq,_⟩:=eN (fun _=>.inr rfl) hq
   split at hq
   ·split at hq
    ·exact hq.2.2.2.symm
    exact hq.elim
   exact hq.elim
  exact hq.elim
 ·rename_i t ps ax
  simp only[aY,ax] at hq
  split at hq
  ·split at hq
   ·exact y7 _ _ _ (fun _ _ h=>h.2.2.symm) hq
   obtain⟨z,h1,_⟩:=tO (fun _=>.inr rfl) hq
   exact h1.2.2.symm
  exact hq.elim
 ·rename_i c ax
  split at hp
  ·rename_i x hc ha
   simp only[aY,ax,hc,ha,cM,dm] at hq
   split at hq
   ·split at hq
    ·split at hq
     ·exact hq.2.2.symm
     exact hq.elim
    ·split at hq
     ·exact hq.2.2.symm
     exact aux _ _ _ (fun _ h=>h.2.2.symm) hq
    ·split at hq
     ·split at hq
      ·exact hq.2.2.symm
      exact hq.elim
     exact hq.elim
    exact hq.elim
   exact hq.elim
  cases hp
 ·rename_i t x f ax
  obtain⟨y,hx⟩:=cV hp
  simp only[aY,ax] at hq
  rw[hx] at hq
  repeat' (split at hq)
  all_goals first | exact hq.elim | exact hq.2.2.symm | (rename_i h1;cases h1)
 ·rename_i x ax
  obtain⟨y,hx⟩:=cV hp
  simp only[aY,ax] at hq
  rw[hx] at hq
  repeat' (split at hq)
  all_goals first | exact hq.elim | exact hq.2.2.symm | (rename_i h1;cases h1)
 cases hp
theorem FJ {C:Ctx} {o:Oper} {X:List Nat} {rho:Operand->AV} {h h':Nat->AB} {K:KK} (hh:∀id,s7 X id=true->h id=.none\/h' id=h id) (hp:kN X o rho=true) (hq:aY C o rho h K):aY C o rho h' K:=by
 have hx:∀{a:AV},KB X a=true->(∃id,a=.ow id/\(h id=.none\/h' id=h id))\/(∃id i off,a=.rp id i off/\(h id=.none\/h' id=h id))\/∃id off,a=.bx id off/\(h id=.none\/h' id=h id):=by
  intro a ha
  cases a with
  | ow id=>exact .inl ⟨id,rfl,hh id ha⟩
  | rp id i off=>exact .inr (.inl ⟨id,i,off,rfl,hh id ha⟩)
  | bx id off=>exact .inr (.inr ⟨id,off,rfl,hh id ha⟩)
  | _=>cases ha
 unfold kN at hp
 split at hp
 ·rename_i t a ax
  simp only[aY,ax] at hq ⊢
  cases hT:C.T t with
  | none=>simp only[hT] at hq
  | some ti=>
   simp only[hT] at hq ⊢
   rcases hx hp with⟨id,e,e2⟩ | ⟨id,i,off,e,e2⟩ | ⟨id,off,e,e2⟩ <;> simp only[e] at hq ⊢ <;> rcases e2 with e2 | e2 <;> first | (simp only[e2] at hq;done) | (rw[e2];exact hq)
 ·rename_i t x ix ax
  simp only[aY,ax] at hq ⊢
  split at hq
  case h_2=>exact hq.elim
  rename_i e size bytes zero eq k i hT Fk
  cases oV:C.T e with
  | none=>simp only[oV] at hq
  | some te=>
   simp only[oV] at hq ⊢
   rcases hx hp with⟨id,e,e2⟩ | ⟨id,i,off,e,e2⟩ | ⟨id,off,e,e2⟩ <;> simp only[e] at hq ⊢ <;> rcases e2 with e2 | e2 <;> first | (simp only[e2] at hq;done) | (rw[e2];exact hq)
 ·rename_i t x ix ck ax
  simp only[aY,ax] at hq ⊢
  rcases hx hp with⟨id,e,e2⟩ | ⟨id,i,off,e,e2⟩ | ⟨id,off,e,e2⟩ <;> simp only[e] at hq ⊢
  ·rcases e2 with e2 | e2
   ·simp only[e2] at hq
    repeat' (split at hq)
    all_goals exact hq.elim
   rw[e2];exact hq
  ·exact hq
  exact hq
 ·rename_i c ax
  split at hp
  ·rename_i x hc ha
   simp only[aY,ax,hc,ha,cM,dm] at hq ⊢
   split at hq
   case h_2=>exact hq.elim
   rename_i x' t Io ht
   injection Io with Io _
   subst Io
   split at hq
   ·rcases hx hp with⟨id,e,e2⟩ | ⟨id,i,off,e,e2⟩ | ⟨id,off,e,e2⟩ <;> simp only[e] at hq
   ·rename_i hT
    rcases hx hp with⟨id,e,e2⟩ | ⟨id,i,off,e,e2⟩ | ⟨id,off,e,e2⟩ <;> simp only[hT,e,hlen,dW] at hq ⊢
    rcases e2 with e2 | e2
    ·simp only[e2] at hq
    rw[e2];exact hq
   ·rename_i hT
    rcases hx hp with⟨id,e,e2⟩ | ⟨id,i,off,e,e2⟩ | ⟨id,off,e,e2⟩ <;> simp only[hT,e] at hq ⊢
    rcases e2 with e2 | e2
    ·simp only[e2] at hq
    rw[e2];exact hq
   exact hq.elim
  cases hp
 cases hp
theorem wU {C:Ctx} {o:Oper} {X:List Nat} {rho:Operand->AV} {h:Nat->AB} {v:AV} {e:List (Nat×AB)} {n:Option AB} (hp:kN X o rho=true) (hq:aY C o rho h fun v' e' n'=>v'=v/\e'=e/\n'=n):n=none:=by
 have aux:∀(x:AV) (K:List (List PV)->Prop) (Q:Prop),(∀es,K es->Q)->dW h x K->Q:=by
  intro x K Q hk hq
  unfold dW at hq
  repeat' (split at hq)
  all_goals first | exact hq.elim | exact hk _ hq
 unfold kN at hp
 split at hp
 ·rename_i ax
  simp only[aY,ax] at hq
  repeat' (split at hq)
  all_goals first | exact hq.elim | exact hq.2.2.symm | (exfalso;obtain⟨r,hr,hq⟩:=hq;exact hq) | (rcases hq with⟨r,hr,hq⟩;first | exact hq.2.2.symm | (split at hq <;> first | exact hq.elim | exact hq.2.2.symm))
 ·rename_i ax
  simp only[aY,ax] at hq
  repeat' (split at hq)
  all_goals first | exact hq.elim | exact hq.2.2.symm | exact hq.2.2.2.symm | (obtain⟨r,hr,hq⟩:=hq;split at hq <;> first | exact hq.elim | exact hq.2.2.symm)
 ·rename_i ax
  simp only[aY,ax] at hq
  repeat' (split at hq)
  all_goals first | exact hq.elim | (obtain⟨r,hr,hq⟩:=hq;exact hq.2.2.symm) | (obtain⟨r,hr,hq⟩:=hq;split at hq <;> exact hq.2.2.symm)
 ·rename_i c ax
  split at hp
  ·rename_i x hc ha
   simp only[aY,ax,hc,ha,cM,dm] at hq
   split at hq
   ·split at hq
    ·split at hq
     ·exact hq.2.2.symm
     exact hq.elim
    ·split at hq
     ·exact hq.2.2.symm
     exact aux _ _ _ (fun _ h=>h.2.2.symm) hq
    ·split at hq
     ·split at hq
      ·exact hq.2.2.symm
      exact hq.elim
     exact hq.elim
    exact hq.elim
   exact hq.elim
  cases hp
 cases hp
theorem Ip {C:Ctx} {o:Oper} {X:List Nat} {rho:Operand->AV} {h h':Nat->AB} {K:KK} (hh:∀id,s7 X id=true->h id=.none\/h' id=h id) (hp:kO X o rho=true) (hq:aY C o rho h K):aY C o rho h' K:=by
 unfold kO at hp
 rcases (Bool.or_eq_true _ _ ▸ hp:kN X o rho=true\/o9 X o rho=true) with hp | hp
 ·exact FJ hh hp hq
 unfold o9 at hp
 split at hp
 ·rename_i t n c ax
  simp only[aY,ax] at hq ⊢
  exact hq
 ·rename_i t n ps ax
  simp only[Bool.and_eq_true] at hp
  have fA:∀p∈ps.toList,o7 (rho p.2)=true:=List.all_eq_true.1 hp.2
  have aux:∀(b:Bool) (size:Nat) (l:List (Nat×Operand)) (es:List (List PV)) (K:List (List PV)->List (Nat×AB)->Prop),(∀p∈l,o7 (rho p.2)=true)->dV b h size rho l es K->dV b h' size rho l es K:=by
   intro b size l
   induction l with
   | nil=>intro es K _ h;exact h
   | cons p r ih=>
    intro es K hl hk
    obtain⟨i,x⟩:=p
    obtain⟨y,hy⟩:=cV (hl _ List.mem_cons_self)
    simp only at hy
    simp only[dV,hy] at hk ⊢
    have e:∀(h:Nat->AB) (Q:PV->List (Nat×AB)->Prop),pV b h (.p y) Q=Q y []:=fun h Q=>by cases b <;> rfl
    rw[e] at hk ⊢
    revert hk
    split
    ·intro hk
     revert hk
     split
     ·intro hk
      exact ih _ _ (fun p hp=>hl p (List.mem_cons_of_mem _ hp)) hk
     exact fun hk=>hk
    exact fun hk=>hk
  simp only[aY,ax] at hq ⊢
  revert hq
  split
  ·split
   ·split
    ·split
     ·exact aux _ _ _ _ _ fA
     exact aux _ _ _ _ _ fA
    exact fun hq=>hq
   exact fun hq=>hq
  exact fun hq=>hq
 cases hp
theorem y9 {C:Ctx} {o:Oper} {X:List Nat} {rho:Operand->AV} {h:Nat->AB} {v:AV} {e:List (Nat×AB)} {n:Option AB} (hp:kO X o rho=true) (hq:aY C o rho h fun v' e' n'=>v'=v/\e'=e/\n'=n):n=none\/s7 X (o.dst.getD 0)=true:=by
 unfold kO at hp
 rcases (Bool.or_eq_true _ _ ▸ hp:kN X o rho=true\/o9 X o rho=true) with hp | hp
 ·exact .inl (wU hp hq)
 unfold o9 at hp
 split at hp
 ·exact .inr hp
 ·simp only[Bool.and_eq_true] at hp
  exact .inr hp.1
 cases hp
theorem Iq {C:Ctx} {o:Oper} {X:List Nat} {rho:Operand->AV} {h h':Nat->AB} {K:KK} (hh:∀id,s7 X (id+1000000)=true->h id≠.none->(kc (h' id)=kc (h id)/\kc (h id)≠0)\/h' id=h id) (hp:o_ X o rho=true) (hq:aY C o rho h K):aY C o rho h' K:=by
 have hx:∀{a:AV},NB X a=true->(∃id off,a=.bx id off/\s7 X (id+1000000)=true)\/∃id i off,a=.rp id i off/\s7 X (id+1000000)=true:=fun {a} ha=>by
  cases a with
  | bx id off=>exact .inl ⟨id,off,rfl,ha⟩
  | rp id i off=>exact .inr ⟨id,i,off,rfl,ha⟩
  | _=>cases ha
 unfold o_ at hp
 split at hp
 ·rename_i t x f ax
  simp only[aY,ax] at hq ⊢
  split at hq
  case h_2=>exact hq.elim
  rename_i hT
  split at hq
  case h_2=>exact hq.elim
  rcases hx hp with⟨id,off,e,hi⟩ | ⟨id,i,off,e,hi⟩ <;> simp only[e] at hq ⊢
  ·have bG:h id≠.none:=fun e2=>by rw[e2] at hq;exact hq
   rcases hh id hi bG with⟨h1,h2⟩ | h2
   ·cases e3:h id <;> rw[e3] at h1 h2 hq <;> first | exact hq.elim | exact absurd rfl h2 | (cases e4:h' id <;> rw[e4] at h1 <;> first | exact hq | (exfalso;revert h1;decide) | cases h1)
   rw[h2];exact hq
  have bG:h id≠.none:=fun e2=>by rw[e2] at hq;exact hq
  rcases hh id hi bG with⟨h1,h2⟩ | h2
  ·cases e3:h id <;> rw[e3] at h1 h2 hq <;> first | exact hq.elim | exact absurd rfl h2 | (cases e4:h' id <;> rw[e4] at h1 <;> first | exact hq | (exfalso;revert h1;decide) | cases h1)
  rw[h2];exact hq
 ·rename_i x ax
  simp only[aY,ax] at hq ⊢
  rcases hx hp with⟨id,off,e,hi⟩ | ⟨id,i,off,e,hi⟩ <;> simp only[e] at hq ⊢
  ·have bG:h id≠.none:=fun e2=>by rw[e2] at hq;exact hq
   rcases hh id hi bG with⟨h1,h2⟩ | h2
   ·cases e3:h id <;> rw[e3] at h1 h2 hq <;> first | exact hq.elim | exact absurd rfl h2 | (cases e4:h' id <;> rw[e4] at h1 <;> first | exact hq | (exfalso;revert h1;decide) | cases h1)
   rw[h2];exact hq
  have bG:h id≠.none:=fun e2=>by rw[e2] at hq;exact hq
  rcases hh id hi bG with⟨h1,h2⟩ | h2
  ·cases e3:h id <;> rw[e3] at h1 h2 hq <;> first | exact hq.elim | exact absurd rfl h2 | (cases e4:h' id <;> rw[e4] at h1 <;> first | exact hq | (exfalso;revert h1;decide) | cases h1)
  rw[h2];exact hq
 cases hp
theorem y_ {C:Ctx} {o:Oper} {X:List Nat} {rho:Operand->AV} {h:Nat->AB} {v:AV} {e:List (Nat×AB)} {n:Option AB} (hp:o_ X o rho=true) (hq:aY C o rho h fun v' e' n'=>v'=v/\e'=e/\n'=n):n=none:=by
 unfold o_ at hp
 split at hp
 ·rename_i ax
  simp only[aY,ax] at hq
  repeat' (split at hq)
  all_goals first | exact hq.elim | exact hq.2.2.symm
 ·rename_i ax
  simp only[aY,ax] at hq
  repeat' (split at hq)
  all_goals first | exact hq.elim | exact hq.2.2.symm
 cases hp
def za (ops:Array Oper) (o:Oper):Bool:=match o.dst with
 | some d=>!pb ops o d
 | none=>true
def zb (ops:Array Oper) (b:Array Nat):Bool:=
 (List.range ops.size).all fun j=>(match ops[j]? with
  | some oj=>(oj.after.toList.all fun e=>!Region.binds .any e || Nat.blt e.on j) && (List.range j).all fun i=>!(b.getD j 0).testBit i || (oj.after.toList.any fun e=>Region.binds .any e && (bw e.on i || (Nat.blt i e.on && (b.getD e.on 0).testBit i)))
  | none=>true)
def ig (C:Ctx) (ops:Array Oper):Bool:=
 let ap:=ops.toList.any fun o=>fR C o.op
 let b:=Region.before ops
 zb ops b && (List.range ops.size).all fun j=>match ops[j]? with
  | some oj=>za ops oj && (List.range j).all fun i=>match ops[i]? with
   | some oi=>yZ C ap ops b i j oi oj
   | none=>true
  | none=>true
def zc (ops:Array Oper) (E:Nat->Bool):Prop:=∀(j:Nat) oj,ops[j]?=some oj->E j=true->∀e∈oj.after,Region.binds .any e=true->E e.on=true
theorem tT {ops:Array Oper} {b:Array Nat} (h:zb ops b=true):(∀(j:Nat) oj,ops[j]?=some oj->∀e∈oj.after,Region.binds .any e=true->e.on < j)/\
  ∀(E:Nat->Bool),zc ops E->∀(j:Nat) oj,ops[j]?=some oj->(∀e∈oj.after,Region.binds .any e=true->E e.on=true)->∀i,i < j->(b.getD j 0).testBit i=true->E i=true:=by
 have hj:∀(j:Nat) oj,ops[j]?=some oj->(∀e∈oj.after,Region.binds .any e=true->e.on < j)/\∀i,i < j->(b.getD j 0).testBit i=true->∃e∈oj.after,Region.binds .any e=true/\(e.on=i\/(i < e.on/\(b.getD e.on 0).testBit i=true)):=by
  intro j oj zd
  have h1:=List.all_eq_true.1 h j (List.mem_range.2 (Array.getElem?_eq_some_iff.1 zd).1)
  simp only[zd,Bool.and_eq_true] at h1
  refine⟨fun e he hb=>?_,fun i hi ht=>?_⟩
  ·have h2:=List.all_eq_true.1 h1.1 e (Array.mem_toList_iff.2 he)
   rw[hb] at h2
   simp only[Bool.not_true,Bool.false_or] at h2
   exact Nat.le_of_ble_eq_true h2
  have h2:=List.all_eq_true.1 h1.2 i (List.mem_range.2 hi)
  rw[ht] at h2
  simp only[Bool.not_true,Bool.false_or] at h2
  obtain⟨e,he,h3⟩:=List.any_eq_true.1 h2
  simp only[Bool.and_eq_true,Bool.or_eq_true] at h3
  exact⟨e,Array.mem_toList_iff.1 he,h3.1,h3.2.imp aL.1 fun h=>⟨Nat.le_of_ble_eq_true h.1,h.2⟩⟩
 refine⟨fun j oj zd=>(hj j oj zd).1,fun E hE j=>?_⟩
 induction j using Nat.strongRecOn with
 | _ j ih=>
  intro oj zd fA i hi ht
  obtain⟨e,he,hb,h2⟩:=(hj j oj zd).2 i hi ht
  rcases h2 with h2 | h2
  ·rw[<-h2];exact fA e he hb
  have dS:=(hj j oj zd).1 e he hb
  have Qz:=fA e he hb
  cases Mj:ops[e.on]? with
  | none=>
   have:e.on < ops.size:=Nat.lt_trans dS (Array.getElem?_eq_some_iff.1 zd).1
   rw[Array.getElem?_eq_getElem this] at Mj
   cases Mj
  | some oe=>exact ih e.on dS oe Mj (fun e' KF jG=>hE e.on oe Mj Qz e' KF jG) i h2.1 h2.2
theorem wV {h:Nat->AB} {fs:List (Nat×Nat×Bool)} {rho rho':Operand->AV}:∀{ps:List (Nat×Operand)} {cs:List PV},(∀p∈ps,rho p.2=rho' p.2)->fM h fs rho ps cs=fM h fs rho' ps cs:=by
 intro ps
 induction ps with
 | nil=>intro cs _;rfl
 | cons p ps ih=>
  intro cs hp
  obtain⟨i,x⟩:=p
  funext K
  have e:=hp (i,x) (by simp)
  simp only at e
  simp only[fM,e]
  have:∀cs,fM h fs rho ps cs=fM h fs rho' ps cs:=fun cs=>ih (fun p hm=>hp p (by simp[hm]))
  simp only[this]
theorem wW {h:Nat->AB} {fs:List (Nat×Nat×Bool)} {rho rho':Operand->AV}:∀{ps:List (Nat×Operand)} {cs:List AV},(∀p∈ps,rho p.2=rho' p.2)->gD h fs rho ps cs=gD h fs rho' ps cs:=by
 intro ps
 induction ps with
 | nil=>intro cs _;rfl
 | cons p ps ih=>
  intro cs hp
  obtain⟨i,x⟩:=p
  funext K
  have e:=hp (i,x) (by simp)
  simp only at e
  simp only[gD,e]
  have:∀cs,gD h fs rho ps cs=gD h fs rho' ps cs:=fun cs=>ih (fun p hm=>hp p (by simp[hm]))
  simp only[this]
theorem nP {b:Bool} {h:Nat->AB} {size:Nat} {rho rho':Operand->AV}:∀{ps:List (Nat×Operand)} {cs:List (List PV)},(∀p∈ps,rho p.2=rho' p.2)->dV b h size rho ps cs=dV b h size rho' ps cs:=by
 intro ps
 induction ps with
 | nil=>intro cs _;rfl
 | cons p ps ih=>
  intro cs hp
  obtain⟨i,x⟩:=p
  funext K
  have e:=hp (i,x) (by simp)
  simp only at e
  simp only[dV,e]
  have:∀cs,dV b h size rho ps cs=dV b h size rho' ps cs:=fun cs=>ih (fun p hm=>hp p (by simp[hm]))
  simp only[this]
theorem lQ {C:Ctx} {o:Oper} {rho rho':Operand->AV} {h:Nat->AB} {K:KK} (hx:∀x∈o.op.operands,rho x=rho' x) (hq:aY C o rho h K):aY C o rho' h K:=by
 cases ax:o.op <;> simp only[ax,Op.operands] at hx <;> simp only[aY,ax] at hq ⊢ <;> try exact hq
 case move x=>rw[<-hx x (by simp)];exact hq
 case assign x=>rw[<-hx x (by simp)];exact hq
 case pick c a b=>rw[<-hx c (by simp),<-hx a (by simp),<-hx b (by simp)];exact hq
 case box e x=>rw[<-hx x (by simp)];exact hq
 case build t ps=>
  split at hq
  ·rename_i fs _ _ _ _ hT
   split at hq
   ·rename_i h1
    rw[<-wV (rho:=rho) (rho':=rho') (fun p hp=>hx p.2 (by simp;exact⟨p.1,Array.mem_toList_iff.1 hp⟩))]
    exact hq
   rename_i h1
   rw[<-wW (rho:=rho) (rho':=rho') (fun p hp=>hx p.2 (by simp;exact⟨p.1,Array.mem_toList_iff.1 hp⟩))]
   exact hq
  exact hq
 case buildSlice t n ps=>
  split at hq
  ·split at hq
   ·split at hq
    ·split at hq
     ·rw[<-nP (rho:=rho) (rho':=rho') (fun p hp=>hx p.2 (by simp;exact⟨p.1,Array.mem_toList_iff.1 hp⟩))]
      exact hq
     rw[<-nP (rho:=rho) (rho':=rho') (fun p hp=>hx p.2 (by simp;exact⟨p.1,Array.mem_toList_iff.1 hp⟩))]
     exact hq
    exact hq
   exact hq
  exact hq
 case load t x=>rw[<-hx x (by simp)];exact hq
 case store t x y=>rw[<-hx x (by simp),<-hx y (by simp)];exact hq
 case nilCheck x=>rw[<-hx x (by simp)];exact hq
 case binOp op t x y t'=>rw[<-hx x (by simp),<-hx y (by simp)];exact hq
 case unOp op t x=>rw[<-hx x (by simp)];exact hq
 case convert s d x=>rw[<-hx x (by simp)];exact hq
 case makeFunc fn first cap=>
  cases fn with
  | func f=>
   have:cap.toList.map rho=cap.toList.map rho':=List.map_congr_left fun x hm=>hx x (by simp[Array.mem_toList_iff.1 hm])
   simp only[this] at hq
   exact hq
  | _=>exact hq
 case makeSlice t x y=>rw[<-hx x (by simp),<-hx y (by simp)];exact hq
 case slice t x lo hi mx=>
  cases mx with
  | some m=>exact hq
  | none=>
   have e0:=hx x (by simp)
   have e1:∀y,lo=some y->rho y=rho' y:=fun y hy=>hx y (by simp[hy])
   have e2:∀y,hi=some y->rho y=rho' y:=fun y hy=>hx y (by simp[hy])
   have hs:dJ C rho h t x lo hi K=dJ C rho' h t x lo hi K:=by
    unfold dJ
    rw[e0]
    cases lo <;> cases hi <;> simp only[Option.some.injEq,forall_eq',forall_eq,reduceCtorEq,false_implies,implies_true] at e1 e2 <;> simp only[e1,e2]
   have hv:∀id e' es,nD C rho t lo hi id e' es K=nD C rho' t lo hi id e' es K:=fun id e' es=>by
    unfold nD
    cases lo <;> cases hi <;> simp only[Option.some.injEq,forall_eq',forall_eq,reduceCtorEq,false_implies,implies_true] at e1 e2 <;> simp only[e1,e2]
   simp only at hq ⊢
   simp only[<-e0,<-hs,<-hv]
   exact hq
 case makeMap t r=>cases r <;> exact hq
 case lookup t x i ck=>rw[<-hx x (by simp),<-hx i (by simp)];exact hq
 case mapUpdate t x i y=>rw[<-hx x (by simp),<-hx i (by simp),<-hx y (by simp)];exact hq
 case fieldAddr t x f=>rw[<-hx x (by simp)];exact hq
 case field t x f=>rw[<-hx x (by simp)];exact hq
 case indexAddr t x y=>rw[<-hx x (by simp),<-hx y (by simp)];exact hq
 case index t x y=>rw[<-hx x (by simp),<-hx y (by simp)];exact hq
 case extract x i=>rw[<-hx x (by simp)];exact hq
 case call c=>
  have hm:c.args.toList.map rho=c.args.toList.map rho':=List.map_congr_left fun x BP=>hx x (by simp[Call.operands,Array.mem_toList_iff.1 BP])
  have ha:∀x∈c.args.toList,rho x=rho' x:=fun x BP=>hx x (by simp[Call.operands,Array.mem_toList_iff.1 BP])
  split at hq
  ·split at hq
   ·rename_i h1 h2;simp only[h1,h2] at *;rw[<-ha _ (by simp)];exact hq
   exact hq
  ·split at hq
   ·rename_i h1 h2;simp only[h1,h2] at *;rw[<-ha _ (by simp)];exact hq
   exact hq
  ·split at hq
   ·rename_i h1;simp only[h1] at *;rw[<-ha _ (by simp),<-ha _ (by simp)];exact hq
   exact hq
  ·split at hq
   ·rename_i h1;simp only[h1] at *;rw[<-ha _ (by simp),<-ha _ (by simp)];exact hq
   ·rename_i h1;simp only[h1] at *;rw[<-ha _ (by simp),<-ha _ (by simp),<-ha _ (by simp)];exact hq
   ·rename_i h1;simp only[h1] at *;rw[<-ha _ (by simp),<-ha _ (by simp),<-ha _ (by simp),<-ha _ (by simp),<-ha _ (by simp)];exact hq
   exact hq
  ·split at hq
   ·rename_i h1 h2;simp only[h1,h2] at *;rw[<-ha _ (by simp),<-ha _ (by simp)];exact hq
   exact hq
  ·rename_i g hc
   have JG:c.callee=.value g:=by
    cases NF:c.callee with
    | value g'=>rw[NF] at hc;simp only[cM] at hc;injection hc with hc;rw[hc]
    | invoke r m=>rw[NF] at hc;cases hc
    | builtin b=>rw[NF] at hc;cases b <;> cases hc
   have hg:=hx g (by simp[Call.operands,JG])
   rw[<-hg,<-hm]
   exact hq
  exact hq
end Go.AM
namespace Go.AM
open Go.RowKit
theorem pd {h h':Nat->AB} {id:Nat}:∀(fe:List (Nat×AB)) ,h id=h' id->app h fe id=app h' fe id:=by
 intro fe
 induction fe generalizing h h' with
 | nil=>intro e;exact e
 | cons x fe ih=>
  intro e
  refine ih ?_
  by_cases hx:id=x.1
  ·rw[hx,ar,ar]
  rw[aE _ _ hx,aE _ _ hx];exact e
theorem fX {h:Nat->AB}:∀{fe:List (Nat×AB)},dH h fe=true->∀p∈fe,(h p.1).there:=by
 intro fe
 induction fe with
 | nil=>intro _ p hp;cases hp
 | cons x fe ih=>
  intro hh p hp
  simp only[dH,Bool.and_eq_true] at hh
  rcases List.mem_cons.1 hp with e | e
  ·subst e
   have:=hh.1
   cases hx:h p.1 <;> rw[hx] at this <;> first | trivial | (simp[DE] at this)
  exact ih hh.2 p e
def Hn (B:Nat->AB) (r:Nat->RR) (E:Nat->Bool):Nat->Nat->AB
 | 0=>B
 | i+1=>match E i with
  | true=>app (Hn B r E i) (r i).eff
  | false=>Hn B r E i
theorem G4 {B:Nat->AB} {r:Nat->RR} {E:Nat->Bool} (i:Nat):∀(m:Nat),(∀k,k < m->(E k=true↔k < i)\/(r k).eff=[])->i<=m->Hn B r E m=Hn B r (fun _=>true) i:=by
 have low:∀m,m<=i->(∀k,k < m->(E k=true↔k < i)\/(r k).eff=[])->Hn B r E m=Hn B r (fun _=>true) m:=by
  intro m
  induction m with
  | zero=>intro _ _;rfl
  | succ m ih=>
   intro hm hk
   have h1:=ih (by omega) (fun k BD=>hk k (by omega))
   simp only[Hn]
   rw[h1]
   rcases hk m (by omega) with h | h
   ·rw[h.2 (by omega)]
   rw[h]
   cases E m <;> rfl
 intro m
 induction m with
 | zero=>
      intro _ hi;have:i=0:=by omega
      subst this;rfl
 | succ m ih=>
  intro hk hi
  by_cases e:i=m+1
  ·subst e;exact low (m+1) (Nat.le_refl _) hk
  have h1:=ih (fun k BD=>hk k (by omega)) (by omega)
  rw[<-h1]
  simp only[Hn]
  rcases hk m (by omega) with h | h
  ·have:E m=false:=by rw[Bool.eq_false_iff];intro ht;have:=h.1 ht;omega
   rw[this]
  rw[h]
  cases E m <;> rfl
theorem Ir {B:Nat->AB} {r:Nat->RR} {E:Nat->Bool} {i:Nat} (hi:E i=false):∀(m:Nat),(∀k,i < k->k < m->E k=true->(r k).eff=[])->i < m->Hn B r (fun k=>E k || bw k i) m=app (Hn B r E m) (r i).eff:=by
 have low:∀m,m<=i->Hn B r (fun k=>E k || bw k i) m=Hn B r E m:=by
  intro m
  induction m with
  | zero=>intro _;rfl
  | succ m ih=>
   intro hm
   have:bw m i=false:=by rw[Bool.eq_false_iff];intro h;have:=aL.1 h;omega
   simp only[Hn,this,Bool.or_false]
   rw[ih (by omega)]
 intro m
 induction m with
 | zero=>intro _ h;omega
 | succ m ih=>
  intro hk dS
  by_cases e:m=i
  ·subst e
   simp only[Hn,hi,aL.2 rfl,Bool.or_true]
   rw[low m (Nat.le_refl _)]
  have h1:=ih (fun k h1 h2=>hk k h1 (by omega)) (by omega)
  have:bw m i=false:=by rw[Bool.eq_false_iff];intro h;exact e (aL.1 h)
  simp only[Hn,this,Bool.or_false]
  rw[h1]
  cases hE:E m with
  | false=>rfl
  | true=>rw[hk m (by omega) (by omega) hE];rfl
theorem DL (C:Ctx) (ap:Bool) (op:Op):cls C ap op<=3:=by
 unfold cls
 split <;> first | decide | skip
 all_goals (cases ap <;> first | decide | skip)
 all_goals (split <;> first | decide | skip)
 all_goals (split <;> decide)
theorem DM (C:Ctx) (op:Op):cls C true op≠1:=by
 unfold cls
 split <;> first | decide | skip
 all_goals (split <;> first | decide | skip)
 all_goals (split <;> decide)
theorem B_ {C:Ctx} {ap:Bool} {o:Oper} {rho:Operand->AV} {h:Nat->AB} {K:KK} (hc:cls C ap o.op<=1) (hq:aY C o rho h K):∃v e,K v e none:=by
 cases ax:o.op <;> rw[ax] at hc <;> simp only[aY,ax] at hq
 case move x=>exact⟨_,_,hq⟩
 case assign x=>exact⟨_,_,hq⟩
 case pick c a b=>
  split at hq
  ·split at hq <;> exact⟨_,_,hq⟩
  exact hq.elim
 case binOp op t x y t'=>
  split at hq
  ·obtain⟨v,h1,_⟩:=wG hq;exact⟨_,_,h1⟩
  ·obtain⟨v,h1,_⟩:=wF hq;exact⟨_,_,h1⟩
  exact hq.elim
 case unOp op t x=>
  split at hq
  ·exact⟨_,_,hq⟩
  ·obtain⟨v,h1,_⟩:=jk hq;exact⟨_,_,h1⟩
  exact hq.elim
 case convert s d x=>
  split at hq
  ·obtain⟨v,h1,_⟩:=jk hq;exact⟨_,_,h1⟩
  ·exact⟨_,_,hq⟩
  ·exact⟨_,_,hq⟩
  exact hq.elim
 case extract x i=>
  split at hq
  ·split at hq
   ·exact⟨_,_,hq⟩
   exact hq.elim
  exact hq.elim
 case index t x y=>
  split at hq
  ·obtain⟨b,_,hq⟩:=hq;exact⟨_,_,hq⟩
  exact hq.elim
 case field t x f=>
  split at hq
  ·split at hq
   ·split at hq
    ·split at hq
     ·exact⟨_,_,hq⟩
     exact hq.elim
    split at hq
    ·exact⟨_,_,hq⟩
    exact hq.elim
   exact hq.elim
  exact hq.elim
 case makeFunc fn first cap=>
  cases fn with
  | func f=>
   simp only at hq
   split at hq
   ·exact⟨_,_,hq⟩
   exact hq.elim
  | _=>exact hq.elim
 case fieldAddr t x f=>
  split at hq
  ·split at hq
   ·split at hq
    ·exact⟨_,_,hq⟩
    ·split at hq
     ·exact hq.elim
     exact⟨_,_,hq⟩
    ·split at hq
     ·exact⟨_,_,hq⟩
     ·exact⟨_,_,hq⟩
     exact hq.elim
    exact hq.elim
   exact hq.elim
  exact hq.elim
 case nilCheck x=>
  split at hq
  ·exact⟨_,_,hq⟩
  ·split at hq
   ·exact⟨_,_,hq⟩
   ·exact⟨_,_,hq⟩
   exact hq.elim
  ·split at hq
   ·exact⟨_,_,hq⟩
   ·exact⟨_,_,hq⟩
   exact hq.elim
  exact hq.elim
 case call c=>
  simp only[cls] at hc
  split at hc
  ·exact absurd hc (by decide)
  ·exact absurd hc (by decide)
  ·rename_i h1
   simp only[h1,cM,dm] at hq
   split at hq
   ·split at hq
    ·exact⟨_,_,hq⟩
    exact hq.elim
   exact hq.elim
  ·rename_i h1
   simp only[h1,cM,dm] at hq
   split at hq
   ·split at hq
    ·exact⟨_,_,hq⟩
    exact hq.elim
   ·split at hq
    ·exact⟨_,_,hq⟩
    exact hq.elim
   ·split at hq
    ·exact⟨_,_,hq⟩
    exact hq.elim
   exact hq.elim
  ·split at hc <;> exact absurd hc (by decide)
  ·exact absurd hc (by decide)
  exact absurd hc (by decide)
 all_goals exact absurd hc (by simp[cls])
theorem FK {C:Ctx} {ap:Bool} {o:Oper} {rho:Operand->AV} {h:Nat->AB} {v:AV} {e:List (Nat×AB)} {n:Option AB} {b:AB} (hq:aY C o rho h fun v' e' n'=>v'=v/\e'=e/\n'=n) (hn:some b=n):cls C ap o.op=3\/cls C ap o.op=2:=by
 have hle:=DL C ap o.op
 by_cases h1:cls C ap o.op<=1
 ·obtain⟨_,_,_,_,h2⟩:=B_ h1 hq
  rw[<-h2] at hn
  cases hn
 omega
section
variable {C:Ctx} {ops:Array Oper} {st:Nat->AS} {r:Nat->RR} {ap:Bool} {X:List Nat}
theorem KG {B:Nat->AB} {r:Nat->RR} {E:Nat->Bool} {d:Nat} (i:Nat):∀(m:Nat),(∀k,k < m->(E k=true↔k < i)\/∀p∈(r k).eff,p.1≠d)->i<=m->Hn B r E m d=Hn B r (fun _=>true) i d:=by
 have low:∀m,m<=i->(∀k,k < m->(E k=true↔k < i)\/∀p∈(r k).eff,p.1≠d)->Hn B r E m d=Hn B r (fun _=>true) m d:=by
  intro m
  induction m with
  | zero=>intro _ _;rfl
  | succ m ih=>
   intro hm hk
   have h1:=ih (by omega) (fun k BD=>hk k (by omega))
   simp only[Hn]
   rcases hk m (by omega) with h | h
   ·rw[h.2 (by omega)]
    exact pd _ h1
   cases E m with
   | true=>exact pd _ h1
   | false=>exact h1.trans (eS h).symm
 intro m
 induction m with
 | zero=>
      intro _ hi;have:i=0:=by omega
      subst this;rfl
 | succ m ih=>
  intro hk hi
  by_cases e:i=m+1
  ·subst e;exact low (m+1) (Nat.le_refl _) hk
  have h1:=ih (fun k BD=>hk k (by omega)) (by omega)
  rw[<-h1]
  simp only[Hn]
  rcases hk m (by omega) with h | h
  ·have:E m=false:=by rw[Bool.eq_false_iff];intro ht;have:=h.1 ht;omega
   rw[this]
  cases E m with
  | true=>exact eS h
  | false=>rfl
structure NG (C:Ctx) (ap:Bool) (ops:Array Oper) (i j:Nat) (oi oj:Oper):Prop where
 dst:∀x,oi.dst=some x->oj.dst≠some x
 war:∀d,oj.dst=some d->d∈oi.looksAt ops->((Region.before ops).getD j 0).testBit i=true
 raw:∀d,oi.dst=some d->d∈oj.looksAt ops->((Region.before ops).getD j 0).testBit i=true
 w3:cls C ap oj.op=3->cls C ap oi.op=3->((Region.before ops).getD j 0).testBit i=true
theorem gU (hok:ig C ops=true):zb ops (Region.before ops)=true/\(∀(j:Nat) oj,ops[j]?=some oj->∀d,oj.dst=some d->d ∉ oj.looksAt ops)/\
  ∀(i j:Nat) oi oj,i < j->ops[i]?=some oi->ops[j]?=some oj->NG C (ops.toList.any fun o=>fR C o.op) ops i j oi oj:=by
 simp only[ig,Bool.and_eq_true] at hok
 obtain⟨h1,h2⟩:=hok
 have hj:∀(j:Nat) oj,ops[j]?=some oj->za ops oj=true/\∀(i:Nat) oi,i < j->ops[i]?=some oi->yZ C (ops.toList.any fun o=>fR C o.op) ops (Region.before ops) i j oi oj=true:=by
  intro j oj zd
  have h3:=List.all_eq_true.1 h2 j (List.mem_range.2 (Array.getElem?_eq_some_iff.1 zd).1)
  simp only[zd,Bool.and_eq_true] at h3
  refine⟨h3.1,fun i oi hi NH=>?_⟩
  have h4:=List.all_eq_true.1 h3.2 i (List.mem_range.2 hi)
  simp only[NH] at h4
  exact h4
 refine⟨h1,fun j oj zd d hd=>?_,fun i j oi oj AH NH zd=>?_⟩
 ·have:=(hj j oj zd).1
  simp only[za,hd,pb] at this
  simpa using this
 have h3:=(hj j oj zd).2 i oi AH NH
 simp only[yZ,Bool.and_eq_true] at h3
 obtain⟨⟨⟨p1,p2⟩,p3⟩,p4⟩:=h3
 refine⟨fun x hx hy=>?_,fun d hd hm=>?_,fun d hd hm=>?_,fun hc hi=>?_⟩
 ·simp only[hx,hy,aL.2 rfl,Bool.not_true] at p1
  cases p1
 ·simp only[hd,pb] at p2
  have Ap:(oi.looksAt ops).contains d=true:=by simpa using hm
  rw[Ap] at p2
  simpa using p2
 ·simp only[hd,pb] at p3
  have Ap:(oj.looksAt ops).contains d=true:=by simpa using hm
  rw[Ap] at p3
  simpa using p3
 rw[if_pos hc,if_pos hi] at p4
 exact p4
theorem zf (hok:ig C ops=true) (H:∀(i:Nat) o,ops[i]?=some o->DStep C ap ops.toList o (st i) (r i) (st (i+1))) {i:Nat} {o:Oper} (ho:ops[i]?=some o) {d:Tmp} (hd:o.dst=some d):∀k,i+1<=k->k<=ops.size->(st k).t d=(r i).v:=by
 obtain⟨_,hs,hp⟩:=gU hok
 intro k
 induction k with
 | zero=>intro h;omega
 | succ k ih=>
  intro JL hk
  by_cases e:i=k
  ·subst e
   rw[(H i o ho).next,hd]
   exact ar _ _ _
  have h1:=ih (by omega) (by omega)
  have wX:ops[k]?=some ops[k]:=Array.getElem?_eq_getElem (by omega)
  rw[(H k _ wX).next]
  show cQ (st k).t _ _ d=_
  have bG:=(hp i k o _ (by omega) ho wX).dst d hd
  cases qz:ops[k].dst with
  | none=>exact h1
  | some d'=>rw[cQ,aE _ _ (fun e=>bG (by rw[qz,e]))];exact h1
theorem uV (H:∀(i:Nat) o,ops[i]?=some o->DStep C ap ops.toList o (st i) (r i) (st (i+1))) {x:Nat} (hx:∀(k:Nat) o,ops[k]?=some o->o.dst≠some x):∀k,k<=ops.size->(st k).t x=(st 0).t x:=by
 intro k
 induction k with
 | zero=>intro _;rfl
 | succ k ih=>
  intro hk
  have wX:ops[k]?=some ops[k]:=Array.getElem?_eq_getElem (by omega)
  rw[(H k _ wX).next]
  show cQ (st k).t _ _ x=_
  cases qz:ops[k].dst with
  | none=>exact ih (by omega)
  | some d'=>rw[cQ,aE _ _ (fun e=>hx k _ wX (by rw[qz,e]))];exact ih (by omega)
theorem Ca (hok:ig C ops=true) (H:∀(i:Nat) o,ops[i]?=some o->DStep C ap ops.toList o (st i) (r i) (st (i+1))) {j:Nat} {o:Oper} (ho:ops[j]?=some o) {d:Tmp} (hd:o.dst=some d):∀k,k<=j->(st k).t d=(st 0).t d:=by
 obtain⟨_,hs,hp⟩:=gU hok
 have hj:=(Array.getElem?_eq_some_iff.1 ho).1
 intro k
 induction k with
 | zero=>intro _;rfl
 | succ k ih=>
  intro hk
  have wX:ops[k]?=some ops[k]:=Array.getElem?_eq_getElem (by omega)
  rw[(H k _ wX).next]
  show cQ (st k).t _ _ d=_
  cases qz:ops[k].dst with
  | none=>exact ih (by omega)
  | some d'=>rw[cQ,aE _ _ (fun e=>(hp k j _ o (by omega) wX ho).dst d' qz (by rw[hd,e]))];exact ih (by omega)
def Cb (ops:Array Oper) (r:Nat->RR) (k d:Nat) (b:AB):Prop:=∃o,ops[k]?=some o/\o.dst=some d/\(r k).new=some b
def fx (ops:Array Oper) (r:Nat->RR) (i d:Nat):Prop:=∃k b,i<=k/\Cb ops r k d b
theorem mY (hok:ig C ops=true) (H:∀(i:Nat) o,ops[i]?=some o->DStep C ap ops.toList o (st i) (r i) (st (i+1))) {B:Nat->AB} (Cc:∀k d b,Cb ops r k d b->B d=b) (tU:∀d,¬fx ops r 0 d->B d=(st 0).h d) (h0:∀d,fx ops r 0 d->(st 0).h d=.none):
  ∀i,i<=ops.size->∀d,(fx ops r i d->(st i).h d=.none/\Hn B r (fun _=>true) i d=B d)/\(¬fx ops r i d->(st i).h d=Hn B r (fun _=>true) i d):=by
 obtain⟨_,hs,hp⟩:=gU hok
 intro i
 induction i with
 | zero=>intro _ d;exact⟨fun h=>⟨h0 d h,rfl⟩,fun h=>(tU d h).symm⟩
 | succ i ih=>
  intro hi d
  have ih:=ih (by omega)
  have ho:ops[i]?=some ops[i]:=Array.getElem?_eq_getElem (by omega)
  have D:=H i _ ho
  have hth:=fX D.there
  have NI:Hn B r (fun _=>true) (i+1)=app (Hn B r (fun _=>true) i) (r i).eff:=rfl
  have wj:(st (i+1)).h=kG (app (st i).h (r i).eff) (ops[i].dst.getD 0) (r i).new:=by rw[D.next]
  have out:fx ops r i d->∀p∈(r i).eff,p.1≠d:=fun tV p G5 e=>by
   have h1:=hth p G5
   rw[e,((ih d).1 tV).1] at h1
   exact h1
  have KH:∀b,(r i).new=some b->∃d',ops[i].dst=some d':=fun b hb=>by
   have:=D.ndst
   rw[hb] at this
   cases hd:ops[i].dst with
   | none=>rw[hd] at this;cases this
   | some d'=>exact⟨d',rfl⟩
  refine⟨fun tV=>?_,fun tV=>?_⟩
  ·have DN:fx ops r i d:=by obtain⟨k,b,h1,h2⟩:=tV;exact⟨k,b,by omega,h2⟩
   obtain⟨h1,h2⟩:=(ih d).1 DN
   refine⟨?_,by rw[NI,eS (out DN)];exact h2⟩
   rw[wj]
   cases hn:(r i).new with
   | none=>show app _ _ d=_;rw[eS (out DN)];exact h1
   | some b=>
    obtain⟨d',qz⟩:=KH b hn
    rw[qz]
    show aA _ d' b d=_
    have bG:d≠d':=fun e=>by
     obtain⟨k,b',h3,o',h4,h5,h6⟩:=tV
     exact (hp i k _ o' (by omega) ho h4).dst d' qz (by rw[h5,e])
    rw[aE _ _ bG,eS (out DN)]
    exact h1
  by_cases hc:∃b,Cb ops r i d b
  ·obtain⟨b,hc⟩:=hc
   have DN:fx ops r i d:=⟨i,b,Nat.le_refl _,hc⟩
   obtain⟨o',h4,h5,h6⟩:=hc
   rw[ho] at h4
   injection h4 with h4
   rw[wj,NI,eS (out DN),((ih d).1 DN).2,h6,h4,h5,Cc i d b ⟨o',by rw[ho,h4],h5,h6⟩]
   exact ar _ _ _
  have DN:¬fx ops r i d:=fun ⟨k,b,h1,h2⟩=>by
   by_cases e:k=i
   ·subst e;exact hc ⟨b,h2⟩
   exact tV ⟨k,b,by omega,h2⟩
  have h1:=(ih d).2 DN
  rw[wj,NI,<-pd (r i).eff h1]
  cases hn:(r i).new with
  | none=>rfl
  | some b=>
   obtain⟨d',qz⟩:=KH b hn
   rw[qz]
   show aA _ d' b d=_
   rw[aE _ _ (fun e=>hc ⟨b,_,ho,by rw[qz,e],hn⟩)]
def KC (b b':AB):Prop:=b'=b\/(∃e es bW,b=.row e es/\b'=.row e bW)\/(∃cs iH,b=.box cs/\b'=.box iH)\/(∃mk es mk' bW,b=.map mk es/\b'=.map mk' bW)
theorem KC.trans {a b c:AB} (h:KC a b) (k:KC b c):KC a c:=by
 rcases h with rfl | ⟨e,es,bW,rfl,rfl⟩ | ⟨cs,iH,rfl,rfl⟩ | ⟨m,es,m',bW,rfl,rfl⟩
 ·exact k
 ·rcases k with rfl | ⟨e',fs,Is,h1,rfl⟩ | ⟨cs,iH,h1,rfl⟩ | ⟨_,_,_,_,h1,rfl⟩
  ·exact .inr (.inl ⟨_,_,_,rfl,rfl⟩)
  ·injection h1 with h1 h2;subst h1;exact .inr (.inl ⟨_,_,_,rfl,rfl⟩)
  ·cases h1
  cases h1
 ·rcases k with rfl | ⟨e',fs,Is,h1,rfl⟩ | ⟨ds,NJ,h1,rfl⟩ | ⟨_,_,_,_,h1,rfl⟩
  ·exact .inr (.inr (.inl ⟨_,_,rfl,rfl⟩))
  ·cases h1
  ·exact .inr (.inr (.inl ⟨_,_,rfl,rfl⟩))
  cases h1
 rcases k with rfl | ⟨e',fs,Is,h1,rfl⟩ | ⟨ds,NJ,h1,rfl⟩ | ⟨_,_,_,_,h1,rfl⟩
 ·exact .inr (.inr (.inr ⟨_,_,_,_,rfl,rfl⟩))
 ·cases h1
 ·cases h1
 exact .inr (.inr (.inr ⟨_,_,_,_,rfl,rfl⟩))
theorem DO {b b':AB} (h:DD b b'=true):KC b b':=by
 cases b <;> cases b' <;> first | (simp[DD] at h;done) | skip
 ·have:=aL.1 h;subst this;exact .inr (.inl ⟨_,_,_,rfl,rfl⟩)
 ·exact .inr (.inr (.inl ⟨_,_,rfl,rfl⟩))
 exact .inr (.inr (.inr ⟨_,_,_,_,rfl,rfl⟩))
theorem nQ {h:Nat->AB}:∀{fe:List (Nat×AB)},eU h fe=true->∀p∈fe,KC (h p.1) p.2:=by
 intro fe
 induction fe with
 | nil=>intro _ p hp;cases hp
 | cons x fe ih=>
  intro hh p hp
  simp only[eU,Bool.and_eq_true] at hh
  rcases List.mem_cons.1 hp with e | e
  ·subst e;exact DO hh.1
  exact ih hh.2 p e
theorem rJ (hok:ig C ops=true) (H:∀(i:Nat) o,ops[i]?=some o->DStep C ap ops.toList o (st i) (r i) (st (i+1))) (E6:ap=false) {B:Nat->AB} (Cc:∀k d b,Cb ops r k d b->B d=b) (tU:∀d,¬fx ops r 0 d->B d=(st 0).h d) (h0:∀d,fx ops r 0 d->(st 0).h d=.none) (E:Nat->Bool):
  ∀m,m<=ops.size->∀d,KC (B d) (Hn B r E m d):=by
 have hh:=mY hok H Cc tU h0
 have canon:∀m,m<=ops.size->∀d,KC (B d) (Hn B r (fun _=>true) m d):=by
  intro m
  induction m with
  | zero=>intro _ d;exact .inl rfl
  | succ m ih=>
   intro hm d
   have ho:ops[m]?=some ops[m]:=Array.getElem?_eq_getElem (by omega)
   have D:=H m _ ho
   show KC (B d) (app (Hn B r (fun _=>true) m) (r m).eff d)
   rcases cS (r m).eff (Hn B r (fun _=>true) m) d with⟨b,h1,h2⟩ | ⟨_,h2⟩
   ·rw[h2]
    have hk:=nQ (D.kind E6) _ h1
    have ht:=fX D.there _ h1
    have NK:¬fx ops r m d:=fun hp=>by rw[((hh m (by omega) d).1 hp).1] at ht;exact ht
    rw[(hh m (by omega) d).2 NK] at hk
    exact (ih (by omega) d).trans hk
   rw[h2];exact ih (by omega) d
 intro m
 induction m with
 | zero=>intro _ d;exact .inl rfl
 | succ m ih=>
  intro hm d
  have ho:ops[m]?=some ops[m]:=Array.getElem?_eq_getElem (by omega)
  have D:=H m _ ho
  simp only[Hn]
  cases E m with
  | false=>exact ih (by omega) d
  | true=>
   show KC (B d) (app (Hn B r E m) (r m).eff d)
   rcases cS (r m).eff (Hn B r E m) d with⟨b,h1,h2⟩ | ⟨_,h2⟩
   ·rw[h2]
    have hk:=nQ (D.kind E6) _ h1
    have ht:=fX D.there _ h1
    have NK:¬fx ops r m d:=fun hp=>by rw[((hh m (by omega) d).1 hp).1] at ht;exact ht
    rw[(hh m (by omega) d).2 NK] at hk
    exact (canon m (by omega) d).trans hk
   rw[h2];exact ih (by omega) d
def VE (ops:Array Oper) (E:Nat->Bool) (x:Nat):Prop:=∀(k:Nat) o,ops[k]?=some o->o.dst=some x->E k=true
open Classical in
noncomputable def TE (ops:Array Oper) (st:Nat->AS) (E:Nat->Bool) (x:Nat):AV:=if VE ops E x then (st ops.size).t x else (st 0).t x
def LE (ops:Array Oper) (r:Nat->RR) (E:Nat->Bool) (d:Nat):Prop:=∀k b,Cb ops r k d b->E k=true
theorem DP {h:Nat->AB} {id c:Nat}:∀{eff:List (Nat×AB)},(∀p∈eff,p.1=id->kc p.2=c)->kc (h id)=c->kc (app h eff id)=c:=by
 intro eff
 induction eff generalizing h with
 | nil=>intro _ h2;exact h2
 | cons p r ih=>
  intro h1 h2
  obtain⟨q,b⟩:=p
  refine ih (h:=aA h q b) (fun p hp e=>h1 p (List.mem_cons_of_mem _ hp) e) ?_
  by_cases e:id=q
  ·subst e
   rw[ar]
   exact h1 _ List.mem_cons_self rfl
  rw[aE _ _ e];exact h2
theorem zg {X:List Nat} {h:Nat->AB} {id:Nat} (hid:s7 X (id+1000000)=true):∀{eff:List (Nat×AB)},nO X h eff=true->∀p∈eff,p.1=id->kc p.2=kc (h id)/\kc (h id)≠0:=by
 intro eff
 induction eff with
 | nil=>intro _ p hp;cases hp
 | cons q r ih=>
  intro hk p hp e
  obtain⟨i,b⟩:=q
  unfold nO at hk
  split at hk
  ·rename_i hi
   simp only[Bool.and_eq_true,Bool.not_eq_true'] at hk
   obtain⟨k1,k2,k3⟩:=hk
   rcases List.mem_cons.1 hp with rfl | hp
   ·simp only at e
    subst e
    exact⟨Nat.eq_of_beq_eq_true k1,fun e0=>by rw[e0] at k2;cases k2⟩
   exact ih k3 p hp e
  rename_i hi
  rcases List.mem_cons.1 hp with rfl | hp
  ·simp only at e
   subst e
   rw[hid] at hi
   cases hi
  exact ih hk p hp e
theorem DQ {X:List Nat} (hok:ig C ops=true) (H:∀(i:Nat) o,ops[i]?=some o->DStep C ap ops.toList o (st i) (r i) (st (i+1))) (DR:∀k,k < ops.size->nO X (st k).h (r k).eff=true) {B:Nat->AB} (hh:∀i,i<=ops.size->∀d,(fx ops r i d->(st i).h d=.none/\Hn B r (fun _=>true) i d=B d)/\(¬fx ops r i d->(st i).h d=Hn B r (fun _=>true) i d)) (E:Nat->Bool) {id i:Nat} (hid:s7 X (id+1000000)=true) (hi:i<=ops.size) (bG:(st i).h id≠.none):
  (kc (Hn B r E ops.size id)=kc ((st i).h id)/\kc ((st i).h id)≠0)\/Hn B r E ops.size id=(st i).h id:=by
 have NL:∀k,k<=ops.size->(st k).h id≠.none->(st k).h id=Hn B r (fun _=>true) k id:=fun k hk h=>by
  by_cases hp:fx ops r k id
  ·exact absurd ((hh k hk id).1 hp).1 h
  exact (hh k hk id).2 hp
 have NM:∀{b:AB},kc b≠0->b≠.none:=fun hb e=>by rw[e] at hb;exact hb rfl
 have spec:∀m,m < ops.size->∀p∈(r m).eff,p.1=id->kc p.2=kc (Hn B r (fun _=>true) m id)/\kc (Hn B r (fun _=>true) m id)≠0:=fun m hm p hp e=>by
  obtain⟨h1,h2⟩:=zg hid (DR m hm) p hp e
  rw[NL m (by omega) (NM h2)] at h1 h2
  exact⟨h1,h2⟩
 by_cases ht:∃k,k < ops.size/\∃p∈(r k).eff,p.1=id
 ·left
  have same:∀m,m<=ops.size->kc (Hn B r (fun _=>true) m id)=kc (B id):=by
   intro m
   induction m with
   | zero=>intro _;rfl
   | succ m ih=>
    intro hm
    have:=ih (by omega)
    show kc (app (Hn B r (fun _=>true) m) (r m).eff id)=_
    exact DP (fun p hp e=>(spec m (by omega) p hp e).1.trans this) this
  have any:∀m,m<=ops.size->kc (Hn B r E m id)=kc (B id):=by
   intro m
   induction m with
   | zero=>intro _;rfl
   | succ m ih=>
    intro hm
    simp only[Hn]
    cases E m with
    | false=>exact ih (by omega)
    | true=>exact DP (fun p hp e=>(spec m (by omega) p hp e).1.trans (same m (by omega))) (ih (by omega))
  obtain⟨k,hk,p,hp,e⟩:=ht
  have h0:=(spec k hk p hp e).2
  rw[same k (by omega)] at h0
  have hs:kc ((st i).h id)=kc (B id):=by rw[NL i hi bG];exact same i hi
  exact⟨by rw[any _ (Nat.le_refl _),hs],by rw[hs];exact h0⟩
 right
 have un:∀(F:Nat->Bool) m,m<=ops.size->Hn B r F m id=B id:=by
  intro F m
  induction m with
  | zero=>intro _;rfl
  | succ m ih=>
   intro hm
   simp only[Hn]
   cases F m with
   | false=>exact ih (by omega)
   | true=>
    show app (Hn B r F m) (r m).eff id=_
    rw[eS fun p Ny e=>ht ⟨m,by omega,p,Ny,e⟩]
    exact ih (by omega)
 rw[un E _ (Nat.le_refl _),NL i hi bG,un _ i hi]
theorem FL {A:bE} (hC:a8 A.C) (E6:ap=ops.toList.any fun o=>fR A.C o.op) (hok:ig A.C ops=true) (hd:∀o∈ops.toList,gw o A.n) (H:∀(i:Nat) o,ops[i]?=some o->DStep A.C ap ops.toList o (st i) (r i) (st (i+1))) (G:∀(i:Nat) o,ops[i]?=some o->rH A.C ap X (fC A.C ap ops) o (st i) (r i) i) {B:Nat->AB} (Cc:∀k d b,Cb ops r k d b->B d=b) (tU:∀d,¬fx ops r 0 d->B d=(st 0).h d) (h0:∀d,fx ops r 0 d->(st 0).h d=.none)
  {E:Nat->Bool} (hE:zc ops E) {i:Nat} {o:Oper} (ho:ops[i]?=some o) (hi:E i=false) (fA:∀e∈o.after,Region.binds .any e=true->E e.on=true) {S:Nat->Prop} {rho:Nat->Value} {a:Act} {w:World} (sim:bd A bA (LE ops r E) S rho ⟨TE ops st E,Hn B r E ops.size⟩ a w)
  {Q:Exit->Act->World->Prop} {next:Act->World->Prop} (hnext:∀S' rho' a' w',bd A bA (LE ops r fun k=>E k || bw k i) S' rho' ⟨TE ops st (fun k=>E k || bw k i),Hn B r (fun k=>E k || bw k i) ops.size⟩ a' w'->next a' w'):wpOp A.C.P ops Q i next a w:=by
 obtain⟨DS,hs,hp⟩:=gU hok
 rw[<-E6] at hp
 obtain⟨G6,KI⟩:=tT DS
 have nu:i < ops.size:=(Array.getElem?_eq_some_iff.1 ho).1
 have hh:=mY hok H Cc tU h0
 have D:=H i o ho
 have Kv:gw o A.n:=hd o (List.mem_of_getElem? (by simpa using ho))
 have bits:∀k,k < i->((Region.before ops).getD i 0).testBit k=true->E k=true:=KI E hE i o ho fA
 have later:∀(k:Nat) ok,ops[k]?=some ok->i < k->((Region.before ops).getD k 0).testBit i=true->E k=false:=by
  intro k ok hk JL NN
  rw[Bool.eq_false_iff]
  intro wY
  have:=KI E hE k ok hk (fun e he hb=>hE k ok hk wY e he hb) i JL NN
  rw[hi] at this
  cases this
 have tW:∀x,x∈o.looksAt ops->TE ops st E x=(st i).t x:=by
  intro x hx
  unfold TE
  split
  ·rename_i hv
   by_cases hw:∃(k:Nat) (ok:Oper),ops[k]?=some ok/\ok.dst=some x
   ·obtain⟨k,ok,hk,uW⟩:=hw
    have wR:=(Array.getElem?_eq_some_iff.1 hk).1
    rcases Nat.lt_trichotomy k i with h | h | h
    ·rw[zf hok H hk uW ops.size (by omega) (Nat.le_refl _),zf hok H hk uW i (by omega) (by omega)]
    ·subst h
     rw[ho] at hk
     injection hk with hk
     subst hk
     exact absurd hx (hs k o ho x uW)
    have h1:=later k ok hk h ((hp i k o ok h ho hk).war x uW hx)
    rw[hv k ok hk uW] at h1
    cases h1
   have bG:∀(k:Nat) o,ops[k]?=some o->o.dst≠some x:=fun k o hk e=>hw ⟨k,o,hk,e⟩
   rw[uV H bG ops.size (Nat.le_refl _),uV H bG i (by omega)]
  rename_i hv
  have hex:∃(k:Nat) (ok:Oper),ops[k]?=some ok/\ok.dst=some x/\E k=false:=Classical.byContradiction fun hn=>hv fun k ok hk uW=>by
   cases QA:E k with
   | true=>rfl
   | false=>exact absurd ⟨k,ok,hk,uW,QA⟩ hn
  obtain⟨k,ok,hk,uW,wY⟩:=hex
  rcases Nat.lt_trichotomy k i with h | h | h
  ·have:=bits k h ((hp k i ok o h hk ho).raw x uW hx)
   rw[wY] at this
   cases this
  ·subst h
   rw[ho] at hk
   injection hk with hk
   subst hk
   exact absurd hx (hs k o ho x uW)
  exact (Ca hok H hk uW i (by omega)).symm
 have G7:(cls A.C ap o.op=3\/(cls A.C ap o.op=2/\(fC A.C ap ops)[i]?=some true))->∀k,i < k->k < ops.size->E k=true->(r k).eff=[]:=by
  intro hc k JL wR wY
  have hk:ops[k]?=some ops[k]:=Array.getElem?_eq_getElem wR
  by_cases h3:cls A.C ap ops[k].op=3
  ·have:=later k _ hk JL (by
    rcases hc with hc | ⟨hc,hf⟩
    ·exact (hp i k o _ JL ho hk).w3 h3 hc
    exact (pc ho hf hc k _ hk h3).2 JL)
   rw[wY] at this
   cases this
  exact (H k _ hk).quiet h3
 have DT:∀k,k < ops.size->(r k).eff≠[]->cls A.C ap (ops[k]?.getD o).op=3:=by
  intro k hk bG
  have BD:ops[k]?=some ops[k]:=Array.getElem?_eq_getElem hk
  rw[BD]
  by_cases h3:cls A.C ap ops[k].op=3
  ·exact h3
  exact absurd ((H k _ BD).quiet h3) bG
 have DU:(cls A.C ap o.op=3\/(cls A.C ap o.op=2/\(fC A.C ap ops)[i]?=some true))->Hn B r E ops.size=Hn B r (fun _=>true) i:=by
  intro hc
  refine G4 i ops.size (fun k wR=>?_) (by omega)
  have hk:ops[k]?=some ops[k]:=Array.getElem?_eq_getElem wR
  by_cases bG:(r k).eff=[]
  ·exact .inr bG
  have h3:=DT k wR bG
  rw[hk] at h3
  have h3:cls A.C ap ops[k].op=3:=h3
  refine .inl ⟨fun wY=>?_,fun dS=>?_⟩
  ·rcases Nat.lt_trichotomy k i with h | h | h
   ·exact h
   ·subst h;rw[hi] at wY;cases wY
   exact absurd (G7 hc k h wR wY) bG
  rcases hc with hc | ⟨hc,hf⟩
  ·exact bits k dS ((hp k i _ o dS hk ho).w3 hc h3)
  exact bits k dS ((pc ho hf hc k _ hk h3).1 dS)
 have NO:cls A.C ap o.op=2->FI o.op=false->∀id,s7 X id=true->Hn B r E ops.size id=Hn B r (fun _=>true) i id:=fun hc hth id hid=>by
  refine KG i ops.size (fun k wR=>?_) (by omega)
  have hk:ops[k]?=some ops[k]:=Array.getElem?_eq_getElem wR
  by_cases bG:∀p∈(r k).eff,p.1≠id
  ·exact .inr bG
  have BR:(r k).eff≠[]:=fun e=>bG (by rw[e];simp)
  have h3:cls A.C ap ops[k].op=3:=by have:=DT k wR BR;rw[hk] at this;exact this
  have NP:(r k).run=true:=by
   cases hr:(r k).run with
   | true=>rfl
   | false=>exact absurd ((H k _ hk).not hr).2.1 BR
  have hf:(fC A.C ap ops)[k]?=some true:=by
   rcases (G k _ hk NP).2.1 with h | h
   ·exact h
   exact absurd (fun p hp e=>by have:=wT h p hp;rw[e,hid] at this;cases this) bG
  have ord:=rI hk hf h3 i o ho hc hth
  refine .inl ⟨fun wY=>?_,fun dS=>?_⟩
  ·rcases Nat.lt_trichotomy k i with h | h | h
   ·exact h
   ·subst h;rw[hi] at wY;cases wY
   have:=later k _ hk h (ord.1 h)
   rw[wY] at this
   cases this
  exact bits k dS (ord.2 dS)
 have ext:∀id,(st i).h id=.none\/Hn B r (fun _=>true) i id=(st i).h id:=by
  intro id
  by_cases tV:fx ops r i id
  ·exact .inl ((hh i (by omega) id).1 tV).1
  exact .inr ((hh i (by omega) id).2 tV).symm
 have Pj:(r i).run=true->aY A.C o (ev (TE ops st E)) (Hn B r E ops.size) fun v e n=>v=(r i).v/\e=(r i).eff/\n=(r i).new:=by
  intro hrun
  have h1:=D.ran hrun
  have h2:aY A.C o (ev (TE ops st E)) (st i).h fun v e n=>v=(r i).v/\e=(r i).eff/\n=(r i).new:=by
   refine lQ (fun x hx=>?_) h1
   cases x with
   | tmp t=>
    exact (tW t (List.mem_append_left _ (List.mem_filterMap.2 ⟨.tmp t,by simpa using hx,rfl⟩))).symm
   | const v=>rfl
   | global g=>rfl
   | func f=>rfl
  have four:cls A.C ap o.op=0\/cls A.C ap o.op=1\/cls A.C ap o.op=2\/cls A.C ap o.op=3:=by
   have:=DL A.C ap o.op
   omega
  rcases four with h | h | h | h
  ·exact Ik h h2
  ·have KJ:ap=false:=by
    cases NQ:ap with
    | false=>rfl
    | true=>
     rw[NQ] at h
     exact absurd h (DM A.C o.op)
   refine Il h (fun id ht=>?_) h2
   have G8:=rJ hok H KJ Cc tU h0 E ops.size (Nat.le_refl _) id
   have KL:=rJ hok H KJ Cc tU h0 (fun _=>true) i (by omega) id
   have heq:(st i).h id=Hn B r (fun _=>true) i id:=by
    rcases ext id with e | e
    ·rw[e] at ht;exact ht.elim
    exact e.symm
   rw[<-heq] at KL
   rcases KL with e | ⟨e,es,bW,e1,e2⟩ | ⟨cs,iH,e1,e2⟩ | ⟨m,es,m',bW,e1,e2⟩
   ·rw[<-e] at G8
    rcases G8 with f | ⟨f,fs,Is,f1,f2⟩ | ⟨cs,iH,f1,f2⟩ | ⟨m,es,m',bW,f1,f2⟩
    ·rw[f];exact⟨ht,fun e es h=>⟨es,h⟩,fun cs h=>⟨cs,h⟩,fun cs h=>⟨cs,h⟩,fun e es h=>⟨es,h⟩⟩
    ·rw[f1,f2];exact⟨trivial,fun e es h=>(by injection h with h1 h2;subst h1;exact⟨Is,rfl⟩),fun cs h=>(by cases h),fun cs h=>(by cases h),fun _ _ h=>by cases h⟩
    ·rw[f1,f2];exact⟨trivial,fun e es h=>by (cases h),fun cs h=>⟨iH,rfl⟩,fun cs h=>(by cases h),fun _ _ h=>by cases h⟩
    rw[f1,f2];exact⟨trivial,fun e es h=>by (cases h),fun cs h=>by (cases h),fun cs h=>(by cases h),fun _ _ h=>by cases h⟩
   ·rw[e1] at G8
    rw[e2]
    rcases G8 with f | ⟨f,fs,Is,f1,f2⟩ | ⟨cs,iH,f1,f2⟩ | ⟨m,es,m',bW,f1,f2⟩
    ·rw[f];exact⟨trivial,fun e es h=>(by injection h with h1 h2;subst h1;exact⟨_,rfl⟩),fun cs h=>by (cases h),fun cs h=>(by cases h),fun _ _ h=>by cases h⟩
    ·injection f1 with f1 _;subst f1
     rw[f2];exact⟨trivial,fun e es h=>(by injection h with h1 h2;subst h1;exact⟨_,rfl⟩),fun cs h=>by (cases h),fun cs h=>(by cases h),fun _ _ h=>by cases h⟩
    ·cases f1
    cases f1
   ·rw[e1] at G8
    rw[e2]
    rcases G8 with f | ⟨f,fs,Is,f1,f2⟩ | ⟨ds,NJ,f1,f2⟩ | ⟨m,es,m',bW,f1,f2⟩
    ·rw[f];exact⟨trivial,fun e es h=>by (cases h),fun cs h=>⟨_,rfl⟩,fun cs h=>(by cases h),fun _ _ h=>by cases h⟩
    ·cases f1
    ·rw[f2];exact⟨trivial,fun e es h=>by (cases h),fun cs h=>⟨_,rfl⟩,fun cs h=>(by cases h),fun _ _ h=>by cases h⟩
    cases f1
   rw[e1] at G8
   rw[e2]
   rcases G8 with f | ⟨f,fs,Is,f1,f2⟩ | ⟨ds,NJ,f1,f2⟩ | ⟨m,es,m',bW,f1,f2⟩
   ·rw[f];exact⟨trivial,fun e es h=>by (cases h),fun cs h=>by (cases h),fun cs h=>(by cases h),fun _ _ h=>by cases h⟩
   ·cases f1
   ·cases f1
   rw[f2];exact⟨trivial,fun e es h=>by (cases h),fun cs h=>by (cases h),fun cs h=>(by cases h),fun _ _ h=>by cases h⟩
  ·rcases (G i o ho hrun).1 with hf | hpv | hfp | hth | h3
   case inr.inr.inr.inr=>rw[h] at h3;cases h3
   case inr.inr.inr.inl=>
    have DR:∀k,k < ops.size->nO X (st k).h (r k).eff=true:=fun k wR=>by
     have hk:ops[k]?=some ops[k]:=Array.getElem?_eq_getElem wR
     cases hr:(r k).run with
     | true=>exact (G k _ hk hr).2.2
     | false=>rw[((H k _ hk).not hr).2.1];rfl
    refine lQ (fun x hx=>?_) (Iq (h':=Hn B r E ops.size) (fun id hid bG=>DQ hok H DR hh E hid (by omega) bG) hth h1)
    cases x with
    | tmp t=>
     exact (tW t (List.mem_append_left _ (List.mem_filterMap.2 ⟨.tmp t,by simpa using hx,rfl⟩))).symm
    | const v=>rfl
    | global g=>rfl
    | func f=>rfl
   case inr.inr.inl=>
    refine lQ (fun x hx=>?_) (Ip (h':=Hn B r E ops.size) (fun id hid=>?_) hfp h1)
    ·cases x with
     | tmp t=>
      exact (tW t (List.mem_append_left _ (List.mem_filterMap.2 ⟨.tmp t,by simpa using hx,rfl⟩))).symm
     | const v=>rfl
     | global g=>rfl
     | func f=>rfl
    rw[NO h (AO hfp) id hid]
    exact ext id
   case inr.inl=>
    refine lQ (fun x hx=>?_) (Im hpv h1)
    cases x with
    | tmp t=>
     exact (tW t (List.mem_append_left _ (List.mem_filterMap.2 ⟨.tmp t,by simpa using hx,rfl⟩))).symm
    | const v=>rfl
    | global g=>rfl
    | func f=>rfl
   rw[DU (.inr ⟨h,hf⟩)]
   obtain⟨v,e,n,⟨rfl,rfl,rfl⟩,h4⟩:=lJ ext h2
   exact h4 _ ⟨rfl,rfl,rfl⟩
  rw[DU (.inl h)]
  obtain⟨v,e,n,⟨rfl,rfl,rfl⟩,h4⟩:=lJ ext h2
  exact h4 _ ⟨rfl,rfl,rfl⟩
 have G9:∀x,o.dst≠some x->(VE ops (fun k=>E k || bw k i) x↔VE ops E x):=by
  intro x hx
  refine⟨fun hv k ok hk uW=>?_,fun hv k ok hk uW=>by simp[hv k ok hk uW]⟩
  have:=hv k ok hk uW
  simp only[Bool.or_eq_true] at this
  rcases this with h | h
  ·exact h
  have:=aL.1 h
  subst this
  rw[ho] at hk
  injection hk with hk
  subst hk
  exact absurd uW hx
 have KM:∀v,v=(r i).v->cQ (TE ops st E) o.dst v=TE ops st (fun k=>E k || bw k i):=by
  intro v hv
  funext x
  have other:o.dst≠some x->TE ops st E x=TE ops st (fun k=>E k || bw k i) x:=fun hx=>by
   unfold TE
   by_cases Mk:VE ops E x
   ·rw[if_pos Mk,if_pos ((G9 x hx).2 Mk)]
   rw[if_neg Mk,if_neg fun h=>Mk ((G9 x hx).1 h)]
  cases gH:o.dst with
  | none=>exact other (by rw[gH];intro h;cases h)
  | some d=>
   show aA _ _ _ _=_
   by_cases e:x=d
   ·subst e
    rw[ar]
    unfold TE
    rw[if_pos,zf hok H ho gH ops.size (by omega) (Nat.le_refl _),hv]
    intro k ok hk uW
    have:k=i:=by
     rcases Nat.lt_trichotomy k i with h5 | h5 | h5
     ·exact absurd gH ((hp k i ok o h5 hk ho).dst x uW)
     ·exact h5
     exact absurd uW ((hp i k o ok h5 ho hk).dst x gH)
    simp[this,aL.2]
   rw[aE _ _ e]
   exact other fun h=>e (by rw[gH] at h;injection h with h;exact h.symm)
 unfold wpOp
 simp only[ho]
 by_cases hrun:(r i).run=true
 ·have rD:Region.wanted o (yielded ops a.tmps)=true:=by
   have hg:=D.guard
   unfold Region.wanted
   split at hg
   ·rename_i h;rw[h]
   rename_i g want h
   rw[h]
   obtain⟨og,tg,b,k1,k2,k3,k4⟩:=hg
   have DV:tg∈o.looksAt ops:=List.mem_append_right _ (by rw[h];simp[show ops[g]?=some og by simpa using k1,k2])
   have:=jK sim (ops:=ops) (g:=g) (by simpa using k1) k2 trivial (by show TE ops st E tg=_;rw[tW tg DV];exact k3)
   simp only[this]
   rw[hrun] at k4
   exact k4.symm
  rw[if_pos rD]
  refine .inl (Ds A o _ _ _ _ _ _ _ _ next Q hC sim (fun _ _=>trivial) Kv (Pj hrun) (fun v eff b hk=>?_) fun v eff new S' rho' a' w' hk bc=>?_)
  ·obtain⟨_,_,JM⟩:=hk
   obtain⟨d,gH⟩:∃d,o.dst=some d:=by
    have:=D.ndst
    rw[<-JM] at this
    cases qz:o.dst with
    | none=>rw[qz] at this;cases this
    | some d=>exact⟨d,rfl⟩
   have s8:Cb ops r i d b:=⟨o,ho,gH,JM.symm⟩
   rw[gH]
   refine⟨fun hL=>(by have:=hL i b s8;rw[hi] at this;cases this),?_⟩
   show Hn B r E ops.size d=b
   have tV:fx ops r i d:=⟨i,b,Nat.le_refl _,s8⟩
   have bG:∀k,k < ops.size->E k=true->∀p∈(r k).eff,p.1≠d:=by
    intro k wR wY p G5 e
    have hk:ops[k]?=some ops[k]:=Array.getElem?_eq_getElem wR
    have ht:=fX (H k _ hk).there p G5
    rcases Nat.lt_trichotomy k i with h | h | h
    ·have FM:fx ops r k d:=⟨i,b,by omega,s8⟩
     rw[e,((hh k (by omega) d).1 FM).1] at ht
     exact ht
    ·subst h;rw[hi] at wY;cases wY
    have h3:cls A.C ap ops[k].op=3:=by
     by_cases h3:cls A.C ap ops[k].op=3
     ·exact h3
     have:=(H k _ hk).quiet h3;rw[this] at G5;cases G5
    have hmk:cls A.C ap o.op=3\/cls A.C ap o.op=2:=FK (ap:=ap) (Pj hrun) JM
    have:=later k _ hk h (by
     rcases hmk with hmk | hmk
     ·exact (hp i k o _ h ho hk).w3 h3 hmk
     rcases (G i o ho hrun).1 with hf | hpv | hfp | hth | h3'
     ·exact (pc ho hf hmk k _ hk h3).2 h
     ·have:=y8 hpv (D.ran hrun)
      rw[<-JM] at this
      cases this
     ·rcases y9 hfp (D.ran hrun) with BQ | hdX
      ·rw[<-JM] at BQ
       cases BQ
      rw[gH] at hdX
      have hdX:s7 X d=true:=hdX
      have BR:(r k).eff≠[]:=fun e=>by rw[e] at G5;cases G5
      have NP:(r k).run=true:=by
       cases hr:(r k).run with
       | true=>rfl
       | false=>exact absurd ((H k _ hk).not hr).2.1 BR
      have hf:(fC A.C ap ops)[k]?=some true:=by
       rcases (G k _ hk NP).2.1 with h | h
       ·exact h
       have:=wT h p G5
       rw[e,hdX] at this
       cases this
      exact (rI hk hf h3 i o ho hmk (AO hfp)).1 h
     ·have:=y_ hth (D.ran hrun)
      rw[<-JM] at this
      cases this
     rw[hmk] at h3';cases h3')
    rw[wY] at this
    cases this
   have:∀m,m<=ops.size->Hn B r E m d=B d:=by
    intro m
    induction m with
    | zero=>intro _;rfl
    | succ m ih=>
     intro hm
     simp only[Hn]
     cases QB:E m with
     | false=>exact ih (by omega)
     | true=>
      show app (Hn B r E m) (r m).eff d=_
      rw[eS (bG m (by omega) QB)]
      exact ih (by omega)
   rw[this ops.size (Nat.le_refl _),Cc i d b s8]
  obtain⟨e1,e2,e3⟩:=hk
  refine hnext S' rho' a' w' ?_
  have hH:app (Hn B r E ops.size) eff=Hn B r (fun k=>E k || bw k i) ops.size:=by
   rw[e2]
   by_cases bG:(r i).eff=[]
   ·rw[bG]
    show Hn B r E ops.size=_
    have:∀m,Hn B r (fun k=>E k || bw k i) m=Hn B r E m:=by
     intro m
     induction m with
     | zero=>rfl
     | succ m ih=>
      simp only[Hn]
      rw[ih]
      by_cases e:m=i
      ·subst e;rw[hi,aL.2 rfl,bG];rfl
      have:bw m i=false:=by rw[Bool.eq_false_iff];intro h;exact e (aL.1 h)
      rw[this,Bool.or_false]
    exact (this _).symm
   have h3:cls A.C ap o.op=3:=by
    by_cases h3:cls A.C ap o.op=3
    ·exact h3
    exact absurd (D.quiet h3) bG
   exact (Ir hi ops.size (G7 (.inl h3)) nu).symm
  have aP:=bc
  rw[KM v e1] at aP
  have dR:bd A (sX bA o.dst) (wx (LE ops r E) new (o.dst.getD 0)) S' rho' ⟨TE ops st (fun k=>E k || bw k i),Hn B r (fun k=>E k || bw k i) ops.size⟩ a' w':=by rw[<-hH];exact aP
  refine dR.mq (fun _ _=>.inl trivial) fun d=>?_
  cases KN:new with
  | none=>
   refine⟨fun h k b s8=>?_,fun h k b s8=>by simp[h k b s8]⟩
   have:=h k b s8
   simp only[Bool.or_eq_true] at this
   rcases this with h | h
   ·exact h
   have:=aL.1 h
   subst this
   obtain⟨o',h1,h2,h4⟩:=s8
   rw[<-e3,KN] at h4
   cases h4
  | some b=>
   obtain⟨d',gH⟩:∃d,o.dst=some d:=by
    have:=D.ndst
    rw[<-e3,KN] at this
    cases qz:o.dst with
    | none=>rw[qz] at this;cases this
    | some d=>exact⟨d,rfl⟩
   rw[gH]
   show _↔(LE ops r E d\/d=d')
   refine⟨fun h=>?_,fun h k b' s8=>?_⟩
   ·by_cases e:d=d'
    ·exact .inr e
    refine .inl fun k b' s8=>?_
    have:=h k b' s8
    simp only[Bool.or_eq_true] at this
    rcases this with h | h
    ·exact h
    have:=aL.1 h
    subst this
    obtain⟨o',h1,h2,h4⟩:=s8
    rw[ho] at h1
    injection h1 with h1
    rw[<-h1,gH] at h2
    injection h2 with h2
    exact absurd h2.symm e
   rcases h with h | h
   ·simp[h k b' s8]
   obtain⟨o',h1,h2,h4⟩:=s8
   have:k=i:=by
    rcases Nat.lt_trichotomy k i with h5 | h5 | h5
    ·exact absurd (by rw[gH,h]) ((hp k i o' o h5 h1 ho).dst d h2)
    ·exact h5
    exact absurd (by rw[h2,h]) ((hp i k o o' h5 ho h1).dst d' gH)
   simp[this,aL.2]
 have DW:(r i).run=false:=by simpa using hrun
 obtain⟨n1,n2,n3⟩:=D.not DW
 have rD:Region.wanted o (yielded ops a.tmps)=false:=by
  have hg:=D.guard
  unfold Region.wanted
  split at hg
  ·rw[DW] at hg;cases hg
  rename_i g want h
  rw[h]
  obtain⟨og,tg,b,k1,k2,k3,k4⟩:=hg
  have DV:tg∈o.looksAt ops:=List.mem_append_right _ (by rw[h];simp[show ops[g]?=some og by simpa using k1,k2])
  have:=jK sim (ops:=ops) (g:=g) (by simpa using k1) k2 trivial (by show TE ops st E tg=_;rw[tW tg DV];exact k3)
  simp only[this]
  rw[DW] at k4
  exact k4.symm
 rw[if_neg (by rw[rD];decide)]
 refine hnext S rho _ _ ?_
 have aP:=sim.value o.dst Kv gI undef (.p _ _ (.im _))
 rw[KM gI n1.symm] at aP
 have hH:Hn B r (fun k=>E k || bw k i) ops.size=Hn B r E ops.size:=by
  have:∀m,Hn B r (fun k=>E k || bw k i) m=Hn B r E m:=by
   intro m
   induction m with
   | zero=>rfl
   | succ m ih=>
    simp only[Hn]
    rw[ih]
    by_cases e:m=i
    ·subst e;rw[hi,aL.2 rfl,n2];rfl
    have:bw m i=false:=by rw[Bool.eq_false_iff];intro h;exact e (aL.1 h)
    rw[this,Bool.or_false]
  exact this _
 rw[hH]
 refine aP.mq (fun _ _=>.inl trivial) fun d=>⟨fun h k b s8=>?_,fun h k b s8=>by simp[h k b s8]⟩
 have:=h k b s8
 simp only[Bool.or_eq_true] at this
 rcases this with h | h
 ·exact h
 have:=aL.1 h
 subst this
 obtain⟨o',h1,h2,h4⟩:=s8
 rw[n3] at h4
 cases h4
theorem filter_lt {p q:Nat->Bool} (NR:∀x,q x=true->p x=true) {i:Nat} (hp:p i=true) (hq:q i=false):∀(l:List Nat),(l.filter q).length<=(l.filter p).length/\(i∈l->(l.filter q).length < (l.filter p).length):=by
 intro l
 induction l with
 | nil=>exact⟨Nat.le_refl _,fun h=>by cases h⟩
 | cons x l ih=>
  simp only[List.filter_cons]
  refine⟨?_,fun h=>?_⟩
  ·cases NS:q x with
   | true=>rw[NR x NS];simp;exact ih.1
   | false=>cases p x <;> simp <;> have:=ih.1 <;> omega
  rcases List.mem_cons.1 h with e | e
  ·subst e;rw[hp,hq];simp;have:=ih.1;omega
  have:=ih.2 e
  cases NS:q x with
  | true=>rw[NR x NS];simp;exact this
  | false=>cases p x <;> simp <;> omega
theorem FN {A:bE} (hC:a8 A.C) (E6:ap=ops.toList.any fun o=>fR A.C o.op) (hok:ig A.C ops=true) (hd:∀o∈ops.toList,gw o A.n) (H:∀(i:Nat) o,ops[i]?=some o->DStep A.C ap ops.toList o (st i) (r i) (st (i+1))) (G:∀(i:Nat) o,ops[i]?=some o->rH A.C ap X (fC A.C ap ops) o (st i) (r i) i) {B:Nat->AB} (Cc:∀k d b,Cb ops r k d b->B d=b) (tU:∀d,¬fx ops r 0 d->B d=(st 0).h d) (h0:∀d,fx ops r 0 d->(st 0).h d=.none)
  {Q:Exit->Act->World->Prop} (hQ:∀S rho a w,bd A bA bA S rho (st ops.size) a w->Q .normal a w):
  ∀(fuel:Nat) (listed:Array Bool) (S:Nat->Prop) (rho:Nat->Value) (a:Act) (w:World),listed.size=ops.size->zc ops (fun i=>listed.getD i false)->((List.range ops.size).filter fun i=>!listed.getD i false).length<=fuel ->
   bd A bA (LE ops r fun i=>listed.getD i false) S rho ⟨TE ops st (fun i=>listed.getD i false),Hn B r (fun i=>listed.getD i false) ops.size⟩ a w->wpAny A.C.P .any ops Q fuel listed a w:=by
 obtain⟨DS,hs,hp⟩:=gU hok
 obtain⟨G6,_⟩:=tT DS
 have hh:=mY hok H Cc tU h0
 have fin:∀(listed:Array Bool) (S:Nat->Prop) (rho:Nat->Value) (a:Act) (w:World),listed.size=ops.size->Region.ready .any ops listed=[]->bd A bA (LE ops r fun i=>listed.getD i false) S rho ⟨TE ops st (fun i=>listed.getD i false),Hn B r (fun i=>listed.getD i false) ops.size⟩ a w->Q .normal a w:=by
  intro listed S rho a w hsz hr sim
  have all:∀i,i < ops.size->listed.getD i false=true:=by
   intro i
   induction i using Nat.strongRecOn with
   | _ i ih=>
    intro hi
    have ho:ops[i]?=some ops[i]:=Array.getElem?_eq_getElem hi
    cases hl:listed.getD i false with
    | true=>rfl
    | false=>
     have:i∈Region.ready .any ops listed:=mem_ready.2 ⟨getD_in (by omega) hl,_,ho,fun e he hb=>by
      have h1:=G6 i _ ho e he hb
      exact ih e.on h1 (by omega)⟩
     rw[hr] at this
     cases this
  refine hQ S rho a w ?_
  have hH:Hn B r (fun i=>listed.getD i false) ops.size=(st ops.size).h:=by
   rw[G4 ops.size ops.size (fun k hk=>.inl ⟨fun _=>hk,fun _=>all k hk⟩) (Nat.le_refl _)]
   funext d
   refine ((hh ops.size (Nat.le_refl _) d).2 fun ⟨k,b,h1,o,h2,_⟩=>?_).symm
   have:=(Array.getElem?_eq_some_iff.1 h2).1
   omega
  have hT:TE ops st (fun i=>listed.getD i false)=(st ops.size).t:=funext fun x=>if_pos fun k o hk _=>all k (Array.getElem?_eq_some_iff.1 hk).1
  rw[hH,hT] at sim
  refine sim.mq (fun _ _=>trivial) fun d=>⟨fun _ k b hc=>?_,fun _=>trivial⟩
  obtain⟨o,h2,_⟩:=hc
  exact all k (Array.getElem?_eq_some_iff.1 h2).1
 intro fuel
 induction fuel with
 | zero=>
  intro listed S rho a w hsz hcl KO sim
  have hr:Region.ready .any ops listed=[]:=by
   rw[List.eq_nil_iff_forall_not_mem]
   intro i hi
   obtain⟨h1,o,ho,_⟩:=mem_ready.1 hi
   have dS:=(Array.getElem?_eq_some_iff.1 ho).1
   have hm:i∈(List.range ops.size).filter fun i=>!listed.getD i false:=List.mem_filter.2 ⟨List.mem_range.2 dS,by rw[getD_both h1];rfl⟩
   have:=List.eq_nil_of_length_eq_zero (Nat.le_zero.1 KO)
   rw[this] at hm
   cases hm
  exact⟨hr,fin listed S rho a w hsz hr sim⟩
 | succ fuel ih=>
  intro listed S rho a w hsz hcl KO sim
  refine⟨fun hr=>fin listed S rho a w hsz hr sim,fun i hi=>?_⟩
  obtain⟨h1,o,ho,fA⟩:=mem_ready.1 hi
  have dS:=(Array.getElem?_eq_some_iff.1 ho).1
  have Pk:listed.getD i false=false:=getD_both h1
  have zh:(fun k=>(listed.setIfInBounds i true).getD k false)=fun k=>listed.getD k false || bw k i:=by
   funext k
   by_cases e:i=k
   ·subst e
    rw[aL.2 rfl,Bool.or_true]
    simp[hsz,dS]
   rw[getD_set_ne false e]
   have:bw k i=false:=by rw[Bool.eq_false_iff];intro h;exact e (aL.1 h).symm
   rw[this,Bool.or_false]
  refine FL hC E6 hok hd H G Cc tU h0 (E:=fun i=>listed.getD i false) hcl ho Pk fA sim fun S' rho' a' w' bc=>?_
  refine ih (listed.setIfInBounds i true) S' rho' a' w' (by simp[hsz]) ?_ ?_ ?_
  ·rw[zh]
   intro j oj hj Pm e he hb
   simp only[Bool.or_eq_true] at Pm ⊢
   rcases Pm with h | h
   ·exact .inl (hcl j oj hj h e he hb)
   have:=aL.1 h
   subst this
   rw[ho] at hj
   injection hj with hj
   subst hj
   exact .inl (fA e he hb)
  ·have G_:∀k,(listed.setIfInBounds i true).getD k false=(listed.getD k false || bw k i):=fun k=>congrFun zh k
   have:=(filter_lt (p:=fun k=>!listed.getD k false) (q:=fun k=>!(listed.setIfInBounds i true).getD k false) (fun x hx=>by
    rw[G_ x] at hx
    cases hl:listed.getD x false with
    | true=>rw[hl] at hx;cases hx
    | false=>rfl) (i:=i) (by rw[Pk];rfl) (by rw[G_ i,aL.2 rfl,Bool.or_true];rfl) (List.range ops.size)).2 (List.mem_range.2 dS)
   omega
  rw[zh];exact bc
end
def HX.fL:List HX->List AV
 | []=>[]
 | .av x::r=>x::HX.fL r
 | .row _ _::r=>HX.fL r
theorem HX.uX (f:AV->AV):∀(r:List HX),HX.fL (r.map (HX.eO f))=(HX.fL r).map f
 | []=>rfl
 | .av x::r=>by simp[HX.fL,HX.eO,HX.uX f r]
 | .row _ _::r=>by simp[HX.fL,HX.eO,HX.uX f r]
theorem HX.uY {x:AV}:∀{r:List HX},.av x∈r->x∈HX.fL r
 | .av y::r,h=>by
  rcases List.mem_cons.1 h with h | h
  ·injection h with h;subst h;simp[HX.fL]
  simp[HX.fL,HX.uY h]
 | .row _ _::r,h=>by
  rcases List.mem_cons.1 h with h | h
  ·cases h
  simp[HX.fL,HX.uY h]
def uZ:AB->List AV
 | .box cs=>cs
 | .fv _ cs=>cs
 | .an _ es=>es.flatMap HX.fL
 | _=>[]
theorem rK (d:Nat) (b:AB):uZ (qM d b)=(uZ b).map (sc d):=by
 cases b with
 | an e es=>
  show (es.map fun r=>r.map (HX.eO (sc d))).flatMap HX.fL=(es.flatMap HX.fL).map (sc d)
  induction es with
  | nil=>rfl
  | cons r es ih=>simp only[List.map_cons,List.flatMap_cons,List.map_append,ih,HX.uX]
 | _=>rfl
def p8 (d:Nat) (s:AS):Prop:=s.h d=.none/\(∀j,mE d (s.t j)=false)/\∀k,∀x∈uZ (s.h k),mE d x=false
theorem DX (d:Nat) (x:AV):mE d (sc d x)=false:=by
 rw[Du]
 split
 ·rfl
 assumption
theorem AP {d d':Nat} {x:AV} (h:mE d x=false):mE d (sc d' x)=false:=by
 rw[Du]
 split
 ·rfl
 exact h
theorem AQ (d:Nat) (s:AS) (k:Nat):(k=d/\(fw d s).h k=.none)\/(k≠d/\(fw d s).h k=qM d (s.h k)):=by
 by_cases e:k=d
 ·subst e;exact .inl ⟨rfl,by show aA (fun k'=>qM k (s.h k')) k AB.none k=_;rw[ar]⟩
 exact .inr ⟨e,by show aA (fun k'=>qM d (s.h k')) d AB.none k=_;rw[aE _ _ e]⟩
theorem tX (d:Nat) (s:AS):p8 d (fw d s):=by
 refine⟨by rcases AQ d s d with⟨_,h⟩ | ⟨h,_⟩;exact h;exact absurd rfl h,fun j=>DX d _,fun k x hx=>?_⟩
 rcases AQ d s k with⟨_,h⟩ | ⟨_,h⟩
 ·rw[h] at hx;cases hx
 rw[h,rK] at hx
 obtain⟨y,_,rfl⟩:=List.mem_map.1 hx
 exact DX d y
theorem zj {d:Nat} {s:AS} (d':Nat) (hn:p8 d s):p8 d (fw d' s):=by
 obtain⟨h1,h2,h3⟩:=hn
 refine⟨?_,fun j=>AP (h2 j),fun k x hx=>?_⟩
 ·rcases AQ d' s d with⟨_,h⟩ | ⟨_,h⟩
  ·exact h
  rw[h,h1];rfl
 rcases AQ d' s k with⟨_,h⟩ | ⟨_,h⟩
 ·rw[h] at hx;cases hx
 rw[h,rK] at hx
 obtain⟨y,hy,rfl⟩:=List.mem_map.1 hx
 exact AP (h3 k y hy)
def nR:List Oper->AS->AS
 | [],s=>s
 | o::r,s=>match ia o.op with
  | true=>nR r (fw (o.dst.getD 0) s)
  | false=>nR r s
theorem zk:∀(l:List Oper) (s:AS),(∀d,p8 d s->p8 d (nR l s))/\∀o∈l,ia o.op=true->p8 (o.dst.getD 0) (nR l s):=by
 intro l
 induction l with
 | nil=>intro s;exact⟨fun _ h=>h,fun o h=>by cases h⟩
 | cons o l ih=>
  intro s
  unfold nR
  split
  ·rename_i hm
   refine⟨fun d hd=>(ih _).1 d (zj _ hd),fun o' E5 Ap=>?_⟩
   rcases List.mem_cons.1 E5 with e | e
   ·subst e;exact (ih _).1 _ (tX _ _)
   exact (ih _).2 o' e Ap
  rename_i hm
  refine⟨fun d hd=>(ih _).1 d hd,fun o' E5 Ap=>?_⟩
  rcases List.mem_cons.1 E5 with e | e
  ·subst e;rw[Ap] at hm;cases hm
  exact (ih _).2 o' e Ap
theorem bd.fw {A:bE} {S:Nat->Prop} {rho:Nat->Value} {s:AS} {a:Act} {w:World} (sim:bd A bA bA S rho s a w) (d:Nat):bd A bA bA S rho (fw d s) a w:=by
 have h1:=sim.free d .none
 have hn:(AM.fw d s).h d=.none:=(tX d s).1
 rw[dp _ _ _ hn] at h1
 exact h1.AL d hn
theorem bd.pre {A:bE} {S:Nat->Prop} {rho:Nat->Value} {a:Act} {w:World}:∀(l:List Oper) (s:AS),bd A bA bA S rho s a w->bd A bA bA S rho (nR l s) a w:=by
 intro l
 induction l with
 | nil=>intro s sim;exact sim
 | cons o l ih=>
  intro s sim
  unfold nR
  split
  ·exact ih _ (sim.fw _)
  exact ih _ sim
def eZ (o:Oper) (s:AS):AS:=match o.op,o.dst with
 | .assign _,some d=>match s.t d with
  | .ow i=>match s.h i with
   | .row _ _=>match bw i d with
    | true=>s
    | false=>iJ i d s
   | .an _ _=>match bw i d with
    | true=>s
    | false=>iJ i d s
   | _=>s
  | _=>s
 | _,_=>s
def nS:List Oper->AS->AS
 | [],s=>s
 | o::r,s=>nS r (eZ o s)
theorem bd.post {A:bE} {S:Nat->Prop} {a:Act} {w:World}:∀(l:List Oper) (rho:Nat->Value) (s:AS),(∀o∈l,gw o A.n)->bd A bA bA S rho s a w->∃rho',bd A bA bA S rho' (nS l s) a w:=by
 intro l
 induction l with
 | nil=>intro rho s _ sim;exact⟨rho,sim⟩
 | cons o l ih=>
  intro rho s hd sim
  have qz:∀o∈l,gw o A.n:=fun o' E5=>hd o' (by simp[E5])
  have:∃rho',bd A bA bA S rho' (eZ o s) a w:=by
   unfold eZ
   split
   ·rename_i d _ gH
    split
    ·split
     ·split
      ·exact⟨rho,sim⟩
      rename_i bG
      refine⟨_,sim.rename _ d (fun e=>?_) (Nat.lt_of_lt_of_le (hd o (by simp) d gH) sim.nb)⟩
      rw[aL.2 e] at bG
      cases bG
     ·split
      ·exact⟨rho,sim⟩
      rename_i bG
      refine⟨_,sim.rename _ d (fun e=>?_) (Nat.lt_of_lt_of_le (hd o (by simp) d gH) sim.nb)⟩
      rw[aL.2 e] at bG
      cases bG
     exact⟨rho,sim⟩
    exact⟨rho,sim⟩
   exact⟨rho,sim⟩
  obtain⟨rho',bc⟩:=this
  exact ih rho' _ qz bc
theorem mZ {d:Nat} {c:AV}:∀{xs:List AV},c∈xs->mE d c=true->dX d xs=true:=by
 intro xs
 induction xs with
 | nil=>intro h;cases h
 | cons x xs ih=>
  intro h hm
  simp only[dX,Bool.or_eq_true]
  rcases List.mem_cons.1 h with e | e
  ·subst e;exact .inl hm
  exact .inr (ih e hm)
theorem aI.loc {S:Nat->Prop} {w:World} {P:Program} {L':Nat->Prop} {rho:Nat->Value} {h h':Nat->AB} {x:AV} {v:Value} (hx:aI S w P bA rho h x v) (hm:∀k,mE k x=true->h' k=h k/\L' k):aI S w P L' rho h' x v:=by
 induction hx with
 | p x v hx=>exact .p x v hx
 | nl=>exact .nl
 | ow k v hv=>obtain⟨h1,h2⟩:=hm k (by simp only[mE];exact aL.2 rfl);exact .ow k v fun ht=>⟨h2,(hv (by rw[<-h1];exact ht)).2⟩
 | rp k a b v hv=>obtain⟨h1,h2⟩:=hm k (by simp only[mE];exact aL.2 rfl);exact .rp k a b v fun e he=>⟨h2,(hv e (by rw[<-h1];exact he)).2⟩
 | bx k a v hv=>obtain⟨h1,h2⟩:=hm k (by simp only[mE];exact aL.2 rfl);exact .bx k a v fun ht=>⟨h2,(hv (by rw[<-h1];exact ht)).2⟩
 | vw k a b v hv=>obtain⟨h1,h2⟩:=hm k (by simp only[mE];exact aL.2 rfl);exact .vw k a b v fun e he=>⟨h2,(hv e (by rw[<-h1];exact he)).2⟩
 | fn f cap vs hl hc ih=>exact .fn f cap vs hl fun j c u hj hu=>ih j c u hj hu fun k hk=>hm k (mZ (List.mem_of_getElem? hj) hk)
 | tu xs vs hl hc ih=>exact .tu xs vs hl fun j c u hj hu=>ih j c u hj hu fun k hk=>hm k (mZ (List.mem_of_getElem? hj) hk)
 | st xs vs hl h0 hc ih=>exact .st xs vs hl h0 fun j c u hj hu=>ih j c u hj hu fun k hk=>hm k (mZ (List.mem_of_getElem? hj) hk)
 | junk v=>exact .junk v
theorem It {A:bE} (hC:a8 A.C) {id:Nat} {ops:Array Oper} {K:Exit->AS->Prop} {s:AS} (hok:ig A.C ops=true) (hd:∀o∈ops.toList,gw o A.n)
  (h:∃X,cz A.C (ops.toList.any fun o=>fR A.C o.op) X ops.toList (fC A.C (ops.toList.any fun o=>fR A.C o.op) ops) ops.toList (fun s'=>K .normal (nS ops.toList s')) (nR ops.toList s)):W A (.region id ops true) K s:=by
 intro S rho a w sim
 have ky:=(sim.grow hC w.drew ⟨rfl,rfl,rfl,Nat.le_refl _,fun _ _ _=>rfl⟩).pre ops.toList s
 obtain⟨X,h⟩:=h
 obtain⟨st,r,h1,h2,h3⟩:=DH ops.toList _ _ h
 have hsz:ops.toList.length=ops.size:=by simp
 rw[hsz] at h2
 have H:∀(i:Nat) o,ops[i]?=some o->DStep A.C (ops.toList.any fun o=>fR A.C o.op) ops.toList o (st i) (r i) (st (i+1)):=fun i o ho=>(h3 i o (by simpa using ho)).1
 have G:∀(i:Nat) o,ops[i]?=some o->rH A.C (ops.toList.any fun o=>fR A.C o.op) X (fC A.C (ops.toList.any fun o=>fR A.C o.op) ops) o (st i) (r i) i:=fun i o ho=>(h3 i o (by simpa using ho)).2
 have nr:∀k d b,Cb ops r k d b->p8 d (st 0):=fun k d b ⟨o,ho,gH,hb⟩=>by
  have yL:=(H k o ho).ndst
  rw[hb,gH] at yL
  rw[h1]
  have:=(zk ops.toList s).2 o (List.mem_of_getElem? (by simpa using ho)) yL
  rw[gH] at this
  exact this
 have DY:∀d,fx ops r 0 d->p8 d (st 0):=fun d ⟨k,b,_,hc⟩=>nr k d b hc
 have NT:∀d,Decidable (∃b k,Cb ops r k d b):=fun d=>Classical.propDecidable _
 obtain⟨B,hB⟩:∃B:Nat->AB,B=fun d=>@dite _ (∃b k,Cb ops r k d b) (NT d) (fun h=>Classical.choose h) (fun _=>(st 0).h d):=⟨_,rfl⟩
 obtain⟨_,_,hp⟩:=gU hok
 have Cc:∀k d b,Cb ops r k d b->B d=b:=by
  intro k d b hc
  have hex:∃b k,Cb ops r k d b:=⟨b,k,hc⟩
  rw[hB]
  simp only
  rw[dif_pos hex]
  obtain⟨k',JG⟩:=Classical.choose_spec hex
  generalize Classical.choose hex=b' at JG
  obtain⟨o,e1,e2,e3⟩:=hc
  obtain⟨o',f1,f2,f3⟩:=JG
  have:k=k':=by
   rcases Nat.lt_trichotomy k k' with h | h | h
   ·exact absurd f2 ((hp k k' o o' h e1 f1).dst d e2)
   ·exact h
   exact absurd e2 ((hp k' k o' o h f1 e1).dst d f2)
  subst this
  rw[e3] at f3
  injection f3 with f3
  exact f3.symm
 have tU:∀d,¬fx ops r 0 d->B d=(st 0).h d:=by
  intro d hn
  rw[hB]
  simp only
  rw[dif_neg fun ⟨b,k,hc⟩=>hn ⟨k,b,Nat.zero_le _,hc⟩]
 have hle:∀d,¬fx ops r 0 d->LE ops r (fun _=>false) d:=fun d hn k b hc=>absurd ⟨k,b,Nat.zero_le _,hc⟩ hn
 have FO:∀d,LE ops r (fun _=>false) d->¬fx ops r 0 d:=fun d hl ⟨k,b,_,hc⟩=>by cases hl k b hc
 rw[<-h1] at ky
 have NU:bd A bA (LE ops r fun _=>false) S rho ⟨TE ops st (fun _=>false),B⟩ a w.drew:=
  {tm:=fun j _=>by
    have ht:TE ops st (fun _=>false) j=(st 0).t j:=by
     unfold TE
     split
     ·rename_i hv
      exact uV H (fun k o hk e=>by cases hv k o hk e) ops.size (Nat.le_refl _)
     rfl
    show aI _ _ _ _ _ _ (TE ops st (fun _=>false) j) _
    rw[ht]
    refine (ky.tm j trivial).loc fun k hk=>?_
    have hn:¬fx ops r 0 k:=fun tV=>by rw[(DY k tV).2.1 j] at hk;cases hk
    exact⟨tU k hn,hle k hn⟩
   sz:=ky.sz,df:=ky.df,nb:=ky.nb,pn:=ky.pn,ev:=ky.ev,s0:=ky.s0,st:=ky.st,sb:=ky.sb
   hp:=fun k hk=>by
    have hn:=FO k hk
    show cZ _ _ _ _ _ _ _ (B k)
    rw[tU k hn]
    have hh:=ky.hp k trivial
    cases hb:(st 0).h k with
    | none=>trivial
    | row e es=>rw[hb] at hh;exact hh
    | fK es=>rw[hb] at hh;exact hh
    | gC es=>rw[hb] at hh;exact hh
    | map mk es=>rw[hb] at hh;exact hh
    | box cs=>
     rw[hb] at hh
     obtain⟨g,ty,c,k1,k2,k3,k4⟩:=hh
     refine⟨g,ty,c,k1,k2,k3,fun j x u hj hu=>⟨(k4 j x u hj hu).1,(k4 j x u hj hu).2.loc fun i hi=>?_⟩⟩
     have CS:¬fx ops r 0 i:=fun tV=>by rw[(DY i tV).2.2 k x (by rw[hb];exact List.mem_of_getElem? hj)] at hi;cases hi
     exact⟨tU i CS,hle i CS⟩
    | fv ty cs=>
     rw[hb] at hh
     obtain⟨g,c,k1,k2,k3,k4⟩:=hh
     refine⟨g,c,k1,k2,k3,fun j x u hj hu=>⟨(k4 j x u hj hu).1,(k4 j x u hj hu).2.loc fun i hi=>?_⟩⟩
     have CS:¬fx ops r 0 i:=fun tV=>by rw[(DY i tV).2.2 k x (by rw[hb];exact List.mem_of_getElem? hj)] at hi;cases hi
     exact⟨tU i CS,hle i CS⟩
    | aC cs=>rw[hb] at hh;exact hh
    | an e es=>
     rw[hb] at hh
     obtain⟨⟨i0,xs,k1,k2,k3,k4,k5,k6⟩,hS⟩:=hh
     refine⟨⟨i0,xs,k1,k2,k3,k4,k5,fun a' r j x ha hj=>?_⟩,hS⟩
     obtain⟨u,hu,hr⟩:=k6 a' r j x ha hj
     refine⟨u,hu,?_⟩
     cases x with
     | row e' bW=>exact hr
     | av x=>
      refine aI.loc hr fun i hi=>?_
      have CS:¬fx ops _ 0 i:=fun tV=>by rw[(DY i tV).2.2 k x (by rw[hb];exact List.mem_flatMap.2 ⟨r,List.mem_of_getElem? ha,HX.uY (List.mem_of_getElem? hj)⟩)] at hi;cases hi
      exact⟨tU i CS,hle i CS⟩
   dj:=fun i j g hi hj li lj dk fQ=>by
    have jf:(B i).live:=li
    have Ks:(B j).live:=lj
    have dk:hasB _ (B i) (rho i) g:=dk
    have fQ:hasB _ (B j) (rho j) g:=fQ
    rw[tU i (FO i hi)] at jf dk
    rw[tU j (FO j hj)] at Ks fQ
    exact ky.dj i j g trivial trivial jf Ks dk fQ
   lv:=fun i g hi li hg=>by
    have jf:(B i).live:=li
    have hg:hasB _ (B i) (rho i) g:=hg
    rw[tU i (FO i hi)] at jf hg
    exact ky.lv i g trivial jf hg
   fr:=ky.fr }
 refine wp_region_any hC.any ?_
 have Pn:(fun i=>(Array.replicate ops.size false).getD i false)=fun _=>false:=by
  funext i
  exact getD_replicate_false _ _
 refine FN hC rfl hok hd H G Cc tU (fun d tV=>(DY d tV).1) (fun S' rho' a' w' bc=>?_) ops.size (Array.replicate ops.size false) S rho a w.drew (by simp) ?_ ?_ ?_
 ·obtain⟨NV,aP⟩:=bc.post ops.toList rho' (st ops.size) hd
  exact⟨S',NV,_,aP,h2⟩
 ·rw[Pn];intro j oj _ h;cases h
 ·have:((List.range ops.size).filter fun i=>!(Array.replicate ops.size false).getD i false).length<=(List.range ops.size).length:=List.length_filter_le _ _
  simpa using this
 rw[Pn]
 have:∀m,Hn B r (fun _=>false) m=B:=by
  intro m
  induction m with
  | zero=>rfl
  | succ m ih=>exact ih
 rw[this]
 exact NU
end Go.AM
namespace Go.AM
open Go.RowKit
def DZ (n:Nat) (o:Oper):Bool:=match o.dst with
 | some d=>Nat.blt d n
 | none=>true
def gx (C:Ctx) (n:Nat):Code->Bool
 | .region _ ops draw=>ops.toList.all (DZ n) && (!draw || ig C ops)
 | .seq a b=>gx C n a && gx C n b
 | .cond _ a b=>gx C n a && gx C n b
 | .block _ c=>gx C n c
 | .loop c=>gx C n c
 | _=>true
def gd (f:AS->Prop) (K:Exit->AS->Prop):Exit->AS->Prop
 | .normal,s=>f s
 | e,s=>K e s
def mF (id:Nat) (K:Exit->AS->Prop):Exit->AS->Prop
 | .exit i,s=>eE (bw i id) (K .normal s) (K (.exit i) s)
 | e,s=>K e s
def gf (A:bE):Code->(Exit->AS->Prop)->AS->Prop
 | .skip,K,s=>K .normal s
 | .region _ ops draw,K,s=>match draw with
  | false=>cy A.C ops.toList ops.toList (K .normal) s
  | true=>∃X,cz A.C (ops.toList.any fun o=>fR A.C o.op) X ops.toList (fC A.C (ops.toList.any fun o=>fR A.C o.op) ops) ops.toList (fun s'=>K .normal (nS ops.toList s')) (nR ops.toList s)
 | .seq a b,K,s=>gf A a (gd (fun s'=>∃ja,aD A s' ja/\gf A b K ja) K) s
 | .cond c a b,K,s=>match ev s.t c with
  | .p (.im (.bool t))=>eE t (gf A a K s) (gf A b K s)
  | _=>False
 | .block id c,K,s=>gf A c (mF id K) s
 | .loop c,K,s=>∃(α:Type) (I:α->AS->Prop) (m:α->Nat),(∃x s',aD A s s'/\I x s')/\∀x s,I x s->gf A c (gd (fun s'=>∃y ja,aD A s' ja/\I y ja/\m y < m x) K) s
 | .exit id,K,s=>K (.exit id) s
 | .ret,K,s=>K .ret s
 | _,_,_=>False
theorem AT {n:Nat} {ops:Array Oper} (h:ops.toList.all (DZ n)=true):∀o∈ops.toList,gw o n:=by
 intro o ho d hd
 have:=List.all_eq_true.1 h o ho
 unfold DZ at this
 rw[hd] at this
 exact Nat.le_of_ble_eq_true this
theorem Cd {A:bE} (hC:a8 A.C):∀(c:Code) (K:Exit->AS->Prop) (s:AS),gx A.C A.n c=true->gf A c K s->W A c K s:=by
 intro c
 induction c with
 | skip=>intro K s _ h S rho a w sim;exact wp_skip ⟨S,rho,s,sim,h⟩
 | region id ops draw=>
  intro K s hok h
  simp only[gx,Bool.and_eq_true] at hok
  cases draw with
  | false=>exact Dx hC (AT hok.1) h
  | true=>exact It hC (by simpa using hok.2) (AT hok.1) h
 | seq a b Iu Iv=>
  intro K s hok h
  simp only[gx,Bool.and_eq_true] at hok
  refine Kw ?_
  refine yT (Iu _ s hok.1 h) fun e s' hk=>?_
  cases e with
  | normal=>
   obtain⟨s2,hle,hk⟩:=hk
   exact fun S rho a w sim=>by
    obtain⟨S',rho',bc⟩:=hle S rho a w sim
    exact Iv K s2 hok.2 hk S' rho' a w bc
  | exit id=>exact hk
  | goto l=>exact hk
  | ret=>exact hk
  | panic c=>exact hk
  | outgrown=>exact hk
 | cond c a b Iu Iv=>
  intro K s hok h
  simp only[gx,Bool.and_eq_true] at hok
  simp only[gf] at h
  split at h
  ·rename_i t ht
   refine Ig ht (fun e=>Iu K s hok.1 ?_) (fun e=>Iv K s hok.2 ?_)
   ·rw[e] at h;exact h
   rw[e] at h;exact h
  exact h.elim
 | block id c ih=>
  intro K s hok h
  exact FE (yT (ih _ s hok h) fun e s' hk=>by cases e <;> exact hk)
 | loop c ih=>
  intro K s hok h
  obtain⟨α,I,m,h0,hr⟩:=h
  refine Ih I m h0 fun x s hi=>?_
  exact yT (ih _ s hok (hr x s hi)) fun e s' hk=>by cases e <;> exact hk
 | exit id=>intro K s _ h S rho a w sim;exact wp_exit ⟨S,rho,s,sim,h⟩
 | ret=>intro K s _ h S rho a w sim;exact wp_ret ⟨S,rho,s,sim,h⟩
 | rangeFunc=>intro K s _ h;exact h.elim
 | scope=>intro K s _ h;exact h.elim
 | label=>intro K s _ h;exact h.elim
 | goto=>intro K s _ h;exact h.elim
 | refuse=>intro K s _ h;exact h.elim
def kQ {α:Type}:List (Nat×α)->(Nat->α)->Nat->α
 | [],t=>t
 | (i,v)::r,t=>aA (kQ r t) i v
def kz {α:Type}:List (Nat×α)->(Nat->α)->Prop
 | [],_=>True
 | (i,v)::r,t=>t i=v/\kz r t
theorem nT {α:Type}:∀(l:List (Nat×α)) (t:Nat->α),kz l t->kQ l t=t:=by
 intro l
 induction l with
 | nil=>intro t _;rfl
 | cons p l ih=>
  intro t h
  obtain⟨i,v⟩:=p
  show aA (kQ l t) i v=t
  rw[ih t h.2]
  exact dp _ _ _ h.1
theorem FP {A:bE} {c:Code} {K:Exit->AS->Prop} {s:AS} {α:Type} (R:α->Prop) (ts:α->List (Nat×AV)) (hs:α->List (Nat×AB)) (m:α->Nat) (x0:α) (s0:AS) (h0:aD A s s0) (hR:R x0) (ht:kz (ts x0) s0.t) (hh:kz (hs x0) s0.h)
  (round:∀x,R x->∀t h,gf A c (gd (fun s'=>∃y ja,aD A s' ja/\R y/\m y < m x/\kz (ts y) ja.t/\kz (hs y) ja.h) K) ⟨kQ (ts x) t,kQ (hs x) h⟩):gf A (.loop c) K s:=by
 refine⟨α,fun x s=>R x/\kz (ts x) s.t/\kz (hs x) s.h,m,⟨x0,s0,h0,hR,ht,hh⟩,fun x s ⟨h1,h2,h3⟩=>?_⟩
 have:=round x h1 s.t s.h
 rw[nT _ _ h2,nT _ _ h3] at this
 have e:(gd (fun s'=>∃y ja,aD A s' ja/\R y/\m y < m x/\kz (ts y) ja.t/\kz (hs y) ja.h) K)=(gd (fun s'=>∃y ja,aD A s' ja/\(R y/\kz (ts y) ja.t/\kz (hs y) ja.h)/\m y < m x) K):=by
  funext e s'
  cases e <;> try rfl
  apply propext
  constructor
  ·rintro⟨y,ja,k1,k2,k3,k4,k5⟩;exact⟨y,ja,k1,⟨k2,k4,k5⟩,k3⟩
  rintro⟨y,ja,k1,⟨k2,k4,k5⟩,k3⟩;exact⟨y,ja,k1,k2,k3,k4,k5⟩
 rw[<-e]
 exact this
theorem FQ {C : Ctx} (hC : a8 C) {f : FuncId} {fn : Func} {c : Code} (hf : C.P.funcs[f]? = some fn) (hb : fn.body = some c) (ko : (fn.name == "runtime.NumGoroutine") = false) {args : List Arg} {r : AR} {fin : List Fin} (n : Nat) (hn : args.length + (fn.ntmps - args.length) = n) (wk : n ≤ 100000) (hok : gx C n c = true)
  (h:∀A:bE,A.C=C->gf A c (FH C fn.results.toList args r fin) ⟨tR args,kM args⟩):af C f args r fin:=
 Ii hC hf hb ko (by omega) fun A hA QC=>Cd (by rw[hA];exact hC) c _ _ (by rw[hA,QC,hn];exact hok) (h A hA)
end Go.AM
namespace Go.AM
open Go.RowKit
def p9 (l:List (Nat×TI)) (t:TypeId):Option TI:=match l with
 | []=>none
 | (i,ti)::r=>match Nat.beq i t with
  | true=>some ti
  | false=>p9 r t
theorem lU {t:TypeId} {ti:TI}:∀{l:List (Nat×TI)},p9 l t=some ti->(t,ti)∈l:=by
 intro l
 induction l with
 | nil=>intro h;cases h
 | cons p l ih=>
  intro h
  obtain⟨i,MR⟩:=p
  unfold p9 at h
  split at h
  ·rename_i e
   have:=Nat.eq_of_beq_eq_true e
   subst this
   injection h with h
   subst h
   exact List.mem_cons_self ..
  exact List.mem_cons_of_mem _ (ih h)
def D0:Value->Value->Bool
 | .int k n,.int k' n'=>kB k k' && decide (n=n')
 | .bool b,.bool b'=>b == b'
 | .string s,.string s'=>s.data.toList == s'.data.toList
 | .slice none a b,.slice none a' b'=>Nat.beq a a' && Nat.beq b b'
 | .pointer none,.pointer none=>true
 | .map none,.map none=>true
 | .nilFunc,.nilFunc=>true
 | .nilIface,.nilIface=>true
 | _,_=>false
theorem D1 {v u:Value} (h:D0 v u=true):v=u:=by
 unfold D0 at h
 split at h
 ·simp only[Bool.and_eq_true,decide_eq_true_eq] at h
  rw[Ax h.1,h.2]
 ·rw[eq_of_beq h]
 ·have:=eq_of_beq h
  congr 1
  exact ByteArray.ext (Array.ext' this)
 ·simp only[Bool.and_eq_true] at h
  rw[Nat.eq_of_beq_eq_true h.1,Nat.eq_of_beq_eq_true h.2]
 ·rfl
 ·rfl
 ·rfl
 ·rfl
 cases h
def u3:List Value->List Value->Bool
 | [],[]=>true
 | v::r,u::s=>D0 v u && u3 r s
 | _,_=>false
theorem Ce:∀{a b:List Value},u3 a b=true->a=b:=by
 intro a
 induction a with
 | nil=>intro b h;cases b with | nil=>rfl | cons=>cases h
 | cons v r ih=>
  intro b h
  cases b with
  | nil=>cases h
  | cons u s=>
   simp only[u3,Bool.and_eq_true] at h
   rw[D1 h.1,ih h.2]
def KP:TypeDesc->Bool
 | .struct _ | .array _ _=>true
 | _=>false
def qN (P:Program):List (Nat×Nat×Bool)->List Field->Bool
 | [],[]=>true
 | f::r,g::s=>Nat.beq f.1 g.offset && !Nat.beq f.2.1 0 && (match P.info? g.type with
  | some i=>Nat.beq i.size f.2.1
  | none=>false) && (match P.underlying g.type with
  | some d=>KP d == f.2.2
  | none=>false) && qN P r s
 | _,_=>false
def Po (P:Program) (t:TypeId) (ti:TI):Bool:=match ti.ud,P.underlying t with
 | .sc,some .bool=>true
 | .sc,some d=>!KP d && !ti.eq
 | .int k,some (.int k')=>kB k k'
 | .st fs,some (.struct gs)=>qN P fs gs.toList
 | .sl e,some (.slice e')=>Nat.beq e e'
 | .mp k e,some (.map k' e')=>Nat.beq k k' && Nat.beq e e'
 | .str,some .string=>true
 | _,_=>false
def Ml (P:Program) (p:Nat×TI):Bool:=match P.info? p.1 with
 | some info=>Nat.beq info.size p.2.size && Nat.beq info.bytes p.2.bytes && (match info.zero with
  | some z=>u3 z.cells.toList p.2.zero
  | none=>false) && Nat.beq p.2.zero.length p.2.size && p.2.zero.all Value.oneCell' && Po P p.1 p.2
 | none=>false
theorem u4 {P:Program}:∀{fs:List (Nat×Nat×Bool)} {gs:List Field},qN P fs gs=true->fs.length=gs.length/\∀(i:Nat) f g,fs[i]?=some f->gs[i]?=some g->f.1=g.offset/\f.2.1≠0/\(∃i2,P.info? g.type=some i2/\i2.size=f.2.1)/\
  (∃d,P.underlying g.type=some d/\f.2.2=(match d with | .struct _ | .array _ _=>true | _=>false)):=by
 intro fs
 induction fs with
 | nil=>intro gs h;cases gs with | nil=>exact⟨rfl,by simp⟩ | cons=>cases h
 | cons f r ih=>
  intro gs h
  cases gs with
  | nil=>cases h
  | cons g s=>
   simp only[qN,Bool.and_eq_true] at h
   obtain⟨⟨⟨⟨h1,h2⟩,h3⟩,h4⟩,h5⟩:=h
   obtain⟨h6,h7⟩:=ih h5
   refine⟨by simp[h6],fun i f' g' hf hg=>?_⟩
   cases i with
   | succ i=>exact h7 i f' g' (by simpa using hf) (by simpa using hg)
   | zero=>
    simp at hf hg
    subst hf hg
    refine⟨Nat.eq_of_beq_eq_true h1,(fun e=>by rw[e] at h2;cases h2),?_,?_⟩
    ·split at h3
     ·rename_i i hi;exact⟨i,hi,Nat.eq_of_beq_eq_true h3⟩
     cases h3
    split at h4
    ·rename_i d hd
     refine⟨d,hd,?_⟩
     rw[<-eq_of_beq h4]
     cases d <;> rfl
    cases h4
theorem Iw {P:Program} {t:TypeId} {ti:TI} (h:Ml P (t,ti)=true):ji P t ti:=by
 unfold Ml at h
 split at h
 ·rename_i info hi
  simp only[Bool.and_eq_true] at h
  obtain⟨⟨⟨⟨⟨h1,h2⟩,h3⟩,h4⟩,h5⟩,h6⟩:=h
  split at h3
  ·rename_i z hz
   refine⟨info,z,hi,Nat.eq_of_beq_eq_true h1,Nat.eq_of_beq_eq_true h2,hz,?_,Nat.eq_of_beq_eq_true h4,fun v hv=>List.all_eq_true.1 h5 v hv,?_⟩
   ·rw[<-Ce h3]
   simp only[Po] at h6
   split at h6
   ·rename_i h7 h8
    rw[h7]
    exact⟨⟨_,h8,trivial⟩,fun _=>h8⟩
   ·rename_i d bG h7 h8
    rw[h7]
    simp only[Bool.and_eq_true] at h6
    refine⟨⟨d,h8,?_⟩,fun e=>?_⟩
    ·cases d <;> first | trivial | (cases h6.1;done)
    rw[e] at h6;cases h6.2
   ·rename_i h7 h8;rw[h7,h8,Ax h6]
   ·rename_i fs gs h7 h8
    rw[h7]
    obtain⟨h9,Kj⟩:=u4 h6
    exact⟨gs,h8,by simpa using h9,fun i f g hf hg=>Kj i f g hf (by simpa using hg)⟩
   ·rename_i h7 h8;rw[h7,h8,Nat.eq_of_beq_eq_true h6]
   ·rename_i h7 h8
    simp only[Bool.and_eq_true] at h6
    rw[h7,h8,Nat.eq_of_beq_eq_true h6.1,Nat.eq_of_beq_eq_true h6.2]
   ·rename_i h7 h8;rw[h7,h8]
   cases h6
  cases h3
 cases h
def NW (P:Program) (p:Nat×TI):Bool:=match P.info? p.1 with
 | some info=>match info.zero with
  | some z=>CX z == p.2.ud.agg
  | none=>false
 | none=>false
theorem KR {P:Program} {l:List (Nat×TI)} (h:l.all (NW P)=true):∀t ti,p9 l t=some ti->yq P t ti:=fun t ti ht=>by
 have:=List.all_eq_true.1 h _ (lU ht)
 unfold NW at this
 split at this
 ·rename_i info hi
  split at this
  ·rename_i z hz
   exact⟨info,z,hi,hz,eq_of_beq this⟩
  cases this
 cases this
theorem Ix {P:Program} {l:List (Nat×TI)} (h:l.all (Ml P)=true):∀t ti,p9 l t=some ti->ji P t ti:=fun _ _ ht=>Iw (List.all_eq_true.1 h _ (lU ht))
def E7:Option TypeDesc->Value->Bool
 | some (.int _),.int _ _=>true
 | some .string,.string _=>true
 | some .bool,.bool _=>true
 | _,_=>false
def ij (P:Program):Nat->List Field->List Value->Bool
 | _,[],[]=>true
 | i, g :: r, z :: s => E7 (P.underlying g.type) z && Nat.beq g.offset i && g.name != "_" && ij P (i + 1) r s
 | _,_,_=>false
def rL (P:Program):Nat->List Field->List Value->Bool
 | _,[],[]=>true
 | _,[],_::_=>false
 | i, g :: r, zs => g.name != "_" && Nat.beq g.offset i && match P.underlying g.type with
  | some (.struct hs)=>(match P.info? g.type with
   | some inf=>Nat.beq inf.size hs.size
   | none=>false) && !P.stoodInHeld g.type && ij P 0 hs.toList (zs.take hs.size) && rL P (i+hs.size) r (zs.drop hs.size)
  | _=>match zs with
   | z::s=>E7 (P.underlying g.type) z && rL P (i+1) r s
   | []=>false
def Iy (P:Program) (p:Nat×TI):Bool:=match p.2.eq,p.2.ud with
 | true,.st _=>(match P.underlying p.1 with
  | some (.struct gs)=>rL P 0 gs.toList p.2.zero && Nat.beq p.2.zero.length p.2.size
  | _=>false) && !P.stoodInHeld p.1 && !P.eqGuardType P.depth p.1
 | _,_=>true
theorem gg {P:Program} {w:World} {t:TypeId} {z:Value} (h:E7 (P.underlying t) z=true) {xs:Array Value} {i:Nat} {v:Value} (hv:xs[i]?=some v):(part t xs i).run P w=.ok v w:=by
 have:(isAgg t).run P w=.ok false w:=by
  rw[Go.isAgg,Sem.run_bind]
  unfold E7 at h
  split at h <;> first
   | (rename_i hu;rw[run_underlying hu];rfl)
   | cases h
 simp[part,this,hv]
theorem u5 {a b:ByteArray} (h:a.toList=b.toList):a=b:=by
 rw[ByteArray.toList_eq,ByteArray.toList_eq] at h
 obtain⟨⟨x⟩⟩:=a
 obtain⟨⟨y⟩⟩:=b
 simpa using h
theorem FR {o:Option TypeDesc} {k:IntKind} {n:Int} (h:E7 o (.int k n)=true):∃j,o=some (.int j):=by
 cases o with
 | none=>cases h
 | some d=>cases d <;> first | exact⟨_,rfl⟩ | cases h
theorem FT {o:Option TypeDesc} {x:ByteArray} (h:E7 o (.string x)=true):o=some .string:=by
 cases o with
 | none=>cases h
 | some d=>cases d <;> first | rfl | cases h
theorem D2 {o:Option TypeDesc} {x:Bool} (h:E7 o (.bool x)=true):o=some .bool:=by
 cases o with
 | none=>cases h
 | some d=>cases d <;> first | rfl | cases h
theorem nU {P:Program} {t:TypeId} {z:Value} {zs:List Value} {x:PV} {a b:List PV} {r:Bool} (hk:E7 (P.underlying t) z=true) (h:aU (z::zs) (x::a) b=some r):∃u v s c r',x=.im u/\b=.im v::s/\aU zs a s=some r'/\r=(c && r')/\∀d w,(Op.equalIn (d+1) t u v).run P w=.ok c w:=by
 cases b with
 | nil=>cases z <;> cases x <;> simp[aU] at h
 | cons y b=>
  unfold aU at h
  split at h
  ·rename_i h1 h2 h3;cases h1
  ·rename_i h1 h2 h3
   injection h1 with h1 nG
   injection h2 with h2 pY
   injection h3 with h3 h3'
   subst h1 nG h2 pY h3 h3'
   split at h
   ·rename_i yx
    have:=Ax yx
    subst this
    obtain⟨r',q1,q2⟩:=Option.map_eq_some_iff.1 h
    obtain⟨j,hu⟩:=FR hk
    refine⟨_,_,_,_,r',rfl,rfl,q1,q2.symm,fun d w=>?_⟩
    rw[run_equalIn_int (P:=P) w d t _ j _ _ hu]
    congr 1
   cases h
  ·rename_i h1 h2 h3
   injection h1 with h1 nG
   injection h2 with h2 pY
   injection h3 with h3 h3'
   subst h1 nG h2 pY h3 h3'
   obtain⟨r',q1,q2⟩:=Option.map_eq_some_iff.1 h
   have hu:=FT hk
   refine⟨_,_,_,_,r',rfl,rfl,q1,q2.symm,fun d w=>?_⟩
   rw[run_equalIn_string (P:=P) w d t _ _ hu]
   congr 1
   rw[Bool.eq_iff_iff,beq_iff_eq,decide_eq_true_iff]
   exact⟨fun e=>u5 e,fun e=>by rw[e]⟩
  ·rename_i h1 h2 h3
   injection h1 with h1 nG
   injection h2 with h2 pY
   injection h3 with h3 h3'
   subst h1 nG h2 pY h3 h3'
   obtain⟨r',q1,q2⟩:=Option.map_eq_some_iff.1 h
   have hu:=D2 hk
   refine⟨_,_,_,_,r',rfl,rfl,q1,q2.symm,fun d w=>?_⟩
   rw[run_equalIn_bool' (P:=P) w d t _ _ hu]
   congr 1
  cases h
theorem mG {P:Program} {w:World} (d:Nat) (xs ys:Array Value):∀(gs:List Field) (zs:List Value) (i:Nat) (a b:List PV) (r:Bool),ij P i gs zs=true->gs.length=a.length->(∀(j:Nat) x,a[j]?=some x->∃v,xs[i+j]?=some v/\x=.im v)->(∀(j:Nat) x,b[j]?=some x->∃v,ys[i+j]?=some v/\x=.im v)->aU zs a b=some r ->
  (Op.eqFields (d+1) xs ys gs).run P w=.ok r w:=by
 intro gs
 induction gs with
 | nil=>
  intro zs i a b r hi hl _ _ he
  have:a=[]:=List.eq_nil_of_length_eq_zero hl.symm
  subst this
  cases zs with
  | nil=>cases b with
   | nil=>simp[aU] at he;subst he;rfl
   | cons y b=>simp[aU] at he
  | cons z zs=>simp[ij] at hi
 | cons g gs ih=>
  intro zs i a b r hi hl ha hb he
  cases a with
  | nil=>simp at hl
  | cons x a=>cases zs with
   | nil=>simp[ij] at hi
   | cons z zs=>
    simp only[ij,Bool.and_eq_true] at hi
    obtain⟨⟨⟨h1,h2⟩,h3⟩,h4⟩:=hi
    have h2:=Nat.eq_of_beq_eq_true h2
    have ko : g.name ≠ "_" := by simpa using h3
    obtain⟨u,v,s1,c,r',rfl,rfl,HJ,rfl,p3⟩:=nU h1 he
    obtain⟨v',hv,Iz⟩:=ha 0 _ rfl
    obtain⟨u',mV,IA⟩:=hb 0 _ rfl
    injection Iz with Iz
    injection IA with IA
    subst Iz IA
    have p1:=gg (w:=w) h1 (xs:=xs) (i:=g.offset) (by rw[h2];simpa using hv)
    have p2:=gg (w:=w) h1 (xs:=ys) (i:=g.offset) (by rw[h2];simpa using mV)
    have rest:=ih zs (i+1) a s1 r' h4 (by simpa using hl) (fun j x hx=>by obtain⟨v,q1,q2⟩:=ha (j+1) x (by simpa using hx);exact⟨v,by rw[<-q1];congr 1;omega,q2⟩) (fun j x hx=>by obtain⟨v,q1,q2⟩:=hb (j+1) x (by simpa using hx);exact⟨v,by rw[<-q1];congr 1;omega,q2⟩) HJ
    simp only[Op.eqFields,if_pos ko,Sem.run_bind,p1,p2,p3,Result.andThen_ok]
    cases c with
    | true=>
     simp only[Bool.not_true,Bool.false_eq_true,if_false,Bool.true_and]
     exact rest
    | false=>simp
theorem u6 {z:Value} {zs:List Value} {a b:List PV} {r:Bool} (h:aU (z::zs) a b=some r):∃x a' y b' c r',a=x::a'/\b=y::b'/\aU zs a' b'=some r'/\r=(c && r')/\∀KS KT KU KV,aU KS KT KU=some KV->aU (z::KS) (x::KT) (y::KU)=some (c && KV):=by
 cases a with
 | nil=>cases z <;> simp[aU] at h
 | cons x a=>cases b with
  | nil=>cases z <;> cases x <;> simp[aU] at h
  | cons y b=>
   unfold aU at h
   split at h
   ·rename_i h1 _ _;cases h1
   ·rename_i h1 h2 h3
    injection h1 with h1 nG
    injection h2 with h2 pY
    injection h3 with h3 h3'
    subst h1 nG h2 pY h3 h3'
    split at h
    ·rename_i yx
     obtain⟨r',q1,q2⟩:=Option.map_eq_some_iff.1 h
     exact⟨_,_,_,_,_,r',rfl,rfl,q1,q2.symm,fun KS KT KU KV KW=>by simp only[aU,yx,KW,Option.map_some]⟩
    cases h
   ·rename_i h1 h2 h3
    injection h1 with h1 nG
    injection h2 with h2 pY
    injection h3 with h3 h3'
    subst h1 nG h2 pY h3 h3'
    obtain⟨r',q1,q2⟩:=Option.map_eq_some_iff.1 h
    exact⟨_,_,_,_,_,r',rfl,rfl,q1,q2.symm,fun KS KT KU KV KW=>by simp only[aU,KW,Option.map_some]⟩
   ·rename_i h1 h2 h3
    injection h1 with h1 nG
    injection h2 with h2 pY
    injection h3 with h3 h3'
    subst h1 nG h2 pY h3 h3'
    obtain⟨r',q1,q2⟩:=Option.map_eq_some_iff.1 h
    exact⟨_,_,_,_,_,r',rfl,rfl,q1,q2.symm,fun KS KT KU KV KW=>by simp only[aU,KW,Option.map_some]⟩
   cases h
theorem p_:∀{z1 z2:List Value} {a b:List PV} {r:Bool},aU (z1++z2) a b=some r->∃a1 a2 b1 b2 r1 r2,a=a1++a2/\b=b1++b2/\a1.length=z1.length/\b1.length=z1.length/\aU z1 a1 b1=some r1/\aU z2 a2 b2=some r2/\r=(r1 && r2)
 | [],z2,a,b,r,h=>⟨[],a,[],b,true,r,rfl,rfl,rfl,rfl,rfl,h,rfl⟩
 | z::z1,z2,a,b,r,h=>by
  obtain⟨x,a',y,b',c,r',rfl,rfl,h1,rfl,h2⟩:=u6 (zs:=z1++z2) h
  obtain⟨a1,a2,b1,b2,r1,r2,rfl,rfl,l1,l2,k1,k2,rfl⟩:=p_ h1
  exact⟨x::a1,a2,y::b1,b2,c && r1,r2,rfl,rfl,by simp[l1],by simp[l2],h2 _ _ _ _ k1,k2,(Bool.and_assoc _ _ _).symm⟩
theorem pe {P:Program}:∀{gs:List Field} {z:List Value} {i:Nat},ij P i gs z=true->gs.length=z.length
 | [],[],_,_=>rfl
 | [],_::_,_,h=>by simp[ij] at h
 | _::_,[],_,h=>by simp[ij] at h
 | g::gs,c::z,i,h=>by
  simp only[ij,Bool.and_eq_true] at h
  simp[pe h.2]
theorem u7 {P:Program} {w:World} (d:Nat) (xs ys:Array Value):∀(gs:List Field) (zs:List Value) (i:Nat) (a b:List PV) (r:Bool),rL P i gs zs=true->(∀(j:Nat) x,a[j]?=some x->∃v,xs[i+j]?=some v/\x=.im v)->(∀(j:Nat) x,b[j]?=some x->∃v,ys[i+j]?=some v/\x=.im v)->aU zs a b=some r ->
  (Op.eqFields (d+3) xs ys gs).run P w=.ok r w:=by
 intro gs
 induction gs with
 | nil=>
  intro zs i a b r hi _ _ he
  cases zs with
  | nil=>
   cases a with
   | nil=>cases b with
    | nil=>simp[aU] at he;subst he;rfl
    | cons y b=>simp[aU] at he
   | cons x a=>simp[aU] at he
  | cons z zs=>simp[rL] at hi
 | cons g gs ih=>
  intro zs i a b r hi ha hb he
  unfold rL at hi
  simp only[Bool.and_eq_true] at hi
  obtain⟨⟨h3,h2⟩,hi⟩:=hi
  have h2:=Nat.eq_of_beq_eq_true h2
  have ko : g.name ≠ "_" := by simpa using h3
  split at hi
  ·rename_i hs oU
   simp only[Bool.and_eq_true] at hi
   obtain⟨⟨⟨h5,h6⟩,h7⟩,h8⟩:=hi
   have h6:P.stoodInHeld g.type=false:=by simpa using h6
   split at h5
   ·rename_i inf NX
    have h5:=Nat.eq_of_beq_eq_true h5
    have hl:=pe h7
    rw[Array.length_toList] at hl
    rw[<-List.take_append_drop hs.size zs] at he
    obtain⟨a1,a2,b1,b2,r1,r2,rfl,rfl,l1,l2,k1,k2,rfl⟩:=p_ he
    rw[<-hl] at l1 l2
    have cut:∀(us:Array Value) (c1 c2:List PV),c1.length=hs.size->(∀(j:Nat) x,(c1++c2)[j]?=some x->∃v,us[i+j]?=some v/\x=.im v)->(part g.type us g.offset).run P w=.ok (.agg (us.extract i (i+hs.size))) w/\(∀(j:Nat) x,c1[j]?=some x->∃v,(us.extract i (i+hs.size))[0+j]?=some v/\x=.im v)/\∀(j:Nat) x,c2[j]?=some x->∃v,us[i+hs.size+j]?=some v/\x=.im v:=by
     intro us c1 c2 hc hu
     refine⟨?_,fun j x hx=>?_,fun j x hx=>?_⟩
     ·have e1:(isAgg g.type).run P w=.ok true w:=by
       rw[Go.isAgg,Sem.run_bind,run_underlying oU];rfl
      have e2:(sizeOf g.type).run P w=.ok hs.size w:=by
       simp[Go.sizeOf,typeInfo,NX,h5]
      simp[part,e1,e2,h2]
     ·have hj:j < hs.size:=by rw[<-hc];exact ao hx
      obtain⟨v,q1,q2⟩:=hu j x (by rw[List.getElem?_append_left (by omega)];exact hx)
      exact⟨v,by rw[Array.getElem?_extract,if_pos (by have:=(Array.getElem?_eq_some_iff.1 q1).1;omega),Nat.zero_add];exact q1,q2⟩
     obtain⟨v,q1,q2⟩:=hu (hs.size+j) x (by rw[List.getElem?_append_right (by omega),<-hx];congr 1;omega)
     exact⟨v,by rw[<-q1];congr 1;omega,q2⟩
    obtain⟨p1,m1,n1⟩:=cut xs a1 a2 l1 ha
    obtain⟨p2,m2,n2⟩:=cut ys b1 b2 l2 hb
    have hf:P.fieldsOf g.type=hs:=by simp[Program.fieldsOf,oU]
    have p3:(Op.equalIn (d+3) g.type (.agg (xs.extract i (i+hs.size))) (.agg (ys.extract i (i+hs.size)))).run P w=.ok r1 w:=by
     rw[run_equalIn_struct w (d+2) g.type _ _ (by rw[hf];exact oU) h6,hf]
     exact mG (d+1) _ _ hs.toList _ 0 a1 b1 r1 h7 (by rw[Array.length_toList,l1]) m1 m2 k1
    have rest:=ih (zs.drop hs.size) (i+hs.size) a2 b2 r2 h8 n1 n2 k2
    simp only[Op.eqFields,if_pos ko,Sem.run_bind,p1,p2,p3,Result.andThen_ok]
    cases r1 with
    | true=>
     simp only[Bool.not_true,Bool.false_eq_true,if_false,Bool.true_and]
     exact rest
    | false=>simp
   cases h5
  split at hi
  ·rename_i z zs
   simp only[Bool.and_eq_true] at hi
   obtain⟨h1,h4⟩:=hi
   cases a with
   | nil=>cases z <;> simp[aU] at he
   | cons x a=>
    obtain⟨u,v,s1,c,r',rfl,rfl,HJ,rfl,p3⟩:=nU h1 he
    obtain⟨v',hv,Iz⟩:=ha 0 _ rfl
    obtain⟨u',mV,IA⟩:=hb 0 _ rfl
    injection Iz with Iz
    injection IA with IA
    subst Iz IA
    have p1:=gg (w:=w) h1 (xs:=xs) (i:=g.offset) (by rw[h2];simpa using hv)
    have p2:=gg (w:=w) h1 (xs:=ys) (i:=g.offset) (by rw[h2];simpa using mV)
    have rest:=ih zs (i+1) a s1 r' h4 (fun j x hx=>by obtain⟨v,q1,q2⟩:=ha (j+1) x (by simpa using hx);exact⟨v,by rw[<-q1];congr 1;omega,q2⟩) (fun j x hx=>by obtain⟨v,q1,q2⟩:=hb (j+1) x (by simpa using hx);exact⟨v,by rw[<-q1];congr 1;omega,q2⟩) HJ
    simp only[Op.eqFields,if_pos ko,Sem.run_bind,p1,p2,p3,Result.andThen_ok]
    cases c with
    | true=>
     simp only[Bool.not_true,Bool.false_eq_true,if_false,Bool.true_and]
     exact rest
    | false=>simp
  cases hi
theorem Cf {P:Program} {t:TypeId} {gs:Array Field} {zs:List Value} (oU:P.underlying t=some (.struct gs)) (h2:P.stoodInHeld t=false) (h4:rL P 0 gs.toList zs=true) {a b:List PV} {r:Bool} (hc:aU zs a b=some r) (xs ys:Array Value) (w:World)
  (ha:∀(i:Nat) x v,a[i]?=some x->xs[i]?=some v->x=.im v) (hb:∀(i:Nat) x v,b[i]?=some x->ys[i]?=some v->x=.im v) (KX:a.length=xs.size) (KY:b.length=ys.size):(Op.equal t (.agg xs) (.agg ys)).run P w=.ok r w:=by
 have hf:P.fieldsOf t=gs:=by simp[Program.fieldsOf,oU]
 have hex:∀(l:List PV) (zs:Array Value),l.length=zs.size->(∀(i:Nat) x v,l[i]?=some x->zs[i]?=some v->x=.im v)->∀(j:Nat) x,l[j]?=some x->∃v,zs[0+j]?=some v/\x=.im v:=by
  intro l zs hl hz j x hx
  obtain⟨v,hv⟩:=fP hl (ao hx)
  exact⟨v,by rw[Nat.zero_add];exact hv,hz j x v hx hv⟩
 have key:=u7 (P:=P) (w:=w) 9996 xs ys gs.toList zs 0 a b r h4 (hex a xs KX ha) (hex b ys KY hb) hc
 show (Op.equalIn (9999+1) t (.agg xs) (.agg ys)).run P w=_
 rw[run_equalIn_struct w 9999 t xs ys (by rw[hf];exact oU) h2,hf]
 exact key
theorem wZ {P:Program} {t:TypeId} {gs:Array Field} {zs:List Value} (oU:P.underlying t=some (.struct gs)) (h2:P.stoodInHeld t=false) (h4:ij P 0 gs.toList zs=true) {a b:List PV} {r:Bool} (hc:aU zs a b=some r) (xs ys:Array Value) (w:World)
  (ha:∀(i:Nat) x v,a[i]?=some x->xs[i]?=some v->x=.im v) (hb:∀(i:Nat) x v,b[i]?=some x->ys[i]?=some v->x=.im v) (KX:a.length=xs.size) (KY:b.length=ys.size) (hsz:gs.size=a.length):(Op.equal t (.agg xs) (.agg ys)).run P w=.ok r w:=by
 have hf:P.fieldsOf t=gs:=by simp[Program.fieldsOf,oU]
 have hex:∀(l:List PV) (zs:Array Value),l.length=zs.size->(∀(i:Nat) x v,l[i]?=some x->zs[i]?=some v->x=.im v)->∀(j:Nat) x,l[j]?=some x->∃v,zs[0+j]?=some v/\x=.im v:=by
  intro l zs hl hz j x hx
  obtain⟨v,hv⟩:=fP hl (ao hx)
  exact⟨v,by rw[Nat.zero_add];exact hv,hz j x v hx hv⟩
 have key:=mG (P:=P) (w:=w) 9998 xs ys gs.toList zs 0 a b r h4 (by simp;omega) (hex a xs KX ha) (hex b ys KY hb) hc
 show (Op.equalIn (9999+1) t (.agg xs) (.agg ys)).run P w=_
 rw[run_equalIn_struct w 9999 t xs ys (by rw[hf];exact oU) h2,hf]
 exact key
theorem IB {P:Program} {l:List (Nat×TI)} (h:l.all (Iy P)=true):∀t ti op a b r,p9 l t=some ti->ti.eq=true->(∃fs,ti.ud=.st fs)->aU ti.zero a b=some r->∀(xs ys:Array Value) w,(∀(i:Nat) x v,a[i]?=some x->xs[i]?=some v->x=.im v)->(∀(i:Nat) x v,b[i]?=some x->ys[i]?=some v->x=.im v)->
  a.length=xs.size->b.length=ys.size->ti.size=a.length->(op=.eql\/op=.neq)->∀(x y:Operand),(do eqGuard op t x y (.agg xs) (.agg ys);binOp op t (.agg xs) (.agg ys):Sem Value).run P w=.ok (.bool (if op=.eql then r else !r)) w:=by
 intro t ti op a b r ht he ⟨fs,M9⟩ dq xs ys w ha hb KX KY hsz ax x y
 have:=List.all_eq_true.1 h _ (lU ht)
 unfold Iy at this
 simp only[he,M9,Bool.and_eq_true] at this
 obtain⟨⟨h1,h2⟩,h3⟩:=this
 have h2:P.stoodInHeld t=false:=by simpa using h2
 have h3:P.eqGuardType P.depth t=false:=by simpa using h3
 split at h1
 ·rename_i gs oU
  simp only[Bool.and_eq_true] at h1
  obtain⟨h4,_⟩:=h1
  have heq:=Cf oU h2 h4 dq xs ys w ha hb KX KY
  have IC:(eqGuard op t x y (.agg xs) (.agg ys)).run P w=.ok () w:=by
   rcases ax with rfl | rfl <;> simp[eqGuard,h3]
  rw[Sem.run_bind,IC,Result.andThen_ok]
  rcases ax with rfl | rfl
  ·simp[binOp,heq]
  simp[binOp,heq]
 cases h1
def ID (P:Program) (p:Nat×TI):Bool:=match sU p.2 with
 | some (.st _)=>(match P.underlying p.1 with
  | some (.struct gs)=>ij P 0 gs.toList p.2.zero
  | _=>false) && !P.stoodInHeld p.1
 | _=>true
theorem FU:∀{z:List Value} {sh:List Nat} {a b:List Value},uw z=some sh->gE sh a->gE sh b->aU z (a.map .im) (b.map .im)=some (wm a b):=by
 intro z
 induction z with
 | nil=>
  intro sh a b h ha hb
  injection h with h
  subst h
  cases a <;> cases b <;> first
   | rfl
   | exact ha.elim
   | exact hb.elim
 | cons c z ih=>
  intro sh a b h ha hb
  unfold uw at h
  split at h
  ·rename_i h1;cases h1
  all_goals first
   | (
     rename_i h1
     injection h1 with h1 nG
     subst h1 nG
     obtain⟨s,hs,rfl⟩:=Option.map_eq_some_iff.1 h
     cases a with
     | nil=>exact ha.elim
     | cons x a=>cases b with
      | nil=>exact hb.elim
      | cons y b=>
       have hx:=ha.1
       have hy:=hb.1
       cases x <;> first | (exact hx.elim) | skip
       cases y <;> first | (exact hy.elim) | skip
       have:=ih hs ha.2 hb.2
       first
        | (simp only[List.map_cons,aU,this,Option.map_some,wm,By];done)
        | (
         have e1:_=IntKind.i64:=hx
         have e2:_=IntKind.i64:=hy
         subst e1 e2
         simp only[List.map_cons,aU,this,Option.map_some,wm,By,kB];done))
   | cases h
theorem iP:∀{sh:List Nat} {a:List Value},gE sh a->a.length=sh.length
 | [],[],_=>rfl
 | [],_::_,h=>h.elim
 | _::_,[],h=>h.elim
 | _::_,_::_,h=>by simp[iP h.2]
theorem D3:∀{z:List Value} {sh:List Nat},uw z=some sh->z.length=sh.length:=by
 intro z
 induction z with
 | nil=>intro sh h;injection h with h;subst h;rfl
 | cons c z ih=>
  intro sh h
  unfold uw at h
  split at h
  ·rename_i h1;cases h1
  all_goals first
   | (
     rename_i h1
     injection h1 with h1 nG
     subst h1 nG
     obtain⟨s,hs,rfl⟩:=Option.map_eq_some_iff.1 h
     simp[ih hs];done)
   | cases h
theorem w4 {P:Program} {t:TypeId} {z:Value} (h:E7 (P.underlying t) z=true) (e:Bool) (n:Nat) (w:World) (v:Value):(Instr.checkKey e (n+1) t v).run P w=.ok () w:=by
 unfold E7 at h
 split at h
 all_goals first
  | (rename_i hu;cases v <;> simp[Instr.checkKey,run_underlying hu];done)
  | cases h
theorem u9 {P:Program} (e:Bool) (n:Nat) (w:World) (xs:Array Value):∀(gs:List Field) (zs:List Value) (i:Nat),ij P i gs zs=true->(∀j,j < gs.length->∃v,xs[i+j]?=some v)->(forIn gs PUnit.unit fun f _=>(do
   if f.name ≠ "_" then Instr.checkKey e (n + 1) f.type (← part f.type xs f.offset)
   pure (ForInStep.yield PUnit.unit):Sem (ForInStep PUnit))).run P w=.ok PUnit.unit w:=by
 intro gs
 induction gs with
 | nil=>intro zs i _ _;rfl
 | cons g gs ih=>
  intro zs i hi hx
  cases zs with
  | nil=>simp[ij] at hi
  | cons z zs=>
   simp only[ij,Bool.and_eq_true] at hi
   obtain⟨⟨⟨h1,h2⟩,h3⟩,h4⟩:=hi
   have h2:=Nat.eq_of_beq_eq_true h2
   have ko : g.name ≠ "_" := by simpa using h3
   obtain⟨v,hv⟩:=hx 0 (by simp)
   have p1:=gg (w:=w) h1 (xs:=xs) (i:=g.offset) (by rw[h2];simpa using hv)
   have rest:=ih zs (i+1) h4 fun j hj=>by obtain⟨v,q⟩:=hx (j+1) (by simpa using hj);exact⟨v,by rw[<-q];congr 1;omega⟩
   simp only[List.forIn_cons,if_pos ko,Sem.run_bind,p1,w4 h1,Result.andThen_ok,Sem.run_pure]
   exact rest
theorem u_ {P:Program} {kt:TypeId} {gs:Array Field} (oU:P.underlying kt=some (.struct gs)) (e:Bool) (n:Nat) (w:World) (xs:Array Value):(Instr.checkKey e (n+1) kt (.agg xs)).run P w=((forIn gs.toList PUnit.unit fun f _=>(do
   if f.name ≠ "_" then Instr.checkKey e n f.type (← part f.type xs f.offset)
   pure (ForInStep.yield PUnit.unit):Sem (ForInStep PUnit))).run P w).andThen fun _ w'=>.ok () w':=by
 simp only[Instr.checkKey,Sem.run_bind,run_underlying oU,Result.andThen_ok,<-Array.forIn_toList]
 rfl
theorem FV {P:Program} {l:List (Nat×TI)} (h:l.all (ID P)=true):∀kt tk sh,p9 l kt=some tk->sU tk=some (.st sh)->CY P kt (.st sh):=by
 intro kt tk sh ht hm
 have:=List.all_eq_true.1 h _ (lU ht)
 unfold ID at this
 simp only[hm,Bool.and_eq_true] at this
 obtain⟨h1,h2⟩:=this
 have h2:P.stoodInHeld kt=false:=by simpa using h2
 have hsh:uw tk.zero=some sh:=by
  unfold sU at hm
  split at hm <;> first
   | (cases hm;done)
   | skip
  all_goals (split at hm)
  all_goals first
   | (cases hm;done)
   | (obtain⟨s,hs,e⟩:=Option.map_eq_some_iff.1 hm;injection e with e;subst e;exact hs)
 split at h1
 ·rename_i gs oU
  have hlen:gs.size=sh.length:=by have:=pe h1;rw[D3 hsh] at this;simpa using this
  refine⟨fun e k w hk=>?_,fun k w ms hk Fu=>?_⟩
  ·cases k <;> first | (exact hk.elim) | skip
   rename_i xs
   have hl:=iP (sh:=sh) hk
   have hl:xs.size=sh.length:=by simpa using hl
   have:=u9 e 9998 w xs gs.toList tk.zero 0 h1 fun j hj=>⟨xs[j]'(by simp at hj;omega),by rw[Nat.zero_add];exact Array.getElem?_eq_getElem _⟩
   exact (u_ oU e 9999 w xs).trans (by rw[this];rfl)
  rw[run_findKey_eq w (by rw[oU]) k ms]
  show (Instr.findAsking kt k ms 0).run P w=.ok (mz k ms 0) w
  generalize 0=i
  induction ms generalizing i with
  | nil=>rfl
  | cons m ms ih=>
   have Ap:=Fu m List.mem_cons_self
   cases k <;> first | (exact hk.elim) | skip
   rename_i xs
   obtain⟨mk,mv,mb⟩:=m
   cases mk <;> first | (exact Ap.elim) | skip
   rename_i ys
   have RL:xs.size=sh.length:=by simpa using iP (sh:=sh) hk
   have RM:ys.size=sh.length:=by simpa using iP (sh:=sh) Ap
   have kD:∀(zs:Array Value) (i:Nat) x v,(zs.toList.map PV.im)[i]?=some x->zs[i]?=some v->x=.im v:=fun zs i x v q1 q2=>by
    rw[List.getElem?_map,Array.getElem?_toList,q2] at q1
    injection q1 with q1
    exact q1.symm
   have:=wZ oU h2 h1 (FU (sh:=sh) hsh hk Ap) xs ys w (kD xs) (kD ys) (by simp) (by simp) (by simp;omega)
   unfold Instr.findAsking mz
   simp only[Sem.run_bind,this,Result.andThen_ok,wo]
   cases wm xs.toList ys.toList with
   | true=>rfl
   | false=>exact ih (fun x hx=>Fu x (List.mem_cons_of_mem _ hx)) _
 cases h1
end Go.AM
namespace Go.AM
open Go.RowKit
theorem aD.eG {A:bE} (hC:a8 A.C) (s:AS) (d:Nat) (e:TypeId) (ti:TI) (hd:d < 100000) (hn:s.t d=.nl) (hT:A.C.T e=some ti) (hpos:0 < ti.size):
  aD A s ⟨aA (fw d s).t d (.ow d),aA (fw d s).h d (.row e [])⟩:=by
 intro S rho a w sim
 have hv:a.tmps.getD d undef=.slice none 0 0:=by
  have:=sim.tm d trivial
  rw[hn] at this
  generalize a.tmps.getD d undef=v at this
  cases this;rfl
 have o5:=sim.free d (.row e [])
 obtain⟨info,z,h1,h2,h3,h4,h5,h6,h7,h8⟩:=hC.eK e ti hT
 have aP:=o5.new hC d (.row e []) hd (fun h=>h rfl) (ar _ _ _) w rfl rfl rfl (Nat.le_refl _) (fun _=>False) (fun _ _ _=>rfl) (fun _ h=>h.elim) (.slice none 0 0) (fun g hg=>by cases hg) fun T=>by
  show aw _ _ _ _ _ (aA rho d _ d)
  rw[ar]
  exact⟨info,[],h1,by omega,⟨by simp,.inl ⟨rfl,rfl⟩⟩,by simp,by simp,by simp⟩
 have dR:bd A bA bA S (aA rho d (.slice none 0 0)) ⟨(fw d s).t,aA (fw d s).h d (.row e [])⟩ a w:=aP.mq (fun _ _=>trivial) (fun k=>⟨fun _=>by by_cases e:k=d;exact .inr e;exact .inl e,fun _=>trivial⟩)
 refine⟨S,_,{ dR with tm:=fun j _=>?_ }⟩
 by_cases ej:j=d
 ·subst ej
  show aI _ _ _ _ _ _ (aA _ _ _ _) _
  rw[ar]
  exact .ow j _ fun _=>⟨trivial,by rw[ar];exact hv⟩
 show aI _ _ _ _ _ _ (aA _ _ _ _) _
 rw[aE _ _ ej]
 exact dR.tm j trivial
theorem aD.eh {A:bE} (hC:a8 A.C) (s:AS) (d:Nat) {y:PV} {fz:List (Nat×AB)} (h:AM.eh s.h (s.t d) fun y' iL=>y'=y/\iL=fz):aD A s ⟨aA s.t d (.p y),app s.h fz⟩:=by
 intro S rho a w sim
 obtain⟨y',iL,S',⟨rfl,rfl⟩,bc,hp,hS,hF,_⟩:=eM hC sim (h:=s.h) (fun _=>.inl rfl) (sim.tm d trivial) h
 refine⟨S',rho,{ bc with tm:=fun j _=>?_ }⟩
 by_cases ej:j=d
 ·subst ej
  show aI _ _ _ _ _ _ (aA _ _ _ _) _
  rw[ar]
  exact .p _ _ hp
 show aI _ _ _ _ _ _ (aA _ _ _ _) _
 rw[aE _ _ ej]
 exact bc.tm j trivial
theorem aD.nil {A:bE} (hC:a8 A.C) (s:AS) (d:Nat) (h:s.t d=.nl):aD A s ⟨aA s.t d (.p (.sl [])),s.h⟩:=aD.eh hC s d (y:=.sl []) (fz:=[]) (by rw[h];exact⟨rfl,rfl⟩)
theorem aD.own {A:bE} (hC:a8 A.C) (s:AS) (d:Nat) {id:Nat} {e:TypeId} {es:List (List PV)} (h:s.t d=.ow id) (h2:s.h id=.row e es):aD A s ⟨aA s.t d (.p (.sl es)),aA s.h id (.fK es)⟩:=aD.eh hC s d (y:=.sl es) (fz:=[(id,.fK es)]) (by rw[h];simp only[AM.eh,AM.gY];rw[h2];exact⟨rfl,rfl⟩)
theorem aD.JI {A:bE} (s:AS) (i d:Nat) (hid:i≠d) (hd:d < 100000):aD A s (iJ i d s):=fun S _ _ _ sim=>⟨S,_,sim.rename i d hid hd⟩
theorem aD.va {A:bE} (hC:a8 A.C) (s:AS) (id j d:Nat) (e:TypeId) (ti:TI) (cs:List AV) (hd:d < 100000) (hid:id≠d) (hb:s.h id=.box cs) (hn:cs[j]?=some .nl) (hT:A.C.T e=some ti) (hpos:0 < ti.size):
  aD A s ⟨(fw d s).t,aA (aA (fw d s).h d (.row e [])) id (.box ((cs.map (sc d)).set j (.ow d)))⟩:=by
 intro S rho a w sim
 have o5:=sim.free d (.row e [])
 obtain⟨info,z,h1,h2,h3,h4,h5,h6,h7,h8⟩:=hC.eK e ti hT
 have aP:=o5.new hC d (.row e []) hd (fun h=>h rfl) (ar _ _ _) w rfl rfl rfl (Nat.le_refl _) (fun _=>False) (fun _ _ _=>rfl) (fun _ h=>h.elim) (.slice none 0 0) (fun g hg=>by cases hg) fun T=>by
  show aw _ _ _ _ _ (aA rho d _ d)
  rw[ar]
  exact⟨info,[],h1,by omega,⟨by simp,.inl ⟨rfl,rfl⟩⟩,by simp,by simp,by simp⟩
 have dR:bd A bA bA S (aA rho d (.slice none 0 0)) ⟨(fw d s).t,aA (fw d s).h d (.row e [])⟩ a w:=aP.mq (fun _ _=>trivial) (fun k=>⟨fun _=>by by_cases e:k=d;exact .inr e;exact .inl e,fun _=>trivial⟩)
 have aC:(aA (fw d s).h d (.row e [])) id=.box (cs.map (sc d)):=by
  rw[aE _ _ hid]
  show aA (fun k=>qM d (s.h k)) d .none id=_
  rw[aE _ _ hid,hb]
  rfl
 refine⟨S,_,dR.write hC id trivial (by show ((aA (fw d s).h d (.row e [])) id).live;rw[aC];trivial) _ (fun _ h=>by cases h) w rfl rfl rfl rfl (fun _ _=>rfl) fun T=>?_⟩
 have hh:=dR.hp id trivial
 have hh:cZ S w A.C.P bA (aA rho d (.slice none 0 0)) (aA (fw d s).h d (.row e [])) id ((aA (fw d s).h d (.row e [])) id):=hh
 rw[aC] at hh
 obtain⟨g,ty,c,k1,k2,k3,k4⟩:=hh
 refine⟨g,ty,c,k1,k2,by rw[k3,List.length_set],fun i x u hi hu=>?_⟩
 by_cases ei:i=j
 ·subst ei
  have hj:(cs.map (sc d))[i]?=some .nl:=by rw[List.getElem?_map,hn];rfl
  rw[List.getElem?_set_self (ao hj)] at hi
  injection hi with hi
  subst hi
  obtain⟨k5,k6⟩:=k4 i _ u hj hu
  refine⟨k5,.ow d u fun _=>⟨trivial,?_⟩⟩
  rw[ar]
  cases k6;rfl
 rw[List.getElem?_set_ne (fun e=>ei e.symm)] at hi
 obtain⟨k5,k6⟩:=k4 i x u hi hu
 exact⟨k5,k6.bP T⟩
theorem aD.vc {A:bE} (hC:a8 A.C) (s:AS) (id j i:Nat) (e:TypeId) (es:List (List PV)) (cs:List AV) (hid:id≠i) (hb:s.h id=.box cs) (hn:cs[j]?=some (.ow i)) (hr:s.h i=.row e es):
  aD A s ⟨s.t,aA (aA s.h i (.fK es)) id (.box (cs.set j (.p (.sl es))))⟩:=by
 intro S rho a w sim
 have o5:=sim.tF hC i trivial hr
 have aC:(aA s.h i (.fK es)) id=.box cs:=by rw[aE _ _ hid];exact hb
 refine⟨_,_,o5.write hC id trivial (by show ((aA s.h i (.fK es)) id).live;rw[aC];trivial) _ (fun _ h=>by cases h) w rfl rfl rfl rfl (fun _ _=>rfl) fun T=>?_⟩
 have hh:=o5.hp id trivial
 have hh:cZ _ w A.C.P bA rho (aA s.h i (.fK es)) id ((aA s.h i (.fK es)) id):=hh
 rw[aC] at hh
 have hf:=o5.hp i trivial
 have hf:cZ _ w A.C.P bA rho (aA s.h i (.fK es)) i ((aA s.h i (.fK es)) i):=hf
 rw[ar] at hf
 obtain⟨g,ty,c,k1,k2,k3,k4⟩:=hh
 refine⟨g,ty,c,k1,k2,by rw[k3,List.length_set],fun q x u hi hu=>?_⟩
 by_cases ei:q=j
 ·subst ei
  rw[List.getElem?_set_self (ao hn)] at hi
  injection hi with hi
  subst hi
  obtain⟨k5,k6⟩:=k4 q _ u hn hu
  refine⟨k5,.p _ _ ?_⟩
  rw[(k6.bF (by rw[ar];trivial)).2]
  exact hf
 rw[List.getElem?_set_ne (fun e=>ei e.symm)] at hi
 obtain⟨k5,k6⟩:=k4 q x u hi hu
 exact⟨k5,k6.bP T⟩
end Go.AM
namespace Go.AM
open Go.RowKit
def lV:List HC->List Nat->List AV
 | [],_=>[]
 | .p x::r,ns=>.p x::lV r ns
 | .row _ _::r,n::ns=>.ow n::lV r ns
 | .row _ _::r,[]=>.junk::lV r []
def s9:List HC->List Nat->List (Nat×AB)
 | [],_=>[]
 | .p _::r,ns=>s9 r ns
 | .row e es::r,n::ns=>(n,.row e es)::s9 r ns
 | .row _ _::_,[]=>[]
def rowsOf:List HC->Nat
 | []=>0
 | .p _::r=>rowsOf r
 | .row _ _::r=>rowsOf r+1
def fY:List (Nat×AB)->AS->AS
 | [],s=>s
 | (d,b)::r,s=>fY r ⟨(fw d s).t,aA (fw d s).h d b⟩
theorem pf:∀{cs:List HC} {ns:List Nat},rowsOf cs=ns.length->(s9 cs ns).map (·.1)=ns
 | [],ns,h=>by cases ns with | nil=>rfl | cons n ns=>simp[rowsOf] at h
 | .p x::cs,ns,h=>by show (s9 cs ns).map _=_;exact pf h
 | .row e es::cs,[],h=>by simp[rowsOf] at h
 | .row e es::cs,n::ns,h=>by
  simp only[rowsOf,List.length_cons,Nat.add_right_cancel_iff] at h
  simp[s9,pf h]
theorem AU:∀{cs:List HC} {ns:List Nat} {n:Nat} {b:AB},(n,b)∈s9 cs ns->∃(j:Nat) (e:TypeId) (es:List (List PV)),cs[j]?=some (.row e es)/\b=.row e es/\(lV cs ns)[j]?=some (.ow n)
 | [],ns,n,b,h=>by cases h
 | .p x::cs,ns,n,b,h=>by
  obtain⟨j,e,es,h1,h2,h3⟩:=AU (cs:=cs) (ns:=ns) h
  exact⟨j+1,e,es,h1,h2,h3⟩
 | .row e es::cs,[],n,b,h=>by cases h
 | .row e es::cs,m::ns,n,b,h=>by
  rcases List.mem_cons.1 h with h | h
  ·injection h with h1 h2
   subst h1 h2
   exact⟨0,e,es,rfl,rfl,rfl⟩
  obtain⟨j,e,es,h1,h2,h3⟩:=AU (cs:=cs) (ns:=ns) h
  exact⟨j+1,e,es,h1,h2,h3⟩
theorem vd:∀{cs:List HC} {ns:List Nat} {j:Nat} {x:AV},rowsOf cs=ns.length->(lV cs ns)[j]?=some x->(∃z,cs[j]?=some (.p z)/\x=.p z)\/∃n e es,cs[j]?=some (.row e es)/\x=.ow n/\(n,.row e es)∈s9 cs ns
 | [],ns,j,x,_,h=>by simp[lV] at h
 | .p y::cs,ns,0,x,_,h=>by simp[lV] at h;exact .inl ⟨y,rfl,h.symm⟩
 | .p y::cs,ns,j+1,x,hl,h=>by
  have:=vd (cs:=cs) (ns:=ns) (j:=j) hl (by simpa [lV] using h)
  exact this
 | .row e es::cs,[],j,x,hl,_=>by simp[rowsOf] at hl
 | .row e es::cs,n::ns,0,x,_,h=>by simp[lV] at h;exact .inr ⟨n,e,es,rfl,h.symm,by simp[s9]⟩
 | .row e es::cs,n::ns,j+1,x,hl,h=>by
  simp only[rowsOf,List.length_cons,Nat.add_right_cancel_iff] at hl
  rcases vd (cs:=cs) (ns:=ns) (j:=j) hl (by simpa [lV] using h) with h | ⟨m,e',bW,h1,h2,h3⟩
  ·exact .inl h
  exact .inr ⟨m,e',bW,h1,h2,by simp[s9,h3]⟩
theorem qO:∀{cs:List HC} {ns:List Nat},(lV cs ns).length=cs.length
 | [],_=>rfl
 | .p x::cs,ns=>by simp[lV,qO (cs:=cs)]
 | .row e es::cs,[]=>by simp[lV,qO (cs:=cs)]
 | .row e es::cs,n::ns=>by simp[lV,qO (cs:=cs)]
theorem qa {A:bE} {S:Nat->Prop} {rho:Nat->Value} {a:Act} {w:World}:∀(l:List (Nat×AB)) (L:Nat->Prop) (s:AS),bd A bA L S rho s a w->bd A bA (fun k=>L k/\∀p∈l,p.1≠k) S rho (fY l s) a w
 | [],L,s,sim=>sim.mq (fun _ h=>h) (fun i=>⟨fun h=>h.1,fun h=>⟨h,by simp⟩⟩)
 | (d,b)::l,L,s,sim=>(qa l _ _ (sim.GY d b)).mq (fun _ h=>h) (fun i=>⟨fun ⟨h1,h2⟩=>⟨⟨h1,fun e=>h2 (d,b) (by simp) e.symm⟩,fun p hp=>h2 p (by simp[hp])⟩,fun ⟨⟨h1,h2⟩,h3⟩=>⟨h1,fun p hp=>by
   rcases List.mem_cons.1 hp with h | h
   ·subst h;exact fun e=>h2 e.symm
   exact h3 p h⟩⟩)
theorem kR:∀(l:List (Nat×AB)) (s:AS) (k:Nat),(∀p∈l,p.1≠k)->(∀d,qM d (s.h k)=s.h k)->(fY l s).h k=s.h k
 | [],s,k,_,_=>rfl
 | (d,b)::l,s,k,h,hs=>by
  have hk:k≠d:=fun e=>h (d,b) (by simp) e.symm
  have e1:aA (fw d s).h d b k=s.h k:=by
   rw[aE _ _ hk]
   show aA (fun k=>qM d (s.h k)) d .none k=_
   rw[aE _ _ hk]
   exact hs d
  show (fY l ⟨(fw d s).t,aA (fw d s).h d b⟩).h k=_
  rw[kR l _ k (fun p hp=>h p (by simp[hp])) (fun d'=>by show qM d' (aA (fw d s).h d b k)=aA (fw d s).h d b k;rw[e1];exact hs d')]
  exact e1
theorem rM:∀(l:List (Nat×AB)) (s:AS) (k:Nat) (b:AB),(l.map (·.1)).Nodup->(∀d,qM d b=b)->(k,b)∈l->(fY l s).h k=b
 | [],s,k,b,_,_,h=>by cases h
 | (d,b')::l,s,k,b,hn,hb,h=>by
  simp only[List.map_cons,List.nodup_cons] at hn
  show (fY l ⟨(fw d s).t,aA (fw d s).h d b'⟩).h k=_
  rcases List.mem_cons.1 h with h | h
  ·injection h with h1 h2
   subst h1 h2
   rw[kR l _ k (fun p hp e=>hn.1 (List.mem_map.2 ⟨p,hp,e⟩)) (fun d'=>by show qM d' (aA (fw k s).h k b k)=aA (fw k s).h k b k;rw[ar];exact hb d')]
   exact ar _ _ _
  exact rM l _ k b hn.2 hb h
theorem kp:∀{l:List Nat},cE l=true->l.Nodup
 | [],_=>by simp
 | n::l,h=>by
  simp[cE] at h
  refine List.nodup_cons.2 ⟨fun hm=>?_,kp h.2.2⟩
  rw[ib.2 hm] at h
  cases h.1
theorem aD.open {A:bE} (hC:a8 A.C) (s:AS) (id:Nat) (ns:List Nat) {cs:List HC} (hb:s.h id=.aC cs) (hl:rowsOf cs=ns.length) (hg:cE ns=true) (hid:wL id ns=false):
  aD A s ⟨(fY (s9 cs ns) s).t,aA (fY (s9 cs ns) s).h id (.box (lV cs ns))⟩:=by
 intro S rho a w ky
 have Pp:=pf hl
 have yL:((s9 cs ns).map (·.1)).Nodup:=by rw[Pp];exact kp hg
 have nu:∀n,n∈ns↔∃b,(n,b)∈s9 cs ns:=fun n=>by rw[show (n∈ns)=(n∈(s9 cs ns).map (·.1)) by rw[Pp]];simp
 have w5:¬id∈ns:=fun h=>by rw[ib.2 h] at hid;cases hid
 have sim:=qa (s9 cs ns) bA s ky
 have sim:bd A bA (fun k=>¬k∈ns) S rho (fY (s9 cs ns) s) a w:=sim.mq (fun _ h=>h) (fun i=>⟨fun h=>⟨trivial,fun p hp e=>h (by rw[nu,<-e];exact⟨p.2,hp⟩)⟩,fun ⟨_,h⟩ hm=>by obtain⟨b,jG⟩:=(nu i).1 hm;exact h _ jG rfl⟩)
 obtain⟨s1,yA⟩:∃s1,s1=fY (s9 cs ns) s:=⟨_,rfl⟩
 have rN:s1.h id=.aC cs:=by
  rw[yA,kR _ _ id (fun p hp e=>w5 (by rw[nu,<-e];exact⟨p.2,hp⟩)) (fun d=>by rw[hb];rfl),hb]
 have KZ:∀n b,(n,b)∈s9 cs ns->s1.h n=b:=fun n b hm=>by
  obtain⟨j,e,es,_,rfl,_⟩:=AU hm
  rw[yA];exact rM _ _ n _ yL (fun d=>rfl) hm
 rw[<-yA] at sim ⊢
 have hh:=sim.hp id w5
 rw[rN] at hh
 obtain⟨g,ty,c,k1,hB⟩:=hh
 have B6:br (rho id)=some g:=by rw[k1];rfl
 have ba:(s1.h id).live:=by rw[rN];trivial
 have place:∀n,n∈ns->∃(j:Nat) (e:TypeId) (es:List (List PV)) (u:Value),cs[j]?=some (.row e es)/\(lV cs ns)[j]?=some (.ow n)/\c[j]?=some u/\s1.h n=.row e es/\(n,AB.row e es)∈s9 cs ns:=fun n hm=>by
  obtain⟨b,jG⟩:=(nu n).1 hm
  obtain⟨j,e,es,h1,rfl,h3⟩:=AU jG
  obtain⟨u,hu⟩:=fP hB.sz.symm (ao h1)
  exact⟨j,e,es,u,h1,h3,hu,KZ n _ jG,jG⟩
 obtain⟨F,hF⟩:∃F:Nat->Value,∀n,n∈ns->∃(j:Nat) (e:TypeId) (es:List (List PV)),cs[j]?=some (.row e es)/\(lV cs ns)[j]?=some (.ow n)/\c[j]?=some (F n)/\s1.h n=.row e es/\(n,AB.row e es)∈s9 cs ns:=by
  have ex:∀n,∃u:Value,n∈ns->∃(j:Nat) (e:TypeId) (es:List (List PV)),cs[j]?=some (.row e es)/\(lV cs ns)[j]?=some (.ow n)/\c[j]?=some u/\s1.h n=.row e es/\(n,AB.row e es)∈s9 cs ns:=fun n=>by
   by_cases hm:n∈ns
   ·obtain⟨j,e,es,u,h⟩:=place n hm
    exact⟨u,fun _=>⟨j,e,es,h⟩⟩
   exact⟨undef,fun h=>(hm h).elim⟩
  exact⟨fun n=>(ex n).choose,fun n=>(ex n).choose_spec⟩
 have FW:∀{cs:List HC} {ns:List Nat} {i j n:Nat},rowsOf cs=ns.length->cE ns=true->(lV cs ns)[i]?=some (.ow n)->(lV cs ns)[j]?=some (.ow n)->i=j:=by
  intro cs ns i j n hl hg h1 h2
  have QD:∀{cs:List HC} {ns:List Nat},rowsOf cs=ns.length->bR (lV cs ns)=ns:=by
   intro cs
   induction cs with
   | nil=>intro ns h;cases ns with | nil=>rfl | cons n ns=>simp[rowsOf] at h
   | cons x cs ih=>
    intro ns h
    cases x with
    | p x=>exact ih h
    | row e es=>
     cases ns with
     | nil=>simp[rowsOf] at h
     | cons n ns=>
      simp only[rowsOf,List.length_cons,Nat.add_right_cancel_iff] at h
      show n::bR (lV cs ns)=_
      rw[ih h]
  exact jL (by rw[QD hl];exact hg) h1 h2
 obtain⟨rho',Ha⟩:∃rho':Nat->Value,rho'=fun k=>if k∈ns then F k else rho k:=⟨_,rfl⟩
 have JN:∀k,k∈ns->rho' k=F k:=fun k hk=>by rw[Ha];exact if_pos hk
 have zl:∀k,¬k∈ns->rho' k=rho k:=fun k hk=>by rw[Ha];exact if_neg hk
 have Mm:∀k,(k=id/\aA s1.h id (.box (lV cs ns)) k=.box (lV cs ns))\/(k≠id/\aA s1.h id (.box (lV cs ns)) k=s1.h k):=fun k=>by
  by_cases e:k=id
  ·subst e;exact .inl ⟨rfl,ar _ _ _⟩
  exact .inr ⟨e,aE _ _ e⟩
 have T:g_ S S w w (fun k=>¬k∈ns) bA rho rho' s1.h (aA s1.h id (.box (lV cs ns))):=⟨fun _ h=>h,fun _ _=>rfl,fun j hj=>⟨by
   rcases Mm j with⟨rfl,h⟩ | ⟨_,h⟩
   ·rw[rN];trivial
   ·rw[h] at hj;exact hj,fun hn=>⟨trivial,zl j hn⟩⟩,fun j e hj=>by
   rcases Mm j with⟨_,h⟩ | ⟨_,h⟩
   ·rw[h] at hj;cases hj
   rw[h] at hj;exact hj⟩
 have owner:∀j k,(aA s1.h id (.box (lV cs ns)) j).live->hasB w (aA s1.h id (.box (lV cs ns)) j) (rho' j) k->∃o,¬o∈ns/\(s1.h o).live/\hasB w (s1.h o) (rho o) k/\(if j∈ns then o=id else o=j):=fun j k hl ho=>by
  by_cases hj:j∈ns
  ·obtain⟨i,e,es,h1,h2,h3,h4,h5⟩:=hF j hj
   have QE:j≠id:=fun e=>w5 (e ▸ hj)
   rw[aE _ _ QE,h4,JN j hj] at ho
   refine⟨id,w5,ba,?_,by rw[if_pos hj]⟩
   rw[rN]
   exact .inr <| .inl ⟨cs,g,rfl,B6,c,ty,_,i,_,F j,hB.hp,h1,trivial,h3,aq rfl ho⟩
  rw[zl j hj] at ho
  rcases Mm j with⟨rfl,h⟩ | ⟨_,h⟩
  ·rw[h] at ho
   exact⟨j,hj,ba,.inl (aq rfl ho),by rw[if_neg hj]⟩
  rw[h] at hl ho
  exact⟨j,hj,hl,ho,by rw[if_neg hj]⟩
 exact⟨S,rho',
 {tm:=fun j hj=>(sim.tm j hj).bP T
  sz:=sim.sz,df:=sim.df,nb:=sim.nb
  pn:=fun k hk=>by rw[zl k fun h=>by have:=jM hg h;omega];exact sim.pn k hk
  ev:=sim.ev,s0:=sim.s0,st:=sim.st,sb:=sim.sb
  hp:=fun j _=>by
   show cZ _ _ _ _ _ _ _ (aA s1.h id (.box (lV cs ns)) j)
   rcases Mm j with⟨rfl,h⟩ | ⟨bG,h⟩
   ·rw[h]
    refine⟨g,ty,c,by rw[zl j w5];exact k1,hB.hp,by rw[qO];exact hB.sz,fun i x u hi hu=>?_⟩
    rcases vd hl hi with⟨z,h1,rfl⟩ | ⟨n,e,es,h1,rfl,h3⟩
    ·exact⟨(hB.cell i _ u h1 hu).1,.p _ _ (hB.cell i _ u h1 hu).2⟩
    refine⟨(hB.cell i _ u h1 hu).1,.ow n u fun _=>⟨trivial,?_⟩⟩
    have hm:n∈ns:=(nu n).2 ⟨_,h3⟩
    obtain⟨i',e',bW,q1,q2,q3,q4,q5⟩:=hF n hm
    have:=FW hl hg q2 hi
    subst this
    rw[JN n hm]
    rw[q3] at hu
    injection hu with hu
    exact hu.symm
   rw[h]
   by_cases hj:j∈ns
   ·obtain⟨i,e,es,h1,h2,h3,h4,h5⟩:=hF j hj
    rw[h4]
    show aw _ _ _ _ _ (rho' j)
    rw[JN j hj]
    exact (hB.cell i _ _ h1 h3).2
   exact (sim.hp j hj).bP T (fun _ _ _=>rfl) (fun _=>zl j hj)
  dj:=fun i j k _ _ li lj hi hj=>by
   obtain⟨o,o1,o2,o3,o4⟩:=owner i k li hi
   obtain⟨p,p1,p2,p3,p4⟩:=owner j k lj hj
   have:=sim.dj o p k o1 p1 o2 p2 o3 p3
   subst this
   by_cases ei:i∈ns
   ·rw[if_pos ei] at o4
    subst o4
    have hi:hasB w (aA s1.h o (.box (lV cs ns)) i) (rho' i) k:=hi
    obtain⟨i1,e1,Mb,q1,q2,q3,q4,q5⟩:=hF i ei
    have Pq:br (F i)=some k:=by
     rw[aE _ _ (fun e=>w5 (by rw[<-e];exact ei)),q4,JN i ei] at hi
     exact aq rfl hi
    by_cases ej:j∈ns
    ·have hj:hasB w (aA s1.h o (.box (lV cs ns)) j) (rho' j) k:=hj
     obtain⟨j1,e2,jg,r1,r2,r3,r4,r5⟩:=hF j ej
     have NY:br (F j)=some k:=by
      rw[aE _ _ (fun e=>w5 (by rw[<-e];exact ej)),r4,JN j ej] at hj
      exact aq rfl hj
     have:=hB.dis i1 j1 _ _ _ _ k q1 r1 q3 r3 trivial trivial Pq NY
     subst this
     rw[q2] at r2
     injection r2 with r2
     injection r2
    rw[if_neg ej] at p4
    subst p4
    exfalso
    have hj:hasB w (aA s1.h o (.box (lV cs ns)) o) (rho' o) k:=hj
    rw[ar,zl o ej] at hj
    have hj:=aq rfl hj
    rw[B6] at hj
    injection hj with hj
    exact hB.top i1 _ _ k q1 q3 trivial Pq hj.symm
   rw[if_neg ei] at o4
   by_cases ej:j∈ns
   ·rw[if_pos ej] at p4
    subst o4
    subst p4
    exfalso
    have hi:hasB w (aA s1.h o (.box (lV cs ns)) o) (rho' o) k:=hi
    have hj:hasB w (aA s1.h o (.box (lV cs ns)) j) (rho' j) k:=hj
    obtain⟨j1,e2,jg,r1,r2,r3,r4,r5⟩:=hF j ej
    have NY:br (F j)=some k:=by
     rw[aE _ _ (fun e=>w5 (by rw[<-e];exact ej)),r4,JN j ej] at hj
     exact aq rfl hj
    rw[ar,zl o ei] at hi
    have hi:=aq rfl hi
    rw[B6] at hi
    injection hi with hi
    exact hB.top j1 _ _ k r1 r3 trivial NY hi.symm
   rw[if_neg ej] at p4
   exact o4.symm.trans p4
  lv:=fun i k _ li hi=>by
   obtain⟨o,o1,o2,o3,_⟩:=owner i k li hi
   exact sim.lv o k o1 o2 o3
  fr:=sim.fr }⟩
end Go.AM
namespace Go.AM
open Go.RowKit
def cellAt (w:World) (g p:Nat) (u:Value):Prop:=∃(c:Array Value) (ty:TypeId) (m:Nat×Nat),w.heap[g]?=some (.cells c ty m)/\c[p]?=some u
theorem iQ {w:World} {g p:Nat} {u v:Value} (h:cellAt w g p u) (k:cellAt w g p v):u=v:=by
 obtain⟨c,ty,m,h1,h2⟩:=h
 obtain⟨c',O5,m',k1,k2⟩:=k
 rw[h1] at k1
 injection k1 with k1
 injection k1 with k1
 subst k1
 rw[h2] at k2
 injection k2
theorem cg {w:World} {es:List (List HX)} {g a j:Nat} {u:Value}:b_ w es g a j u↔∃r e xs,es[a]?=some r/\r[j]?=some (.row e xs)/\cellAt w g (a*r.length+j) u:=
 ⟨fun ⟨r,e,xs,c,ty,m,h1,h2,h3,h4⟩=>⟨r,e,xs,h1,h2,c,ty,m,h3,h4⟩,fun ⟨r,e,xs,h1,h2,c,ty,m,h3,h4⟩=>⟨r,e,xs,c,ty,m,h1,h2,h3,h4⟩⟩
theorem aw.re {α β:Type} {P:Program} {w:World} {R:α->Value->Prop} {R':β->Value->Prop} {e:TypeId} {es:List (List α)} {jg:List (List β)} {v:Value} (h:aw P w R e es v) (hl:jg.length=es.length)
  (hk:∀(a:Nat) r r2,es[a]?=some r->jg[a]?=some r2->r2.length=r.length)
  (hc:∀(a:Nat) r r2 (j:Nat) x x2 u,es[a]?=some r->jg[a]?=some r2->r[j]?=some x->r2[j]?=some x2->(∀g,br v=some g->cellAt w g (a*r.length+j) u)->R x u->R' x2 u):aw P w R' e jg v:=by
 obtain⟨i,xs,h1,h2,h3,h4,h5,h6⟩:=h
 have old:∀{a:Nat} {r2:List β},jg[a]?=some r2->∃r,es[a]?=some r:=fun {a r2} ha=>⟨_,List.getElem?_eq_getElem (by rw[<-hl];exact ao ha)⟩
 refine⟨i,xs,h1,h2,by rw[hl];exact h3,fun r2 mB=>?_,h5,fun a r2 j x2 ha hj=>?_⟩
 ·obtain⟨a,ha⟩:=List.mem_iff_getElem?.1 mB
  obtain⟨r,hr⟩:=old ha
  rw[hk a r r2 hr ha]
  exact h4 r (List.mem_of_getElem? hr)
 obtain⟨r,hr⟩:=old ha
 have hlen:=hk a r r2 hr ha
 obtain⟨x,hx⟩:∃x,r[j]?=some x:=⟨_,List.getElem?_eq_getElem (by rw[<-hlen];exact ao hj)⟩
 obtain⟨u,hu,sW⟩:=h6 a r j x hr hx
 refine⟨u,hu,hc a r r2 j x x2 u hr ha hx hj (fun g hg=>?_) sW⟩
 have qJ:=h4 r (List.mem_of_getElem? hr)
 rcases h3.2 with⟨hn,_⟩ | ⟨g',cap,cur,hv,_,wh,k1,k2,k3,k4⟩
 ·rw[hn] at hg;cases hg
 rw[hv] at hg
 obtain rfl:=fh.1 hg
 refine⟨cur,_,_,wh,?_⟩
 rw[qJ]
 rw[<-k4,List.getElem?_take] at hu
 split at hu
 ·simpa using hu
 cases hu
theorem aD.QF {A:bE} (hC:a8 A.C) (s:AS) (id:Nat) {e:TypeId} {es:List (List PV)} (hb:s.h id=.row e es):aD A s ⟨s.t,aA s.h id (.an e (es.map oQ))⟩:=by
 intro S rho a w sim
 have zm:∀g k j u,¬b_ w (es.map oQ) g k j u:=fun g k j u h=>by
  obtain⟨r,e',mA,h1,h2,_⟩:=cg.1 h
  rw[List.getElem?_map] at h1
  obtain⟨q,_,rfl⟩:=Option.map_eq_some_iff.1 h1
  rw[oQ,List.getElem?_map] at h2
  obtain⟨z,_,hz⟩:=Option.map_eq_some_iff.1 h2
  cases hz
 have hh:=sim.hp id trivial
 rw[hb] at hh
 have hh:aw A.C.P w (az S w) e es (rho id):=hh
 refine⟨S,rho,sim.uG hC id trivial (by rw[hb];trivial) _ (fun e' h=>by rw[hb];exact h) w rfl rfl rfl rfl (fun _ _=>rfl) (fun T=>?_) (fun g h=>?_)⟩
 ·refine⟨hh.re (by simp) (fun k r r2 h1 h2=>?_) (fun k r r2 j x x2 u h1 h2 h3 h4 _ hx=>?_),⟨fun g k j u b _ h=>absurd h (zm _ _ _ _),fun g k j k' j' u u' b _ h=>absurd h (zm _ _ _ _)⟩⟩
  ·rw[List.getElem?_map,h1] at h2
   injection h2 with h2
   rw[<-h2,oQ,List.length_map]
  rw[List.getElem?_map,h1] at h2
  injection h2 with h2
  rw[<-h2,oQ,List.getElem?_map,h3] at h4
  injection h4 with h4
  rw[<-h4]
  exact uA hx
 rw[cd] at h
 rcases h with h | ⟨g',k,j,u,_,h,_⟩
 ·exact .inl h
 exact absurd h (zm _ _ _ _)
def AW:HX->Prop
 | .av (.p _)=>True
 | .av .nl=>True
 | .row _ _=>True
 | _=>False
def AX (es:List (List HX)):Prop:=∀r∈es,∀x∈r,AW x
theorem Cg {es:List (List HX)} (h:AX es) (d:Nat):(es.map fun r=>r.map (HX.eO (sc d)))=es:=by
 conv=>rhs;rw[<-List.map_id es]
 refine List.map_congr_left fun r hr=>?_
 show r.map _=r
 conv=>rhs;rw[<-List.map_id r]
 refine List.map_congr_left fun x hx=>?_
 have:=h r hr x hx
 cases x with
 | row e es=>rfl
 | av y=>cases y <;> first | rfl | exact this.elim
theorem e_ {α:Type} {l:List α} {i a:Nat} {x y:α} (h:(l.set i x)[a]?=some y):(a=i/\y=x/\i < l.length)\/(a≠i/\l[a]?=some y):=by
 by_cases e:a=i
 ·subst e
  have hl:=ao h
  rw[List.length_set] at hl
  rw[List.getElem?_set_self hl] at h
  injection h with h
  exact .inl ⟨rfl,h.symm,hl⟩
 rw[List.getElem?_set_ne (fun e'=>e e'.symm)] at h
 exact .inr ⟨e,h⟩
theorem aD.AY {A:bE} (hC:a8 A.C) (s:AS) (id i j d:Nat) {e e':TypeId} {es:List (List HX)} {r:List HX} {xs:List (List PV)} (hd:d < 100000) (hid:id≠d) (hb:s.h id=.an e es) (hs:AX es) (hr:es[i]?=some r) (hj:r[j]?=some (.row e' xs)):
  aD A s ⟨(fw d s).t,aA (aA (fw d s).h d (.row e' xs)) id (.an e (es.set i (r.set j (.av (.ow d)))))⟩:=by
 intro S rho a w ky
 have sim:=ky.free d (.row e' xs)
 obtain⟨h1,NZ⟩:∃h1,h1=aA (fw d s).h d (.row e' xs):=⟨_,rfl⟩
 have rN:h1 id=.an e es:=by
  rw[NZ,aE _ _ hid]
  show aA (fun k=>qM d (s.h k)) d .none id=_
  rw[aE _ _ hid,hb]
  show AB.an e _=_
  rw[Cg hs]
 have Pr:h1 d=.row e' xs:=by rw[NZ,ar]
 rw[<-NZ] at sim ⊢
 obtain⟨jg,kS⟩:∃jg,jg=es.set i (r.set j (.av (.ow d))):=⟨_,rfl⟩
 rw[<-kS]
 have hh:=sim.hp id hid
 have hh:cZ S w A.C.P (fun k=>k≠d) rho h1 id (h1 id):=hh
 rw[rN] at hh
 obtain⟨hR,hS⟩:=hh
 obtain⟨g,u,hg,K0,sW⟩:=hR.wq hr hj
 have sW:aw A.C.P w (az S w) e' xs u:=sW
 have ba:(h1 id).live:=by rw[rN];trivial
 have dF:∀g' k p v,b_ w jg g' k p v->b_ w es g' k p v/\¬(k=i/\p=j):=by
  intro g' k p v hc
  obtain⟨q,e2,D4,q1,q2,q3⟩:=cg.1 hc
  rw[kS] at q1
  rcases e_ q1 with⟨rfl,rfl,_⟩ | ⟨hk,q1⟩
  ·rcases e_ q2 with⟨_,hx,_⟩ | ⟨hp,q2⟩
   ·cases hx
   exact⟨cg.2 ⟨r,e2,D4,hr,q2,by rw[List.length_set] at q3;exact q3⟩,fun h=>hp h.2⟩
  exact⟨cg.2 ⟨q,e2,D4,q1,q2,q3⟩,fun h=>hk h.1⟩
 have hown:∀b,br u=some b->hasB w (h1 id) (rho id) b:=fun b h=>by rw[rN,cd];exact .inr ⟨g,i,j,u,hg,K0,h⟩
 obtain⟨rho',gG⟩:∃rho',rho'=aA rho d u:=⟨_,rfl⟩
 have rd:rho' d=u:=by rw[gG,ar]
 have ro:∀k,k≠d->rho' k=rho k:=fun k h=>by rw[gG,aE _ _ h]
 have T:g_ S S w w (fun k=>k≠d) bA rho rho' h1 (aA h1 id (.an e jg)):=⟨fun _ h=>h,fun _ _=>rfl,fun k hk=>⟨by
   rcases aF h1 id (.an e jg) k with⟨rfl,h⟩ | ⟨_,h⟩
   ·rw[rN];trivial
   ·rw[h] at hk;exact hk,fun h=>⟨trivial,ro k h⟩⟩,fun k e2 hk=>by
   rcases aF h1 id (.an e jg) k with⟨rfl,h⟩ | ⟨_,h⟩
   ·rw[h] at hk;rw[rN];exact hk
   rw[h] at hk;exact hk⟩
 have owner:∀k b,(aA h1 id (.an e jg) k).live->hasB w (aA h1 id (.an e jg) k) (rho' k) b->∃o,o≠d/\(h1 o).live/\hasB w (h1 o) (rho o) b/\(if k=d then o=id/\br u=some b else o=k/\(k=id->br u≠some b)):=by
  intro k b hl ho
  by_cases hk:k=d
  ·subst hk
   rw[aE _ _ (fun e=>hid e.symm),Pr,rd] at ho
   have ho:=aq rfl ho
   exact⟨id,hid,ba,hown b ho,by rw[if_pos rfl];exact⟨rfl,ho⟩⟩
  rcases aF h1 id (.an e jg) k with⟨rfl,h⟩ | ⟨bG,h⟩
  ·rw[h,ro k hk] at ho
   rw[cd] at ho
   refine⟨k,hk,ba,?_,?_⟩
   ·rw[rN,cd]
    rcases ho with ho | ⟨g',k',p,v,o1,o2,o3⟩
    ·exact .inl ho
    exact .inr ⟨g',k',p,v,o1,(dF _ _ _ _ o2).1,o3⟩
   rw[if_neg hk]
   refine⟨rfl,fun _ Ps=>?_⟩
   rcases ho with ho | ⟨g',k',p,v,o1,o2,o3⟩
   ·rw[hg] at ho
    injection ho with ho
    exact hS.top g i j u b hg K0 Ps ho.symm
   rw[hg] at o1
   injection o1 with o1
   subst o1
   obtain⟨c1,c2⟩:=dF _ _ _ _ o2
   exact c2 (hS.dis g k' p i j v u b hg c1 K0 o3 Ps)
  rw[h,ro k hk] at ho
  rw[h] at hl
  exact⟨k,hk,hl,ho,by rw[if_neg hk];exact⟨rfl,fun e=>absurd e bG⟩⟩
 exact⟨S,rho',
 {tm:=fun k hk=>(sim.tm k hk).bP T
  sz:=sim.sz,df:=sim.df,nb:=sim.nb
  pn:=fun k hk=>by rw[ro k (by omega)];exact sim.pn k hk
  ev:=sim.ev,s0:=sim.s0,st:=sim.st,sb:=sim.sb
  hp:=fun k _=>by
   show cZ _ _ _ _ _ _ _ (aA h1 id (.an e jg) k)
   by_cases hk:k=d
   ·subst hk
    rw[aE _ _ (fun e=>hid e.symm),Pr]
    show aw _ _ _ _ _ (rho' k)
    rw[rd]
    exact sW
   rcases aF h1 id (.an e jg) k with⟨rfl,h⟩ | ⟨bG,h⟩
   ·rw[h]
    show aw _ _ _ _ _ (rho' k)/\oR _ _ (rho' k)
    rw[ro k hk]
    refine⟨hR.re (by rw[kS,List.length_set]) (fun p q q2 z1 z2=>?_) (fun p q q2 m x x2 v z1 z2 z3 z4 hcell hx=>?_),⟨fun g' p m v b c1 c2 c3=>hS.top g' p m v b c1 (dF _ _ _ _ c2).1 c3,fun g' p m p' m' v v' b c1 c2 c3 c4 c5=>hS.dis g' p m p' m' v v' b c1 (dF _ _ _ _ c2).1 (dF _ _ _ _ c3).1 c4 c5⟩⟩
    ·rw[kS] at z2
     rcases e_ z2 with⟨rfl,rfl,_⟩ | ⟨_,z2⟩
     ·rw[hr] at z1;injection z1 with z1;rw[<-z1,List.length_set]
     rw[z1] at z2;injection z2 with z2;rw[z2]
    have qb:my S w A.C.P (fun k=>k≠d) rho h1 x v->x2=x->my S w A.C.P bA rho' (aA h1 k (.an e jg)) x2 v:=fun hx K1=>by
     rw[K1]
     cases x with
     | av y=>exact aI.bP T hx
     | row e2 D4=>exact hx
    rw[kS] at z2
    rcases e_ z2 with⟨rfl,rfl,_⟩ | ⟨_,z2⟩
    ·rw[hr] at z1
     injection z1 with z1
     subst z1
     rcases e_ z4 with⟨rfl,rfl,_⟩ | ⟨_,z4⟩
     ·obtain⟨q',_,_,c1,_,c2⟩:=cg.1 K0
      rw[hr] at c1
      injection c1 with c1
      subst c1
      have:=iQ (hcell g hg) c2
      subst this
      exact .ow d _ fun _=>⟨trivial,rd.symm⟩
     rw[z3] at z4
     injection z4 with z4
     exact qb hx z4.symm
    rw[z1] at z2
    injection z2 with z2
    subst z2
    rw[z3] at z4
    injection z4 with z4
    exact qb hx z4.symm
   rw[h]
   exact (sim.hp k hk).bP T (fun _ _ _=>rfl) (fun _=>ro k hk)
  dj:=fun k m b _ _ lk lm hk hm=>by
   obtain⟨o,o1,o2,o3,o4⟩:=owner k b lk hk
   obtain⟨p,p1,p2,p3,p4⟩:=owner m b lm hm
   have:=sim.dj o p b o1 p1 o2 p2 o3 p3
   subst this
   by_cases ek:k=d <;> by_cases em:m=d
   ·rw[ek,em]
   ·rw[if_pos ek] at o4
    rw[if_neg em] at p4
    exact absurd o4.2 (p4.2 (p4.1.symm.trans o4.1))
   ·rw[if_neg ek] at o4
    rw[if_pos em] at p4
    exact absurd p4.2 (o4.2 (o4.1.symm.trans p4.1))
   rw[if_neg ek] at o4
   rw[if_neg em] at p4
   exact o4.1.symm.trans p4.1
  lv:=fun k b _ lk hk=>by
   obtain⟨o,o1,o2,o3,_⟩:=owner k b lk hk
   exact sim.lv o b o1 o2 o3
  fr:=sim.fr }⟩
theorem aD.K2 {A:bE} (hC:a8 A.C) (s:AS) (id i j d:Nat) {e e':TypeId} {es:List (List HX)} {r:List HX} {xs:List (List PV)} (hid:id≠d) (hb:s.h id=.an e es) (JO:s.h d=.row e' xs) (hr:es[i]?=some r) (hj:r[j]?=some (.av (.ow d))):
  aD A s ⟨s.t,aA (aA s.h d .none) id (.an e (es.set i (r.set j (.row e' xs))))⟩:=by
 intro S rho a w sim
 obtain⟨jg,kS⟩:∃jg,jg=es.set i (r.set j (.row e' xs)):=⟨_,rfl⟩
 rw[<-kS]
 have hh:=sim.hp id trivial
 rw[hb] at hh
 obtain⟨hR,hS⟩:=hh
 have ba:(s.h id).live:=by rw[hb];trivial
 have K3:(s.h d).live:=by rw[JO];trivial
 have Mn:=sim.hp d trivial
 rw[JO] at Mn
 have Mn:aw A.C.P w (az S w) e' xs (rho d):=Mn
 have up:∀k,(k=id/\aA (aA s.h d .none) id (.an e jg) k=.an e jg)\/(k=d/\k≠id/\aA (aA s.h d .none) id (.an e jg) k=.none)\/(k≠d/\k≠id/\aA (aA s.h d .none) id (.an e jg) k=s.h k):=fun k=>by
  by_cases h1:k=id
  ·subst h1;exact .inl ⟨rfl,ar _ _ _⟩
  by_cases h2:k=d
  ·subst h2;exact .inr (.inl ⟨rfl,h1,by rw[aE _ _ h1,ar]⟩)
  exact .inr (.inr ⟨h2,h1,by rw[aE _ _ h1,aE _ _ h2]⟩)
 have T:g_ S S w w bA bA rho rho s.h (aA (aA s.h d .none) id (.an e jg)):=⟨fun _ h=>h,fun _ _=>rfl,fun k hk=>⟨by
   rcases up k with⟨rfl,h⟩ | ⟨_,_,h⟩ | ⟨_,_,h⟩
   ·rw[hb];trivial
   ·rw[h] at hk;exact hk.elim
   ·rw[h] at hk;exact hk,fun h=>⟨trivial,rfl⟩⟩,fun k e2 hk=>by
   rcases up k with⟨rfl,h⟩ | ⟨_,_,h⟩ | ⟨_,_,h⟩
   ·rw[h] at hk;rw[hb];exact hk
   ·rw[h] at hk;cases hk
   rw[h] at hk;exact hk⟩
 have hval:∀g u,br (rho id)=some g->cellAt w g (i*r.length+j) u->u=rho d:=fun g u hg hu=>by
  obtain⟨i0,ws,q1,q2,q3,q4,q5,q6⟩:=hR
  obtain⟨u2,p1,p2⟩:=q6 i r j _ hr hj
  have p2:aI S w A.C.P bA rho s.h (.ow d) u2:=p2
  have:=(p2.bF (by rw[JO];trivial)).2
  rw[<-this]
  have qJ:=q4 r (List.mem_of_getElem? hr)
  rcases q3.2 with⟨hn,_⟩ | ⟨g',cap,cur,hv,_,wh,k1,k2,k3,k4⟩
  ·rw[hn] at hg;cases hg
  rw[hv] at hg
  obtain rfl:=fh.1 hg
  refine iQ hu ⟨cur,_,_,wh,?_⟩
  rw[qJ]
  rw[<-k4,List.getElem?_take] at p1
  split at p1
  ·simpa using p1
  cases p1
 have dF:∀g k p v,br (rho id)=some g->b_ w jg g k p v->(b_ w es g k p v/\¬(k=i/\p=j))\/(k=i/\p=j/\v=rho d):=by
  intro g k p v hg hc
  obtain⟨q,e2,D4,q1,q2,q3⟩:=cg.1 hc
  rw[kS] at q1
  rcases e_ q1 with⟨rfl,rfl,_⟩ | ⟨hk,q1⟩
  ·rw[List.length_set] at q3
   rcases e_ q2 with⟨rfl,_,_⟩ | ⟨hp,q2⟩
   ·exact .inr ⟨rfl,rfl,hval g v hg q3⟩
   exact .inl ⟨cg.2 ⟨r,e2,D4,hr,q2,q3⟩,fun h=>hp h.2⟩
  exact .inl ⟨cg.2 ⟨q,e2,D4,q1,q2,q3⟩,fun h=>hk h.1⟩
 have inner:∀g k p v b,br (rho id)=some g->b_ w es g k p v->br v=some b->br (rho d)≠some b:=fun g k p v b h1 h2 h3 h4=>
  hid (sim.dj id d b trivial trivial ba K3 (by rw[hb,cd];exact .inr ⟨g,k,p,v,h1,h2,h3⟩) (.inl h4))
 have owner:∀k b,(aA (aA s.h d .none) id (.an e jg) k).live->hasB w (aA (aA s.h d .none) id (.an e jg) k) (rho k) b->∃o,(s.h o).live/\hasB w (s.h o) (rho o) b/\(o=k/\k≠d\/o=d/\k=id):=by
  intro k b hl ho
  rcases up k with⟨rfl,h⟩ | ⟨_,_,h⟩ | ⟨h1,_,h⟩
  ·rw[h,cd] at ho
   rcases ho with ho | ⟨g,k',p,v,o1,o2,o3⟩
   ·exact⟨k,ba,.inl ho,.inl ⟨rfl,hid⟩⟩
   rcases dF _ _ _ _ o1 o2 with⟨c1,_⟩ | ⟨_,_,rfl⟩
   ·exact⟨k,ba,by rw[hb,cd];exact .inr ⟨g,k',p,v,o1,c1,o3⟩,.inl ⟨rfl,hid⟩⟩
   exact⟨d,K3,.inl o3,.inr ⟨rfl,rfl⟩⟩
  ·rw[h] at hl;exact hl.elim
  rw[h] at hl ho
  exact⟨k,hl,ho,.inl ⟨rfl,h1⟩⟩
 exact⟨S,rho,
 {tm:=fun k hk=>(sim.tm k hk).bP T
  sz:=sim.sz,df:=sim.df,nb:=sim.nb,pn:=sim.pn
  ev:=sim.ev,s0:=sim.s0,st:=sim.st,sb:=sim.sb
  hp:=fun k _=>by
   show cZ _ _ _ _ _ _ _ (aA (aA s.h d .none) id (.an e jg) k)
   rcases up k with⟨rfl,h⟩ | ⟨_,_,h⟩ | ⟨h1,bG,h⟩
   ·rw[h]
    refine⟨hR.re (by rw[kS,List.length_set]) (fun p q q2 z1 z2=>?_) (fun p q q2 m x x2 v z1 z2 z3 z4 hcell hx=>?_),⟨fun g p m v b c1 c2 c3=>?_,fun g p m p' m' v v' b c1 c2 c3 c4 c5=>?_⟩⟩
    ·rw[kS] at z2
     rcases e_ z2 with⟨rfl,rfl,_⟩ | ⟨_,z2⟩
     ·rw[hr] at z1;injection z1 with z1;rw[<-z1,List.length_set]
     rw[z1] at z2;injection z2 with z2;rw[z2]
    ·have qb:my S w A.C.P bA rho s.h x v->x2=x->my S w A.C.P bA rho (aA (aA s.h d .none) k (.an e jg)) x2 v:=fun hx K1=>by
      rw[K1]
      cases x with
      | av y=>exact aI.bP T hx
      | row e2 D4=>exact hx
     rw[kS] at z2
     rcases e_ z2 with⟨rfl,rfl,_⟩ | ⟨_,z2⟩
     ·rw[hr] at z1
      injection z1 with z1
      subst z1
      rcases e_ z4 with⟨rfl,rfl,_⟩ | ⟨_,z4⟩
      ·have hx:my S w A.C.P bA rho s.h x v:=hx
       rw[hj] at z3
       injection z3 with z3
       subst z3
       have hx:aI S w A.C.P bA rho s.h (.ow d) v:=hx
       show aw A.C.P w (az S w) e' xs v
       rw[(hx.bF (by rw[JO];trivial)).2]
       exact Mn
      rw[z3] at z4
      injection z4 with z4
      exact qb hx z4.symm
     rw[z1] at z2
     injection z2 with z2
     subst z2
     rw[z3] at z4
     injection z4 with z4
     exact qb hx z4.symm
    ·rcases dF _ _ _ _ c1 c2 with⟨q1,_⟩ | ⟨_,_,rfl⟩
     ·exact hS.top g p m v b c1 q1 c3
     intro QG
     subst QG
     exact hid (sim.dj k d b trivial trivial ba K3 (.inl c1) (.inl c3))
    rcases dF _ _ _ _ c1 c2 with⟨q1,q2⟩ | ⟨rfl,rfl,rfl⟩ <;> rcases dF _ _ _ _ c1 c3 with⟨q3,q4⟩ | ⟨rfl,rfl,rfl⟩
    ·exact hS.dis g p m p' m' v v' b c1 q1 q3 c4 c5
    ·exact absurd c5 (inner g p m v b c1 q1 c4)
    ·exact absurd c4 (inner g p' m' v' b c1 q3 c5)
    exact⟨rfl,rfl⟩
   ·rw[h];trivial
   rw[h]
   exact (sim.hp k trivial).bP T (fun _ _ _=>rfl) (fun _=>rfl)
  dj:=fun k m b _ _ lk lm hk hm=>by
   obtain⟨o,o1,o2,o3⟩:=owner k b lk hk
   obtain⟨p,p1,p2,p3⟩:=owner m b lm hm
   have:=sim.dj o p b trivial trivial o1 p1 o2 p2
   subst this
   rcases o3 with⟨rfl,o3⟩ | ⟨rfl,o3⟩ <;> rcases p3 with⟨rfl,p3⟩ | ⟨h,p3⟩
   ·rfl
   ·exact absurd h o3
   ·exact absurd rfl p3
   rw[o3,p3]
  lv:=fun k b _ lk hk=>by
   obtain⟨o,o1,o2,_⟩:=owner k b lk hk
   exact sim.lv o b trivial o1 o2
  fr:=sim.fr }⟩
theorem aD.N0 {A:bE} (hC:a8 A.C) (s:AS) (id i j:Nat) {e e':TypeId} {es:List (List HX)} {r:List HX} {ti:TI} (hb:s.h id=.an e es) (hr:es[i]?=some r) (hj:r[j]?=some (.av .nl)) (hT:A.C.T e'=some ti) (hpos:0 < ti.size):
  aD A s ⟨s.t,aA s.h id (.an e (es.set i (r.set j (.row e' []))))⟩:=by
 intro S rho a w sim
 obtain⟨jg,kS⟩:∃jg,jg=es.set i (r.set j (.row e' [])):=⟨_,rfl⟩
 rw[<-kS]
 have hh:=sim.hp id trivial
 rw[hb] at hh
 obtain⟨hR,hS⟩:=hh
 obtain⟨info,z,h1,h2,_⟩:=hC.eK e' ti hT
 have hval:∀g u,br (rho id)=some g->cellAt w g (i*r.length+j) u->u=.slice none 0 0:=fun g u hg hu=>by
  obtain⟨i0,ws,q1,q2,q3,q4,q5,q6⟩:=hR
  obtain⟨u2,p1,p2⟩:=q6 i r j _ hr hj
  have p2:aI S w A.C.P bA rho s.h .nl u2:=p2
  have:u2=.slice none 0 0:=by cases p2;rfl
  rw[<-this]
  have qJ:=q4 r (List.mem_of_getElem? hr)
  rcases q3.2 with⟨hn,_⟩ | ⟨g',cap,cur,hv,_,wh,k1,k2,k3,k4⟩
  ·rw[hn] at hg;cases hg
  rw[hv] at hg
  obtain rfl:=fh.1 hg
  refine iQ hu ⟨cur,_,_,wh,?_⟩
  rw[qJ]
  rw[<-k4,List.getElem?_take] at p1
  split at p1
  ·simpa using p1
  cases p1
 have dF:∀g k p v b,br (rho id)=some g->b_ w jg g k p v->br v=some b->b_ w es g k p v:=by
  intro g k p v b hg hc hv
  obtain⟨q,e2,D4,q1,q2,q3⟩:=cg.1 hc
  rw[kS] at q1
  rcases e_ q1 with⟨rfl,rfl,_⟩ | ⟨hk,q1⟩
  ·rw[List.length_set] at q3
   rcases e_ q2 with⟨rfl,_,_⟩ | ⟨hp,q2⟩
   ·rw[hval g v hg q3] at hv
    cases hv
   exact cg.2 ⟨r,e2,D4,hr,q2,q3⟩
  exact cg.2 ⟨q,e2,D4,q1,q2,q3⟩
 refine⟨S,rho,sim.uG hC id trivial (by rw[hb];trivial) _ (fun e2 h=>by rw[hb];exact h) w rfl rfl rfl rfl (fun _ _=>rfl) (fun T=>?_) (fun g h=>?_)⟩
 ·refine⟨hR.re (by rw[kS,List.length_set]) (fun p q q2 z1 z2=>?_) (fun p q q2 m x x2 v z1 z2 z3 z4 hcell hx=>?_),⟨fun g p m v b c1 c2 c3=>hS.top g p m v b c1 (dF _ _ _ _ _ c1 c2 c3) c3,fun g p m p' m' v v' b c1 c2 c3 c4 c5=>hS.dis g p m p' m' v v' b c1 (dF _ _ _ _ _ c1 c2 c4) (dF _ _ _ _ _ c1 c3 c5) c4 c5⟩⟩
  ·rw[kS] at z2
   rcases e_ z2 with⟨rfl,rfl,_⟩ | ⟨_,z2⟩
   ·rw[hr] at z1;injection z1 with z1;rw[<-z1,List.length_set]
   rw[z1] at z2;injection z2 with z2;rw[z2]
  have qb:my S w A.C.P bA rho s.h x v->x2=x->my S w A.C.P bA rho (aA s.h id (.an e jg)) x2 v:=fun hx K1=>by
   rw[K1]
   cases x with
   | av y=>exact aI.bP T hx
   | row e2 D4=>exact hx
  rw[kS] at z2
  rcases e_ z2 with⟨rfl,rfl,_⟩ | ⟨_,z2⟩
  ·rw[hr] at z1
   injection z1 with z1
   subst z1
   rcases e_ z4 with⟨rfl,rfl,_⟩ | ⟨_,z4⟩
   ·rw[hj] at z3
    injection z3 with z3
    subst z3
    have hx:aI S w A.C.P bA rho s.h .nl v:=hx
    have:v=.slice none 0 0:=by cases hx;rfl
    rw[this]
    exact⟨info,[],h1,by omega,⟨by simp,.inl ⟨rfl,rfl⟩⟩,by simp,by simp,by simp⟩
   rw[z3] at z4
   injection z4 with z4
   exact qb hx z4.symm
  rw[z1] at z2
  injection z2 with z2
  subst z2
  rw[z3] at z4
  injection z4 with z4
  exact qb hx z4.symm
 rw[cd] at h
 rw[hb,cd]
 rcases h with h | ⟨g',k,p,v,c1,c2,c3⟩
 ·exact .inl h
 exact .inr ⟨g',k,p,v,c1,dF _ _ _ _ _ c1 c2 c3,c3⟩
theorem JC.map {α:Type} {l:List α} {f:α->List HX} {g:α->List PV} (h:∀x∈l,(g x).length=(f x).length/\∀(j:Nat) u v,(f x)[j]?=some u->(g x)[j]?=some v->JV u v):JC (l.map f) (l.map g):=
 ⟨by simp,fun a r q h1 h2=>by
  rw[List.getElem?_map] at h1 h2
  obtain⟨x,hx,rfl⟩:=Option.map_eq_some_iff.1 h1
  rw[hx] at h2
  injection h2 with h2
  subst h2
  exact h x (List.mem_of_getElem? hx)⟩
theorem aD.K4 {A:bE} (hC:a8 A.C) (s:AS) (id:Nat) {e:TypeId} {es:List (List HX)} (ps:List (List PV)) (hb:s.h id=.an e es) (hps:JC es ps):aD A s ⟨s.t,aA s.h id (.row e ps)⟩:=by
 intro S rho a w sim
 have hh:=sim.hp id trivial
 rw[hb] at hh
 obtain⟨hR,hS⟩:=hh
 have ba:(s.h id).live:=by rw[hb];trivial
 obtain⟨I,hI⟩:∃I:Nat->Prop,I=fun b=>∃g k j u,br (rho id)=some g/\b_ w es g k j u/\br u=some b:=⟨_,rfl⟩
 have N1:∀b,I b->hasB w (s.h id) (rho id) b:=fun b h=>by rw[hI] at h;rw[hb,cd];exact .inr h
 have K5:∀b,I b->br (rho id)≠some b:=fun b h hg=>by
  rw[hI] at h
  obtain⟨g,k,j,u,h1,h2,h3⟩:=h
  rw[h1] at hg
  injection hg with hg
  exact hS.top g k j u b h1 h2 h3 hg.symm
 have T:g_ S (fun b=>S b\/I b) w w bA bA rho rho s.h (aA s.h id (.row e ps)):=by
  refine⟨fun b h=>.inl h,fun _ _=>rfl,fun j hj=>⟨?_,fun hl=>⟨hl,rfl⟩⟩,fun j e' hj=>?_⟩
  ·rcases aF s.h id (.row e ps) j with⟨rfl,h⟩ | ⟨_,h⟩
   ·rw[hb];trivial
   rw[h] at hj;exact hj
  rcases aF s.h id (.row e ps) j with⟨rfl,h⟩ | ⟨_,h⟩
  ·rw[h] at hj;rw[hb];exact hj
  rw[h] at hj;exact hj
 have di:∀j,((aA s.h id (.row e ps)) j).live->(s.h j).live:=by
  intro j hj
  rcases aF s.h id (.row e ps) j with⟨rfl,h⟩ | ⟨h1,h⟩
  ·exact ba
  rw[h] at hj;exact hj
 have back:∀j g,hasB w (aA s.h id (.row e ps) j) (rho j) g->hasB w (s.h j) (rho j) g:=fun j g h=>by
  rcases aF s.h id (.row e ps) j with⟨rfl,h'⟩ | ⟨h1,h'⟩
  ·rw[h'] at h;exact .inl (aq rfl h)
  rw[h'] at h;exact h
 exact⟨fun b=>S b\/I b,rho,
 {tm:=fun j hj=>(sim.tm j hj).bP T
  sz:=sim.sz,df:=sim.df,nb:=sim.nb,pn:=sim.pn
  ev:=hC.env _ _ _ _ sim.ev (fun b h=>.inl h) (fun _ _=>rfl) (Nat.le_refl _)
  s0:=fun b h=>.inl (sim.s0 b h)
  st:=fun b h=>h.elim (sim.st b) fun h=>(sim.lv id b trivial ba (N1 b h)).1
  sb:=fun b h=>h.elim (sim.sb b) fun h=>.inr (sim.lv id b trivial ba (N1 b h)).2.2
  hp:=fun j hj=>by
   rcases aF s.h id (.row e ps) j with⟨rfl,h⟩ | ⟨h1,h⟩
   ·show cZ _ _ _ _ _ _ _ (aA s.h j (.row e ps) j)
    rw[h]
    refine hR.re hps.len (fun p q q2 z1 z2=>(hps.row p q q2 z1 z2).1) (fun p q q2 m x x2 v z1 z2 z3 z4 hcell hx=>?_)
    have:=(hps.row p q q2 z1 z2).2 m x x2 z3 z4
    cases this with
    | p x=>exact (aI.dE hx).mono (fun b h=>.inl h) (fun _ _=>rfl)
    | nl=>
     have hx:aI S w A.C.P bA rho s.h .nl v:=hx
     cases hx
     exact .nil _ _
    | row e' xs=>
     have hx:aw A.C.P w (az S w) e' xs v:=hx
     refine aw.yw hx (fun b h=>.inl h) fun b jG=>.inr ?_
     rw[hI]
     obtain⟨g,u,g1,g2,_⟩:=hR.wq z1 z3
     obtain⟨q',_,_,c1,_,c2⟩:=cg.1 g2
     rw[z1] at c1
     injection c1 with c1
     subst c1
     have:=iQ (hcell g g1) c2
     subst this
     exact⟨g,p,m,v,g1,g2,jG⟩
   show cZ _ _ _ _ _ _ _ (aA s.h id (.row e ps) j)
   rw[h]
   exact (sim.hp j hj).bP T (fun _ _ _=>rfl) (fun _=>rfl)
  dj:=fun i j g hi hj li lj dk fQ=>sim.dj i j g hi hj (di i li) (di j lj) (back i g dk) (back j g fQ)
  lv:=fun i g hi li hg=>by
   obtain⟨h3,h4,h5⟩:=sim.lv i g hi (di i li) (back i g hg)
   refine⟨h3,fun h=>h.elim h4 fun h=>?_,h5⟩
   have:=sim.dj i id g hi trivial (di i li) ba (back i g hg) (N1 g h)
   subst this
   have hg:hasB w (aA s.h i (.row e ps) i) (rho i) g:=hg
   rw[ar] at hg
   exact K5 g h (aq rfl hg)
  fr:=sim.fr }⟩
end Go.AM
namespace Go.AM
open Go.RowKit
theorem gh {C:Ctx} {o:Oper} {rho:Operand->AV} {h:Nat->AB} {K K':KK} (hk:∀v e n,K v e n->K' v e n) (hq:aY C o rho h K):aY C o rho h K':=by
 obtain⟨v,e,n,h1,h2⟩:=lJ (fun _=>.inr rfl) hq
 exact h2 _ (hk _ _ _ h1)
theorem zn {C:Ctx} {o:Oper} {K K':AS->Prop} {s:AS} (hk:∀s,K s->K' s) (hq:p7 C o K s):p7 C o K' s:=by
 unfold p7 at hq ⊢
 split at hq
 ·exact gh (fun v e n h=>hk _ h) hq
 split at hq
 ·split at hq
  ·split at hq
   ·split at hq <;> exact hk _ hq
   ·split at hq <;> exact hk _ hq
   exact hk _ hq
  exact hk _ hq
 refine gh (fun v e n h=>?_) hq
 cases n with
 | none=>exact hk _ h
 | some b=>exact h
theorem pg {C:Ctx} {o:Oper} {K K':AS->Prop} {s:AS} (hk:∀s,K s->K' s) (hq:step C o K s):step C o K' s:=by
 unfold step at hq ⊢
 split at hq
 ·exact⟨hk _ hq.1,hk _ hq.2⟩
 exact zn hk hq
theorem ik {b:Bool} {p q p' q':Prop} (h1:p->p') (h2:q->q') (h:eE b p q):eE b p' q':=by
 cases b <;> simp only[eE] at h ⊢
 ·exact h2 h
 exact h1 h
theorem Ch {C:Ctx} {all:List Oper} {K K':AS->Prop} (hk:∀s,K s->K' s):∀(l:List Oper) (s:AS),cy C all l K s->cy C all l K' s:=by
 intro l
 induction l with
 | nil=>intro s h;exact hk _ h
 | cons o l ih=>
  intro s h
  unfold cy at h ⊢
  split at h
  ·exact pg ih h
  split at h
  ·exact h.elim
  split at h
  ·exact h.elim
  split at h
  ·rename_i want _ _ _ _ _ _ _
   refine ik (fun h=>?_) (fun h=>?_) h
   ·split at h
    ·exact pg ih h
    exact ih _ h
   split at h
   ·exact pg ih h
   exact ih _ h
  ·exact ih _ h
  exact h.elim
theorem m_ {C:Ctx} {ap f:Bool} {X:List Nat} {o:Oper} {K K':AS->Prop} {s:AS} (hk:∀s,K s->K' s) (hq:fi C ap X f o K s):fi C ap X f o K' s:=by
 unfold fi at hq ⊢
 split at hq
 ·refine gh (fun v e n h=>?_) hq
  split at h
  ·exact h
  split at h
  ·split at h
   ·exact hk _ h
   exact h
  split at h
  ·exact hk _ h
  exact h
 exact hq
theorem Ci {C:Ctx} {ap:Bool} {X:List Nat} {all:List Oper} {K K':AS->Prop} (hk:∀s,K s->K' s):∀(l:List Oper) (fl:List Bool) (s:AS),cz C ap X all fl l K s->cz C ap X all fl l K' s:=by
 intro l
 induction l with
 | nil=>intro fl s h;cases fl <;> exact hk _ h
 | cons o l ih=>
  intro fl s h
  cases fl with
  | nil=>exact h
  | cons f fl=>
  unfold cz at h ⊢
  split at h
  ·exact m_ (ih fl) h
  split at h
  ·exact h.elim
  split at h
  ·exact h.elim
  split at h
  ·refine ik (fun h=>?_) (fun h=>?_) h
   ·split at h
    ·exact m_ (ih fl) h
    exact ih fl _ h
   split at h
   ·exact m_ (ih fl) h
   exact ih fl _ h
  ·exact ih fl _ h
  exact h.elim
theorem lW {f f':AS->Prop} {K K':Exit->AS->Prop} (hf:∀s,f s->f' s) (hk:∀e s,K e s->K' e s):∀e s,gd f K e s->gd f' K' e s:=by
 intro e s h
 cases e <;> first | exact hf _ h | exact hk _ _ h
theorem rO {id:Nat} {K K':Exit->AS->Prop} (hk:∀e s,K e s->K' e s):∀e s,mF id K e s->mF id K' e s:=by
 intro e s h
 cases e <;> first | exact hk _ _ h | exact ik (hk _ _) (hk _ _) h
theorem rP {A:bE}:∀(c:Code) (K K':Exit->AS->Prop) (s:AS),(∀e s,K e s->K' e s)->gf A c K s->gf A c K' s:=by
 intro c
 induction c with
 | skip=>intro K K' s hk h;exact hk _ _ h
 | region id ops draw=>
  intro K K' s hk h
  cases draw with
  | false=>exact Ch (hk _) _ _ h
  | true=>obtain⟨X,h⟩:=h;exact⟨X,Ci (fun _ h=>hk _ _ h) _ _ _ h⟩
 | seq a b Iu Iv=>intro K K' s hk h;exact Iu _ _ _ (lW (fun s h=>by obtain⟨s2,h1,h2⟩:=h;exact⟨s2,h1,Iv _ _ _ hk h2⟩) hk) h
 | cond c a b Iu Iv=>
  intro K K' s hk h
  simp only[gf] at h ⊢
  split at h
  ·exact ik (Iu _ _ _ hk) (Iv _ _ _ hk) h
  exact h
 | block id c ih=>intro K K' s hk h;exact ih _ _ _ (rO hk) h
 | loop c ih=>
  intro K K' s hk h
  obtain⟨α,I,m,h0,hr⟩:=h
  exact⟨α,I,m,h0,fun x s hi=>ih _ _ _ (lW (fun _ h=>h) hk) (hr x s hi)⟩
 | exit id=>intro K K' s hk h;exact hk _ _ h
 | ret=>intro K K' s hk h;exact hk _ _ h
 | rangeFunc=>intro K K' s _ h;exact h.elim
 | scope=>intro K K' s _ h;exact h.elim
 | label=>intro K K' s _ h;exact h.elim
 | goto=>intro K K' s _ h;exact h.elim
 | refuse=>intro K K' s _ h;exact h.elim
def rQ {α:Type} (R:α->Prop) (ts:α->List (Nat×AV)) (hs:α->List (Nat×AB)) (s:AS):Prop:=∃y,R y/\kz (ts y) s.t/\kz (hs y) s.h
theorem rQ.go {α:Type} {R:α->Prop} {ts:α->List (Nat×AV)} {hs:α->List (Nat×AB)} {f:AS->Prop} (h2:∀y,R y->∀t h,f ⟨kQ (ts y) t,kQ (hs y) h⟩) {s:AS} (h:rQ R ts hs s):f s:=by
 obtain⟨y,h1,h3,h4⟩:=h
 have:=h2 y h1 s.t s.h
 rwa [nT _ _ h3,nT _ _ h4] at this
theorem cut {A:bE} {c:Code} {f:AS->Prop} {K:Exit->AS->Prop} {s:AS} {α:Type} (R:α->Prop) (ts:α->List (Nat×AV)) (hs:α->List (Nat×AB))
  (h2:∀y,R y->∀t h,f ⟨kQ (ts y) t,kQ (hs y) h⟩) (h1:gf A c (gd (rQ R ts hs) K) s):gf A c (gd f K) s:=
 rP c _ _ s (lW (fun _ h=>h.go h2) fun _ _ h=>h) h1
theorem zo {α:Type} {R:α->Prop} {ts:α->List (Nat×AV)} {hs:α->List (Nat×AB)} {K:Exit->AS->Prop} (h2:∀y,R y->∀t h,K .normal ⟨kQ (ts y) t,kQ (hs y) h⟩):∀e s,gd (rQ R ts hs) K e s->K e s:=by
 intro e s h
 cases e <;> first | exact h | exact rQ.go h2 h
theorem N2 {A:bE} {c:Code} {id:Nat} {K:Exit->AS->Prop} {s:AS} {α:Type} (R:α->Prop) (ts:α->List (Nat×AV)) (hs:α->List (Nat×AB))
  (h2:∀y,R y->∀t h,K .normal ⟨kQ (ts y) t,kQ (hs y) h⟩) (h1:gf A c (mF id (gd (rQ R ts hs) K)) s):gf A c (mF id K) s:=
 rP c _ _ s (rO (zo h2)) h1
end Go.AM
namespace Go.AM
open Go.RowKit
structure AF (F:AS->Prop) (t:Nat->AV) (h:Nat->AB):Prop where
 out:F ⟨t,h⟩
structure QO (C:Ctx) (o:Oper) (t:Nat->AV) (h:Nat->AB) (k:KK):Prop where
 out:aY C o (ev t) h k
structure ST (F:AS->Prop) (t:Nat->AV) (d:Option Tmp) (v:AV) (h:Nat->AB) (e:List (Nat×AB)):Prop where
 out:F ⟨cQ t d v,app h e⟩
structure KQ (F:AS->Prop) (d:Option Tmp) (t:Nat->AV) (h:Nat->AB) (v:AV) (e:List (Nat×AB)) (n:Option AB):Prop where
 out:match n with
  | none=>F ⟨cQ t d v,app h e⟩
  | some _=>False
structure KD (C:Ctx) (ap:Bool) (X:List Nat) (f:Bool) (o:Oper) (F:AS->Prop) (t:Nat->AV) (h:Nat->AB) (v:AV) (e:List (Nat×AB)) (n:Option AB):Prop where
 out:match jO o.op n o.dst with
   | false=>False
   | true=>match Nat.beq (cls C ap o.op) 3 with
    | true=>match dH h e && (ap || eU h e) && DF X f h e with
     | true=>F ⟨cQ t o.dst v,kG (app h e) (o.dst.getD 0) n⟩
     | false=>False
    | false=>match e with
     | []=>F ⟨cQ t o.dst v,kG h (o.dst.getD 0) n⟩
     | _=>False
theorem ae {F:AS->Prop} {t:Nat->AV} {h:Nat->AB} (q:F ⟨t,h⟩):AF F t h:=⟨q⟩
section
variable {C:Ctx} {o:Oper} {t:Nat->AV} {h:Nat->AB} {k0:KK}
theorem Pt {v:AV} {e:List (Nat×AB)} {n:Option AB} (hq:∀k:KK,k v e n->aY C o (ev t) h k) (q:k0 v e n):QO C o t h k0:=⟨hq _ q⟩
end
section
variable {F:AS->Prop} {t:Nat->AV} {h:Nat->AB} {d:Tmp}
theorem AZ {x:PV} (q:AF F (aA t d (.p x)) h):ST F t (some d) (.p x) h []:=⟨q.out⟩
theorem QH {v:AV} {e:List (Nat×AB)} {d:Option Tmp} (q:ST F t d v h e):KQ F d t h v e none:=⟨q.out⟩
variable {C:Ctx} {ap f:Bool} {X:List Nat} {o:Oper}
theorem QI {v:AV} (q:ST F t o.dst v h []):KD C ap X f o F t h v [] none:=⟨by
 simp only[jO,dH,eU,uT,Bool.or_true,Bool.and_true]
 split <;> exact q.out⟩
end
def FX (d:Nat) (t:Nat->AV) (j:Nat):AV:=sc d (t j)
def Cj (d:Nat) (h:Nat->AB):Nat->AB:=aA (fun k=>qM d (h k)) d .none
def Mo (i d:Nat) (t:Nat->AV) (j:Nat):AV:=rn i d (t j)
def Mp (i d:Nat) (h:Nat->AB) (j:Nat):AB:=match bw j d with
 | true=>Dt i d (h i)
 | false=>match bw j i with
  | true=>.none
  | false=>Dt i d (h j)
def rR (o:Oper):Bool:=match o.op with
 | .assign _=>false
 | _=>true
def zp (o:Oper):Bool:=!ia o.op && rR o
def kT:AB->Bool
 | .row _ _=>true
 | .an _ _=>true
 | _=>false
section
variable {C:Ctx} {o:Oper} {F:AS->Prop} {t:Nat->AV} {h:Nat->AB} {d:Tmp}
theorem N3 (hn:wJ C o t=false) (hm:zp o=true) (q:QO C o t h (KQ F o.dst t h)):AF (step C o F) t h:=⟨by
 simp only[zp,Bool.and_eq_true,Bool.not_eq_true'] at hm
 obtain⟨h1,h2⟩:=hm
 unfold step
 simp only[hn]
 unfold p7
 rw[h1]
 simp only
 have key:aY C o (ev t) h (fun v eff new=>match new with
   | none=>F ⟨cQ t o.dst v,app h eff⟩
   | some _=>False):=gh (fun v e n hk=>hk.out) q.out
 split
 ·rename_i x d' ax _
  rw[rR,ax] at h2
  cases h2
 exact key⟩
theorem D5 (hn:wJ C o t=true) (hd:o.dst=some d) (q:AF F (aA t d (.p (.im (.bool true)))) h/\AF F (aA t d (.p (.im (.bool false)))) h):AF (step C o F) t h:=⟨by
 unfold step
 simp only[hn,hd]
 exact⟨q.1.out,q.2.out⟩⟩
variable {ap f:Bool} {X:List Nat}
theorem N4 (hf:kP C ap X f o (ev t)=true) (q:QO C o t h (KD C ap X f o F t h)):AF (fi C ap X f o F) t h:=⟨by
 unfold fi
 rw[hf]
 exact gh (fun v e n hk=>hk.out) q.out⟩
end
section
variable {C:Ctx} {o og:Oper} {K:AS->Prop} {t:Nat->AV} {h:Nat->AB} {tg d:Tmp} {all r:List Oper} {g:Nat} {want b:Bool} {ap f:Bool} {X:List Nat} {fl:List Bool}
theorem IE (hg:o.guard=none) (q:AF (step C o (cy C all r K)) t h):AF (cy C all (o::r) K) t h:=⟨by
 unfold cy;rw[hg];exact q.out⟩
def FY (run:Bool) (o:Oper) (F G:AS->Prop) (s:AS):Prop:=match run with
 | true=>F s
 | false=>G ⟨cQ s.t o.dst gI,s.h⟩
theorem K6 (hg:o.guard=some (g,want)) (ho:all[g]?=some og) (hd:og.dst=some tg) (hb:t tg=.p (.im (.bool b))) (q:eE b (AF (FY want o (step C o (cy C all r K)) (cy C all r K)) (aA t tg (cR true)) h) (AF (FY (!want) o (step C o (cy C all r K)) (cy C all r K)) (aA t tg (cR false)) h)):AF (cy C all (o::r) K) t h:=⟨by
 unfold cy
 rw[hg]
 simp only[ho,hd,hb]
 cases b <;> cases want <;> simp only[eE,Bool.not_true,Bool.not_false] at q ⊢ <;> exact q.out⟩
theorem D6 (hg:o.guard=some (g,want)) (ho:all[g]?=some og) (hd:og.dst=some tg) (hb:t tg=.p (.im (.bool want))) (q:AF (step C o (cy C all r K)) t h):AF (cy C all (o::r) K) t h:=⟨by
 unfold cy
 rw[hg]
 simp only[ho,hd,hb]
 have e:aA t tg (cR want)=t:=dp _ _ _ hb
 cases want <;> (simp only[eE];rw[e];exact q.out)⟩
theorem Hb (hg:o.guard=some (g,want)) (ho:all[g]?=some og) (hd:og.dst=some tg) (hb:t tg=.p (.im (.bool (!want)))) (q:ST (cy C all r K) t o.dst gI h []):AF (cy C all (o::r) K) t h:=⟨by
 unfold cy
 rw[hg]
 simp only[ho,hd,hb]
 have e:aA t tg (cR !want)=t:=dp _ _ _ hb
 cases want <;> (simp only[Bool.not_true,Bool.not_false] at e ⊢;simp only[eE];rw[e];exact q.out)⟩
theorem K7 {xs:Array Value} (hg:o.guard=some (g,want)) (ho:all[g]?=some og) (hd:og.dst=some tg) (hb:t tg=.p (.im (.tuple xs))) (q:ST (cy C all r K) t o.dst gI h []):AF (cy C all (o::r) K) t h:=⟨by
 unfold cy
 rw[hg]
 simp only[ho,hd,hb]
 exact q.out⟩
theorem N5 (hg:o.guard=none) (q:AF (fi C ap X f o (cz C ap X all fl r K)) t h):AF (cz C ap X all (f::fl) (o::r) K) t h:=⟨by
 unfold cz;rw[hg];exact q.out⟩
theorem K8 (hg:o.guard=some (g,want)) (ho:all[g]?=some og) (hd:og.dst=some tg) (hb:t tg=.p (.im (.bool b))) (q:eE b (AF (FY want o (fi C ap X f o (cz C ap X all fl r K)) (cz C ap X all fl r K)) (aA t tg (cR true)) h) (AF (FY (!want) o (fi C ap X f o (cz C ap X all fl r K)) (cz C ap X all fl r K)) (aA t tg (cR false)) h)):AF (cz C ap X all (f::fl) (o::r) K) t h:=⟨by
 unfold cz
 rw[hg]
 simp only[ho,hd,hb]
 cases b <;> cases want <;> simp only[eE,Bool.not_true,Bool.not_false] at q ⊢ <;> exact q.out⟩
theorem D7 (hg:o.guard=some (g,want)) (ho:all[g]?=some og) (hd:og.dst=some tg) (hb:t tg=.p (.im (.bool want))) (q:AF (fi C ap X f o (cz C ap X all fl r K)) t h):AF (cz C ap X all (f::fl) (o::r) K) t h:=⟨by
 unfold cz
 rw[hg]
 simp only[ho,hd,hb]
 have e:aA t tg (cR want)=t:=dp _ _ _ hb
 cases want <;> (simp only[eE];rw[e];exact q.out)⟩
theorem Hc (hg:o.guard=some (g,want)) (ho:all[g]?=some og) (hd:og.dst=some tg) (hb:t tg=.p (.im (.bool (!want)))) (q:ST (cz C ap X all fl r K) t o.dst gI h []):AF (cz C ap X all (f::fl) (o::r) K) t h:=⟨by
 unfold cz
 rw[hg]
 simp only[ho,hd,hb]
 have e:aA t tg (cR !want)=t:=dp _ _ _ hb
 cases want <;> (simp only[Bool.not_true,Bool.not_false] at e ⊢;simp only[eE];rw[e];exact q.out)⟩
theorem K9 {xs:Array Value} (hg:o.guard=some (g,want)) (ho:all[g]?=some og) (hd:og.dst=some tg) (hb:t tg=.p (.im (.tuple xs))) (q:ST (cz C ap X all fl r K) t o.dst gI h []):AF (cz C ap X all (f::fl) (o::r) K) t h:=⟨by
 unfold cz
 rw[hg]
 simp only[ho,hd,hb]
 exact q.out⟩
end
def ve (l:List Oper) (G:AS->Prop) (s:AS):Prop:=G (nR l s)
def jl (l:List Oper) (G:AS->Prop) (s:AS):Prop:=G (nS l s)
section
variable {G:AS->Prop} {o:Oper} {r l:List Oper} {t:Nat->AV} {h:Nat->AB} {d i:Nat}
theorem N6 (q:AF G t h):AF (ve [] G) t h:=⟨q.out⟩
theorem N7 (hm:ia o.op=true) (hd:o.dst.getD 0=d) (q:AF (ve r G) (FX d t) (Cj d h)):AF (ve (o::r) G) t h:=⟨by
 show G (nR (o::r) _)
 unfold nR
 rw[hm,hd]
 exact q.out⟩
theorem N8 (hm:ia o.op=false) (q:AF (ve r G) t h):AF (ve (o::r) G) t h:=⟨by
 show G (nR (o::r) _)
 unfold nR
 rw[hm]
 exact q.out⟩
theorem N9 (q:AF G t h):AF (jl [] G) t h:=⟨q.out⟩
theorem N_ (hm:rR o=true) (q:AF (jl r G) t h):AF (jl (o::r) G) t h:=⟨by
 show G (nS r (eZ o _))
 have:∀s,eZ o s=s:=fun s=>by
  unfold eZ
  split
  ·rename_i ax _
   rw[rR,ax] at hm
   cases hm
  rfl
 rw[this]
 exact q.out⟩
def w6 (t:Nat->AV) (h:Nat->AB) (d:Nat):Bool:=match t d with
 | .ow i=>kT (h i)
 | _=>false
theorem K_ (hd:o.dst=some d) (hm:w6 t h d=false) (q:AF (jl r G) t h):AF (jl (o::r) G) t h:=⟨by
 show G (nS r (eZ o _))
 have:eZ o ⟨t,h⟩=⟨t,h⟩:=by
  unfold eZ
  split
  ·rename_i d' _ qz
   rw[hd] at qz
   injection qz with qz
   subst qz
   simp only
   split
   ·rename_i i hi
    split
    ·rename_i e es he
     rw[w6,hi] at hm
     simp only[he,kT] at hm
     cases hm
    ·rename_i e es he
     rw[w6,hi] at hm
     simp only[he,kT] at hm
     cases hm
    rfl
   rfl
  rfl
 rw[this]
 exact q.out⟩
theorem Oa {x:Operand} (ho:o.op=.assign x) (hd:o.dst=some d) (ht:t d=.ow i) (hh:kT (h i)=true) (bG:bw i d=false) (q:AF (jl r G) (Mo i d t) (Mp i d h)):AF (jl (o::r) G) t h:=⟨by
 show G (nS r (eZ o _))
 have:eZ o ⟨t,h⟩=⟨Mo i d t,Mp i d h⟩:=by
  unfold eZ
  rw[ho,hd]
  simp only[ht]
  cases hb:h i <;> rw[hb] at hh <;> first | (cases hh;done) | (simp only[hb,bG];rfl)
 rw[this]
 exact q.out⟩
end
section
variable {A:bE} {K:Exit->AS->Prop} {a b c:Code} {t:Nat->AV} {h:Nat->AB} {id i:Nat} {l:List Oper} {f:AS->Prop}
theorem Ob (q:AF (gf A a (gd (gf A b K) K)) t h):AF (gf A (.seq a b) K) t h:=⟨rP a _ _ _ (lW (fun s h=>⟨s,aD.refl _ _,h⟩) (fun _ _ h=>h)) q.out⟩
theorem mH (q:AF (gf A a (gd (fun s'=>∃ja,aD A s' ja/\gf A b K ja) K)) t h):AF (gf A (.seq a b) K) t h:=⟨q.out⟩
theorem JP {s2:AS} (hl:aD A ⟨t,h⟩ s2) (q:AF (gf A b K) s2.t s2.h):∃ja,aD A ⟨t,h⟩ ja/\gf A b K ja:=⟨s2,hl,q.out⟩
theorem JQ (d:Nat) {y:PV} {fz:List (Nat×AB)} (hC:a8 A.C) (h0:AM.eh h (t d) fun y' iL=>y'=y/\iL=fz) (q:AF (gf A b K) (aA t d (.p y)) (app h fz)):∃ja,aD A ⟨t,h⟩ ja/\gf A b K ja:=⟨_,aD.eh hC ⟨t,h⟩ d h0,q.out⟩
theorem Oc (q:AF (K .normal) t h):AF (gf A .skip K) t h:=⟨q.out⟩
theorem Od (q:AF (gf A c (mF id K)) t h):AF (gf A (.block id c) K) t h:=⟨q.out⟩
theorem Oe (q:AF (K (.exit id)) t h):AF (gf A (.exit id) K) t h:=⟨q.out⟩
theorem Of (q:AF (K .ret) t h):AF (gf A .ret K) t h:=⟨q.out⟩
theorem Og (q:AF (cy A.C l l (K .normal)) t h):AF (gf A (.region id ⟨l⟩ false) K) t h:=⟨q.out⟩
theorem Z {α:Sort _} {a:α}:a=a:=rfl
theorem Y:True:=trivial
def Oh:List Bool:=[true,true,true,true,true,true]
def Mq:List Bool:=[true,true,true,true,true,true,true]
def QJ:List Bool:=[true,true,true,true,true,true,true,true]
def Oi:List Bool:=[true,true,true,true,true,true,true,true,true]
def D8:List Bool:=[true,true,true,true,true,true,true,true,true,true]
def FZ:List Bool:=[true,true,true,true,true,true,true,true,true,true,true]
def IF:List Bool:=[true,true,true,true,true,true,true,true,true,true,true,true,true]
def vf:List Bool:=[true,true,true,true,true,true,true,true,true,true,true,true,true,true]
def Oj:List Bool:=[true,true,true,true,true,true,true,true,true,true,true,true,true,true,true]
def Ol:List Bool:=[true,true,true,true,true,true,true,true,true,true,true,true,true,true,true,true]
def Om:List Bool:=[true,true,true,true,true,true,true,true,true,true,true,true,true,true,true,true,true]
def On:List Bool:=[true,true,true,true,true,true,true,true,true,true,true,true,true,true,true,true,true,true,true]
def Oo:List Bool:=[true,true,true,true,true,true,true,true,true,true,true,true,true,true,true,true,true,true,true,true]
def Oq:List Bool:=[true,true,true,true,true,true,true,true,true,true,true,true,true,true,true,true,true,true,true,true,true,true]
def Ot:List Bool:=[true,true,true,true,true,true,true,true,true,true,true,true,true,true,true,true,true,true,true,true,true,true,true,true,true,true,true,true,true,true,true,true,true,true,true]
theorem c_ (X:List Nat) (ap:Bool) (fl:List Bool) (E6:(l.any fun o=>fR A.C o.op)=ap) (Pu:fC A.C ap ⟨l⟩=fl) (q:AF (ve l (cz A.C ap X l fl l (jl l (K .normal)))) t h):AF (gf A (.region id ⟨l⟩ true) K) t h:=⟨by
 subst E6;subst Pu;exact⟨X,q.out⟩⟩
theorem IG {x y:Code} {c:Operand} {b:Bool} (hb:ev t c=.p (.im (.bool b))) (q:eE b (AF (gf A x K) t h) (AF (gf A y K) t h)):AF (gf A (.cond c x y) K) t h:=⟨by
 unfold gf
 rw[hb]
 exact ik (fun q=>q.out) (fun q=>q.out) q⟩
theorem Ou {p q:Prop} (h:p):eE true p q:=h
theorem Ov {p q:Prop} (h:q):eE false p q:=h
theorem aa {C:Ctx} {rs:List ResultVar} {args:List Arg} {r:AR} {fin:List Fin} {P Q:Prop} (hq:(P/\Q)->FG C rs args r fin ⟨t,h⟩) (q:P/\Q):AF (FH C rs args r fin .ret) t h:=⟨hq q⟩
theorem zi {P:Prop} (h:P):P:=h
theorem zA {P Q G:Prop} (hq:(P/\Q)->G) (q:P/\Q):G:=hq q
theorem zO {P Q G:Prop} (hq:(P\/Q)->G) (q:P\/Q):G:=hq q
theorem zX {α:Type} {R:α->Prop} {G:Prop} (hq:(∃r,R r)->G) (q:∃r,R r):G:=hq q
theorem ak {α:Type} (R:α->Prop) (ts:α->List (Nat×AV)) (hs:α->List (Nat×AB)) (m:α->Nat) (x0:α) (s0:AS) (h0:aD A ⟨t,h⟩ s0) (hR:R x0) (ht:kz (ts x0) s0.t) (hh:kz (hs x0) s0.h)
  (round:∀x,R x->∀t h,AF (gf A c (gd (fun s'=>∃y ja,aD A s' ja/\R y/\m y < m x/\kz (ts y) ja.t/\kz (hs y) ja.h) K)) (kQ (ts x) t) (kQ (hs x) h)):AF (gf A (.loop c) K) t h:=
 ⟨FP R ts hs m x0 s0 h0 hR ht hh fun x hx t h=>(round x hx t h).out⟩
theorem D9 {α:Type} (R:α->Prop) (ts:α->List (Nat×AV)) (hs:α->List (Nat×AB))
  (h2:∀y,R y->∀t h,AF (K .normal) (kQ (ts y) t) (kQ (hs y) h)) (h1:AF (gf A c (mF id (gd (rQ R ts hs) K))) t h):AF (gf A c (mF id K)) t h:=⟨N2 R ts hs (fun y hy t h=>(h2 y hy t h).out) h1.out⟩
end
set_option linter.unusedVariables false in
theorem ah {C : Ctx} (hC : a8 C) {f : FuncId} {fn : Func} {c : Code} (hf : C.P.funcs[f]? = some fn) (hb : fn.body = some c) (ko : (fn.name == "runtime.NumGoroutine") = false) {args : List Arg} {r : AR} {fin : List Fin} (n : Nat) (hn : args.length + (fn.ntmps - args.length) = n) (wk : n ≤ 100000) (hok : gx C n c = true)
  (h:∀(w0:World) (mv s0:Nat->Prop) (n:Nat) (pin:Nat->Value),AF (gf ⟨C,w0,mv,s0,n,pin⟩ c (FH C fn.results.toList args r fin)) (tR args) (kM args)):af C f args r fin:=
 FQ hC hf hb ko n hn wk hok fun A hA=>by
  obtain⟨_,_,_,_,_,_⟩:=A
  subst hA
  exact (h _ _ _ _ _).out
end Go.AM
namespace Go.AM
open Go.RowKit
section
variable {C:Ctx} {o og:Oper} {F K:AS->Prop} {t:Nat->AV} {h:Nat->AB} {tg d:Tmp} {all r l:List Oper} {g id:Nat} {want b:Bool} {ap f:Bool} {X:List Nat} {fl:List Bool}
theorem y1 {x:PV} (e:(o.guard,all[g]?,og.dst,t tg,wJ C o t,zp o,o.dst,aY C o (ev t) h)=(some (g,want),some og,some tg,.p (.im (.bool want)),false,true,some d,fun k=>k (.p x) [] none)) (q:AF (cy C all r K) (aA t d (.p x)) h):AF (cy C all (o::r) K) t h:=by
 simp only[Prod.mk.injEq] at e
 obtain⟨e1,e2,e3,e4,e5,e6,e7,e8⟩:=e
 exact D6 e1 e2 e3 e4 (N3 e5 e6 (Pt (v:=.p x) (e:=[]) (n:=none) (fun k hk=>by rw[e8];exact hk) (QH (by rw[e7];exact AZ q))))
theorem y2 (e:(o.guard,all[g]?,og.dst,t tg)=(some (g,want),some og,some tg,.p (.im (.bool want)))) (q:AF (step C o (cy C all r K)) t h):AF (cy C all (o::r) K) t h:=by
 simp only[Prod.mk.injEq] at e
 obtain⟨e1,e2,e3,e4⟩:=e
 exact D6 e1 e2 e3 e4 q
theorem y0 (e:(o.guard,all[g]?,og.dst,t tg,o.dst)=(some (g,want),some og,some tg,.p (.im (.bool (!want))),some d)) (q:AF (cy C all r K) (aA t d gI) h):AF (cy C all (o::r) K) t h:=by
 simp only[Prod.mk.injEq] at e
 obtain⟨e1,e2,e3,e4,e5⟩:=e
 exact Hb e1 e2 e3 e4 (by rw[e5];exact AZ q)
theorem d1 {x:PV} (e:(o.guard,all[g]?,og.dst,t tg,kP C ap X f o (ev t),o.dst,aY C o (ev t) h)=(some (g,want),some og,some tg,.p (.im (.bool want)),true,some d,fun k=>k (.p x) [] none)) (q:AF (cz C ap X all fl r K) (aA t d (.p x)) h):AF (cz C ap X all (f::fl) (o::r) K) t h:=by
 simp only[Prod.mk.injEq] at e
 obtain⟨e1,e2,e3,e4,e5,e6,e7⟩:=e
 exact D7 e1 e2 e3 e4 (N4 e5 (Pt (v:=.p x) (e:=[]) (n:=none) (fun k hk=>by rw[e7];exact hk) (QI (by rw[e6];exact AZ q))))
theorem d2 (e:(o.guard,all[g]?,og.dst,t tg)=(some (g,want),some og,some tg,.p (.im (.bool want)))) (q:AF (fi C ap X f o (cz C ap X all fl r K)) t h):AF (cz C ap X all (f::fl) (o::r) K) t h:=by
 simp only[Prod.mk.injEq] at e
 obtain⟨e1,e2,e3,e4⟩:=e
 exact D7 e1 e2 e3 e4 q
theorem d0 (e:(o.guard,all[g]?,og.dst,t tg,o.dst)=(some (g,want),some og,some tg,.p (.im (.bool (!want))),some d)) (q:AF (cz C ap X all fl r K) (aA t d gI) h):AF (cz C ap X all (f::fl) (o::r) K) t h:=by
 simp only[Prod.mk.injEq] at e
 obtain⟨e1,e2,e3,e4,e5⟩:=e
 exact Hc e1 e2 e3 e4 (by rw[e5];exact AZ q)
end
section
variable {A:bE} {K:Exit->AS->Prop} {a b c:Code} {t:Nat->AV} {h:Nat->AB} {id i:Nat} {l all:List Oper} {f:AS->Prop} {C:Ctx}
end
theorem zB:(∀(p:Prop) [Decidable p],(decide p=true)=p)/\(∀(p:Prop) [Decidable p],(decide p=false)=¬p)/\(∀(α:Type) [_root_.LE α] (a b:α),(a>=b)=(b<=a))/\(∀(α:Type) [_root_.LT α] (a b:α),(a > b)=(b < a))/\(∀b:Bool,((!b)=true)=(b=false))/\(∀b:Bool,((!b)=false)=(b=true)):=
 ⟨fun p _=>by simp,fun p _=>by simp,fun _ _ _ _=>rfl,fun _ _ _ _=>rfl,fun b=>by simp,fun b=>by simp⟩
end Go.AM
namespace Go.AM
open Go.RowKit
def IH (F:AS->Prop) (t:Nat->AV) (h:Nat->AB) (d:Nat):AV->Prop
 | .p x=>AF F (aA t d (.p x)) h
 | .nl=>AF F (aA t d .nl) h
 | .ow i=>AF F (aA t d (.ow i)) h
 | .rp i j k=>AF F (aA t d (.rp i j k)) h
 | .bx i j=>AF F (aA t d (.bx i j)) h
 | .vw i j k=>AF F (aA t d (.vw i j k)) h
 | .fn f c=>AF F (aA t d (.fn f c)) h
 | .tu x=>AF F (aA t d (.tu x)) h
 | .st x=>AF F (aA t d (.st x)) h
 | .junk=>AF F (aA t d .junk) h
def D_ (F:AS->Prop) (t:Nat->AV) (d:Option Tmp) (v:AV):List (Nat×AB)->(Nat->AB)->Prop
 | (i,b)::r,h=>D_ F t d v r (aA h i b)
 | [],h=>match d with
  | some d=>IH F t h d v
  | none=>AF F t h
section
variable {F:AS->Prop} {t:Nat->AV} {h:Nat->AB} {d:Tmp} {C:Ctx} {o:Oper}
theorem w7 {v:AV} (q:IH F t h d v):F ⟨aA t d v,h⟩:=by cases v <;> exact q.out
theorem eV {d:Option Tmp} {v:AV}:∀(e:List (Nat×AB)) {h:Nat->AB},D_ F t d v e h->F ⟨cQ t d v,app h e⟩
 | (i,b)::r,h,q=>eV r (h:=aA h i b) q
 | [],h,q=>by cases d with
  | none=>exact AF.out q
  | some d=>exact w7 q
def Pv (F:AS->Prop) (d:Option Tmp) (t:Nat->AV) (h:Nat->AB):KK:=fun v e n=>match n with
 | none=>D_ F t d v e h
 | some _=>False
def Ow (F:AS->Prop) (d:Option Tmp) (dd:Nat) (t:Nat->AV) (h:Nat->AB):KK:=fun v e n=>match n with
 | none=>match mR dd e with
  | true=>D_ F t d v e h
  | false=>False
 | some b=>D_ F t d v e (aA h dd b)
def Pw (F:AS->Prop) (t:Nat->AV) (h:Nat->AB) (d:Nat):AV->Prop
 | .ow i=>match kT (h i) with
  | false=>AF F (aA t d (.ow i)) h
  | true=>match bw i d with
   | true=>AF F (aA t d (.ow i)) h
   | false=>AF F (aA (Mo i d t) d (.ow d)) (Mp i d h)
 | v=>IH F t h d v
def A0 (C:Ctx) (o:Oper) (F:AS->Prop) (t:Nat->AV) (h:Nat->AB):Prop:=match ia o.op with
 | true=>aY C o (ev (FX (o.dst.getD 0) t)) (Cj (o.dst.getD 0) h) (Ow F o.dst (o.dst.getD 0) (FX (o.dst.getD 0) t) (Cj (o.dst.getD 0) h))
 | false=>match o.op,o.dst with
  | .assign x,some d=>Pw F t h d (ev t x)
  | _,d=>aY C o (ev t) h (Pv F d t h)
theorem Ck (d:Nat) (h:Nat->AB):Cj d h d=.none:=by unfold Cj;rw[ar]
theorem II {d:Option Tmp} {dd:Nat} {v:AV} {e:List (Nat×AB)} {n:Option AB} (h0:h dd=.none) (q:Ow F d dd t h v e n):F ⟨cQ t d v,match n with
  | none=>aA (app h e) dd .none
  | some b=>app (aA h dd b) e⟩:=by
 unfold Ow at q
 cases n with
 | none=>
  simp only at q ⊢
  cases hn:mR dd e with
  | false=>rw[hn] at q;exact q.elim
  | true=>
   rw[hn] at q
   have:aA (app h e) dd .none=app h e:=dp _ _ _ ((hM (h:=h) hn).trans h0)
   rw[this]
   exact eV e q
 | some b=>exact eV e q
theorem ph (hn:wJ C o t=false) (q:A0 C o F t h):step C o F ⟨t,h⟩:=by
 unfold step
 simp only[hn]
 unfold p7
 unfold A0 at q
 cases hm:ia o.op with
 | true=>
  rw[hm] at q
  simp only at q ⊢
  exact gh (fun v e n hk=>by
   have:=II (Ck _ _) hk
   cases n <;> exact this) q
 | false=>
  rw[hm] at q
  simp only at q ⊢
  split
  ·rename_i x d ho hd
   rw[ho,hd] at q
   simp only at q
   unfold Pw at q
   split
   ·rename_i i hi
    rw[hi] at q
    simp only at q
    cases hb:h i <;> rw[hb] at q <;> simp only[kT] at q ⊢ <;> first | exact q.out | (cases GQ:bw i d <;> rw[GQ] at q <;> exact q.out)
   rename_i BQ
   split at q
   ·rename_i i hi;exact absurd hi (BQ i)
   exact w7 q
  rename_i BQ
  have hk:aY C o (ev t) h (Pv F o.dst t h):=by
   split at q
   ·rename_i x d ho hd;exact absurd hd (BQ x d ho)
   exact q
  exact gh (fun v e n hk=>by cases n <;> first | exact eV e hk | exact hk.elim) hk
end
class Ea (F:AS->Prop) (ok:outParam ((Nat->AV)->(Nat->AB)->Bool)) (nx:outParam ((Nat->AV)->(Nat->AB)->Prop)):Prop where
 go:∀t h,ok t h=true->nx t h->F ⟨t,h⟩
theorem yY {F:AS->Prop} {ok:(Nat->AV)->(Nat->AB)->Bool} {nx:(Nat->AV)->(Nat->AB)->Prop} {t:Nat->AV} {h:Nat->AB} [i:Ea F ok nx] (e:ok t h=true) (q:nx t h):AF F t h:=⟨i.go t h e q⟩
def qP (all:List Oper) (t:Nat->AV) (o:Oper) (run:Bool):Bool:=match o.guard with
 | none=>run
 | some (g,want)=>match all[g]? with
  | none=>false
  | some og=>match og.dst with
   | none=>false
   | some tg=>match t tg with
    | .p (.im (.bool true))=>match want with
     | true=>run
     | false=>true
    | .p (.im (.bool false))=>match want with
     | true=>true
     | false=>run
    | .p (.im (.tuple _))=>true
    | _=>false
def runs (all:List Oper) (t:Nat->AV) (o:Oper):Bool:=match o.guard with
 | none=>true
 | some (g,want)=>match all[g]? with
  | none=>false
  | some og=>match og.dst with
   | none=>false
   | some tg=>match t tg with
    | .p (.im (.bool true))=>want
    | .p (.im (.bool false))=>match want with
     | true=>false
     | false=>true
    | _=>false
section
variable {C:Ctx} {all:List Oper} {K:AS->Prop} {o:Oper} {r:List Oper} {t:Nat->AV} {h:Nat->AB} {ap:Bool} {X:List Nat} {f:Bool} {fl:List Bool}
theorem qc {b:Bool} (hg:qP all t o b=true):(o.guard=none/\runs all t o=true/\b=true)\/(∃g want og tg,o.guard=some (g,want)/\all[g]?=some og/\og.dst=some tg/\((t tg=.p (.im (.bool want))/\runs all t o=true/\b=true)\/(t tg=.p (.im (.bool (!want)))/\runs all t o=false)\/∃xs,t tg=.p (.im (.tuple xs))/\runs all t o=false)):=by
 unfold qP at hg
 unfold runs
 split at hg
 ·rename_i h1
  exact .inl ⟨h1,rfl,hg⟩
 rename_i g want h1
 refine .inr ?_
 split at hg
 ·cases hg
 rename_i og h2
 split at hg
 ·cases hg
 rename_i tg h3
 refine⟨g,want,og,tg,h1,h2,h3,?_⟩
 split at hg
 ·rename_i h4
  cases want
  ·exact .inr (.inl ⟨h4,by simp only[h2,h3,h4]⟩)
  exact .inl ⟨h4,by simp only[h2,h3,h4],hg⟩
 ·rename_i h4
  cases want
  ·exact .inl ⟨h4,by simp only[h2,h3,h4],hg⟩
  exact .inr (.inl ⟨h4,by simp only[h2,h3,h4]⟩)
 ·rename_i xs h4
  exact .inr (.inr ⟨xs,h4,by simp only[h2,h3,h4]⟩)
 cases hg
def QK (C:Ctx) (all:List Oper):List Oper->(Nat->AV)->(Nat->AB)->Bool
 | [],_,_=>true
 | o::_,t,_=>qP all t o (!wJ C o t)
def La (C:Ctx) (all:List Oper) (K:AS->Prop):List Oper->(Nat->AV)->(Nat->AB)->Prop
 | [],t,h=>AF K t h
 | o::r,t,h=>match runs all t o with
  | true=>A0 C o (cy C all r K) t h
  | false=>D_ (cy C all r K) t o.dst gI [] h
instance QL (l:List Oper):Ea (cy C all l K) (QK C all l) (La C all K l):=⟨fun t h e q=>by
 cases l with
 | nil=>exact AF.out q
 | cons o r=>
  rcases qc e with⟨hg,hr,hn⟩ | ⟨g,want,og,tg,hg,h1,h2,⟨h3,hr,hn⟩ | ⟨h3,hr⟩ | ⟨xs,h3,hr⟩⟩
  ·simp only[La,hr] at q
   exact (IE hg ⟨ph (by simpa using hn) q⟩).out
  ·simp only[La,hr] at q
   exact (D6 hg h1 h2 h3 ⟨ph (by simpa using hn) q⟩).out
  ·simp only[La,hr] at q
   exact (Hb hg h1 h2 h3 ⟨eV [] q⟩).out
  simp only[La,hr] at q
  exact (K7 hg h1 h2 h3 ⟨eV [] q⟩).out⟩
instance Mr:Ea (step C o K) (fun t _=>!wJ C o t) (A0 C o K):=⟨fun t h e q=>ph (by simpa using e) q⟩
instance QM {F G:AS->Prop} {b:Bool}:Ea (FY b o F G) (fun _ _=>b || !b) (fun t h=>match b with
 | true=>AF F t h
 | false=>D_ G t o.dst gI [] h):=⟨fun t h _ q=>by
 cases b with
 | true=>exact AF.out q
 | false=>exact eV [] q⟩
end
section
variable {A:bE} {K:Exit->AS->Prop} {f:AS->Prop} {c:Code} {e:Exit} {id:Nat}
def Px:Code->(Nat->AV)->Bool
 | .skip,_=>true
 | .seq _ _,_=>true
 | .block _ _,_=>true
 | .exit _,_=>true
 | .ret,_=>true
 | .region _ _ false,_=>true
 | .cond c _ _,t=>match ev t c with
  | .p (.im (.bool true))=>true
  | .p (.im (.bool false))=>true
  | _=>false
 | _,_=>false
def Py (A:bE) (K:Exit->AS->Prop):Code->(Nat->AV)->(Nat->AB)->Prop
 | .skip,t,h=>AF (K .normal) t h
 | .seq a b,t,h=>AF (gf A a (gd (gf A b K) K)) t h
 | .block id c,t,h=>AF (gf A c (mF id K)) t h
 | .exit id,t,h=>AF (K (.exit id)) t h
 | .ret,t,h=>AF (K .ret) t h
 | .region _ ⟨l⟩ _,t,h=>AF (cy A.C l l (K .normal)) t h
 | .cond c x y,t,h=>match ev t c with
  | .p (.im (.bool true))=>AF (gf A x K) t h
  | _=>AF (gf A y K) t h
 | _,_,_=>False
instance QN:Ea (gf A c K) (fun t _=>Px c t) (Py A K c):=⟨fun t h e q=>by
 cases c with
 | skip=>exact (Oc q).out
 | seq a b=>exact (Ob q).out
 | block id c=>exact (Od q).out
 | exit id=>exact (Oe q).out
 | ret=>exact (Of q).out
 | region i l d=>cases d with
  | false=>exact (Og q).out
  | true=>cases e
 | cond c x y=>
  simp only[Px] at e
  simp only[Py] at q
  split at e
  ·rename_i h1
   simp only[h1] at q
   exact (IG h1 (Ou q)).out
  ·rename_i h1
   simp only[h1] at q
   exact (IG h1 (Ov q)).out
  cases e
 | loop=>cases e
 | rangeFunc=>cases e
 | scope=>cases e
 | label=>cases e
 | goto=>cases e
 | refuse=>cases e⟩
def Pz:Exit->Bool
 | .normal=>true
 | .exit _=>true
 | .ret=>true
 | _=>false
def QP (f:AS->Prop) (K:Exit->AS->Prop) (t:Nat->AV) (h:Nat->AB):Exit->Prop
 | .normal=>AF f t h
 | .exit i=>AF (K (.exit i)) t h
 | .ret=>AF (K .ret) t h
 | _=>False
instance runT:Ea (gd f K e) (fun _ _=>Pz e) (fun t h=>QP f K t h e):=⟨fun t h w q=>by
 cases e <;> first | exact AF.out q | cases w⟩
def PA (id:Nat) (K:Exit->AS->Prop) (t:Nat->AV) (h:Nat->AB):Exit->Prop
 | .normal=>AF (K .normal) t h
 | .exit i=>match bw i id with
  | true=>AF (K .normal) t h
  | false=>AF (K (.exit i)) t h
 | .ret=>AF (K .ret) t h
 | _=>False
instance QQ:Ea (mF id K e) (fun _ _=>Pz e) (fun t h=>PA id K t h e):=⟨fun t h w q=>by
 cases e with
 | normal=>exact AF.out q
 | ret=>exact AF.out q
 | exit i=>
  show eE (bw i id) _ _
  simp only[PA] at q
  cases hb:bw i id <;> rw[hb] at q <;> exact AF.out q
 | goto l=>cases w
 | panic c=>cases w
 | outgrown=>cases w⟩
end
section
variable {C:Ctx} {all:List Oper} {K G:AS->Prop} {o:Oper} {l:List Oper} {t:Nat->AV} {h:Nat->AB} {ap:Bool} {X:List Nat} {f:Bool} {fl:List Bool}
def Lb (C:Ctx) (ap:Bool) (X:List Nat) (f:Bool) (o:Oper) (F:AS->Prop) (t:Nat->AV) (h:Nat->AB):KK:=fun v e n=>match jO o.op n o.dst with
 | false=>False
 | true=>match e with
  | []=>D_ F t o.dst v [] (kG h (o.dst.getD 0) n)
  | p::e=>match Nat.beq (cls C ap o.op) 3 && (dH h (p::e) && (ap || eU h (p::e)) && DF X f h (p::e)) with
   | false=>False
   | true=>match n with
    | none=>D_ F t o.dst v (p::e) h
    | some b=>D_ F t o.dst v ((p::e)++[(o.dst.getD 0,b)]) h
theorem w8 (d:Nat) (b:AB):∀(e:List (Nat×AB)) (h:Nat->AB),app h (e++[(d,b)])=aA (app h e) d b
 | [],h=>rfl
 | (i,x)::r,h=>w8 d b r (aA h i x)
theorem IJ {F:AS->Prop} {v:AV} {e:List (Nat×AB)} {n:Option AB} (q:Lb C ap X f o F t h v e n):match jO o.op n o.dst with
  | false=>False
  | true=>match Nat.beq (cls C ap o.op) 3 with
   | true=>match dH h e && (ap || eU h e) && DF X f h e with
    | true=>F ⟨cQ t o.dst v,kG (app h e) (o.dst.getD 0) n⟩
    | false=>False
   | false=>match e with
    | []=>F ⟨cQ t o.dst v,kG h (o.dst.getD 0) n⟩
    | _=>False:=by
 unfold Lb at q
 cases hn:jO o.op n o.dst with
 | false=>rw[hn] at q;exact q.elim
 | true=>
  rw[hn] at q
  simp only at q ⊢
  cases e with
  | nil=>
   have:=eV [] q
   simp only[dH,eU,uT,Bool.or_true,Bool.and_true]
   split <;> exact this
  | cons p e=>
   simp only at q
   cases h1:Nat.beq (cls C ap o.op) 3 with
   | false=>rw[h1] at q;exact q.elim
   | true=>
    rw[h1] at q
    simp only[Bool.true_and] at q ⊢
    cases h2:dH h (p::e) && (ap || eU h (p::e)) && DF X f h (p::e) with
    | false=>rw[h2] at q;exact q.elim
    | true=>
     rw[h2] at q
     simp only at q ⊢
     cases n with
     | none=>exact eV (p::e) q
     | some b=>
      have:=eV _ q
      rw[w8] at this
      exact this
def QR (C:Ctx) (ap:Bool) (X:List Nat) (all:List Oper):List Bool->List Oper->(Nat->AV)->(Nat->AB)->Bool
 | _,[],_,_=>true
 | f::_,o::_,t,_=>qP all t o (kP C ap X f o (ev t))
 | _,_,_,_=>false
def Lc (C:Ctx) (ap:Bool) (X:List Nat) (all:List Oper) (K:AS->Prop):List Bool->List Oper->(Nat->AV)->(Nat->AB)->Prop
 | _,[],t,h=>AF K t h
 | f::fl,o::r,t,h=>match runs all t o with
  | true=>aY C o (ev t) h (Lb C ap X f o (cz C ap X all fl r K) t h)
  | false=>D_ (cz C ap X all fl r K) t o.dst gI [] h
 | _,_,_,_=>False
theorem pj {F:AS->Prop} (hl:kP C ap X f o (ev t)=true) (q:aY C o (ev t) h (Lb C ap X f o F t h)):fi C ap X f o F ⟨t,h⟩:=by
 unfold fi
 simp only[hl]
 exact gh (fun v e n hk=>by
  have:=IJ hk
  unfold jO at this ⊢
  cases n <;> cases e <;> exact this) q
instance QS:Ea (cz C ap X all fl l K) (QR C ap X all fl l) (Lc C ap X all K fl l):=⟨fun t h e q=>by
 cases l with
 | nil=>cases fl <;> exact AF.out q
 | cons o r=>
  cases fl with
  | nil=>cases e
  | cons f fl=>
   rcases qc e with⟨hg,hr,hn⟩ | ⟨g,want,og,tg,hg,h1,h2,⟨h3,hr,hn⟩ | ⟨h3,hr⟩ | ⟨xs,h3,hr⟩⟩
   ·simp only[Lc,hr] at q
    exact (N5 hg ⟨pj hn q⟩).out
   ·simp only[Lc,hr] at q
    exact (D7 hg h1 h2 h3 ⟨pj hn q⟩).out
   ·simp only[Lc,hr] at q
    exact (Hc hg h1 h2 h3 ⟨eV [] q⟩).out
   simp only[Lc,hr] at q
   exact (K9 hg h1 h2 h3 ⟨eV [] q⟩).out⟩
instance PB:Ea (fi C ap X f o K) (fun t _=>kP C ap X f o (ev t)) (fun t h=>aY C o (ev t) h (Lb C ap X f o K t h)):=⟨fun _ _ e q=>pj e q⟩
def Ms (G:AS->Prop):List Oper->(Nat->AV)->(Nat->AB)->Prop
 | [],t,h=>AF G t h
 | o::r,t,h=>match ia o.op with
  | true=>AF (ve r G) (FX (o.dst.getD 0) t) (Cj (o.dst.getD 0) h)
  | false=>Ms G r t h
theorem A1:∀(l:List Oper) {t:Nat->AV} {h:Nat->AB},Ms G l t h->AF (ve l G) t h
 | [],_,_,q=>N6 q
 | o::r,t,h,q=>by
  unfold Ms at q
  cases hm:ia o.op with
  | true=>rw[hm] at q;exact N7 hm rfl q
  | false=>rw[hm] at q;exact N8 hm (A1 r q)
instance QT:Ea (ve l G) (fun _ _=>true) (Ms G l):=⟨fun _ _ _ q=>(A1 l q).out⟩
def IK (G:AS->Prop):List Oper->(Nat->AV)->(Nat->AB)->Prop
 | [],t,h=>AF G t h
 | o::r,t,h=>match rR o with
  | true=>IK G r t h
  | false=>match o.dst with
   | none=>False
   | some d=>match t d with
    | .ow i=>match kT (h i) with
     | false=>IK G r t h
     | true=>match bw i d with
      | true=>IK G r t h
      | false=>AF (jl r G) (Mo i d t) (Mp i d h)
    | _=>IK G r t h
theorem Ox {r:List Oper} {i:Nat} {d:Tmp} {x:Operand} (ho:o.op=.assign x) (hd:o.dst=some d) (ht:t d=.ow i) (hh:kT (h i)=true) (bG:bw i d=true) (q:AF (jl r G) t h):AF (jl (o::r) G) t h:=⟨by
 show G (nS r (eZ o _))
 have:eZ o ⟨t,h⟩=⟨t,h⟩:=by
  unfold eZ
  rw[ho,hd]
  simp only[ht]
  cases hb:h i <;> rw[hb] at hh <;> first | (cases hh;done) | (simp only[hb,bG])
 rw[this]
 exact q.out⟩
theorem nV:∀(l:List Oper) {t:Nat->AV} {h:Nat->AB},IK G l t h->AF (jl l G) t h
 | [],_,_,q=>N9 q
 | o::r,t,h,q=>by
  unfold IK at q
  cases hm:rR o with
  | true=>rw[hm] at q;exact N_ hm (nV r q)
  | false=>
   rw[hm] at q
   have ha:∃x,o.op=.assign x:=by
    unfold rR at hm
    split at hm
    ·rename_i x hx;exact⟨x,hx⟩
    cases hm
   obtain⟨x,ha⟩:=ha
   simp only at q
   split at q
   ·exact q.elim
   rename_i d hd
   split at q
   ·rename_i i ht
    split at q
    ·rename_i hh;exact K_ hd (by rw[w6,ht];exact hh) (nV r q)
    rename_i hh
    split at q
    ·rename_i hb;exact Ox ha hd ht hh hb (nV r q)
    rename_i hb;exact Oa ha hd ht hh hb q
   rename_i BQ
   refine K_ hd ?_ (nV r q)
   unfold w6
   split
   ·rename_i i ht;exact absurd ht (BQ i)
   rfl
instance QU:Ea (jl l G) (fun _ _=>true) (IK G l):=⟨fun _ _ _ q=>(nV l q).out⟩
end
class IL (b:Bool) (p q:outParam Prop):Prop where
 yes:b=true->p
 no:b=false->q
instance (priority:=10) Oy {b:Bool}:IL b (b=true) (b=false):=⟨id,id⟩
instance QV {p:Prop} [Decidable p]:IL (decide p) p (¬p):=⟨of_decide_eq_true,of_decide_eq_false⟩
instance PC {α:Type} [_root_.LE α] {a b:α} [Decidable (a>=b)]:IL (decide (a>=b)) (b<=a) (¬b<=a):=⟨of_decide_eq_true,of_decide_eq_false⟩
instance PD {α:Type} [_root_.LT α] {a b:α} [Decidable (a > b)]:IL (decide (a > b)) (b < a) (¬b < a):=⟨of_decide_eq_true,of_decide_eq_false⟩
instance QW {b:Bool} {p q:Prop} [i:IL b p q]:IL (!b) q p:=⟨fun h=>i.no (by simpa using h),fun h=>i.yes (by simpa using h)⟩
class A2 (F:AS->Prop) (c:outParam ((Nat->AV)->Option Bool)) (y n:outParam ((Nat->AV)->(Nat->AB)->Prop)):Prop where
 go:∀t h b,c t=some b->(b=true->y t h)->(b=false->n t h)->F ⟨t,h⟩
theorem iF {F:AS->Prop} {c:(Nat->AV)->Option Bool} {y n:(Nat->AV)->(Nat->AB)->Prop} {t:Nat->AV} {h:Nat->AB} {b:Bool} {p q:Prop} [i:A2 F c y n] (e:c t=some b) [k:IL b p q] (f:p->y t h) (g:q->n t h):AF F t h:=
 ⟨i.go t h b e (fun hb=>f (k.yes hb)) fun hb=>g (k.no hb)⟩
def A3 (all:List Oper) (o:Oper) (t:Nat->AV):Option Bool:=match o.guard with
 | none=>none
 | some (g,_)=>match all[g]? with
  | none=>none
  | some og=>match og.dst with
   | none=>none
   | some tg=>match t tg with
    | .p (.im (.bool b))=>some b
    | _=>none
def JR (all:List Oper) (o:Oper) (b:Bool) (S R:AS->Prop) (t:Nat->AV) (h:Nat->AB):Prop:=match o.guard with
 | none=>False
 | some (g,want)=>match all[g]? with
  | none=>False
  | some og=>match og.dst with
   | none=>False
   | some tg=>match want with
    | true=>AF (FY b o S R) (aA t tg (cR b)) h
    | false=>AF (FY (!b) o S R) (aA t tg (cR b)) h
section
variable {C:Ctx} {all:List Oper} {K:AS->Prop} {o:Oper} {r:List Oper} {t:Nat->AV} {h:Nat->AB} {ap:Bool} {X:List Nat} {f:Bool} {fl:List Bool}
theorem lX {b:Bool} (e:A3 all o t=some b) {S R:AS->Prop} (q:JR all o b S R t h):∃g want og tg,o.guard=some (g,want)/\all[g]?=some og/\og.dst=some tg/\t tg=.p (.im (.bool b))/\(match want with | true=>AF (FY b o S R) (aA t tg (cR b)) h | false=>AF (FY (!b) o S R) (aA t tg (cR b)) h):=by
 unfold A3 at e
 unfold JR at q
 split at e
 ·cases e
 rename_i g want h1
 split at e
 ·cases e
 rename_i og h2
 split at e
 ·cases e
 rename_i tg h3
 split at e
 ·rename_i b' h4
  injection e with e
  subst e
  simp only[h1,h2,h3] at q
  exact⟨g,want,og,tg,h1,h2,h3,h4,q⟩
 cases e
instance RN:A2 (cy C all (o::r) K) (A3 all o) (JR all o true (step C o (cy C all r K)) (cy C all r K)) (JR all o false (step C o (cy C all r K)) (cy C all r K)):=⟨fun t h b e y n=>by
 cases b with
 | true=>
  obtain⟨g,want,og,tg,h1,h2,h3,h4,q⟩:=lX e (y rfl)
  refine (K6 h1 h2 h3 h4 ?_).out
  cases want <;> exact q
 | false=>
  obtain⟨g,want,og,tg,h1,h2,h3,h4,q⟩:=lX e (n rfl)
  refine (K6 h1 h2 h3 h4 ?_).out
  cases want <;> exact q⟩
instance RO:A2 (cz C ap X all (f::fl) (o::r) K) (A3 all o) (JR all o true (fi C ap X f o (cz C ap X all fl r K)) (cz C ap X all fl r K)) (JR all o false (fi C ap X f o (cz C ap X all fl r K)) (cz C ap X all fl r K)):=⟨fun t h b e y n=>by
 cases b with
 | true=>
  obtain⟨g,want,og,tg,h1,h2,h3,h4,q⟩:=lX e (y rfl)
  refine (K8 h1 h2 h3 h4 ?_).out
  cases want <;> exact q
 | false=>
  obtain⟨g,want,og,tg,h1,h2,h3,h4,q⟩:=lX e (n rfl)
  refine (K8 h1 h2 h3 h4 ?_).out
  cases want <;> exact q⟩
def Hd (c:Code) (t:Nat->AV):Option Bool:=match c with
 | .cond c _ _=>match ev t c with
  | .p (.im (.bool b))=>some b
  | _=>none
 | _=>none
def PE (A:bE) (K:Exit->AS->Prop) (c:Code) (b:Bool) (t:Nat->AV) (h:Nat->AB):Prop:=match c with
 | .cond _ x y=>match b with
  | true=>AF (gf A x K) t h
  | false=>AF (gf A y K) t h
 | _=>False
instance RP {A:bE} {K:Exit->AS->Prop} {c:Code}:A2 (gf A c K) (Hd c) (PE A K c true) (PE A K c false):=⟨fun t h b e y n=>by
 unfold Hd at e
 split at e
 ·rename_i c x z
  split at e
  ·rename_i b' h1
   injection e with e
   subst e
   refine (IG h1 ?_).out
   cases b' with
   | true=>exact y rfl
   | false=>exact n rfl
  cases e
 cases e⟩
end
end Go.AM
namespace Go.AM
open Go.RowKit
def qQ (C : Ctx) (f : FuncId) : Prop := ∃ fn : Func, C.P.funcs[f]? = some fn ∧ (fn.name == "runtime.NumGoroutine") = false ∧ fn.body.isNone = false
theorem qR {S:Nat->Prop} {w:World} {P:Program} {as:List Value} {vs:Array Value} (hl:(as.map fun a=>Arg.pv (.im a)).length=vs.size) (hr:∀(j:Nat) x v,(as.map fun a=>Arg.pv (.im a))[j]?=some x->vs[j]?=some v->yp S w P x v):vs=as.toArray:=by
 apply Array.ext'
 apply List.ext_getElem?
 intro i
 by_cases hi:i < as.length
 ·have h1:(as.map fun a=>Arg.pv (.im a))[i]?=some (.pv (.im as[i])):=by rw[List.getElem?_map,List.getElem?_eq_getElem hi];rfl
  have HL:i < vs.size:=by rw[<-hl];simpa using hi
  have h2:=hr i _ vs[i] h1 (Array.getElem?_eq_getElem HL)
  have h3:vs[i]=as[i]:=by
   have:az S w (.im as[i]) vs[i]:=h2
   generalize vs[i]=v at this
   cases this;rfl
  rw[Array.getElem?_toList,Array.getElem?_eq_getElem HL,h3]
  simp[hi]
 rw[List.getElem?_eq_none (by simpa [<-hl] using hi)]
 rw[List.getElem?_eq_none (by simpa using hi)]
theorem vg {S:Nat->Prop} {w:World} {P:Program}:∀l:List Value,dT S w P (l.map fun a=>Arg.pv (.im a)) [] l:=by
 intro l
 induction l with
 | nil=>trivial
 | cons a l ih=>exact ih
theorem nW {w:World}:∀(l:List Value) (i g:Nat),¬bU w (l.map fun a=>Arg.pv (.im a)) [] l i g:=by
 intro l
 induction l with
 | nil=>exact fun i g h=>h
 | cons a l ih=>
  intro i g h
  cases i with
  | zero=>exact h
  | succ i=>exact ih i g h
theorem w9 {w w':World} (l:List Value):nA w w' (l.map fun a=>Arg.pv (.im a)) [] l.toArray:=⟨fun i g h=>(nW l i g h).elim,fun i j g h=>(nW l i g h).elim⟩
theorem pk {C:Ctx} {f:FuncId} (as:List Value) (r:Value) (hf:qQ C f) (h:∀S w,C.E S w->(∀b,S b->b < w.heap.size)->Calls C.P f as.toArray w fun e w'=>e=.returned r/\Below w.heap.size w w'):
  af C f (as.map fun a=>.pv (.im a)) (.p (.im r)) []:=by
 refine⟨hf,fun S w vs hE hS hl hr _=>?_⟩
 have Da:=qR hl hr
 subst Da
 exact (h S w hE hS).mono fun e w' ⟨he,hb⟩=>⟨r,S,he,⟨hb.os,hb.tape,hb.output,hb.size,fun k hk _=>hb.block k hk⟩,fun _ h=>h,fun b jG=>Nat.lt_of_lt_of_le (hS b jG) hb.size,fun b jG=>.inl jG,.im r,vg as,w9 as,fun g h=>by cases h⟩
theorem w_ {C:Ctx} (hC:a8 C) {f:FuncId} (as:List Value) (e:TypeId) (xs:List Value) (ti:TI) (hT:C.T e=some ti) (hsz:ti.size=1) (fB:∀v∈xs,v.oneCell'=true) (hlen:xs.length<=maxLen) (hf:qQ C f)
  (h:∀S w,C.E S w->(∀b,S b->b < w.heap.size)->Calls C.P f as.toArray w fun e' w'=>e'=.returned (.slice (some ⟨w.heap.size,0,none⟩) xs.length xs.length)/\w'=w.alloc (.cells xs.toArray e)):
  af C f (as.map fun a=>.pv (.im a)) (.own e (xs.map fun v=>[.im v])) []:=by
 refine⟨hf,fun S w vs hE hS hl hr _=>?_⟩
 have Da:=qR hl hr
 subst Da
 obtain⟨info,z,h1,h2,_⟩:=hC.eK e ti hT
 refine (h S w hE hS).mono fun e' w' ⟨he,hw⟩=>?_
 subst hw
 have Dp:(w.alloc (.cells xs.toArray e)).heap[w.heap.size]?=some (.cells xs.toArray e (0,0)):=by unfold World.alloc;exact Array.getElem?_push_size
 have QX:(w.alloc (.cells xs.toArray e)).heap.size=w.heap.size+1:=Array.size_push ..
 have hb:Below w.heap.size w (w.alloc (.cells xs.toArray e)):=(Below.refl _ _).alloc (Nat.le_refl _) _
 refine⟨_,S,he,⟨hb.os,hb.tape,hb.output,hb.size,fun k hk _=>hb.block k hk⟩,fun _ h=>h,fun b jG=>Nat.lt_of_lt_of_le (hS b jG) hb.size,fun b jG=>.inl jG,⟨⟨info,xs,h1,by omega,⟨?_,.inr ⟨w.heap.size,xs.length,xs.toArray,?_,Nat.zero_le _,Dp,?_,hlen,?_,?_⟩⟩,?_,fB,?_⟩,?_⟩,vg as,w9 as,?_⟩
 ·simp[h2,hsz]
 ·simp
 ·simp
 ·simp[h2,hsz]
 ·simp[h2,hsz]
 ·intro r hr
  obtain⟨v,_,rfl⟩:=List.mem_map.1 hr
  simp[h2,hsz]
 ·intro a r j x ha hj
  rw[List.getElem?_map] at ha
  obtain⟨v,hv,rfl⟩:=Option.map_eq_some_iff.1 ha
  cases j with
  | zero=>
   simp at hj
   subst hj
   exact⟨v,by rw[h2,hsz,Nat.mul_one,Nat.add_zero];exact hv,.im v⟩
  | succ j=>simp at hj
 ·intro g hg hs
  injection hg with hg
  have hg:w.heap.size=g:=hg
  have:=hS g hs
  omega
 intro g _ hg
 have hg:=aq rfl hg
 injection hg with hg
 have hg:w.heap.size=g:=hg
 exact⟨by omega,.inl (by omega),fun i=>nW as i g⟩
end Go.AM
