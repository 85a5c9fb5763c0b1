/- Part 3 of 14 of the proof of RulesTellTrue (the names are shortened by a program: the size of a claim is limited). -/
import Derived.Test.YtpbkimanfahbgaaGreatDoorL02
set_option linter.unusedVariables false
set_option linter.unusedSimpArgs false
set_option maxRecDepth 100000
set_option maxHeartbeats 8000000
namespace Go.AM
open Go.RowKit
def isApp:Op->Bool
 | .call c=>match c.callee with
  | .builtin .append=>true
  | _=>false
 | _=>false
def G8 (m:Nat->Bool):Nat->Bool
 | 0=>false
 | n+1=>m n || G8 m n
def iF (C:Ctx) (o:Op):Bool:=isApp o || match o with
 | .call c=>match c.callee with
  | .value (.func f)=>G8 (C.md f) 8 || C.bl f
  | .value (.tmp _)=>true
  | _=>false
 | _=>false
def cls (C:Ctx) (ap:Bool):Op->Nat
 | .move _=>0
 | .assign _=>0
 | .pick _ _ _=>0
 | .binOp _ _ _ _ _=>0
 | .unOp _ _ _=>0
 | .convert _ _ _=>0
 | .extract _ _=>0
 | .index _ _ _=>0
 | .field _ _ _=>0
 | .makeFunc _ _ _=>0
 | .fieldAddr _ _ _=>match ap with
  | true=>2
  | false=>1
 | .nilCheck _=>match ap with
  | true=>2
  | false=>1
 | .store _ _ _=>3
 | .mapUpdate _ _ _ _=>3
 | .call c=>match c.callee with
  | .builtin .append=>3
  | .builtin .clear=>3
  | .builtin .min=>0
  | .builtin .max=>0
  | .value (.func f)=>match G8 (C.md f) 8 || C.bl f with
   | true=>3
   | false=>2
  | .value (.tmp _)=>3
  | _=>2
 | _=>2
def G9:AB->AB->Bool
 | .row e _,.row e' _=>cW e e'
 | .box _,.box _=>true
 | .map _ _,.map _ _=>true
 | _,_=>false
def G_:AB->Bool
 | .none=>false
 | _=>true
def fL (h:Nat->AB):List (Nat×AB)->Bool
 | []=>true
 | (i,_)::r=>G_ (h i) && fL h r
def gW (h:Nat->AB):List (Nat×AB)->Bool
 | []=>true
 | (i,b)::r=>G9 (h i) b && gW h r
def nQ (op:Op):Option AB->Option Tmp->Bool
 | none,_=>true
 | some _,some _=>gV op
 | some _,none=>false
def rK:AV->Bool
 | .p _=>true
 | _=>false
def rM (o:Oper) (rho:Operand->AV):Bool:=match o.op with
 | .load _ a=>rK (rho a)
 | .indexAddr _ x _=>rK (rho x)
 | .slice _ x _ _ none=>rK (rho x)
 | .build _ ps=>ps.toList.all fun p=>rK (rho p.2)
 | .call c=>match c.callee,c.args.toList with
  | .builtin .len,[x]=>rK (rho x)
  | _,_=>false
 | .fieldAddr _ x _=>rK (rho x)
 | .nilCheck x=>rK (rho x)
 | _=>false
def wq:List Nat->Nat->Bool
 | [],_=>false
 | i::r,k=>match cW i k with
  | true=>true
  | false=>wq r k
def N3 (X:List Nat):AV->Bool
 | .ow id=>wq X id
 | .rp id _ _=>wq X id
 | .bx id _=>wq X id
 | _=>false
def nR (X:List Nat) (o:Oper) (rho:Operand->AV):Bool:=match o.op with
 | .load _ a=>N3 X (rho a)
 | .indexAddr _ x _=>N3 X (rho x)
 | .lookup _ x _ _=>N3 X (rho x)
 | .call c=>match c.callee,c.args.toList with
  | .builtin .len,[x]=>N3 X (rho x)
  | _,_=>false
 | _=>false
def rN (X:List Nat) (o:Oper) (rho:Operand->AV):Bool:=match o.op with
 | .makeSlice _ _ _=>wq X (o.dst.getD 0)
 | .buildSlice _ _ ps=>wq X (o.dst.getD 0) && ps.toList.all fun p=>rK (rho p.2)
 | _=>false
def nS (X:List Nat) (o:Oper) (rho:Operand->AV):Bool:=nR X o rho || rN X o rho
def Nj (X:List Nat):List (Nat×AB)->Bool
 | []=>true
 | (i,_)::r=>match wq X i with
  | true=>false
  | false=>Nj X r
def kc:AB->Nat
 | .box _=>1
 | .iP _=>1
 | .row _ _=>2
 | .aL _ _=>2
 | _=>0
def qq (X:List Nat) (h:Nat->AB):List (Nat×AB)->Bool
 | []=>true
 | (i,b)::r=>match wq X (i+1000000) with
  | true=>Nat.beq (kc b) (kc (h i)) && (!Nat.beq (kc (h i)) 0 && qq X h r)
  | false=>qq X h r
def I0 (X:List Nat) (f:Bool) (h:Nat->AB) (e:List (Nat×AB)):Bool:=(f || Nj X e) && qq X h e
theorem yf (X:List Nat) (f:Bool) (h:Nat->AB):I0 X f h []=true:=by simp[I0,Nj,qq]
def Q2 (X:List Nat):AV->Bool
 | .bx id _=>wq X (id+1000000)
 | .rp id _ _=>wq X (id+1000000)
 | _=>false
def rO (X:List Nat) (o:Oper) (rho:Operand->AV):Bool:=match o.op with
 | .fieldAddr _ x _=>Q2 X (rho x)
 | .nilCheck x=>Q2 X (rho x)
 | _=>false
def kV (C:Ctx) (ap:Bool) (X:List Nat) (f:Bool) (o:Oper) (rho:Operand->AV):Bool:=f || rM o rho || nS X o rho || rO X o rho || Nat.beq (cls C ap o.op) 3
def Ha (C:Ctx) (ap:Bool) (X:List Nat) (f:Bool) (o:Oper) (K:AS->Prop) (s:AS):Prop:=
 bY C o (ev s.t) s.h fun v eff new=>match nQ o.op new o.dst with
  | false=>False
  | true=>match Nat.beq (cls C ap o.op) 3 with
   | true=>match fL s.h eff && (ap || gW s.h eff) && I0 X f s.h eff with
    | true=>K ⟨eu s.t o.dst v,qg (app s.h eff) (o.dst.getD 0) new⟩
    | false=>False
   | false=>match eff with
    | []=>K ⟨eu s.t o.dst v,qg s.h (o.dst.getD 0) new⟩
    | _=>False
def iY (C:Ctx) (ap:Bool) (X:List Nat) (f:Bool) (o:Oper) (K:AS->Prop) (s:AS):Prop:=match kV C ap X f o (ev s.t) with
 | true=>Ha C ap X f o K s
 | false=>False
def dx (C:Ctx) (ap:Bool) (X:List Nat) (all:List Oper):List Bool->List Oper->(AS->Prop)->AS->Prop
 | _,[],K,s=>K s
 | [],_::_,_,_=>False
 | f::fl,o::r,K,s=>match o.guard with
  | none=>iY C ap X f o (dx C ap X all fl r K) s
  | some (g,want)=>match all[g]? with
   | none=>False
   | some og=>match og.dst with
    | none=>False
    | some tg=>match s.t tg with
     | .p (.im (.bool b))=>fj b
       (match want with
        | true=>iY C ap X f o (dx C ap X all fl r K) ⟨br s.t tg (ew true),s.h⟩
        | false=>dx C ap X all fl r K ⟨eu (br s.t tg (ew true)) o.dst kD,s.h⟩)
       (match want with
        | false=>iY C ap X f o (dx C ap X all fl r K) ⟨br s.t tg (ew false),s.h⟩
        | true=>dx C ap X all fl r K ⟨eu (br s.t tg (ew false)) o.dst kD,s.h⟩)
     | .p (.im (.tuple _))=>dx C ap X all fl r K ⟨eu s.t o.dst kD,s.h⟩
     | _=>False
structure RR where
 run:Bool
 v:AV
 eff:List (Nat×AB)
 new:Option AB
structure DStep (C:Ctx) (ap:Bool) (all:List Oper) (o:Oper) (s:AS) (r:RR) (s':AS):Prop where
 guard:match o.guard with
  | none=>r.run=true
  | some (g,want)=>∃og tg b,all[g]?=some og/\og.dst=some tg/\s.t tg=.p (.im b)/\r.run=NW b want
 ran:r.run=true->bY C o (ev s.t) s.h fun v e n=>v=r.v/\e=r.eff/\n=r.new
 not:r.run=false->r.v=kD/\r.eff=[]/\r.new=none
 next:s'=⟨eu s.t o.dst r.v,qg (app s.h r.eff) (o.dst.getD 0) r.new⟩
 there:fL s.h r.eff=true
 kind:ap=false->gW s.h r.eff=true
 quiet:cls C ap o.op≠3->r.eff=[]
 ndst:nQ o.op r.new o.dst=true
theorem Ff {C:Ctx} {ap f:Bool} {X:List Nat} {o:Oper} {K:AS->Prop} {s:AS} (h:Ha C ap X f o K s):∃v eff new,(bY C o (ev s.t) s.h fun v' e' n'=>v'=v/\e'=eff/\n'=new)/\fL s.h eff=true/\(ap=false->gW s.h eff=true)/\(cls C ap o.op≠3->eff=[])/\nQ o.op new o.dst=true/\I0 X f s.h eff=true/\K ⟨eu s.t o.dst v,qg (app s.h eff) (o.dst.getD 0) new⟩:=by
 obtain⟨v,eff,new,h1,h2⟩:=oG (fun _=>.inr rfl) h
 refine⟨v,eff,new,h2 _ ⟨rfl,rfl,rfl⟩,?_⟩
 split at h1
 ·exact h1.elim
 rename_i IY
 split at h1
 ·rename_i hc
  have hc:cls C ap o.op=3:=Nat.eq_of_beq_eq_true hc
  split at h1
  ·rename_i hk
   have hx:I0 X f s.h eff=true:=(Bool.and_eq_true _ _ ▸ hk).2
   simp only[Bool.and_eq_true,Bool.or_eq_true] at hk
   exact⟨hk.1.1,fun e=>hk.1.2.resolve_left (by rw[e];decide),fun h=>absurd hc h,IY,hx,h1⟩
  exact h1.elim
 split at h1
 ·exact⟨rfl,fun _=>rfl,fun _=>rfl,IY,yf _ _ _,h1⟩
 exact h1.elim
def uA (C:Ctx) (ap:Bool) (X:List Nat) (fl:List Bool) (o:Oper) (s:AS) (r:RR) (i:Nat):Prop:=r.run=true->(fl[i]?=some true\/rM o (ev s.t)=true\/nS X o (ev s.t)=true\/rO X o (ev s.t)=true\/cls C ap o.op=3)/\(fl[i]?=some true\/Nj X r.eff=true)/\qq X s.h r.eff=true
theorem Hb {C:Ctx} {ap:Bool} {X:List Nat} {all:List Oper} {K:AS->Prop}:∀(l:List Oper) (fl:List Bool) (s:AS),dx C ap X all fl l K s->∃(st:Nat->AS) (r:Nat->RR),st 0=s/\K (st l.length)/\∀(i:Nat) o,l[i]?=some o->DStep C ap all o (st i) (r i) (st (i+1))/\uA C ap X fl o (st i) (r i) i:=by
 intro l
 induction l with
 | nil=>intro fl s h;exact⟨fun _=>s,fun _=>⟨false,.junk,[],none⟩,rfl,by cases fl <;> exact h,by simp⟩
 | cons o l ih=>
  intro fl s h
  cases fl with
  | nil=>exact h.elim
  | cons f fl=>
  have ext:∀(r:RR) (s':AS),DStep C ap all o s r s'->(r.run=true->kV C ap X f o (ev s.t)=true/\I0 X f s.h r.eff=true)->dx C ap X all fl l K s'->∃(st:Nat->AS) (r:Nat->RR),st 0=s/\K (st (o::l).length)/\∀(i:Nat) o',(o::l)[i]?=some o'->DStep C ap all o' (st i) (r i) (st (i+1))/\uA C ap X (f::fl) o' (st i) (r i) i:=by
   intro r0 s' hd hf hk
   obtain⟨st,r,h1,h2,h3⟩:=ih fl s' hk
   refine⟨fun i=>match i with | 0=>s | i+1=>st i,fun i=>match i with | 0=>r0 | i+1=>r i,rfl,h2,fun i o' hi=>?_⟩
   cases i with
   | zero=>
    simp at hi
    subst hi
    refine⟨?_,fun hr=>?_⟩
    ·show DStep C ap all o s r0 (st 0)
     rw[h1]
     exact hd
    obtain⟨q1,q2⟩:=hf hr
    simp only[I0,Bool.and_eq_true] at q2
    obtain⟨q2,q3⟩:=q2
    exact⟨by cases f with
     | true=>exact .inl rfl
     | false=>simp only[kV,Bool.false_or,Bool.or_eq_true] at q1;exact .inr (by rcases q1 with ((h | h) | h) | h;exact .inl h;exact .inr (.inl h);exact .inr (.inr (.inl h));exact .inr (.inr (.inr (Nat.eq_of_beq_eq_true h)))),by cases f with
     | true=>exact .inl rfl
     | false=>exact .inr q2,q3⟩
   | succ i=>
    obtain⟨q1,q2⟩:=h3 i o' (by simpa using hi)
    exact⟨q1,fun hr=>q2 hr⟩
  have runs:(match o.guard with
    | none=>true=true
    | some (g,want)=>∃og tg b,all[g]?=some og/\og.dst=some tg/\s.t tg=.p (.im b)/\true=NW b want)->iY C ap X f o (dx C ap X all fl l K) s->∃(st:Nat->AS) (r:Nat->RR),st 0=s/\K (st (o::l).length)/\∀(i:Nat) o',(o::l)[i]?=some o'->DStep C ap all o' (st i) (r i) (st (i+1))/\uA C ap X (f::fl) o' (st i) (r i) i:=by
   intro hg hs
   unfold iY at hs
   split at hs
   case h_2=>exact hs.elim
   rename_i hf
   obtain⟨v,eff,new,k1,k2,k3,k4,k6,k7,k5⟩:=Ff hs
   exact ext ⟨true,v,eff,new⟩ _ ⟨hg,fun _=>k1,(fun h=>by cases h),rfl,k2,k3,k4,k6⟩ (fun _=>⟨hf,k7⟩) k5
  unfold dx at h
  split at h
  ·rename_i hg
   exact runs (by rw[hg]) h
  rename_i g want hg
  split at h
  ·exact h.elim
  rename_i og L4
  split at h
  ·exact h.elim
  rename_i tg L5
  split at h
  ·rename_i b hb
   have qp:∀b',b=b'->br s.t tg (ew b')=s.t:=fun b' e=>eU _ _ _ (by rw[hb,e];rfl)
   have KT:dx C ap X all fl l K ⟨eu s.t o.dst kD,s.h⟩->(false=(b == want))->∃(st:Nat->AS) (r:Nat->RR),st 0=s/\K (st (o::l).length)/\∀(i:Nat) o',(o::l)[i]?=some o'->DStep C ap all o' (st i) (r i) (st (i+1))/\uA C ap X (f::fl) o' (st i) (r i) i:=fun hs he=>
    ext ⟨false,kD,[],none⟩ _ ⟨by rw[hg];exact⟨og,tg,.bool b,L4,L5,hb,by rw[he];cases b <;> cases want <;> rfl⟩,fun h=>(by cases h),fun _=>⟨rfl,rfl,rfl⟩,rfl,rfl,fun _=>rfl,fun _=>rfl,rfl⟩ (fun h=>by cases h) hs
   cases b <;> cases want <;> simp only[fj] at h
   ·rw[qp false rfl] at h
    exact runs (by rw[hg];exact⟨og,tg,.bool false,L4,L5,hb,rfl⟩) h
   ·rw[qp false rfl] at h
    exact KT h rfl
   ·rw[qp true rfl] at h
    exact KT h rfl
   rw[qp true rfl] at h
   exact runs (by rw[hg];exact⟨og,tg,.bool true,L4,L5,hb,rfl⟩) h
  ·rename_i q hb
   exact ext ⟨false,kD,[],none⟩ _ ⟨by rw[hg];exact⟨og,tg,.tuple q,L4,L5,hb,by cases want <;> rfl⟩,fun h=>(by cases h),fun _=>⟨rfl,rfl,rfl⟩,rfl,rfl,fun _=>rfl,fun _=>rfl,rfl⟩ (fun h=>by cases h) h
  exact h.elim
theorem L8 {C:Ctx} {ap:Bool} {o:Oper} {rho:Operand->AV} {h h':Nat->AB} {K:KK} (hc:cls C ap o.op=0) (hq:bY C o rho h K):bY C o rho h' K:=by
 cases aU:o.op <;> rw[aU] at hc <;> try (simp only[bY,aU] at hq ⊢;exact hq)
 all_goals try (cases hc;done)
 case makeFunc fn first cap=>
  cases fn with
  | func f=>simp only[bY,aU] at hq ⊢;exact hq
  | _=>simp only[bY,aU] at hq
 case fieldAddr=>cases ap <;> cases hc
 case nilCheck=>cases ap <;> cases hc
 case call c=>
  simp only[bY,aU] at hq ⊢
  simp only[cls] at hc
  split at hc
  ·cases hc
  ·cases hc
  ·rename_i h1;simp only[h1,ef,eS] at hq ⊢;exact hq
  ·rename_i h1;simp only[h1,ef,eS] at hq ⊢;exact hq
  ·split at hc <;> cases hc
  ·cases hc
  cases hc
theorem L9 {C:Ctx} {ap:Bool} {o:Oper} {rho:Operand->AV} {h h':Nat->AB} {K:KK} (hc:cls C ap o.op=1) (hh:∀id,(h id).there->((h' id).there/\(∀e es,h id=.row e es->∃wk,h' id=.row e wk)/\(∀cs,h id=.box cs->∃kI,h' id=.box kI)/\(∀cs,h id=.iP cs->∃kI,h' id=.iP kI)/\(∀e es,h id=.aL e es->∃wk,h' id=.aL e wk))) (hq:bY C o rho h K):bY C o rho h' K:=by
 cases aU:o.op <;> rw[aU] at hc <;> try (cases hc;done)
 case call c=>
  exfalso
  simp only[cls] at hc
  split at hc <;> first | cases hc | (split at hc <;> cases hc)
 case fieldAddr t x f=>
  simp only[bY,aU] at hq ⊢
  split at hq
  ·split at hq
   ·split at hq
    ·exact hq
    ·rename_i id o' hx
     split at hq
     ·exact hq.elim
     rename_i b8
     have ht:(h id).there:=by cases h1:h id <;> first | trivial | exact absurd h1 (by simpa using b8)
     have:=(hh id ht).1
     split
     ·rename_i h2;rw[h2] at this;exact this.elim
     exact hq
    ·rename_i id i o' hx
     split at hq
     ·rename_i e es hr
      obtain⟨wk,h2⟩:=(hh id (by rw[hr];trivial)).2.1 e es hr
      simp only[h2]
      exact hq
     ·rename_i e es hr
      obtain⟨wk,h2⟩:=(hh id (by rw[hr];trivial)).2.2.2.2 e es hr
      simp only[h2]
      exact hq
     exact hq.elim
    exact hq
   exact hq
  exact hq
 case nilCheck x=>
  simp only[bY,aU] at hq ⊢
  split at hq
  ·exact hq
  ·rename_i id off hx
   split at hq
   ·rename_i cs hr
    obtain⟨kI,h2⟩:=(hh id (by rw[hr];trivial)).2.2.1 cs hr
    simp only[h2]
    exact hq
   ·rename_i cs hr
    obtain⟨kI,h2⟩:=(hh id (by rw[hr];trivial)).2.2.2.1 cs hr
    simp only[h2]
    exact hq
   exact hq.elim
  ·rename_i id i off hx
   split at hq
   ·rename_i e es hr
    obtain⟨wk,h2⟩:=(hh id (by rw[hr];trivial)).2.1 e es hr
    simp only[h2]
    exact hq
   ·rename_i e es hr
    obtain⟨wk,h2⟩:=(hh id (by rw[hr];trivial)).2.2.2.2 e es hr
    simp only[h2]
    exact hq
   exact hq.elim
  exact hq
def rP (ops:Array Oper) (o:Oper) (d:Tmp):Bool:=(o.looksAt ops).contains d
def Cv (C:Ctx) (ap:Bool) (ops:Array Oper) (b:Array Nat) (i j:Nat) (oi oj:Oper):Bool:=
 (match oi.dst,oj.dst with
  | some x,some y=>!cW x y
  | _,_=>true) &&
 (match oj.dst with
  | some d=>!rP ops oi d || (b.getD j 0).testBit i
  | none=>true) &&
 (match oi.dst with
  | some d=>!rP ops oj d || (b.getD j 0).testBit i
  | none=>true) &&
 (if cls C ap oj.op=3 then (if cls C ap oi.op=3 then (b.getD j 0).testBit i else true) else true)
def N4 (ops:Array Oper) (b:Array Nat) (C:Ctx) (ap:Bool) (c i:Nat):Bool:=(List.range ops.size).all fun k=>match ops[k]? with
  | none=>true
  | some ok=>!cW (cls C ap ok.op) c || (if k < i then (b.getD i 0).testBit k else if i < k then (b.getD k 0).testBit i else true)
def Jw:Op->Bool
 | .fieldAddr _ _ _=>true
 | .nilCheck _=>true
 | _=>false
def Q3 (ops:Array Oper) (b:Array Nat) (C:Ctx) (ap:Bool) (i:Nat):Bool:=(List.range ops.size).all fun k=>match ops[k]? with
  | none=>true
  | some ok=>(Jw ok.op || !cW (cls C ap ok.op) 2) || (if k < i then (b.getD i 0).testBit k else if i < k then (b.getD k 0).testBit i else true)
def yi (C:Ctx) (ap:Bool) (ops:Array Oper) (b:Array Nat) (i:Nat) (oi:Oper):Bool:=
 match cls C ap oi.op with
 | 2=>N4 ops b C ap 3 i
 | 3=>Q3 ops b C ap i
 | _=>true
def gX (C:Ctx) (ap:Bool) (ops:Array Oper):List Bool:=
 let b:=Region.before ops
 (List.range ops.size).map fun i=>match ops[i]? with
  | some oi=>yi C ap ops b i oi
  | none=>true
theorem Hc {C:Ctx} {ap:Bool} {ops:Array Oper} {i:Nat} {oi:Oper} {c:Nat} (hi:ops[i]?=some oi) (h:N4 ops (Region.before ops) C ap c i=true):
  ∀(k:Nat) ok,ops[k]?=some ok->cls C ap ok.op=c->(k < i->((Region.before ops).getD i 0).testBit k=true)/\(i < k->((Region.before ops).getD k 0).testBit i=true):=by
 intro k ok hk Q4
 have p6:=(Array.getElem?_eq_some_iff.1 hi).1
 have Ak:=(Array.getElem?_eq_some_iff.1 hk).1
 have h2:=List.all_eq_true.1 h k (List.mem_range.2 Ak)
 simp only[hk,bG.2 Q4,Bool.not_true,Bool.false_or] at h2
 refine⟨fun eL=>?_,fun eL=>?_⟩
 ·rwa [if_pos eL] at h2
 rwa [if_neg (by omega),if_pos eL] at h2
theorem Al {C:Ctx} {ap:Bool} {ops:Array Oper} {i:Nat} {oi:Oper} (hi:ops[i]?=some oi) (h:(gX C ap ops)[i]?=some true):yi C ap ops (Region.before ops) i oi=true:=by
 have p6:=(Array.getElem?_eq_some_iff.1 hi).1
 simpa only[gX,List.getElem?_map,List.getElem?_range p6,Option.map_some,hi,Option.some.injEq] using h
theorem rQ {C:Ctx} {ap:Bool} {ops:Array Oper} {i:Nat} {oi:Oper} (hi:ops[i]?=some oi) (h:(gX C ap ops)[i]?=some true) (hc:cls C ap oi.op=2):
  ∀(k:Nat) ok,ops[k]?=some ok->cls C ap ok.op=3->(k < i->((Region.before ops).getD i 0).testBit k=true)/\(i < k->((Region.before ops).getD k 0).testBit i=true):=by
 have h2:=Al hi h
 simp only[yi,hc] at h2
 exact Hc hi h2
theorem uB {C:Ctx} {ap:Bool} {ops:Array Oper} {i:Nat} {oi:Oper} (hi:ops[i]?=some oi) (h:(gX C ap ops)[i]?=some true) (hc:cls C ap oi.op=3):
  ∀(k:Nat) ok,ops[k]?=some ok->cls C ap ok.op=2->Jw ok.op=false->(k < i->((Region.before ops).getD i 0).testBit k=true)/\(i < k->((Region.before ops).getD k 0).testBit i=true):=by
 have h2:=Al hi h
 simp only[yi,hc] at h2
 intro k ok hk Q4 hth
 have p6:=(Array.getElem?_eq_some_iff.1 hi).1
 have Ak:=(Array.getElem?_eq_some_iff.1 hk).1
 have h2:=List.all_eq_true.1 h2 k (List.mem_range.2 Ak)
 simp only[hk,hth,bG.2 Q4,Bool.not_true,Bool.false_or] at h2
 refine⟨fun eL=>?_,fun eL=>?_⟩
 ·rwa [if_pos eL] at h2
 rwa [if_neg (by omega),if_pos eL] at h2
theorem D5 {X:List Nat} {o:Oper} {rho:Operand->AV} (h:nS X o rho=true):Jw o.op=false:=by
 unfold nS nR rN at h
 cases e:o.op <;> rw[e] at h <;> first | rfl | cases h
theorem Am {X:List Nat}:∀{eff:List (Nat×AB)},Nj X eff=true->∀p∈eff,wq X p.1=false:=by
 intro eff
 induction eff with
 | nil=>intro _ p hp;cases hp
 | cons x r ih=>
  intro h p hp
  unfold Nj at h
  split at h
  ·cases h
  rename_i hx
  rcases List.mem_cons.1 hp with e | e
  ·rw[e];exact hx
  exact ih h p e
theorem eF {a:AV} (h:rK a=true):∃x,a=.p x:=by cases a <;> first | exact⟨_,rfl⟩ | cases h
theorem Hd {h h':Nat->AB} {fs:List (Nat×Nat×Bool)} {rho:Operand->AV}:∀(ps:List (Nat×Operand)) (cs:List PV) (K:List PV->List (Nat×AB)->Prop),(ps.all fun p=>rK (rho p.2))=true->iy h fs rho ps cs K->iy h' fs rho ps cs K:=by
 intro ps
 induction ps with
 | nil=>intro cs K _ hq;exact hq
 | cons p ps ih=>
  intro cs K hp hq
  obtain⟨i,x⟩:=p
  simp only[List.all_cons,Bool.and_eq_true] at hp
  obtain⟨y,hy⟩:=eF hp.1
  simp only[iy] at hq ⊢
  split at hq
  ·rw[hy] at hq ⊢
   simp only[gC,jN] at hq ⊢
   revert hq
   cases pC y with
   | none=>exact id
   | some ys=>
    simp only
    cases v_ ys.length _ && DK _ cs.length with
    | false=>exact id
    | true=>intro hq;exact ih _ _ hp.2 hq
  exact hq.elim
theorem He {h h':Nat->AB} {fs:List (Nat×Nat×Bool)} {rho:Operand->AV}:∀(ps:List (Nat×Operand)) (cs:List AV) (K:List AV->Prop),(ps.all fun p=>rK (rho p.2))=true->js h fs rho ps cs K->js h' fs rho ps cs K:=by
 intro ps
 induction ps with
 | nil=>intro cs K _ hq;exact hq
 | cons p ps ih=>
  intro cs K hp hq
  obtain⟨i,x⟩:=p
  simp only[List.all_cons,Bool.and_eq_true] at hp
  obtain⟨y,hy⟩:=eF hp.1
  unfold js at hq ⊢
  split at hq
  ·rename_i h1
   split at hq
   ·rename_i h2
    have e:ry h' (rho x)=ry h (rho x):=by rw[hy];cases y <;> rfl
    simp only[h1,e,h2]
    exact ih _ _ hp.2 hq
   exact hq.elim
  exact hq.elim
theorem Cw {h:Nat->AB} {fs:List (Nat×Nat×Bool)} {rho:Operand->AV} {Q:Prop}:∀(ps:List (Nat×Operand)) (cs:List PV) (K:List PV->List (Nat×AB)->Prop),(∀a b,K a b->Q)->iy h fs rho ps cs K->Q:=by
 intro ps
 induction ps with
 | nil=>intro cs K hk hq;exact hk _ _ hq
 | cons p ps ih=>
  intro cs K hk hq
  obtain⟨i,x⟩:=p
  simp only[iy] at hq
  split at hq
  ·obtain⟨y,fz,h1,_⟩:=gn (fun _=>.inr rfl) hq
   split at h1
   ·split at h1
    ·exact ih _ _ (fun a b h=>hk _ _ h) h1
    exact h1.elim
   exact h1.elim
  exact hq.elim
theorem L_ {C:Ctx} {o:Oper} {rho:Operand->AV} {h h':Nat->AB} {K:KK} (hp:rM o rho=true) (hq:bY C o rho h K):bY C o rho h' K:=by
 unfold rM at hp
 split at hp
 ·rename_i t a aU
  obtain⟨x,hx⟩:=eF hp
  simp only[bY,aU] at hq ⊢
  rw[hx] at hq ⊢
  cases x <;> exact hq
 ·rename_i t x ix aU
  obtain⟨y,hx⟩:=eF hp
  simp only[bY,aU] at hq ⊢
  rw[hx] at hq ⊢
  cases y <;> exact hq
 ·rename_i t x lo hi aU
  obtain⟨y,hx⟩:=eF hp
  simp only[bY,aU] at hq ⊢
  rw[hx] at hq ⊢
  have hq:fx C rho h t x lo hi K:=hq
  show fx C rho h' t x lo hi K
  simp only[fx] at hq ⊢
  rw[hx] at hq ⊢
  exact hq
 ·rename_i t ps aU
  simp only[bY,aU] at hq ⊢
  split at hq
  ·split at hq
   ·exact Hd _ _ _ hp hq
   exact He _ _ _ hp hq
  exact hq.elim
 ·rename_i c aU
  split at hp
  ·rename_i x hc ha
   obtain⟨y,hx⟩:=eF hp
   simp only[bY,aU,hc,ha,ef,eS] at hq ⊢
   split at hq
   ·rename_i Ma ht
    simp only[ha,ht] at *
    injection Ma with Ma _
    subst Ma
    rw[hx] at hq ⊢
    cases y <;> exact hq
   exact hq.elim
  cases hp
 ·rename_i t x f aU
  obtain⟨y,hx⟩:=eF hp
  simp only[bY,aU] at hq ⊢
  rw[hx] at hq ⊢
  cases y <;> exact hq
 ·rename_i x aU
  obtain⟨y,hx⟩:=eF hp
  simp only[bY,aU] at hq ⊢
  rw[hx] at hq ⊢
  cases y <;> exact hq
 cases hp
theorem Cx {C:Ctx} {o:Oper} {rho:Operand->AV} {h:Nat->AB} {v:AV} {e:List (Nat×AB)} {n:Option AB} (hp:rM o rho=true) (hq:bY C o rho h fun v' e' n'=>v'=v/\e'=e/\n'=n):n=none:=by
 have aux:∀(x:AV) (K:List (List PV)->Prop) (Q:Prop),(∀es,K es->Q)->fH h x K->Q:=by
  intro x K Q hk hq
  unfold fH at hq
  repeat' (split at hq)
  all_goals first | exact hq.elim | exact hk _ hq
 unfold rM at hp
 split at hp
 ·rename_i t a aU
  obtain⟨x,hx⟩:=eF hp
  simp only[bY,aU] at hq
  split at hq
  ·exact hq.elim
  rw[hx] at hq
  split at hq
  ·split at hq
   ·split at hq
    ·exact hq.2.2.symm
    exact hq.elim
   split at hq
   ·exact hq.2.2.symm
   exact hq.elim
  ·rename_i h1;cases h1
  ·rename_i h1;cases h1
  exact hq.elim
 ·rename_i t x ix aU
  obtain⟨y,hx⟩:=eF hp
  simp only[bY,aU] at hq
  split at hq
  ·split at hq
   ·exact hq.elim
   rw[hx] at hq
   split at hq
   ·obtain⟨r,_,hq⟩:=hq
    split at hq
    ·exact hq.2.2.symm
    exact hq.elim
   ·rename_i h1;cases h1
   exact hq.elim
  exact hq.elim
 ·rename_i t x lo hi aU
  obtain⟨y,hx⟩:=eF hp
  simp only[bY,aU] at hq
  rw[hx] at hq
  have hq:fx C rho h t x lo hi _:=hq
  simp only[fx] at hq
  split at hq
  ·rw[hx] at hq
   split at hq
   ·split at hq
    ·exact hq.2.2.2.symm
    exact hq.elim
   exact hq.elim
  ·split at hq
   ·exact hq.elim
   obtain⟨z,fz,hq,_⟩:=gn (fun _=>.inr rfl) hq
   split at hq
   ·split at hq
    ·exact hq.2.2.2.symm
    exact hq.elim
   exact hq.elim
  exact hq.elim
 ·rename_i t ps aU
  simp only[bY,aU] at hq
  split at hq
  ·split at hq
   ·exact Cw _ _ _ (fun _ _ h=>h.2.2.symm) hq
   obtain⟨z,h1,_⟩:=xf (fun _=>.inr rfl) hq
   exact h1.2.2.symm
  exact hq.elim
 ·rename_i c aU
  split at hp
  ·rename_i x hc ha
   simp only[bY,aU,hc,ha,ef,eS] at hq
   split at hq
   ·split at hq
    ·split at hq
     ·exact hq.2.2.symm
     exact hq.elim
    ·split at hq
     ·exact hq.2.2.symm
     exact aux _ _ _ (fun _ h=>h.2.2.symm) hq
    ·split at hq
     ·split at hq
      ·exact hq.2.2.symm
      exact hq.elim
     exact hq.elim
    exact hq.elim
   exact hq.elim
  cases hp
 ·rename_i t x f aU
  obtain⟨y,hx⟩:=eF hp
  simp only[bY,aU] at hq
  rw[hx] at hq
  repeat' (split at hq)
  all_goals first | exact hq.elim | exact hq.2.2.symm | (rename_i h1;cases h1)
 ·rename_i x aU
  obtain⟨y,hx⟩:=eF hp
  simp only[bY,aU] at hq
  rw[hx] at hq
  repeat' (split at hq)
  all_goals first | exact hq.elim | exact hq.2.2.symm | (rename_i h1;cases h1)
 cases hp
theorem Jx {C:Ctx} {o:Oper} {X:List Nat} {rho:Operand->AV} {h h':Nat->AB} {K:KK} (hh:∀id,wq X id=true->h id=.none\/h' id=h id) (hp:nR X o rho=true) (hq:bY C o rho h K):bY C o rho h' K:=by
 have hx:∀{a:AV},N3 X a=true->(∃id,a=.ow id/\(h id=.none\/h' id=h id))\/(∃id i off,a=.rp id i off/\(h id=.none\/h' id=h id))\/∃id off,a=.bx id off/\(h id=.none\/h' id=h id):=by
  intro a ha
  cases a with
  | ow id=>exact .inl ⟨id,rfl,hh id ha⟩
  | rp id i off=>exact .inr (.inl ⟨id,i,off,rfl,hh id ha⟩)
  | bx id off=>exact .inr (.inr ⟨id,off,rfl,hh id ha⟩)
  | _=>cases ha
 unfold nR at hp
 split at hp
 ·rename_i t a aU
  simp only[bY,aU] at hq ⊢
  cases hT:C.T t with
  | none=>simp only[hT] at hq
  | some ti=>
   simp only[hT] at hq ⊢
   rcases hx hp with⟨id,e,e2⟩ | ⟨id,i,off,e,e2⟩ | ⟨id,off,e,e2⟩ <;> simp only[e] at hq ⊢ <;> rcases e2 with e2 | e2 <;> first | (simp only[e2] at hq;done) | (rw[e2];exact hq)
 ·rename_i t x ix aU
  simp only[bY,aU] at hq ⊢
  split at hq
  case h_2=>exact hq.elim
  rename_i e size bytes zero eq k i hT Lz
  cases rC:C.T e with
  | none=>simp only[rC] at hq
  | some te=>
   simp only[rC] at hq ⊢
   rcases hx hp with⟨id,e,e2⟩ | ⟨id,i,off,e,e2⟩ | ⟨id,off,e,e2⟩ <;> simp only[e] at hq ⊢ <;> rcases e2 with e2 | e2 <;> first | (simp only[e2] at hq;done) | (rw[e2];exact hq)
 ·rename_i t x ix ck aU
  simp only[bY,aU] at hq ⊢
  rcases hx hp with⟨id,e,e2⟩ | ⟨id,i,off,e,e2⟩ | ⟨id,off,e,e2⟩ <;> simp only[e] at hq ⊢
  ·rcases e2 with e2 | e2
   ·simp only[e2] at hq
    repeat' (split at hq)
    all_goals exact hq.elim
   rw[e2];exact hq
  ·exact hq
  exact hq
 ·rename_i c aU
  split at hp
  ·rename_i x hc ha
   simp only[bY,aU,hc,ha,ef,eS] at hq ⊢
   split at hq
   case h_2=>exact hq.elim
   rename_i x' t Ma ht
   injection Ma with Ma _
   subst Ma
   split at hq
   ·rcases hx hp with⟨id,e,e2⟩ | ⟨id,i,off,e,e2⟩ | ⟨id,off,e,e2⟩ <;> simp only[e] at hq
   ·rename_i hT
    rcases hx hp with⟨id,e,e2⟩ | ⟨id,i,off,e,e2⟩ | ⟨id,off,e,e2⟩ <;> simp only[hT,e,hlen,fH] at hq ⊢
    rcases e2 with e2 | e2
    ·simp only[e2] at hq
    rw[e2];exact hq
   ·rename_i hT
    rcases hx hp with⟨id,e,e2⟩ | ⟨id,i,off,e,e2⟩ | ⟨id,off,e,e2⟩ <;> simp only[hT,e] at hq ⊢
    rcases e2 with e2 | e2
    ·simp only[e2] at hq
    rw[e2];exact hq
   exact hq.elim
  cases hp
 cases hp
theorem An {C:Ctx} {o:Oper} {X:List Nat} {rho:Operand->AV} {h:Nat->AB} {v:AV} {e:List (Nat×AB)} {n:Option AB} (hp:nR X o rho=true) (hq:bY C o rho h fun v' e' n'=>v'=v/\e'=e/\n'=n):n=none:=by
 have aux:∀(x:AV) (K:List (List PV)->Prop) (Q:Prop),(∀es,K es->Q)->fH h x K->Q:=by
  intro x K Q hk hq
  unfold fH at hq
  repeat' (split at hq)
  all_goals first | exact hq.elim | exact hk _ hq
 unfold nR at hp
 split at hp
 ·rename_i aU
  simp only[bY,aU] at hq
  repeat' (split at hq)
  all_goals first | exact hq.elim | exact hq.2.2.symm | (exfalso;obtain⟨r,hr,hq⟩:=hq;exact hq) | (rcases hq with⟨r,hr,hq⟩;first | exact hq.2.2.symm | (split at hq <;> first | exact hq.elim | exact hq.2.2.symm))
 ·rename_i aU
  simp only[bY,aU] at hq
  repeat' (split at hq)
  all_goals first | exact hq.elim | exact hq.2.2.symm | exact hq.2.2.2.symm | (obtain⟨r,hr,hq⟩:=hq;split at hq <;> first | exact hq.elim | exact hq.2.2.symm)
 ·rename_i aU
  simp only[bY,aU] at hq
  repeat' (split at hq)
  all_goals first | exact hq.elim | (obtain⟨r,hr,hq⟩:=hq;exact hq.2.2.symm) | (obtain⟨r,hr,hq⟩:=hq;split at hq <;> exact hq.2.2.symm)
 ·rename_i c aU
  split at hp
  ·rename_i x hc ha
   simp only[bY,aU,hc,ha,ef,eS] at hq
   split at hq
   ·split at hq
    ·split at hq
     ·exact hq.2.2.symm
     exact hq.elim
    ·split at hq
     ·exact hq.2.2.symm
     exact aux _ _ _ (fun _ h=>h.2.2.symm) hq
    ·split at hq
     ·split at hq
      ·exact hq.2.2.symm
      exact hq.elim
     exact hq.elim
    exact hq.elim
   exact hq.elim
  cases hp
 cases hp
theorem Mb {C:Ctx} {o:Oper} {X:List Nat} {rho:Operand->AV} {h h':Nat->AB} {K:KK} (hh:∀id,wq X id=true->h id=.none\/h' id=h id) (hp:nS X o rho=true) (hq:bY C o rho h K):bY C o rho h' K:=by
 unfold nS at hp
 rcases (Bool.or_eq_true _ _ ▸ hp:nR X o rho=true\/rN X o rho=true) with hp | hp
 ·exact Jx hh hp hq
 unfold rN at hp
 split at hp
 ·rename_i t n c aU
  simp only[bY,aU] at hq ⊢
  exact hq
 ·rename_i t n ps aU
  simp only[Bool.and_eq_true] at hp
  have iB:∀p∈ps.toList,rK (rho p.2)=true:=List.all_eq_true.1 hp.2
  have aux:∀(b:Bool) (size:Nat) (l:List (Nat×Operand)) (es:List (List PV)) (K:List (List PV)->List (Nat×AB)->Prop),(∀p∈l,rK (rho p.2)=true)->fG b h size rho l es K->fG b h' size rho l es K:=by
   intro b size l
   induction l with
   | nil=>intro es K _ h;exact h
   | cons p r ih=>
    intro es K hl hk
    obtain⟨i,x⟩:=p
    obtain⟨y,hy⟩:=eF (hl _ List.mem_cons_self)
    simp only at hy
    simp only[fG,hy] at hk ⊢
    have e:∀(h:Nat->AB) (Q:PV->List (Nat×AB)->Prop),sK b h (.p y) Q=Q y []:=fun h Q=>by cases b <;> rfl
    rw[e] at hk ⊢
    revert hk
    split
    ·intro hk
     revert hk
     split
     ·intro hk
      exact ih _ _ (fun p hp=>hl p (List.mem_cons_of_mem _ hp)) hk
     exact fun hk=>hk
    exact fun hk=>hk
  simp only[bY,aU] at hq ⊢
  revert hq
  split
  ·split
   ·split
    ·split
     ·exact aux _ _ _ _ _ iB
     exact aux _ _ _ _ _ iB
    exact fun hq=>hq
   exact fun hq=>hq
  exact fun hq=>hq
 cases hp
theorem Cy {C:Ctx} {o:Oper} {X:List Nat} {rho:Operand->AV} {h:Nat->AB} {v:AV} {e:List (Nat×AB)} {n:Option AB} (hp:nS X o rho=true) (hq:bY C o rho h fun v' e' n'=>v'=v/\e'=e/\n'=n):n=none\/wq X (o.dst.getD 0)=true:=by
 unfold nS at hp
 rcases (Bool.or_eq_true _ _ ▸ hp:nR X o rho=true\/rN X o rho=true) with hp | hp
 ·exact .inl (An hp hq)
 unfold rN at hp
 split at hp
 ·exact .inr hp
 ·simp only[Bool.and_eq_true] at hp
  exact .inr hp.1
 cases hp
theorem Mc {C:Ctx} {o:Oper} {X:List Nat} {rho:Operand->AV} {h h':Nat->AB} {K:KK} (hh:∀id,wq X (id+1000000)=true->h id≠.none->(kc (h' id)=kc (h id)/\kc (h id)≠0)\/h' id=h id) (hp:rO X o rho=true) (hq:bY C o rho h K):bY C o rho h' K:=by
 have hx:∀{a:AV},Q2 X a=true->(∃id off,a=.bx id off/\wq X (id+1000000)=true)\/∃id i off,a=.rp id i off/\wq X (id+1000000)=true:=fun {a} ha=>by
  cases a with
  | bx id off=>exact .inl ⟨id,off,rfl,ha⟩
  | rp id i off=>exact .inr ⟨id,i,off,rfl,ha⟩
  | _=>cases ha
 unfold rO at hp
 split at hp
 ·rename_i t x f aU
  simp only[bY,aU] at hq ⊢
  split at hq
  case h_2=>exact hq.elim
  rename_i hT
  split at hq
  case h_2=>exact hq.elim
  rcases hx hp with⟨id,off,e,hi⟩ | ⟨id,i,off,e,hi⟩ <;> simp only[e] at hq ⊢
  ·have b8:h id≠.none:=fun e2=>by rw[e2] at hq;exact hq
   rcases hh id hi b8 with⟨h1,h2⟩ | h2
   ·cases e3:h id <;> rw[e3] at h1 h2 hq <;> first | exact hq.elim | exact absurd rfl h2 | (cases e4:h' id <;> rw[e4] at h1 <;> first | exact hq | (exfalso;revert h1;decide) | cases h1)
   rw[h2];exact hq
  have b8:h id≠.none:=fun e2=>by rw[e2] at hq;exact hq
  rcases hh id hi b8 with⟨h1,h2⟩ | h2
  ·cases e3:h id <;> rw[e3] at h1 h2 hq <;> first | exact hq.elim | exact absurd rfl h2 | (cases e4:h' id <;> rw[e4] at h1 <;> first | exact hq | (exfalso;revert h1;decide) | cases h1)
  rw[h2];exact hq
 ·rename_i x aU
  simp only[bY,aU] at hq ⊢
  rcases hx hp with⟨id,off,e,hi⟩ | ⟨id,i,off,e,hi⟩ <;> simp only[e] at hq ⊢
  ·have b8:h id≠.none:=fun e2=>by rw[e2] at hq;exact hq
   rcases hh id hi b8 with⟨h1,h2⟩ | h2
   ·cases e3:h id <;> rw[e3] at h1 h2 hq <;> first | exact hq.elim | exact absurd rfl h2 | (cases e4:h' id <;> rw[e4] at h1 <;> first | exact hq | (exfalso;revert h1;decide) | cases h1)
   rw[h2];exact hq
  have b8:h id≠.none:=fun e2=>by rw[e2] at hq;exact hq
  rcases hh id hi b8 with⟨h1,h2⟩ | h2
  ·cases e3:h id <;> rw[e3] at h1 h2 hq <;> first | exact hq.elim | exact absurd rfl h2 | (cases e4:h' id <;> rw[e4] at h1 <;> first | exact hq | (exfalso;revert h1;decide) | cases h1)
  rw[h2];exact hq
 cases hp
theorem Cz {C:Ctx} {o:Oper} {X:List Nat} {rho:Operand->AV} {h:Nat->AB} {v:AV} {e:List (Nat×AB)} {n:Option AB} (hp:rO X o rho=true) (hq:bY C o rho h fun v' e' n'=>v'=v/\e'=e/\n'=n):n=none:=by
 unfold rO at hp
 split at hp
 ·rename_i aU
  simp only[bY,aU] at hq
  repeat' (split at hq)
  all_goals first | exact hq.elim | exact hq.2.2.symm
 ·rename_i aU
  simp only[bY,aU] at hq
  repeat' (split at hq)
  all_goals first | exact hq.elim | exact hq.2.2.symm
 cases hp
def Yo (ops:Array Oper) (o:Oper):Bool:=match o.dst with
 | some d=>!rP ops o d
 | none=>true
def CB (ops:Array Oper) (b:Array Nat):Bool:=
 (List.range ops.size).all fun j=>(match ops[j]? with
  | some oj=>(oj.after.toList.all fun e=>!Region.binds .any e || Nat.blt e.on j) && (List.range j).all fun i=>!(b.getD j 0).testBit i || (oj.after.toList.any fun e=>Region.binds .any e && (cW e.on i || (Nat.blt i e.on && (b.getD e.on 0).testBit i)))
  | none=>true)
def jU (C:Ctx) (ops:Array Oper):Bool:=
 let ap:=ops.toList.any fun o=>iF C o.op
 let b:=Region.before ops
 CB ops b && (List.range ops.size).all fun j=>match ops[j]? with
  | some oj=>Yo ops oj && (List.range j).all fun i=>match ops[i]? with
   | some oi=>Cv C ap ops b i j oi oj
   | none=>true
  | none=>true
def CC (ops:Array Oper) (E:Nat->Bool):Prop:=∀(j:Nat) oj,ops[j]?=some oj->E j=true->∀e∈oj.after,Region.binds .any e=true->E e.on=true
theorem xk {ops:Array Oper} {b:Array Nat} (h:CB ops b=true):(∀(j:Nat) oj,ops[j]?=some oj->∀e∈oj.after,Region.binds .any e=true->e.on < j)/\
  ∀(E:Nat->Bool),CC ops E->∀(j:Nat) oj,ops[j]?=some oj->(∀e∈oj.after,Region.binds .any e=true->E e.on=true)->∀i,i < j->(b.getD j 0).testBit i=true->E i=true:=by
 have hj:∀(j:Nat) oj,ops[j]?=some oj->(∀e∈oj.after,Region.binds .any e=true->e.on < j)/\∀i,i < j->(b.getD j 0).testBit i=true->∃e∈oj.after,Region.binds .any e=true/\(e.on=i\/(i < e.on/\(b.getD e.on 0).testBit i=true)):=by
  intro j oj CD
  have h1:=List.all_eq_true.1 h j (List.mem_range.2 (Array.getElem?_eq_some_iff.1 CD).1)
  simp only[CD,Bool.and_eq_true] at h1
  refine⟨fun e he hb=>?_,fun i hi ht=>?_⟩
  ·have h2:=List.all_eq_true.1 h1.1 e (Array.mem_toList_iff.2 he)
   rw[hb] at h2
   simp only[Bool.not_true,Bool.false_or] at h2
   exact Nat.le_of_ble_eq_true h2
  have h2:=List.all_eq_true.1 h1.2 i (List.mem_range.2 hi)
  rw[ht] at h2
  simp only[Bool.not_true,Bool.false_or] at h2
  obtain⟨e,he,h3⟩:=List.any_eq_true.1 h2
  simp only[Bool.and_eq_true,Bool.or_eq_true] at h3
  exact⟨e,Array.mem_toList_iff.1 he,h3.1,h3.2.imp bG.1 fun h=>⟨Nat.le_of_ble_eq_true h.1,h.2⟩⟩
 refine⟨fun j oj CD=>(hj j oj CD).1,fun E hE j=>?_⟩
 induction j using Nat.strongRecOn with
 | _ j ih=>
  intro oj CD iB i hi ht
  obtain⟨e,he,hb,h2⟩:=(hj j oj CD).2 i hi ht
  rcases h2 with h2 | h2
  ·rw[<-h2];exact iB e he hb
  have eL:=(hj j oj CD).1 e he hb
  have Ur:=iB e he hb
  cases PD:ops[e.on]? with
  | none=>
   have:e.on < ops.size:=Nat.lt_trans eL (Array.getElem?_eq_some_iff.1 CD).1
   rw[Array.getElem?_eq_getElem this] at PD
   cases PD
  | some oe=>exact ih e.on eL oe PD (fun e' CE hb'=>hE e.on oe PD Ur e' CE hb') i h2.1 h2.2
theorem Ao {h:Nat->AB} {fs:List (Nat×Nat×Bool)} {rho rho':Operand->AV}:∀{ps:List (Nat×Operand)} {cs:List PV},(∀p∈ps,rho p.2=rho' p.2)->iy h fs rho ps cs=iy h fs rho' ps cs:=by
 intro ps
 induction ps with
 | nil=>intro cs _;rfl
 | cons p ps ih=>
  intro cs hp
  obtain⟨i,x⟩:=p
  funext K
  have e:=hp (i,x) (by simp)
  simp only at e
  simp only[iy,e]
  have:∀cs,iy h fs rho ps cs=iy h fs rho' ps cs:=fun cs=>ih (fun p hm=>hp p (by simp[hm]))
  simp only[this]
theorem Ap {h:Nat->AB} {fs:List (Nat×Nat×Bool)} {rho rho':Operand->AV}:∀{ps:List (Nat×Operand)} {cs:List AV},(∀p∈ps,rho p.2=rho' p.2)->js h fs rho ps cs=js h fs rho' ps cs:=by
 intro ps
 induction ps with
 | nil=>intro cs _;rfl
 | cons p ps ih=>
  intro cs hp
  obtain⟨i,x⟩:=p
  funext K
  have e:=hp (i,x) (by simp)
  simp only at e
  simp only[js,e]
  have:∀cs,js h fs rho ps cs=js h fs rho' ps cs:=fun cs=>ih (fun p hm=>hp p (by simp[hm]))
  simp only[this]
theorem qs {b:Bool} {h:Nat->AB} {size:Nat} {rho rho':Operand->AV}:∀{ps:List (Nat×Operand)} {cs:List (List PV)},(∀p∈ps,rho p.2=rho' p.2)->fG b h size rho ps cs=fG b h size rho' ps cs:=by
 intro ps
 induction ps with
 | nil=>intro cs _;rfl
 | cons p ps ih=>
  intro cs hp
  obtain⟨i,x⟩:=p
  funext K
  have e:=hp (i,x) (by simp)
  simp only at e
  simp only[fG,e]
  have:∀cs,fG b h size rho ps cs=fG b h size rho' ps cs:=fun cs=>ih (fun p hm=>hp p (by simp[hm]))
  simp only[this]
theorem oI {C:Ctx} {o:Oper} {rho rho':Operand->AV} {h:Nat->AB} {K:KK} (hx:∀x∈o.op.operands,rho x=rho' x) (hq:bY C o rho h K):bY C o rho' h K:=by
 cases aU:o.op <;> simp only[aU,Op.operands] at hx <;> simp only[bY,aU] at hq ⊢ <;> try exact hq
 case move x=>rw[<-hx x (by simp)];exact hq
 case assign x=>rw[<-hx x (by simp)];exact hq
 case pick c a b=>rw[<-hx c (by simp),<-hx a (by simp),<-hx b (by simp)];exact hq
 case box e x=>rw[<-hx x (by simp)];exact hq
 case build t ps=>
  split at hq
  ·rename_i fs _ _ _ _ hT
   split at hq
   ·rename_i h1
    rw[<-Ao (rho:=rho) (rho':=rho') (fun p hp=>hx p.2 (by simp;exact⟨p.1,Array.mem_toList_iff.1 hp⟩))]
    exact hq
   rename_i h1
   rw[<-Ap (rho:=rho) (rho':=rho') (fun p hp=>hx p.2 (by simp;exact⟨p.1,Array.mem_toList_iff.1 hp⟩))]
   exact hq
  exact hq
 case buildSlice t n ps=>
  split at hq
  ·split at hq
   ·split at hq
    ·split at hq
     ·rw[<-qs (rho:=rho) (rho':=rho') (fun p hp=>hx p.2 (by simp;exact⟨p.1,Array.mem_toList_iff.1 hp⟩))]
      exact hq
     rw[<-qs (rho:=rho) (rho':=rho') (fun p hp=>hx p.2 (by simp;exact⟨p.1,Array.mem_toList_iff.1 hp⟩))]
     exact hq
    exact hq
   exact hq
  exact hq
 case load t x=>rw[<-hx x (by simp)];exact hq
 case store t x y=>rw[<-hx x (by simp),<-hx y (by simp)];exact hq
 case nilCheck x=>rw[<-hx x (by simp)];exact hq
 case binOp op t x y t'=>rw[<-hx x (by simp),<-hx y (by simp)];exact hq
 case unOp op t x=>rw[<-hx x (by simp)];exact hq
 case convert s d x=>rw[<-hx x (by simp)];exact hq
 case makeFunc fn first cap=>
  cases fn with
  | func f=>
   have:cap.toList.map rho=cap.toList.map rho':=List.map_congr_left fun x hm=>hx x (by simp[Array.mem_toList_iff.1 hm])
   simp only[this] at hq
   exact hq
  | _=>exact hq
 case makeSlice t x y=>rw[<-hx x (by simp),<-hx y (by simp)];exact hq
 case slice t x lo hi mx=>
  cases mx with
  | some m=>exact hq
  | none=>
   have e0:=hx x (by simp)
   have e1:∀y,lo=some y->rho y=rho' y:=fun y hy=>hx y (by simp[hy])
   have e2:∀y,hi=some y->rho y=rho' y:=fun y hy=>hx y (by simp[hy])
   have hs:fx C rho h t x lo hi K=fx C rho' h t x lo hi K:=by
    unfold fx
    rw[e0]
    cases lo <;> cases hi <;> simp only[Option.some.injEq,forall_eq',forall_eq,reduceCtorEq,false_implies,implies_true] at e1 e2 <;> simp only[e1,e2]
   have hv:∀id e' es,qa C rho t lo hi id e' es K=qa C rho' t lo hi id e' es K:=fun id e' es=>by
    unfold qa
    cases lo <;> cases hi <;> simp only[Option.some.injEq,forall_eq',forall_eq,reduceCtorEq,false_implies,implies_true] at e1 e2 <;> simp only[e1,e2]
   simp only at hq ⊢
   simp only[<-e0,<-hs,<-hv]
   exact hq
 case makeMap t r=>cases r <;> exact hq
 case lookup t x i ck=>rw[<-hx x (by simp),<-hx i (by simp)];exact hq
 case mapUpdate t x i y=>rw[<-hx x (by simp),<-hx i (by simp),<-hx y (by simp)];exact hq
 case fieldAddr t x f=>rw[<-hx x (by simp)];exact hq
 case field t x f=>rw[<-hx x (by simp)];exact hq
 case indexAddr t x y=>rw[<-hx x (by simp),<-hx y (by simp)];exact hq
 case index t x y=>rw[<-hx x (by simp),<-hx y (by simp)];exact hq
 case extract x i=>rw[<-hx x (by simp)];exact hq
 case call c=>
  have hm:c.args.toList.map rho=c.args.toList.map rho':=List.map_congr_left fun x Jo=>hx x (by simp[Call.operands,Array.mem_toList_iff.1 Jo])
  have ha:∀x∈c.args.toList,rho x=rho' x:=fun x Jo=>hx x (by simp[Call.operands,Array.mem_toList_iff.1 Jo])
  split at hq
  ·split at hq
   ·rename_i h1 h2;simp only[h1,h2] at *;rw[<-ha _ (by simp)];exact hq
   exact hq
  ·split at hq
   ·rename_i h1 h2;simp only[h1,h2] at *;rw[<-ha _ (by simp)];exact hq
   exact hq
  ·split at hq
   ·rename_i h1;simp only[h1] at *;rw[<-ha _ (by simp),<-ha _ (by simp)];exact hq
   exact hq
  ·split at hq
   ·rename_i h1;simp only[h1] at *;rw[<-ha _ (by simp),<-ha _ (by simp)];exact hq
   ·rename_i h1;simp only[h1] at *;rw[<-ha _ (by simp),<-ha _ (by simp),<-ha _ (by simp)];exact hq
   ·rename_i h1;simp only[h1] at *;rw[<-ha _ (by simp),<-ha _ (by simp),<-ha _ (by simp),<-ha _ (by simp),<-ha _ (by simp)];exact hq
   exact hq
  ·split at hq
   ·rename_i h1 h2;simp only[h1,h2] at *;rw[<-ha _ (by simp),<-ha _ (by simp)];exact hq
   exact hq
  ·rename_i g hc
   have hc':c.callee=.value g:=by
    cases Q5:c.callee with
    | value g'=>rw[Q5] at hc;simp only[ef] at hc;injection hc with hc;rw[hc]
    | invoke r m=>rw[Q5] at hc;cases hc
    | builtin b=>rw[Q5] at hc;cases b <;> cases hc
   have hg:=hx g (by simp[Call.operands,hc'])
   rw[<-hg,<-hm]
   exact hq
  exact hq
end Go.AM
namespace Go.AM
open Go.RowKit
theorem rR {h h':Nat->AB} {id:Nat}:∀(fe:List (Nat×AB)) ,h id=h' id->app h fe id=app h' fe id:=by
 intro fe
 induction fe generalizing h h' with
 | nil=>intro e;exact e
 | cons x fe ih=>
  intro e
  refine ih ?_
  by_cases hx:id=x.1
  ·rw[hx,aO,aO]
  rw[bw _ _ hx,bw _ _ hx];exact e
theorem iS {h:Nat->AB}:∀{fe:List (Nat×AB)},fL h fe=true->∀p∈fe,(h p.1).there:=by
 intro fe
 induction fe with
 | nil=>intro _ p hp;cases hp
 | cons x fe ih=>
  intro hh p hp
  simp only[fL,Bool.and_eq_true] at hh
  rcases List.mem_cons.1 hp with e | e
  ·subst e
   have:=hh.1
   cases hx:h p.1 <;> rw[hx] at this <;> first | trivial | (simp[G_] at this)
  exact ih hh.2 p e
def Hn (B:Nat->AB) (r:Nat->RR) (E:Nat->Bool):Nat->Nat->AB
 | 0=>B
 | i+1=>match E i with
  | true=>app (Hn B r E i) (r i).eff
  | false=>Hn B r E i
theorem KU {B:Nat->AB} {r:Nat->RR} {E:Nat->Bool} (i:Nat):∀(m:Nat),(∀k,k < m->(E k=true↔k < i)\/(r k).eff=[])->i<=m->Hn B r E m=Hn B r (fun _=>true) i:=by
 have low:∀m,m<=i->(∀k,k < m->(E k=true↔k < i)\/(r k).eff=[])->Hn B r E m=Hn B r (fun _=>true) m:=by
  intro m
  induction m with
  | zero=>intro _ _;rfl
  | succ m ih=>
   intro hm hk
   have h1:=ih (by omega) (fun k tI=>hk k (by omega))
   simp only[Hn]
   rw[h1]
   rcases hk m (by omega) with h | h
   ·rw[h.2 (by omega)]
   rw[h]
   cases E m <;> rfl
 intro m
 induction m with
 | zero=>
      intro _ hi;have:i=0:=by omega
      subst this;rfl
 | succ m ih=>
  intro hk hi
  by_cases e:i=m+1
  ·subst e;exact low (m+1) (Nat.le_refl _) hk
  have h1:=ih (fun k tI=>hk k (by omega)) (by omega)
  rw[<-h1]
  simp only[Hn]
  rcases hk m (by omega) with h | h
  ·have:E m=false:=by rw[Bool.eq_false_iff];intro ht;have:=h.1 ht;omega
   rw[this]
  rw[h]
  cases E m <;> rfl
theorem Md {B:Nat->AB} {r:Nat->RR} {E:Nat->Bool} {i:Nat} (hi:E i=false):∀(m:Nat),(∀k,i < k->k < m->E k=true->(r k).eff=[])->i < m->Hn B r (fun k=>E k || cW k i) m=app (Hn B r E m) (r i).eff:=by
 have low:∀m,m<=i->Hn B r (fun k=>E k || cW k i) m=Hn B r E m:=by
  intro m
  induction m with
  | zero=>intro _;rfl
  | succ m ih=>
   intro hm
   have:cW m i=false:=by rw[Bool.eq_false_iff];intro h;have:=bG.1 h;omega
   simp only[Hn,this,Bool.or_false]
   rw[ih (by omega)]
 intro m
 induction m with
 | zero=>intro _ h;omega
 | succ m ih=>
  intro hk eL
  by_cases e:m=i
  ·subst e
   simp only[Hn,hi,bG.2 rfl,Bool.or_true]
   rw[low m (Nat.le_refl _)]
  have h1:=ih (fun k h1 h2=>hk k h1 (by omega)) (by omega)
  have:cW m i=false:=by rw[Bool.eq_false_iff];intro h;exact e (bG.1 h)
  simp only[Hn,this,Bool.or_false]
  rw[h1]
  cases hE:E m with
  | false=>rfl
  | true=>rw[hk m (by omega) (by omega) hE];rfl
theorem Hf (C:Ctx) (ap:Bool) (op:Op):cls C ap op<=3:=by
 unfold cls
 split <;> first | decide | skip
 all_goals (cases ap <;> first | decide | skip)
 all_goals (split <;> first | decide | skip)
 all_goals (split <;> decide)
theorem Hg (C:Ctx) (op:Op):cls C true op≠1:=by
 unfold cls
 split <;> first | decide | skip
 all_goals (split <;> first | decide | skip)
 all_goals (split <;> decide)
theorem Fg {C:Ctx} {ap:Bool} {o:Oper} {rho:Operand->AV} {h:Nat->AB} {K:KK} (hc:cls C ap o.op<=1) (hq:bY C o rho h K):∃v e,K v e none:=by
 cases aU:o.op <;> rw[aU] at hc <;> simp only[bY,aU] at hq
 case move x=>exact⟨_,_,hq⟩
 case assign x=>exact⟨_,_,hq⟩
 case pick c a b=>
  split at hq
  ·split at hq <;> exact⟨_,_,hq⟩
  exact hq.elim
 case binOp op t x y t'=>
  split at hq
  ·obtain⟨v,h1,_⟩:=Ab hq;exact⟨_,_,h1⟩
  ·obtain⟨v,h1,_⟩:=Aa hq;exact⟨_,_,h1⟩
  exact hq.elim
 case unOp op t x=>
  split at hq
  ·exact⟨_,_,hq⟩
  ·obtain⟨v,h1,_⟩:=lE hq;exact⟨_,_,h1⟩
  exact hq.elim
 case convert s d x=>
  split at hq
  ·obtain⟨v,h1,_⟩:=lE hq;exact⟨_,_,h1⟩
  ·exact⟨_,_,hq⟩
  exact hq.elim
 case extract x i=>
  split at hq
  ·split at hq
   ·exact⟨_,_,hq⟩
   exact hq.elim
  exact hq.elim
 case index t x y=>
  split at hq
  ·obtain⟨b,_,hq⟩:=hq;exact⟨_,_,hq⟩
  exact hq.elim
 case field t x f=>
  split at hq
  ·split at hq
   ·split at hq
    ·split at hq
     ·exact⟨_,_,hq⟩
     exact hq.elim
    split at hq
    ·exact⟨_,_,hq⟩
    exact hq.elim
   exact hq.elim
  exact hq.elim
 case makeFunc fn first cap=>
  cases fn with
  | func f=>
   simp only at hq
   split at hq
   ·exact⟨_,_,hq⟩
   exact hq.elim
  | _=>exact hq.elim
 case fieldAddr t x f=>
  split at hq
  ·split at hq
   ·split at hq
    ·exact⟨_,_,hq⟩
    ·split at hq
     ·exact hq.elim
     exact⟨_,_,hq⟩
    ·split at hq
     ·exact⟨_,_,hq⟩
     ·exact⟨_,_,hq⟩
     exact hq.elim
    exact hq.elim
   exact hq.elim
  exact hq.elim
 case nilCheck x=>
  split at hq
  ·exact⟨_,_,hq⟩
  ·split at hq
   ·exact⟨_,_,hq⟩
   ·exact⟨_,_,hq⟩
   exact hq.elim
  ·split at hq
   ·exact⟨_,_,hq⟩
   ·exact⟨_,_,hq⟩
   exact hq.elim
  exact hq.elim
 case call c=>
  simp only[cls] at hc
  split at hc
  ·exact absurd hc (by decide)
  ·exact absurd hc (by decide)
  ·rename_i h1
   simp only[h1,ef,eS] at hq
   split at hq
   ·split at hq
    ·exact⟨_,_,hq⟩
    exact hq.elim
   exact hq.elim
  ·rename_i h1
   simp only[h1,ef,eS] at hq
   split at hq
   ·split at hq
    ·exact⟨_,_,hq⟩
    exact hq.elim
   ·split at hq
    ·exact⟨_,_,hq⟩
    exact hq.elim
   ·split at hq
    ·exact⟨_,_,hq⟩
    exact hq.elim
   exact hq.elim
  ·split at hc <;> exact absurd hc (by decide)
  ·exact absurd hc (by decide)
  exact absurd hc (by decide)
 all_goals exact absurd hc (by simp[cls])
theorem Jy {C:Ctx} {ap:Bool} {o:Oper} {rho:Operand->AV} {h:Nat->AB} {v:AV} {e:List (Nat×AB)} {n:Option AB} {b:AB} (hq:bY C o rho h fun v' e' n'=>v'=v/\e'=e/\n'=n) (hn:some b=n):cls C ap o.op=3\/cls C ap o.op=2:=by
 have hle:=Hf C ap o.op
 by_cases h1:cls C ap o.op<=1
 ·obtain⟨_,_,_,_,h2⟩:=Fg h1 hq
  rw[<-h2] at hn
  cases hn
 omega
section
variable {C:Ctx} {ops:Array Oper} {st:Nat->AS} {r:Nat->RR} {ap:Bool} {X:List Nat}
theorem N5 {B:Nat->AB} {r:Nat->RR} {E:Nat->Bool} {d:Nat} (i:Nat):∀(m:Nat),(∀k,k < m->(E k=true↔k < i)\/∀p∈(r k).eff,p.1≠d)->i<=m->Hn B r E m d=Hn B r (fun _=>true) i d:=by
 have low:∀m,m<=i->(∀k,k < m->(E k=true↔k < i)\/∀p∈(r k).eff,p.1≠d)->Hn B r E m d=Hn B r (fun _=>true) m d:=by
  intro m
  induction m with
  | zero=>intro _ _;rfl
  | succ m ih=>
   intro hm hk
   have h1:=ih (by omega) (fun k tI=>hk k (by omega))
   simp only[Hn]
   rcases hk m (by omega) with h | h
   ·rw[h.2 (by omega)]
    exact rR _ h1
   cases E m with
   | true=>exact rR _ h1
   | false=>exact h1.trans (gy h).symm
 intro m
 induction m with
 | zero=>
      intro _ hi;have:i=0:=by omega
      subst this;rfl
 | succ m ih=>
  intro hk hi
  by_cases e:i=m+1
  ·subst e;exact low (m+1) (Nat.le_refl _) hk
  have h1:=ih (fun k tI=>hk k (by omega)) (by omega)
  rw[<-h1]
  simp only[Hn]
  rcases hk m (by omega) with h | h
  ·have:E m=false:=by rw[Bool.eq_false_iff];intro ht;have:=h.1 ht;omega
   rw[this]
  cases E m with
  | true=>exact gy h
  | false=>rfl
structure Jz (C:Ctx) (ap:Bool) (ops:Array Oper) (i j:Nat) (oi oj:Oper):Prop where
 dst:∀x,oi.dst=some x->oj.dst≠some x
 war:∀d,oj.dst=some d->d∈oi.looksAt ops->((Region.before ops).getD j 0).testBit i=true
 raw:∀d,oi.dst=some d->d∈oj.looksAt ops->((Region.before ops).getD j 0).testBit i=true
 w3:cls C ap oj.op=3->cls C ap oi.op=3->((Region.before ops).getD j 0).testBit i=true
theorem jI (hok:jU C ops=true):CB ops (Region.before ops)=true/\(∀(j:Nat) oj,ops[j]?=some oj->∀d,oj.dst=some d->d ∉ oj.looksAt ops)/\
  ∀(i j:Nat) oi oj,i < j->ops[i]?=some oi->ops[j]?=some oj->Jz C (ops.toList.any fun o=>iF C o.op) ops i j oi oj:=by
 simp only[jU,Bool.and_eq_true] at hok
 obtain⟨h1,h2⟩:=hok
 have hj:∀(j:Nat) oj,ops[j]?=some oj->Yo ops oj=true/\∀(i:Nat) oi,i < j->ops[i]?=some oi->Cv C (ops.toList.any fun o=>iF C o.op) ops (Region.before ops) i j oi oj=true:=by
  intro j oj CD
  have h3:=List.all_eq_true.1 h2 j (List.mem_range.2 (Array.getElem?_eq_some_iff.1 CD).1)
  simp only[CD,Bool.and_eq_true] at h3
  refine⟨h3.1,fun i oi hi Q6=>?_⟩
  have h4:=List.all_eq_true.1 h3.2 i (List.mem_range.2 hi)
  simp only[Q6] at h4
  exact h4
 refine⟨h1,fun j oj CD d hd=>?_,fun i j oi oj zZ Q6 CD=>?_⟩
 ·have:=(hj j oj CD).1
  simp only[Yo,hd,rP] at this
  simpa using this
 have h3:=(hj j oj CD).2 i oi zZ Q6
 simp only[Cv,Bool.and_eq_true] at h3
 obtain⟨⟨⟨p1,p2⟩,p3⟩,p4⟩:=h3
 refine⟨fun x hx hy=>?_,fun d hd hm=>?_,fun d hd hm=>?_,fun hc hi=>?_⟩
 ·simp only[hx,hy,bG.2 rfl,Bool.not_true] at p1
  cases p1
 ·simp only[hd,rP] at p2
  have IU:(oi.looksAt ops).contains d=true:=by simpa using hm
  rw[IU] at p2
  simpa using p2
 ·simp only[hd,rP] at p3
  have IU:(oj.looksAt ops).contains d=true:=by simpa using hm
  rw[IU] at p3
  simpa using p3
 rw[if_pos hc,if_pos hi] at p4
 exact p4
theorem CF (hok:jU C ops=true) (H:∀(i:Nat) o,ops[i]?=some o->DStep C ap ops.toList o (st i) (r i) (st (i+1))) {i:Nat} {o:Oper} (ho:ops[i]?=some o) {d:Tmp} (hd:o.dst=some d):∀k,i+1<=k->k<=ops.size->(st k).t d=(r i).v:=by
 obtain⟨_,hs,hp⟩:=jI hok
 intro k
 induction k with
 | zero=>intro h;omega
 | succ k ih=>
  intro Nk hk
  by_cases e:i=k
  ·subst e
   rw[(H i o ho).next,hd]
   exact aO _ _ _
  have h1:=ih (by omega) (by omega)
  have Aq:ops[k]?=some ops[k]:=Array.getElem?_eq_getElem (by omega)
  rw[(H k _ Aq).next]
  show eu (st k).t _ _ d=_
  have b8:=(hp i k o _ (by omega) ho Aq).dst d hd
  cases tz:ops[k].dst with
  | none=>exact h1
  | some d'=>rw[eu,bw _ _ (fun e=>b8 (by rw[tz,e]))];exact h1
theorem yj (H:∀(i:Nat) o,ops[i]?=some o->DStep C ap ops.toList o (st i) (r i) (st (i+1))) {x:Nat} (hx:∀(k:Nat) o,ops[k]?=some o->o.dst≠some x):∀k,k<=ops.size->(st k).t x=(st 0).t x:=by
 intro k
 induction k with
 | zero=>intro _;rfl
 | succ k ih=>
  intro hk
  have Aq:ops[k]?=some ops[k]:=Array.getElem?_eq_getElem (by omega)
  rw[(H k _ Aq).next]
  show eu (st k).t _ _ x=_
  cases tz:ops[k].dst with
  | none=>exact ih (by omega)
  | some d'=>rw[eu,bw _ _ (fun e=>hx k _ Aq (by rw[tz,e]))];exact ih (by omega)
theorem Fh (hok:jU C ops=true) (H:∀(i:Nat) o,ops[i]?=some o->DStep C ap ops.toList o (st i) (r i) (st (i+1))) {j:Nat} {o:Oper} (ho:ops[j]?=some o) {d:Tmp} (hd:o.dst=some d):∀k,k<=j->(st k).t d=(st 0).t d:=by
 obtain⟨_,hs,hp⟩:=jI hok
 have hj:=(Array.getElem?_eq_some_iff.1 ho).1
 intro k
 induction k with
 | zero=>intro _;rfl
 | succ k ih=>
  intro hk
  have Aq:ops[k]?=some ops[k]:=Array.getElem?_eq_getElem (by omega)
  rw[(H k _ Aq).next]
  show eu (st k).t _ _ d=_
  cases tz:ops[k].dst with
  | none=>exact ih (by omega)
  | some d'=>rw[eu,bw _ _ (fun e=>(hp k j _ o (by omega) Aq ho).dst d' tz (by rw[hd,e]))];exact ih (by omega)
def Fi (ops:Array Oper) (r:Nat->RR) (k d:Nat) (b:AB):Prop:=∃o,ops[k]?=some o/\o.dst=some d/\(r k).new=some b
def gS (ops:Array Oper) (r:Nat->RR) (i d:Nat):Prop:=∃k b,i<=k/\Fi ops r k d b
theorem pG (hok:jU C ops=true) (H:∀(i:Nat) o,ops[i]?=some o->DStep C ap ops.toList o (st i) (r i) (st (i+1))) {B:Nat->AB} (Fj:∀k d b,Fi ops r k d b->B d=b) (xl:∀d,¬gS ops r 0 d->B d=(st 0).h d) (h0:∀d,gS ops r 0 d->(st 0).h d=.none):
  ∀i,i<=ops.size->∀d,(gS ops r i d->(st i).h d=.none/\Hn B r (fun _=>true) i d=B d)/\(¬gS ops r i d->(st i).h d=Hn B r (fun _=>true) i d):=by
 obtain⟨_,hs,hp⟩:=jI hok
 intro i
 induction i with
 | zero=>intro _ d;exact⟨fun h=>⟨h0 d h,rfl⟩,fun h=>(xl d h).symm⟩
 | succ i ih=>
  intro hi d
  have ih:=ih (by omega)
  have ho:ops[i]?=some ops[i]:=Array.getElem?_eq_getElem (by omega)
  have D:=H i _ ho
  have hth:=iS D.there
  have Q7:Hn B r (fun _=>true) (i+1)=app (Hn B r (fun _=>true) i) (r i).eff:=rfl
  have zL:(st (i+1)).h=qg (app (st i).h (r i).eff) (ops[i].dst.getD 0) (r i).new:=by rw[D.next]
  have out:gS ops r i d->∀p∈(r i).eff,p.1≠d:=fun xm p KV e=>by
   have h1:=hth p KV
   rw[e,((ih d).1 xm).1] at h1
   exact h1
  have N6:∀b,(r i).new=some b->∃d',ops[i].dst=some d':=fun b hb=>by
   have:=D.ndst
   rw[hb] at this
   cases hd:ops[i].dst with
   | none=>rw[hd] at this;cases this
   | some d'=>exact⟨d',rfl⟩
  refine⟨fun xm=>?_,fun xm=>?_⟩
  ·have Hh:gS ops r i d:=by obtain⟨k,b,h1,h2⟩:=xm;exact⟨k,b,by omega,h2⟩
   obtain⟨h1,h2⟩:=(ih d).1 Hh
   refine⟨?_,by rw[Q7,gy (out Hh)];exact h2⟩
   rw[zL]
   cases hn:(r i).new with
   | none=>show app _ _ d=_;rw[gy (out Hh)];exact h1
   | some b=>
    obtain⟨d',tz⟩:=N6 b hn
    rw[tz]
    show br _ d' b d=_
    have b8:d≠d':=fun e=>by
     obtain⟨k,b',h3,o',h4,h5,h6⟩:=xm
     exact (hp i k _ o' (by omega) ho h4).dst d' tz (by rw[h5,e])
    rw[bw _ _ b8,gy (out Hh)]
    exact h1
  by_cases hc:∃b,Fi ops r i d b
  ·obtain⟨b,hc⟩:=hc
   have Hh:gS ops r i d:=⟨i,b,Nat.le_refl _,hc⟩
   obtain⟨o',h4,h5,h6⟩:=hc
   rw[ho] at h4
   injection h4 with h4
   rw[zL,Q7,gy (out Hh),((ih d).1 Hh).2,h6,h4,h5,Fj i d b ⟨o',by rw[ho,h4],h5,h6⟩]
   exact aO _ _ _
  have Hh:¬gS ops r i d:=fun ⟨k,b,h1,h2⟩=>by
   by_cases e:k=i
   ·subst e;exact hc ⟨b,h2⟩
   exact xm ⟨k,b,by omega,h2⟩
  have h1:=(ih d).2 Hh
  rw[zL,Q7,<-rR (r i).eff h1]
  cases hn:(r i).new with
  | none=>rfl
  | some b=>
   obtain⟨d',tz⟩:=N6 b hn
   rw[tz]
   show br _ d' b d=_
   rw[bw _ _ (fun e=>hc ⟨b,_,ho,by rw[tz,e],hn⟩)]
def KC (b b':AB):Prop:=b'=b\/(∃e es wk,b=.row e es/\b'=.row e wk)\/(∃cs kI,b=.box cs/\b'=.box kI)\/(∃mk es mk' wk,b=.map mk es/\b'=.map mk' wk)
theorem KC.trans {a b c:AB} (h:KC a b) (k:KC b c):KC a c:=by
 rcases h with rfl | ⟨e,es,wk,rfl,rfl⟩ | ⟨cs,kI,rfl,rfl⟩ | ⟨m,es,m',wk,rfl,rfl⟩
 ·exact k
 ·rcases k with rfl | ⟨e',fs,Me,h1,rfl⟩ | ⟨cs,kI,h1,rfl⟩ | ⟨_,_,_,_,h1,rfl⟩
  ·exact .inr (.inl ⟨_,_,_,rfl,rfl⟩)
  ·injection h1 with h1 h2;subst h1;exact .inr (.inl ⟨_,_,_,rfl,rfl⟩)
  ·cases h1
  cases h1
 ·rcases k with rfl | ⟨e',fs,Me,h1,rfl⟩ | ⟨ds,Q8,h1,rfl⟩ | ⟨_,_,_,_,h1,rfl⟩
  ·exact .inr (.inr (.inl ⟨_,_,rfl,rfl⟩))
  ·cases h1
  ·exact .inr (.inr (.inl ⟨_,_,rfl,rfl⟩))
  cases h1
 rcases k with rfl | ⟨e',fs,Me,h1,rfl⟩ | ⟨ds,Q8,h1,rfl⟩ | ⟨_,_,_,_,h1,rfl⟩
 ·exact .inr (.inr (.inr ⟨_,_,_,_,rfl,rfl⟩))
 ·cases h1
 ·cases h1
 exact .inr (.inr (.inr ⟨_,_,_,_,rfl,rfl⟩))
theorem Hi {b b':AB} (h:G9 b b'=true):KC b b':=by
 cases b <;> cases b' <;> first | (simp[G9] at h;done) | skip
 ·have:=bG.1 h;subst this;exact .inr (.inl ⟨_,_,_,rfl,rfl⟩)
 ·exact .inr (.inr (.inl ⟨_,_,rfl,rfl⟩))
 exact .inr (.inr (.inr ⟨_,_,_,_,rfl,rfl⟩))
theorem qt {h:Nat->AB}:∀{fe:List (Nat×AB)},gW h fe=true->∀p∈fe,KC (h p.1) p.2:=by
 intro fe
 induction fe with
 | nil=>intro _ p hp;cases hp
 | cons x fe ih=>
  intro hh p hp
  simp only[gW,Bool.and_eq_true] at hh
  rcases List.mem_cons.1 hp with e | e
  ·subst e;exact Hi hh.1
  exact ih hh.2 p e
theorem uC (hok:jU C ops=true) (H:∀(i:Nat) o,ops[i]?=some o->DStep C ap ops.toList o (st i) (r i) (st (i+1))) (KW:ap=false) {B:Nat->AB} (Fj:∀k d b,Fi ops r k d b->B d=b) (xl:∀d,¬gS ops r 0 d->B d=(st 0).h d) (h0:∀d,gS ops r 0 d->(st 0).h d=.none) (E:Nat->Bool):
  ∀m,m<=ops.size->∀d,KC (B d) (Hn B r E m d):=by
 have hh:=pG hok H Fj xl h0
 have canon:∀m,m<=ops.size->∀d,KC (B d) (Hn B r (fun _=>true) m d):=by
  intro m
  induction m with
  | zero=>intro _ d;exact .inl rfl
  | succ m ih=>
   intro hm d
   have ho:ops[m]?=some ops[m]:=Array.getElem?_eq_getElem (by omega)
   have D:=H m _ ho
   show KC (B d) (app (Hn B r (fun _=>true) m) (r m).eff d)
   rcases ez (r m).eff (Hn B r (fun _=>true) m) d with⟨b,h1,h2⟩ | ⟨_,h2⟩
   ·rw[h2]
    have hk:=qt (D.kind KW) _ h1
    have ht:=iS D.there _ h1
    have Q9:¬gS ops r m d:=fun hp=>by rw[((hh m (by omega) d).1 hp).1] at ht;exact ht
    rw[(hh m (by omega) d).2 Q9] at hk
    exact (ih (by omega) d).trans hk
   rw[h2];exact ih (by omega) d
 intro m
 induction m with
 | zero=>intro _ d;exact .inl rfl
 | succ m ih=>
  intro hm d
  have ho:ops[m]?=some ops[m]:=Array.getElem?_eq_getElem (by omega)
  have D:=H m _ ho
  simp only[Hn]
  cases E m with
  | false=>exact ih (by omega) d
  | true=>
   show KC (B d) (app (Hn B r E m) (r m).eff d)
   rcases ez (r m).eff (Hn B r E m) d with⟨b,h1,h2⟩ | ⟨_,h2⟩
   ·rw[h2]
    have hk:=qt (D.kind KW) _ h1
    have ht:=iS D.there _ h1
    have Q9:¬gS ops r m d:=fun hp=>by rw[((hh m (by omega) d).1 hp).1] at ht;exact ht
    rw[(hh m (by omega) d).2 Q9] at hk
    exact (canon m (by omega) d).trans hk
   rw[h2];exact ih (by omega) d
def VE (ops:Array Oper) (E:Nat->Bool) (x:Nat):Prop:=∀(k:Nat) o,ops[k]?=some o->o.dst=some x->E k=true
open Classical in
noncomputable def TE (ops:Array Oper) (st:Nat->AS) (E:Nat->Bool) (x:Nat):AV:=if VE ops E x then (st ops.size).t x else (st 0).t x
def LE (ops:Array Oper) (r:Nat->RR) (E:Nat->Bool) (d:Nat):Prop:=∀k b,Fi ops r k d b->E k=true
theorem Hj {h:Nat->AB} {id c:Nat}:∀{eff:List (Nat×AB)},(∀p∈eff,p.1=id->kc p.2=c)->kc (h id)=c->kc (app h eff id)=c:=by
 intro eff
 induction eff generalizing h with
 | nil=>intro _ h2;exact h2
 | cons p r ih=>
  intro h1 h2
  obtain⟨q,b⟩:=p
  refine ih (h:=br h q b) (fun p hp e=>h1 p (List.mem_cons_of_mem _ hp) e) ?_
  by_cases e:id=q
  ·subst e
   rw[aO]
   exact h1 _ List.mem_cons_self rfl
  rw[bw _ _ e];exact h2
theorem CG {X:List Nat} {h:Nat->AB} {id:Nat} (hid:wq X (id+1000000)=true):∀{eff:List (Nat×AB)},qq X h eff=true->∀p∈eff,p.1=id->kc p.2=kc (h id)/\kc (h id)≠0:=by
 intro eff
 induction eff with
 | nil=>intro _ p hp;cases hp
 | cons q r ih=>
  intro hk p hp e
  obtain⟨i,b⟩:=q
  unfold qq at hk
  split at hk
  ·rename_i hi
   simp only[Bool.and_eq_true,Bool.not_eq_true'] at hk
   obtain⟨k1,k2,k3⟩:=hk
   rcases List.mem_cons.1 hp with rfl | hp
   ·simp only at e
    subst e
    exact⟨Nat.eq_of_beq_eq_true k1,fun e0=>by rw[e0] at k2;cases k2⟩
   exact ih k3 p hp e
  rename_i hi
  rcases List.mem_cons.1 hp with rfl | hp
  ·simp only at e
   subst e
   rw[hid] at hi
   cases hi
  exact ih hk p hp e
theorem Hk {X:List Nat} (hok:jU C ops=true) (H:∀(i:Nat) o,ops[i]?=some o->DStep C ap ops.toList o (st i) (r i) (st (i+1))) (Hl:∀k,k < ops.size->qq X (st k).h (r k).eff=true) {B:Nat->AB} (hh:∀i,i<=ops.size->∀d,(gS ops r i d->(st i).h d=.none/\Hn B r (fun _=>true) i d=B d)/\(¬gS ops r i d->(st i).h d=Hn B r (fun _=>true) i d)) (E:Nat->Bool) {id i:Nat} (hid:wq X (id+1000000)=true) (hi:i<=ops.size) (b8:(st i).h id≠.none):
  (kc (Hn B r E ops.size id)=kc ((st i).h id)/\kc ((st i).h id)≠0)\/Hn B r E ops.size id=(st i).h id:=by
 have Q_:∀k,k<=ops.size->(st k).h id≠.none->(st k).h id=Hn B r (fun _=>true) k id:=fun k hk h=>by
  by_cases hp:gS ops r k id
  ·exact absurd ((hh k hk id).1 hp).1 h
  exact (hh k hk id).2 hp
 have Ra:∀{b:AB},kc b≠0->b≠.none:=fun hb e=>by rw[e] at hb;exact hb rfl
 have spec:∀m,m < ops.size->∀p∈(r m).eff,p.1=id->kc p.2=kc (Hn B r (fun _=>true) m id)/\kc (Hn B r (fun _=>true) m id)≠0:=fun m hm p hp e=>by
  obtain⟨h1,h2⟩:=CG hid (Hl m hm) p hp e
  rw[Q_ m (by omega) (Ra h2)] at h1 h2
  exact⟨h1,h2⟩
 by_cases ht:∃k,k < ops.size/\∃p∈(r k).eff,p.1=id
 ·left
  have same:∀m,m<=ops.size->kc (Hn B r (fun _=>true) m id)=kc (B id):=by
   intro m
   induction m with
   | zero=>intro _;rfl
   | succ m ih=>
    intro hm
    have:=ih (by omega)
    show kc (app (Hn B r (fun _=>true) m) (r m).eff id)=_
    exact Hj (fun p hp e=>(spec m (by omega) p hp e).1.trans this) this
  have any:∀m,m<=ops.size->kc (Hn B r E m id)=kc (B id):=by
   intro m
   induction m with
   | zero=>intro _;rfl
   | succ m ih=>
    intro hm
    simp only[Hn]
    cases E m with
    | false=>exact ih (by omega)
    | true=>exact Hj (fun p hp e=>(spec m (by omega) p hp e).1.trans (same m (by omega))) (ih (by omega))
  obtain⟨k,hk,p,hp,e⟩:=ht
  have h0:=(spec k hk p hp e).2
  rw[same k (by omega)] at h0
  have hs:kc ((st i).h id)=kc (B id):=by rw[Q_ i hi b8];exact same i hi
  exact⟨by rw[any _ (Nat.le_refl _),hs],by rw[hs];exact h0⟩
 right
 have un:∀(F:Nat->Bool) m,m<=ops.size->Hn B r F m id=B id:=by
  intro F m
  induction m with
  | zero=>intro _;rfl
  | succ m ih=>
   intro hm
   simp only[Hn]
   cases F m with
   | false=>exact ih (by omega)
   | true=>
    show app (Hn B r F m) (r m).eff id=_
    rw[gy fun p hp' e=>ht ⟨m,by omega,p,hp',e⟩]
    exact ih (by omega)
 rw[un E _ (Nat.le_refl _),Q_ i hi b8,un _ i hi]
theorem JA {A:cV} (hC:bV A.C) (KW:ap=ops.toList.any fun o=>iF A.C o.op) (hok:jU A.C ops=true) (hd:∀o∈ops.toList,ji o A.n) (H:∀(i:Nat) o,ops[i]?=some o->DStep A.C ap ops.toList o (st i) (r i) (st (i+1))) (G:∀(i:Nat) o,ops[i]?=some o->uA A.C ap X (gX A.C ap ops) o (st i) (r i) i) {B:Nat->AB} (Fj:∀k d b,Fi ops r k d b->B d=b) (xl:∀d,¬gS ops r 0 d->B d=(st 0).h d) (h0:∀d,gS ops r 0 d->(st 0).h d=.none)
  {E:Nat->Bool} (hE:CC ops E) {i:Nat} {o:Oper} (ho:ops[i]?=some o) (hi:E i=false) (iB:∀e∈o.after,Region.binds .any e=true->E e.on=true) {S:Nat->Prop} {rho:Nat->Value} {a:Act} {w:World} (sim:cu A cN (LE ops r E) S rho ⟨TE ops st E,Hn B r E ops.size⟩ a w)
  {Q:Exit->Act->World->Prop} {next:Act->World->Prop} (hnext:∀S' rho' a' w',cu A cN (LE ops r fun k=>E k || cW k i) S' rho' ⟨TE ops st (fun k=>E k || cW k i),Hn B r (fun k=>E k || cW k i) ops.size⟩ a' w'->next a' w'):wpOp A.C.P ops Q i next a w:=by
 obtain⟨Hm,hs,hp⟩:=jI hok
 rw[<-KW] at hp
 obtain⟨KX,N7⟩:=xk Hm
 have p6:i < ops.size:=(Array.getElem?_eq_some_iff.1 ho).1
 have hh:=pG hok H Fj xl h0
 have D:=H i o ho
 have NX:ji o A.n:=hd o (List.mem_of_getElem? (by simpa using ho))
 have bits:∀k,k < i->((Region.before ops).getD i 0).testBit k=true->E k=true:=N7 E hE i o ho iB
 have later:∀(k:Nat) ok,ops[k]?=some ok->i < k->((Region.before ops).getD k 0).testBit i=true->E k=false:=by
  intro k ok hk Nk Rb
  rw[Bool.eq_false_iff]
  intro Ar
  have:=N7 E hE k ok hk (fun e he hb=>hE k ok hk Ar e he hb) i Nk Rb
  rw[hi] at this
  cases this
 have xn:∀x,x∈o.looksAt ops->TE ops st E x=(st i).t x:=by
  intro x hx
  unfold TE
  split
  ·rename_i hv
   by_cases hw:∃(k:Nat) (ok:Oper),ops[k]?=some ok/\ok.dst=some x
   ·obtain⟨k,ok,hk,ym⟩:=hw
    have Ak:=(Array.getElem?_eq_some_iff.1 hk).1
    rcases Nat.lt_trichotomy k i with h | h | h
    ·rw[CF hok H hk ym ops.size (by omega) (Nat.le_refl _),CF hok H hk ym i (by omega) (by omega)]
    ·subst h
     rw[ho] at hk
     injection hk with hk
     subst hk
     exact absurd hx (hs k o ho x ym)
    have h1:=later k ok hk h ((hp i k o ok h ho hk).war x ym hx)
    rw[hv k ok hk ym] at h1
    cases h1
   have b8:∀(k:Nat) o,ops[k]?=some o->o.dst≠some x:=fun k o hk e=>hw ⟨k,o,hk,e⟩
   rw[yj H b8 ops.size (Nat.le_refl _),yj H b8 i (by omega)]
  rename_i hv
  have hex:∃(k:Nat) (ok:Oper),ops[k]?=some ok/\ok.dst=some x/\E k=false:=Classical.byContradiction fun hn=>hv fun k ok hk ym=>by
   cases Us:E k with
   | true=>rfl
   | false=>exact absurd ⟨k,ok,hk,ym,Us⟩ hn
  obtain⟨k,ok,hk,ym,Ar⟩:=hex
  rcases Nat.lt_trichotomy k i with h | h | h
  ·have:=bits k h ((hp k i ok o h hk ho).raw x ym hx)
   rw[Ar] at this
   cases this
  ·subst h
   rw[ho] at hk
   injection hk with hk
   subst hk
   exact absurd hx (hs k o ho x ym)
  exact (Fh hok H hk ym i (by omega)).symm
 have KY:(cls A.C ap o.op=3\/(cls A.C ap o.op=2/\(gX A.C ap ops)[i]?=some true))->∀k,i < k->k < ops.size->E k=true->(r k).eff=[]:=by
  intro hc k Nk Ak Ar
  have hk:ops[k]?=some ops[k]:=Array.getElem?_eq_getElem Ak
  by_cases h3:cls A.C ap ops[k].op=3
  ·have:=later k _ hk Nk (by
    rcases hc with hc | ⟨hc,hf⟩
    ·exact (hp i k o _ Nk ho hk).w3 h3 hc
    exact (rQ ho hf hc k _ hk h3).2 Nk)
   rw[Ar] at this
   cases this
  exact (H k _ hk).quiet h3
 have Ho:∀k,k < ops.size->(r k).eff≠[]->cls A.C ap (ops[k]?.getD o).op=3:=by
  intro k hk b8
  have tI:ops[k]?=some ops[k]:=Array.getElem?_eq_getElem hk
  rw[tI]
  by_cases h3:cls A.C ap ops[k].op=3
  ·exact h3
  exact absurd ((H k _ tI).quiet h3) b8
 have Hp:(cls A.C ap o.op=3\/(cls A.C ap o.op=2/\(gX A.C ap ops)[i]?=some true))->Hn B r E ops.size=Hn B r (fun _=>true) i:=by
  intro hc
  refine KU i ops.size (fun k Ak=>?_) (by omega)
  have hk:ops[k]?=some ops[k]:=Array.getElem?_eq_getElem Ak
  by_cases b8:(r k).eff=[]
  ·exact .inr b8
  have h3:=Ho k Ak b8
  rw[hk] at h3
  have h3:cls A.C ap ops[k].op=3:=h3
  refine .inl ⟨fun Ar=>?_,fun eL=>?_⟩
  ·rcases Nat.lt_trichotomy k i with h | h | h
   ·exact h
   ·subst h;rw[hi] at Ar;cases Ar
   exact absurd (KY hc k h Ak Ar) b8
  rcases hc with hc | ⟨hc,hf⟩
  ·exact bits k eL ((hp k i _ o eL hk ho).w3 hc h3)
  exact bits k eL ((rQ ho hf hc k _ hk h3).1 eL)
 have Rc:cls A.C ap o.op=2->Jw o.op=false->∀id,wq X id=true->Hn B r E ops.size id=Hn B r (fun _=>true) i id:=fun hc hth id hid=>by
  refine N5 i ops.size (fun k Ak=>?_) (by omega)
  have hk:ops[k]?=some ops[k]:=Array.getElem?_eq_getElem Ak
  by_cases b8:∀p∈(r k).eff,p.1≠id
  ·exact .inr b8
  have ET:(r k).eff≠[]:=fun e=>b8 (by rw[e];simp)
  have h3:cls A.C ap ops[k].op=3:=by have:=Ho k Ak ET;rw[hk] at this;exact this
  have Nl:(r k).run=true:=by
   cases hr:(r k).run with
   | true=>rfl
   | false=>exact absurd ((H k _ hk).not hr).2.1 ET
  have hf:(gX A.C ap ops)[k]?=some true:=by
   rcases (G k _ hk Nl).2.1 with h | h
   ·exact h
   exact absurd (fun p hp e=>by have:=Am h p hp;rw[e,hid] at this;cases this) b8
  have ord:=uB hk hf h3 i o ho hc hth
  refine .inl ⟨fun Ar=>?_,fun eL=>?_⟩
  ·rcases Nat.lt_trichotomy k i with h | h | h
   ·exact h
   ·subst h;rw[hi] at Ar;cases Ar
   have:=later k _ hk h (ord.1 h)
   rw[Ar] at this
   cases this
  exact bits k eL (ord.2 eL)
 have ext:∀id,(st i).h id=.none\/Hn B r (fun _=>true) i id=(st i).h id:=by
  intro id
  by_cases xm:gS ops r i id
  ·exact .inl ((hh i (by omega) id).1 xm).1
  exact .inr ((hh i (by omega) id).2 xm).symm
 have SX:(r i).run=true->bY A.C o (ev (TE ops st E)) (Hn B r E ops.size) fun v e n=>v=(r i).v/\e=(r i).eff/\n=(r i).new:=by
  intro hrun
  have h1:=D.ran hrun
  have h2:bY A.C o (ev (TE ops st E)) (st i).h fun v e n=>v=(r i).v/\e=(r i).eff/\n=(r i).new:=by
   refine oI (fun x hx=>?_) h1
   cases x with
   | tmp t=>
    exact (xn t (List.mem_append_left _ (List.mem_filterMap.2 ⟨.tmp t,by simpa using hx,rfl⟩))).symm
   | const v=>rfl
   | global g=>rfl
   | func f=>rfl
  have four:cls A.C ap o.op=0\/cls A.C ap o.op=1\/cls A.C ap o.op=2\/cls A.C ap o.op=3:=by
   have:=Hf A.C ap o.op
   omega
  rcases four with h | h | h | h
  ·exact L8 h h2
  ·have N9:ap=false:=by
    cases Re:ap with
    | false=>rfl
    | true=>
     rw[Re] at h
     exact absurd h (Hg A.C o.op)
   refine L9 h (fun id ht=>?_) h2
   have KZ:=uC hok H N9 Fj xl h0 E ops.size (Nat.le_refl _) id
   have N_:=uC hok H N9 Fj xl h0 (fun _=>true) i (by omega) id
   have heq:(st i).h id=Hn B r (fun _=>true) i id:=by
    rcases ext id with e | e
    ·rw[e] at ht;exact ht.elim
    exact e.symm
   rw[<-heq] at N_
   rcases N_ with e | ⟨e,es,wk,e1,e2⟩ | ⟨cs,kI,e1,e2⟩ | ⟨m,es,m',wk,e1,e2⟩
   ·rw[<-e] at KZ
    rcases KZ with f | ⟨f,fs,Me,f1,f2⟩ | ⟨cs,kI,f1,f2⟩ | ⟨m,es,m',wk,f1,f2⟩
    ·rw[f];exact⟨ht,fun e es h=>⟨es,h⟩,fun cs h=>⟨cs,h⟩,fun cs h=>⟨cs,h⟩,fun e es h=>⟨es,h⟩⟩
    ·rw[f1,f2];exact⟨trivial,fun e es h=>(by injection h with h1 h2;subst h1;exact⟨Me,rfl⟩),fun cs h=>(by cases h),fun cs h=>(by cases h),fun _ _ h=>by cases h⟩
    ·rw[f1,f2];exact⟨trivial,fun e es h=>by (cases h),fun cs h=>⟨kI,rfl⟩,fun cs h=>(by cases h),fun _ _ h=>by cases h⟩
    rw[f1,f2];exact⟨trivial,fun e es h=>by (cases h),fun cs h=>by (cases h),fun cs h=>(by cases h),fun _ _ h=>by cases h⟩
   ·rw[e1] at KZ
    rw[e2]
    rcases KZ with f | ⟨f,fs,Me,f1,f2⟩ | ⟨cs,kI,f1,f2⟩ | ⟨m,es,m',wk,f1,f2⟩
    ·rw[f];exact⟨trivial,fun e es h=>(by injection h with h1 h2;subst h1;exact⟨_,rfl⟩),fun cs h=>by (cases h),fun cs h=>(by cases h),fun _ _ h=>by cases h⟩
    ·injection f1 with f1 _;subst f1
     rw[f2];exact⟨trivial,fun e es h=>(by injection h with h1 h2;subst h1;exact⟨_,rfl⟩),fun cs h=>by (cases h),fun cs h=>(by cases h),fun _ _ h=>by cases h⟩
    ·cases f1
    cases f1
   ·rw[e1] at KZ
    rw[e2]
    rcases KZ with f | ⟨f,fs,Me,f1,f2⟩ | ⟨ds,Q8,f1,f2⟩ | ⟨m,es,m',wk,f1,f2⟩
    ·rw[f];exact⟨trivial,fun e es h=>by (cases h),fun cs h=>⟨_,rfl⟩,fun cs h=>(by cases h),fun _ _ h=>by cases h⟩
    ·cases f1
    ·rw[f2];exact⟨trivial,fun e es h=>by (cases h),fun cs h=>⟨_,rfl⟩,fun cs h=>(by cases h),fun _ _ h=>by cases h⟩
    cases f1
   rw[e1] at KZ
   rw[e2]
   rcases KZ with f | ⟨f,fs,Me,f1,f2⟩ | ⟨ds,Q8,f1,f2⟩ | ⟨m,es,m',wk,f1,f2⟩
   ·rw[f];exact⟨trivial,fun e es h=>by (cases h),fun cs h=>by (cases h),fun cs h=>(by cases h),fun _ _ h=>by cases h⟩
   ·cases f1
   ·cases f1
   rw[f2];exact⟨trivial,fun e es h=>by (cases h),fun cs h=>by (cases h),fun cs h=>(by cases h),fun _ _ h=>by cases h⟩
  ·rcases (G i o ho hrun).1 with hf | hpv | hfp | hth | h3
   case inr.inr.inr.inr=>rw[h] at h3;cases h3
   case inr.inr.inr.inl=>
    have Hl:∀k,k < ops.size->qq X (st k).h (r k).eff=true:=fun k Ak=>by
     have hk:ops[k]?=some ops[k]:=Array.getElem?_eq_getElem Ak
     cases hr:(r k).run with
     | true=>exact (G k _ hk hr).2.2
     | false=>rw[((H k _ hk).not hr).2.1];rfl
    refine oI (fun x hx=>?_) (Mc (h':=Hn B r E ops.size) (fun id hid b8=>Hk hok H Hl hh E hid (by omega) b8) hth h1)
    cases x with
    | tmp t=>
     exact (xn t (List.mem_append_left _ (List.mem_filterMap.2 ⟨.tmp t,by simpa using hx,rfl⟩))).symm
    | const v=>rfl
    | global g=>rfl
    | func f=>rfl
   case inr.inr.inl=>
    refine oI (fun x hx=>?_) (Mb (h':=Hn B r E ops.size) (fun id hid=>?_) hfp h1)
    ·cases x with
     | tmp t=>
      exact (xn t (List.mem_append_left _ (List.mem_filterMap.2 ⟨.tmp t,by simpa using hx,rfl⟩))).symm
     | const v=>rfl
     | global g=>rfl
     | func f=>rfl
    rw[Rc h (D5 hfp) id hid]
    exact ext id
   case inr.inl=>
    refine oI (fun x hx=>?_) (L_ hpv h1)
    cases x with
    | tmp t=>
     exact (xn t (List.mem_append_left _ (List.mem_filterMap.2 ⟨.tmp t,by simpa using hx,rfl⟩))).symm
    | const v=>rfl
    | global g=>rfl
    | func f=>rfl
   rw[Hp (.inr ⟨h,hf⟩)]
   obtain⟨v,e,n,⟨rfl,rfl,rfl⟩,h4⟩:=oG ext h2
   exact h4 _ ⟨rfl,rfl,rfl⟩
  rw[Hp (.inl h)]
  obtain⟨v,e,n,⟨rfl,rfl,rfl⟩,h4⟩:=oG ext h2
  exact h4 _ ⟨rfl,rfl,rfl⟩
 have K1:∀x,o.dst≠some x->(VE ops (fun k=>E k || cW k i) x↔VE ops E x):=by
  intro x hx
  refine⟨fun hv k ok hk ym=>?_,fun hv k ok hk ym=>by simp[hv k ok hk ym]⟩
  have:=hv k ok hk ym
  simp only[Bool.or_eq_true] at this
  rcases this with h | h
  ·exact h
  have:=bG.1 h
  subst this
  rw[ho] at hk
  injection hk with hk
  subst hk
  exact absurd ym hx
 have Oa:∀v,v=(r i).v->eu (TE ops st E) o.dst v=TE ops st (fun k=>E k || cW k i):=by
  intro v hv
  funext x
  have other:o.dst≠some x->TE ops st E x=TE ops st (fun k=>E k || cW k i) x:=fun hx=>by
   unfold TE
   by_cases PE:VE ops E x
   ·rw[if_pos PE,if_pos ((K1 x hx).2 PE)]
   rw[if_neg PE,if_neg fun h=>PE ((K1 x hx).1 h)]
  cases jz:o.dst with
  | none=>exact other (by rw[jz];intro h;cases h)
  | some d=>
   show br _ _ _ _=_
   by_cases e:x=d
   ·subst e
    rw[aO]
    unfold TE
    rw[if_pos,CF hok H ho jz ops.size (by omega) (Nat.le_refl _),hv]
    intro k ok hk ym
    have:k=i:=by
     rcases Nat.lt_trichotomy k i with h5 | h5 | h5
     ·exact absurd jz ((hp k i ok o h5 hk ho).dst x ym)
     ·exact h5
     exact absurd ym ((hp i k o ok h5 ho hk).dst x jz)
    simp[this,bG.2]
   rw[bw _ _ e]
   exact other fun h=>e (by rw[jz] at h;injection h with h;exact h.symm)
 unfold wpOp
 simp only[ho]
 by_cases hrun:(r i).run=true
 ·have uw:Region.wanted o (yielded ops a.tmps)=true:=by
   have hg:=D.guard
   unfold Region.wanted
   split at hg
   ·rename_i h;rw[h]
   rename_i g want h
   rw[h]
   obtain⟨og,tg,b,k1,k2,k3,k4⟩:=hg
   have Hq:tg∈o.looksAt ops:=List.mem_append_right _ (by rw[h];simp[show ops[g]?=some og by simpa using k1,k2])
   have:=mw sim (ops:=ops) (g:=g) (by simpa using k1) k2 trivial (by show TE ops st E tg=_;rw[xn tg Hq];exact k3)
   simp only[this]
   rw[hrun] at k4
   exact k4.symm
  rw[if_pos uw]
  refine .inl (GX A o _ _ _ _ _ _ _ _ next Q hC sim (fun _ _=>trivial) NX (SX hrun) (fun v eff b hk=>?_) fun v eff new S' rho' a' w' hk cc=>?_)
  ·obtain⟨_,_,Nn⟩:=hk
   obtain⟨d,jz⟩:∃d,o.dst=some d:=by
    have:=D.ndst
    rw[<-Nn] at this
    cases tz:o.dst with
    | none=>rw[tz] at this;cases this
    | some d=>exact⟨d,rfl⟩
   have xo:Fi ops r i d b:=⟨o,ho,jz,Nn.symm⟩
   rw[jz]
   refine⟨fun hL=>(by have:=hL i b xo;rw[hi] at this;cases this),?_⟩
   show Hn B r E ops.size d=b
   have xm:gS ops r i d:=⟨i,b,Nat.le_refl _,xo⟩
   have b8:∀k,k < ops.size->E k=true->∀p∈(r k).eff,p.1≠d:=by
    intro k Ak Ar p KV e
    have hk:ops[k]?=some ops[k]:=Array.getElem?_eq_getElem Ak
    have ht:=iS (H k _ hk).there p KV
    rcases Nat.lt_trichotomy k i with h | h | h
    ·have JB:gS ops r k d:=⟨i,b,by omega,xo⟩
     rw[e,((hh k (by omega) d).1 JB).1] at ht
     exact ht
    ·subst h;rw[hi] at Ar;cases Ar
    have h3:cls A.C ap ops[k].op=3:=by
     by_cases h3:cls A.C ap ops[k].op=3
     ·exact h3
     have:=(H k _ hk).quiet h3;rw[this] at KV;cases KV
    have hmk:cls A.C ap o.op=3\/cls A.C ap o.op=2:=Jy (ap:=ap) (SX hrun) Nn
    have:=later k _ hk h (by
     rcases hmk with hmk | hmk
     ·exact (hp i k o _ h ho hk).w3 h3 hmk
     rcases (G i o ho hrun).1 with hf | hpv | hfp | hth | h3'
     ·exact (rQ ho hf hmk k _ hk h3).2 h
     ·have:=Cx hpv (D.ran hrun)
      rw[<-Nn] at this
      cases this
     ·rcases Cy hfp (D.ran hrun) with Jp | hdX
      ·rw[<-Nn] at Jp
       cases Jp
      rw[jz] at hdX
      have hdX:wq X d=true:=hdX
      have ET:(r k).eff≠[]:=fun e=>by rw[e] at KV;cases KV
      have Nl:(r k).run=true:=by
       cases hr:(r k).run with
       | true=>rfl
       | false=>exact absurd ((H k _ hk).not hr).2.1 ET
      have hf:(gX A.C ap ops)[k]?=some true:=by
       rcases (G k _ hk Nl).2.1 with h | h
       ·exact h
       have:=Am h p KV
       rw[e,hdX] at this
       cases this
      exact (uB hk hf h3 i o ho hmk (D5 hfp)).1 h
     ·have:=Cz hth (D.ran hrun)
      rw[<-Nn] at this
      cases this
     rw[hmk] at h3';cases h3')
    rw[Ar] at this
    cases this
   have:∀m,m<=ops.size->Hn B r E m d=B d:=by
    intro m
    induction m with
    | zero=>intro _;rfl
    | succ m ih=>
     intro hm
     simp only[Hn]
     cases Ut:E m with
     | false=>exact ih (by omega)
     | true=>
      show app (Hn B r E m) (r m).eff d=_
      rw[gy (b8 m (by omega) Ut)]
      exact ih (by omega)
   rw[this ops.size (Nat.le_refl _),Fj i d b xo]
  obtain⟨e1,e2,e3⟩:=hk
  refine hnext S' rho' a' w' ?_
  have hH:app (Hn B r E ops.size) eff=Hn B r (fun k=>E k || cW k i) ops.size:=by
   rw[e2]
   by_cases b8:(r i).eff=[]
   ·rw[b8]
    show Hn B r E ops.size=_
    have:∀m,Hn B r (fun k=>E k || cW k i) m=Hn B r E m:=by
     intro m
     induction m with
     | zero=>rfl
     | succ m ih=>
      simp only[Hn]
      rw[ih]
      by_cases e:m=i
      ·subst e;rw[hi,bG.2 rfl,b8];rfl
      have:cW m i=false:=by rw[Bool.eq_false_iff];intro h;exact e (bG.1 h)
      rw[this,Bool.or_false]
    exact (this _).symm
   have h3:cls A.C ap o.op=3:=by
    by_cases h3:cls A.C ap o.op=3
    ·exact h3
    exact absurd (D.quiet h3) b8
   exact (Md hi ops.size (KY (.inl h3)) p6).symm
  have bI:=cc
  rw[Oa v e1] at bI
  have eE:cu A (wc cN o.dst) (zO (LE ops r E) new (o.dst.getD 0)) S' rho' ⟨TE ops st (fun k=>E k || cW k i),Hn B r (fun k=>E k || cW k i) ops.size⟩ a' w':=by rw[<-hH];exact bI
  refine eE.nA (fun _ _=>.inl trivial) fun d=>?_
  cases CH:new with
  | none=>
   refine⟨fun h k b xo=>?_,fun h k b xo=>by simp[h k b xo]⟩
   have:=h k b xo
   simp only[Bool.or_eq_true] at this
   rcases this with h | h
   ·exact h
   have:=bG.1 h
   subst this
   obtain⟨o',h1,h2,h4⟩:=xo
   rw[<-e3,CH] at h4
   cases h4
  | some b=>
   obtain⟨d',jz⟩:∃d,o.dst=some d:=by
    have:=D.ndst
    rw[<-e3,CH] at this
    cases tz:o.dst with
    | none=>rw[tz] at this;cases this
    | some d=>exact⟨d,rfl⟩
   rw[jz]
   show _↔(LE ops r E d\/d=d')
   refine⟨fun h=>?_,fun h k b' xo=>?_⟩
   ·by_cases e:d=d'
    ·exact .inr e
    refine .inl fun k b' xo=>?_
    have:=h k b' xo
    simp only[Bool.or_eq_true] at this
    rcases this with h | h
    ·exact h
    have:=bG.1 h
    subst this
    obtain⟨o',h1,h2,h4⟩:=xo
    rw[ho] at h1
    injection h1 with h1
    rw[<-h1,jz] at h2
    injection h2 with h2
    exact absurd h2.symm e
   rcases h with h | h
   ·simp[h k b' xo]
   obtain⟨o',h1,h2,h4⟩:=xo
   have:k=i:=by
    rcases Nat.lt_trichotomy k i with h5 | h5 | h5
    ·exact absurd (by rw[jz,h]) ((hp k i o' o h5 h1 ho).dst d h2)
    ·exact h5
    exact absurd (by rw[h2,h]) ((hp i k o o' h5 ho h1).dst d' jz)
   simp[this,bG.2]
 have Hr:(r i).run=false:=by simpa using hrun
 obtain⟨n1,n2,n3⟩:=D.not Hr
 have uw:Region.wanted o (yielded ops a.tmps)=false:=by
  have hg:=D.guard
  unfold Region.wanted
  split at hg
  ·rw[Hr] at hg;cases hg
  rename_i g want h
  rw[h]
  obtain⟨og,tg,b,k1,k2,k3,k4⟩:=hg
  have Hq:tg∈o.looksAt ops:=List.mem_append_right _ (by rw[h];simp[show ops[g]?=some og by simpa using k1,k2])
  have:=mw sim (ops:=ops) (g:=g) (by simpa using k1) k2 trivial (by show TE ops st E tg=_;rw[xn tg Hq];exact k3)
  simp only[this]
  rw[Hr] at k4
  exact k4.symm
 rw[if_neg (by rw[uw];decide)]
 refine hnext S rho _ _ ?_
 have bI:=sim.value o.dst NX kD undef (.p _ _ (.im _))
 rw[Oa kD n1.symm] at bI
 have hH:Hn B r (fun k=>E k || cW k i) ops.size=Hn B r E ops.size:=by
  have:∀m,Hn B r (fun k=>E k || cW k i) m=Hn B r E m:=by
   intro m
   induction m with
   | zero=>rfl
   | succ m ih=>
    simp only[Hn]
    rw[ih]
    by_cases e:m=i
    ·subst e;rw[hi,bG.2 rfl,n2];rfl
    have:cW m i=false:=by rw[Bool.eq_false_iff];intro h;exact e (bG.1 h)
    rw[this,Bool.or_false]
  exact this _
 rw[hH]
 refine bI.nA (fun _ _=>.inl trivial) fun d=>⟨fun h k b xo=>?_,fun h k b xo=>by simp[h k b xo]⟩
 have:=h k b xo
 simp only[Bool.or_eq_true] at this
 rcases this with h | h
 ·exact h
 have:=bG.1 h
 subst this
 obtain⟨o',h1,h2,h4⟩:=xo
 rw[n3] at h4
 cases h4
theorem filter_lt {p q:Nat->Bool} (Rf:∀x,q x=true->p x=true) {i:Nat} (hp:p i=true) (hq:q i=false):∀(l:List Nat),(l.filter q).length<=(l.filter p).length/\(i∈l->(l.filter q).length < (l.filter p).length):=by
 intro l
 induction l with
 | nil=>exact⟨Nat.le_refl _,fun h=>by cases h⟩
 | cons x l ih=>
  simp only[List.filter_cons]
  refine⟨?_,fun h=>?_⟩
  ·cases Rg:q x with
   | true=>rw[Rf x Rg];simp;exact ih.1
   | false=>cases p x <;> simp <;> have:=ih.1 <;> omega
  rcases List.mem_cons.1 h with e | e
  ·subst e;rw[hp,hq];simp;have:=ih.1;omega
  have:=ih.2 e
  cases Rg:q x with
  | true=>rw[Rf x Rg];simp;exact this
  | false=>cases p x <;> simp <;> omega
theorem JC {A:cV} (hC:bV A.C) (KW:ap=ops.toList.any fun o=>iF A.C o.op) (hok:jU A.C ops=true) (hd:∀o∈ops.toList,ji o A.n) (H:∀(i:Nat) o,ops[i]?=some o->DStep A.C ap ops.toList o (st i) (r i) (st (i+1))) (G:∀(i:Nat) o,ops[i]?=some o->uA A.C ap X (gX A.C ap ops) o (st i) (r i) i) {B:Nat->AB} (Fj:∀k d b,Fi ops r k d b->B d=b) (xl:∀d,¬gS ops r 0 d->B d=(st 0).h d) (h0:∀d,gS ops r 0 d->(st 0).h d=.none)
  {Q:Exit->Act->World->Prop} (hQ:∀S rho a w,cu A cN cN S rho (st ops.size) a w->Q .normal a w):
  ∀(fuel:Nat) (listed:Array Bool) (S:Nat->Prop) (rho:Nat->Value) (a:Act) (w:World),listed.size=ops.size->CC ops (fun i=>listed.getD i false)->((List.range ops.size).filter fun i=>!listed.getD i false).length<=fuel ->
   cu A cN (LE ops r fun i=>listed.getD i false) S rho ⟨TE ops st (fun i=>listed.getD i false),Hn B r (fun i=>listed.getD i false) ops.size⟩ a w->wpAny A.C.P .any ops Q fuel listed a w:=by
 obtain⟨Hm,hs,hp⟩:=jI hok
 obtain⟨KX,_⟩:=xk Hm
 have hh:=pG hok H Fj xl h0
 have fin:∀(listed:Array Bool) (S:Nat->Prop) (rho:Nat->Value) (a:Act) (w:World),listed.size=ops.size->Region.ready .any ops listed=[]->cu A cN (LE ops r fun i=>listed.getD i false) S rho ⟨TE ops st (fun i=>listed.getD i false),Hn B r (fun i=>listed.getD i false) ops.size⟩ a w->Q .normal a w:=by
  intro listed S rho a w hsz hr sim
  have all:∀i,i < ops.size->listed.getD i false=true:=by
   intro i
   induction i using Nat.strongRecOn with
   | _ i ih=>
    intro hi
    have ho:ops[i]?=some ops[i]:=Array.getElem?_eq_getElem hi
    cases hl:listed.getD i false with
    | true=>rfl
    | false=>
     have:i∈Region.ready .any ops listed:=mem_ready.2 ⟨getD_in (by omega) hl,_,ho,fun e he hb=>by
      have h1:=KX i _ ho e he hb
      exact ih e.on h1 (by omega)⟩
     rw[hr] at this
     cases this
  refine hQ S rho a w ?_
  have hH:Hn B r (fun i=>listed.getD i false) ops.size=(st ops.size).h:=by
   rw[KU ops.size ops.size (fun k hk=>.inl ⟨fun _=>hk,fun _=>all k hk⟩) (Nat.le_refl _)]
   funext d
   refine ((hh ops.size (Nat.le_refl _) d).2 fun ⟨k,b,h1,o,h2,_⟩=>?_).symm
   have:=(Array.getElem?_eq_some_iff.1 h2).1
   omega
  have hT:TE ops st (fun i=>listed.getD i false)=(st ops.size).t:=funext fun x=>if_pos fun k o hk _=>all k (Array.getElem?_eq_some_iff.1 hk).1
  rw[hH,hT] at sim
  refine sim.nA (fun _ _=>trivial) fun d=>⟨fun _ k b hc=>?_,fun _=>trivial⟩
  obtain⟨o,h2,_⟩:=hc
  exact all k (Array.getElem?_eq_some_iff.1 h2).1
 intro fuel
 induction fuel with
 | zero=>
  intro listed S rho a w hsz iE Ob sim
  have hr:Region.ready .any ops listed=[]:=by
   rw[List.eq_nil_iff_forall_not_mem]
   intro i hi
   obtain⟨h1,o,ho,_⟩:=mem_ready.1 hi
   have eL:=(Array.getElem?_eq_some_iff.1 ho).1
   have hm:i∈(List.range ops.size).filter fun i=>!listed.getD i false:=List.mem_filter.2 ⟨List.mem_range.2 eL,by rw[getD_both h1];rfl⟩
   have:=List.eq_nil_of_length_eq_zero (Nat.le_zero.1 Ob)
   rw[this] at hm
   cases hm
  exact⟨hr,fin listed S rho a w hsz hr sim⟩
 | succ fuel ih=>
  intro listed S rho a w hsz iE Ob sim
  refine⟨fun hr=>fin listed S rho a w hsz hr sim,fun i hi=>?_⟩
  obtain⟨h1,o,ho,iB⟩:=mem_ready.1 hi
  have eL:=(Array.getElem?_eq_some_iff.1 ho).1
  have SY:listed.getD i false=false:=getD_both h1
  have lH:(fun k=>(listed.setIfInBounds i true).getD k false)=fun k=>listed.getD k false || cW k i:=by
   funext k
   by_cases e:i=k
   ·subst e
    rw[bG.2 rfl,Bool.or_true]
    simp[hsz,eL]
   rw[getD_set_ne false e]
   have:cW k i=false:=by rw[Bool.eq_false_iff];intro h;exact e (bG.1 h).symm
   rw[this,Bool.or_false]
  refine JA hC KW hok hd H G Fj xl h0 (E:=fun i=>listed.getD i false) iE ho SY iB sim fun S' rho' a' w' cc=>?_
  refine ih (listed.setIfInBounds i true) S' rho' a' w' (by simp[hsz]) ?_ ?_ ?_
  ·rw[lH]
   intro j oj hj SZ e he hb
   simp only[Bool.or_eq_true] at SZ ⊢
   rcases SZ with h | h
   ·exact .inl (iE j oj hj h e he hb)
   have:=bG.1 h
   subst this
   rw[ho] at hj
   injection hj with hj
   subst hj
   exact .inl (iB e he hb)
  ·have K2:∀k,(listed.setIfInBounds i true).getD k false=(listed.getD k false || cW k i):=fun k=>congrFun lH k
   have:=(filter_lt (p:=fun k=>!listed.getD k false) (q:=fun k=>!(listed.setIfInBounds i true).getD k false) (fun x hx=>by
    rw[K2 x] at hx
    cases hl:listed.getD x false with
    | true=>rw[hl] at hx;cases hx
    | false=>rfl) (i:=i) (by rw[SY];rfl) (by rw[K2 i,bG.2 rfl,Bool.or_true];rfl) (List.range ops.size)).2 (List.mem_range.2 eL)
   omega
  rw[lH];exact cc
end
def HX.iw:List HX->List AV
 | []=>[]
 | .av x::r=>x::HX.iw r
 | .row _ _::r=>HX.iw r
theorem HX.yo (f:AV->AV):∀(r:List HX),HX.iw (r.map (HX.dm f))=(HX.iw r).map f
 | []=>rfl
 | .av x::r=>by simp[HX.iw,HX.dm,HX.yo f r]
 | .row _ _::r=>by simp[HX.iw,HX.dm,HX.yo f r]
theorem HX.yp {x:AV}:∀{r:List HX},.av x∈r->x∈HX.iw r
 | .av y::r,h=>by
  rcases List.mem_cons.1 h with h | h
  ·injection h with h;subst h;simp[HX.iw]
  simp[HX.iw,HX.yp h]
 | .row _ _::r,h=>by
  rcases List.mem_cons.1 h with h | h
  ·cases h
  simp[HX.iw,HX.yp h]
def yr:AB->List AV
 | .box cs=>cs
 | .fF _ cs=>cs
 | .aL _ es=>es.flatMap HX.iw
 | _=>[]
theorem uD (d:Nat) (b:AB):yr (rH d b)=(yr b).map (sc d):=by
 cases b with
 | aL e es=>
  show (es.map fun r=>r.map (HX.dm (sc d))).flatMap HX.iw=(es.flatMap HX.iw).map (sc d)
  induction es with
  | nil=>rfl
  | cons r es ih=>simp only[List.map_cons,List.flatMap_cons,List.map_append,ih,HX.yo]
 | _=>rfl
def sU (d:Nat) (s:AS):Prop:=s.h d=.none/\(∀j,pe d (s.t j)=false)/\∀k,∀x∈yr (s.h k),pe d x=false
theorem Hs (d:Nat) (x:AV):pe d (sc d x)=false:=by
 rw[GZ]
 split
 ·rfl
 assumption
theorem D6 {d d':Nat} {x:AV} (h:pe d x=false):pe d (sc d' x)=false:=by
 rw[GZ]
 split
 ·rfl
 exact h
theorem D7 (d:Nat) (s:AS) (k:Nat):(k=d/\(WB d s).h k=.none)\/(k≠d/\(WB d s).h k=rH d (s.h k)):=by
 by_cases e:k=d
 ·subst e;exact .inl ⟨rfl,by show br (fun k'=>rH k (s.h k')) k AB.none k=_;rw[aO]⟩
 exact .inr ⟨e,by show br (fun k'=>rH d (s.h k')) d AB.none k=_;rw[bw _ _ e]⟩
theorem xp (d:Nat) (s:AS):sU d (WB d s):=by
 refine⟨by rcases D7 d s d with⟨_,h⟩ | ⟨h,_⟩;exact h;exact absurd rfl h,fun j=>Hs d _,fun k x hx=>?_⟩
 rcases D7 d s k with⟨_,h⟩ | ⟨_,h⟩
 ·rw[h] at hx;cases hx
 rw[h,uD] at hx
 obtain⟨y,_,rfl⟩:=List.mem_map.1 hx
 exact Hs d y
theorem CI {d:Nat} {s:AS} (d':Nat) (hn:sU d s):sU d (WB d' s):=by
 obtain⟨h1,h2,h3⟩:=hn
 refine⟨?_,fun j=>D6 (h2 j),fun k x hx=>?_⟩
 ·rcases D7 d' s d with⟨_,h⟩ | ⟨_,h⟩
  ·exact h
  rw[h,h1];rfl
 rcases D7 d' s k with⟨_,h⟩ | ⟨_,h⟩
 ·rw[h] at hx;cases hx
 rw[h,uD] at hx
 obtain⟨y,hy,rfl⟩:=List.mem_map.1 hx
 exact D6 (h3 k y hy)
def qu:List Oper->AS->AS
 | [],s=>s
 | o::r,s=>match gV o.op with
  | true=>qu r (WB (o.dst.getD 0) s)
  | false=>qu r s
theorem CJ:∀(l:List Oper) (s:AS),(∀d,sU d s->sU d (qu l s))/\∀o∈l,gV o.op=true->sU (o.dst.getD 0) (qu l s):=by
 intro l
 induction l with
 | nil=>intro s;exact⟨fun _ h=>h,fun o h=>by cases h⟩
 | cons o l ih=>
  intro s
  unfold qu
  split
  ·rename_i hm
   refine⟨fun d hd=>(ih _).1 d (CI _ hd),fun o' IX IU=>?_⟩
   rcases List.mem_cons.1 IX with e | e
   ·subst e;exact (ih _).1 _ (xp _ _)
   exact (ih _).2 o' e IU
  rename_i hm
  refine⟨fun d hd=>(ih _).1 d hd,fun o' IX IU=>?_⟩
  rcases List.mem_cons.1 IX with e | e
  ·subst e;rw[IU] at hm;cases hm
  exact (ih _).2 o' e IU
theorem cu.WB {A:cV} {S:Nat->Prop} {rho:Nat->Value} {s:AS} {a:Act} {w:World} (sim:cu A cN cN S rho s a w) (d:Nat):cu A cN cN S rho (WB d s) a w:=by
 have h1:=sim.free d .none
 have hn:(AM.WB d s).h d=.none:=(xp d s).1
 rw[eU _ _ _ hn] at h1
 exact h1.D4 d hn
theorem cu.pre {A:cV} {S:Nat->Prop} {rho:Nat->Value} {a:Act} {w:World}:∀(l:List Oper) (s:AS),cu A cN cN S rho s a w->cu A cN cN S rho (qu l s) a w:=by
 intro l
 induction l with
 | nil=>intro s sim;exact sim
 | cons o l ih=>
  intro s sim
  unfold qu
  split
  ·exact ih _ (sim.WB _)
  exact ih _ sim
def jj (o:Oper) (s:AS):AS:=match o.op,o.dst with
 | .assign _,some d=>match s.t d with
  | .ow i=>match s.h i with
   | .row _ _=>match cW i d with
    | true=>s
    | false=>kC i d s
   | .aL _ _=>match cW i d with
    | true=>s
    | false=>kC i d s
   | _=>s
  | _=>s
 | _,_=>s
def sV:List Oper->AS->AS
 | [],s=>s
 | o::r,s=>sV r (jj o s)
theorem cu.post {A:cV} {S:Nat->Prop} {a:Act} {w:World}:∀(l:List Oper) (rho:Nat->Value) (s:AS),(∀o∈l,ji o A.n)->cu A cN cN S rho s a w->∃rho',cu A cN cN S rho' (sV l s) a w:=by
 intro l
 induction l with
 | nil=>intro rho s _ sim;exact⟨rho,sim⟩
 | cons o l ih=>
  intro rho s hd sim
  have tz:∀o∈l,ji o A.n:=fun o' IX=>hd o' (by simp[IX])
  have:∃rho',cu A cN cN S rho' (jj o s) a w:=by
   unfold jj
   split
   ·rename_i d _ jz
    split
    ·split
     ·split
      ·exact⟨rho,sim⟩
      rename_i b8
      refine⟨_,sim.rename _ d (fun e=>?_) (Nat.lt_of_lt_of_le (hd o (by simp) d jz) sim.nb)⟩
      rw[bG.2 e] at b8
      cases b8
     ·split
      ·exact⟨rho,sim⟩
      rename_i b8
      refine⟨_,sim.rename _ d (fun e=>?_) (Nat.lt_of_lt_of_le (hd o (by simp) d jz) sim.nb)⟩
      rw[bG.2 e] at b8
      cases b8
     exact⟨rho,sim⟩
    exact⟨rho,sim⟩
   exact⟨rho,sim⟩
  obtain⟨rho',cc⟩:=this
  exact ih rho' _ tz cc
theorem pH {d:Nat} {c:AV}:∀{xs:List AV},c∈xs->pe d c=true->fK d xs=true:=by
 intro xs
 induction xs with
 | nil=>intro h;cases h
 | cons x xs ih=>
  intro h hm
  simp only[fK,Bool.or_eq_true]
  rcases List.mem_cons.1 h with e | e
  ·subst e;exact .inl hm
  exact .inr (ih e hm)
theorem bF.loc {S:Nat->Prop} {w:World} {P:Program} {L':Nat->Prop} {rho:Nat->Value} {h h':Nat->AB} {x:AV} {v:Value} (hx:bF S w P cN rho h x v) (hm:∀k,pe k x=true->h' k=h k/\L' k):bF S w P L' rho h' x v:=by
 induction hx with
 | p x v hx=>exact .p x v hx
 | nl=>exact .nl
 | ow k v hv=>obtain⟨h1,h2⟩:=hm k (by simp only[pe];exact bG.2 rfl);exact .ow k v fun ht=>⟨h2,(hv (by rw[<-h1];exact ht)).2⟩
 | rp k a b v hv=>obtain⟨h1,h2⟩:=hm k (by simp only[pe];exact bG.2 rfl);exact .rp k a b v fun e he=>⟨h2,(hv e (by rw[<-h1];exact he)).2⟩
 | bx k a v hv=>obtain⟨h1,h2⟩:=hm k (by simp only[pe];exact bG.2 rfl);exact .bx k a v fun ht=>⟨h2,(hv (by rw[<-h1];exact ht)).2⟩
 | vw k a b v hv=>obtain⟨h1,h2⟩:=hm k (by simp only[pe];exact bG.2 rfl);exact .vw k a b v fun e he=>⟨h2,(hv e (by rw[<-h1];exact he)).2⟩
 | fn f cap vs hl hc ih=>exact .fn f cap vs hl fun j c u hj hu=>ih j c u hj hu fun k hk=>hm k (pH (List.mem_of_getElem? hj) hk)
 | tu xs vs hl hc ih=>exact .tu xs vs hl fun j c u hj hu=>ih j c u hj hu fun k hk=>hm k (pH (List.mem_of_getElem? hj) hk)
 | st xs vs hl h0 hc ih=>exact .st xs vs hl h0 fun j c u hj hu=>ih j c u hj hu fun k hk=>hm k (pH (List.mem_of_getElem? hj) hk)
 | junk v=>exact .junk v
theorem Mg {A:cV} (hC:bV A.C) {id:Nat} {ops:Array Oper} {K:Exit->AS->Prop} {s:AS} (hok:jU A.C ops=true) (hd:∀o∈ops.toList,ji o A.n)
  (h:∃X,dx A.C (ops.toList.any fun o=>iF A.C o.op) X ops.toList (gX A.C (ops.toList.any fun o=>iF A.C o.op) ops) ops.toList (fun s'=>K .normal (sV ops.toList s')) (qu ops.toList s)):W A (.region id ops true) K s:=by
 intro S rho a w sim
 have nB:=(sim.grow hC w.drew ⟨rfl,rfl,rfl,Nat.le_refl _,fun _ _ _=>rfl⟩).pre ops.toList s
 obtain⟨X,h⟩:=h
 obtain⟨st,r,h1,h2,h3⟩:=Hb ops.toList _ _ h
 have hsz:ops.toList.length=ops.size:=by simp
 rw[hsz] at h2
 have H:∀(i:Nat) o,ops[i]?=some o->DStep A.C (ops.toList.any fun o=>iF A.C o.op) ops.toList o (st i) (r i) (st (i+1)):=fun i o ho=>(h3 i o (by simpa using ho)).1
 have G:∀(i:Nat) o,ops[i]?=some o->uA A.C (ops.toList.any fun o=>iF A.C o.op) X (gX A.C (ops.toList.any fun o=>iF A.C o.op) ops) o (st i) (r i) i:=fun i o ho=>(h3 i o (by simpa using ho)).2
 have nr:∀k d b,Fi ops r k d b->sU d (st 0):=fun k d b ⟨o,ho,jz,hb⟩=>by
  have IY:=(H k o ho).ndst
  rw[hb,jz] at IY
  rw[h1]
  have:=(CJ ops.toList s).2 o (List.mem_of_getElem? (by simpa using ho)) IY
  rw[jz] at this
  exact this
 have Ht:∀d,gS ops r 0 d->sU d (st 0):=fun d ⟨k,b,_,hc⟩=>nr k d b hc
 have Rh:∀d,Decidable (∃b k,Fi ops r k d b):=fun d=>Classical.propDecidable _
 obtain⟨B,hB⟩:∃B:Nat->AB,B=fun d=>@dite _ (∃b k,Fi ops r k d b) (Rh d) (fun h=>Classical.choose h) (fun _=>(st 0).h d):=⟨_,rfl⟩
 obtain⟨_,_,hp⟩:=jI hok
 have Fj:∀k d b,Fi ops r k d b->B d=b:=by
  intro k d b hc
  have hex:∃b k,Fi ops r k d b:=⟨b,k,hc⟩
  rw[hB]
  simp only
  rw[dif_pos hex]
  obtain⟨k',hc'⟩:=Classical.choose_spec hex
  generalize Classical.choose hex=b' at hc'
  obtain⟨o,e1,e2,e3⟩:=hc
  obtain⟨o',f1,f2,f3⟩:=hc'
  have:k=k':=by
   rcases Nat.lt_trichotomy k k' with h | h | h
   ·exact absurd f2 ((hp k k' o o' h e1 f1).dst d e2)
   ·exact h
   exact absurd e2 ((hp k' k o' o h f1 e1).dst d f2)
  subst this
  rw[e3] at f3
  injection f3 with f3
  exact f3.symm
 have xl:∀d,¬gS ops r 0 d->B d=(st 0).h d:=by
  intro d hn
  rw[hB]
  simp only
  rw[dif_neg fun ⟨b,k,hc⟩=>hn ⟨k,b,Nat.zero_le _,hc⟩]
 have hle:∀d,¬gS ops r 0 d->LE ops r (fun _=>false) d:=fun d hn k b hc=>absurd ⟨k,b,Nat.zero_le _,hc⟩ hn
 have JD:∀d,LE ops r (fun _=>false) d->¬gS ops r 0 d:=fun d hl ⟨k,b,_,hc⟩=>by cases hl k b hc
 rw[<-h1] at nB
 have Ri:cu A cN (LE ops r fun _=>false) S rho ⟨TE ops st (fun _=>false),B⟩ a w.drew:=
  {tm:=fun j _=>by
    have ht:TE ops st (fun _=>false) j=(st 0).t j:=by
     unfold TE
     split
     ·rename_i hv
      exact yj H (fun k o hk e=>by cases hv k o hk e) ops.size (Nat.le_refl _)
     rfl
    show bF _ _ _ _ _ _ (TE ops st (fun _=>false) j) _
    rw[ht]
    refine (nB.tm j trivial).loc fun k hk=>?_
    have hn:¬gS ops r 0 k:=fun xm=>by rw[(Ht k xm).2.1 j] at hk;cases hk
    exact⟨xl k hn,hle k hn⟩
   sz:=nB.sz,df:=nB.df,nb:=nB.nb,pn:=nB.pn,ev:=nB.ev,s0:=nB.s0,st:=nB.st,sb:=nB.sb
   hp:=fun k hk=>by
    have hn:=JD k hk
    show eC _ _ _ _ _ _ _ (B k)
    rw[xl k hn]
    have hh:=nB.hp k trivial
    cases hb:(st 0).h k with
    | none=>trivial
    | row e es=>rw[hb] at hh;exact hh
    | iv es=>rw[hb] at hh;exact hh
    | iP es=>rw[hb] at hh;exact hh
    | map mk es=>rw[hb] at hh;exact hh
    | box cs=>
     rw[hb] at hh
     obtain⟨g,ty,c,k1,k2,k3,k4⟩:=hh
     refine⟨g,ty,c,k1,k2,k3,fun j x u hj hu=>⟨(k4 j x u hj hu).1,(k4 j x u hj hu).2.loc fun i hi=>?_⟩⟩
     have K3:¬gS ops r 0 i:=fun xm=>by rw[(Ht i xm).2.2 k x (by rw[hb];exact List.mem_of_getElem? hj)] at hi;cases hi
     exact⟨xl i K3,hle i K3⟩
    | fF ty cs=>
     rw[hb] at hh
     obtain⟨g,c,k1,k2,k3,k4⟩:=hh
     refine⟨g,c,k1,k2,k3,fun j x u hj hu=>⟨(k4 j x u hj hu).1,(k4 j x u hj hu).2.loc fun i hi=>?_⟩⟩
     have K3:¬gS ops r 0 i:=fun xm=>by rw[(Ht i xm).2.2 k x (by rw[hb];exact List.mem_of_getElem? hj)] at hi;cases hi
     exact⟨xl i K3,hle i K3⟩
    | bb cs=>rw[hb] at hh;exact hh
    | aL e es=>
     rw[hb] at hh
     obtain⟨⟨i0,xs,k1,k2,k3,k4,k5,k6⟩,hS⟩:=hh
     refine⟨⟨i0,xs,k1,k2,k3,k4,k5,fun a' r j x ha hj=>?_⟩,hS⟩
     obtain⟨u,hu,hr⟩:=k6 a' r j x ha hj
     refine⟨u,hu,?_⟩
     cases x with
     | row e' wk=>exact hr
     | av x=>
      refine bF.loc hr fun i hi=>?_
      have K3:¬gS ops _ 0 i:=fun xm=>by rw[(Ht i xm).2.2 k x (by rw[hb];exact List.mem_flatMap.2 ⟨r,List.mem_of_getElem? ha,HX.yp (List.mem_of_getElem? hj)⟩)] at hi;cases hi
      exact⟨xl i K3,hle i K3⟩
   dj:=fun i j g hi hj li lj eR iC=>by
    have lh:(B i).live:=li
    have NV:(B j).live:=lj
    have eR:hasB _ (B i) (rho i) g:=eR
    have iC:hasB _ (B j) (rho j) g:=iC
    rw[xl i (JD i hi)] at lh eR
    rw[xl j (JD j hj)] at NV iC
    exact nB.dj i j g trivial trivial lh NV eR iC
   lv:=fun i g hi li hg=>by
    have lh:(B i).live:=li
    have hg:hasB _ (B i) (rho i) g:=hg
    rw[xl i (JD i hi)] at lh hg
    exact nB.lv i g trivial lh hg
   fr:=nB.fr }
 refine wp_region_any hC.any ?_
 have S0:(fun i=>(Array.replicate ops.size false).getD i false)=fun _=>false:=by
  funext i
  exact getD_replicate_false _ _
 refine JC hC rfl hok hd H G Fj xl (fun d xm=>(Ht d xm).1) (fun S' rho' a' w' cc=>?_) ops.size (Array.replicate ops.size false) S rho a w.drew (by simp) ?_ ?_ ?_
 ·obtain⟨Mh,bI⟩:=cc.post ops.toList rho' (st ops.size) hd
  exact⟨S',Mh,_,bI,h2⟩
 ·rw[S0];intro j oj _ h;cases h
 ·have:((List.range ops.size).filter fun i=>!(Array.replicate ops.size false).getD i false).length<=(List.range ops.size).length:=List.length_filter_le _ _
  simpa using this
 rw[S0]
 have:∀m,Hn B r (fun _=>false) m=B:=by
  intro m
  induction m with
  | zero=>rfl
  | succ m ih=>exact ih
 rw[this]
 exact Ri
end Go.AM
namespace Go.AM
open Go.RowKit
def Hu (n:Nat) (o:Oper):Bool:=match o.dst with
 | some d=>Nat.blt d n
 | none=>true
def f_ (C:Ctx) (n:Nat):Code->Bool
 | .region _ ops draw=>ops.toList.all (Hu n) && (!draw || jU C ops)
 | .seq a b=>f_ C n a && f_ C n b
 | .cond _ a b=>f_ C n a && f_ C n b
 | .block _ c=>f_ C n c
 | .loop c=>f_ C n c
 | _=>true
def zg (f:AS->Prop) (K:Exit->AS->Prop):Exit->AS->Prop
 | .normal,s=>f s
 | e,s=>K e s
def nT (id:Nat) (K:Exit->AS->Prop):Exit->AS->Prop
 | .exit i,s=>fj (cW i id) (K .normal s) (K (.exit i) s)
 | e,s=>K e s
def iZ (A:cV):Code->(Exit->AS->Prop)->AS->Prop
 | .skip,K,s=>K .normal s
 | .region _ ops draw,K,s=>match draw with
  | false=>cX A.C ops.toList ops.toList (K .normal) s
  | true=>∃X,dx A.C (ops.toList.any fun o=>iF A.C o.op) X ops.toList (gX A.C (ops.toList.any fun o=>iF A.C o.op) ops) ops.toList (fun s'=>K .normal (sV ops.toList s')) (qu ops.toList s)
 | .seq a b,K,s=>iZ A a (zg (fun s'=>∃kU,aW A s' kU/\iZ A b K kU) K) s
 | .cond c a b,K,s=>match ev s.t c with
  | .p (.im (.bool t))=>fj t (iZ A a K s) (iZ A b K s)
  | _=>False
 | .block id c,K,s=>iZ A c (nT id K) s
 | .loop c,K,s=>∃(α:Type) (I:α->AS->Prop) (m:α->Nat),(∃x s',aW A s s'/\I x s')/\∀x s,I x s->iZ A c (zg (fun s'=>∃y kU,aW A s' kU/\I y kU/\m y < m x) K) s
 | .exit id,K,s=>K (.exit id) s
 | .ret,K,s=>K .ret s
 | _,_,_=>False
theorem D8 {n:Nat} {ops:Array Oper} (h:ops.toList.all (Hu n)=true):∀o∈ops.toList,ji o n:=by
 intro o ho d hd
 have:=List.all_eq_true.1 h o ho
 unfold Hu at this
 rw[hd] at this
 exact Nat.le_of_ble_eq_true this
theorem rS {A:cV} (hC:bV A.C):∀(c:Code) (K:Exit->AS->Prop) (s:AS),f_ A.C A.n c=true->iZ A c K s->W A c K s:=by
 intro c
 induction c with
 | skip=>intro K s _ h S rho a w sim;exact wp_skip ⟨S,rho,s,sim,h⟩
 | region id ops draw=>
  intro K s hok h
  simp only[f_,Bool.and_eq_true] at hok
  cases draw with
  | false=>exact G3 hC (D8 hok.1) h
  | true=>exact Mg hC (by simpa using hok.2) (D8 hok.1) h
 | seq a b Mi Mj=>
  intro K s hok h
  simp only[f_,Bool.and_eq_true] at hok
  refine NY ?_
  refine Co (Mi _ s hok.1 h) fun e s' hk=>?_
  cases e with
  | normal=>
   obtain⟨s2,hle,hk⟩:=hk
   exact fun S rho a w sim=>by
    obtain⟨S',rho',cc⟩:=hle S rho a w sim
    exact Mj K s2 hok.2 hk S' rho' a w cc
  | exit id=>exact hk
  | goto l=>exact hk
  | ret=>exact hk
  | panic c=>exact hk
  | outgrown=>exact hk
 | cond c a b Mi Mj=>
  intro K s hok h
  simp only[f_,Bool.and_eq_true] at hok
  simp only[iZ] at h
  split at h
  ·rename_i t ht
   refine L6 ht (fun e=>Mi K s hok.1 ?_) (fun e=>Mj K s hok.2 ?_)
   ·rw[e] at h;exact h
   rw[e] at h;exact h
  exact h.elim
 | block id c ih=>
  intro K s hok h
  exact Jv (Co (ih _ s hok h) fun e s' hk=>by cases e <;> exact hk)
 | loop c ih=>
  intro K s hok h
  obtain⟨α,I,m,h0,hr⟩:=h
  refine L7 I m h0 fun x s hi=>?_
  exact Co (ih _ s hok (hr x s hi)) fun e s' hk=>by cases e <;> exact hk
 | exit id=>intro K s _ h S rho a w sim;exact wp_exit ⟨S,rho,s,sim,h⟩
 | ret=>intro K s _ h S rho a w sim;exact wp_ret ⟨S,rho,s,sim,h⟩
 | rangeFunc=>intro K s _ h;exact h.elim
 | scope=>intro K s _ h;exact h.elim
 | label=>intro K s _ h;exact h.elim
 | goto=>intro K s _ h;exact h.elim
 | refuse=>intro K s _ h;exact h.elim
def mC {α:Type}:List (Nat×α)->(Nat->α)->Nat->α
 | [],t=>t
 | (i,v)::r,t=>br (mC r t) i v
def nC {α:Type}:List (Nat×α)->(Nat->α)->Prop
 | [],_=>True
 | (i,v)::r,t=>t i=v/\nC r t
theorem qv {α:Type}:∀(l:List (Nat×α)) (t:Nat->α),nC l t->mC l t=t:=by
 intro l
 induction l with
 | nil=>intro t _;rfl
 | cons p l ih=>
  intro t h
  obtain⟨i,v⟩:=p
  show br (mC l t) i v=t
  rw[ih t h.2]
  exact eU _ _ _ h.1
theorem JE {A:cV} {c:Code} {K:Exit->AS->Prop} {s:AS} {α:Type} (R:α->Prop) (ts:α->List (Nat×AV)) (hs:α->List (Nat×AB)) (m:α->Nat) (x0:α) (s0:AS) (h0:aW A s s0) (hR:R x0) (ht:nC (ts x0) s0.t) (hh:nC (hs x0) s0.h)
  (round:∀x,R x->∀t h,iZ A c (zg (fun s'=>∃y kU,aW A s' kU/\R y/\m y < m x/\nC (ts y) kU.t/\nC (hs y) kU.h) K) ⟨mC (ts x) t,mC (hs x) h⟩):iZ A (.loop c) K s:=by
 refine⟨α,fun x s=>R x/\nC (ts x) s.t/\nC (hs x) s.h,m,⟨x0,s0,h0,hR,ht,hh⟩,fun x s ⟨h1,h2,h3⟩=>?_⟩
 have:=round x h1 s.t s.h
 rw[qv _ _ h2,qv _ _ h3] at this
 have e:(zg (fun s'=>∃y kU,aW A s' kU/\R y/\m y < m x/\nC (ts y) kU.t/\nC (hs y) kU.h) K)=(zg (fun s'=>∃y kU,aW A s' kU/\(R y/\nC (ts y) kU.t/\nC (hs y) kU.h)/\m y < m x) K):=by
  funext e s'
  cases e <;> try rfl
  apply propext
  constructor
  ·rintro⟨y,kU,k1,k2,k3,k4,k5⟩;exact⟨y,kU,k1,⟨k2,k4,k5⟩,k3⟩
  rintro⟨y,kU,k1,⟨k2,k4,k5⟩,k3⟩;exact⟨y,kU,k1,k2,k3,k4,k5⟩
 rw[<-e]
 exact this
theorem JF {C : Ctx} (hC : bV C) {f : FuncId} {fn : Func} {c : Code} (hf : C.P.funcs[f]? = some fn) (hb : fn.body = some c) (nP : (fn.name == "runtime.NumGoroutine") = false) {args : List Arg} {r : AR} {fin : List Fin} (n : Nat) (hn : args.length + (fn.ntmps - args.length) = n) (w_ : n ≤ 100000) (hok : f_ C n c = true)
  (h:∀A:cV,A.C=C->iZ A c (ye C fn.results.toList args r fin) ⟨sT args,lF args⟩):aD C f args r fin:=
 Cu hC hf hb nP (by omega) fun A hA Oc=>rS (by rw[hA];exact hC) c _ _ (by rw[hA,Oc,hn];exact hok) (h A hA)
end Go.AM
namespace Go.AM
open Go.RowKit
def uE (l:List (Nat×TI)) (t:TypeId):Option TI:=match l with
 | []=>none
 | (i,ti)::r=>match Nat.beq i t with
  | true=>some ti
  | false=>uE r t
theorem rT {t:TypeId} {ti:TI}:∀{l:List (Nat×TI)},uE l t=some ti->(t,ti)∈l:=by
 intro l
 induction l with
 | nil=>intro h;cases h
 | cons p l ih=>
  intro h
  obtain⟨i,T9⟩:=p
  unfold uE at h
  split at h
  ·rename_i e
   have:=Nat.eq_of_beq_eq_true e
   subst this
   injection h with h
   subst h
   exact List.mem_cons_self ..
  exact List.mem_cons_of_mem _ (ih h)
def Hv:Value->Value->Bool
 | .int k n,.int k' n'=>kB k k' && decide (n=n')
 | .bool b,.bool b'=>b == b'
 | .string s,.string s'=>s.data.toList == s'.data.toList
 | .slice none a b,.slice none a' b'=>Nat.beq a a' && Nat.beq b b'
 | .pointer none,.pointer none=>true
 | .map none,.map none=>true
 | .nilFunc,.nilFunc=>true
 | .nilIface,.nilIface=>true
 | _,_=>false
theorem Hw {v u:Value} (h:Hv v u=true):v=u:=by
 unfold Hv at h
 split at h
 ·simp only[Bool.and_eq_true,decide_eq_true_eq] at h
  rw[DP h.1,h.2]
 ·rw[eq_of_beq h]
 ·have:=eq_of_beq h
  congr 1
  exact ByteArray.ext (Array.ext' this)
 ·simp only[Bool.and_eq_true] at h
  rw[Nat.eq_of_beq_eq_true h.1,Nat.eq_of_beq_eq_true h.2]
 ·rfl
 ·rfl
 ·rfl
 ·rfl
 cases h
def yt:List Value->List Value->Bool
 | [],[]=>true
 | v::r,u::s=>Hv v u && yt r s
 | _,_=>false
theorem Fk:∀{a b:List Value},yt a b=true->a=b:=by
 intro a
 induction a with
 | nil=>intro b h;cases b with | nil=>rfl | cons=>cases h
 | cons v r ih=>
  intro b h
  cases b with
  | nil=>cases h
  | cons u s=>
   simp only[yt,Bool.and_eq_true] at h
   rw[Hw h.1,ih h.2]
def Od:TypeDesc->Bool
 | .struct _ | .array _ _=>true
 | _=>false
def tN (P:Program):List (Nat×Nat×Bool)->List Field->Bool
 | [],[]=>true
 | f::r,g::s=>Nat.beq f.1 g.offset && !Nat.beq f.2.1 0 && (match P.info? g.type with
  | some i=>Nat.beq i.size f.2.1
  | none=>false) && (match P.underlying g.type with
  | some d=>Od d == f.2.2
  | none=>false) && tN P r s
 | _,_=>false
def S4 (P:Program) (t:TypeId) (ti:TI):Bool:=match ti.ud,P.underlying t with
 | .sc,some .bool=>true
 | .sc,some d=>!Od d && !ti.eq
 | .int k,some (.int k')=>kB k k'
 | .st fs,some (.struct gs)=>tN P fs gs.toList
 | .sl e,some (.slice e')=>Nat.beq e e'
 | .mp k e,some (.map k' e')=>Nat.beq k k' && Nat.beq e e'
 | .str,some .string=>true
 | _,_=>false
def PG (P:Program) (p:Nat×TI):Bool:=match P.info? p.1 with
 | some info=>Nat.beq info.size p.2.size && Nat.beq info.bytes p.2.bytes && (match info.zero with
  | some z=>yt z.cells.toList p.2.zero
  | none=>false) && Nat.beq p.2.zero.length p.2.size && p.2.zero.all Value.oneCell' && S4 P p.1 p.2
 | none=>false
theorem yu {P:Program}:∀{fs:List (Nat×Nat×Bool)} {gs:List Field},tN P fs gs=true->fs.length=gs.length/\∀(i:Nat) f g,fs[i]?=some f->gs[i]?=some g->f.1=g.offset/\f.2.1≠0/\(∃i2,P.info? g.type=some i2/\i2.size=f.2.1)/\
  (∃d,P.underlying g.type=some d/\f.2.2=(match d with | .struct _ | .array _ _=>true | _=>false)):=by
 intro fs
 induction fs with
 | nil=>intro gs h;cases gs with | nil=>exact⟨rfl,by simp⟩ | cons=>cases h
 | cons f r ih=>
  intro gs h
  cases gs with
  | nil=>cases h
  | cons g s=>
   simp only[tN,Bool.and_eq_true] at h
   obtain⟨⟨⟨⟨h1,h2⟩,h3⟩,h4⟩,h5⟩:=h
   obtain⟨h6,h7⟩:=ih h5
   refine⟨by simp[h6],fun i f' g' hf hg=>?_⟩
   cases i with
   | succ i=>exact h7 i f' g' (by simpa using hf) (by simpa using hg)
   | zero=>
    simp at hf hg
    subst hf hg
    refine⟨Nat.eq_of_beq_eq_true h1,(fun e=>by rw[e] at h2;cases h2),?_,?_⟩
    ·split at h3
     ·rename_i i hi;exact⟨i,hi,Nat.eq_of_beq_eq_true h3⟩
     cases h3
    split at h4
    ·rename_i d hd
     refine⟨d,hd,?_⟩
     rw[<-eq_of_beq h4]
     cases d <;> rfl
    cases h4
theorem Mk {P:Program} {t:TypeId} {ti:TI} (h:PG P (t,ti)=true):lA P t ti:=by
 unfold PG at h
 split at h
 ·rename_i info hi
  simp only[Bool.and_eq_true] at h
  obtain⟨⟨⟨⟨⟨h1,h2⟩,h3⟩,h4⟩,h5⟩,h6⟩:=h
  split at h3
  ·rename_i z hz
   refine⟨info,z,hi,Nat.eq_of_beq_eq_true h1,Nat.eq_of_beq_eq_true h2,hz,?_,Nat.eq_of_beq_eq_true h4,fun v hv=>List.all_eq_true.1 h5 v hv,?_⟩
   ·rw[<-Fk h3]
   simp only[S4] at h6
   split at h6
   ·rename_i h7 h8
    rw[h7]
    exact⟨⟨_,h8,trivial⟩,fun _=>h8⟩
   ·rename_i d b8 h7 h8
    rw[h7]
    simp only[Bool.and_eq_true] at h6
    refine⟨⟨d,h8,?_⟩,fun e=>?_⟩
    ·cases d <;> first | trivial | (cases h6.1;done)
    rw[e] at h6;cases h6.2
   ·rename_i h7 h8;rw[h7,h8,DP h6]
   ·rename_i fs gs h7 h8
    rw[h7]
    obtain⟨h9,NO⟩:=yu h6
    exact⟨gs,h8,by simpa using h9,fun i f g hf hg=>NO i f g hf (by simpa using hg)⟩
   ·rename_i h7 h8;rw[h7,h8,Nat.eq_of_beq_eq_true h6]
   ·rename_i h7 h8
    simp only[Bool.and_eq_true] at h6
    rw[h7,h8,Nat.eq_of_beq_eq_true h6.1,Nat.eq_of_beq_eq_true h6.2]
   ·rename_i h7 h8;rw[h7,h8]
   cases h6
  cases h3
 cases h
def Rj (P:Program) (p:Nat×TI):Bool:=match P.info? p.1 with
 | some info=>match info.zero with
  | some z=>Gk z == p.2.ud.agg
  | none=>false
 | none=>false
theorem Oe {P:Program} {l:List (Nat×TI)} (h:l.all (Rj P)=true):∀t ti,uE l t=some ti->B3 P t ti:=fun t ti ht=>by
 have:=List.all_eq_true.1 h _ (rT ht)
 unfold Rj at this
 split at this
 ·rename_i info hi
  split at this
  ·rename_i z hz
   exact⟨info,z,hi,hz,eq_of_beq this⟩
  cases this
 cases this
theorem Ml {P:Program} {l:List (Nat×TI)} (h:l.all (PG P)=true):∀t ti,uE l t=some ti->lA P t ti:=fun _ _ ht=>Mk (List.all_eq_true.1 h _ (rT ht))
def D9 (P:Program):Nat->List Field->Bool
 | _,[]=>true
 | i,g::r=>(match P.underlying g.type with
  | some (.int _)=>true
  | _ => false) && Nat.beq g.offset i && g.name != "_" && D9 P (i + 1) r
def Mm (P:Program) (p:Nat×TI):Bool:=match p.2.eq,p.2.ud with
 | true,.st _=>(match P.underlying p.1 with
  | some (.struct gs)=>D9 P 0 gs.toList && Nat.beq gs.size p.2.size
  | _=>false) && !P.stoodInHeld p.1 && !P.eqGuardType P.depth p.1
 | _,_=>true
theorem qw {P:Program} {w:World} {t:TypeId} {k:IntKind} (h:P.underlying t=some (.int k)) {xs:Array Value} {i:Nat} {v:Value} (hv:xs[i]?=some v):(part t xs i).run P w=.ok v w:=by
 have:(isAgg t).run P w=.ok false w:=by rw[Go.isAgg,Sem.run_bind,run_underlying h];rfl
 simp[part,this,hv]
theorem yw {x:PV} {a b:List PV} {r:Bool} (h:dF (x::a) b=some r):∃k m n s r',x=.im (.int k m)/\b=.im (.int k n)::s/\dF a s=some r'/\r=(decide (m=n) && r'):=by
 cases x with
 | im v=>
  cases v with
  | int k m=>
   cases b with
   | nil=>simp[dF] at h
   | cons y s=>
    cases y with
    | im u=>
     cases u with
     | int k' n=>
      simp only[dF] at h
      split at h
      ·rename_i hk
       have hk:=DP hk
       subst hk
       obtain⟨r',h1,h2⟩:=Option.map_eq_some_iff.1 h
       exact⟨k,m,n,s,r',rfl,rfl,h1,h2.symm⟩
      cases h
     | _=>simp[dF] at h
    | _=>simp[dF] at h
  | _=>simp[dF] at h
 | _=>simp[dF] at h
theorem wu {P:Program} {w:World} (d:Nat) (xs ys:Array Value):∀(gs:List Field) (i:Nat) (a b:List PV) (r:Bool),D9 P i gs=true->gs.length=a.length->(∀(j:Nat) x,a[j]?=some x->∃v,xs[i+j]?=some v/\x=.im v)->(∀(j:Nat) x,b[j]?=some x->∃v,ys[i+j]?=some v/\x=.im v)->dF a b=some r ->
  (Op.eqFields (d+1) xs ys gs).run P w=.ok r w:=by
 intro gs
 induction gs with
 | nil=>
  intro i a b r _ hl _ _ he
  have:a=[]:=List.eq_nil_of_length_eq_zero hl.symm
  subst this
  cases b with
  | nil=>simp[dF] at he;subst he;rfl
  | cons y b=>simp[dF] at he
 | cons g gs ih=>
  intro i a b r hi hl ha hb he
  cases a with
  | nil=>simp at hl
  | cons x a=>
   simp only[D9,Bool.and_eq_true] at hi
   obtain⟨⟨⟨h1,h2⟩,h3⟩,h4⟩:=hi
   have h2:=Nat.eq_of_beq_eq_true h2
   have hu:∃k,P.underlying g.type=some (.int k):=by
    split at h1
    ·rename_i k hk;exact⟨k,hk⟩
    cases h1
   obtain⟨k,hu⟩:=hu
   have nP : g.name ≠ "_" := by simpa using h3
   obtain⟨ka,m,n,s1,r',rfl,rfl,sL,rfl⟩:=yw he
   obtain⟨v,hv,Rk⟩:=ha 0 _ rfl
   obtain⟨u,oC,Rl⟩:=hb 0 _ rfl
   injection Rk with Rk
   injection Rl with Rl
   subst Rk Rl
   have p1:=qw (w:=w) hu (xs:=xs) (i:=g.offset) (by rw[h2];simpa using hv)
   have p2:=qw (w:=w) hu (xs:=ys) (i:=g.offset) (by rw[h2];simpa using oC)
   have p3:=run_equalIn_int (P:=P) w d g.type ka k m n hu
   have rest:=ih (i+1) a s1 r' h4 (by simpa using hl) (fun j x hx=>by obtain⟨v,q1,q2⟩:=ha (j+1) x (by simpa using hx);exact⟨v,by rw[<-q1];congr 1;omega,q2⟩) (fun j x hx=>by obtain⟨v,q1,q2⟩:=hb (j+1) x (by simpa using hx);exact⟨v,by rw[<-q1];congr 1;omega,q2⟩) sL
   simp only[Op.eqFields,if_pos nP,Sem.run_bind,p1,p2,p3,Result.andThen_ok]
   by_cases Rm:m=n
   ·subst Rm
    simp only[beq_self_eq_true,Bool.not_true,Bool.false_eq_true,if_false,decide_true,Bool.true_and]
    exact rest
   have:(m == n)=false:=by simpa using Rm
   simp[this,Rm]
theorem Mn {P:Program} {l:List (Nat×TI)} (h:l.all (Mm P)=true):∀t ti op a b r,uE l t=some ti->ti.eq=true->(∃fs,ti.ud=.st fs)->dF a b=some r->∀(xs ys:Array Value) w,(∀(i:Nat) x v,a[i]?=some x->xs[i]?=some v->x=.im v)->(∀(i:Nat) x v,b[i]?=some x->ys[i]?=some v->x=.im v)->
  a.length=xs.size->b.length=ys.size->ti.size=a.length->(op=.eql\/op=.neq)->∀(x y:Operand),(do eqGuard op t x y (.agg xs) (.agg ys);binOp op t (.agg xs) (.agg ys):Sem Value).run P w=.ok (.bool (if op=.eql then r else !r)) w:=by
 intro t ti op a b r ht he ⟨fs,QD⟩ hcells xs ys w ha hb Uv Uw hsz aU x y
 have:=List.all_eq_true.1 h _ (rT ht)
 unfold Mm at this
 simp only[he,QD,Bool.and_eq_true] at this
 obtain⟨⟨h1,h2⟩,h3⟩:=this
 have h2:P.stoodInHeld t=false:=by simpa using h2
 have h3:P.eqGuardType P.depth t=false:=by simpa using h3
 split at h1
 ·rename_i gs Gs
  simp only[Bool.and_eq_true] at h1
  obtain⟨h4,h5⟩:=h1
  have h5:=Nat.eq_of_beq_eq_true h5
  have hf:P.fieldsOf t=gs:=by simp[Program.fieldsOf,Gs]
  have hex:∀(l:List PV) (zs:Array Value),l.length=zs.size->(∀(i:Nat) x v,l[i]?=some x->zs[i]?=some v->x=.im v)->∀(j:Nat) x,l[j]?=some x->∃v,zs[0+j]?=some v/\x=.im v:=by
   intro l zs hl hz j x hx
   obtain⟨v,hv⟩:=jg hl (aP hx)
   exact⟨v,by rw[Nat.zero_add];exact hv,hz j x v hx hv⟩
  have key:=wu (P:=P) (w:=w) 9998 xs ys gs.toList 0 a b r h4 (by simp;omega) (hex a xs Uv ha) (hex b ys Uw hb) hcells
  have heq:(Op.equal t (.agg xs) (.agg ys)).run P w=.ok r w:=by
   show (Op.equalIn (9999+1) t (.agg xs) (.agg ys)).run P w=_
   rw[run_equalIn_struct w 9999 t xs ys (by rw[hf];exact Gs) h2,hf]
   exact key
  have Mo:(eqGuard op t x y (.agg xs) (.agg ys)).run P w=.ok () w:=by
   rcases aU with rfl | rfl <;> simp[eqGuard,h3]
  rw[Sem.run_bind,Mo,Result.andThen_ok]
  rcases aU with rfl | rfl
  ·simp[binOp,heq]
  simp[binOp,heq]
 cases h1
end Go.AM
namespace Go.AM
open Go.RowKit
theorem aW.fa {A:cV} (hC:bV A.C) (s:AS) (d:Nat) (e:TypeId) (ti:TI) (hd:d < 100000) (hn:s.t d=.nl) (hT:A.C.T e=some ti) (hpos:0 < ti.size):
  aW A s ⟨br (WB d s).t d (.ow d),br (WB d s).h d (.row e [])⟩:=by
 intro S rho a w sim
 have hv:a.tmps.getD d undef=.slice none 0 0:=by
  have:=sim.tm d trivial
  rw[hn] at this
  generalize a.tmps.getD d undef=v at this
  cases this;rfl
 have nO:=sim.free d (.row e [])
 obtain⟨info,z,h1,h2,h3,h4,h5,h6,h7,h8⟩:=hC.gE e ti hT
 have bI:=nO.new hC d (.row e []) hd (fun h=>h rfl) (aO _ _ _) w rfl rfl rfl (Nat.le_refl _) (fun _=>False) (fun _ _ _=>rfl) (fun _ h=>h.elim) (.slice none 0 0) (fun g hg=>by cases hg) fun T=>by
  show aR _ _ _ _ _ (br rho d _ d)
  rw[aO]
  exact⟨info,[],h1,by omega,⟨by simp,.inl ⟨rfl,rfl⟩⟩,by simp,by simp,by simp⟩
 have eE:cu A cN cN S (br rho d (.slice none 0 0)) ⟨(WB d s).t,br (WB d s).h d (.row e [])⟩ a w:=bI.nA (fun _ _=>trivial) (fun k=>⟨fun _=>by by_cases e:k=d;exact .inr e;exact .inl e,fun _=>trivial⟩)
 refine⟨S,_,{ eE with tm:=fun j _=>?_ }⟩
 by_cases ej:j=d
 ·subst ej
  show bF _ _ _ _ _ _ (br _ _ _ _) _
  rw[aO]
  exact .ow j _ fun _=>⟨trivial,by rw[aO];exact hv⟩
 show bF _ _ _ _ _ _ (br _ _ _ _) _
 rw[bw _ _ ej]
 exact eE.tm j trivial
theorem aW.gC {A:cV} (hC:bV A.C) (s:AS) (d:Nat) {y:PV} {fz:List (Nat×AB)} (h:AM.gC s.h (s.t d) fun y' W0=>y'=y/\W0=fz):aW A s ⟨br s.t d (.p y),app s.h fz⟩:=by
 intro S rho a w sim
 obtain⟨y',W0,S',⟨rfl,rfl⟩,cc,hp,hS,hF,_⟩:=gm hC sim (h:=s.h) (fun _=>.inl rfl) (sim.tm d trivial) h
 refine⟨S',rho,{ cc with tm:=fun j _=>?_ }⟩
 by_cases ej:j=d
 ·subst ej
  show bF _ _ _ _ _ _ (br _ _ _ _) _
  rw[aO]
  exact .p _ _ hp
 show bF _ _ _ _ _ _ (br _ _ _ _) _
 rw[bw _ _ ej]
 exact cc.tm j trivial
theorem aW.nil {A:cV} (hC:bV A.C) (s:AS) (d:Nat) (h:s.t d=.nl):aW A s ⟨br s.t d (.p (.sl [])),s.h⟩:=aW.gC hC s d (y:=.sl []) (fz:=[]) (by rw[h];exact⟨rfl,rfl⟩)
theorem aW.own {A:cV} (hC:bV A.C) (s:AS) (d:Nat) {id:Nat} {e:TypeId} {es:List (List PV)} (h:s.t d=.ow id) (h2:s.h id=.row e es):aW A s ⟨br s.t d (.p (.sl es)),br s.h id (.iv es)⟩:=aW.gC hC s d (y:=.sl es) (fz:=[(id,.iv es)]) (by rw[h];simp only[AM.gC,AM.jN];rw[h2];exact⟨rfl,rfl⟩)
theorem aW.E9 {A:cV} (s:AS) (i d:Nat) (hid:i≠d) (hd:d < 100000):aW A s (kC i d s):=fun S _ _ _ sim=>⟨S,_,sim.rename i d hid hd⟩
theorem aW.gY {A:cV} (hC:bV A.C) (s:AS) (id j d:Nat) (e:TypeId) (ti:TI) (cs:List AV) (hd:d < 100000) (hid:id≠d) (hb:s.h id=.box cs) (hn:cs[j]?=some .nl) (hT:A.C.T e=some ti) (hpos:0 < ti.size):
  aW A s ⟨(WB d s).t,br (br (WB d s).h d (.row e [])) id (.box ((cs.map (sc d)).set j (.ow d)))⟩:=by
 intro S rho a w sim
 have nO:=sim.free d (.row e [])
 obtain⟨info,z,h1,h2,h3,h4,h5,h6,h7,h8⟩:=hC.gE e ti hT
 have bI:=nO.new hC d (.row e []) hd (fun h=>h rfl) (aO _ _ _) w rfl rfl rfl (Nat.le_refl _) (fun _=>False) (fun _ _ _=>rfl) (fun _ h=>h.elim) (.slice none 0 0) (fun g hg=>by cases hg) fun T=>by
  show aR _ _ _ _ _ (br rho d _ d)
  rw[aO]
  exact⟨info,[],h1,by omega,⟨by simp,.inl ⟨rfl,rfl⟩⟩,by simp,by simp,by simp⟩
 have eE:cu A cN cN S (br rho d (.slice none 0 0)) ⟨(WB d s).t,br (WB d s).h d (.row e [])⟩ a w:=bI.nA (fun _ _=>trivial) (fun k=>⟨fun _=>by by_cases e:k=d;exact .inr e;exact .inl e,fun _=>trivial⟩)
 have bb:(br (WB d s).h d (.row e [])) id=.box (cs.map (sc d)):=by
  rw[bw _ _ hid]
  show br (fun k=>rH d (s.h k)) d .none id=_
  rw[bw _ _ hid,hb]
  rfl
 refine⟨S,_,eE.write hC id trivial (by show ((br (WB d s).h d (.row e [])) id).live;rw[bb];trivial) _ (fun _ h=>by cases h) w rfl rfl rfl rfl (fun _ _=>rfl) fun T=>?_⟩
 have hh:=eE.hp id trivial
 have hh:eC S w A.C.P cN (br rho d (.slice none 0 0)) (br (WB d s).h d (.row e [])) id ((br (WB d s).h d (.row e [])) id):=hh
 rw[bb] at hh
 obtain⟨g,ty,c,k1,k2,k3,k4⟩:=hh
 refine⟨g,ty,c,k1,k2,by rw[k3,List.length_set],fun i x u hi hu=>?_⟩
 by_cases ei:i=j
 ·subst ei
  have hj:(cs.map (sc d))[i]?=some .nl:=by rw[List.getElem?_map,hn];rfl
  rw[List.getElem?_set_self (aP hj)] at hi
  injection hi with hi
  subst hi
  obtain⟨k5,k6⟩:=k4 i _ u hj hu
  refine⟨k5,.ow d u fun _=>⟨trivial,?_⟩⟩
  rw[aO]
  cases k6;rfl
 rw[List.getElem?_set_ne (fun e=>ei e.symm)] at hi
 obtain⟨k5,k6⟩:=k4 i x u hi hu
 exact⟨k5,k6.lz T⟩
theorem aW.Hx {A:cV} (hC:bV A.C) (s:AS) (id j d:Nat) (e ty:TypeId) (ti:TI) (cs:List AV) (hd:d < 100000) (hid:id≠d) (hb:s.h id=.fF ty cs) (hn:cs[j]?=some .nl) (hT:A.C.T e=some ti) (hpos:0 < ti.size):
  aW A s ⟨(WB d s).t,br (br (WB d s).h d (.row e [])) id (.fF ty ((cs.map (sc d)).set j (.ow d)))⟩:=by
 intro S rho a w sim
 have nO:=sim.free d (.row e [])
 obtain⟨info,z,h1,h2,h3,h4,h5,h6,h7,h8⟩:=hC.gE e ti hT
 have bI:=nO.new hC d (.row e []) hd (fun h=>h rfl) (aO _ _ _) w rfl rfl rfl (Nat.le_refl _) (fun _=>False) (fun _ _ _=>rfl) (fun _ h=>h.elim) (.slice none 0 0) (fun g hg=>by cases hg) fun T=>by
  show aR _ _ _ _ _ (br rho d _ d)
  rw[aO]
  exact⟨info,[],h1,by omega,⟨by simp,.inl ⟨rfl,rfl⟩⟩,by simp,by simp,by simp⟩
 have eE:cu A cN cN S (br rho d (.slice none 0 0)) ⟨(WB d s).t,br (WB d s).h d (.row e [])⟩ a w:=bI.nA (fun _ _=>trivial) (fun k=>⟨fun _=>by by_cases e:k=d;exact .inr e;exact .inl e,fun _=>trivial⟩)
 have bb:(br (WB d s).h d (.row e [])) id=.fF ty (cs.map (sc d)):=by
  rw[bw _ _ hid]
  show br (fun k=>rH d (s.h k)) d .none id=_
  rw[bw _ _ hid,hb]
  rfl
 refine⟨S,_,eE.write hC id trivial (by show ((br (WB d s).h d (.row e [])) id).live;rw[bb];trivial) _ (fun _ h=>by cases h) w rfl rfl rfl rfl (fun _ _=>rfl) fun T=>?_⟩
 have hh:=eE.hp id trivial
 have hh:eC S w A.C.P cN (br rho d (.slice none 0 0)) (br (WB d s).h d (.row e [])) id ((br (WB d s).h d (.row e [])) id):=hh
 rw[bb] at hh
 obtain⟨g,c,k1,k2,k3,k4⟩:=hh
 refine⟨g,c,k1,k2,by rw[k3,List.length_set],fun i x u hi hu=>?_⟩
 by_cases ei:i=j
 ·subst ei
  have hj:(cs.map (sc d))[i]?=some .nl:=by rw[List.getElem?_map,hn];rfl
  rw[List.getElem?_set_self (aP hj)] at hi
  injection hi with hi
  subst hi
  obtain⟨k5,k6⟩:=k4 i _ u hj hu
  refine⟨k5,.ow d u fun _=>⟨trivial,?_⟩⟩
  rw[aO]
  cases k6;rfl
 rw[List.getElem?_set_ne (fun e=>ei e.symm)] at hi
 obtain⟨k5,k6⟩:=k4 i x u hi hu
 exact⟨k5,k6.lz T⟩
theorem aW.gZ {A:cV} (hC:bV A.C) (s:AS) (id j i:Nat) (e:TypeId) (es:List (List PV)) (cs:List AV) (hid:id≠i) (hb:s.h id=.box cs) (hn:cs[j]?=some (.ow i)) (hr:s.h i=.row e es):
  aW A s ⟨s.t,br (br s.h i (.iv es)) id (.box (cs.set j (.p (.sl es))))⟩:=by
 intro S rho a w sim
 have nO:=sim.wW hC i trivial hr
 have bb:(br s.h i (.iv es)) id=.box cs:=by rw[bw _ _ hid];exact hb
 refine⟨_,_,nO.write hC id trivial (by show ((br s.h i (.iv es)) id).live;rw[bb];trivial) _ (fun _ h=>by cases h) w rfl rfl rfl rfl (fun _ _=>rfl) fun T=>?_⟩
 have hh:=nO.hp id trivial
 have hh:eC _ w A.C.P cN rho (br s.h i (.iv es)) id ((br s.h i (.iv es)) id):=hh
 rw[bb] at hh
 have hf:=nO.hp i trivial
 have hf:eC _ w A.C.P cN rho (br s.h i (.iv es)) i ((br s.h i (.iv es)) i):=hf
 rw[aO] at hf
 obtain⟨g,ty,c,k1,k2,k3,k4⟩:=hh
 refine⟨g,ty,c,k1,k2,by rw[k3,List.length_set],fun q x u hi hu=>?_⟩
 by_cases ei:q=j
 ·subst ei
  rw[List.getElem?_set_self (aP hn)] at hi
  injection hi with hi
  subst hi
  obtain⟨k5,k6⟩:=k4 q _ u hn hu
  refine⟨k5,.p _ _ ?_⟩
  rw[(k6.de (by rw[aO];trivial)).2]
  exact hf
 rw[List.getElem?_set_ne (fun e=>ei e.symm)] at hi
 obtain⟨k5,k6⟩:=k4 q x u hi hu
 exact⟨k5,k6.lz T⟩
end Go.AM
namespace Go.AM
open Go.RowKit
def nh:List Nat->List (Nat×AB)
 | []=>[]
 | n::r=>(n,.none)::nh r
theorem xq {h:Nat->AB}:∀{l:List Nat} (k:Nat),app h (nh l) k=if k∈l then .none else h k
 | [],k=>by simp[nh,app]
 | n::l,k=>by
  show app (br h n .none) (nh l) k=_
  rw[xq (l:=l) k]
  by_cases h1:k∈l
  ·simp[h1]
  by_cases h2:k=n
  ·subst h2;simp[h1,aO]
  simp[h1,h2,bw]
theorem aW.pack {A:cV} (hC:bV A.C) (s:AS) (id:Nat) {bs:List AV} {cs:List HC} (hb:s.h id=.box bs) (hg:dJ (bM bs)=true) (hp:sS s.h bs cs):aW A s ⟨s.t,br (app s.h (nh (bM bs))) id (.bb cs)⟩:=by
 intro S rho a w sim
 obtain⟨g,ty,c,k1,k2,k3⟩:=ux sim (id:=id) trivial hb hg hp
 have bZ:(s.h id).live:=by rw[hb];trivial
 have at':∀j,(j=id/\br (app s.h (nh (bM bs))) id (.bb cs) j=.bb cs)\/(j≠id/\j∈bM bs/\br (app s.h (nh (bM bs))) id (.bb cs) j=.none)\/(j≠id/\¬j∈bM bs/\br (app s.h (nh (bM bs))) id (.bb cs) j=s.h j):=fun j=>by
  by_cases e:j=id
  ·subst e;exact .inl ⟨rfl,aO _ _ _⟩
  rw[bw _ _ e,xq]
  by_cases h:j∈bM bs
  ·exact .inr (.inl ⟨e,h,if_pos h⟩)
  exact .inr (.inr ⟨e,h,if_neg h⟩)
 have T:jx S S w w cN cN rho rho s.h (br (app s.h (nh (bM bs))) id (.bb cs)):=⟨fun _ h=>h,fun _ _=>rfl,fun j hj=>⟨by
   rcases at' j with⟨rfl,_⟩ | ⟨_,_,h⟩ | ⟨_,_,h⟩
   ·rw[hb];trivial
   ·rw[h] at hj;exact hj.elim
   ·rw[h] at hj;exact hj,fun _=>⟨trivial,rfl⟩⟩,fun j e hj=>by
   rcases at' j with⟨_,h⟩ | ⟨_,_,h⟩ | ⟨_,_,h⟩
   ·rw[h] at hj;cases hj
   ·rw[h] at hj;cases hj
   rw[h] at hj;exact hj⟩
 have owner:∀j g,(br (app s.h (nh (bM bs))) id (.bb cs) j).live->hasB w (br (app s.h (nh (bM bs))) id (.bb cs) j) (rho j) g->∃k,(s.h k).live/\hasB w (s.h k) (rho k) g/\((j=id/\(k=id\/k∈bM bs))\/(j=k/\j≠id/\¬j∈bM bs)):=fun j g hl ho=>by
  rcases at' j with⟨rfl,h⟩ | ⟨_,_,h⟩ | ⟨h1,h2,h⟩
  ·rw[h] at ho
   rcases k3 g ho with h | ⟨n,h1,_,h3,h4⟩
   ·exact⟨j,bZ,.inl h,.inl ⟨rfl,.inl rfl⟩⟩
   exact⟨n,h3,.inl h4,.inl ⟨rfl,.inr h1⟩⟩
  ·rw[h] at hl;exact hl.elim
  rw[h] at hl ho
  exact⟨j,hl,ho,.inr ⟨rfl,h1,h2⟩⟩
 exact⟨S,rho,
 {tm:=fun j hj=>(sim.tm j hj).lz T
  sz:=sim.sz,df:=sim.df,nb:=sim.nb,pn:=sim.pn,ev:=sim.ev,s0:=sim.s0,st:=sim.st,sb:=sim.sb
  hp:=fun j _=>by
   show eC _ _ _ _ _ _ _ (br (app s.h (nh (bM bs))) id (.bb cs) j)
   rcases at' j with⟨rfl,h⟩ | ⟨_,_,h⟩ | ⟨_,_,h⟩
   ·rw[h];exact⟨g,ty,c,k1,k2⟩
   ·rw[h];trivial
   rw[h];exact (sim.hp j trivial).lz T (fun _ _ _=>rfl) (fun _=>rfl)
  dj:=fun i j g _ _ li lj hi hj=>by
   obtain⟨k,l1,o1,c1⟩:=owner i g li hi
   obtain⟨m,l2,o2,c2⟩:=owner j g lj hj
   have:=sim.dj k m g trivial trivial l1 l2 o1 o2
   subst this
   rcases c1 with⟨rfl,c1⟩ | ⟨rfl,c1,c3⟩ <;> rcases c2 with⟨rfl,c2⟩ | ⟨rfl,c2,c4⟩
   ·rfl
   ·rcases c1 with c1 | c1
    ·exact (c2 c1).elim
    exact (c4 c1).elim
   ·rcases c2 with c2 | c2
    ·exact (c1 c2).elim
    exact (c3 c2).elim
   rfl
  lv:=fun i g _ li hi=>by
   obtain⟨k,l1,o1,_⟩:=owner i g li hi
   exact sim.lv k g trivial l1 o1
  fr:=sim.fr }⟩
def oJ:List HC->List Nat->List AV
 | [],_=>[]
 | .p x::r,ns=>.p x::oJ r ns
 | .row _ _::r,n::ns=>.ow n::oJ r ns
 | .row _ _::r,[]=>.junk::oJ r []
def wv:List HC->List Nat->List (Nat×AB)
 | [],_=>[]
 | .p _::r,ns=>wv r ns
 | .row e es::r,n::ns=>(n,.row e es)::wv r ns
 | .row _ _::_,[]=>[]
def rowsOf:List HC->Nat
 | []=>0
 | .p _::r=>rowsOf r
 | .row _ _::r=>rowsOf r+1
def iT:List (Nat×AB)->AS->AS
 | [],s=>s
 | (d,b)::r,s=>iT r ⟨(WB d s).t,br (WB d s).h d b⟩
theorem rU:∀{cs:List HC} {ns:List Nat},rowsOf cs=ns.length->(wv cs ns).map (·.1)=ns
 | [],ns,h=>by cases ns with | nil=>rfl | cons n ns=>simp[rowsOf] at h
 | .p x::cs,ns,h=>by show (wv cs ns).map _=_;exact rU h
 | .row e es::cs,[],h=>by simp[rowsOf] at h
 | .row e es::cs,n::ns,h=>by
  simp only[rowsOf,List.length_cons,Nat.add_right_cancel_iff] at h
  simp[wv,rU h]
theorem D_:∀{cs:List HC} {ns:List Nat} {n:Nat} {b:AB},(n,b)∈wv cs ns->∃(j:Nat) (e:TypeId) (es:List (List PV)),cs[j]?=some (.row e es)/\b=.row e es/\(oJ cs ns)[j]?=some (.ow n)
 | [],ns,n,b,h=>by cases h
 | .p x::cs,ns,n,b,h=>by
  obtain⟨j,e,es,h1,h2,h3⟩:=D_ (cs:=cs) (ns:=ns) h
  exact⟨j+1,e,es,h1,h2,h3⟩
 | .row e es::cs,[],n,b,h=>by cases h
 | .row e es::cs,m::ns,n,b,h=>by
  rcases List.mem_cons.1 h with h | h
  ·injection h with h1 h2
   subst h1 h2
   exact⟨0,e,es,rfl,rfl,rfl⟩
  obtain⟨j,e,es,h1,h2,h3⟩:=D_ (cs:=cs) (ns:=ns) h
  exact⟨j+1,e,es,h1,h2,h3⟩
theorem yx:∀{cs:List HC} {ns:List Nat} {j:Nat} {x:AV},rowsOf cs=ns.length->(oJ cs ns)[j]?=some x->(∃z,cs[j]?=some (.p z)/\x=.p z)\/∃n e es,cs[j]?=some (.row e es)/\x=.ow n/\(n,.row e es)∈wv cs ns
 | [],ns,j,x,_,h=>by simp[oJ] at h
 | .p y::cs,ns,0,x,_,h=>by simp[oJ] at h;exact .inl ⟨y,rfl,h.symm⟩
 | .p y::cs,ns,j+1,x,hl,h=>by
  have:=yx (cs:=cs) (ns:=ns) (j:=j) hl (by simpa [oJ] using h)
  exact this
 | .row e es::cs,[],j,x,hl,_=>by simp[rowsOf] at hl
 | .row e es::cs,n::ns,0,x,_,h=>by simp[oJ] at h;exact .inr ⟨n,e,es,rfl,h.symm,by simp[wv]⟩
 | .row e es::cs,n::ns,j+1,x,hl,h=>by
  simp only[rowsOf,List.length_cons,Nat.add_right_cancel_iff] at hl
  rcases yx (cs:=cs) (ns:=ns) (j:=j) hl (by simpa [oJ] using h) with h | ⟨m,e',wk,h1,h2,h3⟩
  ·exact .inl h
  exact .inr ⟨m,e',wk,h1,h2,by simp[wv,h3]⟩
theorem tO:∀{cs:List HC} {ns:List Nat},(oJ cs ns).length=cs.length
 | [],_=>rfl
 | .p x::cs,ns=>by simp[oJ,tO (cs:=cs)]
 | .row e es::cs,[]=>by simp[oJ,tO (cs:=cs)]
 | .row e es::cs,n::ns=>by simp[oJ,tO (cs:=cs)]
theorem sW {A:cV} {S:Nat->Prop} {rho:Nat->Value} {a:Act} {w:World}:∀(l:List (Nat×AB)) (L:Nat->Prop) (s:AS),cu A cN L S rho s a w->cu A cN (fun k=>L k/\∀p∈l,p.1≠k) S rho (iT l s) a w
 | [],L,s,sim=>sim.nA (fun _ h=>h) (fun i=>⟨fun h=>h.1,fun h=>⟨h,by simp⟩⟩)
 | (d,b)::l,L,s,sim=>(sW l _ _ (sim.KL d b)).nA (fun _ h=>h) (fun i=>⟨fun ⟨h1,h2⟩=>⟨⟨h1,fun e=>h2 (d,b) (by simp) e.symm⟩,fun p hp=>h2 p (by simp[hp])⟩,fun ⟨⟨h1,h2⟩,h3⟩=>⟨h1,fun p hp=>by
   rcases List.mem_cons.1 hp with h | h
   ·subst h;exact fun e=>h2 e.symm
   exact h3 p h⟩⟩)
theorem nU:∀(l:List (Nat×AB)) (s:AS) (k:Nat),(∀p∈l,p.1≠k)->(∀d,rH d (s.h k)=s.h k)->(iT l s).h k=s.h k
 | [],s,k,_,_=>rfl
 | (d,b)::l,s,k,h,hs=>by
  have hk:k≠d:=fun e=>h (d,b) (by simp) e.symm
  have e1:br (WB d s).h d b k=s.h k:=by
   rw[bw _ _ hk]
   show br (fun k=>rH d (s.h k)) d .none k=_
   rw[bw _ _ hk]
   exact hs d
  show (iT l ⟨(WB d s).t,br (WB d s).h d b⟩).h k=_
  rw[nU l _ k (fun p hp=>h p (by simp[hp])) (fun d'=>by show rH d' (br (WB d s).h d b k)=br (WB d s).h d b k;rw[e1];exact hs d')]
  exact e1
theorem uF:∀(l:List (Nat×AB)) (s:AS) (k:Nat) (b:AB),(l.map (·.1)).Nodup->(∀d,rH d b=b)->(k,b)∈l->(iT l s).h k=b
 | [],s,k,b,_,_,h=>by cases h
 | (d,b')::l,s,k,b,hn,hb,h=>by
  simp only[List.map_cons,List.nodup_cons] at hn
  show (iT l ⟨(WB d s).t,br (WB d s).h d b'⟩).h k=_
  rcases List.mem_cons.1 h with h | h
  ·injection h with h1 h2
   subst h1 h2
   rw[nU l _ k (fun p hp e=>hn.1 (List.mem_map.2 ⟨p,hp,e⟩)) (fun d'=>by show rH d' (br (WB k s).h k b k)=br (WB k s).h k b k;rw[aO];exact hb d')]
   exact aO _ _ _
  exact uF l _ k b hn.2 hb h
theorem Xa:∀{l:List Nat},dJ l=true->l.Nodup
 | [],_=>by simp
 | n::l,h=>by
  simp[dJ] at h
  refine List.nodup_cons.2 ⟨fun hm=>?_,Xa h.2.2⟩
  rw[jS.2 hm] at h
  cases h.1
theorem aW.open {A:cV} (hC:bV A.C) (s:AS) (id:Nat) (ns:List Nat) {cs:List HC} (hb:s.h id=.bb cs) (hl:rowsOf cs=ns.length) (hg:dJ ns=true) (hid:Af id ns=false):
  aW A s ⟨(iT (wv cs ns) s).t,br (iT (wv cs ns) s).h id (.box (oJ cs ns))⟩:=by
 intro S rho a w nB
 have S6:=rU hl
 have IY:((wv cs ns).map (·.1)).Nodup:=by rw[S6];exact Xa hg
 have p6:∀n,n∈ns↔∃b,(n,b)∈wv cs ns:=fun n=>by rw[show (n∈ns)=(n∈(wv cs ns).map (·.1)) by rw[S6]];simp
 have As:¬id∈ns:=fun h=>by rw[jS.2 h] at hid;cases hid
 have sim:=sW (wv cs ns) cN s nB
 have sim:cu A cN (fun k=>¬k∈ns) S rho (iT (wv cs ns) s) a w:=sim.nA (fun _ h=>h) (fun i=>⟨fun h=>⟨trivial,fun p hp e=>h (by rw[p6,<-e];exact⟨p.2,hp⟩)⟩,fun ⟨_,h⟩ hm=>by obtain⟨b,hb'⟩:=(p6 i).1 hm;exact h _ hb' rfl⟩)
 obtain⟨s1,B9⟩:∃s1,s1=iT (wv cs ns) s:=⟨_,rfl⟩
 have uG:s1.h id=.bb cs:=by
  rw[B9,nU _ _ id (fun p hp e=>As (by rw[p6,<-e];exact⟨p.2,hp⟩)) (fun d=>by rw[hb];rfl),hb]
 have Og:∀n b,(n,b)∈wv cs ns->s1.h n=b:=fun n b hm=>by
  obtain⟨j,e,es,_,rfl,_⟩:=D_ hm
  rw[B9];exact uF _ _ n _ IY (fun d=>rfl) hm
 rw[<-B9] at sim ⊢
 have hh:=sim.hp id As
 rw[uG] at hh
 obtain⟨g,ty,c,k1,hB⟩:=hh
 have Fa:cU (rho id)=some g:=by rw[k1];rfl
 have bZ:(s1.h id).live:=by rw[uG];trivial
 have place:∀n,n∈ns->∃(j:Nat) (e:TypeId) (es:List (List PV)) (u:Value),cs[j]?=some (.row e es)/\(oJ cs ns)[j]?=some (.ow n)/\c[j]?=some u/\s1.h n=.row e es/\(n,AB.row e es)∈wv cs ns:=fun n hm=>by
  obtain⟨b,hb'⟩:=(p6 n).1 hm
  obtain⟨j,e,es,h1,rfl,h3⟩:=D_ hb'
  obtain⟨u,hu⟩:=jg hB.sz.symm (aP h1)
  exact⟨j,e,es,u,h1,h3,hu,Og n _ hb',hb'⟩
 obtain⟨F,hF⟩:∃F:Nat->Value,∀n,n∈ns->∃(j:Nat) (e:TypeId) (es:List (List PV)),cs[j]?=some (.row e es)/\(oJ cs ns)[j]?=some (.ow n)/\c[j]?=some (F n)/\s1.h n=.row e es/\(n,AB.row e es)∈wv cs ns:=by
  have ex:∀n,∃u:Value,n∈ns->∃(j:Nat) (e:TypeId) (es:List (List PV)),cs[j]?=some (.row e es)/\(oJ cs ns)[j]?=some (.ow n)/\c[j]?=some u/\s1.h n=.row e es/\(n,AB.row e es)∈wv cs ns:=fun n=>by
   by_cases hm:n∈ns
   ·obtain⟨j,e,es,u,h⟩:=place n hm
    exact⟨u,fun _=>⟨j,e,es,h⟩⟩
   exact⟨undef,fun h=>(hm h).elim⟩
  exact⟨fun n=>(ex n).choose,fun n=>(ex n).choose_spec⟩
 have JG:∀{cs:List HC} {ns:List Nat} {i j n:Nat},rowsOf cs=ns.length->dJ ns=true->(oJ cs ns)[i]?=some (.ow n)->(oJ cs ns)[j]?=some (.ow n)->i=j:=by
  intro cs ns i j n hl hg h1 h2
  have Ux:∀{cs:List HC} {ns:List Nat},rowsOf cs=ns.length->bM (oJ cs ns)=ns:=by
   intro cs
   induction cs with
   | nil=>intro ns h;cases ns with | nil=>rfl | cons n ns=>simp[rowsOf] at h
   | cons x cs ih=>
    intro ns h
    cases x with
    | p x=>exact ih h
    | row e es=>
     cases ns with
     | nil=>simp[rowsOf] at h
     | cons n ns=>
      simp only[rowsOf,List.length_cons,Nat.add_right_cancel_iff] at h
      show n::bM (oJ cs ns)=_
      rw[ih h]
  exact mz (by rw[Ux hl];exact hg) h1 h2
 obtain⟨rho',K4⟩:∃rho':Nat->Value,rho'=fun k=>if k∈ns then F k else rho k:=⟨_,rfl⟩
 have No:∀k,k∈ns->rho' k=F k:=fun k hk=>by rw[K4];exact if_pos hk
 have CL:∀k,¬k∈ns->rho' k=rho k:=fun k hk=>by rw[K4];exact if_neg hk
 have PH:∀k,(k=id/\br s1.h id (.box (oJ cs ns)) k=.box (oJ cs ns))\/(k≠id/\br s1.h id (.box (oJ cs ns)) k=s1.h k):=fun k=>by
  by_cases e:k=id
  ·subst e;exact .inl ⟨rfl,aO _ _ _⟩
  exact .inr ⟨e,bw _ _ e⟩
 have T:jx S S w w (fun k=>¬k∈ns) cN rho rho' s1.h (br s1.h id (.box (oJ cs ns))):=⟨fun _ h=>h,fun _ _=>rfl,fun j hj=>⟨by
   rcases PH j with⟨rfl,h⟩ | ⟨_,h⟩
   ·rw[uG];trivial
   ·rw[h] at hj;exact hj,fun hn=>⟨trivial,CL j hn⟩⟩,fun j e hj=>by
   rcases PH j with⟨_,h⟩ | ⟨_,h⟩
   ·rw[h] at hj;cases hj
   rw[h] at hj;exact hj⟩
 have owner:∀j k,(br s1.h id (.box (oJ cs ns)) j).live->hasB w (br s1.h id (.box (oJ cs ns)) j) (rho' j) k->∃o,¬o∈ns/\(s1.h o).live/\hasB w (s1.h o) (rho o) k/\(if j∈ns then o=id else o=j):=fun j k hl ho=>by
  by_cases hj:j∈ns
  ·obtain⟨i,e,es,h1,h2,h3,h4,h5⟩:=hF j hj
   have PI:j≠id:=fun e=>As (e ▸ hj)
   rw[bw _ _ PI,h4,No j hj] at ho
   refine⟨id,As,bZ,?_,by rw[if_pos hj]⟩
   rw[uG]
   exact .inr <| .inl ⟨cs,g,rfl,Fa,c,ty,_,i,_,F j,hB.hp,h1,trivial,h3,a6 rfl ho⟩
  rw[CL j hj] at ho
  rcases PH j with⟨rfl,h⟩ | ⟨_,h⟩
  ·rw[h] at ho
   exact⟨j,hj,bZ,.inl (a6 rfl ho),by rw[if_neg hj]⟩
  rw[h] at hl ho
  exact⟨j,hj,hl,ho,by rw[if_neg hj]⟩
 exact⟨S,rho',
 {tm:=fun j hj=>(sim.tm j hj).lz T
  sz:=sim.sz,df:=sim.df,nb:=sim.nb
  pn:=fun k hk=>by rw[CL k fun h=>by have:=mA hg h;omega];exact sim.pn k hk
  ev:=sim.ev,s0:=sim.s0,st:=sim.st,sb:=sim.sb
  hp:=fun j _=>by
   show eC _ _ _ _ _ _ _ (br s1.h id (.box (oJ cs ns)) j)
   rcases PH j with⟨rfl,h⟩ | ⟨b8,h⟩
   ·rw[h]
    refine⟨g,ty,c,by rw[CL j As];exact k1,hB.hp,by rw[tO];exact hB.sz,fun i x u hi hu=>?_⟩
    rcases yx hl hi with⟨z,h1,rfl⟩ | ⟨n,e,es,h1,rfl,h3⟩
    ·exact⟨(hB.cell i _ u h1 hu).1,.p _ _ (hB.cell i _ u h1 hu).2⟩
    refine⟨(hB.cell i _ u h1 hu).1,.ow n u fun _=>⟨trivial,?_⟩⟩
    have hm:n∈ns:=(p6 n).2 ⟨_,h3⟩
    obtain⟨i',e',wk,q1,q2,q3,q4,q5⟩:=hF n hm
    have:=JG hl hg q2 hi
    subst this
    rw[No n hm]
    rw[q3] at hu
    injection hu with hu
    exact hu.symm
   rw[h]
   by_cases hj:j∈ns
   ·obtain⟨i,e,es,h1,h2,h3,h4,h5⟩:=hF j hj
    rw[h4]
    show aR _ _ _ _ _ (rho' j)
    rw[No j hj]
    exact (hB.cell i _ _ h1 h3).2
   exact (sim.hp j hj).lz T (fun _ _ _=>rfl) (fun _=>CL j hj)
  dj:=fun i j k _ _ li lj hi hj=>by
   obtain⟨o,o1,o2,o3,o4⟩:=owner i k li hi
   obtain⟨p,p1,p2,p3,p4⟩:=owner j k lj hj
   have:=sim.dj o p k o1 p1 o2 p2 o3 p3
   subst this
   by_cases ei:i∈ns
   ·rw[if_pos ei] at o4
    subst o4
    have hi:hasB w (br s1.h o (.box (oJ cs ns)) i) (rho' i) k:=hi
    obtain⟨i1,e1,SJ,q1,q2,q3,q4,q5⟩:=hF i ei
    have S7:cU (F i)=some k:=by
     rw[bw _ _ (fun e=>As (by rw[<-e];exact ei)),q4,No i ei] at hi
     exact a6 rfl hi
    by_cases ej:j∈ns
    ·have hj:hasB w (br s1.h o (.box (oJ cs ns)) j) (rho' j) k:=hj
     obtain⟨j1,e2,me,r1,r2,r3,r4,r5⟩:=hF j ej
     have Rn:cU (F j)=some k:=by
      rw[bw _ _ (fun e=>As (by rw[<-e];exact ej)),r4,No j ej] at hj
      exact a6 rfl hj
     have:=hB.dis i1 j1 _ _ _ _ k q1 r1 q3 r3 trivial trivial S7 Rn
     subst this
     rw[q2] at r2
     injection r2 with r2
     injection r2
    rw[if_neg ej] at p4
    subst p4
    exfalso
    have hj:hasB w (br s1.h o (.box (oJ cs ns)) o) (rho' o) k:=hj
    rw[aO,CL o ej] at hj
    have hj:=a6 rfl hj
    rw[Fa] at hj
    injection hj with hj
    exact hB.top i1 _ _ k q1 q3 trivial S7 hj.symm
   rw[if_neg ei] at o4
   by_cases ej:j∈ns
   ·rw[if_pos ej] at p4
    subst o4
    subst p4
    exfalso
    have hi:hasB w (br s1.h o (.box (oJ cs ns)) o) (rho' o) k:=hi
    have hj:hasB w (br s1.h o (.box (oJ cs ns)) j) (rho' j) k:=hj
    obtain⟨j1,e2,me,r1,r2,r3,r4,r5⟩:=hF j ej
    have Rn:cU (F j)=some k:=by
     rw[bw _ _ (fun e=>As (by rw[<-e];exact ej)),r4,No j ej] at hj
     exact a6 rfl hj
    rw[aO,CL o ei] at hi
    have hi:=a6 rfl hi
    rw[Fa] at hi
    injection hi with hi
    exact hB.top j1 _ _ k r1 r3 trivial Rn hi.symm
   rw[if_neg ej] at p4
   exact o4.symm.trans p4
  lv:=fun i k _ li hi=>by
   obtain⟨o,o1,o2,o3,_⟩:=owner i k li hi
   exact sim.lv o k o1 o2 o3
  fr:=sim.fr }⟩
end Go.AM
namespace Go.AM
open Go.RowKit
def cellAt (w:World) (g p:Nat) (u:Value):Prop:=∃(c:Array Value) (ty:TypeId) (m:Nat×Nat),w.heap[g]?=some (.cells c ty m)/\c[p]?=some u
theorem kL {w:World} {g p:Nat} {u v:Value} (h:cellAt w g p u) (k:cellAt w g p v):u=v:=by
 obtain⟨c,ty,m,h1,h2⟩:=h
 obtain⟨c',SF,m',k1,k2⟩:=k
 rw[h1] at k1
 injection k1 with k1
 injection k1 with k1
 subst k1
 rw[h2] at k2
 injection k2
theorem dM {w:World} {es:List (List HX)} {g a j:Nat} {u:Value}:dG w es g a j u↔∃r e xs,es[a]?=some r/\r[j]?=some (.row e xs)/\cellAt w g (a*r.length+j) u:=
 ⟨fun ⟨r,e,xs,c,ty,m,h1,h2,h3,h4⟩=>⟨r,e,xs,h1,h2,c,ty,m,h3,h4⟩,fun ⟨r,e,xs,h1,h2,c,ty,m,h3,h4⟩=>⟨r,e,xs,c,ty,m,h1,h2,h3,h4⟩⟩
theorem aR.re {α β:Type} {P:Program} {w:World} {R:α->Value->Prop} {R':β->Value->Prop} {e:TypeId} {es:List (List α)} {me:List (List β)} {v:Value} (h:aR P w R e es v) (hl:me.length=es.length)
  (hk:∀(a:Nat) r r2,es[a]?=some r->me[a]?=some r2->r2.length=r.length)
  (hc:∀(a:Nat) r r2 (j:Nat) x x2 u,es[a]?=some r->me[a]?=some r2->r[j]?=some x->r2[j]?=some x2->(∀g,cU v=some g->cellAt w g (a*r.length+j) u)->R x u->R' x2 u):aR P w R' e me v:=by
 obtain⟨i,xs,h1,h2,h3,h4,h5,h6⟩:=h
 have old:∀{a:Nat} {r2:List β},me[a]?=some r2->∃r,es[a]?=some r:=fun {a r2} ha=>⟨_,List.getElem?_eq_getElem (by rw[<-hl];exact aP ha)⟩
 refine⟨i,xs,h1,h2,by rw[hl];exact h3,fun r2 iD=>?_,h5,fun a r2 j x2 ha hj=>?_⟩
 ·obtain⟨a,ha⟩:=List.mem_iff_getElem?.1 iD
  obtain⟨r,hr⟩:=old ha
  rw[hk a r r2 hr ha]
  exact h4 r (List.mem_of_getElem? hr)
 obtain⟨r,hr⟩:=old ha
 have hlen:=hk a r r2 hr ha
 obtain⟨x,hx⟩:∃x,r[j]?=some x:=⟨_,List.getElem?_eq_getElem (by rw[<-hlen];exact aP hj)⟩
 obtain⟨u,hu,wb⟩:=h6 a r j x hr hx
 refine⟨u,hu,hc a r r2 j x x2 u hr ha hx hj (fun g hg=>?_) wb⟩
 have tF:=h4 r (List.mem_of_getElem? hr)
 rcases h3.2 with⟨hn,_⟩ | ⟨g',cap,cur,hv,_,BZ,k1,k2,k3,k4⟩
 ·rw[hn] at hg;cases hg
 rw[hv] at hg
 obtain rfl:=gM.1 hg
 refine⟨cur,_,_,BZ,?_⟩
 rw[tF]
 rw[<-k4,List.getElem?_take] at hu
 split at hu
 ·simpa using hu
 cases hu
theorem aW.Ro {A:cV} (hC:bV A.C) (s:AS) (id:Nat) {e:TypeId} {es:List (List PV)} (hb:s.h id=.row e es):aW A s ⟨s.t,br s.h id (.aL e (es.map qb))⟩:=by
 intro S rho a w sim
 have CM:∀g k j u,¬dG w (es.map qb) g k j u:=fun g k j u h=>by
  obtain⟨r,e',o9,h1,h2,_⟩:=dM.1 h
  rw[List.getElem?_map] at h1
  obtain⟨q,_,rfl⟩:=Option.map_eq_some_iff.1 h1
  rw[qb,List.getElem?_map] at h2
  obtain⟨z,_,hz⟩:=Option.map_eq_some_iff.1 h2
  cases hz
 have hh:=sim.hp id trivial
 rw[hb] at hh
 have hh:aR A.C.P w (bu S w) e es (rho id):=hh
 refine⟨S,rho,sim.x8 hC id trivial (by rw[hb];trivial) _ (fun e' h=>by rw[hb];exact h) w rfl rfl rfl rfl (fun _ _=>rfl) (fun T=>?_) (fun g h=>?_)⟩
 ·refine⟨hh.re (by simp) (fun k r r2 h1 h2=>?_) (fun k r r2 j x x2 u h1 h2 h3 h4 _ hx=>?_),⟨fun g k j u b _ h=>absurd h (CM _ _ _ _),fun g k j k' j' u u' b _ h=>absurd h (CM _ _ _ _)⟩⟩
  ·rw[List.getElem?_map,h1] at h2
   injection h2 with h2
   rw[<-h2,qb,List.length_map]
  rw[List.getElem?_map,h1] at h2
  injection h2 with h2
  rw[<-h2,qb,List.getElem?_map,h3] at h4
  injection h4 with h4
  rw[<-h4]
  exact tG hx
 rw[dL] at h
 rcases h with h | ⟨g',k,j,u,_,h,_⟩
 ·exact .inl h
 exact absurd h (CM _ _ _ _)
def Ea:HX->Prop
 | .av (.p _)=>True
 | .av .nl=>True
 | .row _ _=>True
 | _=>False
def tP (es:List (List HX)):Prop:=∀r∈es,∀x∈r,Ea x
theorem Fl {es:List (List HX)} (h:tP es) (d:Nat):(es.map fun r=>r.map (HX.dm (sc d)))=es:=by
 conv=>rhs;rw[<-List.map_id es]
 refine List.map_congr_left fun r hr=>?_
 show r.map _=r
 conv=>rhs;rw[<-List.map_id r]
 refine List.map_congr_left fun x hx=>?_
 have:=h r hr x hx
 cases x with
 | row e es=>rfl
 | av y=>cases y <;> first | rfl | exact this.elim
theorem gI {α:Type} {l:List α} {i a:Nat} {x y:α} (h:(l.set i x)[a]?=some y):(a=i/\y=x/\i < l.length)\/(a≠i/\l[a]?=some y):=by
 by_cases e:a=i
 ·subst e
  have hl:=aP h
  rw[List.length_set] at hl
  rw[List.getElem?_set_self hl] at h
  injection h with h
  exact .inl ⟨rfl,h.symm,hl⟩
 rw[List.getElem?_set_ne (fun e'=>e e'.symm)] at h
 exact .inr ⟨e,h⟩
theorem aW.oK {A:cV} (hC:bV A.C) (s:AS) (id i j d:Nat) {e e':TypeId} {es:List (List HX)} {r:List HX} {xs:List (List PV)} (hd:d < 100000) (hid:id≠d) (hb:s.h id=.aL e es) (hs:tP es) (hr:es[i]?=some r) (hj:r[j]?=some (.row e' xs)):
  aW A s ⟨(WB d s).t,br (br (WB d s).h d (.row e' xs)) id (.aL e (es.set i (r.set j (.av (.ow d)))))⟩:=by
 intro S rho a w nB
 have sim:=nB.free d (.row e' xs)
 obtain⟨h1,Rp⟩:∃h1,h1=br (WB d s).h d (.row e' xs):=⟨_,rfl⟩
 have uG:h1 id=.aL e es:=by
  rw[Rp,bw _ _ hid]
  show br (fun k=>rH d (s.h k)) d .none id=_
  rw[bw _ _ hid,hb]
  show AB.aL e _=_
  rw[Fl hs]
 have S8:h1 d=.row e' xs:=by rw[Rp,aO]
 rw[<-Rp] at sim ⊢
 obtain⟨me,nV⟩:∃me,me=es.set i (r.set j (.av (.ow d))):=⟨_,rfl⟩
 rw[<-nV]
 have hh:=sim.hp id hid
 have hh:eC S w A.C.P (fun k=>k≠d) rho h1 id (h1 id):=hh
 rw[uG] at hh
 obtain⟨hR,hS⟩:=hh
 obtain⟨g,u,hg,PJ,wb⟩:=hR.zM hr hj
 have wb:aR A.C.P w (bu S w) e' xs u:=wb
 have bZ:(h1 id).live:=by rw[uG];trivial
 have fh:∀g' k p v,dG w me g' k p v->dG w es g' k p v/\¬(k=i/\p=j):=by
  intro g' k p v hc
  obtain⟨q,e2,Hy,q1,q2,q3⟩:=dM.1 hc
  rw[nV] at q1
  rcases gI q1 with⟨rfl,rfl,_⟩ | ⟨hk,q1⟩
  ·rcases gI q2 with⟨_,hx,_⟩ | ⟨hp,q2⟩
   ·cases hx
   exact⟨dM.2 ⟨r,e2,Hy,hr,q2,by rw[List.length_set] at q3;exact q3⟩,fun h=>hp h.2⟩
  exact⟨dM.2 ⟨q,e2,Hy,q1,q2,q3⟩,fun h=>hk h.1⟩
 have hown:∀b,cU u=some b->hasB w (h1 id) (rho id) b:=fun b h=>by rw[uG,dL];exact .inr ⟨g,i,j,u,hg,PJ,h⟩
 obtain⟨rho',mq⟩:∃rho',rho'=br rho d u:=⟨_,rfl⟩
 have rd:rho' d=u:=by rw[mq,aO]
 have ro:∀k,k≠d->rho' k=rho k:=fun k h=>by rw[mq,bw _ _ h]
 have T:jx S S w w (fun k=>k≠d) cN rho rho' h1 (br h1 id (.aL e me)):=⟨fun _ h=>h,fun _ _=>rfl,fun k hk=>⟨by
   rcases bD h1 id (.aL e me) k with⟨rfl,h⟩ | ⟨_,h⟩
   ·rw[uG];trivial
   ·rw[h] at hk;exact hk,fun h=>⟨trivial,ro k h⟩⟩,fun k e2 hk=>by
   rcases bD h1 id (.aL e me) k with⟨rfl,h⟩ | ⟨_,h⟩
   ·rw[h] at hk;rw[uG];exact hk
   rw[h] at hk;exact hk⟩
 have owner:∀k b,(br h1 id (.aL e me) k).live->hasB w (br h1 id (.aL e me) k) (rho' k) b->∃o,o≠d/\(h1 o).live/\hasB w (h1 o) (rho o) b/\(if k=d then o=id/\cU u=some b else o=k/\(k=id->cU u≠some b)):=by
  intro k b hl ho
  by_cases hk:k=d
  ·subst hk
   rw[bw _ _ (fun e=>hid e.symm),S8,rd] at ho
   have ho:=a6 rfl ho
   exact⟨id,hid,bZ,hown b ho,by rw[if_pos rfl];exact⟨rfl,ho⟩⟩
  rcases bD h1 id (.aL e me) k with⟨rfl,h⟩ | ⟨b8,h⟩
  ·rw[h,ro k hk] at ho
   rw[dL] at ho
   refine⟨k,hk,bZ,?_,?_⟩
   ·rw[uG,dL]
    rcases ho with ho | ⟨g',k',p,v,o1,o2,o3⟩
    ·exact .inl ho
    exact .inr ⟨g',k',p,v,o1,(fh _ _ _ _ o2).1,o3⟩
   rw[if_neg hk]
   refine⟨rfl,fun _ S9=>?_⟩
   rcases ho with ho | ⟨g',k',p,v,o1,o2,o3⟩
   ·rw[hg] at ho
    injection ho with ho
    exact hS.top g i j u b hg PJ S9 ho.symm
   rw[hg] at o1
   injection o1 with o1
   subst o1
   obtain⟨c1,c2⟩:=fh _ _ _ _ o2
   exact c2 (hS.dis g k' p i j v u b hg c1 PJ o3 S9)
  rw[h,ro k hk] at ho
  rw[h] at hl
  exact⟨k,hk,hl,ho,by rw[if_neg hk];exact⟨rfl,fun e=>absurd e b8⟩⟩
 exact⟨S,rho',
 {tm:=fun k hk=>(sim.tm k hk).lz T
  sz:=sim.sz,df:=sim.df,nb:=sim.nb
  pn:=fun k hk=>by rw[ro k (by omega)];exact sim.pn k hk
  ev:=sim.ev,s0:=sim.s0,st:=sim.st,sb:=sim.sb
  hp:=fun k _=>by
   show eC _ _ _ _ _ _ _ (br h1 id (.aL e me) k)
   by_cases hk:k=d
   ·subst hk
    rw[bw _ _ (fun e=>hid e.symm),S8]
    show aR _ _ _ _ _ (rho' k)
    rw[rd]
    exact wb
   rcases bD h1 id (.aL e me) k with⟨rfl,h⟩ | ⟨b8,h⟩
   ·rw[h]
    show aR _ _ _ _ _ (rho' k)/\rv _ _ (rho' k)
    rw[ro k hk]
    refine⟨hR.re (by rw[nV,List.length_set]) (fun p q q2 z1 z2=>?_) (fun p q q2 m x x2 v z1 z2 z3 z4 hcell hx=>?_),⟨fun g' p m v b c1 c2 c3=>hS.top g' p m v b c1 (fh _ _ _ _ c2).1 c3,fun g' p m p' m' v v' b c1 c2 c3 c4 c5=>hS.dis g' p m p' m' v v' b c1 (fh _ _ _ _ c2).1 (fh _ _ _ _ c3).1 c4 c5⟩⟩
    ·rw[nV] at z2
     rcases gI z2 with⟨rfl,rfl,_⟩ | ⟨_,z2⟩
     ·rw[hr] at z1;injection z1 with z1;rw[<-z1,List.length_set]
     rw[z1] at z2;injection z2 with z2;rw[z2]
    have sX:o8 S w A.C.P (fun k=>k≠d) rho h1 x v->x2=x->o8 S w A.C.P cN rho' (br h1 k (.aL e me)) x2 v:=fun hx Oh=>by
     rw[Oh]
     cases x with
     | av y=>exact bF.lz T hx
     | row e2 Hy=>exact hx
    rw[nV] at z2
    rcases gI z2 with⟨rfl,rfl,_⟩ | ⟨_,z2⟩
    ·rw[hr] at z1
     injection z1 with z1
     subst z1
     rcases gI z4 with⟨rfl,rfl,_⟩ | ⟨_,z4⟩
     ·obtain⟨q',_,_,c1,_,c2⟩:=dM.1 PJ
      rw[hr] at c1
      injection c1 with c1
      subst c1
      have:=kL (hcell g hg) c2
      subst this
      exact .ow d _ fun _=>⟨trivial,rd.symm⟩
     rw[z3] at z4
     injection z4 with z4
     exact sX hx z4.symm
    rw[z1] at z2
    injection z2 with z2
    subst z2
    rw[z3] at z4
    injection z4 with z4
    exact sX hx z4.symm
   rw[h]
   exact (sim.hp k hk).lz T (fun _ _ _=>rfl) (fun _=>ro k hk)
  dj:=fun k m b _ _ lk lm hk hm=>by
   obtain⟨o,o1,o2,o3,o4⟩:=owner k b lk hk
   obtain⟨p,p1,p2,p3,p4⟩:=owner m b lm hm
   have:=sim.dj o p b o1 p1 o2 p2 o3 p3
   subst this
   by_cases ek:k=d <;> by_cases em:m=d
   ·rw[ek,em]
   ·rw[if_pos ek] at o4
    rw[if_neg em] at p4
    exact absurd o4.2 (p4.2 (p4.1.symm.trans o4.1))
   ·rw[if_neg ek] at o4
    rw[if_pos em] at p4
    exact absurd p4.2 (o4.2 (o4.1.symm.trans p4.1))
   rw[if_neg ek] at o4
   rw[if_neg em] at p4
   exact o4.1.symm.trans p4.1
  lv:=fun k b _ lk hk=>by
   obtain⟨o,o1,o2,o3,_⟩:=owner k b lk hk
   exact sim.lv o b o1 o2 o3
  fr:=sim.fr }⟩
theorem aW.Au {A:cV} (hC:bV A.C) (s:AS) (id i j d:Nat) {e e':TypeId} {es:List (List HX)} {r:List HX} {xs:List (List PV)} (hid:id≠d) (hb:s.h id=.aL e es) (Mp:s.h d=.row e' xs) (hr:es[i]?=some r) (hj:r[j]?=some (.av (.ow d))):
  aW A s ⟨s.t,br (br s.h d .none) id (.aL e (es.set i (r.set j (.row e' xs))))⟩:=by
 intro S rho a w sim
 obtain⟨me,nV⟩:∃me,me=es.set i (r.set j (.row e' xs)):=⟨_,rfl⟩
 rw[<-nV]
 have hh:=sim.hp id trivial
 rw[hb] at hh
 obtain⟨hR,hS⟩:=hh
 have bZ:(s.h id).live:=by rw[hb];trivial
 have Rq:(s.h d).live:=by rw[Mp];trivial
 have PK:=sim.hp d trivial
 rw[Mp] at PK
 have PK:aR A.C.P w (bu S w) e' xs (rho d):=PK
 have up:∀k,(k=id/\br (br s.h d .none) id (.aL e me) k=.aL e me)\/(k=d/\k≠id/\br (br s.h d .none) id (.aL e me) k=.none)\/(k≠d/\k≠id/\br (br s.h d .none) id (.aL e me) k=s.h k):=fun k=>by
  by_cases h1:k=id
  ·subst h1;exact .inl ⟨rfl,aO _ _ _⟩
  by_cases h2:k=d
  ·subst h2;exact .inr (.inl ⟨rfl,h1,by rw[bw _ _ h1,aO]⟩)
  exact .inr (.inr ⟨h2,h1,by rw[bw _ _ h1,bw _ _ h2]⟩)
 have T:jx S S w w cN cN rho rho s.h (br (br s.h d .none) id (.aL e me)):=⟨fun _ h=>h,fun _ _=>rfl,fun k hk=>⟨by
   rcases up k with⟨rfl,h⟩ | ⟨_,_,h⟩ | ⟨_,_,h⟩
   ·rw[hb];trivial
   ·rw[h] at hk;exact hk.elim
   ·rw[h] at hk;exact hk,fun h=>⟨trivial,rfl⟩⟩,fun k e2 hk=>by
   rcases up k with⟨rfl,h⟩ | ⟨_,_,h⟩ | ⟨_,_,h⟩
   ·rw[h] at hk;rw[hb];exact hk
   ·rw[h] at hk;cases hk
   rw[h] at hk;exact hk⟩
 have hval:∀g u,cU (rho id)=some g->cellAt w g (i*r.length+j) u->u=rho d:=fun g u hg hu=>by
  obtain⟨i0,ws,q1,q2,q3,q4,q5,q6⟩:=hR
  obtain⟨u2,p1,p2⟩:=q6 i r j _ hr hj
  have p2:bF S w A.C.P cN rho s.h (.ow d) u2:=p2
  have:=(p2.de (by rw[Mp];trivial)).2
  rw[<-this]
  have tF:=q4 r (List.mem_of_getElem? hr)
  rcases q3.2 with⟨hn,_⟩ | ⟨g',cap,cur,hv,_,BZ,k1,k2,k3,k4⟩
  ·rw[hn] at hg;cases hg
  rw[hv] at hg
  obtain rfl:=gM.1 hg
  refine kL hu ⟨cur,_,_,BZ,?_⟩
  rw[tF]
  rw[<-k4,List.getElem?_take] at p1
  split at p1
  ·simpa using p1
  cases p1
 have fh:∀g k p v,cU (rho id)=some g->dG w me g k p v->(dG w es g k p v/\¬(k=i/\p=j))\/(k=i/\p=j/\v=rho d):=by
  intro g k p v hg hc
  obtain⟨q,e2,Hy,q1,q2,q3⟩:=dM.1 hc
  rw[nV] at q1
  rcases gI q1 with⟨rfl,rfl,_⟩ | ⟨hk,q1⟩
  ·rw[List.length_set] at q3
   rcases gI q2 with⟨rfl,_,_⟩ | ⟨hp,q2⟩
   ·exact .inr ⟨rfl,rfl,hval g v hg q3⟩
   exact .inl ⟨dM.2 ⟨r,e2,Hy,hr,q2,q3⟩,fun h=>hp h.2⟩
  exact .inl ⟨dM.2 ⟨q,e2,Hy,q1,q2,q3⟩,fun h=>hk h.1⟩
 have inner:∀g k p v b,cU (rho id)=some g->dG w es g k p v->cU v=some b->cU (rho d)≠some b:=fun g k p v b h1 h2 h3 h4=>
  hid (sim.dj id d b trivial trivial bZ Rq (by rw[hb,dL];exact .inr ⟨g,k,p,v,h1,h2,h3⟩) (.inl h4))
 have owner:∀k b,(br (br s.h d .none) id (.aL e me) k).live->hasB w (br (br s.h d .none) id (.aL e me) k) (rho k) b->∃o,(s.h o).live/\hasB w (s.h o) (rho o) b/\(o=k/\k≠d\/o=d/\k=id):=by
  intro k b hl ho
  rcases up k with⟨rfl,h⟩ | ⟨_,_,h⟩ | ⟨h1,_,h⟩
  ·rw[h,dL] at ho
   rcases ho with ho | ⟨g,k',p,v,o1,o2,o3⟩
   ·exact⟨k,bZ,.inl ho,.inl ⟨rfl,hid⟩⟩
   rcases fh _ _ _ _ o1 o2 with⟨c1,_⟩ | ⟨_,_,rfl⟩
   ·exact⟨k,bZ,by rw[hb,dL];exact .inr ⟨g,k',p,v,o1,c1,o3⟩,.inl ⟨rfl,hid⟩⟩
   exact⟨d,Rq,.inl o3,.inr ⟨rfl,rfl⟩⟩
  ·rw[h] at hl;exact hl.elim
  rw[h] at hl ho
  exact⟨k,hl,ho,.inl ⟨rfl,h1⟩⟩
 exact⟨S,rho,
 {tm:=fun k hk=>(sim.tm k hk).lz T
  sz:=sim.sz,df:=sim.df,nb:=sim.nb,pn:=sim.pn
  ev:=sim.ev,s0:=sim.s0,st:=sim.st,sb:=sim.sb
  hp:=fun k _=>by
   show eC _ _ _ _ _ _ _ (br (br s.h d .none) id (.aL e me) k)
   rcases up k with⟨rfl,h⟩ | ⟨_,_,h⟩ | ⟨h1,b8,h⟩
   ·rw[h]
    refine⟨hR.re (by rw[nV,List.length_set]) (fun p q q2 z1 z2=>?_) (fun p q q2 m x x2 v z1 z2 z3 z4 hcell hx=>?_),⟨fun g p m v b c1 c2 c3=>?_,fun g p m p' m' v v' b c1 c2 c3 c4 c5=>?_⟩⟩
    ·rw[nV] at z2
     rcases gI z2 with⟨rfl,rfl,_⟩ | ⟨_,z2⟩
     ·rw[hr] at z1;injection z1 with z1;rw[<-z1,List.length_set]
     rw[z1] at z2;injection z2 with z2;rw[z2]
    ·have sX:o8 S w A.C.P cN rho s.h x v->x2=x->o8 S w A.C.P cN rho (br (br s.h d .none) k (.aL e me)) x2 v:=fun hx Oh=>by
      rw[Oh]
      cases x with
      | av y=>exact bF.lz T hx
      | row e2 Hy=>exact hx
     rw[nV] at z2
     rcases gI z2 with⟨rfl,rfl,_⟩ | ⟨_,z2⟩
     ·rw[hr] at z1
      injection z1 with z1
      subst z1
      rcases gI z4 with⟨rfl,rfl,_⟩ | ⟨_,z4⟩
      ·have hx:o8 S w A.C.P cN rho s.h x v:=hx
       rw[hj] at z3
       injection z3 with z3
       subst z3
       have hx:bF S w A.C.P cN rho s.h (.ow d) v:=hx
       show aR A.C.P w (bu S w) e' xs v
       rw[(hx.de (by rw[Mp];trivial)).2]
       exact PK
      rw[z3] at z4
      injection z4 with z4
      exact sX hx z4.symm
     rw[z1] at z2
     injection z2 with z2
     subst z2
     rw[z3] at z4
     injection z4 with z4
     exact sX hx z4.symm
    ·rcases fh _ _ _ _ c1 c2 with⟨q1,_⟩ | ⟨_,_,rfl⟩
     ·exact hS.top g p m v b c1 q1 c3
     intro Mq
     subst Mq
     exact hid (sim.dj k d b trivial trivial bZ Rq (.inl c1) (.inl c3))
    rcases fh _ _ _ _ c1 c2 with⟨q1,q2⟩ | ⟨rfl,rfl,rfl⟩ <;> rcases fh _ _ _ _ c1 c3 with⟨q3,q4⟩ | ⟨rfl,rfl,rfl⟩
    ·exact hS.dis g p m p' m' v v' b c1 q1 q3 c4 c5
    ·exact absurd c5 (inner g p m v b c1 q1 c4)
    ·exact absurd c4 (inner g p' m' v' b c1 q3 c5)
    exact⟨rfl,rfl⟩
   ·rw[h];trivial
   rw[h]
   exact (sim.hp k trivial).lz T (fun _ _ _=>rfl) (fun _=>rfl)
  dj:=fun k m b _ _ lk lm hk hm=>by
   obtain⟨o,o1,o2,o3⟩:=owner k b lk hk
   obtain⟨p,p1,p2,p3⟩:=owner m b lm hm
   have:=sim.dj o p b trivial trivial o1 p1 o2 p2
   subst this
   rcases o3 with⟨rfl,o3⟩ | ⟨rfl,o3⟩ <;> rcases p3 with⟨rfl,p3⟩ | ⟨h,p3⟩
   ·rfl
   ·exact absurd h o3
   ·exact absurd rfl p3
   rw[o3,p3]
  lv:=fun k b _ lk hk=>by
   obtain⟨o,o1,o2,_⟩:=owner k b lk hk
   exact sim.lv o b trivial o1 o2
  fr:=sim.fr }⟩
theorem aW.Mr {A:cV} (hC:bV A.C) (s:AS) (id i j:Nat) {e e':TypeId} {es:List (List HX)} {r:List HX} {ti:TI} (hb:s.h id=.aL e es) (hr:es[i]?=some r) (hj:r[j]?=some (.av .nl)) (hT:A.C.T e'=some ti) (hpos:0 < ti.size):
  aW A s ⟨s.t,br s.h id (.aL e (es.set i (r.set j (.row e' []))))⟩:=by
 intro S rho a w sim
 obtain⟨me,nV⟩:∃me,me=es.set i (r.set j (.row e' [])):=⟨_,rfl⟩
 rw[<-nV]
 have hh:=sim.hp id trivial
 rw[hb] at hh
 obtain⟨hR,hS⟩:=hh
 obtain⟨info,z,h1,h2,_⟩:=hC.gE e' ti hT
 have hval:∀g u,cU (rho id)=some g->cellAt w g (i*r.length+j) u->u=.slice none 0 0:=fun g u hg hu=>by
  obtain⟨i0,ws,q1,q2,q3,q4,q5,q6⟩:=hR
  obtain⟨u2,p1,p2⟩:=q6 i r j _ hr hj
  have p2:bF S w A.C.P cN rho s.h .nl u2:=p2
  have:u2=.slice none 0 0:=by cases p2;rfl
  rw[<-this]
  have tF:=q4 r (List.mem_of_getElem? hr)
  rcases q3.2 with⟨hn,_⟩ | ⟨g',cap,cur,hv,_,BZ,k1,k2,k3,k4⟩
  ·rw[hn] at hg;cases hg
  rw[hv] at hg
  obtain rfl:=gM.1 hg
  refine kL hu ⟨cur,_,_,BZ,?_⟩
  rw[tF]
  rw[<-k4,List.getElem?_take] at p1
  split at p1
  ·simpa using p1
  cases p1
 have fh:∀g k p v b,cU (rho id)=some g->dG w me g k p v->cU v=some b->dG w es g k p v:=by
  intro g k p v b hg hc hv
  obtain⟨q,e2,Hy,q1,q2,q3⟩:=dM.1 hc
  rw[nV] at q1
  rcases gI q1 with⟨rfl,rfl,_⟩ | ⟨hk,q1⟩
  ·rw[List.length_set] at q3
   rcases gI q2 with⟨rfl,_,_⟩ | ⟨hp,q2⟩
   ·rw[hval g v hg q3] at hv
    cases hv
   exact dM.2 ⟨r,e2,Hy,hr,q2,q3⟩
  exact dM.2 ⟨q,e2,Hy,q1,q2,q3⟩
 refine⟨S,rho,sim.x8 hC id trivial (by rw[hb];trivial) _ (fun e2 h=>by rw[hb];exact h) w rfl rfl rfl rfl (fun _ _=>rfl) (fun T=>?_) (fun g h=>?_)⟩
 ·refine⟨hR.re (by rw[nV,List.length_set]) (fun p q q2 z1 z2=>?_) (fun p q q2 m x x2 v z1 z2 z3 z4 hcell hx=>?_),⟨fun g p m v b c1 c2 c3=>hS.top g p m v b c1 (fh _ _ _ _ _ c1 c2 c3) c3,fun g p m p' m' v v' b c1 c2 c3 c4 c5=>hS.dis g p m p' m' v v' b c1 (fh _ _ _ _ _ c1 c2 c4) (fh _ _ _ _ _ c1 c3 c5) c4 c5⟩⟩
  ·rw[nV] at z2
   rcases gI z2 with⟨rfl,rfl,_⟩ | ⟨_,z2⟩
   ·rw[hr] at z1;injection z1 with z1;rw[<-z1,List.length_set]
   rw[z1] at z2;injection z2 with z2;rw[z2]
  have sX:o8 S w A.C.P cN rho s.h x v->x2=x->o8 S w A.C.P cN rho (br s.h id (.aL e me)) x2 v:=fun hx Oh=>by
   rw[Oh]
   cases x with
   | av y=>exact bF.lz T hx
   | row e2 Hy=>exact hx
  rw[nV] at z2
  rcases gI z2 with⟨rfl,rfl,_⟩ | ⟨_,z2⟩
  ·rw[hr] at z1
   injection z1 with z1
   subst z1
   rcases gI z4 with⟨rfl,rfl,_⟩ | ⟨_,z4⟩
   ·rw[hj] at z3
    injection z3 with z3
    subst z3
    have hx:bF S w A.C.P cN rho s.h .nl v:=hx
    have:v=.slice none 0 0:=by cases hx;rfl
    rw[this]
    exact⟨info,[],h1,by omega,⟨by simp,.inl ⟨rfl,rfl⟩⟩,by simp,by simp,by simp⟩
   rw[z3] at z4
   injection z4 with z4
   exact sX hx z4.symm
  rw[z1] at z2
  injection z2 with z2
  subst z2
  rw[z3] at z4
  injection z4 with z4
  exact sX hx z4.symm
 rw[dL] at h
 rw[hb,dL]
 rcases h with h | ⟨g',k,p,v,c1,c2,c3⟩
 ·exact .inl h
 exact .inr ⟨g',k,p,v,c1,fh _ _ _ _ _ c1 c2 c3,c3⟩
theorem IV.map {α:Type} {l:List α} {f:α->List HX} {g:α->List PV} (h:∀x∈l,(g x).length=(f x).length/\∀(j:Nat) u v,(f x)[j]?=some u->(g x)[j]?=some v->Nb u v):IV (l.map f) (l.map g):=
 ⟨by simp,fun a r q h1 h2=>by
  rw[List.getElem?_map] at h1 h2
  obtain⟨x,hx,rfl⟩:=Option.map_eq_some_iff.1 h1
  rw[hx] at h2
  injection h2 with h2
  subst h2
  exact h x (List.mem_of_getElem? hx)⟩
theorem aW.Hz {A:cV} (hC:bV A.C) (s:AS) (id:Nat) {e:TypeId} {es:List (List HX)} (ps:List (List PV)) (hb:s.h id=.aL e es) (hps:IV es ps):aW A s ⟨s.t,br s.h id (.row e ps)⟩:=by
 intro S rho a w sim
 have hh:=sim.hp id trivial
 rw[hb] at hh
 obtain⟨hR,hS⟩:=hh
 have bZ:(s.h id).live:=by rw[hb];trivial
 obtain⟨I,hI⟩:∃I:Nat->Prop,I=fun b=>∃g k j u,cU (rho id)=some g/\dG w es g k j u/\cU u=some b:=⟨_,rfl⟩
 have Rr:∀b,I b->hasB w (s.h id) (rho id) b:=fun b h=>by rw[hI] at h;rw[hb,dL];exact .inr h
 have Oi:∀b,I b->cU (rho id)≠some b:=fun b h hg=>by
  rw[hI] at h
  obtain⟨g,k,j,u,h1,h2,h3⟩:=h
  rw[h1] at hg
  injection hg with hg
  exact hS.top g k j u b h1 h2 h3 hg.symm
 have T:jx S (fun b=>S b\/I b) w w cN cN rho rho s.h (br s.h id (.row e ps)):=by
  refine⟨fun b h=>.inl h,fun _ _=>rfl,fun j hj=>⟨?_,fun hl=>⟨hl,rfl⟩⟩,fun j e' hj=>?_⟩
  ·rcases bD s.h id (.row e ps) j with⟨rfl,h⟩ | ⟨_,h⟩
   ·rw[hb];trivial
   rw[h] at hj;exact hj
  rcases bD s.h id (.row e ps) j with⟨rfl,h⟩ | ⟨_,h⟩
  ·rw[h] at hj;rw[hb];exact hj
  rw[h] at hj;exact hj
 have eQ:∀j,((br s.h id (.row e ps)) j).live->(s.h j).live:=by
  intro j hj
  rcases bD s.h id (.row e ps) j with⟨rfl,h⟩ | ⟨h1,h⟩
  ·exact bZ
  rw[h] at hj;exact hj
 have back:∀j g,hasB w (br s.h id (.row e ps) j) (rho j) g->hasB w (s.h j) (rho j) g:=fun j g h=>by
  rcases bD s.h id (.row e ps) j with⟨rfl,h'⟩ | ⟨h1,h'⟩
  ·rw[h'] at h;exact .inl (a6 rfl h)
  rw[h'] at h;exact h
 exact⟨fun b=>S b\/I b,rho,
 {tm:=fun j hj=>(sim.tm j hj).lz T
  sz:=sim.sz,df:=sim.df,nb:=sim.nb,pn:=sim.pn
  ev:=hC.env _ _ _ _ sim.ev (fun b h=>.inl h) (fun _ _=>rfl) (Nat.le_refl _)
  s0:=fun b h=>.inl (sim.s0 b h)
  st:=fun b h=>h.elim (sim.st b) fun h=>(sim.lv id b trivial bZ (Rr b h)).1
  sb:=fun b h=>h.elim (sim.sb b) fun h=>.inr (sim.lv id b trivial bZ (Rr b h)).2.2
  hp:=fun j hj=>by
   rcases bD s.h id (.row e ps) j with⟨rfl,h⟩ | ⟨h1,h⟩
   ·show eC _ _ _ _ _ _ _ (br s.h j (.row e ps) j)
    rw[h]
    refine hR.re hps.len (fun p q q2 z1 z2=>(hps.row p q q2 z1 z2).1) (fun p q q2 m x x2 v z1 z2 z3 z4 hcell hx=>?_)
    have:=(hps.row p q q2 z1 z2).2 m x x2 z3 z4
    cases this with
    | p x=>exact (bF.fI hx).mono (fun b h=>.inl h) (fun _ _=>rfl)
    | nl=>
     have hx:bF S w A.C.P cN rho s.h .nl v:=hx
     cases hx
     exact .nil _ _
    | row e' xs=>
     have hx:aR A.C.P w (bu S w) e' xs v:=hx
     refine aR.zT hx (fun b h=>.inl h) fun b hb'=>.inr ?_
     rw[hI]
     obtain⟨g,u,g1,g2,_⟩:=hR.zM z1 z3
     obtain⟨q',_,_,c1,_,c2⟩:=dM.1 g2
     rw[z1] at c1
     injection c1 with c1
     subst c1
     have:=kL (hcell g g1) c2
     subst this
     exact⟨g,p,m,v,g1,g2,hb'⟩
   show eC _ _ _ _ _ _ _ (br s.h id (.row e ps) j)
   rw[h]
   exact (sim.hp j hj).lz T (fun _ _ _=>rfl) (fun _=>rfl)
  dj:=fun i j g hi hj li lj eR iC=>sim.dj i j g hi hj (eQ i li) (eQ j lj) (back i g eR) (back j g iC)
  lv:=fun i g hi li hg=>by
   obtain⟨h3,h4,h5⟩:=sim.lv i g hi (eQ i li) (back i g hg)
   refine⟨h3,fun h=>h.elim h4 fun h=>?_,h5⟩
   have:=sim.dj i id g hi trivial (eQ i li) bZ (back i g hg) (Rr g h)
   subst this
   have hg:hasB w (br s.h i (.row e ps) i) (rho i) g:=hg
   rw[aO] at hg
   exact Oi g h (a6 rfl hg)
  fr:=sim.fr }⟩
theorem aW.Oj {A:cV} (hC:bV A.C) (s:AS) (id j:Nat) (cs:List AV) (hb:s.h id=.box cs) (hn:cs[j]?=some .nl):aW A s ⟨s.t,br s.h id (.box (cs.set j (.p (.im (.slice none 0 0)))))⟩:=by
 intro S rho a w sim
 refine⟨S,rho,sim.write hC id trivial (by rw[hb];trivial) _ (fun _ h=>by cases h) w rfl rfl rfl rfl (fun _ _=>rfl) fun T=>?_⟩
 have hh:=sim.hp id trivial
 rw[hb] at hh
 obtain⟨g,ty,c,k1,k2,k3,k4⟩:=hh
 refine⟨g,ty,c,k1,k2,by rw[k3,List.length_set],fun q x u hi hu=>?_⟩
 by_cases ei:q=j
 ·subst ei
  rw[List.getElem?_set_self (aP hn)] at hi
  injection hi with hi
  subst hi
  obtain⟨k5,k6⟩:=k4 q _ u hn hu
  have:u=.slice none 0 0:=by cases k6;rfl
  rw[this]
  exact⟨rfl,.p _ _ (.im _)⟩
 rw[List.getElem?_set_ne (fun e=>ei e.symm)] at hi
 obtain⟨k5,k6⟩:=k4 q x u hi hu
 exact⟨k5,k6.lz T⟩
end Go.AM
namespace Go.AM
open Go.RowKit
theorem lI {C:Ctx} {o:Oper} {rho:Operand->AV} {h:Nat->AB} {K K':KK} (hk:∀v e n,K v e n->K' v e n) (hq:bY C o rho h K):bY C o rho h K':=by
 obtain⟨v,e,n,h1,h2⟩:=oG (fun _=>.inr rfl) hq
 exact h2 _ (hk _ _ _ h1)
theorem CN {C:Ctx} {o:Oper} {K K':AS->Prop} {s:AS} (hk:∀s,K s->K' s) (hq:pg C o K s):pg C o K' s:=by
 unfold pg at hq ⊢
 split at hq
 ·exact lI (fun v e n h=>hk _ h) hq
 split at hq
 ·split at hq
  ·split at hq
   ·split at hq <;> exact hk _ hq
   ·split at hq <;> exact hk _ hq
   exact hk _ hq
  exact hk _ hq
 refine lI (fun v e n h=>?_) hq
 cases n with
 | none=>exact hk _ h
 | some b=>exact h
theorem rV {C:Ctx} {o:Oper} {K K':AS->Prop} {s:AS} (hk:∀s,K s->K' s) (hq:step C o K s):step C o K' s:=by
 unfold step at hq ⊢
 split at hq
 ·exact⟨hk _ hq.1,hk _ hq.2⟩
 exact CN hk hq
theorem jV {b:Bool} {p q p' q':Prop} (h1:p->p') (h2:q->q') (h:fj b p q):fj b p' q':=by
 cases b <;> simp only[fj] at h ⊢
 ·exact h2 h
 exact h1 h
theorem Fm {C:Ctx} {all:List Oper} {K K':AS->Prop} (hk:∀s,K s->K' s):∀(l:List Oper) (s:AS),cX C all l K s->cX C all l K' s:=by
 intro l
 induction l with
 | nil=>intro s h;exact hk _ h
 | cons o l ih=>
  intro s h
  unfold cX at h ⊢
  split at h
  ·exact rV ih h
  split at h
  ·exact h.elim
  split at h
  ·exact h.elim
  split at h
  ·rename_i want _ _ _ _ _ _ _
   refine jV (fun h=>?_) (fun h=>?_) h
   ·split at h
    ·exact rV ih h
    exact ih _ h
   split at h
   ·exact rV ih h
   exact ih _ h
  ·exact ih _ h
  exact h.elim
theorem pI {C:Ctx} {ap f:Bool} {X:List Nat} {o:Oper} {K K':AS->Prop} {s:AS} (hk:∀s,K s->K' s) (hq:iY C ap X f o K s):iY C ap X f o K' s:=by
 unfold iY at hq ⊢
 split at hq
 ·refine lI (fun v e n h=>?_) hq
  split at h
  ·exact h
  split at h
  ·split at h
   ·exact hk _ h
   exact h
  split at h
  ·exact hk _ h
  exact h
 exact hq
theorem Fo {C:Ctx} {ap:Bool} {X:List Nat} {all:List Oper} {K K':AS->Prop} (hk:∀s,K s->K' s):∀(l:List Oper) (fl:List Bool) (s:AS),dx C ap X all fl l K s->dx C ap X all fl l K' s:=by
 intro l
 induction l with
 | nil=>intro fl s h;cases fl <;> exact hk _ h
 | cons o l ih=>
  intro fl s h
  cases fl with
  | nil=>exact h
  | cons f fl=>
  unfold dx at h ⊢
  split at h
  ·exact pI (ih fl) h
  split at h
  ·exact h.elim
  split at h
  ·exact h.elim
  split at h
  ·refine jV (fun h=>?_) (fun h=>?_) h
   ·split at h
    ·exact pI (ih fl) h
    exact ih fl _ h
   split at h
   ·exact pI (ih fl) h
   exact ih fl _ h
  ·exact ih fl _ h
  exact h.elim
theorem oL {f f':AS->Prop} {K K':Exit->AS->Prop} (hf:∀s,f s->f' s) (hk:∀e s,K e s->K' e s):∀e s,zg f K e s->zg f' K' e s:=by
 intro e s h
 cases e <;> first | exact hf _ h | exact hk _ _ h
theorem uH {id:Nat} {K K':Exit->AS->Prop} (hk:∀e s,K e s->K' e s):∀e s,nT id K e s->nT id K' e s:=by
 intro e s h
 cases e <;> first | exact hk _ _ h | exact jV (hk _ _) (hk _ _) h
theorem uI {A:cV}:∀(c:Code) (K K':Exit->AS->Prop) (s:AS),(∀e s,K e s->K' e s)->iZ A c K s->iZ A c K' s:=by
 intro c
 induction c with
 | skip=>intro K K' s hk h;exact hk _ _ h
 | region id ops draw=>
  intro K K' s hk h
  cases draw with
  | false=>exact Fm (hk _) _ _ h
  | true=>obtain⟨X,h⟩:=h;exact⟨X,Fo (fun _ h=>hk _ _ h) _ _ _ h⟩
 | seq a b Mi Mj=>intro K K' s hk h;exact Mi _ _ _ (oL (fun s h=>by obtain⟨s2,h1,h2⟩:=h;exact⟨s2,h1,Mj _ _ _ hk h2⟩) hk) h
 | cond c a b Mi Mj=>
  intro K K' s hk h
  simp only[iZ] at h ⊢
  split at h
  ·exact jV (Mi _ _ _ hk) (Mj _ _ _ hk) h
  exact h
 | block id c ih=>intro K K' s hk h;exact ih _ _ _ (uH hk) h
 | loop c ih=>
  intro K K' s hk h
  obtain⟨α,I,m,h0,hr⟩:=h
  exact⟨α,I,m,h0,fun x s hi=>ih _ _ _ (oL (fun _ h=>h) hk) (hr x s hi)⟩
 | exit id=>intro K K' s hk h;exact hk _ _ h
 | ret=>intro K K' s hk h;exact hk _ _ h
 | rangeFunc=>intro K K' s _ h;exact h.elim
 | scope=>intro K K' s _ h;exact h.elim
 | label=>intro K K' s _ h;exact h.elim
 | goto=>intro K K' s _ h;exact h.elim
 | refuse=>intro K K' s _ h;exact h.elim
def sY {α:Type} (R:α->Prop) (ts:α->List (Nat×AV)) (hs:α->List (Nat×AB)) (s:AS):Prop:=∃y,R y/\nC (ts y) s.t/\nC (hs y) s.h
theorem sY.go {α:Type} {R:α->Prop} {ts:α->List (Nat×AV)} {hs:α->List (Nat×AB)} {f:AS->Prop} (h2:∀y,R y->∀t h,f ⟨mC (ts y) t,mC (hs y) h⟩) {s:AS} (h:sY R ts hs s):f s:=by
 obtain⟨y,h1,h3,h4⟩:=h
 have:=h2 y h1 s.t s.h
 rwa [qv _ _ h3,qv _ _ h4] at this
theorem cut {A:cV} {c:Code} {f:AS->Prop} {K:Exit->AS->Prop} {s:AS} {α:Type} (R:α->Prop) (ts:α->List (Nat×AV)) (hs:α->List (Nat×AB))
  (h2:∀y,R y->∀t h,f ⟨mC (ts y) t,mC (hs y) h⟩) (h1:iZ A c (zg (sY R ts hs) K) s):iZ A c (zg f K) s:=
 uI c _ _ s (oL (fun _ h=>h.go h2) fun _ _ h=>h) h1
theorem CO {α:Type} {R:α->Prop} {ts:α->List (Nat×AV)} {hs:α->List (Nat×AB)} {K:Exit->AS->Prop} (h2:∀y,R y->∀t h,K .normal ⟨mC (ts y) t,mC (hs y) h⟩):∀e s,zg (sY R ts hs) K e s->K e s:=by
 intro e s h
 cases e <;> first | exact h | exact sY.go h2 h
theorem Rs {A:cV} {c:Code} {id:Nat} {K:Exit->AS->Prop} {s:AS} {α:Type} (R:α->Prop) (ts:α->List (Nat×AV)) (hs:α->List (Nat×AB))
  (h2:∀y,R y->∀t h,K .normal ⟨mC (ts y) t,mC (hs y) h⟩) (h1:iZ A c (nT id (zg (sY R ts hs) K)) s):iZ A c (nT id K) s:=
 uI c _ _ s (uH (CO h2)) h1
end Go.AM
namespace Go.AM
open Go.RowKit
theorem zI {Q:KK->Prop} (k:KK) (h:Q k):Q k:=h
structure AF (F:AS->Prop) (t:Nat->AV) (h:Nat->AB):Prop where
 out:F ⟨t,h⟩
structure QO (C:Ctx) (o:Oper) (t:Nat->AV) (h:Nat->AB) (k:KK):Prop where
 out:bY C o (ev t) h k
structure ST (F:AS->Prop) (t:Nat->AV) (d:Option Tmp) (v:AV) (h:Nat->AB) (e:List (Nat×AB)):Prop where
 out:F ⟨eu t d v,app h e⟩
structure SN (F:AS->Prop) (t:Nat->AV) (d:Option Tmp) (v:AV) (h:Nat->AB) (e:List (Nat×AB)) (dd:Nat) (b:AB):Prop where
 out:F ⟨eu t d v,br (app h e) dd b⟩
structure KQ (F:AS->Prop) (d:Option Tmp) (t:Nat->AV) (h:Nat->AB) (v:AV) (e:List (Nat×AB)) (n:Option AB):Prop where
 out:match n with
  | none=>F ⟨eu t d v,app h e⟩
  | some _=>False
structure KN (F:AS->Prop) (d:Option Tmp) (dd:Nat) (t:Nat->AV) (h:Nat->AB) (v:AV) (e:List (Nat×AB)) (n:Option AB):Prop where
 out:F ⟨eu t d v,match n with
  | none=>br (app h e) dd .none
  | some b=>app (br h dd b) e⟩
structure KD (C:Ctx) (ap:Bool) (X:List Nat) (f:Bool) (o:Oper) (F:AS->Prop) (t:Nat->AV) (h:Nat->AB) (v:AV) (e:List (Nat×AB)) (n:Option AB):Prop where
 out:match nQ o.op n o.dst with
   | false=>False
   | true=>match Nat.beq (cls C ap o.op) 3 with
    | true=>match fL h e && (ap || gW h e) && I0 X f h e with
     | true=>F ⟨eu t o.dst v,qg (app h e) (o.dst.getD 0) n⟩
     | false=>False
    | false=>match e with
     | []=>F ⟨eu t o.dst v,qg h (o.dst.getD 0) n⟩
     | _=>False
theorem ai {F:AS->Prop} {t:Nat->AV} {h:Nat->AB} (q:F ⟨t,h⟩):AF F t h:=⟨q⟩
section
variable {C:Ctx} {o:Oper} {t:Nat->AV} {h:Nat->AB} {k0:KK}
theorem aA {v:AV} {e:List (Nat×AB)} {n:Option AB} (hq:∀k:KK,k v e n->bY C o (ev t) h k) (q:k0 v e n):QO C o t h k0:=⟨hq _ q⟩
theorem bg {P:Prop} {R:KK->Prop} (hq:∀k:KK,(P/\R k)->bY C o (ev t) h k) (q:P/\R k0):QO C o t h k0:=⟨hq _ q⟩
theorem Rt {R R':KK->Prop} (hq:∀k:KK,(R k\/R' k)->bY C o (ev t) h k) (q:R k0\/R' k0):QO C o t h k0:=⟨hq _ q⟩
theorem aK {α:Type} {R:α->KK->Prop} (hq:∀k:KK,(∃r,R r k)->bY C o (ev t) h k) (q:∃r,R r k0):QO C o t h k0:=⟨hq _ q⟩
end
section
variable {F:AS->Prop} {t:Nat->AV} {h:Nat->AB} {d:Tmp}
theorem an {v:AV} (q:AF F t h):ST F t none v h []:=⟨q.out⟩
theorem ae {x:PV} (q:AF F (br t d (.p x)) h):ST F t (some d) (.p x) h []:=⟨q.out⟩
theorem HA (q:AF F (br t d .nl) h):ST F t (some d) .nl h []:=⟨q.out⟩
theorem af {i:Nat} (q:AF F (br t d (.ow i)) h):ST F t (some d) (.ow i) h []:=⟨q.out⟩
theorem bJ {i j k:Nat} (q:AF F (br t d (.rp i j k)) h):ST F t (some d) (.rp i j k) h []:=⟨q.out⟩
theorem ak {i j:Nat} (q:AF F (br t d (.bx i j)) h):ST F t (some d) (.bx i j) h []:=⟨q.out⟩
theorem uJ {i j k:Nat} (q:AF F (br t d (.vw i j k)) h):ST F t (some d) (.vw i j k) h []:=⟨q.out⟩
theorem mE {f:FuncId} {c:List AV} (q:AF F (br t d (.fn f c)) h):ST F t (some d) (.fn f c) h []:=⟨q.out⟩
theorem bq {xs:List AV} (q:AF F (br t d (.tu xs)) h):ST F t (some d) (.tu xs) h []:=⟨q.out⟩
theorem aF {i:Nat} {b:AB} {r:List (Nat×AB)} {v:AV} {d:Option Tmp} (q:ST F t d v (br h i b) r):ST F t d v h ((i,b)::r):=⟨q.out⟩
theorem fM {i dd:Nat} {b b':AB} {r:List (Nat×AB)} {v:AV} {d:Option Tmp} (q:SN F t d v (br h i b) r dd b'):SN F t d v h ((i,b)::r) dd b':=⟨q.out⟩
theorem g_ {dd:Nat} {b:AB} {v:AV} {d:Option Tmp} (q:ST F t d v (br h dd b) []):SN F t d v h [] dd b:=⟨q.out⟩
theorem bd {v:AV} {e:List (Nat×AB)} {d:Option Tmp} (q:ST F t d v h e):KQ F d t h v e none:=⟨q.out⟩
theorem b9 {v:AV} {e:List (Nat×AB)} {d:Option Tmp} {dd:Nat} (h0:h dd=.none) (h1:p8 dd e=true) (q:ST F t d v h e):KN F d dd t h v e none:=⟨by
 have:br (app h e) dd .none=app h e:=eU _ _ _ ((jP (h:=h) h1).trans h0)
 show F ⟨eu t d v,br (app h e) dd .none⟩
 rw[this]
 exact q.out⟩
theorem aS {v:AV} {e:List (Nat×AB)} {d:Option Tmp} {dd:Nat} {b:AB} (q:ST F t d v (br h dd b) e):KN F d dd t h v e (some b):=⟨q.out⟩
variable {C:Ctx} {ap f:Bool} {X:List Nat} {o:Oper}
theorem bB {v:AV} (q:ST F t o.dst v h []):KD C ap X f o F t h v [] none:=⟨by
 simp only[nQ,fL,gW,yf,Bool.or_true,Bool.and_true]
 split <;> exact q.out⟩
theorem jA {v:AV} {b:AB} {d:Tmp} (hd:o.dst=some d) (hm:gV o.op=true) (q:ST F t (some d) v (br h d b) []):KD C ap X f o F t h v [] (some b):=⟨by
 simp only[nQ,hd,hm,fL,gW,yf,Bool.or_true,Bool.and_true]
 split <;> exact q.out⟩
theorem iG {v:AV} {e:List (Nat×AB)} (hc:(Nat.beq (cls C ap o.op) 3 && (fL h e && (ap || gW h e) && I0 X f h e))=true) (q:ST F t o.dst v h e):KD C ap X f o F t h v e none:=⟨by
 simp only[Bool.and_eq_true] at hc
 obtain⟨h1,⟨h2,h3⟩,h4⟩:=hc
 simp only[nQ,h1,h2,h3,h4,Bool.and_true]
 exact q.out⟩
theorem hD {v:AV} {e:List (Nat×AB)} {b:AB} {d:Tmp} (hd:o.dst=some d) (hm:gV o.op=true) (hc:(Nat.beq (cls C ap o.op) 3 && (fL h e && (ap || gW h e) && I0 X f h e))=true) (q:SN F t (some d) v h e d b):KD C ap X f o F t h v e (some b):=⟨by
 simp only[Bool.and_eq_true] at hc
 obtain⟨h1,⟨h2,h3⟩,h4⟩:=hc
 simp only[nQ,hd,hm,h1,h2,h3,h4,Bool.and_true]
 exact q.out⟩
end
def HB (d:Nat) (t:Nat->AV) (j:Nat):AV:=sc d (t j)
def HD (d:Nat) (h:Nat->AB):Nat->AB:=br (fun k=>rH d (h k)) d .none
def Rx (i d:Nat) (t:Nat->AV) (j:Nat):AV:=rn i d (t j)
def Ry (i d:Nat) (h:Nat->AB) (j:Nat):AB:=match cW j d with
 | true=>GY i d (h i)
 | false=>match cW j i with
  | true=>.none
  | false=>GY i d (h j)
def Av (o:Oper):Bool:=match o.op with
 | .assign _=>false
 | _=>true
def nW (o:Oper):Bool:=!gV o.op && Av o
def mF:AB->Bool
 | .row _ _=>true
 | .aL _ _=>true
 | _=>false
section
variable {C:Ctx} {o:Oper} {F:AS->Prop} {t:Nat->AV} {h:Nat->AB} {d:Tmp}
theorem bA (hn:qo C o t=false) (hm:nW o=true) (q:QO C o t h (KQ F o.dst t h)):AF (step C o F) t h:=⟨by
 simp only[nW,Bool.and_eq_true,Bool.not_eq_true'] at hm
 obtain⟨h1,h2⟩:=hm
 unfold step
 simp only[hn]
 unfold pg
 rw[h1]
 simp only
 have key:bY C o (ev t) h (fun v eff new=>match new with
   | none=>F ⟨eu t o.dst v,app h eff⟩
   | some _=>False):=lI (fun v e n hk=>hk.out) q.out
 split
 ·rename_i x d' aU _
  rw[Av,aU] at h2
  cases h2
 exact key⟩
theorem jB (hn:qo C o t=false) (hd:o.dst=some d) (hm:gV o.op=true) (q:QO C o (HB d t) (HD d h) (KN F (some d) d (HB d t) (HD d h))):AF (step C o F) t h:=⟨by
 unfold step
 simp only[hn]
 unfold pg
 rw[hm]
 simp only[hd]
 exact lI (fun v e n hk=>by cases n <;> exact hk.out) q.out⟩
theorem jW {x:Operand} {v:AV} (ho:o.op=.assign x) (hd:o.dst=some d) (hv:ev t x=v) (hn:∀i,v=.ow i->mF (h i)=false) (q:ST F t (some d) v h []):AF (step C o F) t h:=⟨by
 unfold step
 simp only[qo,ho]
 unfold pg
 rw[ho]
 simp only[gV,hd]
 rw[hv]
 split
 ·rename_i i
  have:=hn i rfl
  split
  ·rename_i e es he
   rw[he] at this
   cases this
  ·rename_i e es he
   rw[he] at this
   cases this
  exact q.out
 exact q.out⟩
theorem nX {h:Nat->AB} {v:AV} (hv:(match v with | .ow _=>false | _=>true)=true):∀i,v=.ow i->mF (h i)=false:=fun i e=>by subst e;cases hv
theorem Eb {h:Nat->AB} {i:Nat} (hh:mF (h i)=false):∀j,AV.ow i=.ow j->mF (h j)=false:=fun j e=>by injection e with e;subst e;exact hh
theorem cr {x:Operand} {i:Nat} (ho:o.op=.assign x) (hd:o.dst=some d) (hv:ev t x=.ow i) (hh:mF (h i)=true) (b8:cW i d=false) (q:AF F (br (Rx i d t) d (.ow d)) (Ry i d h)):AF (step C o F) t h:=⟨by
 unfold step
 simp only[qo,ho]
 unfold pg
 rw[ho]
 simp only[gV,hd]
 rw[hv]
 cases hb:h i <;> rw[hb] at hh <;> first | (cases hh;done) | (simp only[hb,b8];exact q.out)⟩
theorem Ms (hn:qo C o t=true) (hd:o.dst=some d) (q:AF F (br t d (.p (.im (.bool true)))) h/\AF F (br t d (.p (.im (.bool false)))) h):AF (step C o F) t h:=⟨by
 unfold step
 simp only[hn,hd]
 exact⟨q.1.out,q.2.out⟩⟩
variable {ap f:Bool} {X:List Nat}
theorem c_ (hf:kV C ap X f o (ev t)=true) (q:QO C o t h (KD C ap X f o F t h)):AF (iY C ap X f o F) t h:=⟨by
 unfold iY
 rw[hf]
 exact lI (fun v e n hk=>hk.out) q.out⟩
end
section
variable {C:Ctx} {o og:Oper} {K:AS->Prop} {t:Nat->AV} {h:Nat->AB} {tg d:Tmp} {all r:List Oper} {g:Nat} {want b:Bool} {ap f:Bool} {X:List Nat} {fl:List Bool}
theorem cL (q:AF K t h):AF (cX C all [] K) t h:=⟨q.out⟩
theorem cD (hg:o.guard=none) (q:AF (step C o (cX C all r K)) t h):AF (cX C all (o::r) K) t h:=⟨by
 unfold cX;rw[hg];exact q.out⟩
def I1 (run:Bool) (o:Oper) (F G:AS->Prop) (s:AS):Prop:=match run with
 | true=>F s
 | false=>G ⟨eu s.t o.dst kD,s.h⟩
theorem bS {F G:AS->Prop} (q:AF F t h):AF (I1 true o F G) t h:=⟨q.out⟩
theorem cB {F G:AS->Prop} (q:ST G t o.dst kD h []):AF (I1 false o F G) t h:=⟨q.out⟩
theorem Rz (hg:o.guard=some (g,want)) (ho:all[g]?=some og) (hd:og.dst=some tg) (hb:t tg=.p (.im (.bool b))) (q:fj b (AF (I1 want o (step C o (cX C all r K)) (cX C all r K)) (br t tg (ew true)) h) (AF (I1 (!want) o (step C o (cX C all r K)) (cX C all r K)) (br t tg (ew false)) h)):AF (cX C all (o::r) K) t h:=⟨by
 unfold cX
 rw[hg]
 simp only[ho,hd,hb]
 cases b <;> cases want <;> simp only[fj,Bool.not_true,Bool.not_false] at q ⊢ <;> exact q.out⟩
theorem K6 (hg:o.guard=some (g,want)) (ho:all[g]?=some og) (hd:og.dst=some tg) (hb:t tg=.p (.im (.bool want))) (q:AF (step C o (cX C all r K)) t h):AF (cX C all (o::r) K) t h:=⟨by
 unfold cX
 rw[hg]
 simp only[ho,hd,hb]
 have e:br t tg (ew want)=t:=eU _ _ _ hb
 cases want <;> (simp only[fj];rw[e];exact q.out)⟩
theorem Ol (hg:o.guard=some (g,want)) (ho:all[g]?=some og) (hd:og.dst=some tg) (hb:t tg=.p (.im (.bool (!want)))) (q:ST (cX C all r K) t o.dst kD h []):AF (cX C all (o::r) K) t h:=⟨by
 unfold cX
 rw[hg]
 simp only[ho,hd,hb]
 have e:br t tg (ew !want)=t:=eU _ _ _ hb
 cases want <;> (simp only[Bool.not_true,Bool.not_false] at e ⊢;simp only[fj];rw[e];exact q.out)⟩
theorem a8 {xs:Array Value} (hg:o.guard=some (g,want)) (ho:all[g]?=some og) (hd:og.dst=some tg) (hb:t tg=.p (.im (.tuple xs))) (q:ST (cX C all r K) t o.dst kD h []):AF (cX C all (o::r) K) t h:=⟨by
 unfold cX
 rw[hg]
 simp only[ho,hd,hb]
 exact q.out⟩
theorem cn (q:AF K t h):AF (dx C ap X all fl [] K) t h:=⟨by cases fl <;> exact q.out⟩
theorem Mt (hg:o.guard=none) (q:AF (iY C ap X f o (dx C ap X all fl r K)) t h):AF (dx C ap X all (f::fl) (o::r) K) t h:=⟨by
 unfold dx;rw[hg];exact q.out⟩
theorem RA (hg:o.guard=some (g,want)) (ho:all[g]?=some og) (hd:og.dst=some tg) (hb:t tg=.p (.im (.bool b))) (q:fj b (AF (I1 want o (iY C ap X f o (dx C ap X all fl r K)) (dx C ap X all fl r K)) (br t tg (ew true)) h) (AF (I1 (!want) o (iY C ap X f o (dx C ap X all fl r K)) (dx C ap X all fl r K)) (br t tg (ew false)) h)):AF (dx C ap X all (f::fl) (o::r) K) t h:=⟨by
 unfold dx
 rw[hg]
 simp only[ho,hd,hb]
 cases b <;> cases want <;> simp only[fj,Bool.not_true,Bool.not_false] at q ⊢ <;> exact q.out⟩
theorem K7 (hg:o.guard=some (g,want)) (ho:all[g]?=some og) (hd:og.dst=some tg) (hb:t tg=.p (.im (.bool want))) (q:AF (iY C ap X f o (dx C ap X all fl r K)) t h):AF (dx C ap X all (f::fl) (o::r) K) t h:=⟨by
 unfold dx
 rw[hg]
 simp only[ho,hd,hb]
 have e:br t tg (ew want)=t:=eU _ _ _ hb
 cases want <;> (simp only[fj];rw[e];exact q.out)⟩
theorem Om (hg:o.guard=some (g,want)) (ho:all[g]?=some og) (hd:og.dst=some tg) (hb:t tg=.p (.im (.bool (!want)))) (q:ST (dx C ap X all fl r K) t o.dst kD h []):AF (dx C ap X all (f::fl) (o::r) K) t h:=⟨by
 unfold dx
 rw[hg]
 simp only[ho,hd,hb]
 have e:br t tg (ew !want)=t:=eU _ _ _ hb
 cases want <;> (simp only[Bool.not_true,Bool.not_false] at e ⊢;simp only[fj];rw[e];exact q.out)⟩
theorem gu {xs:Array Value} (hg:o.guard=some (g,want)) (ho:all[g]?=some og) (hd:og.dst=some tg) (hb:t tg=.p (.im (.tuple xs))) (q:ST (dx C ap X all fl r K) t o.dst kD h []):AF (dx C ap X all (f::fl) (o::r) K) t h:=⟨by
 unfold dx
 rw[hg]
 simp only[ho,hd,hb]
 exact q.out⟩
theorem zP {x:PV} (hn:qo C o t=false) (hg:o.guard=none) (hm:nW o=true) (hd:o.dst=some d) (hq:∀k:KK,k (.p x) [] none->bY C o (ev t) h k) (q:AF (cX C all r K) (br t d (.p x)) h):AF (cX C all (o::r) K) t h:=
 cD hg (bA hn hm (aA hq (bd (by rw[hd];exact ae q))))
theorem zV {v:AV} (hn:qo C o t=false) (hg:o.guard=none) (hm:nW o=true) (hd:o.dst=some d) (hq:∀k:KK,k v [] none->bY C o (ev t) h k) (q:AF (cX C all r K) (br t d v) h):AF (cX C all (o::r) K) t h:=
 cD hg (bA hn hm (aA hq (bd (by rw[hd];exact⟨q.out⟩))))
theorem zD {x:PV} (hg:o.guard=none) (hf:kV C ap X f o (ev t)=true) (hd:o.dst=some d) (hq:∀k:KK,k (.p x) [] none->bY C o (ev t) h k) (q:AF (dx C ap X all fl r K) (br t d (.p x)) h):AF (dx C ap X all (f::fl) (o::r) K) t h:=
 Mt hg (c_ hf (aA hq (bB (by rw[hd];exact ae q))))
theorem zW {v:AV} (hg:o.guard=none) (hf:kV C ap X f o (ev t)=true) (hd:o.dst=some d) (hq:∀k:KK,k v [] none->bY C o (ev t) h k) (q:AF (dx C ap X all fl r K) (br t d v) h):AF (dx C ap X all (f::fl) (o::r) K) t h:=
 Mt hg (c_ hf (aA hq (bB (by rw[hd];exact⟨q.out⟩))))
end
def CQ (l:List Oper) (G:AS->Prop) (s:AS):Prop:=G (qu l s)
def qx (l:List Oper) (G:AS->Prop) (s:AS):Prop:=G (sV l s)
section
variable {G:AS->Prop} {o:Oper} {r l:List Oper} {t:Nat->AV} {h:Nat->AB} {d i:Nat}
theorem RC (q:AF G t h):AF (CQ [] G) t h:=⟨q.out⟩
theorem cA (hm:gV o.op=true) (hd:o.dst.getD 0=d) (q:AF (CQ r G) (HB d t) (HD d h)):AF (CQ (o::r) G) t h:=⟨by
 show G (qu (o::r) _)
 unfold qu
 rw[hm,hd]
 exact q.out⟩
theorem ay (hm:gV o.op=false) (q:AF (CQ r G) t h):AF (CQ (o::r) G) t h:=⟨by
 show G (qu (o::r) _)
 unfold qu
 rw[hm]
 exact q.out⟩
theorem cG (hm:(l.all fun o=>!gV o.op)=true) (q:AF G t h):AF (CQ l G) t h:=by
 induction l with
 | nil=>exact RC q
 | cons o l ih=>
  simp only[List.all_cons,Bool.and_eq_true,Bool.not_eq_true'] at hm
  exact ay hm.1 (ih (by simpa using hm.2))
theorem RD (q:AF G t h):AF (qx [] G) t h:=⟨q.out⟩
theorem aq (hm:Av o=true) (q:AF (qx r G) t h):AF (qx (o::r) G) t h:=⟨by
 show G (sV r (jj o _))
 have:∀s,jj o s=s:=fun s=>by
  unfold jj
  split
  ·rename_i aU _
   rw[Av,aU] at hm
   cases hm
  rfl
 rw[this]
 exact q.out⟩
theorem fo (hm:l.all Av=true) (q:AF G t h):AF (qx l G) t h:=by
 induction l with
 | nil=>exact RD q
 | cons o l ih=>
  simp only[List.all_cons,Bool.and_eq_true] at hm
  exact aq hm.1 (ih hm.2)
def HE (t:Nat->AV) (h:Nat->AB) (d:Nat):Bool:=match t d with
 | .ow i=>mF (h i)
 | _=>false
theorem dW (hd:o.dst=some d) (hm:HE t h d=false) (q:AF (qx r G) t h):AF (qx (o::r) G) t h:=⟨by
 show G (sV r (jj o _))
 have:jj o ⟨t,h⟩=⟨t,h⟩:=by
  unfold jj
  split
  ·rename_i d' _ tz
   rw[hd] at tz
   injection tz with tz
   subst tz
   simp only
   split
   ·rename_i i hi
    split
    ·rename_i e es he
     rw[HE,hi] at hm
     simp only[he,mF] at hm
     cases hm
    ·rename_i e es he
     rw[HE,hi] at hm
     simp only[he,mF] at hm
     cases hm
    rfl
   rfl
  rfl
 rw[this]
 exact q.out⟩
theorem Fp {x:Operand} (ho:o.op=.assign x) (hd:o.dst=some d) (ht:t d=.ow i) (hh:mF (h i)=true) (b8:cW i d=false) (q:AF (qx r G) (Rx i d t) (Ry i d h)):AF (qx (o::r) G) t h:=⟨by
 show G (sV r (jj o _))
 have:jj o ⟨t,h⟩=⟨Rx i d t,Ry i d h⟩:=by
  unfold jj
  rw[ho,hd]
  simp only[ht]
  cases hb:h i <;> rw[hb] at hh <;> first | (cases hh;done) | (simp only[hb,b8];rfl)
 rw[this]
 exact q.out⟩
end
section
variable {A:cV} {K:Exit->AS->Prop} {a b c:Code} {t:Nat->AV} {h:Nat->AB} {id i:Nat} {l:List Oper} {f:AS->Prop}
theorem au (q:AF (iZ A a (zg (iZ A b K) K)) t h):AF (iZ A (.seq a b) K) t h:=⟨uI a _ _ _ (oL (fun s h=>⟨s,aW.refl _ _,h⟩) (fun _ _ h=>h)) q.out⟩
theorem fB (q:AF (iZ A a (zg (fun s'=>∃kU,aW A s' kU/\iZ A b K kU) K)) t h):AF (iZ A (.seq a b) K) t h:=⟨q.out⟩
theorem CR {s2:AS} (hl:aW A ⟨t,h⟩ s2) (q:AF (iZ A b K) s2.t s2.h):∃kU,aW A ⟨t,h⟩ kU/\iZ A b K kU:=⟨s2,hl,q.out⟩
theorem I2 (d:Nat) {y:PV} {fz:List (Nat×AB)} (hC:bV A.C) (h0:AM.gC h (t d) fun y' W0=>y'=y/\W0=fz) (q:AF (iZ A b K) (br t d (.p y)) (app h fz)):∃kU,aW A ⟨t,h⟩ kU/\iZ A b K kU:=⟨_,aW.gC hC ⟨t,h⟩ d h0,q.out⟩
theorem aJ (q:AF (K .normal) t h):AF (iZ A .skip K) t h:=⟨q.out⟩
theorem aZ (q:AF (iZ A c (nT id K)) t h):AF (iZ A (.block id c) K) t h:=⟨q.out⟩
theorem bT (q:AF (K (.exit id)) t h):AF (iZ A (.exit id) K) t h:=⟨q.out⟩
theorem bP (q:AF (K .ret) t h):AF (iZ A .ret K) t h:=⟨q.out⟩
theorem aM (q:AF (cX A.C l l (K .normal)) t h):AF (iZ A (.region id ⟨l⟩ false) K) t h:=⟨q.out⟩
theorem Z {α:Sort _} {a:α}:a=a:=rfl
theorem Y:True:=trivial
theorem sI {A B P:Prop} (q:P) (a:A:=by omega) (b:B:=by omega):(A/\B)/\P:=⟨⟨a,b⟩,q⟩
def Uy:List Bool:=[true,true,true,true,true]
def Zk:List Bool:=[true,true,true,true,true,true]
def Zl:List Bool:=[true,true,true,true,true,true,true]
def RE:List Bool:=[true,true,true,true,true,true,true,true]
def PL:List Bool:=[true,true,true,true,true,true,true,true,true]
def yy:List Bool:=[true,true,true,true,true,true,true,true,true,true,true]
def HF:List Bool:=[true,true,true,true,true,true,true,true,true,true,true,true]
def yz:List Bool:=[true,true,true,true,true,true,true,true,true,true,true,true,true]
def RG:List Bool:=[true,true,true,true,true,true,true,true,true,true,true,true,true,true]
def On:List Bool:=[true,true,true,true,true,true,true,true,true,true,true,true,true,true,true]
def JH:List Bool:=[true,true,true,true,true,true,true,true,true,true,true,true,true,true,true,true]
def nD:List Bool:=[true,true,true,true,true,true,true,true,true,true,true,true,true,true,true,true,true]
def HG:List Bool:=[true,true,true,true,true,true,true,true,true,true,true,true,true,true,true,true,true,true,true,true]
def RH:List Bool:=[true,true,true,true,true,true,true,true,true,true,true,true,true,true,true,true,true,true,true,true,true,true]
def RI:List Bool:=[true,true,true,true,true,true,true,true,true,true,true,true,true,true,true,true,true,true,true,true,true,true,true,true]
def RJ:List Bool:=[true,true,true,true,true,true,true,true,true,true,true,true,true,true,true,true,true,true,true,true,true,true,true,true,true,true]
def Y9:List Bool:=[true,true,true,true,true,true,true,true,true,true,true,true,true,true,true,true,true,true,true,true,true,true,true,true,true,true,true,true,true]
def Y3:List Bool:=[true,true,true,true,true,true,true,true,true,true,true,true,true,true,true,true,true,true,true,true,true,true,true,true,true,true,true,true,true,true,true,true,true,true,true,true,true,true,true]
theorem cH (X:List Nat) (ap:Bool) (fl:List Bool) (KW:(l.any fun o=>iF A.C o.op)=ap) (Ta:gX A.C ap ⟨l⟩=fl) (q:AF (CQ l (dx A.C ap X l fl l (qx l (K .normal)))) t h):AF (iZ A (.region id ⟨l⟩ true) K) t h:=⟨by
 subst KW;subst Ta;exact⟨X,q.out⟩⟩
theorem az {x y:Code} {c:Operand} {b:Bool} (hb:ev t c=.p (.im (.bool b))) (q:fj b (AF (iZ A x K) t h) (AF (iZ A y K) t h)):AF (iZ A (.cond c x y) K) t h:=⟨by
 unfold iZ
 rw[hb]
 exact jV (fun q=>q.out) (fun q=>q.out) q⟩
theorem aj (q:AF f t h):AF (zg f K .normal) t h:=⟨q.out⟩
theorem aY (q:AF (K (.exit i)) t h):AF (zg f K (.exit i)) t h:=⟨q.out⟩
theorem aX (q:AF (K .ret) t h):AF (zg f K .ret) t h:=⟨q.out⟩
theorem bp (q:AF (K .normal) t h):AF (nT id K .normal) t h:=⟨q.out⟩
theorem bW (q:AF (K .ret) t h):AF (nT id K .ret) t h:=⟨q.out⟩
theorem bU (q:AF (K .normal) t h):AF (nT id K (.exit id)) t h:=⟨by
 show fj (cW id id) _ _
 rw[bG.2 rfl]
 exact q.out⟩
theorem fy {p q:Prop} (h:p):fj true p q:=h
theorem cM {p q:Prop} (h:q):fj false p q:=h
theorem Mu {C:Ctx} {rs:List ResultVar} {args:List Arg} {r:AR} {fin:List Fin} {P Q:Prop} (hq:(P/\Q)->Fb C rs args r fin ⟨t,h⟩) (q:P/\Q):AF (ye C rs args r fin .normal) t h:=⟨hq q⟩
theorem bQ {C:Ctx} {rs:List ResultVar} {args:List Arg} {r:AR} {fin:List Fin} {P Q:Prop} (hq:(P/\Q)->Fb C rs args r fin ⟨t,h⟩) (q:P/\Q):AF (ye C rs args r fin .ret) t h:=⟨hq q⟩
theorem zi {P:Prop} (h:P):P:=h
theorem zA {P Q G:Prop} (hq:(P/\Q)->G) (q:P/\Q):G:=hq q
theorem zX {α:Type} {R:α->Prop} {G:Prop} (hq:(∃r,R r)->G) (q:∃r,R r):G:=hq q
theorem aI {α:Type} (R:α->Prop) (ts:α->List (Nat×AV)) (hs:α->List (Nat×AB)) (m:α->Nat) (x0:α) (s0:AS) (h0:aW A ⟨t,h⟩ s0) (hR:R x0) (ht:nC (ts x0) s0.t) (hh:nC (hs x0) s0.h)
  (round:∀x,R x->∀t h,AF (iZ A c (zg (fun s'=>∃y kU,aW A s' kU/\R y/\m y < m x/\nC (ts y) kU.t/\nC (hs y) kU.h) K)) (mC (ts x) t) (mC (hs x) h)):AF (iZ A (.loop c) K) t h:=
 ⟨JE R ts hs m x0 s0 h0 hR ht hh fun x hx t h=>(round x hx t h).out⟩
theorem RL {α:Type} (R:α->Prop) (ts:α->List (Nat×AV)) (hs:α->List (Nat×AB))
  (h2:∀y,R y->∀t h,AF f (mC (ts y) t) (mC (hs y) h)) (h1:AF (iZ A c (zg (sY R ts hs) K)) t h):AF (iZ A c (zg f K)) t h:=⟨cut R ts hs (fun y hy t h=>(h2 y hy t h).out) h1.out⟩
theorem nj {α:Type} (R:α->Prop) (ts:α->List (Nat×AV)) (hs:α->List (Nat×AB))
  (h2:∀y,R y->∀t h,AF (K .normal) (mC (ts y) t) (mC (hs y) h)) (h1:AF (iZ A c (nT id (zg (sY R ts hs) K))) t h):AF (iZ A c (nT id K)) t h:=⟨Rs R ts hs (fun y hy t h=>(h2 y hy t h).out) h1.out⟩
end
set_option linter.unusedVariables false in
theorem aT {C : Ctx} (hC : bV C) {f : FuncId} {fn : Func} {c : Code} (hf : C.P.funcs[f]? = some fn) (hb : fn.body = some c) (nP : (fn.name == "runtime.NumGoroutine") = false) {args : List Arg} {r : AR} {fin : List Fin} (n : Nat) (hn : args.length + (fn.ntmps - args.length) = n) (w_ : n ≤ 100000) (hok : f_ C n c = true)
  (h:∀(w0:World) (mv s0:Nat->Prop) (n:Nat) (pin:Nat->Value),AF (iZ ⟨C,w0,mv,s0,n,pin⟩ c (ye C fn.results.toList args r fin)) (sT args) (lF args)):aD C f args r fin:=
 JF hC hf hb nP n hn w_ hok fun A hA=>by
  obtain⟨_,_,_,_,_,_⟩:=A
  subst hA
  exact (h _ _ _ _ _).out
end Go.AM
namespace Go.AM
open Go.RowKit
section
variable {C:Ctx} {o og:Oper} {F K:AS->Prop} {t:Nat->AV} {h:Nat->AB} {tg d:Tmp} {all r l:List Oper} {g id:Nat} {want b:Bool} {ap f:Bool} {X:List Nat} {fl:List Bool}
theorem yP {x:PV} (e:(qo C o t,o.guard,nW o,o.dst,bY C o (ev t) h)=(false,none,true,some d,fun k=>k (.p x) [] none)) (q:AF (cX C all r K) (br t d (.p x)) h):AF (cX C all (o::r) K) t h:=by
 simp only[Prod.mk.injEq] at e
 obtain⟨e1,e2,e3,e4,e5⟩:=e
 exact zP e1 e2 e3 e4 (fun k hk=>by rw[e5];exact hk) q
theorem yV {v:AV} (e:(qo C o t,o.guard,nW o,o.dst,bY C o (ev t) h)=(false,none,true,some d,fun k=>k v [] none)) (q:AF (cX C all r K) (br t d v) h):AF (cX C all (o::r) K) t h:=by
 simp only[Prod.mk.injEq] at e
 obtain⟨e1,e2,e3,e4,e5⟩:=e
 exact zV e1 e2 e3 e4 (fun k hk=>by rw[e5];exact hk) q
theorem yD {x:PV} (e:(o.guard,kV C ap X f o (ev t),o.dst,bY C o (ev t) h)=(none,true,some d,fun k=>k (.p x) [] none)) (q:AF (dx C ap X all fl r K) (br t d (.p x)) h):AF (dx C ap X all (f::fl) (o::r) K) t h:=by
 simp only[Prod.mk.injEq] at e
 obtain⟨e1,e2,e3,e4⟩:=e
 exact zD e1 e2 e3 (fun k hk=>by rw[e4];exact hk) q
theorem yW {v:AV} (e:(o.guard,kV C ap X f o (ev t),o.dst,bY C o (ev t) h)=(none,true,some d,fun k=>k v [] none)) (q:AF (dx C ap X all fl r K) (br t d v) h):AF (dx C ap X all (f::fl) (o::r) K) t h:=by
 simp only[Prod.mk.injEq] at e
 obtain⟨e1,e2,e3,e4⟩:=e
 exact zW e1 e2 e3 (fun k hk=>by rw[e4];exact hk) q
theorem yA {x:Operand} {y:PV} (e:(o.guard,o.op,o.dst,ev t x)=(none,.assign x,some d,.p y)) (q:AF (cX C all r K) (br t d (.p y)) h):AF (cX C all (o::r) K) t h:=by
 simp only[Prod.mk.injEq] at e
 obtain⟨e1,e2,e3,e4⟩:=e
 exact cD e1 (jW e2 e3 e4 (nX rfl) (ae q))
theorem yB {x:Operand} (e:(o.guard,o.op,o.dst,ev t x)=(none,.assign x,some d,.nl)) (q:AF (cX C all r K) (br t d .nl) h):AF (cX C all (o::r) K) t h:=by
 simp only[Prod.mk.injEq] at e
 obtain⟨e1,e2,e3,e4⟩:=e
 exact cD e1 (jW e2 e3 e4 (nX rfl) (HA q))
theorem y1 {x:PV} (e:(o.guard,all[g]?,og.dst,t tg,qo C o t,nW o,o.dst,bY C o (ev t) h)=(some (g,want),some og,some tg,.p (.im (.bool want)),false,true,some d,fun k=>k (.p x) [] none)) (q:AF (cX C all r K) (br t d (.p x)) h):AF (cX C all (o::r) K) t h:=by
 simp only[Prod.mk.injEq] at e
 obtain⟨e1,e2,e3,e4,e5,e6,e7,e8⟩:=e
 exact K6 e1 e2 e3 e4 (bA e5 e6 (aA (v:=.p x) (e:=[]) (n:=none) (fun k hk=>by rw[e8];exact hk) (bd (by rw[e7];exact ae q))))
theorem y2 (e:(o.guard,all[g]?,og.dst,t tg)=(some (g,want),some og,some tg,.p (.im (.bool want)))) (q:AF (step C o (cX C all r K)) t h):AF (cX C all (o::r) K) t h:=by
 simp only[Prod.mk.injEq] at e
 obtain⟨e1,e2,e3,e4⟩:=e
 exact K6 e1 e2 e3 e4 q
theorem y0 (e:(o.guard,all[g]?,og.dst,t tg,o.dst)=(some (g,want),some og,some tg,.p (.im (.bool (!want))),some d)) (q:AF (cX C all r K) (br t d kD) h):AF (cX C all (o::r) K) t h:=by
 simp only[Prod.mk.injEq] at e
 obtain⟨e1,e2,e3,e4,e5⟩:=e
 exact Ol e1 e2 e3 e4 (by rw[e5];exact ae q)
theorem yg (e:(o.guard,all[g]?,og.dst,t tg)=(some (g,want),some og,some tg,.p (.im (.bool b)))) (q:fj b (AF (I1 want o (step C o (cX C all r K)) (cX C all r K)) (br t tg (ew true)) h) (AF (I1 (!want) o (step C o (cX C all r K)) (cX C all r K)) (br t tg (ew false)) h)):AF (cX C all (o::r) K) t h:=by
 simp only[Prod.mk.injEq] at e
 obtain⟨e1,e2,e3,e4⟩:=e
 exact Rz e1 e2 e3 e4 q
theorem yq (e:(o.guard,qo C o t,nW o)=(none,false,true)) (q:QO C o t h (KQ (cX C all r K) o.dst t h)):AF (cX C all (o::r) K) t h:=by
 simp only[Prod.mk.injEq] at e
 obtain⟨e1,e2,e3⟩:=e
 exact cD e1 (bA e2 e3 q)
theorem yn (e:(o.guard,qo C o t,o.dst,gV o.op)=(none,false,some d,true)) (q:QO C o (HB d t) (HD d h) (KN (cX C all r K) (some d) d (HB d t) (HD d h))):AF (cX C all (o::r) K) t h:=by
 simp only[Prod.mk.injEq] at e
 obtain⟨e1,e2,e3,e4⟩:=e
 exact cD e1 (jB e2 e3 e4 q)
theorem yk {x:PV} (q:AF F (br t d (.p x)) h):KQ F (some d) t h (.p x) [] none:=bd (ae q)
theorem d1 {x:PV} (e:(o.guard,all[g]?,og.dst,t tg,kV C ap X f o (ev t),o.dst,bY C o (ev t) h)=(some (g,want),some og,some tg,.p (.im (.bool want)),true,some d,fun k=>k (.p x) [] none)) (q:AF (dx C ap X all fl r K) (br t d (.p x)) h):AF (dx C ap X all (f::fl) (o::r) K) t h:=by
 simp only[Prod.mk.injEq] at e
 obtain⟨e1,e2,e3,e4,e5,e6,e7⟩:=e
 exact K7 e1 e2 e3 e4 (c_ e5 (aA (v:=.p x) (e:=[]) (n:=none) (fun k hk=>by rw[e7];exact hk) (bB (by rw[e6];exact ae q))))
theorem d2 (e:(o.guard,all[g]?,og.dst,t tg)=(some (g,want),some og,some tg,.p (.im (.bool want)))) (q:AF (iY C ap X f o (dx C ap X all fl r K)) t h):AF (dx C ap X all (f::fl) (o::r) K) t h:=by
 simp only[Prod.mk.injEq] at e
 obtain⟨e1,e2,e3,e4⟩:=e
 exact K7 e1 e2 e3 e4 q
theorem d0 (e:(o.guard,all[g]?,og.dst,t tg,o.dst)=(some (g,want),some og,some tg,.p (.im (.bool (!want))),some d)) (q:AF (dx C ap X all fl r K) (br t d kD) h):AF (dx C ap X all (f::fl) (o::r) K) t h:=by
 simp only[Prod.mk.injEq] at e
 obtain⟨e1,e2,e3,e4,e5⟩:=e
 exact Om e1 e2 e3 e4 (by rw[e5];exact ae q)
theorem dg (e:(o.guard,all[g]?,og.dst,t tg)=(some (g,want),some og,some tg,.p (.im (.bool b)))) (q:fj b (AF (I1 want o (iY C ap X f o (dx C ap X all fl r K)) (dx C ap X all fl r K)) (br t tg (ew true)) h) (AF (I1 (!want) o (iY C ap X f o (dx C ap X all fl r K)) (dx C ap X all fl r K)) (br t tg (ew false)) h)):AF (dx C ap X all (f::fl) (o::r) K) t h:=by
 simp only[Prod.mk.injEq] at e
 obtain⟨e1,e2,e3,e4⟩:=e
 exact RA e1 e2 e3 e4 q
theorem dq (e:(o.guard,kV C ap X f o (ev t))=(none,true)) (q:QO C o t h (KD C ap X f o (dx C ap X all fl r K) t h)):AF (dx C ap X all (f::fl) (o::r) K) t h:=by
 simp only[Prod.mk.injEq] at e
 exact Mt e.1 (c_ e.2 q)
end
section
variable {A:cV} {K:Exit->AS->Prop} {a b c:Code} {t:Nat->AV} {h:Nat->AB} {id i:Nat} {l all:List Oper} {f:AS->Prop} {C:Ctx}
theorem yT (q:AF f t h):AF (cX C all [] (zg f K .normal)) t h:=cL (aj q)
theorem yS (q:AF (cX A.C l l (zg (iZ A b K) K .normal)) t h):AF (iZ A (.seq (.region id ⟨l⟩ false) b) K) t h:=au (aM q)
theorem yU (q:AF (cX A.C l l (zg (iZ A b K) K .normal)) t h):AF (cX C all [] (zg (iZ A (.seq (.region id ⟨l⟩ false) b) K) K .normal)) t h:=cL (aj (au (aM q)))
theorem yR {rs:List ResultVar} {args:List Arg} {r:AR} {fin:List Fin} {P Q:Prop} {C':Ctx} (hq:(P/\Q)->Fb C rs args r fin ⟨t,h⟩) (q:P/\Q):AF (cX C' all [] (zg (iZ A .ret (ye C rs args r fin)) K .normal)) t h:=cL (aj (bP (bQ hq q)))
end
theorem qy {C : Ctx} (hC : bV C) {f : FuncId} {fn : Func} {c : Code} (hf : C.P.funcs[f]? = some fn) (hb : fn.body = some c) (nP : (fn.name == "runtime.NumGoroutine") = false) {args : List Arg} {r : AR} {fin : List Fin} (n : Nat) (hn : args.length + (fn.ntmps - args.length) = n) (w_ : n ≤ 100000) (hok : f_ C n c = true)
  (h:∀(w0:World) (mv s0:Nat->Prop) (n:Nat) (pin:Nat->Value),∃s2,aW ⟨C,w0,mv,s0,n,pin⟩ ⟨sT args,lF args⟩ s2/\AF (iZ ⟨C,w0,mv,s0,n,pin⟩ c (ye C fn.results.toList args r fin)) s2.t s2.h):aD C f args r fin:=
 Cu hC hf hb nP (by omega) fun A hA Oc S rho a w sim=>by
  obtain⟨_,_,_,_,_,_⟩:=A
  subst hA
  obtain⟨s2,hl,hw⟩:=h _ _ _ _ _
  obtain⟨S',rho',cc⟩:=hl S rho a w sim
  exact rS hC c _ s2 (by show f_ _ _ c=true;rw[Oc,hn];exact hok) hw.out S' rho' a w cc
theorem zB:(∀(p:Prop) [Decidable p],(decide p=true)=p)/\(∀(p:Prop) [Decidable p],(decide p=false)=¬p)/\(∀(α:Type) [_root_.LE α] (a b:α),(a>=b)=(b<=a))/\(∀(α:Type) [_root_.LT α] (a b:α),(a > b)=(b < a))/\(∀b:Bool,((!b)=true)=(b=false))/\(∀b:Bool,((!b)=false)=(b=true)):=
 ⟨fun p _=>by simp,fun p _=>by simp,fun _ _ _ _=>rfl,fun _ _ _ _=>rfl,fun b=>by simp,fun b=>by simp⟩
end Go.AM
namespace Go.AM
open Go.RowKit
def tQ (C : Ctx) (f : FuncId) : Prop := ∃ fn : Func, C.P.funcs[f]? = some fn ∧ (fn.name == "runtime.NumGoroutine") = false ∧ fn.body.isNone = false
theorem tR {S:Nat->Prop} {w:World} {P:Program} {as:List Value} {vs:Array Value} (hl:(as.map fun a=>Arg.pv (.im a)).length=vs.size) (hr:∀(j:Nat) x v,(as.map fun a=>Arg.pv (.im a))[j]?=some x->vs[j]?=some v->B2 S w P x v):vs=as.toArray:=by
 apply Array.ext'
 apply List.ext_getElem?
 intro i
 by_cases hi:i < as.length
 ·have h1:(as.map fun a=>Arg.pv (.im a))[i]?=some (.pv (.im as[i])):=by rw[List.getElem?_map,List.getElem?_eq_getElem hi];rfl
  have Gt:i < vs.size:=by rw[<-hl];simpa using hi
  have h2:=hr i _ vs[i] h1 (Array.getElem?_eq_getElem Gt)
  have h3:vs[i]=as[i]:=by
   have:bu S w (.im as[i]) vs[i]:=h2
   generalize vs[i]=v at this
   cases this;rfl
  rw[Array.getElem?_toList,Array.getElem?_eq_getElem Gt,h3]
  simp[hi]
 rw[List.getElem?_eq_none (by simpa [<-hl] using hi)]
 rw[List.getElem?_eq_none (by simpa using hi)]
theorem yC {S:Nat->Prop} {w:World} {P:Program}:∀l:List Value,eK S w P (l.map fun a=>Arg.pv (.im a)) [] l:=by
 intro l
 induction l with
 | nil=>trivial
 | cons a l ih=>exact ih
theorem qz {w:World}:∀(l:List Value) (i g:Nat),¬dw w (l.map fun a=>Arg.pv (.im a)) [] l i g:=by
 intro l
 induction l with
 | nil=>exact fun i g h=>h
 | cons a l ih=>
  intro i g h
  cases i with
  | zero=>exact h
  | succ i=>exact ih i g h
theorem Aw {w w':World} (l:List Value):p9 w w' (l.map fun a=>Arg.pv (.im a)) [] l.toArray:=⟨fun i g h=>(qz l i g h).elim,fun i j g h=>(qz l i g h).elim⟩
theorem rW {C:Ctx} {f:FuncId} (as:List Value) (r:Value) (hf:tQ C f) (h:∀S w,C.E S w->(∀b,S b->b < w.heap.size)->Calls C.P f as.toArray w fun e w'=>e=.returned r/\Below w.heap.size w w'):
  aD C f (as.map fun a=>.pv (.im a)) (.p (.im r)) []:=by
 refine⟨hf,fun S w vs hE hS hl hr _=>?_⟩
 have GF:=tR hl hr
 subst GF
 exact (h S w hE hS).mono fun e w' ⟨he,hb⟩=>⟨r,S,he,⟨hb.os,hb.tape,hb.output,hb.size,fun k hk _=>hb.block k hk⟩,fun _ h=>h,fun b hb'=>Nat.lt_of_lt_of_le (hS b hb') hb.size,fun b hb'=>.inl hb',.im r,yC as,Aw as,fun g h=>by cases h⟩
theorem Ax {C:Ctx} (hC:bV C) {f:FuncId} (as:List Value) (e:TypeId) (xs:List Value) (ti:TI) (hT:C.T e=some ti) (hsz:ti.size=1) (gT:∀v∈xs,v.oneCell'=true) (hlen:xs.length<=maxLen) (hf:tQ C f)
  (h:∀S w,C.E S w->(∀b,S b->b < w.heap.size)->Calls C.P f as.toArray w fun e' w'=>e'=.returned (.slice (some ⟨w.heap.size,0,none⟩) xs.length xs.length)/\w'=w.alloc (.cells xs.toArray e)):
  aD C f (as.map fun a=>.pv (.im a)) (.own e (xs.map fun v=>[.im v])) []:=by
 refine⟨hf,fun S w vs hE hS hl hr _=>?_⟩
 have GF:=tR hl hr
 subst GF
 obtain⟨info,z,h1,h2,_⟩:=hC.gE e ti hT
 refine (h S w hE hS).mono fun e' w' ⟨he,hw⟩=>?_
 subst hw
 have z8:(w.alloc (.cells xs.toArray e)).heap[w.heap.size]?=some (.cells xs.toArray e (0,0)):=by unfold World.alloc;exact Array.getElem?_push_size
 have Uz:(w.alloc (.cells xs.toArray e)).heap.size=w.heap.size+1:=Array.size_push ..
 have hb:Below w.heap.size w (w.alloc (.cells xs.toArray e)):=(Below.refl _ _).alloc (Nat.le_refl _) _
 refine⟨_,S,he,⟨hb.os,hb.tape,hb.output,hb.size,fun k hk _=>hb.block k hk⟩,fun _ h=>h,fun b hb'=>Nat.lt_of_lt_of_le (hS b hb') hb.size,fun b hb'=>.inl hb',⟨⟨info,xs,h1,by omega,⟨?_,.inr ⟨w.heap.size,xs.length,xs.toArray,?_,Nat.zero_le _,z8,?_,hlen,?_,?_⟩⟩,?_,gT,?_⟩,?_⟩,yC as,Aw as,?_⟩
 ·simp[h2,hsz]
 ·simp
 ·simp
 ·simp[h2,hsz]
 ·simp[h2,hsz]
 ·intro r hr
  obtain⟨v,_,rfl⟩:=List.mem_map.1 hr
  simp[h2,hsz]
 ·intro a r j x ha hj
  rw[List.getElem?_map] at ha
  obtain⟨v,hv,rfl⟩:=Option.map_eq_some_iff.1 ha
  cases j with
  | zero=>
   simp at hj
   subst hj
   exact⟨v,by rw[h2,hsz,Nat.mul_one,Nat.add_zero];exact hv,.im v⟩
  | succ j=>simp at hj
 ·intro g hg hs
  injection hg with hg
  have hg:w.heap.size=g:=hg
  have:=hS g hs
  omega
 intro g _ hg
 have hg:=a6 rfl hg
 injection hg with hg
 have hg:w.heap.size=g:=hg
 exact⟨by omega,.inl (by omega),fun i=>qz as i g⟩
end Go.AM
