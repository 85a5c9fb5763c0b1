/- Part 3 of 14 of the proof of HouseOrdersMatchSpec (the names are shortened by a program: the size of a claim is limited). -/
import Derived.Test.YtiaifckpmefinaaGreatDoorO02
import Derived.WideKeyRuns
set_option linter.unusedVariables false
set_option linter.unusedSimpArgs false
set_option maxRecDepth 100000
set_option maxHeartbeats 8000000
namespace Go.AM
open Go.RowKit
def isApp:Op->Bool
 | .call c=>match c.callee with
  | .builtin .append=>true
  | _=>false
 | _=>false
def Dv (m:Nat->Bool):Nat->Bool
 | 0=>false
 | n+1=>m n || Dv m n
def hZ (C:Ctx) (o:Op):Bool:=isApp o || match o with
 | .call c=>match c.callee with
  | .value (.func f)=>Dv (C.md f) 8 || C.bl f
  | .value (.tmp _)=>true
  | _=>false
 | _=>false
def cls (C:Ctx) (ap:Bool):Op->Nat
 | .move _=>0
 | .assign _=>0
 | .pick _ _ _=>0
 | .binOp _ _ _ _ _=>0
 | .unOp _ _ _=>0
 | .convert _ _ _=>0
 | .extract _ _=>0
 | .index _ _ _=>0
 | .field _ _ _=>0
 | .makeFunc _ _ _=>0
 | .fieldAddr _ _ _=>match ap with
  | true=>2
  | false=>1
 | .nilCheck _=>match ap with
  | true=>2
  | false=>1
 | .store _ _ _=>3
 | .mapUpdate _ _ _ _=>3
 | .call c=>match c.callee with
  | .builtin .append=>3
  | .builtin .clear=>3
  | .builtin .min=>0
  | .builtin .max=>0
  | .value (.func f)=>match Dv (C.md f) 8 || C.bl f with
   | true=>3
   | false=>2
  | .value (.tmp _)=>3
  | _=>2
 | _=>2
def Dw:AB->AB->Bool
 | .row e _,.row e' _=>cK e e'
 | .box _,.box _=>true
 | .map _ _,.map _ _=>true
 | _,_=>false
def Dx:AB->Bool
 | .none=>false
 | _=>true
def fF (h:Nat->AB):List (Nat×AB)->Bool
 | []=>true
 | (i,_)::r=>Dx (h i) && fF h r
def gQ (h:Nat->AB):List (Nat×AB)->Bool
 | []=>true
 | (i,b)::r=>Dw (h i) b && gQ h r
def mh (op:Op):Option AB->Option Tmp->Bool
 | none,_=>true
 | some _,some _=>gP op
 | some _,none=>false
def pM:AV->Bool
 | .p _=>true
 | _=>false
def pN (o:Oper) (rho:Operand->AV):Bool:=match o.op with
 | .load _ a=>pM (rho a)
 | .indexAddr _ x _=>pM (rho x)
 | .slice _ x _ _ none=>pM (rho x)
 | .build _ ps=>ps.toList.all fun p=>pM (rho p.2)
 | .call c=>match c.callee,c.args.toList with
  | .builtin .len,[x]=>pM (rho x)
  | _,_=>false
 | .fieldAddr _ x _=>pM (rho x)
 | .nilCheck x=>pM (rho x)
 | _=>false
def tT:List Nat->Nat->Bool
 | [],_=>false
 | i::r,k=>match cK i k with
  | true=>true
  | false=>tT r k
def JZ (X:List Nat):AV->Bool
 | .ow id=>tT X id
 | .rp id _ _=>tT X id
 | .bx id _=>tT X id
 | _=>false
def mi (X:List Nat) (o:Oper) (rho:Operand->AV):Bool:=match o.op with
 | .load _ a=>JZ X (rho a)
 | .indexAddr _ x _=>JZ X (rho x)
 | .lookup _ x _ _=>JZ X (rho x)
 | .call c=>match c.callee,c.args.toList with
  | .builtin .len,[x]=>JZ X (rho x)
  | _,_=>false
 | _=>false
def pO (X:List Nat) (o:Oper) (rho:Operand->AV):Bool:=match o.op with
 | .makeSlice _ _ _=>tT X (o.dst.getD 0)
 | .buildSlice _ _ ps=>tT X (o.dst.getD 0) && ps.toList.all fun p=>pM (rho p.2)
 | _=>false
def mj (X:List Nat) (o:Oper) (rho:Operand->AV):Bool:=mi X o rho || pO X o rho
def I5 (X:List Nat):List (Nat×AB)->Bool
 | []=>true
 | (i,_)::r=>match tT X i with
  | true=>false
  | false=>I5 X r
def kc:AB->Nat
 | .box _=>1
 | .jK _=>1
 | .row _ _=>2
 | .a7 _ _=>2
 | _=>0
def oT (X:List Nat) (h:Nat->AB):List (Nat×AB)->Bool
 | []=>true
 | (i,b)::r=>match tT X (i+1000000) with
  | true=>Nat.beq (kc b) (kc (h i)) && (!Nat.beq (kc (h i)) 0 && oT X h r)
  | false=>oT X h r
def EN (X:List Nat) (f:Bool) (h:Nat->AB) (e:List (Nat×AB)):Bool:=(f || I5 X e) && oT X h e
theorem vv (X:List Nat) (f:Bool) (h:Nat->AB):EN X f h []=true:=by simp[EN,I5,oT]
def Mu (X:List Nat):AV->Bool
 | .bx id _=>tT X (id+1000000)
 | .rp id _ _=>tT X (id+1000000)
 | _=>false
def pP (X:List Nat) (o:Oper) (rho:Operand->AV):Bool:=match o.op with
 | .fieldAddr _ x _=>Mu X (rho x)
 | .nilCheck x=>Mu X (rho x)
 | _=>false
def jZ (C:Ctx) (ap:Bool) (X:List Nat) (f:Bool) (o:Oper) (rho:Operand->AV):Bool:=f || pN o rho || mj X o rho || pP X o rho || Nat.beq (cls C ap o.op) 3
def Dy (C:Ctx) (ap:Bool) (X:List Nat) (f:Bool) (o:Oper) (K:AS->Prop) (s:AS):Prop:=
 bY C o (ev s.t) s.h fun v eff new=>match mh o.op new o.dst with
  | false=>False
  | true=>match Nat.beq (cls C ap o.op) 3 with
   | true=>match fF s.h eff && (ap || gQ s.h eff) && EN X f s.h eff with
    | true=>K ⟨en s.t o.dst v,oM (app s.h eff) (o.dst.getD 0) new⟩
    | false=>False
   | false=>match eff with
    | []=>K ⟨en s.t o.dst v,oM s.h (o.dst.getD 0) new⟩
    | _=>False
def iE (C:Ctx) (ap:Bool) (X:List Nat) (f:Bool) (o:Oper) (K:AS->Prop) (s:AS):Prop:=match jZ C ap X f o (ev s.t) with
 | true=>Dy C ap X f o K s
 | false=>False
def dE (C:Ctx) (ap:Bool) (X:List Nat) (all:List Oper):List Bool->List Oper->(AS->Prop)->AS->Prop
 | _,[],K,s=>K s
 | [],_::_,_,_=>False
 | f::fl,o::r,K,s=>match o.guard with
  | none=>iE C ap X f o (dE C ap X all fl r K) s
  | some (g,want)=>match all[g]? with
   | none=>False
   | some og=>match og.dst with
    | none=>False
    | some tg=>match s.t tg with
     | .p (.im (.bool b))=>fc b
       (match want with
        | true=>iE C ap X f o (dE C ap X all fl r K) ⟨bI s.t tg (ep true),s.h⟩
        | false=>dE C ap X all fl r K ⟨en (bI s.t tg (ep true)) o.dst jY,s.h⟩)
       (match want with
        | false=>iE C ap X f o (dE C ap X all fl r K) ⟨bI s.t tg (ep false),s.h⟩
        | true=>dE C ap X all fl r K ⟨en (bI s.t tg (ep false)) o.dst jY,s.h⟩)
     | .p (.im (.tuple _))=>dE C ap X all fl r K ⟨en s.t o.dst jY,s.h⟩
     | _=>False
structure RR where
 run:Bool
 v:AV
 eff:List (Nat×AB)
 new:Option AB
structure DStep (C:Ctx) (ap:Bool) (all:List Oper) (o:Oper) (s:AS) (r:RR) (s':AS):Prop where
 guard:match o.guard with
  | none=>r.run=true
  | some (g,want)=>∃og tg b,all[g]?=some og/\og.dst=some tg/\s.t tg=.p (.im b)/\r.run=JR b want
 ran:r.run=true->bY C o (ev s.t) s.h fun v e n=>v=r.v/\e=r.eff/\n=r.new
 not:r.run=false->r.v=jY/\r.eff=[]/\r.new=none
 next:s'=⟨en s.t o.dst r.v,oM (app s.h r.eff) (o.dst.getD 0) r.new⟩
 there:fF s.h r.eff=true
 kind:ap=false->gQ s.h r.eff=true
 quiet:cls C ap o.op≠3->r.eff=[]
 ndst:mh o.op r.new o.dst=true
theorem B5 {C:Ctx} {ap f:Bool} {X:List Nat} {o:Oper} {K:AS->Prop} {s:AS} (h:Dy C ap X f o K s):∃v eff new,(bY C o (ev s.t) s.h fun v' e' n'=>v'=v/\e'=eff/\n'=new)/\fF s.h eff=true/\(ap=false->gQ s.h eff=true)/\(cls C ap o.op≠3->eff=[])/\mh o.op new o.dst=true/\EN X f s.h eff=true/\K ⟨en s.t o.dst v,oM (app s.h eff) (o.dst.getD 0) new⟩:=by
 obtain⟨v,eff,new,h1,h2⟩:=m_ (fun _=>.inr rfl) h
 refine⟨v,eff,new,h2 _ ⟨rfl,rfl,rfl⟩,?_⟩
 split at h1
 ·exact h1.elim
 rename_i EL
 split at h1
 ·rename_i hc
  have hc:cls C ap o.op=3:=Nat.eq_of_beq_eq_true hc
  split at h1
  ·rename_i hk
   have hx:EN X f s.h eff=true:=(Bool.and_eq_true _ _ ▸ hk).2
   simp only[Bool.and_eq_true,Bool.or_eq_true] at hk
   exact⟨hk.1.1,fun e=>hk.1.2.resolve_left (by rw[e];decide),fun h=>absurd hc h,EL,hx,h1⟩
  exact h1.elim
 split at h1
 ·exact⟨rfl,fun _=>rfl,fun _=>rfl,EL,vv _ _ _,h1⟩
 exact h1.elim
def sv (C:Ctx) (ap:Bool) (X:List Nat) (fl:List Bool) (o:Oper) (s:AS) (r:RR) (i:Nat):Prop:=r.run=true->(fl[i]?=some true\/pN o (ev s.t)=true\/mj X o (ev s.t)=true\/pP X o (ev s.t)=true\/cls C ap o.op=3)/\(fl[i]?=some true\/I5 X r.eff=true)/\oT X s.h r.eff=true
theorem Dz {C:Ctx} {ap:Bool} {X:List Nat} {all:List Oper} {K:AS->Prop}:∀(l:List Oper) (fl:List Bool) (s:AS),dE C ap X all fl l K s->∃(st:Nat->AS) (r:Nat->RR),st 0=s/\K (st l.length)/\∀(i:Nat) o,l[i]?=some o->DStep C ap all o (st i) (r i) (st (i+1))/\sv C ap X fl o (st i) (r i) i:=by
 intro l
 induction l with
 | nil=>intro fl s h;exact⟨fun _=>s,fun _=>⟨false,.junk,[],none⟩,rfl,by cases fl <;> exact h,by simp⟩
 | cons o l ih=>
  intro fl s h
  cases fl with
  | nil=>exact h.elim
  | cons f fl=>
  have ext:∀(r:RR) (s':AS),DStep C ap all o s r s'->(r.run=true->jZ C ap X f o (ev s.t)=true/\EN X f s.h r.eff=true)->dE C ap X all fl l K s'->∃(st:Nat->AS) (r:Nat->RR),st 0=s/\K (st (o::l).length)/\∀(i:Nat) o',(o::l)[i]?=some o'->DStep C ap all o' (st i) (r i) (st (i+1))/\sv C ap X (f::fl) o' (st i) (r i) i:=by
   intro r0 s' hd hf hk
   obtain⟨st,r,h1,h2,h3⟩:=ih fl s' hk
   refine⟨fun i=>match i with | 0=>s | i+1=>st i,fun i=>match i with | 0=>r0 | i+1=>r i,rfl,h2,fun i o' hi=>?_⟩
   cases i with
   | zero=>
    simp at hi
    subst hi
    refine⟨?_,fun hr=>?_⟩
    ·show DStep C ap all o s r0 (st 0)
     rw[h1]
     exact hd
    obtain⟨q1,q2⟩:=hf hr
    simp only[EN,Bool.and_eq_true] at q2
    obtain⟨q2,q3⟩:=q2
    exact⟨by cases f with
     | true=>exact .inl rfl
     | false=>simp only[jZ,Bool.false_or,Bool.or_eq_true] at q1;exact .inr (by rcases q1 with ((h | h) | h) | h;exact .inl h;exact .inr (.inl h);exact .inr (.inr (.inl h));exact .inr (.inr (.inr (Nat.eq_of_beq_eq_true h)))),by cases f with
     | true=>exact .inl rfl
     | false=>exact .inr q2,q3⟩
   | succ i=>
    obtain⟨q1,q2⟩:=h3 i o' (by simpa using hi)
    exact⟨q1,fun hr=>q2 hr⟩
  have runs:(match o.guard with
    | none=>true=true
    | some (g,want)=>∃og tg b,all[g]?=some og/\og.dst=some tg/\s.t tg=.p (.im b)/\true=JR b want)->iE C ap X f o (dE C ap X all fl l K) s->∃(st:Nat->AS) (r:Nat->RR),st 0=s/\K (st (o::l).length)/\∀(i:Nat) o',(o::l)[i]?=some o'->DStep C ap all o' (st i) (r i) (st (i+1))/\sv C ap X (f::fl) o' (st i) (r i) i:=by
   intro hg hs
   unfold iE at hs
   split at hs
   case h_2=>exact hs.elim
   rename_i hf
   obtain⟨v,eff,new,k1,k2,k3,k4,k6,k7,k5⟩:=B5 hs
   exact ext ⟨true,v,eff,new⟩ _ ⟨hg,fun _=>k1,(fun h=>by cases h),rfl,k2,k3,k4,k6⟩ (fun _=>⟨hf,k7⟩) k5
  unfold dE at h
  split at h
  ·rename_i hg
   exact runs (by rw[hg]) h
  rename_i g want hg
  split at h
  ·exact h.elim
  rename_i og HA
  split at h
  ·exact h.elim
  rename_i tg HB
  split at h
  ·rename_i b hb
   have oS:∀b',b=b'->bI s.t tg (ep b')=s.t:=fun b' e=>eR _ _ _ (by rw[hb,e];rfl)
   have GA:dE C ap X all fl l K ⟨en s.t o.dst jY,s.h⟩->(false=(b == want))->∃(st:Nat->AS) (r:Nat->RR),st 0=s/\K (st (o::l).length)/\∀(i:Nat) o',(o::l)[i]?=some o'->DStep C ap all o' (st i) (r i) (st (i+1))/\sv C ap X (f::fl) o' (st i) (r i) i:=fun hs he=>
    ext ⟨false,jY,[],none⟩ _ ⟨by rw[hg];exact⟨og,tg,.bool b,HA,HB,hb,by rw[he];cases b <;> cases want <;> rfl⟩,fun h=>(by cases h),fun _=>⟨rfl,rfl,rfl⟩,rfl,rfl,fun _=>rfl,fun _=>rfl,rfl⟩ (fun h=>by cases h) hs
   cases b <;> cases want <;> simp only[fc] at h
   ·rw[oS false rfl] at h
    exact runs (by rw[hg];exact⟨og,tg,.bool false,HA,HB,hb,rfl⟩) h
   ·rw[oS false rfl] at h
    exact GA h rfl
   ·rw[oS true rfl] at h
    exact GA h rfl
   rw[oS true rfl] at h
   exact runs (by rw[hg];exact⟨og,tg,.bool true,HA,HB,hb,rfl⟩) h
  ·rename_i q hb
   exact ext ⟨false,jY,[],none⟩ _ ⟨by rw[hg];exact⟨og,tg,.tuple q,HA,HB,hb,by cases want <;> rfl⟩,fun h=>(by cases h),fun _=>⟨rfl,rfl,rfl⟩,rfl,rfl,fun _=>rfl,fun _=>rfl,rfl⟩ (fun h=>by cases h) h
  exact h.elim
theorem HH {C:Ctx} {ap:Bool} {o:Oper} {rho:Operand->AV} {h h':Nat->AB} {K:KK} (hc:cls C ap o.op=0) (hq:bY C o rho h K):bY C o rho h' K:=by
 cases aZ:o.op <;> rw[aZ] at hc <;> try (simp only[bY,aZ] at hq ⊢;exact hq)
 all_goals try (cases hc;done)
 case makeFunc fn first cap=>
  cases fn with
  | func f=>simp only[bY,aZ] at hq ⊢;exact hq
  | _=>simp only[bY,aZ] at hq
 case fieldAddr=>cases ap <;> cases hc
 case nilCheck=>cases ap <;> cases hc
 case call c=>
  simp only[bY,aZ] at hq ⊢
  simp only[cls] at hc
  split at hc
  ·cases hc
  ·cases hc
  ·rename_i h1;simp only[h1,eh,eN] at hq ⊢;exact hq
  ·rename_i h1;simp only[h1,eh,eN] at hq ⊢;exact hq
  ·split at hc <;> cases hc
  ·cases hc
  cases hc
theorem HI {C:Ctx} {ap:Bool} {o:Oper} {rho:Operand->AV} {h h':Nat->AB} {K:KK} (hc:cls C ap o.op=1) (hh:∀id,(h id).there->((h' id).there/\(∀e es,h id=.row e es->∃dw,h' id=.row e dw)/\(∀cs,h id=.box cs->∃jF,h' id=.box jF)/\(∀cs,h id=.jK cs->∃jF,h' id=.jK jF)/\(∀e es,h id=.a7 e es->∃dw,h' id=.a7 e dw))) (hq:bY C o rho h K):bY C o rho h' K:=by
 cases aZ:o.op <;> rw[aZ] at hc <;> try (cases hc;done)
 case call c=>
  exfalso
  simp only[cls] at hc
  split at hc <;> first | cases hc | (split at hc <;> cases hc)
 case fieldAddr t x f=>
  simp only[bY,aZ] at hq ⊢
  split at hq
  ·split at hq
   ·split at hq
    ·exact hq
    ·rename_i id o' hx
     split at hq
     ·exact hq.elim
     rename_i dh
     have ht:(h id).there:=by cases h1:h id <;> first | trivial | exact absurd h1 (by simpa using dh)
     have:=(hh id ht).1
     split
     ·rename_i h2;rw[h2] at this;exact this.elim
     exact hq
    ·rename_i id i o' hx
     split at hq
     ·rename_i e es hr
      obtain⟨dw,h2⟩:=(hh id (by rw[hr];trivial)).2.1 e es hr
      simp only[h2]
      exact hq
     ·rename_i e es hr
      obtain⟨dw,h2⟩:=(hh id (by rw[hr];trivial)).2.2.2.2 e es hr
      simp only[h2]
      exact hq
     exact hq.elim
    exact hq
   exact hq
  exact hq
 case nilCheck x=>
  simp only[bY,aZ] at hq ⊢
  split at hq
  ·exact hq
  ·rename_i id off hx
   split at hq
   ·rename_i cs hr
    obtain⟨jF,h2⟩:=(hh id (by rw[hr];trivial)).2.2.1 cs hr
    simp only[h2]
    exact hq
   ·rename_i cs hr
    obtain⟨jF,h2⟩:=(hh id (by rw[hr];trivial)).2.2.2.1 cs hr
    simp only[h2]
    exact hq
   exact hq.elim
  ·rename_i id i off hx
   split at hq
   ·rename_i e es hr
    obtain⟨dw,h2⟩:=(hh id (by rw[hr];trivial)).2.1 e es hr
    simp only[h2]
    exact hq
   ·rename_i e es hr
    obtain⟨dw,h2⟩:=(hh id (by rw[hr];trivial)).2.2.2.2 e es hr
    simp only[h2]
    exact hq
   exact hq.elim
  exact hq
def pQ (ops:Array Oper) (o:Oper) (d:Tmp):Bool:=(o.looksAt ops).contains d
def zo (C:Ctx) (ap:Bool) (ops:Array Oper) (b:Array Nat) (i j:Nat) (oi oj:Oper):Bool:=
 (match oi.dst,oj.dst with
  | some x,some y=>!cK x y
  | _,_=>true) &&
 (match oj.dst with
  | some d=>!pQ ops oi d || (b.getD j 0).testBit i
  | none=>true) &&
 (match oi.dst with
  | some d=>!pQ ops oj d || (b.getD j 0).testBit i
  | none=>true) &&
 (if cls C ap oj.op=3 then (if cls C ap oi.op=3 then (b.getD j 0).testBit i else true) else true)
def J0 (ops:Array Oper) (b:Array Nat) (C:Ctx) (ap:Bool) (c i:Nat):Bool:=(List.range ops.size).all fun k=>match ops[k]? with
  | none=>true
  | some ok=>!cK (cls C ap ok.op) c || (if k < i then (b.getD i 0).testBit k else if i < k then (b.getD k 0).testBit i else true)
def Fs:Op->Bool
 | .fieldAddr _ _ _=>true
 | .nilCheck _=>true
 | _=>false
def Mw (ops:Array Oper) (b:Array Nat) (C:Ctx) (ap:Bool) (i:Nat):Bool:=(List.range ops.size).all fun k=>match ops[k]? with
  | none=>true
  | some ok=>(Fs ok.op || !cK (cls C ap ok.op) 2) || (if k < i then (b.getD i 0).testBit k else if i < k then (b.getD k 0).testBit i else true)
def vx (C:Ctx) (ap:Bool) (ops:Array Oper) (b:Array Nat) (i:Nat) (oi:Oper):Bool:=
 match cls C ap oi.op with
 | 2=>J0 ops b C ap 3 i
 | 3=>Mw ops b C ap i
 | _=>true
def gR (C:Ctx) (ap:Bool) (ops:Array Oper):List Bool:=
 let b:=Region.before ops
 (List.range ops.size).map fun i=>match ops[i]? with
  | some oi=>vx C ap ops b i oi
  | none=>true
theorem DA {C:Ctx} {ap:Bool} {ops:Array Oper} {i:Nat} {oi:Oper} {c:Nat} (hi:ops[i]?=some oi) (h:J0 ops (Region.before ops) C ap c i=true):
  ∀(k:Nat) ok,ops[k]?=some ok->cls C ap ok.op=c->(k < i->((Region.before ops).getD i 0).testBit k=true)/\(i < k->((Region.before ops).getD k 0).testBit i=true):=by
 intro k ok hk Mx
 have n_:=(Array.getElem?_eq_some_iff.1 hi).1
 have xi:=(Array.getElem?_eq_some_iff.1 hk).1
 have h2:=List.all_eq_true.1 h k (List.mem_range.2 xi)
 simp only[hk,bH.2 Mx,Bool.not_true,Bool.false_or] at h2
 refine⟨fun fC=>?_,fun fC=>?_⟩
 ·rwa [if_pos fC] at h2
 rwa [if_neg (by omega),if_pos fC] at h2
theorem xj {C:Ctx} {ap:Bool} {ops:Array Oper} {i:Nat} {oi:Oper} (hi:ops[i]?=some oi) (h:(gR C ap ops)[i]?=some true):vx C ap ops (Region.before ops) i oi=true:=by
 have n_:=(Array.getElem?_eq_some_iff.1 hi).1
 simpa only[gR,List.getElem?_map,List.getElem?_range n_,Option.map_some,hi,Option.some.injEq] using h
theorem pR {C:Ctx} {ap:Bool} {ops:Array Oper} {i:Nat} {oi:Oper} (hi:ops[i]?=some oi) (h:(gR C ap ops)[i]?=some true) (hc:cls C ap oi.op=2):
  ∀(k:Nat) ok,ops[k]?=some ok->cls C ap ok.op=3->(k < i->((Region.before ops).getD i 0).testBit k=true)/\(i < k->((Region.before ops).getD k 0).testBit i=true):=by
 have h2:=xj hi h
 simp only[vx,hc] at h2
 exact DA hi h2
theorem sw {C:Ctx} {ap:Bool} {ops:Array Oper} {i:Nat} {oi:Oper} (hi:ops[i]?=some oi) (h:(gR C ap ops)[i]?=some true) (hc:cls C ap oi.op=3):
  ∀(k:Nat) ok,ops[k]?=some ok->cls C ap ok.op=2->Fs ok.op=false->(k < i->((Region.before ops).getD i 0).testBit k=true)/\(i < k->((Region.before ops).getD k 0).testBit i=true):=by
 have h2:=xj hi h
 simp only[vx,hc] at h2
 intro k ok hk Mx hth
 have n_:=(Array.getElem?_eq_some_iff.1 hi).1
 have xi:=(Array.getElem?_eq_some_iff.1 hk).1
 have h2:=List.all_eq_true.1 h2 k (List.mem_range.2 xi)
 simp only[hk,hth,bH.2 Mx,Bool.not_true,Bool.false_or] at h2
 refine⟨fun fC=>?_,fun fC=>?_⟩
 ·rwa [if_pos fC] at h2
 rwa [if_neg (by omega),if_pos fC] at h2
theorem AU {X:List Nat} {o:Oper} {rho:Operand->AV} (h:mj X o rho=true):Fs o.op=false:=by
 unfold mj mi pO at h
 cases e:o.op <;> rw[e] at h <;> first | rfl | cases h
theorem xl {X:List Nat}:∀{eff:List (Nat×AB)},I5 X eff=true->∀p∈eff,tT X p.1=false:=by
 intro eff
 induction eff with
 | nil=>intro _ p hp;cases hp
 | cons x r ih=>
  intro h p hp
  unfold I5 at h
  split at h
  ·cases h
  rename_i hx
  rcases List.mem_cons.1 hp with e | e
  ·rw[e];exact hx
  exact ih h p e
theorem eC {a:AV} (h:pM a=true):∃x,a=.p x:=by cases a <;> first | exact⟨_,rfl⟩ | cases h
theorem DB {h h':Nat->AB} {fs:List (Nat×Nat×Bool)} {rho:Operand->AV}:∀(ps:List (Nat×Operand)) (cs:List PV) (K:List PV->List (Nat×AB)->Prop),(ps.all fun p=>pM (rho p.2))=true->hD h fs rho ps cs K->hD h' fs rho ps cs K:=by
 intro ps
 induction ps with
 | nil=>intro cs K _ hq;exact hq
 | cons p ps ih=>
  intro cs K hp hq
  obtain⟨i,x⟩:=p
  simp only[List.all_cons,Bool.and_eq_true] at hp
  obtain⟨y,hy⟩:=eC hp.1
  simp only[hD] at hq ⊢
  split at hq
  ·rw[hy] at hq ⊢
   simp only[gK,ji] at hq ⊢
   revert hq
   cases nU y with
   | none=>exact id
   | some ys=>
    simp only
    cases tJ ys.length _ && Au _ cs.length with
    | false=>exact id
    | true=>intro hq;exact ih _ _ hp.2 hq
  exact hq.elim
theorem DC {h h':Nat->AB} {fs:List (Nat×Nat×Bool)} {rho:Operand->AV}:∀(ps:List (Nat×Operand)) (cs:List AV) (K:List AV->Prop),(ps.all fun p=>pM (rho p.2))=true->iQ h fs rho ps cs K->iQ h' fs rho ps cs K:=by
 intro ps
 induction ps with
 | nil=>intro cs K _ hq;exact hq
 | cons p ps ih=>
  intro cs K hp hq
  obtain⟨i,x⟩:=p
  simp only[List.all_cons,Bool.and_eq_true] at hp
  obtain⟨y,hy⟩:=eC hp.1
  unfold iQ at hq ⊢
  split at hq
  ·rename_i h1
   split at hq
   ·rename_i h2
    have e:pD h' (rho x)=pD h (rho x):=by rw[hy];cases y <;> rfl
    simp only[h1,e,h2]
    exact ih _ _ hp.2 hq
   exact hq.elim
  exact hq.elim
theorem zp {h:Nat->AB} {fs:List (Nat×Nat×Bool)} {rho:Operand->AV} {Q:Prop}:∀(ps:List (Nat×Operand)) (cs:List PV) (K:List PV->List (Nat×AB)->Prop),(∀a b,K a b->Q)->hD h fs rho ps cs K->Q:=by
 intro ps
 induction ps with
 | nil=>intro cs K hk hq;exact hk _ _ hq
 | cons p ps ih=>
  intro cs K hk hq
  obtain⟨i,x⟩:=p
  simp only[hD] at hq
  split at hq
  ·obtain⟨y,fz,h1,_⟩:=gi (fun _=>.inr rfl) hq
   split at h1
   ·split at h1
    ·exact ih _ _ (fun a b h=>hk _ _ h) h1
    exact h1.elim
   exact h1.elim
  exact hq.elim
theorem HJ {C:Ctx} {o:Oper} {rho:Operand->AV} {h h':Nat->AB} {K:KK} (hp:pN o rho=true) (hq:bY C o rho h K):bY C o rho h' K:=by
 unfold pN at hp
 split at hp
 ·rename_i t a aZ
  obtain⟨x,hx⟩:=eC hp
  simp only[bY,aZ] at hq ⊢
  rw[hx] at hq ⊢
  cases x <;> exact hq
 ·rename_i t x ix aZ
  obtain⟨y,hx⟩:=eC hp
  simp only[bY,aZ] at hq ⊢
  rw[hx] at hq ⊢
  cases y <;> exact hq
 ·rename_i t x lo hi aZ
  obtain⟨y,hx⟩:=eC hp
  simp only[bY,aZ] at hq ⊢
  rw[hx] at hq ⊢
  have hq:fj C rho h t x lo hi K:=hq
  show fj C rho h' t x lo hi K
  simp only[fj] at hq ⊢
  rw[hx] at hq ⊢
  exact hq
 ·rename_i t ps aZ
  simp only[bY,aZ] at hq ⊢
  split at hq
  ·split at hq
   ·exact DB _ _ _ hp hq
   exact DC _ _ _ hp hq
  exact hq.elim
 ·rename_i c aZ
  split at hp
  ·rename_i x hc ha
   obtain⟨y,hx⟩:=eC hp
   simp only[bY,aZ,hc,ha,eh,eN] at hq ⊢
   split at hq
   ·rename_i HK ht
    simp only[ha,ht] at *
    injection HK with HK _
    subst HK
    rw[hx] at hq ⊢
    cases y <;> exact hq
   exact hq.elim
  cases hp
 ·rename_i t x f aZ
  obtain⟨y,hx⟩:=eC hp
  simp only[bY,aZ] at hq ⊢
  rw[hx] at hq ⊢
  cases y <;> exact hq
 ·rename_i x aZ
  obtain⟨y,hx⟩:=eC hp
  simp only[bY,aZ] at hq ⊢
  rw[hx] at hq ⊢
  cases y <;> exact hq
 cases hp
theorem zq {C:Ctx} {o:Oper} {rho:Operand->AV} {h:Nat->AB} {v:AV} {e:List (Nat×AB)} {n:Option AB} (hp:pN o rho=true) (hq:bY C o rho h fun v' e' n'=>v'=v/\e'=e/\n'=n):n=none:=by
 have aux:∀(x:AV) (K:List (List PV)->Prop) (Q:Prop),(∀es,K es->Q)->fB h x K->Q:=by
  intro x K Q hk hq
  unfold fB at hq
  repeat' (split at hq)
  all_goals first | exact hq.elim | exact hk _ hq
 unfold pN at hp
 split at hp
 ·rename_i t a aZ
  obtain⟨x,hx⟩:=eC hp
  simp only[bY,aZ] at hq
  split at hq
  ·exact hq.elim
  rw[hx] at hq
  split at hq
  ·split at hq
   ·split at hq
    ·exact hq.2.2.symm
    exact hq.elim
   split at hq
   ·exact hq.2.2.symm
   exact hq.elim
  ·rename_i h1;cases h1
  ·rename_i h1;cases h1
  exact hq.elim
 ·rename_i t x ix aZ
  obtain⟨y,hx⟩:=eC hp
  simp only[bY,aZ] at hq
  split at hq
  ·split at hq
   ·exact hq.elim
   rw[hx] at hq
   split at hq
   ·obtain⟨r,_,hq⟩:=hq
    split at hq
    ·exact hq.2.2.symm
    exact hq.elim
   ·rename_i h1;cases h1
   exact hq.elim
  exact hq.elim
 ·rename_i t x lo hi aZ
  obtain⟨y,hx⟩:=eC hp
  simp only[bY,aZ] at hq
  rw[hx] at hq
  have hq:fj C rho h t x lo hi _:=hq
  simp only[fj] at hq
  split at hq
  ·rw[hx] at hq
   split at hq
   ·split at hq
    ·exact hq.2.2.2.symm
    exact hq.elim
   exact hq.elim
  ·split at hq
   ·exact hq.elim
   obtain⟨z,fz,hq,_⟩:=gi (fun _=>.inr rfl) hq
   split at hq
   ·split at hq
    ·exact hq.2.2.2.symm
    exact hq.elim
   exact hq.elim
  exact hq.elim
 ·rename_i t ps aZ
  simp only[bY,aZ] at hq
  split at hq
  ·split at hq
   ·exact zp _ _ _ (fun _ _ h=>h.2.2.symm) hq
   obtain⟨z,h1,_⟩:=uN (fun _=>.inr rfl) hq
   exact h1.2.2.symm
  exact hq.elim
 ·rename_i c aZ
  split at hp
  ·rename_i x hc ha
   simp only[bY,aZ,hc,ha,eh,eN] at hq
   split at hq
   ·split at hq
    ·split at hq
     ·exact hq.2.2.symm
     exact hq.elim
    ·split at hq
     ·exact hq.2.2.symm
     exact aux _ _ _ (fun _ h=>h.2.2.symm) hq
    ·split at hq
     ·split at hq
      ·exact hq.2.2.symm
      exact hq.elim
     exact hq.elim
    exact hq.elim
   exact hq.elim
  cases hp
 ·rename_i t x f aZ
  obtain⟨y,hx⟩:=eC hp
  simp only[bY,aZ] at hq
  rw[hx] at hq
  repeat' (split at hq)
  all_goals first | exact hq.elim | exact hq.2.2.symm | (rename_i h1;cases h1)
 ·rename_i x aZ
  obtain⟨y,hx⟩:=eC hp
  simp only[bY,aZ] at hq
  rw[hx] at hq
  repeat' (split at hq)
  all_goals first | exact hq.elim | exact hq.2.2.symm | (rename_i h1;cases h1)
 cases hp
theorem Ft {C:Ctx} {o:Oper} {X:List Nat} {rho:Operand->AV} {h h':Nat->AB} {K:KK} (hh:∀id,tT X id=true->h id=.none\/h' id=h id) (hp:mi X o rho=true) (hq:bY C o rho h K):bY C o rho h' K:=by
 have hx:∀{a:AV},JZ X a=true->(∃id,a=.ow id/\(h id=.none\/h' id=h id))\/(∃id i off,a=.rp id i off/\(h id=.none\/h' id=h id))\/∃id off,a=.bx id off/\(h id=.none\/h' id=h id):=by
  intro a ha
  cases a with
  | ow id=>exact .inl ⟨id,rfl,hh id ha⟩
  | rp id i off=>exact .inr (.inl ⟨id,i,off,rfl,hh id ha⟩)
  | bx id off=>exact .inr (.inr ⟨id,off,rfl,hh id ha⟩)
  | _=>cases ha
 unfold mi at hp
 split at hp
 ·rename_i t a aZ
  simp only[bY,aZ] at hq ⊢
  cases hT:C.T t with
  | none=>simp only[hT] at hq
  | some ti=>
   simp only[hT] at hq ⊢
   rcases hx hp with⟨id,e,e2⟩ | ⟨id,i,off,e,e2⟩ | ⟨id,off,e,e2⟩ <;> simp only[e] at hq ⊢ <;> rcases e2 with e2 | e2 <;> first | (simp only[e2] at hq;done) | (rw[e2];exact hq)
 ·rename_i t x ix aZ
  simp only[bY,aZ] at hq ⊢
  split at hq
  case h_2=>exact hq.elim
  rename_i e size bytes zero eq k i hT rA
  cases pF:C.T e with
  | none=>simp only[pF] at hq
  | some te=>
   simp only[pF] at hq ⊢
   rcases hx hp with⟨id,e,e2⟩ | ⟨id,i,off,e,e2⟩ | ⟨id,off,e,e2⟩ <;> simp only[e] at hq ⊢ <;> rcases e2 with e2 | e2 <;> first | (simp only[e2] at hq;done) | (rw[e2];exact hq)
 ·rename_i t x ix ck aZ
  simp only[bY,aZ] at hq ⊢
  rcases hx hp with⟨id,e,e2⟩ | ⟨id,i,off,e,e2⟩ | ⟨id,off,e,e2⟩ <;> simp only[e] at hq ⊢
  ·rcases e2 with e2 | e2
   ·simp only[e2] at hq
    repeat' (split at hq)
    all_goals exact hq.elim
   rw[e2];exact hq
  ·exact hq
  exact hq
 ·rename_i c aZ
  split at hp
  ·rename_i x hc ha
   simp only[bY,aZ,hc,ha,eh,eN] at hq ⊢
   split at hq
   case h_2=>exact hq.elim
   rename_i x' t HK ht
   injection HK with HK _
   subst HK
   split at hq
   ·rcases hx hp with⟨id,e,e2⟩ | ⟨id,i,off,e,e2⟩ | ⟨id,off,e,e2⟩ <;> simp only[e] at hq
   ·rename_i hT
    rcases hx hp with⟨id,e,e2⟩ | ⟨id,i,off,e,e2⟩ | ⟨id,off,e,e2⟩ <;> simp only[hT,e,hlen,fB] at hq ⊢
    rcases e2 with e2 | e2
    ·simp only[e2] at hq
    rw[e2];exact hq
   ·rename_i hT
    rcases hx hp with⟨id,e,e2⟩ | ⟨id,i,off,e,e2⟩ | ⟨id,off,e,e2⟩ <;> simp only[hT,e] at hq ⊢
    rcases e2 with e2 | e2
    ·simp only[e2] at hq
    rw[e2];exact hq
   exact hq.elim
  cases hp
 cases hp
theorem xm {C:Ctx} {o:Oper} {X:List Nat} {rho:Operand->AV} {h:Nat->AB} {v:AV} {e:List (Nat×AB)} {n:Option AB} (hp:mi X o rho=true) (hq:bY C o rho h fun v' e' n'=>v'=v/\e'=e/\n'=n):n=none:=by
 have aux:∀(x:AV) (K:List (List PV)->Prop) (Q:Prop),(∀es,K es->Q)->fB h x K->Q:=by
  intro x K Q hk hq
  unfold fB at hq
  repeat' (split at hq)
  all_goals first | exact hq.elim | exact hk _ hq
 unfold mi at hp
 split at hp
 ·rename_i aZ
  simp only[bY,aZ] at hq
  repeat' (split at hq)
  all_goals first | exact hq.elim | exact hq.2.2.symm | (exfalso;obtain⟨r,hr,hq⟩:=hq;exact hq) | (rcases hq with⟨r,hr,hq⟩;first | exact hq.2.2.symm | (split at hq <;> first | exact hq.elim | exact hq.2.2.symm))
 ·rename_i aZ
  simp only[bY,aZ] at hq
  repeat' (split at hq)
  all_goals first | exact hq.elim | exact hq.2.2.symm | exact hq.2.2.2.symm | (obtain⟨r,hr,hq⟩:=hq;split at hq <;> first | exact hq.elim | exact hq.2.2.symm)
 ·rename_i aZ
  simp only[bY,aZ] at hq
  repeat' (split at hq)
  all_goals first | exact hq.elim | (obtain⟨r,hr,hq⟩:=hq;exact hq.2.2.symm) | (obtain⟨r,hr,hq⟩:=hq;split at hq <;> exact hq.2.2.symm)
 ·rename_i c aZ
  split at hp
  ·rename_i x hc ha
   simp only[bY,aZ,hc,ha,eh,eN] at hq
   split at hq
   ·split at hq
    ·split at hq
     ·exact hq.2.2.symm
     exact hq.elim
    ·split at hq
     ·exact hq.2.2.symm
     exact aux _ _ _ (fun _ h=>h.2.2.symm) hq
    ·split at hq
     ·split at hq
      ·exact hq.2.2.symm
      exact hq.elim
     exact hq.elim
    exact hq.elim
   exact hq.elim
  cases hp
 cases hp
theorem HL {C:Ctx} {o:Oper} {X:List Nat} {rho:Operand->AV} {h h':Nat->AB} {K:KK} (hh:∀id,tT X id=true->h id=.none\/h' id=h id) (hp:mj X o rho=true) (hq:bY C o rho h K):bY C o rho h' K:=by
 unfold mj at hp
 rcases (Bool.or_eq_true _ _ ▸ hp:mi X o rho=true\/pO X o rho=true) with hp | hp
 ·exact Ft hh hp hq
 unfold pO at hp
 split at hp
 ·rename_i t n c aZ
  simp only[bY,aZ] at hq ⊢
  exact hq
 ·rename_i t n ps aZ
  simp only[Bool.and_eq_true] at hp
  have eo:∀p∈ps.toList,pM (rho p.2)=true:=List.all_eq_true.1 hp.2
  have aux:∀(b:Bool) (size:Nat) (l:List (Nat×Operand)) (es:List (List PV)) (K:List (List PV)->List (Nat×AB)->Prop),(∀p∈l,pM (rho p.2)=true)->fA b h size rho l es K->fA b h' size rho l es K:=by
   intro b size l
   induction l with
   | nil=>intro es K _ h;exact h
   | cons p r ih=>
    intro es K hl hk
    obtain⟨i,x⟩:=p
    obtain⟨y,hy⟩:=eC (hl _ List.mem_cons_self)
    simp only at hy
    simp only[fA,hy] at hk ⊢
    have e:∀(h:Nat->AB) (Q:PV->List (Nat×AB)->Prop),qo b h (.p y) Q=Q y []:=fun h Q=>by cases b <;> rfl
    rw[e] at hk ⊢
    revert hk
    split
    ·intro hk
     revert hk
     split
     ·intro hk
      exact ih _ _ (fun p hp=>hl p (List.mem_cons_of_mem _ hp)) hk
     exact fun hk=>hk
    exact fun hk=>hk
  simp only[bY,aZ] at hq ⊢
  revert hq
  split
  ·split
   ·split
    ·split
     ·exact aux _ _ _ _ _ eo
     exact aux _ _ _ _ _ eo
    exact fun hq=>hq
   exact fun hq=>hq
  exact fun hq=>hq
 cases hp
theorem zr {C:Ctx} {o:Oper} {X:List Nat} {rho:Operand->AV} {h:Nat->AB} {v:AV} {e:List (Nat×AB)} {n:Option AB} (hp:mj X o rho=true) (hq:bY C o rho h fun v' e' n'=>v'=v/\e'=e/\n'=n):n=none\/tT X (o.dst.getD 0)=true:=by
 unfold mj at hp
 rcases (Bool.or_eq_true _ _ ▸ hp:mi X o rho=true\/pO X o rho=true) with hp | hp
 ·exact .inl (xm hp hq)
 unfold pO at hp
 split at hp
 ·exact .inr hp
 ·simp only[Bool.and_eq_true] at hp
  exact .inr hp.1
 cases hp
theorem HM {C:Ctx} {o:Oper} {X:List Nat} {rho:Operand->AV} {h h':Nat->AB} {K:KK} (hh:∀id,tT X (id+1000000)=true->h id≠.none->(kc (h' id)=kc (h id)/\kc (h id)≠0)\/h' id=h id) (hp:pP X o rho=true) (hq:bY C o rho h K):bY C o rho h' K:=by
 have hx:∀{a:AV},Mu X a=true->(∃id off,a=.bx id off/\tT X (id+1000000)=true)\/∃id i off,a=.rp id i off/\tT X (id+1000000)=true:=fun {a} ha=>by
  cases a with
  | bx id off=>exact .inl ⟨id,off,rfl,ha⟩
  | rp id i off=>exact .inr ⟨id,i,off,rfl,ha⟩
  | _=>cases ha
 unfold pP at hp
 split at hp
 ·rename_i t x f aZ
  simp only[bY,aZ] at hq ⊢
  split at hq
  case h_2=>exact hq.elim
  rename_i hT
  split at hq
  case h_2=>exact hq.elim
  rcases hx hp with⟨id,off,e,hi⟩ | ⟨id,i,off,e,hi⟩ <;> simp only[e] at hq ⊢
  ·have dh:h id≠.none:=fun e2=>by rw[e2] at hq;exact hq
   rcases hh id hi dh with⟨h1,h2⟩ | h2
   ·cases e3:h id <;> rw[e3] at h1 h2 hq <;> first | exact hq.elim | exact absurd rfl h2 | (cases e4:h' id <;> rw[e4] at h1 <;> first | exact hq | (exfalso;revert h1;decide) | cases h1)
   rw[h2];exact hq
  have dh:h id≠.none:=fun e2=>by rw[e2] at hq;exact hq
  rcases hh id hi dh with⟨h1,h2⟩ | h2
  ·cases e3:h id <;> rw[e3] at h1 h2 hq <;> first | exact hq.elim | exact absurd rfl h2 | (cases e4:h' id <;> rw[e4] at h1 <;> first | exact hq | (exfalso;revert h1;decide) | cases h1)
  rw[h2];exact hq
 ·rename_i x aZ
  simp only[bY,aZ] at hq ⊢
  rcases hx hp with⟨id,off,e,hi⟩ | ⟨id,i,off,e,hi⟩ <;> simp only[e] at hq ⊢
  ·have dh:h id≠.none:=fun e2=>by rw[e2] at hq;exact hq
   rcases hh id hi dh with⟨h1,h2⟩ | h2
   ·cases e3:h id <;> rw[e3] at h1 h2 hq <;> first | exact hq.elim | exact absurd rfl h2 | (cases e4:h' id <;> rw[e4] at h1 <;> first | exact hq | (exfalso;revert h1;decide) | cases h1)
   rw[h2];exact hq
  have dh:h id≠.none:=fun e2=>by rw[e2] at hq;exact hq
  rcases hh id hi dh with⟨h1,h2⟩ | h2
  ·cases e3:h id <;> rw[e3] at h1 h2 hq <;> first | exact hq.elim | exact absurd rfl h2 | (cases e4:h' id <;> rw[e4] at h1 <;> first | exact hq | (exfalso;revert h1;decide) | cases h1)
  rw[h2];exact hq
 cases hp
theorem zt {C:Ctx} {o:Oper} {X:List Nat} {rho:Operand->AV} {h:Nat->AB} {v:AV} {e:List (Nat×AB)} {n:Option AB} (hp:pP X o rho=true) (hq:bY C o rho h fun v' e' n'=>v'=v/\e'=e/\n'=n):n=none:=by
 unfold pP at hp
 split at hp
 ·rename_i aZ
  simp only[bY,aZ] at hq
  repeat' (split at hq)
  all_goals first | exact hq.elim | exact hq.2.2.symm
 ·rename_i aZ
  simp only[bY,aZ] at hq
  repeat' (split at hq)
  all_goals first | exact hq.elim | exact hq.2.2.symm
 cases hp
def zu (ops:Array Oper) (o:Oper):Bool:=match o.dst with
 | some d=>!pQ ops o d
 | none=>true
def zv (ops:Array Oper) (b:Array Nat):Bool:=
 (List.range ops.size).all fun j=>(match ops[j]? with
  | some oj=>(oj.after.toList.all fun e=>!Region.binds .any e || Nat.blt e.on j) && (List.range j).all fun i=>!(b.getD j 0).testBit i || (oj.after.toList.any fun e=>Region.binds .any e && (cK e.on i || (Nat.blt i e.on && (b.getD e.on 0).testBit i)))
  | none=>true)
def jq (C:Ctx) (ops:Array Oper):Bool:=
 let ap:=ops.toList.any fun o=>hZ C o.op
 let b:=Region.before ops
 zv ops b && (List.range ops.size).all fun j=>match ops[j]? with
  | some oj=>zu ops oj && (List.range j).all fun i=>match ops[i]? with
   | some oi=>zo C ap ops b i j oi oj
   | none=>true
  | none=>true
def zw (ops:Array Oper) (E:Nat->Bool):Prop:=∀(j:Nat) oj,ops[j]?=some oj->E j=true->∀e∈oj.after,Region.binds .any e=true->E e.on=true
theorem uT {ops:Array Oper} {b:Array Nat} (h:zv ops b=true):(∀(j:Nat) oj,ops[j]?=some oj->∀e∈oj.after,Region.binds .any e=true->e.on < j)/\
  ∀(E:Nat->Bool),zw ops E->∀(j:Nat) oj,ops[j]?=some oj->(∀e∈oj.after,Region.binds .any e=true->E e.on=true)->∀i,i < j->(b.getD j 0).testBit i=true->E i=true:=by
 have hj:∀(j:Nat) oj,ops[j]?=some oj->(∀e∈oj.after,Region.binds .any e=true->e.on < j)/\∀i,i < j->(b.getD j 0).testBit i=true->∃e∈oj.after,Region.binds .any e=true/\(e.on=i\/(i < e.on/\(b.getD e.on 0).testBit i=true)):=by
  intro j oj zx
  have h1:=List.all_eq_true.1 h j (List.mem_range.2 (Array.getElem?_eq_some_iff.1 zx).1)
  simp only[zx,Bool.and_eq_true] at h1
  refine⟨fun e he hb=>?_,fun i hi ht=>?_⟩
  ·have h2:=List.all_eq_true.1 h1.1 e (Array.mem_toList_iff.2 he)
   rw[hb] at h2
   simp only[Bool.not_true,Bool.false_or] at h2
   exact Nat.le_of_ble_eq_true h2
  have h2:=List.all_eq_true.1 h1.2 i (List.mem_range.2 hi)
  rw[ht] at h2
  simp only[Bool.not_true,Bool.false_or] at h2
  obtain⟨e,he,h3⟩:=List.any_eq_true.1 h2
  simp only[Bool.and_eq_true,Bool.or_eq_true] at h3
  exact⟨e,Array.mem_toList_iff.1 he,h3.1,h3.2.imp bH.1 fun h=>⟨Nat.le_of_ble_eq_true h.1,h.2⟩⟩
 refine⟨fun j oj zx=>(hj j oj zx).1,fun E hE j=>?_⟩
 induction j using Nat.strongRecOn with
 | _ j ih=>
  intro oj zx eo i hi ht
  obtain⟨e,he,hb,h2⟩:=(hj j oj zx).2 i hi ht
  rcases h2 with h2 | h2
  ·rw[<-h2];exact eo e he hb
  have fC:=(hj j oj zx).1 e he hb
  have Ox:=eo e he hb
  cases Lk:ops[e.on]? with
  | none=>
   have:e.on < ops.size:=Nat.lt_trans fC (Array.getElem?_eq_some_iff.1 zx).1
   rw[Array.getElem?_eq_getElem this] at Lk
   cases Lk
  | some oe=>exact ih e.on fC oe Lk (fun e' J1 iI=>hE e.on oe Lk Ox e' J1 iI) i h2.1 h2.2
theorem xn {h:Nat->AB} {fs:List (Nat×Nat×Bool)} {rho rho':Operand->AV}:∀{ps:List (Nat×Operand)} {cs:List PV},(∀p∈ps,rho p.2=rho' p.2)->hD h fs rho ps cs=hD h fs rho' ps cs:=by
 intro ps
 induction ps with
 | nil=>intro cs _;rfl
 | cons p ps ih=>
  intro cs hp
  obtain⟨i,x⟩:=p
  funext K
  have e:=hp (i,x) (by simp)
  simp only at e
  simp only[hD,e]
  have:∀cs,hD h fs rho ps cs=hD h fs rho' ps cs:=fun cs=>ih (fun p hm=>hp p (by simp[hm]))
  simp only[this]
theorem xo {h:Nat->AB} {fs:List (Nat×Nat×Bool)} {rho rho':Operand->AV}:∀{ps:List (Nat×Operand)} {cs:List AV},(∀p∈ps,rho p.2=rho' p.2)->iQ h fs rho ps cs=iQ h fs rho' ps cs:=by
 intro ps
 induction ps with
 | nil=>intro cs _;rfl
 | cons p ps ih=>
  intro cs hp
  obtain⟨i,x⟩:=p
  funext K
  have e:=hp (i,x) (by simp)
  simp only at e
  simp only[iQ,e]
  have:∀cs,iQ h fs rho ps cs=iQ h fs rho' ps cs:=fun cs=>ih (fun p hm=>hp p (by simp[hm]))
  simp only[this]
theorem oU {b:Bool} {h:Nat->AB} {size:Nat} {rho rho':Operand->AV}:∀{ps:List (Nat×Operand)} {cs:List (List PV)},(∀p∈ps,rho p.2=rho' p.2)->fA b h size rho ps cs=fA b h size rho' ps cs:=by
 intro ps
 induction ps with
 | nil=>intro cs _;rfl
 | cons p ps ih=>
  intro cs hp
  obtain⟨i,x⟩:=p
  funext K
  have e:=hp (i,x) (by simp)
  simp only at e
  simp only[fA,e]
  have:∀cs,fA b h size rho ps cs=fA b h size rho' ps cs:=fun cs=>ih (fun p hm=>hp p (by simp[hm]))
  simp only[this]
theorem nc {C:Ctx} {o:Oper} {rho rho':Operand->AV} {h:Nat->AB} {K:KK} (hx:∀x∈o.op.operands,rho x=rho' x) (hq:bY C o rho h K):bY C o rho' h K:=by
 cases aZ:o.op <;> simp only[aZ,Op.operands] at hx <;> simp only[bY,aZ] at hq ⊢ <;> try exact hq
 case move x=>rw[<-hx x (by simp)];exact hq
 case assign x=>rw[<-hx x (by simp)];exact hq
 case pick c a b=>rw[<-hx c (by simp),<-hx a (by simp),<-hx b (by simp)];exact hq
 case box e x=>rw[<-hx x (by simp)];exact hq
 case build t ps=>
  split at hq
  ·rename_i fs _ _ _ _ hT
   split at hq
   ·rename_i h1
    rw[<-xn (rho:=rho) (rho':=rho') (fun p hp=>hx p.2 (by simp;exact⟨p.1,Array.mem_toList_iff.1 hp⟩))]
    exact hq
   rename_i h1
   rw[<-xo (rho:=rho) (rho':=rho') (fun p hp=>hx p.2 (by simp;exact⟨p.1,Array.mem_toList_iff.1 hp⟩))]
   exact hq
  exact hq
 case buildSlice t n ps=>
  split at hq
  ·split at hq
   ·split at hq
    ·split at hq
     ·rw[<-oU (rho:=rho) (rho':=rho') (fun p hp=>hx p.2 (by simp;exact⟨p.1,Array.mem_toList_iff.1 hp⟩))]
      exact hq
     rw[<-oU (rho:=rho) (rho':=rho') (fun p hp=>hx p.2 (by simp;exact⟨p.1,Array.mem_toList_iff.1 hp⟩))]
     exact hq
    exact hq
   exact hq
  exact hq
 case load t x=>rw[<-hx x (by simp)];exact hq
 case store t x y=>rw[<-hx x (by simp),<-hx y (by simp)];exact hq
 case nilCheck x=>rw[<-hx x (by simp)];exact hq
 case binOp op t x y t'=>rw[<-hx x (by simp),<-hx y (by simp)];exact hq
 case unOp op t x=>rw[<-hx x (by simp)];exact hq
 case convert s d x=>rw[<-hx x (by simp)];exact hq
 case makeFunc fn first cap=>
  cases fn with
  | func f=>
   have:cap.toList.map rho=cap.toList.map rho':=List.map_congr_left fun x hm=>hx x (by simp[Array.mem_toList_iff.1 hm])
   simp only[this] at hq
   exact hq
  | _=>exact hq
 case makeSlice t x y=>rw[<-hx x (by simp),<-hx y (by simp)];exact hq
 case slice t x lo hi mx=>
  cases mx with
  | some m=>exact hq
  | none=>
   have e0:=hx x (by simp)
   have e1:∀y,lo=some y->rho y=rho' y:=fun y hy=>hx y (by simp[hy])
   have e2:∀y,hi=some y->rho y=rho' y:=fun y hy=>hx y (by simp[hy])
   have hs:fj C rho h t x lo hi K=fj C rho' h t x lo hi K:=by
    unfold fj
    rw[e0]
    cases lo <;> cases hi <;> simp only[Option.some.injEq,forall_eq',forall_eq,reduceCtorEq,false_implies,implies_true] at e1 e2 <;> simp only[e1,e2]
   have hv:∀id e' es,oG C rho t lo hi id e' es K=oG C rho' t lo hi id e' es K:=fun id e' es=>by
    unfold oG
    cases lo <;> cases hi <;> simp only[Option.some.injEq,forall_eq',forall_eq,reduceCtorEq,false_implies,implies_true] at e1 e2 <;> simp only[e1,e2]
   simp only at hq ⊢
   simp only[<-e0,<-hs,<-hv]
   exact hq
 case makeMap t r=>cases r <;> exact hq
 case lookup t x i ck=>rw[<-hx x (by simp),<-hx i (by simp)];exact hq
 case mapUpdate t x i y=>rw[<-hx x (by simp),<-hx i (by simp),<-hx y (by simp)];exact hq
 case fieldAddr t x f=>rw[<-hx x (by simp)];exact hq
 case field t x f=>rw[<-hx x (by simp)];exact hq
 case indexAddr t x y=>rw[<-hx x (by simp),<-hx y (by simp)];exact hq
 case index t x y=>rw[<-hx x (by simp),<-hx y (by simp)];exact hq
 case extract x i=>rw[<-hx x (by simp)];exact hq
 case call c=>
  have hm:c.args.toList.map rho=c.args.toList.map rho':=List.map_congr_left fun x C9=>hx x (by simp[Call.operands,Array.mem_toList_iff.1 C9])
  have ha:∀x∈c.args.toList,rho x=rho' x:=fun x C9=>hx x (by simp[Call.operands,Array.mem_toList_iff.1 C9])
  split at hq
  ·split at hq
   ·rename_i h1 h2;simp only[h1,h2] at *;rw[<-ha _ (by simp)];exact hq
   exact hq
  ·split at hq
   ·rename_i h1 h2;simp only[h1,h2] at *;rw[<-ha _ (by simp)];exact hq
   exact hq
  ·split at hq
   ·rename_i h1;simp only[h1] at *;rw[<-ha _ (by simp),<-ha _ (by simp)];exact hq
   exact hq
  ·split at hq
   ·rename_i h1;simp only[h1] at *;rw[<-ha _ (by simp),<-ha _ (by simp)];exact hq
   ·rename_i h1;simp only[h1] at *;rw[<-ha _ (by simp),<-ha _ (by simp),<-ha _ (by simp)];exact hq
   ·rename_i h1;simp only[h1] at *;rw[<-ha _ (by simp),<-ha _ (by simp),<-ha _ (by simp),<-ha _ (by simp),<-ha _ (by simp)];exact hq
   exact hq
  ·split at hq
   ·rename_i h1 h2;simp only[h1,h2] at *;rw[<-ha _ (by simp),<-ha _ (by simp)];exact hq
   exact hq
  ·rename_i g hc
   have I2:c.callee=.value g:=by
    cases My:c.callee with
    | value g'=>rw[My] at hc;simp only[eh] at hc;injection hc with hc;rw[hc]
    | invoke r m=>rw[My] at hc;cases hc
    | builtin b=>rw[My] at hc;cases b <;> cases hc
   have hg:=hx g (by simp[Call.operands,I2])
   rw[<-hg,<-hm]
   exact hq
  exact hq
end Go.AM
namespace Go.AM
open Go.RowKit
theorem pS {h h':Nat->AB} {id:Nat}:∀(fe:List (Nat×AB)) ,h id=h' id->app h fe id=app h' fe id:=by
 intro fe
 induction fe generalizing h h' with
 | nil=>intro e;exact e
 | cons x fe ih=>
  intro e
  refine ih ?_
  by_cases hx:id=x.1
  ·rw[hx,bc,bc]
  rw[bQ _ _ hx,bQ _ _ hx];exact e
theorem iu {h:Nat->AB}:∀{fe:List (Nat×AB)},fF h fe=true->∀p∈fe,(h p.1).there:=by
 intro fe
 induction fe with
 | nil=>intro _ p hp;cases hp
 | cons x fe ih=>
  intro hh p hp
  simp only[fF,Bool.and_eq_true] at hh
  rcases List.mem_cons.1 hp with e | e
  ·subst e
   have:=hh.1
   cases hx:h p.1 <;> rw[hx] at this <;> first | trivial | (simp[Dx] at this)
  exact ih hh.2 p e
def Hn (B:Nat->AB) (r:Nat->RR) (E:Nat->Bool):Nat->Nat->AB
 | 0=>B
 | i+1=>match E i with
  | true=>app (Hn B r E i) (r i).eff
  | false=>Hn B r E i
theorem GB {B:Nat->AB} {r:Nat->RR} {E:Nat->Bool} (i:Nat):∀(m:Nat),(∀k,k < m->(E k=true↔k < i)\/(r k).eff=[])->i<=m->Hn B r E m=Hn B r (fun _=>true) i:=by
 have low:∀m,m<=i->(∀k,k < m->(E k=true↔k < i)\/(r k).eff=[])->Hn B r E m=Hn B r (fun _=>true) m:=by
  intro m
  induction m with
  | zero=>intro _ _;rfl
  | succ m ih=>
   intro hm hk
   have h1:=ih (by omega) (fun k BA=>hk k (by omega))
   simp only[Hn]
   rw[h1]
   rcases hk m (by omega) with h | h
   ·rw[h.2 (by omega)]
   rw[h]
   cases E m <;> rfl
 intro m
 induction m with
 | zero=>
      intro _ hi;have:i=0:=by omega
      subst this;rfl
 | succ m ih=>
  intro hk hi
  by_cases e:i=m+1
  ·subst e;exact low (m+1) (Nat.le_refl _) hk
  have h1:=ih (fun k BA=>hk k (by omega)) (by omega)
  rw[<-h1]
  simp only[Hn]
  rcases hk m (by omega) with h | h
  ·have:E m=false:=by rw[Bool.eq_false_iff];intro ht;have:=h.1 ht;omega
   rw[this]
  rw[h]
  cases E m <;> rfl
theorem HN {B:Nat->AB} {r:Nat->RR} {E:Nat->Bool} {i:Nat} (hi:E i=false):∀(m:Nat),(∀k,i < k->k < m->E k=true->(r k).eff=[])->i < m->Hn B r (fun k=>E k || cK k i) m=app (Hn B r E m) (r i).eff:=by
 have low:∀m,m<=i->Hn B r (fun k=>E k || cK k i) m=Hn B r E m:=by
  intro m
  induction m with
  | zero=>intro _;rfl
  | succ m ih=>
   intro hm
   have:cK m i=false:=by rw[Bool.eq_false_iff];intro h;have:=bH.1 h;omega
   simp only[Hn,this,Bool.or_false]
   rw[ih (by omega)]
 intro m
 induction m with
 | zero=>intro _ h;omega
 | succ m ih=>
  intro hk fC
  by_cases e:m=i
  ·subst e
   simp only[Hn,hi,bH.2 rfl,Bool.or_true]
   rw[low m (Nat.le_refl _)]
  have h1:=ih (fun k h1 h2=>hk k h1 (by omega)) (by omega)
  have:cK m i=false:=by rw[Bool.eq_false_iff];intro h;exact e (bH.1 h)
  simp only[Hn,this,Bool.or_false]
  rw[h1]
  cases hE:E m with
  | false=>rfl
  | true=>rw[hk m (by omega) (by omega) hE];rfl
theorem DD (C:Ctx) (ap:Bool) (op:Op):cls C ap op<=3:=by
 unfold cls
 split <;> first | decide | skip
 all_goals (cases ap <;> first | decide | skip)
 all_goals (split <;> first | decide | skip)
 all_goals (split <;> decide)
theorem DE (C:Ctx) (op:Op):cls C true op≠1:=by
 unfold cls
 split <;> first | decide | skip
 all_goals (split <;> first | decide | skip)
 all_goals (split <;> decide)
theorem B6 {C:Ctx} {ap:Bool} {o:Oper} {rho:Operand->AV} {h:Nat->AB} {K:KK} (hc:cls C ap o.op<=1) (hq:bY C o rho h K):∃v e,K v e none:=by
 cases aZ:o.op <;> rw[aZ] at hc <;> simp only[bY,aZ] at hq
 case move x=>exact⟨_,_,hq⟩
 case assign x=>exact⟨_,_,hq⟩
 case pick c a b=>
  split at hq
  ·split at hq <;> exact⟨_,_,hq⟩
  exact hq.elim
 case binOp op t x y t'=>
  split at hq
  ·obtain⟨v,h1,_⟩:=w9 hq;exact⟨_,_,h1⟩
  ·obtain⟨v,h1,_⟩:=w8 hq;exact⟨_,_,h1⟩
  exact hq.elim
 case unOp op t x=>
  split at hq
  ·exact⟨_,_,hq⟩
  ·obtain⟨v,h1,_⟩:=ku hq;exact⟨_,_,h1⟩
  exact hq.elim
 case convert s d x=>
  split at hq
  ·obtain⟨v,h1,_⟩:=ku hq;exact⟨_,_,h1⟩
  ·exact⟨_,_,hq⟩
  ·exact⟨_,_,hq⟩
  exact hq.elim
 case extract x i=>
  split at hq
  ·split at hq
   ·exact⟨_,_,hq⟩
   exact hq.elim
  exact hq.elim
 case index t x y=>
  split at hq
  ·obtain⟨b,_,hq⟩:=hq;exact⟨_,_,hq⟩
  exact hq.elim
 case field t x f=>
  split at hq
  ·split at hq
   ·split at hq
    ·split at hq
     ·exact⟨_,_,hq⟩
     exact hq.elim
    split at hq
    ·exact⟨_,_,hq⟩
    exact hq.elim
   exact hq.elim
  exact hq.elim
 case makeFunc fn first cap=>
  cases fn with
  | func f=>
   simp only at hq
   split at hq
   ·exact⟨_,_,hq⟩
   exact hq.elim
  | _=>exact hq.elim
 case fieldAddr t x f=>
  split at hq
  ·split at hq
   ·split at hq
    ·exact⟨_,_,hq⟩
    ·split at hq
     ·exact hq.elim
     exact⟨_,_,hq⟩
    ·split at hq
     ·exact⟨_,_,hq⟩
     ·exact⟨_,_,hq⟩
     exact hq.elim
    exact hq.elim
   exact hq.elim
  exact hq.elim
 case nilCheck x=>
  split at hq
  ·exact⟨_,_,hq⟩
  ·split at hq
   ·exact⟨_,_,hq⟩
   ·exact⟨_,_,hq⟩
   exact hq.elim
  ·split at hq
   ·exact⟨_,_,hq⟩
   ·exact⟨_,_,hq⟩
   exact hq.elim
  exact hq.elim
 case call c=>
  simp only[cls] at hc
  split at hc
  ·exact absurd hc (by decide)
  ·exact absurd hc (by decide)
  ·rename_i h1
   simp only[h1,eh,eN] at hq
   split at hq
   ·split at hq
    ·exact⟨_,_,hq⟩
    exact hq.elim
   exact hq.elim
  ·rename_i h1
   simp only[h1,eh,eN] at hq
   split at hq
   ·split at hq
    ·exact⟨_,_,hq⟩
    exact hq.elim
   ·split at hq
    ·exact⟨_,_,hq⟩
    exact hq.elim
   ·split at hq
    ·exact⟨_,_,hq⟩
    exact hq.elim
   exact hq.elim
  ·split at hc <;> exact absurd hc (by decide)
  ·exact absurd hc (by decide)
  exact absurd hc (by decide)
 all_goals exact absurd hc (by simp[cls])
theorem Fu {C:Ctx} {ap:Bool} {o:Oper} {rho:Operand->AV} {h:Nat->AB} {v:AV} {e:List (Nat×AB)} {n:Option AB} {b:AB} (hq:bY C o rho h fun v' e' n'=>v'=v/\e'=e/\n'=n) (hn:some b=n):cls C ap o.op=3\/cls C ap o.op=2:=by
 have hle:=DD C ap o.op
 by_cases h1:cls C ap o.op<=1
 ·obtain⟨_,_,_,_,h2⟩:=B6 h1 hq
  rw[<-h2] at hn
  cases hn
 omega
section
variable {C:Ctx} {ops:Array Oper} {st:Nat->AS} {r:Nat->RR} {ap:Bool} {X:List Nat}
theorem J2 {B:Nat->AB} {r:Nat->RR} {E:Nat->Bool} {d:Nat} (i:Nat):∀(m:Nat),(∀k,k < m->(E k=true↔k < i)\/∀p∈(r k).eff,p.1≠d)->i<=m->Hn B r E m d=Hn B r (fun _=>true) i d:=by
 have low:∀m,m<=i->(∀k,k < m->(E k=true↔k < i)\/∀p∈(r k).eff,p.1≠d)->Hn B r E m d=Hn B r (fun _=>true) m d:=by
  intro m
  induction m with
  | zero=>intro _ _;rfl
  | succ m ih=>
   intro hm hk
   have h1:=ih (by omega) (fun k BA=>hk k (by omega))
   simp only[Hn]
   rcases hk m (by omega) with h | h
   ·rw[h.2 (by omega)]
    exact pS _ h1
   cases E m with
   | true=>exact pS _ h1
   | false=>exact h1.trans (gr h).symm
 intro m
 induction m with
 | zero=>
      intro _ hi;have:i=0:=by omega
      subst this;rfl
 | succ m ih=>
  intro hk hi
  by_cases e:i=m+1
  ·subst e;exact low (m+1) (Nat.le_refl _) hk
  have h1:=ih (fun k BA=>hk k (by omega)) (by omega)
  rw[<-h1]
  simp only[Hn]
  rcases hk m (by omega) with h | h
  ·have:E m=false:=by rw[Bool.eq_false_iff];intro ht;have:=h.1 ht;omega
   rw[this]
  cases E m with
  | true=>exact gr h
  | false=>rfl
structure Mz (C:Ctx) (ap:Bool) (ops:Array Oper) (i j:Nat) (oi oj:Oper):Prop where
 dst:∀x,oi.dst=some x->oj.dst≠some x
 war:∀d,oj.dst=some d->d∈oi.looksAt ops->((Region.before ops).getD j 0).testBit i=true
 raw:∀d,oi.dst=some d->d∈oj.looksAt ops->((Region.before ops).getD j 0).testBit i=true
 w3:cls C ap oj.op=3->cls C ap oi.op=3->((Region.before ops).getD j 0).testBit i=true
theorem jc (hok:jq C ops=true):zv ops (Region.before ops)=true/\(∀(j:Nat) oj,ops[j]?=some oj->∀d,oj.dst=some d->d ∉ oj.looksAt ops)/\
  ∀(i j:Nat) oi oj,i < j->ops[i]?=some oi->ops[j]?=some oj->Mz C (ops.toList.any fun o=>hZ C o.op) ops i j oi oj:=by
 simp only[jq,Bool.and_eq_true] at hok
 obtain⟨h1,h2⟩:=hok
 have hj:∀(j:Nat) oj,ops[j]?=some oj->zu ops oj=true/\∀(i:Nat) oi,i < j->ops[i]?=some oi->zo C (ops.toList.any fun o=>hZ C o.op) ops (Region.before ops) i j oi oj=true:=by
  intro j oj zx
  have h3:=List.all_eq_true.1 h2 j (List.mem_range.2 (Array.getElem?_eq_some_iff.1 zx).1)
  simp only[zx,Bool.and_eq_true] at h3
  refine⟨h3.1,fun i oi hi MA=>?_⟩
  have h4:=List.all_eq_true.1 h3.2 i (List.mem_range.2 hi)
  simp only[MA] at h4
  exact h4
 refine⟨h1,fun j oj zx d hd=>?_,fun i j oi oj CB MA zx=>?_⟩
 ·have:=(hj j oj zx).1
  simp only[zu,hd,pQ] at this
  simpa using this
 have h3:=(hj j oj zx).2 i oi CB MA
 simp only[zo,Bool.and_eq_true] at h3
 obtain⟨⟨⟨p1,p2⟩,p3⟩,p4⟩:=h3
 refine⟨fun x hx hy=>?_,fun d hd hm=>?_,fun d hd hm=>?_,fun hc hi=>?_⟩
 ·simp only[hx,hy,bH.2 rfl,Bool.not_true] at p1
  cases p1
 ·simp only[hd,pQ] at p2
  have As:(oi.looksAt ops).contains d=true:=by simpa using hm
  rw[As] at p2
  simpa using p2
 ·simp only[hd,pQ] at p3
  have As:(oj.looksAt ops).contains d=true:=by simpa using hm
  rw[As] at p3
  simpa using p3
 rw[if_pos hc,if_pos hi] at p4
 exact p4
theorem zy (hok:jq C ops=true) (H:∀(i:Nat) o,ops[i]?=some o->DStep C ap ops.toList o (st i) (r i) (st (i+1))) {i:Nat} {o:Oper} (ho:ops[i]?=some o) {d:Tmp} (hd:o.dst=some d):∀k,i+1<=k->k<=ops.size->(st k).t d=(r i).v:=by
 obtain⟨_,hs,hp⟩:=jc hok
 intro k
 induction k with
 | zero=>intro h;omega
 | succ k ih=>
  intro I6 hk
  by_cases e:i=k
  ·subst e
   rw[(H i o ho).next,hd]
   exact bc _ _ _
  have h1:=ih (by omega) (by omega)
  have xp:ops[k]?=some ops[k]:=Array.getElem?_eq_getElem (by omega)
  rw[(H k _ xp).next]
  show en (st k).t _ _ d=_
  have dh:=(hp i k o _ (by omega) ho xp).dst d hd
  cases q9:ops[k].dst with
  | none=>exact h1
  | some d'=>rw[en,bQ _ _ (fun e=>dh (by rw[q9,e]))];exact h1
theorem vy (H:∀(i:Nat) o,ops[i]?=some o->DStep C ap ops.toList o (st i) (r i) (st (i+1))) {x:Nat} (hx:∀(k:Nat) o,ops[k]?=some o->o.dst≠some x):∀k,k<=ops.size->(st k).t x=(st 0).t x:=by
 intro k
 induction k with
 | zero=>intro _;rfl
 | succ k ih=>
  intro hk
  have xp:ops[k]?=some ops[k]:=Array.getElem?_eq_getElem (by omega)
  rw[(H k _ xp).next]
  show en (st k).t _ _ x=_
  cases q9:ops[k].dst with
  | none=>exact ih (by omega)
  | some d'=>rw[en,bQ _ _ (fun e=>hx k _ xp (by rw[q9,e]))];exact ih (by omega)
theorem B7 (hok:jq C ops=true) (H:∀(i:Nat) o,ops[i]?=some o->DStep C ap ops.toList o (st i) (r i) (st (i+1))) {j:Nat} {o:Oper} (ho:ops[j]?=some o) {d:Tmp} (hd:o.dst=some d):∀k,k<=j->(st k).t d=(st 0).t d:=by
 obtain⟨_,hs,hp⟩:=jc hok
 have hj:=(Array.getElem?_eq_some_iff.1 ho).1
 intro k
 induction k with
 | zero=>intro _;rfl
 | succ k ih=>
  intro hk
  have xp:ops[k]?=some ops[k]:=Array.getElem?_eq_getElem (by omega)
  rw[(H k _ xp).next]
  show en (st k).t _ _ d=_
  cases q9:ops[k].dst with
  | none=>exact ih (by omega)
  | some d'=>rw[en,bQ _ _ (fun e=>(hp k j _ o (by omega) xp ho).dst d' q9 (by rw[hd,e]))];exact ih (by omega)
def B8 (ops:Array Oper) (r:Nat->RR) (k d:Nat) (b:AB):Prop:=∃o,ops[k]?=some o/\o.dst=some d/\(r k).new=some b
def gL (ops:Array Oper) (r:Nat->RR) (i d:Nat):Prop:=∃k b,i<=k/\B8 ops r k d b
theorem od (hok:jq C ops=true) (H:∀(i:Nat) o,ops[i]?=some o->DStep C ap ops.toList o (st i) (r i) (st (i+1))) {B:Nat->AB} (B9:∀k d b,B8 ops r k d b->B d=b) (uU:∀d,¬gL ops r 0 d->B d=(st 0).h d) (h0:∀d,gL ops r 0 d->(st 0).h d=.none):
  ∀i,i<=ops.size->∀d,(gL ops r i d->(st i).h d=.none/\Hn B r (fun _=>true) i d=B d)/\(¬gL ops r i d->(st i).h d=Hn B r (fun _=>true) i d):=by
 obtain⟨_,hs,hp⟩:=jc hok
 intro i
 induction i with
 | zero=>intro _ d;exact⟨fun h=>⟨h0 d h,rfl⟩,fun h=>(uU d h).symm⟩
 | succ i ih=>
  intro hi d
  have ih:=ih (by omega)
  have ho:ops[i]?=some ops[i]:=Array.getElem?_eq_getElem (by omega)
  have D:=H i _ ho
  have hth:=iu D.there
  have MB:Hn B r (fun _=>true) (i+1)=app (Hn B r (fun _=>true) i) (r i).eff:=rfl
  have wR:(st (i+1)).h=oM (app (st i).h (r i).eff) (ops[i].dst.getD 0) (r i).new:=by rw[D.next]
  have out:gL ops r i d->∀p∈(r i).eff,p.1≠d:=fun uV p GC e=>by
   have h1:=hth p GC
   rw[e,((ih d).1 uV).1] at h1
   exact h1
  have J3:∀b,(r i).new=some b->∃d',ops[i].dst=some d':=fun b hb=>by
   have:=D.ndst
   rw[hb] at this
   cases hd:ops[i].dst with
   | none=>rw[hd] at this;cases this
   | some d'=>exact⟨d',rfl⟩
  refine⟨fun uV=>?_,fun uV=>?_⟩
  ·have Fv:gL ops r i d:=by obtain⟨k,b,h1,h2⟩:=uV;exact⟨k,b,by omega,h2⟩
   obtain⟨h1,h2⟩:=(ih d).1 Fv
   refine⟨?_,by rw[MB,gr (out Fv)];exact h2⟩
   rw[wR]
   cases hn:(r i).new with
   | none=>show app _ _ d=_;rw[gr (out Fv)];exact h1
   | some b=>
    obtain⟨d',q9⟩:=J3 b hn
    rw[q9]
    show bI _ d' b d=_
    have dh:d≠d':=fun e=>by
     obtain⟨k,b',h3,o',h4,h5,h6⟩:=uV
     exact (hp i k _ o' (by omega) ho h4).dst d' q9 (by rw[h5,e])
    rw[bQ _ _ dh,gr (out Fv)]
    exact h1
  by_cases hc:∃b,B8 ops r i d b
  ·obtain⟨b,hc⟩:=hc
   have Fv:gL ops r i d:=⟨i,b,Nat.le_refl _,hc⟩
   obtain⟨o',h4,h5,h6⟩:=hc
   rw[ho] at h4
   injection h4 with h4
   rw[wR,MB,gr (out Fv),((ih d).1 Fv).2,h6,h4,h5,B9 i d b ⟨o',by rw[ho,h4],h5,h6⟩]
   exact bc _ _ _
  have Fv:¬gL ops r i d:=fun ⟨k,b,h1,h2⟩=>by
   by_cases e:k=i
   ·subst e;exact hc ⟨b,h2⟩
   exact uV ⟨k,b,by omega,h2⟩
  have h1:=(ih d).2 Fv
  rw[wR,MB,<-pS (r i).eff h1]
  cases hn:(r i).new with
  | none=>rfl
  | some b=>
   obtain⟨d',q9⟩:=J3 b hn
   rw[q9]
   show bI _ d' b d=_
   rw[bQ _ _ (fun e=>hc ⟨b,_,ho,by rw[q9,e],hn⟩)]
def KC (b b':AB):Prop:=b'=b\/(∃e es dw,b=.row e es/\b'=.row e dw)\/(∃cs jF,b=.box cs/\b'=.box jF)\/(∃mk es mk' dw,b=.map mk es/\b'=.map mk' dw)
theorem KC.trans {a b c:AB} (h:KC a b) (k:KC b c):KC a c:=by
 rcases h with rfl | ⟨e,es,dw,rfl,rfl⟩ | ⟨cs,jF,rfl,rfl⟩ | ⟨m,es,m',dw,rfl,rfl⟩
 ·exact k
 ·rcases k with rfl | ⟨e',fs,HO,h1,rfl⟩ | ⟨cs,jF,h1,rfl⟩ | ⟨_,_,_,_,h1,rfl⟩
  ·exact .inr (.inl ⟨_,_,_,rfl,rfl⟩)
  ·injection h1 with h1 h2;subst h1;exact .inr (.inl ⟨_,_,_,rfl,rfl⟩)
  ·cases h1
  cases h1
 ·rcases k with rfl | ⟨e',fs,HO,h1,rfl⟩ | ⟨ds,MC,h1,rfl⟩ | ⟨_,_,_,_,h1,rfl⟩
  ·exact .inr (.inr (.inl ⟨_,_,rfl,rfl⟩))
  ·cases h1
  ·exact .inr (.inr (.inl ⟨_,_,rfl,rfl⟩))
  cases h1
 rcases k with rfl | ⟨e',fs,HO,h1,rfl⟩ | ⟨ds,MC,h1,rfl⟩ | ⟨_,_,_,_,h1,rfl⟩
 ·exact .inr (.inr (.inr ⟨_,_,_,_,rfl,rfl⟩))
 ·cases h1
 ·cases h1
 exact .inr (.inr (.inr ⟨_,_,_,_,rfl,rfl⟩))
theorem DF {b b':AB} (h:Dw b b'=true):KC b b':=by
 cases b <;> cases b' <;> first | (simp[Dw] at h;done) | skip
 ·have:=bH.1 h;subst this;exact .inr (.inl ⟨_,_,_,rfl,rfl⟩)
 ·exact .inr (.inr (.inl ⟨_,_,rfl,rfl⟩))
 exact .inr (.inr (.inr ⟨_,_,_,_,rfl,rfl⟩))
theorem oV {h:Nat->AB}:∀{fe:List (Nat×AB)},gQ h fe=true->∀p∈fe,KC (h p.1) p.2:=by
 intro fe
 induction fe with
 | nil=>intro _ p hp;cases hp
 | cons x fe ih=>
  intro hh p hp
  simp only[gQ,Bool.and_eq_true] at hh
  rcases List.mem_cons.1 hp with e | e
  ·subst e;exact DF hh.1
  exact ih hh.2 p e
theorem sx (hok:jq C ops=true) (H:∀(i:Nat) o,ops[i]?=some o->DStep C ap ops.toList o (st i) (r i) (st (i+1))) (GD:ap=false) {B:Nat->AB} (B9:∀k d b,B8 ops r k d b->B d=b) (uU:∀d,¬gL ops r 0 d->B d=(st 0).h d) (h0:∀d,gL ops r 0 d->(st 0).h d=.none) (E:Nat->Bool):
  ∀m,m<=ops.size->∀d,KC (B d) (Hn B r E m d):=by
 have hh:=od hok H B9 uU h0
 have canon:∀m,m<=ops.size->∀d,KC (B d) (Hn B r (fun _=>true) m d):=by
  intro m
  induction m with
  | zero=>intro _ d;exact .inl rfl
  | succ m ih=>
   intro hm d
   have ho:ops[m]?=some ops[m]:=Array.getElem?_eq_getElem (by omega)
   have D:=H m _ ho
   show KC (B d) (app (Hn B r (fun _=>true) m) (r m).eff d)
   rcases ew (r m).eff (Hn B r (fun _=>true) m) d with⟨b,h1,h2⟩ | ⟨_,h2⟩
   ·rw[h2]
    have hk:=oV (D.kind GD) _ h1
    have ht:=iu D.there _ h1
    have I7:¬gL ops r m d:=fun hp=>by rw[((hh m (by omega) d).1 hp).1] at ht;exact ht
    rw[(hh m (by omega) d).2 I7] at hk
    exact (ih (by omega) d).trans hk
   rw[h2];exact ih (by omega) d
 intro m
 induction m with
 | zero=>intro _ d;exact .inl rfl
 | succ m ih=>
  intro hm d
  have ho:ops[m]?=some ops[m]:=Array.getElem?_eq_getElem (by omega)
  have D:=H m _ ho
  simp only[Hn]
  cases E m with
  | false=>exact ih (by omega) d
  | true=>
   show KC (B d) (app (Hn B r E m) (r m).eff d)
   rcases ew (r m).eff (Hn B r E m) d with⟨b,h1,h2⟩ | ⟨_,h2⟩
   ·rw[h2]
    have hk:=oV (D.kind GD) _ h1
    have ht:=iu D.there _ h1
    have I7:¬gL ops r m d:=fun hp=>by rw[((hh m (by omega) d).1 hp).1] at ht;exact ht
    rw[(hh m (by omega) d).2 I7] at hk
    exact (canon m (by omega) d).trans hk
   rw[h2];exact ih (by omega) d
def VE (ops:Array Oper) (E:Nat->Bool) (x:Nat):Prop:=∀(k:Nat) o,ops[k]?=some o->o.dst=some x->E k=true
open Classical in
noncomputable def TE (ops:Array Oper) (st:Nat->AS) (E:Nat->Bool) (x:Nat):AV:=if VE ops E x then (st ops.size).t x else (st 0).t x
def LE (ops:Array Oper) (r:Nat->RR) (E:Nat->Bool) (d:Nat):Prop:=∀k b,B8 ops r k d b->E k=true
theorem DG {h:Nat->AB} {id c:Nat}:∀{eff:List (Nat×AB)},(∀p∈eff,p.1=id->kc p.2=c)->kc (h id)=c->kc (app h eff id)=c:=by
 intro eff
 induction eff generalizing h with
 | nil=>intro _ h2;exact h2
 | cons p r ih=>
  intro h1 h2
  obtain⟨q,b⟩:=p
  refine ih (h:=bI h q b) (fun p hp e=>h1 p (List.mem_cons_of_mem _ hp) e) ?_
  by_cases e:id=q
  ·subst e
   rw[bc]
   exact h1 _ List.mem_cons_self rfl
  rw[bQ _ _ e];exact h2
theorem zz {X:List Nat} {h:Nat->AB} {id:Nat} (hid:tT X (id+1000000)=true):∀{eff:List (Nat×AB)},oT X h eff=true->∀p∈eff,p.1=id->kc p.2=kc (h id)/\kc (h id)≠0:=by
 intro eff
 induction eff with
 | nil=>intro _ p hp;cases hp
 | cons q r ih=>
  intro hk p hp e
  obtain⟨i,b⟩:=q
  unfold oT at hk
  split at hk
  ·rename_i hi
   simp only[Bool.and_eq_true,Bool.not_eq_true'] at hk
   obtain⟨k1,k2,k3⟩:=hk
   rcases List.mem_cons.1 hp with rfl | hp
   ·simp only at e
    subst e
    exact⟨Nat.eq_of_beq_eq_true k1,fun e0=>by rw[e0] at k2;cases k2⟩
   exact ih k3 p hp e
  rename_i hi
  rcases List.mem_cons.1 hp with rfl | hp
  ·simp only at e
   subst e
   rw[hid] at hi
   cases hi
  exact ih hk p hp e
theorem DH {X:List Nat} (hok:jq C ops=true) (H:∀(i:Nat) o,ops[i]?=some o->DStep C ap ops.toList o (st i) (r i) (st (i+1))) (DI:∀k,k < ops.size->oT X (st k).h (r k).eff=true) {B:Nat->AB} (hh:∀i,i<=ops.size->∀d,(gL ops r i d->(st i).h d=.none/\Hn B r (fun _=>true) i d=B d)/\(¬gL ops r i d->(st i).h d=Hn B r (fun _=>true) i d)) (E:Nat->Bool) {id i:Nat} (hid:tT X (id+1000000)=true) (hi:i<=ops.size) (dh:(st i).h id≠.none):
  (kc (Hn B r E ops.size id)=kc ((st i).h id)/\kc ((st i).h id)≠0)\/Hn B r E ops.size id=(st i).h id:=by
 have MD:∀k,k<=ops.size->(st k).h id≠.none->(st k).h id=Hn B r (fun _=>true) k id:=fun k hk h=>by
  by_cases hp:gL ops r k id
  ·exact absurd ((hh k hk id).1 hp).1 h
  exact (hh k hk id).2 hp
 have ME:∀{b:AB},kc b≠0->b≠.none:=fun hb e=>by rw[e] at hb;exact hb rfl
 have spec:∀m,m < ops.size->∀p∈(r m).eff,p.1=id->kc p.2=kc (Hn B r (fun _=>true) m id)/\kc (Hn B r (fun _=>true) m id)≠0:=fun m hm p hp e=>by
  obtain⟨h1,h2⟩:=zz hid (DI m hm) p hp e
  rw[MD m (by omega) (ME h2)] at h1 h2
  exact⟨h1,h2⟩
 by_cases ht:∃k,k < ops.size/\∃p∈(r k).eff,p.1=id
 ·left
  have same:∀m,m<=ops.size->kc (Hn B r (fun _=>true) m id)=kc (B id):=by
   intro m
   induction m with
   | zero=>intro _;rfl
   | succ m ih=>
    intro hm
    have:=ih (by omega)
    show kc (app (Hn B r (fun _=>true) m) (r m).eff id)=_
    exact DG (fun p hp e=>(spec m (by omega) p hp e).1.trans this) this
  have any:∀m,m<=ops.size->kc (Hn B r E m id)=kc (B id):=by
   intro m
   induction m with
   | zero=>intro _;rfl
   | succ m ih=>
    intro hm
    simp only[Hn]
    cases E m with
    | false=>exact ih (by omega)
    | true=>exact DG (fun p hp e=>(spec m (by omega) p hp e).1.trans (same m (by omega))) (ih (by omega))
  obtain⟨k,hk,p,hp,e⟩:=ht
  have h0:=(spec k hk p hp e).2
  rw[same k (by omega)] at h0
  have hs:kc ((st i).h id)=kc (B id):=by rw[MD i hi dh];exact same i hi
  exact⟨by rw[any _ (Nat.le_refl _),hs],by rw[hs];exact h0⟩
 right
 have un:∀(F:Nat->Bool) m,m<=ops.size->Hn B r F m id=B id:=by
  intro F m
  induction m with
  | zero=>intro _;rfl
  | succ m ih=>
   intro hm
   simp only[Hn]
   cases F m with
   | false=>exact ih (by omega)
   | true=>
    show app (Hn B r F m) (r m).eff id=_
    rw[gr fun p Mq e=>ht ⟨m,by omega,p,Mq,e⟩]
    exact ih (by omega)
 rw[un E _ (Nat.le_refl _),MD i hi dh,un _ i hi]
theorem Fw {A:dc} (hC:ct A.C) (GD:ap=ops.toList.any fun o=>hZ A.C o.op) (hok:jq A.C ops=true) (hd:∀o∈ops.toList,iK o A.n) (H:∀(i:Nat) o,ops[i]?=some o->DStep A.C ap ops.toList o (st i) (r i) (st (i+1))) (G:∀(i:Nat) o,ops[i]?=some o->sv A.C ap X (gR A.C ap ops) o (st i) (r i) i) {B:Nat->AB} (B9:∀k d b,B8 ops r k d b->B d=b) (uU:∀d,¬gL ops r 0 d->B d=(st 0).h d) (h0:∀d,gL ops r 0 d->(st 0).h d=.none)
  {E:Nat->Bool} (hE:zw ops E) {i:Nat} {o:Oper} (ho:ops[i]?=some o) (hi:E i=false) (eo:∀e∈o.after,Region.binds .any e=true->E e.on=true) {S:Nat->Prop} {rho:Nat->Value} {a:Act} {w:World} (sim:cm A di (LE ops r E) S rho ⟨TE ops st E,Hn B r E ops.size⟩ a w)
  {Q:Exit->Act->World->Prop} {next:Act->World->Prop} (hnext:∀S' rho' a' w',cm A di (LE ops r fun k=>E k || cK k i) S' rho' ⟨TE ops st (fun k=>E k || cK k i),Hn B r (fun k=>E k || cK k i) ops.size⟩ a' w'->next a' w'):wpOp A.C.P ops Q i next a w:=by
 obtain⟨DJ,hs,hp⟩:=jc hok
 rw[<-GD] at hp
 obtain⟨GF,J4⟩:=uT DJ
 have n_:i < ops.size:=(Array.getElem?_eq_some_iff.1 ho).1
 have hh:=od hok H B9 uU h0
 have D:=H i o ho
 have JT:iK o A.n:=hd o (List.mem_of_getElem? (by simpa using ho))
 have bits:∀k,k < i->((Region.before ops).getD i 0).testBit k=true->E k=true:=J4 E hE i o ho eo
 have later:∀(k:Nat) ok,ops[k]?=some ok->i < k->((Region.before ops).getD k 0).testBit i=true->E k=false:=by
  intro k ok hk I6 MF
  rw[Bool.eq_false_iff]
  intro xq
  have:=J4 E hE k ok hk (fun e he hb=>hE k ok hk xq e he hb) i I6 MF
  rw[hi] at this
  cases this
 have uW:∀x,x∈o.looksAt ops->TE ops st E x=(st i).t x:=by
  intro x hx
  unfold TE
  split
  ·rename_i hv
   by_cases hw:∃(k:Nat) (ok:Oper),ops[k]?=some ok/\ok.dst=some x
   ·obtain⟨k,ok,hk,vz⟩:=hw
    have xi:=(Array.getElem?_eq_some_iff.1 hk).1
    rcases Nat.lt_trichotomy k i with h | h | h
    ·rw[zy hok H hk vz ops.size (by omega) (Nat.le_refl _),zy hok H hk vz i (by omega) (by omega)]
    ·subst h
     rw[ho] at hk
     injection hk with hk
     subst hk
     exact absurd hx (hs k o ho x vz)
    have h1:=later k ok hk h ((hp i k o ok h ho hk).war x vz hx)
    rw[hv k ok hk vz] at h1
    cases h1
   have dh:∀(k:Nat) o,ops[k]?=some o->o.dst≠some x:=fun k o hk e=>hw ⟨k,o,hk,e⟩
   rw[vy H dh ops.size (Nat.le_refl _),vy H dh i (by omega)]
  rename_i hv
  have hex:∃(k:Nat) (ok:Oper),ops[k]?=some ok/\ok.dst=some x/\E k=false:=Classical.byContradiction fun hn=>hv fun k ok hk vz=>by
   cases Oy:E k with
   | true=>rfl
   | false=>exact absurd ⟨k,ok,hk,vz,Oy⟩ hn
  obtain⟨k,ok,hk,vz,xq⟩:=hex
  rcases Nat.lt_trichotomy k i with h | h | h
  ·have:=bits k h ((hp k i ok o h hk ho).raw x vz hx)
   rw[xq] at this
   cases this
  ·subst h
   rw[ho] at hk
   injection hk with hk
   subst hk
   exact absurd hx (hs k o ho x vz)
  exact (B7 hok H hk vz i (by omega)).symm
 have GG:(cls A.C ap o.op=3\/(cls A.C ap o.op=2/\(gR A.C ap ops)[i]?=some true))->∀k,i < k->k < ops.size->E k=true->(r k).eff=[]:=by
  intro hc k I6 xi xq
  have hk:ops[k]?=some ops[k]:=Array.getElem?_eq_getElem xi
  by_cases h3:cls A.C ap ops[k].op=3
  ·have:=later k _ hk I6 (by
    rcases hc with hc | ⟨hc,hf⟩
    ·exact (hp i k o _ I6 ho hk).w3 h3 hc
    exact (pR ho hf hc k _ hk h3).2 I6)
   rw[xq] at this
   cases this
  exact (H k _ hk).quiet h3
 have DK:∀k,k < ops.size->(r k).eff≠[]->cls A.C ap (ops[k]?.getD o).op=3:=by
  intro k hk dh
  have BA:ops[k]?=some ops[k]:=Array.getElem?_eq_getElem hk
  rw[BA]
  by_cases h3:cls A.C ap ops[k].op=3
  ·exact h3
  exact absurd ((H k _ BA).quiet h3) dh
 have DL:(cls A.C ap o.op=3\/(cls A.C ap o.op=2/\(gR A.C ap ops)[i]?=some true))->Hn B r E ops.size=Hn B r (fun _=>true) i:=by
  intro hc
  refine GB i ops.size (fun k xi=>?_) (by omega)
  have hk:ops[k]?=some ops[k]:=Array.getElem?_eq_getElem xi
  by_cases dh:(r k).eff=[]
  ·exact .inr dh
  have h3:=DK k xi dh
  rw[hk] at h3
  have h3:cls A.C ap ops[k].op=3:=h3
  refine .inl ⟨fun xq=>?_,fun fC=>?_⟩
  ·rcases Nat.lt_trichotomy k i with h | h | h
   ·exact h
   ·subst h;rw[hi] at xq;cases xq
   exact absurd (GG hc k h xi xq) dh
  rcases hc with hc | ⟨hc,hf⟩
  ·exact bits k fC ((hp k i _ o fC hk ho).w3 hc h3)
  exact bits k fC ((pR ho hf hc k _ hk h3).1 fC)
 have MG:cls A.C ap o.op=2->Fs o.op=false->∀id,tT X id=true->Hn B r E ops.size id=Hn B r (fun _=>true) i id:=fun hc hth id hid=>by
  refine J2 i ops.size (fun k xi=>?_) (by omega)
  have hk:ops[k]?=some ops[k]:=Array.getElem?_eq_getElem xi
  by_cases dh:∀p∈(r k).eff,p.1≠id
  ·exact .inr dh
  have BN:(r k).eff≠[]:=fun e=>dh (by rw[e];simp)
  have h3:cls A.C ap ops[k].op=3:=by have:=DK k xi BN;rw[hk] at this;exact this
  have MH:(r k).run=true:=by
   cases hr:(r k).run with
   | true=>rfl
   | false=>exact absurd ((H k _ hk).not hr).2.1 BN
  have hf:(gR A.C ap ops)[k]?=some true:=by
   rcases (G k _ hk MH).2.1 with h | h
   ·exact h
   exact absurd (fun p hp e=>by have:=xl h p hp;rw[e,hid] at this;cases this) dh
  have ord:=sw hk hf h3 i o ho hc hth
  refine .inl ⟨fun xq=>?_,fun fC=>?_⟩
  ·rcases Nat.lt_trichotomy k i with h | h | h
   ·exact h
   ·subst h;rw[hi] at xq;cases xq
   have:=later k _ hk h (ord.1 h)
   rw[xq] at this
   cases this
  exact bits k fC (ord.2 fC)
 have ext:∀id,(st i).h id=.none\/Hn B r (fun _=>true) i id=(st i).h id:=by
  intro id
  by_cases uV:gL ops r i id
  ·exact .inl ((hh i (by omega) id).1 uV).1
  exact .inr ((hh i (by omega) id).2 uV).symm
 have NF:(r i).run=true->bY A.C o (ev (TE ops st E)) (Hn B r E ops.size) fun v e n=>v=(r i).v/\e=(r i).eff/\n=(r i).new:=by
  intro hrun
  have h1:=D.ran hrun
  have h2:bY A.C o (ev (TE ops st E)) (st i).h fun v e n=>v=(r i).v/\e=(r i).eff/\n=(r i).new:=by
   refine nc (fun x hx=>?_) h1
   cases x with
   | tmp t=>
    exact (uW t (List.mem_append_left _ (List.mem_filterMap.2 ⟨.tmp t,by simpa using hx,rfl⟩))).symm
   | const v=>rfl
   | global g=>rfl
   | func f=>rfl
  have four:cls A.C ap o.op=0\/cls A.C ap o.op=1\/cls A.C ap o.op=2\/cls A.C ap o.op=3:=by
   have:=DD A.C ap o.op
   omega
  rcases four with h | h | h | h
  ·exact HH h h2
  ·have J5:ap=false:=by
    cases MI:ap with
    | false=>rfl
    | true=>
     rw[MI] at h
     exact absurd h (DE A.C o.op)
   refine HI h (fun id ht=>?_) h2
   have GH:=sx hok H J5 B9 uU h0 E ops.size (Nat.le_refl _) id
   have J6:=sx hok H J5 B9 uU h0 (fun _=>true) i (by omega) id
   have heq:(st i).h id=Hn B r (fun _=>true) i id:=by
    rcases ext id with e | e
    ·rw[e] at ht;exact ht.elim
    exact e.symm
   rw[<-heq] at J6
   rcases J6 with e | ⟨e,es,dw,e1,e2⟩ | ⟨cs,jF,e1,e2⟩ | ⟨m,es,m',dw,e1,e2⟩
   ·rw[<-e] at GH
    rcases GH with f | ⟨f,fs,HO,f1,f2⟩ | ⟨cs,jF,f1,f2⟩ | ⟨m,es,m',dw,f1,f2⟩
    ·rw[f];exact⟨ht,fun e es h=>⟨es,h⟩,fun cs h=>⟨cs,h⟩,fun cs h=>⟨cs,h⟩,fun e es h=>⟨es,h⟩⟩
    ·rw[f1,f2];exact⟨trivial,fun e es h=>(by injection h with h1 h2;subst h1;exact⟨HO,rfl⟩),fun cs h=>(by cases h),fun cs h=>(by cases h),fun _ _ h=>by cases h⟩
    ·rw[f1,f2];exact⟨trivial,fun e es h=>by (cases h),fun cs h=>⟨jF,rfl⟩,fun cs h=>(by cases h),fun _ _ h=>by cases h⟩
    rw[f1,f2];exact⟨trivial,fun e es h=>by (cases h),fun cs h=>by (cases h),fun cs h=>(by cases h),fun _ _ h=>by cases h⟩
   ·rw[e1] at GH
    rw[e2]
    rcases GH with f | ⟨f,fs,HO,f1,f2⟩ | ⟨cs,jF,f1,f2⟩ | ⟨m,es,m',dw,f1,f2⟩
    ·rw[f];exact⟨trivial,fun e es h=>(by injection h with h1 h2;subst h1;exact⟨_,rfl⟩),fun cs h=>by (cases h),fun cs h=>(by cases h),fun _ _ h=>by cases h⟩
    ·injection f1 with f1 _;subst f1
     rw[f2];exact⟨trivial,fun e es h=>(by injection h with h1 h2;subst h1;exact⟨_,rfl⟩),fun cs h=>by (cases h),fun cs h=>(by cases h),fun _ _ h=>by cases h⟩
    ·cases f1
    cases f1
   ·rw[e1] at GH
    rw[e2]
    rcases GH with f | ⟨f,fs,HO,f1,f2⟩ | ⟨ds,MC,f1,f2⟩ | ⟨m,es,m',dw,f1,f2⟩
    ·rw[f];exact⟨trivial,fun e es h=>by (cases h),fun cs h=>⟨_,rfl⟩,fun cs h=>(by cases h),fun _ _ h=>by cases h⟩
    ·cases f1
    ·rw[f2];exact⟨trivial,fun e es h=>by (cases h),fun cs h=>⟨_,rfl⟩,fun cs h=>(by cases h),fun _ _ h=>by cases h⟩
    cases f1
   rw[e1] at GH
   rw[e2]
   rcases GH with f | ⟨f,fs,HO,f1,f2⟩ | ⟨ds,MC,f1,f2⟩ | ⟨m,es,m',dw,f1,f2⟩
   ·rw[f];exact⟨trivial,fun e es h=>by (cases h),fun cs h=>by (cases h),fun cs h=>(by cases h),fun _ _ h=>by cases h⟩
   ·cases f1
   ·cases f1
   rw[f2];exact⟨trivial,fun e es h=>by (cases h),fun cs h=>by (cases h),fun cs h=>(by cases h),fun _ _ h=>by cases h⟩
  ·rcases (G i o ho hrun).1 with hf | hpv | hfp | hth | h3
   case inr.inr.inr.inr=>rw[h] at h3;cases h3
   case inr.inr.inr.inl=>
    have DI:∀k,k < ops.size->oT X (st k).h (r k).eff=true:=fun k xi=>by
     have hk:ops[k]?=some ops[k]:=Array.getElem?_eq_getElem xi
     cases hr:(r k).run with
     | true=>exact (G k _ hk hr).2.2
     | false=>rw[((H k _ hk).not hr).2.1];rfl
    refine nc (fun x hx=>?_) (HM (h':=Hn B r E ops.size) (fun id hid dh=>DH hok H DI hh E hid (by omega) dh) hth h1)
    cases x with
    | tmp t=>
     exact (uW t (List.mem_append_left _ (List.mem_filterMap.2 ⟨.tmp t,by simpa using hx,rfl⟩))).symm
    | const v=>rfl
    | global g=>rfl
    | func f=>rfl
   case inr.inr.inl=>
    refine nc (fun x hx=>?_) (HL (h':=Hn B r E ops.size) (fun id hid=>?_) hfp h1)
    ·cases x with
     | tmp t=>
      exact (uW t (List.mem_append_left _ (List.mem_filterMap.2 ⟨.tmp t,by simpa using hx,rfl⟩))).symm
     | const v=>rfl
     | global g=>rfl
     | func f=>rfl
    rw[MG h (AU hfp) id hid]
    exact ext id
   case inr.inl=>
    refine nc (fun x hx=>?_) (HJ hpv h1)
    cases x with
    | tmp t=>
     exact (uW t (List.mem_append_left _ (List.mem_filterMap.2 ⟨.tmp t,by simpa using hx,rfl⟩))).symm
    | const v=>rfl
    | global g=>rfl
    | func f=>rfl
   rw[DL (.inr ⟨h,hf⟩)]
   obtain⟨v,e,n,⟨rfl,rfl,rfl⟩,h4⟩:=m_ ext h2
   exact h4 _ ⟨rfl,rfl,rfl⟩
  rw[DL (.inl h)]
  obtain⟨v,e,n,⟨rfl,rfl,rfl⟩,h4⟩:=m_ ext h2
  exact h4 _ ⟨rfl,rfl,rfl⟩
 have GI:∀x,o.dst≠some x->(VE ops (fun k=>E k || cK k i) x↔VE ops E x):=by
  intro x hx
  refine⟨fun hv k ok hk vz=>?_,fun hv k ok hk vz=>by simp[hv k ok hk vz]⟩
  have:=hv k ok hk vz
  simp only[Bool.or_eq_true] at this
  rcases this with h | h
  ·exact h
  have:=bH.1 h
  subst this
  rw[ho] at hk
  injection hk with hk
  subst hk
  exact absurd vz hx
 have J7:∀v,v=(r i).v->en (TE ops st E) o.dst v=TE ops st (fun k=>E k || cK k i):=by
  intro v hv
  funext x
  have other:o.dst≠some x->TE ops st E x=TE ops st (fun k=>E k || cK k i) x:=fun hx=>by
   unfold TE
   by_cases Ll:VE ops E x
   ·rw[if_pos Ll,if_pos ((GI x hx).2 Ll)]
   rw[if_neg Ll,if_neg fun h=>Ll ((GI x hx).1 h)]
  cases iU:o.dst with
  | none=>exact other (by rw[iU];intro h;cases h)
  | some d=>
   show bI _ _ _ _=_
   by_cases e:x=d
   ·subst e
    rw[bc]
    unfold TE
    rw[if_pos,zy hok H ho iU ops.size (by omega) (Nat.le_refl _),hv]
    intro k ok hk vz
    have:k=i:=by
     rcases Nat.lt_trichotomy k i with h5 | h5 | h5
     ·exact absurd iU ((hp k i ok o h5 hk ho).dst x vz)
     ·exact h5
     exact absurd vz ((hp i k o ok h5 ho hk).dst x iU)
    simp[this,bH.2]
   rw[bQ _ _ e]
   exact other fun h=>e (by rw[iU] at h;injection h with h;exact h.symm)
 unfold wpOp
 simp only[ho]
 by_cases hrun:(r i).run=true
 ·have sj:Region.wanted o (yielded ops a.tmps)=true:=by
   have hg:=D.guard
   unfold Region.wanted
   split at hg
   ·rename_i h;rw[h]
   rename_i g want h
   rw[h]
   obtain⟨og,tg,b,k1,k2,k3,k4⟩:=hg
   have DM:tg∈o.looksAt ops:=List.mem_append_right _ (by rw[h];simp[show ops[g]?=some og by simpa using k1,k2])
   have:=kW sim (ops:=ops) (g:=g) (by simpa using k1) k2 trivial (by show TE ops st E tg=_;rw[uW tg DM];exact k3)
   simp only[this]
   rw[hrun] at k4
   exact k4.symm
  rw[if_pos sj]
  refine .inl (Di A o _ _ _ _ _ _ _ _ next Q hC sim (fun _ _=>trivial) JT (NF hrun) (fun v eff b hk=>?_) fun v eff new S' rho' a' w' hk cg=>?_)
  ·obtain⟨_,_,I8⟩:=hk
   obtain⟨d,iU⟩:∃d,o.dst=some d:=by
    have:=D.ndst
    rw[<-I8] at this
    cases q9:o.dst with
    | none=>rw[q9] at this;cases this
    | some d=>exact⟨d,rfl⟩
   have tH:B8 ops r i d b:=⟨o,ho,iU,I8.symm⟩
   rw[iU]
   refine⟨fun hL=>(by have:=hL i b tH;rw[hi] at this;cases this),?_⟩
   show Hn B r E ops.size d=b
   have uV:gL ops r i d:=⟨i,b,Nat.le_refl _,tH⟩
   have dh:∀k,k < ops.size->E k=true->∀p∈(r k).eff,p.1≠d:=by
    intro k xi xq p GC e
    have hk:ops[k]?=some ops[k]:=Array.getElem?_eq_getElem xi
    have ht:=iu (H k _ hk).there p GC
    rcases Nat.lt_trichotomy k i with h | h | h
    ·have GJ:gL ops r k d:=⟨i,b,by omega,tH⟩
     rw[e,((hh k (by omega) d).1 GJ).1] at ht
     exact ht
    ·subst h;rw[hi] at xq;cases xq
    have h3:cls A.C ap ops[k].op=3:=by
     by_cases h3:cls A.C ap ops[k].op=3
     ·exact h3
     have:=(H k _ hk).quiet h3;rw[this] at GC;cases GC
    have hmk:cls A.C ap o.op=3\/cls A.C ap o.op=2:=Fu (ap:=ap) (NF hrun) I8
    have:=later k _ hk h (by
     rcases hmk with hmk | hmk
     ·exact (hp i k o _ h ho hk).w3 h3 hmk
     rcases (G i o ho hrun).1 with hf | hpv | hfp | hth | h3'
     ·exact (pR ho hf hmk k _ hk h3).2 h
     ·have:=zq hpv (D.ran hrun)
      rw[<-I8] at this
      cases this
     ·rcases zr hfp (D.ran hrun) with C_ | hdX
      ·rw[<-I8] at C_
       cases C_
      rw[iU] at hdX
      have hdX:tT X d=true:=hdX
      have BN:(r k).eff≠[]:=fun e=>by rw[e] at GC;cases GC
      have MH:(r k).run=true:=by
       cases hr:(r k).run with
       | true=>rfl
       | false=>exact absurd ((H k _ hk).not hr).2.1 BN
      have hf:(gR A.C ap ops)[k]?=some true:=by
       rcases (G k _ hk MH).2.1 with h | h
       ·exact h
       have:=xl h p GC
       rw[e,hdX] at this
       cases this
      exact (sw hk hf h3 i o ho hmk (AU hfp)).1 h
     ·have:=zt hth (D.ran hrun)
      rw[<-I8] at this
      cases this
     rw[hmk] at h3';cases h3')
    rw[xq] at this
    cases this
   have:∀m,m<=ops.size->Hn B r E m d=B d:=by
    intro m
    induction m with
    | zero=>intro _;rfl
    | succ m ih=>
     intro hm
     simp only[Hn]
     cases Oz:E m with
     | false=>exact ih (by omega)
     | true=>
      show app (Hn B r E m) (r m).eff d=_
      rw[gr (dh m (by omega) Oz)]
      exact ih (by omega)
   rw[this ops.size (Nat.le_refl _),B9 i d b tH]
  obtain⟨e1,e2,e3⟩:=hk
  refine hnext S' rho' a' w' ?_
  have hH:app (Hn B r E ops.size) eff=Hn B r (fun k=>E k || cK k i) ops.size:=by
   rw[e2]
   by_cases dh:(r i).eff=[]
   ·rw[dh]
    show Hn B r E ops.size=_
    have:∀m,Hn B r (fun k=>E k || cK k i) m=Hn B r E m:=by
     intro m
     induction m with
     | zero=>rfl
     | succ m ih=>
      simp only[Hn]
      rw[ih]
      by_cases e:m=i
      ·subst e;rw[hi,bH.2 rfl,dh];rfl
      have:cK m i=false:=by rw[Bool.eq_false_iff];intro h;exact e (bH.1 h)
      rw[this,Bool.or_false]
    exact (this _).symm
   have h3:cls A.C ap o.op=3:=by
    by_cases h3:cls A.C ap o.op=3
    ·exact h3
    exact absurd (D.quiet h3) dh
   exact (HN hi ops.size (GG (.inl h3)) n_).symm
  have bN:=cg
  rw[J7 v e1] at bN
  have fw:cm A (tL di o.dst) (wX (LE ops r E) new (o.dst.getD 0)) S' rho' ⟨TE ops st (fun k=>E k || cK k i),Hn B r (fun k=>E k || cK k i) ops.size⟩ a' w':=by rw[<-hH];exact bN
  refine fw.nB (fun _ _=>.inl trivial) fun d=>?_
  cases J8:new with
  | none=>
   refine⟨fun h k b tH=>?_,fun h k b tH=>by simp[h k b tH]⟩
   have:=h k b tH
   simp only[Bool.or_eq_true] at this
   rcases this with h | h
   ·exact h
   have:=bH.1 h
   subst this
   obtain⟨o',h1,h2,h4⟩:=tH
   rw[<-e3,J8] at h4
   cases h4
  | some b=>
   obtain⟨d',iU⟩:∃d,o.dst=some d:=by
    have:=D.ndst
    rw[<-e3,J8] at this
    cases q9:o.dst with
    | none=>rw[q9] at this;cases this
    | some d=>exact⟨d,rfl⟩
   rw[iU]
   show _↔(LE ops r E d\/d=d')
   refine⟨fun h=>?_,fun h k b' tH=>?_⟩
   ·by_cases e:d=d'
    ·exact .inr e
    refine .inl fun k b' tH=>?_
    have:=h k b' tH
    simp only[Bool.or_eq_true] at this
    rcases this with h | h
    ·exact h
    have:=bH.1 h
    subst this
    obtain⟨o',h1,h2,h4⟩:=tH
    rw[ho] at h1
    injection h1 with h1
    rw[<-h1,iU] at h2
    injection h2 with h2
    exact absurd h2.symm e
   rcases h with h | h
   ·simp[h k b' tH]
   obtain⟨o',h1,h2,h4⟩:=tH
   have:k=i:=by
    rcases Nat.lt_trichotomy k i with h5 | h5 | h5
    ·exact absurd (by rw[iU,h]) ((hp k i o' o h5 h1 ho).dst d h2)
    ·exact h5
    exact absurd (by rw[h2,h]) ((hp i k o o' h5 ho h1).dst d' iU)
   simp[this,bH.2]
 have DN:(r i).run=false:=by simpa using hrun
 obtain⟨n1,n2,n3⟩:=D.not DN
 have sj:Region.wanted o (yielded ops a.tmps)=false:=by
  have hg:=D.guard
  unfold Region.wanted
  split at hg
  ·rw[DN] at hg;cases hg
  rename_i g want h
  rw[h]
  obtain⟨og,tg,b,k1,k2,k3,k4⟩:=hg
  have DM:tg∈o.looksAt ops:=List.mem_append_right _ (by rw[h];simp[show ops[g]?=some og by simpa using k1,k2])
  have:=kW sim (ops:=ops) (g:=g) (by simpa using k1) k2 trivial (by show TE ops st E tg=_;rw[uW tg DM];exact k3)
  simp only[this]
  rw[DN] at k4
  exact k4.symm
 rw[if_neg (by rw[sj];decide)]
 refine hnext S rho _ _ ?_
 have bN:=sim.value o.dst JT jY undef (.p _ _ (.im _))
 rw[J7 jY n1.symm] at bN
 have hH:Hn B r (fun k=>E k || cK k i) ops.size=Hn B r E ops.size:=by
  have:∀m,Hn B r (fun k=>E k || cK k i) m=Hn B r E m:=by
   intro m
   induction m with
   | zero=>rfl
   | succ m ih=>
    simp only[Hn]
    rw[ih]
    by_cases e:m=i
    ·subst e;rw[hi,bH.2 rfl,n2];rfl
    have:cK m i=false:=by rw[Bool.eq_false_iff];intro h;exact e (bH.1 h)
    rw[this,Bool.or_false]
  exact this _
 rw[hH]
 refine bN.nB (fun _ _=>.inl trivial) fun d=>⟨fun h k b tH=>?_,fun h k b tH=>by simp[h k b tH]⟩
 have:=h k b tH
 simp only[Bool.or_eq_true] at this
 rcases this with h | h
 ·exact h
 have:=bH.1 h
 subst this
 obtain⟨o',h1,h2,h4⟩:=tH
 rw[n3] at h4
 cases h4
theorem filter_lt {p q:Nat->Bool} (MJ:∀x,q x=true->p x=true) {i:Nat} (hp:p i=true) (hq:q i=false):∀(l:List Nat),(l.filter q).length<=(l.filter p).length/\(i∈l->(l.filter q).length < (l.filter p).length):=by
 intro l
 induction l with
 | nil=>exact⟨Nat.le_refl _,fun h=>by cases h⟩
 | cons x l ih=>
  simp only[List.filter_cons]
  refine⟨?_,fun h=>?_⟩
  ·cases ML:q x with
   | true=>rw[MJ x ML];simp;exact ih.1
   | false=>cases p x <;> simp <;> have:=ih.1 <;> omega
  rcases List.mem_cons.1 h with e | e
  ·subst e;rw[hp,hq];simp;have:=ih.1;omega
  have:=ih.2 e
  cases ML:q x with
  | true=>rw[MJ x ML];simp;exact this
  | false=>cases p x <;> simp <;> omega
theorem Fx {A:dc} (hC:ct A.C) (GD:ap=ops.toList.any fun o=>hZ A.C o.op) (hok:jq A.C ops=true) (hd:∀o∈ops.toList,iK o A.n) (H:∀(i:Nat) o,ops[i]?=some o->DStep A.C ap ops.toList o (st i) (r i) (st (i+1))) (G:∀(i:Nat) o,ops[i]?=some o->sv A.C ap X (gR A.C ap ops) o (st i) (r i) i) {B:Nat->AB} (B9:∀k d b,B8 ops r k d b->B d=b) (uU:∀d,¬gL ops r 0 d->B d=(st 0).h d) (h0:∀d,gL ops r 0 d->(st 0).h d=.none)
  {Q:Exit->Act->World->Prop} (hQ:∀S rho a w,cm A di di S rho (st ops.size) a w->Q .normal a w):
  ∀(fuel:Nat) (listed:Array Bool) (S:Nat->Prop) (rho:Nat->Value) (a:Act) (w:World),listed.size=ops.size->zw ops (fun i=>listed.getD i false)->((List.range ops.size).filter fun i=>!listed.getD i false).length<=fuel ->
   cm A di (LE ops r fun i=>listed.getD i false) S rho ⟨TE ops st (fun i=>listed.getD i false),Hn B r (fun i=>listed.getD i false) ops.size⟩ a w->wpAny A.C.P .any ops Q fuel listed a w:=by
 obtain⟨DJ,hs,hp⟩:=jc hok
 obtain⟨GF,_⟩:=uT DJ
 have hh:=od hok H B9 uU h0
 have fin:∀(listed:Array Bool) (S:Nat->Prop) (rho:Nat->Value) (a:Act) (w:World),listed.size=ops.size->Region.ready .any ops listed=[]->cm A di (LE ops r fun i=>listed.getD i false) S rho ⟨TE ops st (fun i=>listed.getD i false),Hn B r (fun i=>listed.getD i false) ops.size⟩ a w->Q .normal a w:=by
  intro listed S rho a w hsz hr sim
  have all:∀i,i < ops.size->listed.getD i false=true:=by
   intro i
   induction i using Nat.strongRecOn with
   | _ i ih=>
    intro hi
    have ho:ops[i]?=some ops[i]:=Array.getElem?_eq_getElem hi
    cases hl:listed.getD i false with
    | true=>rfl
    | false=>
     have:i∈Region.ready .any ops listed:=mem_ready.2 ⟨getD_in (by omega) hl,_,ho,fun e he hb=>by
      have h1:=GF i _ ho e he hb
      exact ih e.on h1 (by omega)⟩
     rw[hr] at this
     cases this
  refine hQ S rho a w ?_
  have hH:Hn B r (fun i=>listed.getD i false) ops.size=(st ops.size).h:=by
   rw[GB ops.size ops.size (fun k hk=>.inl ⟨fun _=>hk,fun _=>all k hk⟩) (Nat.le_refl _)]
   funext d
   refine ((hh ops.size (Nat.le_refl _) d).2 fun ⟨k,b,h1,o,h2,_⟩=>?_).symm
   have:=(Array.getElem?_eq_some_iff.1 h2).1
   omega
  have hT:TE ops st (fun i=>listed.getD i false)=(st ops.size).t:=funext fun x=>if_pos fun k o hk _=>all k (Array.getElem?_eq_some_iff.1 hk).1
  rw[hH,hT] at sim
  refine sim.nB (fun _ _=>trivial) fun d=>⟨fun _ k b hc=>?_,fun _=>trivial⟩
  obtain⟨o,h2,_⟩:=hc
  exact all k (Array.getElem?_eq_some_iff.1 h2).1
 intro fuel
 induction fuel with
 | zero=>
  intro listed S rho a w hsz hcl J9 sim
  have hr:Region.ready .any ops listed=[]:=by
   rw[List.eq_nil_iff_forall_not_mem]
   intro i hi
   obtain⟨h1,o,ho,_⟩:=mem_ready.1 hi
   have fC:=(Array.getElem?_eq_some_iff.1 ho).1
   have hm:i∈(List.range ops.size).filter fun i=>!listed.getD i false:=List.mem_filter.2 ⟨List.mem_range.2 fC,by rw[getD_both h1];rfl⟩
   have:=List.eq_nil_of_length_eq_zero (Nat.le_zero.1 J9)
   rw[this] at hm
   cases hm
  exact⟨hr,fin listed S rho a w hsz hr sim⟩
 | succ fuel ih=>
  intro listed S rho a w hsz hcl J9 sim
  refine⟨fun hr=>fin listed S rho a w hsz hr sim,fun i hi=>?_⟩
  obtain⟨h1,o,ho,eo⟩:=mem_ready.1 hi
  have fC:=(Array.getElem?_eq_some_iff.1 ho).1
  have NG:listed.getD i false=false:=getD_both h1
  have vA:(fun k=>(listed.setIfInBounds i true).getD k false)=fun k=>listed.getD k false || cK k i:=by
   funext k
   by_cases e:i=k
   ·subst e
    rw[bH.2 rfl,Bool.or_true]
    simp[hsz,fC]
   rw[getD_set_ne false e]
   have:cK k i=false:=by rw[Bool.eq_false_iff];intro h;exact e (bH.1 h).symm
   rw[this,Bool.or_false]
  refine Fw hC GD hok hd H G B9 uU h0 (E:=fun i=>listed.getD i false) hcl ho NG eo sim fun S' rho' a' w' cg=>?_
  refine ih (listed.setIfInBounds i true) S' rho' a' w' (by simp[hsz]) ?_ ?_ ?_
  ·rw[vA]
   intro j oj hj NH e he hb
   simp only[Bool.or_eq_true] at NH ⊢
   rcases NH with h | h
   ·exact .inl (hcl j oj hj h e he hb)
   have:=bH.1 h
   subst this
   rw[ho] at hj
   injection hj with hj
   subst hj
   exact .inl (eo e he hb)
  ·have GK:∀k,(listed.setIfInBounds i true).getD k false=(listed.getD k false || cK k i):=fun k=>congrFun vA k
   have:=(filter_lt (p:=fun k=>!listed.getD k false) (q:=fun k=>!(listed.setIfInBounds i true).getD k false) (fun x hx=>by
    rw[GK x] at hx
    cases hl:listed.getD x false with
    | true=>rw[hl] at hx;cases hx
    | false=>rfl) (i:=i) (by rw[NG];rfl) (by rw[GK i,bH.2 rfl,Bool.or_true];rfl) (List.range ops.size)).2 (List.mem_range.2 fC)
   omega
  rw[vA];exact cg
end
def HX.gZ:List HX->List AV
 | []=>[]
 | .av x::r=>x::HX.gZ r
 | .row _ _::r=>HX.gZ r
theorem HX.vB (f:AV->AV):∀(r:List HX),HX.gZ (r.map (HX.lL f))=(HX.gZ r).map f
 | []=>rfl
 | .av x::r=>by simp[HX.gZ,HX.lL,HX.vB f r]
 | .row _ _::r=>by simp[HX.gZ,HX.lL,HX.vB f r]
theorem HX.vC {x:AV}:∀{r:List HX},.av x∈r->x∈HX.gZ r
 | .av y::r,h=>by
  rcases List.mem_cons.1 h with h | h
  ·injection h with h;subst h;simp[HX.gZ]
  simp[HX.gZ,HX.vC h]
 | .row _ _::r,h=>by
  rcases List.mem_cons.1 h with h | h
  ·cases h
  simp[HX.gZ,HX.vC h]
def vD:AB->List AV
 | .box cs=>cs
 | .gJ _ cs=>cs
 | .a7 _ es=>es.flatMap HX.gZ
 | _=>[]
theorem sy (d:Nat) (b:AB):vD (uO d b)=(vD b).map (sc d):=by
 cases b with
 | a7 e es=>
  show (es.map fun r=>r.map (HX.lL (sc d))).flatMap HX.gZ=(es.flatMap HX.gZ).map (sc d)
  induction es with
  | nil=>rfl
  | cons r es ih=>simp only[List.map_cons,List.flatMap_cons,List.map_append,ih,HX.vB]
 | _=>rfl
def qy (d:Nat) (s:AS):Prop:=s.h d=.none/\(∀j,nL d (s.t j)=false)/\∀k,∀x∈vD (s.h k),nL d x=false
theorem DO (d:Nat) (x:AV):nL d (sc d x)=false:=by
 rw[Dk]
 split
 ·rfl
 assumption
theorem AW {d d':Nat} {x:AV} (h:nL d x=false):nL d (sc d' x)=false:=by
 rw[Dk]
 split
 ·rfl
 exact h
theorem AX (d:Nat) (s:AS) (k:Nat):(k=d/\(hI d s).h k=.none)\/(k≠d/\(hI d s).h k=uO d (s.h k)):=by
 by_cases e:k=d
 ·subst e;exact .inl ⟨rfl,by show bI (fun k'=>uO k (s.h k')) k AB.none k=_;rw[bc]⟩
 exact .inr ⟨e,by show bI (fun k'=>uO d (s.h k')) d AB.none k=_;rw[bQ _ _ e]⟩
theorem uX (d:Nat) (s:AS):qy d (hI d s):=by
 refine⟨by rcases AX d s d with⟨_,h⟩ | ⟨h,_⟩;exact h;exact absurd rfl h,fun j=>DO d _,fun k x hx=>?_⟩
 rcases AX d s k with⟨_,h⟩ | ⟨_,h⟩
 ·rw[h] at hx;cases hx
 rw[h,sy] at hx
 obtain⟨y,_,rfl⟩:=List.mem_map.1 hx
 exact DO d y
theorem zC {d:Nat} {s:AS} (d':Nat) (hn:qy d s):qy d (hI d' s):=by
 obtain⟨h1,h2,h3⟩:=hn
 refine⟨?_,fun j=>AW (h2 j),fun k x hx=>?_⟩
 ·rcases AX d' s d with⟨_,h⟩ | ⟨_,h⟩
  ·exact h
  rw[h,h1];rfl
 rcases AX d' s k with⟨_,h⟩ | ⟨_,h⟩
 ·rw[h] at hx;cases hx
 rw[h,sy] at hx
 obtain⟨y,hy,rfl⟩:=List.mem_map.1 hx
 exact AW (h3 k y hy)
def oW:List Oper->AS->AS
 | [],s=>s
 | o::r,s=>match gP o.op with
  | true=>oW r (hI (o.dst.getD 0) s)
  | false=>oW r s
theorem zE:∀(l:List Oper) (s:AS),(∀d,qy d s->qy d (oW l s))/\∀o∈l,gP o.op=true->qy (o.dst.getD 0) (oW l s):=by
 intro l
 induction l with
 | nil=>intro s;exact⟨fun _ h=>h,fun o h=>by cases h⟩
 | cons o l ih=>
  intro s
  unfold oW
  split
  ·rename_i hm
   refine⟨fun d hd=>(ih _).1 d (zC _ hd),fun o' EJ As=>?_⟩
   rcases List.mem_cons.1 EJ with e | e
   ·subst e;exact (ih _).1 _ (uX _ _)
   exact (ih _).2 o' e As
  rename_i hm
  refine⟨fun d hd=>(ih _).1 d hd,fun o' EJ As=>?_⟩
  rcases List.mem_cons.1 EJ with e | e
  ·subst e;rw[As] at hm;cases hm
  exact (ih _).2 o' e As
theorem cm.hI {A:dc} {S:Nat->Prop} {rho:Nat->Value} {s:AS} {a:Act} {w:World} (sim:cm A di di S rho s a w) (d:Nat):cm A di di S rho (hI d s) a w:=by
 have h1:=sim.free d .none
 have hn:(AM.hI d s).h d=.none:=(uX d s).1
 rw[eR _ _ _ hn] at h1
 exact h1.AQ d hn
theorem cm.pre {A:dc} {S:Nat->Prop} {rho:Nat->Value} {a:Act} {w:World}:∀(l:List Oper) (s:AS),cm A di di S rho s a w->cm A di di S rho (oW l s) a w:=by
 intro l
 induction l with
 | nil=>intro s sim;exact sim
 | cons o l ih=>
  intro s sim
  unfold oW
  split
  ·exact ih _ (sim.hI _)
  exact ih _ sim
def iL (o:Oper) (s:AS):AS:=match o.op,o.dst with
 | .assign _,some d=>match s.t d with
  | .ow i=>match s.h i with
   | .row _ _=>match cK i d with
    | true=>s
    | false=>jH i d s
   | .a7 _ _=>match cK i d with
    | true=>s
    | false=>jH i d s
   | _=>s
  | _=>s
 | _,_=>s
def qz:List Oper->AS->AS
 | [],s=>s
 | o::r,s=>qz r (iL o s)
theorem cm.post {A:dc} {S:Nat->Prop} {a:Act} {w:World}:∀(l:List Oper) (rho:Nat->Value) (s:AS),(∀o∈l,iK o A.n)->cm A di di S rho s a w->∃rho',cm A di di S rho' (qz l s) a w:=by
 intro l
 induction l with
 | nil=>intro rho s _ sim;exact⟨rho,sim⟩
 | cons o l ih=>
  intro rho s hd sim
  have q9:∀o∈l,iK o A.n:=fun o' EJ=>hd o' (by simp[EJ])
  have:∃rho',cm A di di S rho' (iL o s) a w:=by
   unfold iL
   split
   ·rename_i d _ iU
    split
    ·split
     ·split
      ·exact⟨rho,sim⟩
      rename_i dh
      refine⟨_,sim.rename _ d (fun e=>?_) (Nat.lt_of_lt_of_le (hd o (by simp) d iU) sim.nb)⟩
      rw[bH.2 e] at dh
      cases dh
     ·split
      ·exact⟨rho,sim⟩
      rename_i dh
      refine⟨_,sim.rename _ d (fun e=>?_) (Nat.lt_of_lt_of_le (hd o (by simp) d iU) sim.nb)⟩
      rw[bH.2 e] at dh
      cases dh
     exact⟨rho,sim⟩
    exact⟨rho,sim⟩
   exact⟨rho,sim⟩
  obtain⟨rho',cg⟩:=this
  exact ih rho' _ q9 cg
theorem oh {d:Nat} {c:AV}:∀{xs:List AV},c∈xs->nL d c=true->fE d xs=true:=by
 intro xs
 induction xs with
 | nil=>intro h;cases h
 | cons x xs ih=>
  intro h hm
  simp only[fE,Bool.or_eq_true]
  rcases List.mem_cons.1 h with e | e
  ·subst e;exact .inl hm
  exact .inr (ih e hm)
theorem bK.loc {S:Nat->Prop} {w:World} {P:Program} {L':Nat->Prop} {rho:Nat->Value} {h h':Nat->AB} {x:AV} {v:Value} (hx:bK S w P di rho h x v) (hm:∀k,nL k x=true->h' k=h k/\L' k):bK S w P L' rho h' x v:=by
 induction hx with
 | p x v hx=>exact .p x v hx
 | nl=>exact .nl
 | ow k v hv=>obtain⟨h1,h2⟩:=hm k (by simp only[nL];exact bH.2 rfl);exact .ow k v fun ht=>⟨h2,(hv (by rw[<-h1];exact ht)).2⟩
 | rp k a b v hv=>obtain⟨h1,h2⟩:=hm k (by simp only[nL];exact bH.2 rfl);exact .rp k a b v fun e he=>⟨h2,(hv e (by rw[<-h1];exact he)).2⟩
 | bx k a v hv=>obtain⟨h1,h2⟩:=hm k (by simp only[nL];exact bH.2 rfl);exact .bx k a v fun ht=>⟨h2,(hv (by rw[<-h1];exact ht)).2⟩
 | vw k a b v hv=>obtain⟨h1,h2⟩:=hm k (by simp only[nL];exact bH.2 rfl);exact .vw k a b v fun e he=>⟨h2,(hv e (by rw[<-h1];exact he)).2⟩
 | fn f cap vs hl hc ih=>exact .fn f cap vs hl fun j c u hj hu=>ih j c u hj hu fun k hk=>hm k (oh (List.mem_of_getElem? hj) hk)
 | tu xs vs hl hc ih=>exact .tu xs vs hl fun j c u hj hu=>ih j c u hj hu fun k hk=>hm k (oh (List.mem_of_getElem? hj) hk)
 | st xs vs hl h0 hc ih=>exact .st xs vs hl h0 fun j c u hj hu=>ih j c u hj hu fun k hk=>hm k (oh (List.mem_of_getElem? hj) hk)
 | junk v=>exact .junk v
theorem HP {A:dc} (hC:ct A.C) {id:Nat} {ops:Array Oper} {K:Exit->AS->Prop} {s:AS} (hok:jq A.C ops=true) (hd:∀o∈ops.toList,iK o A.n)
  (h:∃X,dE A.C (ops.toList.any fun o=>hZ A.C o.op) X ops.toList (gR A.C (ops.toList.any fun o=>hZ A.C o.op) ops) ops.toList (fun s'=>K .normal (qz ops.toList s')) (oW ops.toList s)):W A (.region id ops true) K s:=by
 intro S rho a w sim
 have nC:=(sim.grow hC w.drew ⟨rfl,rfl,rfl,Nat.le_refl _,fun _ _ _=>rfl⟩).pre ops.toList s
 obtain⟨X,h⟩:=h
 obtain⟨st,r,h1,h2,h3⟩:=Dz ops.toList _ _ h
 have hsz:ops.toList.length=ops.size:=by simp
 rw[hsz] at h2
 have H:∀(i:Nat) o,ops[i]?=some o->DStep A.C (ops.toList.any fun o=>hZ A.C o.op) ops.toList o (st i) (r i) (st (i+1)):=fun i o ho=>(h3 i o (by simpa using ho)).1
 have G:∀(i:Nat) o,ops[i]?=some o->sv A.C (ops.toList.any fun o=>hZ A.C o.op) X (gR A.C (ops.toList.any fun o=>hZ A.C o.op) ops) o (st i) (r i) i:=fun i o ho=>(h3 i o (by simpa using ho)).2
 have nr:∀k d b,B8 ops r k d b->qy d (st 0):=fun k d b ⟨o,ho,iU,hb⟩=>by
  have EL:=(H k o ho).ndst
  rw[hb,iU] at EL
  rw[h1]
  have:=(zE ops.toList s).2 o (List.mem_of_getElem? (by simpa using ho)) EL
  rw[iU] at this
  exact this
 have DP:∀d,gL ops r 0 d->qy d (st 0):=fun d ⟨k,b,_,hc⟩=>nr k d b hc
 have MM:∀d,Decidable (∃b k,B8 ops r k d b):=fun d=>Classical.propDecidable _
 obtain⟨B,hB⟩:∃B:Nat->AB,B=fun d=>@dite _ (∃b k,B8 ops r k d b) (MM d) (fun h=>Classical.choose h) (fun _=>(st 0).h d):=⟨_,rfl⟩
 obtain⟨_,_,hp⟩:=jc hok
 have B9:∀k d b,B8 ops r k d b->B d=b:=by
  intro k d b hc
  have hex:∃b k,B8 ops r k d b:=⟨b,k,hc⟩
  rw[hB]
  simp only
  rw[dif_pos hex]
  obtain⟨k',I2⟩:=Classical.choose_spec hex
  generalize Classical.choose hex=b' at I2
  obtain⟨o,e1,e2,e3⟩:=hc
  obtain⟨o',f1,f2,f3⟩:=I2
  have:k=k':=by
   rcases Nat.lt_trichotomy k k' with h | h | h
   ·exact absurd f2 ((hp k k' o o' h e1 f1).dst d e2)
   ·exact h
   exact absurd e2 ((hp k' k o' o h f1 e1).dst d f2)
  subst this
  rw[e3] at f3
  injection f3 with f3
  exact f3.symm
 have uU:∀d,¬gL ops r 0 d->B d=(st 0).h d:=by
  intro d hn
  rw[hB]
  simp only
  rw[dif_neg fun ⟨b,k,hc⟩=>hn ⟨k,b,Nat.zero_le _,hc⟩]
 have hle:∀d,¬gL ops r 0 d->LE ops r (fun _=>false) d:=fun d hn k b hc=>absurd ⟨k,b,Nat.zero_le _,hc⟩ hn
 have Fy:∀d,LE ops r (fun _=>false) d->¬gL ops r 0 d:=fun d hl ⟨k,b,_,hc⟩=>by cases hl k b hc
 rw[<-h1] at nC
 have MN:cm A di (LE ops r fun _=>false) S rho ⟨TE ops st (fun _=>false),B⟩ a w.drew:=
  {tm:=fun j _=>by
    have ht:TE ops st (fun _=>false) j=(st 0).t j:=by
     unfold TE
     split
     ·rename_i hv
      exact vy H (fun k o hk e=>by cases hv k o hk e) ops.size (Nat.le_refl _)
     rfl
    show bK _ _ _ _ _ _ (TE ops st (fun _=>false) j) _
    rw[ht]
    refine (nC.tm j trivial).loc fun k hk=>?_
    have hn:¬gL ops r 0 k:=fun uV=>by rw[(DP k uV).2.1 j] at hk;cases hk
    exact⟨uU k hn,hle k hn⟩
   sz:=nC.sz,df:=nC.df,nb:=nC.nb,pn:=nC.pn,ev:=nC.ev,s0:=nC.s0,st:=nC.st,sb:=nC.sb
   hp:=fun k hk=>by
    have hn:=Fy k hk
    show fa _ _ _ _ _ _ _ (B k)
    rw[uU k hn]
    have hh:=nC.hp k trivial
    cases hb:(st 0).h k with
    | none=>trivial
    | row e es=>rw[hb] at hh;exact hh
    | hM es=>rw[hb] at hh;exact hh
    | jK es=>rw[hb] at hh;exact hh
    | map mk es=>rw[hb] at hh;exact hh
    | box cs=>
     rw[hb] at hh
     obtain⟨g,ty,c,k1,k2,k3,k4⟩:=hh
     refine⟨g,ty,c,k1,k2,k3,fun j x u hj hu=>⟨(k4 j x u hj hu).1,(k4 j x u hj hu).2.loc fun i hi=>?_⟩⟩
     have GL:¬gL ops r 0 i:=fun uV=>by rw[(DP i uV).2.2 k x (by rw[hb];exact List.mem_of_getElem? hj)] at hi;cases hi
     exact⟨uU i GL,hle i GL⟩
    | gJ ty cs=>
     rw[hb] at hh
     obtain⟨g,c,k1,k2,k3,k4⟩:=hh
     refine⟨g,c,k1,k2,k3,fun j x u hj hu=>⟨(k4 j x u hj hu).1,(k4 j x u hj hu).2.loc fun i hi=>?_⟩⟩
     have GL:¬gL ops r 0 i:=fun uV=>by rw[(DP i uV).2.2 k x (by rw[hb];exact List.mem_of_getElem? hj)] at hi;cases hi
     exact⟨uU i GL,hle i GL⟩
    | bC cs=>rw[hb] at hh;exact hh
    | a7 e es=>
     rw[hb] at hh
     obtain⟨⟨i0,xs,k1,k2,k3,k4,k5,k6⟩,hS⟩:=hh
     refine⟨⟨i0,xs,k1,k2,k3,k4,k5,fun a' r j x ha hj=>?_⟩,hS⟩
     obtain⟨u,hu,hr⟩:=k6 a' r j x ha hj
     refine⟨u,hu,?_⟩
     cases x with
     | row e' dw=>exact hr
     | av x=>
      refine bK.loc hr fun i hi=>?_
      have GL:¬gL ops _ 0 i:=fun uV=>by rw[(DP i uV).2.2 k x (by rw[hb];exact List.mem_flatMap.2 ⟨r,List.mem_of_getElem? ha,HX.vC (List.mem_of_getElem? hj)⟩)] at hi;cases hi
      exact⟨uU i GL,hle i GL⟩
   dj:=fun i j g hi hj li lj eP iB=>by
    have kj:(B i).live:=li
    have JQ:(B j).live:=lj
    have eP:hasB _ (B i) (rho i) g:=eP
    have iB:hasB _ (B j) (rho j) g:=iB
    rw[uU i (Fy i hi)] at kj eP
    rw[uU j (Fy j hj)] at JQ iB
    exact nC.dj i j g trivial trivial kj JQ eP iB
   lv:=fun i g hi li hg=>by
    have kj:(B i).live:=li
    have hg:hasB _ (B i) (rho i) g:=hg
    rw[uU i (Fy i hi)] at kj hg
    exact nC.lv i g trivial kj hg
   fr:=nC.fr }
 refine wp_region_any hC.any ?_
 have NI:(fun i=>(Array.replicate ops.size false).getD i false)=fun _=>false:=by
  funext i
  exact getD_replicate_false _ _
 refine Fx hC rfl hok hd H G B9 uU (fun d uV=>(DP d uV).1) (fun S' rho' a' w' cg=>?_) ops.size (Array.replicate ops.size false) S rho a w.drew (by simp) ?_ ?_ ?_
 ·obtain⟨MO,bN⟩:=cg.post ops.toList rho' (st ops.size) hd
  exact⟨S',MO,_,bN,h2⟩
 ·rw[NI];intro j oj _ h;cases h
 ·have:((List.range ops.size).filter fun i=>!(Array.replicate ops.size false).getD i false).length<=(List.range ops.size).length:=List.length_filter_le _ _
  simpa using this
 rw[NI]
 have:∀m,Hn B r (fun _=>false) m=B:=by
  intro m
  induction m with
  | zero=>rfl
  | succ m ih=>exact ih
 rw[this]
 exact MN
end Go.AM
namespace Go.AM
open Go.RowKit
def DQ (n:Nat) (o:Oper):Bool:=match o.dst with
 | some d=>Nat.blt d n
 | none=>true
def iM (C:Ctx) (n:Nat):Code->Bool
 | .region _ ops draw=>ops.toList.all (DQ n) && (!draw || jq C ops)
 | .seq a b=>iM C n a && iM C n b
 | .cond _ a b=>iM C n a && iM C n b
 | .block _ c=>iM C n c
 | .loop c=>iM C n c
 | _=>true
def fG (f:AS->Prop) (K:Exit->AS->Prop):Exit->AS->Prop
 | .normal,s=>f s
 | e,s=>K e s
def ml (id:Nat) (K:Exit->AS->Prop):Exit->AS->Prop
 | .exit i,s=>fc (cK i id) (K .normal s) (K (.exit i) s)
 | e,s=>K e s
def jr (A:dc):Code->(Exit->AS->Prop)->AS->Prop
 | .skip,K,s=>K .normal s
 | .region _ ops draw,K,s=>match draw with
  | false=>cL A.C ops.toList ops.toList (K .normal) s
  | true=>∃X,dE A.C (ops.toList.any fun o=>hZ A.C o.op) X ops.toList (gR A.C (ops.toList.any fun o=>hZ A.C o.op) ops) ops.toList (fun s'=>K .normal (qz ops.toList s')) (oW ops.toList s)
 | .seq a b,K,s=>jr A a (fG (fun s'=>∃kK,bg A s' kK/\jr A b K kK) K) s
 | .cond c a b,K,s=>match ev s.t c with
  | .p (.im (.bool t))=>fc t (jr A a K s) (jr A b K s)
  | _=>False
 | .block id c,K,s=>jr A c (ml id K) s
 | .loop c,K,s=>∃(α:Type) (I:α->AS->Prop) (m:α->Nat),(∃x s',bg A s s'/\I x s')/\∀x s,I x s->jr A c (fG (fun s'=>∃y kK,bg A s' kK/\I y kK/\m y < m x) K) s
 | .exit id,K,s=>K (.exit id) s
 | .ret,K,s=>K .ret s
 | _,_,_=>False
theorem AY {n:Nat} {ops:Array Oper} (h:ops.toList.all (DQ n)=true):∀o∈ops.toList,iK o n:=by
 intro o ho d hd
 have:=List.all_eq_true.1 h o ho
 unfold DQ at this
 rw[hd] at this
 exact Nat.le_of_ble_eq_true this
theorem B_ {A:dc} (hC:ct A.C):∀(c:Code) (K:Exit->AS->Prop) (s:AS),iM A.C A.n c=true->jr A c K s->W A c K s:=by
 intro c
 induction c with
 | skip=>intro K s _ h S rho a w sim;exact wp_skip ⟨S,rho,s,sim,h⟩
 | region id ops draw=>
  intro K s hok h
  simp only[iM,Bool.and_eq_true] at hok
  cases draw with
  | false=>exact Dn hC (AY hok.1) h
  | true=>exact HP hC (by simpa using hok.2) (AY hok.1) h
 | seq a b HQ HR=>
  intro K s hok h
  simp only[iM,Bool.and_eq_true] at hok
  refine JU ?_
  refine zj (HQ _ s hok.1 h) fun e s' hk=>?_
  cases e with
  | normal=>
   obtain⟨s2,hle,hk⟩:=hk
   exact fun S rho a w sim=>by
    obtain⟨S',rho',cg⟩:=hle S rho a w sim
    exact HR K s2 hok.2 hk S' rho' a w cg
  | exit id=>exact hk
  | goto l=>exact hk
  | ret=>exact hk
  | panic c=>exact hk
  | outgrown=>exact hk
 | cond c a b HQ HR=>
  intro K s hok h
  simp only[iM,Bool.and_eq_true] at hok
  simp only[jr] at h
  split at h
  ·rename_i t ht
   refine HD ht (fun e=>HQ K s hok.1 ?_) (fun e=>HR K s hok.2 ?_)
   ·rw[e] at h;exact h
   rw[e] at h;exact h
  exact h.elim
 | block id c ih=>
  intro K s hok h
  exact Fp (zj (ih _ s hok h) fun e s' hk=>by cases e <;> exact hk)
 | loop c ih=>
  intro K s hok h
  obtain⟨α,I,m,h0,hr⟩:=h
  refine HE I m h0 fun x s hi=>?_
  exact zj (ih _ s hok (hr x s hi)) fun e s' hk=>by cases e <;> exact hk
 | exit id=>intro K s _ h S rho a w sim;exact wp_exit ⟨S,rho,s,sim,h⟩
 | ret=>intro K s _ h S rho a w sim;exact wp_ret ⟨S,rho,s,sim,h⟩
 | rangeFunc=>intro K s _ h;exact h.elim
 | scope=>intro K s _ h;exact h.elim
 | label=>intro K s _ h;exact h.elim
 | goto=>intro K s _ h;exact h.elim
 | refuse=>intro K s _ h;exact h.elim
def mn {α:Type}:List (Nat×α)->(Nat->α)->Nat->α
 | [],t=>t
 | (i,v)::r,t=>bI (mn r t) i v
def lW {α:Type}:List (Nat×α)->(Nat->α)->Prop
 | [],_=>True
 | (i,v)::r,t=>t i=v/\lW r t
theorem oX {α:Type}:∀(l:List (Nat×α)) (t:Nat->α),lW l t->mn l t=t:=by
 intro l
 induction l with
 | nil=>intro t _;rfl
 | cons p l ih=>
  intro t h
  obtain⟨i,v⟩:=p
  show bI (mn l t) i v=t
  rw[ih t h.2]
  exact eR _ _ _ h.1
theorem Fz {A:dc} {c:Code} {K:Exit->AS->Prop} {s:AS} {α:Type} (R:α->Prop) (ts:α->List (Nat×AV)) (hs:α->List (Nat×AB)) (m:α->Nat) (x0:α) (s0:AS) (h0:bg A s s0) (hR:R x0) (ht:lW (ts x0) s0.t) (hh:lW (hs x0) s0.h)
  (round:∀x,R x->∀t h,jr A c (fG (fun s'=>∃y kK,bg A s' kK/\R y/\m y < m x/\lW (ts y) kK.t/\lW (hs y) kK.h) K) ⟨mn (ts x) t,mn (hs x) h⟩):jr A (.loop c) K s:=by
 refine⟨α,fun x s=>R x/\lW (ts x) s.t/\lW (hs x) s.h,m,⟨x0,s0,h0,hR,ht,hh⟩,fun x s ⟨h1,h2,h3⟩=>?_⟩
 have:=round x h1 s.t s.h
 rw[oX _ _ h2,oX _ _ h3] at this
 have e:(fG (fun s'=>∃y kK,bg A s' kK/\R y/\m y < m x/\lW (ts y) kK.t/\lW (hs y) kK.h) K)=(fG (fun s'=>∃y kK,bg A s' kK/\(R y/\lW (ts y) kK.t/\lW (hs y) kK.h)/\m y < m x) K):=by
  funext e s'
  cases e <;> try rfl
  apply propext
  constructor
  ·rintro⟨y,kK,k1,k2,k3,k4,k5⟩;exact⟨y,kK,k1,⟨k2,k4,k5⟩,k3⟩
  rintro⟨y,kK,k1,⟨k2,k4,k5⟩,k3⟩;exact⟨y,kK,k1,k2,k3,k4,k5⟩
 rw[<-e]
 exact this
theorem FA {C : Ctx} (hC : ct C) {f : FuncId} {fn : Func} {c : Code} (hf : C.P.funcs[f]? = some fn) (hb : fn.body = some c) (lM : (fn.name == "runtime.NumGoroutine") = false) {args : List Arg} {r : AR} {fin : List Fin} (n : Nat) (hn : args.length + (fn.ntmps - args.length) = n) (wS : n ≤ 100000) (hok : iM C n c = true)
  (h:∀A:dc,A.C=C->jr A c (Ds C fn.results.toList args r fin) ⟨uR args,mg args⟩):aw C f args r fin:=
 HF hC hf hb lM (by omega) fun A hA OA=>B_ (by rw[hA];exact hC) c _ _ (by rw[hA,OA,hn];exact hok) (h A hA)
end Go.AM
namespace Go.AM
open Go.RowKit
def qA (l:List (Nat×TI)) (t:TypeId):Option TI:=match l with
 | []=>none
 | (i,ti)::r=>match Nat.beq i t with
  | true=>some ti
  | false=>qA r t
theorem nd {t:TypeId} {ti:TI}:∀{l:List (Nat×TI)},qA l t=some ti->(t,ti)∈l:=by
 intro l
 induction l with
 | nil=>intro h;cases h
 | cons p l ih=>
  intro h
  obtain⟨i,Ob⟩:=p
  unfold qA at h
  split at h
  ·rename_i e
   have:=Nat.eq_of_beq_eq_true e
   subst this
   injection h with h
   subst h
   exact List.mem_cons_self ..
  exact List.mem_cons_of_mem _ (ih h)
def DR:Value->Value->Bool
 | .int k n,.int k' n'=>kB k k' && decide (n=n')
 | .bool b,.bool b'=>b == b'
 | .string s,.string s'=>s.data.toList == s'.data.toList
 | .slice none a b,.slice none a' b'=>Nat.beq a a' && Nat.beq b b'
 | .pointer none,.pointer none=>true
 | .map none,.map none=>true
 | .nilFunc,.nilFunc=>true
 | .nilIface,.nilIface=>true
 | _,_=>false
theorem DS {v u:Value} (h:DR v u=true):v=u:=by
 unfold DR at h
 split at h
 ·simp only[Bool.and_eq_true,decide_eq_true_eq] at h
  rw[AA h.1,h.2]
 ·rw[eq_of_beq h]
 ·have:=eq_of_beq h
  congr 1
  exact ByteArray.ext (Array.ext' this)
 ·simp only[Bool.and_eq_true] at h
  rw[Nat.eq_of_beq_eq_true h.1,Nat.eq_of_beq_eq_true h.2]
 ·rfl
 ·rfl
 ·rfl
 ·rfl
 cases h
def vE:List Value->List Value->Bool
 | [],[]=>true
 | v::r,u::s=>DR v u && vE r s
 | _,_=>false
theorem Ca:∀{a b:List Value},vE a b=true->a=b:=by
 intro a
 induction a with
 | nil=>intro b h;cases b with | nil=>rfl | cons=>cases h
 | cons v r ih=>
  intro b h
  cases b with
  | nil=>cases h
  | cons u s=>
   simp only[vE,Bool.and_eq_true] at h
   rw[DS h.1,ih h.2]
def J_:TypeDesc->Bool
 | .struct _ | .array _ _=>true
 | _=>false
def rC (P:Program):List (Nat×Nat×Bool)->List Field->Bool
 | [],[]=>true
 | f::r,g::s=>Nat.beq f.1 g.offset && !Nat.beq f.2.1 0 && (match P.info? g.type with
  | some i=>Nat.beq i.size f.2.1
  | none=>false) && (match P.underlying g.type with
  | some d=>J_ d == f.2.2
  | none=>false) && rC P r s
 | _,_=>false
def NJ (P:Program) (t:TypeId) (ti:TI):Bool:=match ti.ud,P.underlying t with
 | .sc,some .bool=>true
 | .sc,some d=>!J_ d && !ti.eq
 | .int k,some (.int k')=>kB k k'
 | .st fs,some (.struct gs)=>rC P fs gs.toList
 | .sl e,some (.slice e')=>Nat.beq e e'
 | .mp k e,some (.map k' e')=>Nat.beq k k' && Nat.beq e e'
 | .str,some .string=>true
 | _,_=>false
def Lm (P:Program) (p:Nat×TI):Bool:=match P.info? p.1 with
 | some info=>Nat.beq info.size p.2.size && Nat.beq info.bytes p.2.bytes && (match info.zero with
  | some z=>vE z.cells.toList p.2.zero
  | none=>false) && Nat.beq p.2.zero.length p.2.size && p.2.zero.all Value.oneCell' && NJ P p.1 p.2
 | none=>false
theorem vF {P:Program}:∀{fs:List (Nat×Nat×Bool)} {gs:List Field},rC P fs gs=true->fs.length=gs.length/\∀(i:Nat) f g,fs[i]?=some f->gs[i]?=some g->f.1=g.offset/\f.2.1≠0/\(∃i2,P.info? g.type=some i2/\i2.size=f.2.1)/\
  (∃d,P.underlying g.type=some d/\f.2.2=(match d with | .struct _ | .array _ _=>true | _=>false)):=by
 intro fs
 induction fs with
 | nil=>intro gs h;cases gs with | nil=>exact⟨rfl,by simp⟩ | cons=>cases h
 | cons f r ih=>
  intro gs h
  cases gs with
  | nil=>cases h
  | cons g s=>
   simp only[rC,Bool.and_eq_true] at h
   obtain⟨⟨⟨⟨h1,h2⟩,h3⟩,h4⟩,h5⟩:=h
   obtain⟨h6,h7⟩:=ih h5
   refine⟨by simp[h6],fun i f' g' hf hg=>?_⟩
   cases i with
   | succ i=>exact h7 i f' g' (by simpa using hf) (by simpa using hg)
   | zero=>
    simp at hf hg
    subst hf hg
    refine⟨Nat.eq_of_beq_eq_true h1,(fun e=>by rw[e] at h2;cases h2),?_,?_⟩
    ·split at h3
     ·rename_i i hi;exact⟨i,hi,Nat.eq_of_beq_eq_true h3⟩
     cases h3
    split at h4
    ·rename_i d hd
     refine⟨d,hd,?_⟩
     rw[<-eq_of_beq h4]
     cases d <;> rfl
    cases h4
theorem HS {P:Program} {t:TypeId} {ti:TI} (h:Lm P (t,ti)=true):ko P t ti:=by
 unfold Lm at h
 split at h
 ·rename_i info hi
  simp only[Bool.and_eq_true] at h
  obtain⟨⟨⟨⟨⟨h1,h2⟩,h3⟩,h4⟩,h5⟩,h6⟩:=h
  split at h3
  ·rename_i z hz
   refine⟨info,z,hi,Nat.eq_of_beq_eq_true h1,Nat.eq_of_beq_eq_true h2,hz,?_,Nat.eq_of_beq_eq_true h4,fun v hv=>List.all_eq_true.1 h5 v hv,?_⟩
   ·rw[<-Ca h3]
   simp only[NJ] at h6
   split at h6
   ·rename_i h7 h8
    rw[h7]
    exact⟨⟨_,h8,trivial⟩,fun _=>h8⟩
   ·rename_i d dh h7 h8
    rw[h7]
    simp only[Bool.and_eq_true] at h6
    refine⟨⟨d,h8,?_⟩,fun e=>?_⟩
    ·cases d <;> first | trivial | (cases h6.1;done)
    rw[e] at h6;cases h6.2
   ·rename_i h7 h8;rw[h7,h8,AA h6]
   ·rename_i fs gs h7 h8
    rw[h7]
    obtain⟨h9,JH⟩:=vF h6
    exact⟨gs,h8,by simpa using h9,fun i f g hf hg=>JH i f g hf (by simpa using hg)⟩
   ·rename_i h7 h8;rw[h7,h8,Nat.eq_of_beq_eq_true h6]
   ·rename_i h7 h8
    simp only[Bool.and_eq_true] at h6
    rw[h7,h8,Nat.eq_of_beq_eq_true h6.1,Nat.eq_of_beq_eq_true h6.2]
   ·rename_i h7 h8;rw[h7,h8]
   cases h6
  cases h3
 cases h
def MP (P:Program) (p:Nat×TI):Bool:=match P.info? p.1 with
 | some info=>match info.zero with
  | some z=>CH z == p.2.ud.agg
  | none=>false
 | none=>false
theorem Ka {P:Program} {l:List (Nat×TI)} (h:l.all (MP P)=true):∀t ti,qA l t=some ti->yG P t ti:=fun t ti ht=>by
 have:=List.all_eq_true.1 h _ (nd ht)
 unfold MP at this
 split at this
 ·rename_i info hi
  split at this
  ·rename_i z hz
   exact⟨info,z,hi,hz,eq_of_beq this⟩
  cases this
 cases this
theorem HT {P:Program} {l:List (Nat×TI)} (h:l.all (Lm P)=true):∀t ti,qA l t=some ti->ko P t ti:=fun _ _ ht=>HS (List.all_eq_true.1 h _ (nd ht))
def EO:Option TypeDesc->Value->Bool
 | some (.int _),.int _ _=>true
 | some .string,.string _=>true
 | some .bool,.bool _=>true
 | _,_=>false
def js (P:Program):Nat->List Field->List Value->Bool
 | _,[],[]=>true
 | i, g :: r, z :: s => EO (P.underlying g.type) z && Nat.beq g.offset i && g.name != "_" && js P (i + 1) r s
 | _,_,_=>false
def sA (P:Program):Nat->List Field->List Value->Bool
 | _,[],[]=>true
 | _,[],_::_=>false
 | i, g :: r, zs => g.name != "_" && Nat.beq g.offset i && match P.underlying g.type with
  | some (.struct hs)=>(match P.info? g.type with
   | some inf=>Nat.beq inf.size hs.size
   | none=>false) && !P.stoodInHeld g.type && js P 0 hs.toList (zs.take hs.size) && sA P (i+hs.size) r (zs.drop hs.size)
  | _=>match zs with
   | z::s=>EO (P.underlying g.type) z && sA P (i+1) r s
   | []=>false
def HU (P:Program) (p:Nat×TI):Bool:=match p.2.eq,p.2.ud with
 | true,.st _=>(match P.underlying p.1 with
  | some (.struct gs)=>sA P 0 gs.toList p.2.zero && Nat.beq p.2.zero.length p.2.size
  | _=>false) && !P.stoodInHeld p.1 && !P.eqGuardType P.depth p.1
 | _,_=>true
theorem iF {P:Program} {w:World} {t:TypeId} {z:Value} (h:EO (P.underlying t) z=true) {xs:Array Value} {i:Nat} {v:Value} (hv:xs[i]?=some v):(part t xs i).run P w=.ok v w:=by
 have:(isAgg t).run P w=.ok false w:=by
  rw[Go.isAgg,Sem.run_bind]
  unfold EO at h
  split at h <;> first
   | (rename_i hu;rw[run_underlying hu];rfl)
   | cases h
 simp[part,this,hv]
theorem vG {a b:ByteArray} (h:a.toList=b.toList):a=b:=by
 rw[ByteArray.toList_eq,ByteArray.toList_eq] at h
 obtain⟨⟨x⟩⟩:=a
 obtain⟨⟨y⟩⟩:=b
 simpa using h
theorem FB {o:Option TypeDesc} {k:IntKind} {n:Int} (h:EO o (.int k n)=true):∃j,o=some (.int j):=by
 cases o with
 | none=>cases h
 | some d=>cases d <;> first | exact⟨_,rfl⟩ | cases h
theorem FC {o:Option TypeDesc} {x:ByteArray} (h:EO o (.string x)=true):o=some .string:=by
 cases o with
 | none=>cases h
 | some d=>cases d <;> first | rfl | cases h
theorem DT {o:Option TypeDesc} {x:Bool} (h:EO o (.bool x)=true):o=some .bool:=by
 cases o with
 | none=>cases h
 | some d=>cases d <;> first | rfl | cases h
theorem oY {P:Program} {t:TypeId} {z:Value} {zs:List Value} {x:PV} {a b:List PV} {r:Bool} (hk:EO (P.underlying t) z=true) (h:bV (z::zs) (x::a) b=some r):∃u v s c r',x=.im u/\b=.im v::s/\bV zs a s=some r'/\r=(c && r')/\∀d w,(Op.equalIn (d+1) t u v).run P w=.ok c w:=by
 cases b with
 | nil=>cases z <;> cases x <;> simp[bV] at h
 | cons y b=>
  unfold bV at h
  split at h
  ·rename_i h1 h2 h3;cases h1
  ·rename_i h1 h2 h3
   injection h1 with h1 oI
   injection h2 with h2 qu
   injection h3 with h3 h3'
   subst h1 oI h2 qu h3 h3'
   split at h
   ·rename_i vj
    have:=AA vj
    subst this
    obtain⟨r',q1,q2⟩:=Option.map_eq_some_iff.1 h
    obtain⟨j,hu⟩:=FB hk
    refine⟨_,_,_,_,r',rfl,rfl,q1,q2.symm,fun d w=>?_⟩
    rw[run_equalIn_int (P:=P) w d t _ j _ _ hu]
    congr 1
   cases h
  ·rename_i h1 h2 h3
   injection h1 with h1 oI
   injection h2 with h2 qu
   injection h3 with h3 h3'
   subst h1 oI h2 qu h3 h3'
   obtain⟨r',q1,q2⟩:=Option.map_eq_some_iff.1 h
   have hu:=FC hk
   refine⟨_,_,_,_,r',rfl,rfl,q1,q2.symm,fun d w=>?_⟩
   rw[run_equalIn_string (P:=P) w d t _ _ hu]
   congr 1
   rw[Bool.eq_iff_iff,beq_iff_eq,decide_eq_true_iff]
   exact⟨fun e=>vG e,fun e=>by rw[e]⟩
  ·rename_i h1 h2 h3
   injection h1 with h1 oI
   injection h2 with h2 qu
   injection h3 with h3 h3'
   subst h1 oI h2 qu h3 h3'
   obtain⟨r',q1,q2⟩:=Option.map_eq_some_iff.1 h
   have hu:=DT hk
   refine⟨_,_,_,_,r',rfl,rfl,q1,q2.symm,fun d w=>?_⟩
   rw[run_equalIn_bool' (P:=P) w d t _ _ hu]
   congr 1
  cases h
theorem nN {P:Program} {w:World} (d:Nat) (xs ys:Array Value):∀(gs:List Field) (zs:List Value) (i:Nat) (a b:List PV) (r:Bool),js P i gs zs=true->gs.length=a.length->(∀(j:Nat) x,a[j]?=some x->∃v,xs[i+j]?=some v/\x=.im v)->(∀(j:Nat) x,b[j]?=some x->∃v,ys[i+j]?=some v/\x=.im v)->bV zs a b=some r ->
  (Op.eqFields (d+1) xs ys gs).run P w=.ok r w:=by
 intro gs
 induction gs with
 | nil=>
  intro zs i a b r hi hl _ _ he
  have:a=[]:=List.eq_nil_of_length_eq_zero hl.symm
  subst this
  cases zs with
  | nil=>cases b with
   | nil=>simp[bV] at he;subst he;rfl
   | cons y b=>simp[bV] at he
  | cons z zs=>simp[js] at hi
 | cons g gs ih=>
  intro zs i a b r hi hl ha hb he
  cases a with
  | nil=>simp at hl
  | cons x a=>cases zs with
   | nil=>simp[js] at hi
   | cons z zs=>
    simp only[js,Bool.and_eq_true] at hi
    obtain⟨⟨⟨h1,h2⟩,h3⟩,h4⟩:=hi
    have h2:=Nat.eq_of_beq_eq_true h2
    have lM : g.name ≠ "_" := by simpa using h3
    obtain⟨u,v,s1,c,r',rfl,rfl,G9,rfl,p3⟩:=oY h1 he
    obtain⟨v',hv,HV⟩:=ha 0 _ rfl
    obtain⟨u',nZ,HW⟩:=hb 0 _ rfl
    injection HV with HV
    injection HW with HW
    subst HV HW
    have p1:=iF (w:=w) h1 (xs:=xs) (i:=g.offset) (by rw[h2];simpa using hv)
    have p2:=iF (w:=w) h1 (xs:=ys) (i:=g.offset) (by rw[h2];simpa using nZ)
    have rest:=ih zs (i+1) a s1 r' h4 (by simpa using hl) (fun j x hx=>by obtain⟨v,q1,q2⟩:=ha (j+1) x (by simpa using hx);exact⟨v,by rw[<-q1];congr 1;omega,q2⟩) (fun j x hx=>by obtain⟨v,q1,q2⟩:=hb (j+1) x (by simpa using hx);exact⟨v,by rw[<-q1];congr 1;omega,q2⟩) G9
    simp only[Op.eqFields,if_pos lM,Sem.run_bind,p1,p2,p3,Result.andThen_ok]
    cases c with
    | true=>
     simp only[Bool.not_true,Bool.false_eq_true,if_false,Bool.true_and]
     exact rest
    | false=>simp
theorem vH {z:Value} {zs:List Value} {a b:List PV} {r:Bool} (h:bV (z::zs) a b=some r):∃x a' y b' c r',a=x::a'/\b=y::b'/\bV zs a' b'=some r'/\r=(c && r')/\∀Kb Kc Kd Ke,bV Kb Kc Kd=some Ke->bV (z::Kb) (x::Kc) (y::Kd)=some (c && Ke):=by
 cases a with
 | nil=>cases z <;> simp[bV] at h
 | cons x a=>cases b with
  | nil=>cases z <;> cases x <;> simp[bV] at h
  | cons y b=>
   unfold bV at h
   split at h
   ·rename_i h1 _ _;cases h1
   ·rename_i h1 h2 h3
    injection h1 with h1 oI
    injection h2 with h2 qu
    injection h3 with h3 h3'
    subst h1 oI h2 qu h3 h3'
    split at h
    ·rename_i vj
     obtain⟨r',q1,q2⟩:=Option.map_eq_some_iff.1 h
     exact⟨_,_,_,_,_,r',rfl,rfl,q1,q2.symm,fun Kb Kc Kd Ke Kf=>by simp only[bV,vj,Kf,Option.map_some]⟩
    cases h
   ·rename_i h1 h2 h3
    injection h1 with h1 oI
    injection h2 with h2 qu
    injection h3 with h3 h3'
    subst h1 oI h2 qu h3 h3'
    obtain⟨r',q1,q2⟩:=Option.map_eq_some_iff.1 h
    exact⟨_,_,_,_,_,r',rfl,rfl,q1,q2.symm,fun Kb Kc Kd Ke Kf=>by simp only[bV,Kf,Option.map_some]⟩
   ·rename_i h1 h2 h3
    injection h1 with h1 oI
    injection h2 with h2 qu
    injection h3 with h3 h3'
    subst h1 oI h2 qu h3 h3'
    obtain⟨r',q1,q2⟩:=Option.map_eq_some_iff.1 h
    exact⟨_,_,_,_,_,r',rfl,rfl,q1,q2.symm,fun Kb Kc Kd Ke Kf=>by simp only[bV,Kf,Option.map_some]⟩
   cases h
theorem qB:∀{z1 z2:List Value} {a b:List PV} {r:Bool},bV (z1++z2) a b=some r->∃a1 a2 b1 b2 r1 r2,a=a1++a2/\b=b1++b2/\a1.length=z1.length/\b1.length=z1.length/\bV z1 a1 b1=some r1/\bV z2 a2 b2=some r2/\r=(r1 && r2)
 | [],z2,a,b,r,h=>⟨[],a,[],b,true,r,rfl,rfl,rfl,rfl,rfl,h,rfl⟩
 | z::z1,z2,a,b,r,h=>by
  obtain⟨x,a',y,b',c,r',rfl,rfl,h1,rfl,h2⟩:=vH (zs:=z1++z2) h
  obtain⟨a1,a2,b1,b2,r1,r2,rfl,rfl,l1,l2,k1,k2,rfl⟩:=qB h1
  exact⟨x::a1,a2,y::b1,b2,c && r1,r2,rfl,rfl,by simp[l1],by simp[l2],h2 _ _ _ _ k1,k2,(Bool.and_assoc _ _ _).symm⟩
theorem pT {P:Program}:∀{gs:List Field} {z:List Value} {i:Nat},js P i gs z=true->gs.length=z.length
 | [],[],_,_=>rfl
 | [],_::_,_,h=>by simp[js] at h
 | _::_,[],_,h=>by simp[js] at h
 | g::gs,c::z,i,h=>by
  simp only[js,Bool.and_eq_true] at h
  simp[pT h.2]
theorem vI {P:Program} {w:World} (d:Nat) (xs ys:Array Value):∀(gs:List Field) (zs:List Value) (i:Nat) (a b:List PV) (r:Bool),sA P i gs zs=true->(∀(j:Nat) x,a[j]?=some x->∃v,xs[i+j]?=some v/\x=.im v)->(∀(j:Nat) x,b[j]?=some x->∃v,ys[i+j]?=some v/\x=.im v)->bV zs a b=some r ->
  (Op.eqFields (d+3) xs ys gs).run P w=.ok r w:=by
 intro gs
 induction gs with
 | nil=>
  intro zs i a b r hi _ _ he
  cases zs with
  | nil=>
   cases a with
   | nil=>cases b with
    | nil=>simp[bV] at he;subst he;rfl
    | cons y b=>simp[bV] at he
   | cons x a=>simp[bV] at he
  | cons z zs=>simp[sA] at hi
 | cons g gs ih=>
  intro zs i a b r hi ha hb he
  unfold sA at hi
  simp only[Bool.and_eq_true] at hi
  obtain⟨⟨h3,h2⟩,hi⟩:=hi
  have h2:=Nat.eq_of_beq_eq_true h2
  have lM : g.name ≠ "_" := by simpa using h3
  split at hi
  ·rename_i hs qs
   simp only[Bool.and_eq_true] at hi
   obtain⟨⟨⟨h5,h6⟩,h7⟩,h8⟩:=hi
   have h6:P.stoodInHeld g.type=false:=by simpa using h6
   split at h5
   ·rename_i inf MQ
    have h5:=Nat.eq_of_beq_eq_true h5
    have hl:=pT h7
    rw[Array.length_toList] at hl
    rw[<-List.take_append_drop hs.size zs] at he
    obtain⟨a1,a2,b1,b2,r1,r2,rfl,rfl,l1,l2,k1,k2,rfl⟩:=qB he
    rw[<-hl] at l1 l2
    have cut:∀(us:Array Value) (c1 c2:List PV),c1.length=hs.size->(∀(j:Nat) x,(c1++c2)[j]?=some x->∃v,us[i+j]?=some v/\x=.im v)->(part g.type us g.offset).run P w=.ok (.agg (us.extract i (i+hs.size))) w/\(∀(j:Nat) x,c1[j]?=some x->∃v,(us.extract i (i+hs.size))[0+j]?=some v/\x=.im v)/\∀(j:Nat) x,c2[j]?=some x->∃v,us[i+hs.size+j]?=some v/\x=.im v:=by
     intro us c1 c2 hc hu
     refine⟨?_,fun j x hx=>?_,fun j x hx=>?_⟩
     ·have e1:(isAgg g.type).run P w=.ok true w:=by
       rw[Go.isAgg,Sem.run_bind,run_underlying qs];rfl
      have e2:(sizeOf g.type).run P w=.ok hs.size w:=by
       simp[Go.sizeOf,typeInfo,MQ,h5]
      simp[part,e1,e2,h2]
     ·have hj:j < hs.size:=by rw[<-hc];exact aW hx
      obtain⟨v,q1,q2⟩:=hu j x (by rw[List.getElem?_append_left (by omega)];exact hx)
      exact⟨v,by rw[Array.getElem?_extract,if_pos (by have:=(Array.getElem?_eq_some_iff.1 q1).1;omega),Nat.zero_add];exact q1,q2⟩
     obtain⟨v,q1,q2⟩:=hu (hs.size+j) x (by rw[List.getElem?_append_right (by omega),<-hx];congr 1;omega)
     exact⟨v,by rw[<-q1];congr 1;omega,q2⟩
    obtain⟨p1,m1,n1⟩:=cut xs a1 a2 l1 ha
    obtain⟨p2,m2,n2⟩:=cut ys b1 b2 l2 hb
    have hf:P.fieldsOf g.type=hs:=by simp[Program.fieldsOf,qs]
    have p3:(Op.equalIn (d+3) g.type (.agg (xs.extract i (i+hs.size))) (.agg (ys.extract i (i+hs.size)))).run P w=.ok r1 w:=by
     rw[run_equalIn_struct w (d+2) g.type _ _ (by rw[hf];exact qs) h6,hf]
     exact nN (d+1) _ _ hs.toList _ 0 a1 b1 r1 h7 (by rw[Array.length_toList,l1]) m1 m2 k1
    have rest:=ih (zs.drop hs.size) (i+hs.size) a2 b2 r2 h8 n1 n2 k2
    simp only[Op.eqFields,if_pos lM,Sem.run_bind,p1,p2,p3,Result.andThen_ok]
    cases r1 with
    | true=>
     simp only[Bool.not_true,Bool.false_eq_true,if_false,Bool.true_and]
     exact rest
    | false=>simp
   cases h5
  split at hi
  ·rename_i z zs
   simp only[Bool.and_eq_true] at hi
   obtain⟨h1,h4⟩:=hi
   cases a with
   | nil=>cases z <;> simp[bV] at he
   | cons x a=>
    obtain⟨u,v,s1,c,r',rfl,rfl,G9,rfl,p3⟩:=oY h1 he
    obtain⟨v',hv,HV⟩:=ha 0 _ rfl
    obtain⟨u',nZ,HW⟩:=hb 0 _ rfl
    injection HV with HV
    injection HW with HW
    subst HV HW
    have p1:=iF (w:=w) h1 (xs:=xs) (i:=g.offset) (by rw[h2];simpa using hv)
    have p2:=iF (w:=w) h1 (xs:=ys) (i:=g.offset) (by rw[h2];simpa using nZ)
    have rest:=ih zs (i+1) a s1 r' h4 (fun j x hx=>by obtain⟨v,q1,q2⟩:=ha (j+1) x (by simpa using hx);exact⟨v,by rw[<-q1];congr 1;omega,q2⟩) (fun j x hx=>by obtain⟨v,q1,q2⟩:=hb (j+1) x (by simpa using hx);exact⟨v,by rw[<-q1];congr 1;omega,q2⟩) G9
    simp only[Op.eqFields,if_pos lM,Sem.run_bind,p1,p2,p3,Result.andThen_ok]
    cases c with
    | true=>
     simp only[Bool.not_true,Bool.false_eq_true,if_false,Bool.true_and]
     exact rest
    | false=>simp
  cases hi
theorem Cb {P:Program} {t:TypeId} {gs:Array Field} {zs:List Value} (qs:P.underlying t=some (.struct gs)) (h2:P.stoodInHeld t=false) (h4:sA P 0 gs.toList zs=true) {a b:List PV} {r:Bool} (hc:bV zs a b=some r) (xs ys:Array Value) (w:World)
  (ha:∀(i:Nat) x v,a[i]?=some x->xs[i]?=some v->x=.im v) (hb:∀(i:Nat) x v,b[i]?=some x->ys[i]?=some v->x=.im v) (Kg:a.length=xs.size) (Kh:b.length=ys.size):(Op.equal t (.agg xs) (.agg ys)).run P w=.ok r w:=by
 have hf:P.fieldsOf t=gs:=by simp[Program.fieldsOf,qs]
 have hex:∀(l:List PV) (zs:Array Value),l.length=zs.size->(∀(i:Nat) x v,l[i]?=some x->zs[i]?=some v->x=.im v)->∀(j:Nat) x,l[j]?=some x->∃v,zs[0+j]?=some v/\x=.im v:=by
  intro l zs hl hz j x hx
  obtain⟨v,hv⟩:=hY hl (aW hx)
  exact⟨v,by rw[Nat.zero_add];exact hv,hz j x v hx hv⟩
 have key:=vI (P:=P) (w:=w) 9996 xs ys gs.toList zs 0 a b r h4 (hex a xs Kg ha) (hex b ys Kh hb) hc
 show (Op.equalIn (9999+1) t (.agg xs) (.agg ys)).run P w=_
 rw[run_equalIn_struct w 9999 t xs ys (by rw[hf];exact qs) h2,hf]
 exact key
theorem xr {P:Program} {t:TypeId} {gs:Array Field} {zs:List Value} (qs:P.underlying t=some (.struct gs)) (h2:P.stoodInHeld t=false) (h4:js P 0 gs.toList zs=true) {a b:List PV} {r:Bool} (hc:bV zs a b=some r) (xs ys:Array Value) (w:World)
  (ha:∀(i:Nat) x v,a[i]?=some x->xs[i]?=some v->x=.im v) (hb:∀(i:Nat) x v,b[i]?=some x->ys[i]?=some v->x=.im v) (Kg:a.length=xs.size) (Kh:b.length=ys.size) (hsz:gs.size=a.length):(Op.equal t (.agg xs) (.agg ys)).run P w=.ok r w:=by
 have hf:P.fieldsOf t=gs:=by simp[Program.fieldsOf,qs]
 have hex:∀(l:List PV) (zs:Array Value),l.length=zs.size->(∀(i:Nat) x v,l[i]?=some x->zs[i]?=some v->x=.im v)->∀(j:Nat) x,l[j]?=some x->∃v,zs[0+j]?=some v/\x=.im v:=by
  intro l zs hl hz j x hx
  obtain⟨v,hv⟩:=hY hl (aW hx)
  exact⟨v,by rw[Nat.zero_add];exact hv,hz j x v hx hv⟩
 have key:=nN (P:=P) (w:=w) 9998 xs ys gs.toList zs 0 a b r h4 (by simp;omega) (hex a xs Kg ha) (hex b ys Kh hb) hc
 show (Op.equalIn (9999+1) t (.agg xs) (.agg ys)).run P w=_
 rw[run_equalIn_struct w 9999 t xs ys (by rw[hf];exact qs) h2,hf]
 exact key
theorem HY {P:Program} {l:List (Nat×TI)} (h:l.all (HU P)=true):∀t ti op a b r,qA l t=some ti->ti.eq=true->(∃fs,ti.ud=.st fs)->bV ti.zero a b=some r->∀(xs ys:Array Value) w,(∀(i:Nat) x v,a[i]?=some x->xs[i]?=some v->x=.im v)->(∀(i:Nat) x v,b[i]?=some x->ys[i]?=some v->x=.im v)->
  a.length=xs.size->b.length=ys.size->ti.size=a.length->(op=.eql\/op=.neq)->∀(x y:Operand),(do eqGuard op t x y (.agg xs) (.agg ys);binOp op t (.agg xs) (.agg ys):Sem Value).run P w=.ok (.bool (if op=.eql then r else !r)) w:=by
 intro t ti op a b r ht he ⟨fs,L1⟩ eS xs ys w ha hb Kg Kh hsz aZ x y
 have:=List.all_eq_true.1 h _ (nd ht)
 unfold HU at this
 simp only[he,L1,Bool.and_eq_true] at this
 obtain⟨⟨h1,h2⟩,h3⟩:=this
 have h2:P.stoodInHeld t=false:=by simpa using h2
 have h3:P.eqGuardType P.depth t=false:=by simpa using h3
 split at h1
 ·rename_i gs qs
  simp only[Bool.and_eq_true] at h1
  obtain⟨h4,_⟩:=h1
  have heq:=Cb qs h2 h4 eS xs ys w ha hb Kg Kh
  have HZ:(eqGuard op t x y (.agg xs) (.agg ys)).run P w=.ok () w:=by
   rcases aZ with rfl | rfl <;> simp[eqGuard,h3]
  rw[Sem.run_bind,HZ,Result.andThen_ok]
  rcases aZ with rfl | rfl
  ·simp[binOp,heq]
  simp[binOp,heq]
 cases h1
def H0 (P:Program) (p:Nat×TI):Bool:=match tI p.2 with
 | some (.st _)=>(match P.underlying p.1 with
  | some (.struct gs)=>js P 0 gs.toList p.2.zero
  | _=>false) && !P.stoodInHeld p.1
 | _=>true
theorem FD:∀{z:List Value} {sh:List Nat} {a b:List Value},va z=some sh->iS sh a->iS sh b->bV z (a.map .im) (b.map .im)=some (wT a b):=by
 intro z
 induction z with
 | nil=>
  intro sh a b h ha hb
  injection h with h
  subst h
  cases a <;> cases b <;> first
   | rfl
   | exact ha.elim
   | exact hb.elim
 | cons c z ih=>
  intro sh a b h ha hb
  unfold va at h
  split at h
  ·rename_i h1;cases h1
  all_goals first
   | (
     rename_i h1
     injection h1 with h1 oI
     subst h1 oI
     obtain⟨s,hs,rfl⟩:=Option.map_eq_some_iff.1 h
     cases a with
     | nil=>exact ha.elim
     | cons x a=>cases b with
      | nil=>exact hb.elim
      | cons y b=>
       have hx:=ha.1
       have hy:=hb.1
       cases x <;> first | (exact hx.elim) | skip
       cases y <;> first | (exact hy.elim) | skip
       have:=ih hs ha.2 hb.2
       first
        | (simp only[List.map_cons,bV,this,Option.map_some,wT,Bv];done)
        | (
         have e1:_=IntKind.i64:=hx
         have e2:_=IntKind.i64:=hy
         subst e1 e2
         simp only[List.map_cons,bV,this,Option.map_some,wT,Bv,kB];done))
   | cases h
theorem jP:∀{sh:List Nat} {a:List Value},iS sh a->a.length=sh.length
 | [],[],_=>rfl
 | [],_::_,h=>h.elim
 | _::_,[],h=>h.elim
 | _::_,_::_,h=>by simp[jP h.2]
theorem DU:∀{z:List Value} {sh:List Nat},va z=some sh->z.length=sh.length:=by
 intro z
 induction z with
 | nil=>intro sh h;injection h with h;subst h;rfl
 | cons c z ih=>
  intro sh h
  unfold va at h
  split at h
  ·rename_i h1;cases h1
  all_goals first
   | (
     rename_i h1
     injection h1 with h1 oI
     subst h1 oI
     obtain⟨s,hs,rfl⟩:=Option.map_eq_some_iff.1 h
     simp[ih hs];done)
   | cases h
theorem xt {P:Program} {t:TypeId} {z:Value} (h:EO (P.underlying t) z=true) (e:Bool) (n:Nat) (w:World) (v:Value):(Instr.checkKey e (n+1) t v).run P w=.ok () w:=by
 unfold EO at h
 split at h
 all_goals first
  | (rename_i hu;cases v <;> simp[Instr.checkKey,run_underlying hu];done)
  | cases h
theorem vJ {P:Program} (e:Bool) (n:Nat) (w:World) (xs:Array Value):∀(gs:List Field) (zs:List Value) (i:Nat),js P i gs zs=true->(∀j,j < gs.length->∃v,xs[i+j]?=some v)->(forIn gs PUnit.unit fun f _=>(do
   if f.name ≠ "_" then Instr.checkKey e (n + 1) f.type (← part f.type xs f.offset)
   pure (ForInStep.yield PUnit.unit):Sem (ForInStep PUnit))).run P w=.ok PUnit.unit w:=by
 intro gs
 induction gs with
 | nil=>intro zs i _ _;rfl
 | cons g gs ih=>
  intro zs i hi hx
  cases zs with
  | nil=>simp[js] at hi
  | cons z zs=>
   simp only[js,Bool.and_eq_true] at hi
   obtain⟨⟨⟨h1,h2⟩,h3⟩,h4⟩:=hi
   have h2:=Nat.eq_of_beq_eq_true h2
   have lM : g.name ≠ "_" := by simpa using h3
   obtain⟨v,hv⟩:=hx 0 (by simp)
   have p1:=iF (w:=w) h1 (xs:=xs) (i:=g.offset) (by rw[h2];simpa using hv)
   have rest:=ih zs (i+1) h4 fun j hj=>by obtain⟨v,q⟩:=hx (j+1) (by simpa using hj);exact⟨v,by rw[<-q];congr 1;omega⟩
   simp only[List.forIn_cons,if_pos lM,Sem.run_bind,p1,xt h1,Result.andThen_ok,Sem.run_pure]
   exact rest
theorem vK {P:Program} {kt:TypeId} {gs:Array Field} (qs:P.underlying kt=some (.struct gs)) (e:Bool) (n:Nat) (w:World) (xs:Array Value):(Instr.checkKey e (n+1) kt (.agg xs)).run P w=((forIn gs.toList PUnit.unit fun f _=>(do
   if f.name ≠ "_" then Instr.checkKey e n f.type (← part f.type xs f.offset)
   pure (ForInStep.yield PUnit.unit):Sem (ForInStep PUnit))).run P w).andThen fun _ w'=>.ok () w':=by
 simp only[Instr.checkKey,Sem.run_bind,run_underlying qs,Result.andThen_ok,<-Array.forIn_toList]
 rfl
theorem FE {P:Program} {l:List (Nat×TI)} (h:l.all (H0 P)=true):∀kt tk sh,qA l kt=some tk->tI tk=some (.st sh)->CI P kt (.st sh):=by
 intro kt tk sh ht hm
 have:=List.all_eq_true.1 h _ (nd ht)
 unfold H0 at this
 simp only[hm,Bool.and_eq_true] at this
 obtain⟨h1,h2⟩:=this
 have h2:P.stoodInHeld kt=false:=by simpa using h2
 have hsh:va tk.zero=some sh:=by
  unfold tI at hm
  split at hm <;> first
   | (cases hm;done)
   | skip
  all_goals (split at hm)
  all_goals first
   | (cases hm;done)
   | (obtain⟨s,hs,e⟩:=Option.map_eq_some_iff.1 hm;injection e with e;subst e;exact hs)
 split at h1
 ·rename_i gs qs
  have hlen:gs.size=sh.length:=by have:=pT h1;rw[DU hsh] at this;simpa using this
  refine⟨fun e k w hk=>?_,fun k w ms hk Ff=>?_⟩
  ·cases k <;> first | (exact hk.elim) | skip
   rename_i xs
   have hl:=jP (sh:=sh) hk
   have hl:xs.size=sh.length:=by simpa using hl
   have:=vJ e 9998 w xs gs.toList tk.zero 0 h1 fun j hj=>⟨xs[j]'(by simp at hj;omega),by rw[Nat.zero_add];exact Array.getElem?_eq_getElem _⟩
   exact (vK qs e 9999 w xs).trans (by rw[this];rfl)
  rw[run_findKey_eq w (by rw[qs]) k ms]
  show (Instr.findAsking kt k ms 0).run P w=.ok (nI k ms 0) w
  generalize 0=i
  induction ms generalizing i with
  | nil=>rfl
  | cons m ms ih=>
   have As:=Ff m List.mem_cons_self
   cases k <;> first | (exact hk.elim) | skip
   rename_i xs
   obtain⟨mk,mv,mb⟩:=m
   cases mk <;> first | (exact As.elim) | skip
   rename_i ys
   have Pr:xs.size=sh.length:=by simpa using jP (sh:=sh) hk
   have Ps:ys.size=sh.length:=by simpa using jP (sh:=sh) As
   have iW:∀(zs:Array Value) (i:Nat) x v,(zs.toList.map PV.im)[i]?=some x->zs[i]?=some v->x=.im v:=fun zs i x v q1 q2=>by
    rw[List.getElem?_map,Array.getElem?_toList,q2] at q1
    injection q1 with q1
    exact q1.symm
   have:=xr qs h2 h1 (FD (sh:=sh) hsh hk As) xs ys w (iW xs) (iW ys) (by simp) (by simp) (by simp;omega)
   unfold Instr.findAsking nI
   simp only[Sem.run_bind,this,Result.andThen_ok,wU]
   cases wT xs.toList ys.toList with
   | true=>rfl
   | false=>exact ih (fun x hx=>Ff x (List.mem_cons_of_mem _ hx)) _
 cases h1
end Go.AM
namespace Go.AM
open Go.RowKit
theorem bg.iN {A:dc} (hC:ct A.C) (s:AS) (d:Nat) (e:TypeId) (ti:TI) (hd:d < 100000) (hn:s.t d=.nl) (hT:A.C.T e=some ti) (hpos:0 < ti.size):
  bg A s ⟨bI (hI d s).t d (.ow d),bI (hI d s).h d (.row e [])⟩:=by
 intro S rho a w sim
 have hv:a.tmps.getD d undef=.slice none 0 0:=by
  have:=sim.tm d trivial
  rw[hn] at this
  generalize a.tmps.getD d undef=v at this
  cases this;rfl
 have pK:=sim.free d (.row e [])
 obtain⟨info,z,h1,h2,h3,h4,h5,h6,h7,h8⟩:=hC.gw e ti hT
 have bN:=pK.new hC d (.row e []) hd (fun h=>h rfl) (bc _ _ _) w rfl rfl rfl (Nat.le_refl _) (fun _=>False) (fun _ _ _=>rfl) (fun _ h=>h.elim) (.slice none 0 0) (fun g hg=>by cases hg) fun T=>by
  show a_ _ _ _ _ _ (bI rho d _ d)
  rw[bc]
  exact⟨info,[],h1,by omega,⟨by simp,.inl ⟨rfl,rfl⟩⟩,by simp,by simp,by simp⟩
 have fw:cm A di di S (bI rho d (.slice none 0 0)) ⟨(hI d s).t,bI (hI d s).h d (.row e [])⟩ a w:=bN.nB (fun _ _=>trivial) (fun k=>⟨fun _=>by by_cases e:k=d;exact .inr e;exact .inl e,fun _=>trivial⟩)
 refine⟨S,_,{ fw with tm:=fun j _=>?_ }⟩
 by_cases ej:j=d
 ·subst ej
  show bK _ _ _ _ _ _ (bI _ _ _ _) _
  rw[bc]
  exact .ow j _ fun _=>⟨trivial,by rw[bc];exact hv⟩
 show bK _ _ _ _ _ _ (bI _ _ _ _) _
 rw[bQ _ _ ej]
 exact fw.tm j trivial
theorem bg.gK {A:dc} (hC:ct A.C) (s:AS) (d:Nat) {y:PV} {fz:List (Nat×AB)} (h:AM.gK s.h (s.t d) fun y' jM=>y'=y/\jM=fz):bg A s ⟨bI s.t d (.p y),app s.h fz⟩:=by
 intro S rho a w sim
 obtain⟨y',jM,S',⟨rfl,rfl⟩,cg,hp,hS,hF,_⟩:=gh hC sim (h:=s.h) (fun _=>.inl rfl) (sim.tm d trivial) h
 refine⟨S',rho,{ cg with tm:=fun j _=>?_ }⟩
 by_cases ej:j=d
 ·subst ej
  show bK _ _ _ _ _ _ (bI _ _ _ _) _
  rw[bc]
  exact .p _ _ hp
 show bK _ _ _ _ _ _ (bI _ _ _ _) _
 rw[bQ _ _ ej]
 exact cg.tm j trivial
theorem bg.nil {A:dc} (hC:ct A.C) (s:AS) (d:Nat) (h:s.t d=.nl):bg A s ⟨bI s.t d (.p (.sl [])),s.h⟩:=bg.gK hC s d (y:=.sl []) (fz:=[]) (by rw[h];exact⟨rfl,rfl⟩)
theorem bg.own {A:dc} (hC:ct A.C) (s:AS) (d:Nat) {id:Nat} {e:TypeId} {es:List (List PV)} (h:s.t d=.ow id) (h2:s.h id=.row e es):bg A s ⟨bI s.t d (.p (.sl es)),bI s.h id (.hM es)⟩:=bg.gK hC s d (y:=.sl es) (fz:=[(id,.hM es)]) (by rw[h];simp only[AM.gK,AM.ji];rw[h2];exact⟨rfl,rfl⟩)
theorem bg.Lj {A:dc} (s:AS) (i d:Nat) (hid:i≠d) (hd:d < 100000):bg A s (jH i d s):=fun S _ _ _ sim=>⟨S,_,sim.rename i d hid hd⟩
theorem bg.FF {A:dc} (hC:ct A.C) (s:AS) (id j d:Nat) (e:TypeId) (ti:TI) (cs:List AV) (hd:d < 100000) (hid:id≠d) (hb:s.h id=.box cs) (hn:cs[j]?=some .nl) (hT:A.C.T e=some ti) (hpos:0 < ti.size):
  bg A s ⟨(hI d s).t,bI (bI (hI d s).h d (.row e [])) id (.box ((cs.map (sc d)).set j (.ow d)))⟩:=by
 intro S rho a w sim
 have pK:=sim.free d (.row e [])
 obtain⟨info,z,h1,h2,h3,h4,h5,h6,h7,h8⟩:=hC.gw e ti hT
 have bN:=pK.new hC d (.row e []) hd (fun h=>h rfl) (bc _ _ _) w rfl rfl rfl (Nat.le_refl _) (fun _=>False) (fun _ _ _=>rfl) (fun _ h=>h.elim) (.slice none 0 0) (fun g hg=>by cases hg) fun T=>by
  show a_ _ _ _ _ _ (bI rho d _ d)
  rw[bc]
  exact⟨info,[],h1,by omega,⟨by simp,.inl ⟨rfl,rfl⟩⟩,by simp,by simp,by simp⟩
 have fw:cm A di di S (bI rho d (.slice none 0 0)) ⟨(hI d s).t,bI (hI d s).h d (.row e [])⟩ a w:=bN.nB (fun _ _=>trivial) (fun k=>⟨fun _=>by by_cases e:k=d;exact .inr e;exact .inl e,fun _=>trivial⟩)
 have bC:(bI (hI d s).h d (.row e [])) id=.box (cs.map (sc d)):=by
  rw[bQ _ _ hid]
  show bI (fun k=>uO d (s.h k)) d .none id=_
  rw[bQ _ _ hid,hb]
  rfl
 refine⟨S,_,fw.write hC id trivial (by show ((bI (hI d s).h d (.row e [])) id).live;rw[bC];trivial) _ (fun _ h=>by cases h) w rfl rfl rfl rfl (fun _ _=>rfl) fun T=>?_⟩
 have hh:=fw.hp id trivial
 have hh:fa S w A.C.P di (bI rho d (.slice none 0 0)) (bI (hI d s).h d (.row e [])) id ((bI (hI d s).h d (.row e [])) id):=hh
 rw[bC] at hh
 obtain⟨g,ty,c,k1,k2,k3,k4⟩:=hh
 refine⟨g,ty,c,k1,k2,by rw[k3,List.length_set],fun i x u hi hu=>?_⟩
 by_cases ei:i=j
 ·subst ei
  have hj:(cs.map (sc d))[i]?=some .nl:=by rw[List.getElem?_map,hn];rfl
  rw[List.getElem?_set_self (aW hj)] at hi
  injection hi with hi
  subst hi
  obtain⟨k5,k6⟩:=k4 i _ u hj hu
  refine⟨k5,.ow d u fun _=>⟨trivial,?_⟩⟩
  rw[bc]
  cases k6;rfl
 rw[List.getElem?_set_ne (fun e=>ei e.symm)] at hi
 obtain⟨k5,k6⟩:=k4 i x u hi hu
 exact⟨k5,k6.dQ T⟩
theorem bg.FG {A:dc} (hC:ct A.C) (s:AS) (id j i:Nat) (e:TypeId) (es:List (List PV)) (cs:List AV) (hid:id≠i) (hb:s.h id=.box cs) (hn:cs[j]?=some (.ow i)) (hr:s.h i=.row e es):
  bg A s ⟨s.t,bI (bI s.h i (.hM es)) id (.box (cs.set j (.p (.sl es))))⟩:=by
 intro S rho a w sim
 have pK:=sim.uE hC i trivial hr
 have bC:(bI s.h i (.hM es)) id=.box cs:=by rw[bQ _ _ hid];exact hb
 refine⟨_,_,pK.write hC id trivial (by show ((bI s.h i (.hM es)) id).live;rw[bC];trivial) _ (fun _ h=>by cases h) w rfl rfl rfl rfl (fun _ _=>rfl) fun T=>?_⟩
 have hh:=pK.hp id trivial
 have hh:fa _ w A.C.P di rho (bI s.h i (.hM es)) id ((bI s.h i (.hM es)) id):=hh
 rw[bC] at hh
 have hf:=pK.hp i trivial
 have hf:fa _ w A.C.P di rho (bI s.h i (.hM es)) i ((bI s.h i (.hM es)) i):=hf
 rw[bc] at hf
 obtain⟨g,ty,c,k1,k2,k3,k4⟩:=hh
 refine⟨g,ty,c,k1,k2,by rw[k3,List.length_set],fun q x u hi hu=>?_⟩
 by_cases ei:q=j
 ·subst ei
  rw[List.getElem?_set_self (aW hn)] at hi
  injection hi with hi
  subst hi
  obtain⟨k5,k6⟩:=k4 q _ u hn hu
  refine⟨k5,.p _ _ ?_⟩
  rw[(k6.db (by rw[bc];trivial)).2]
  exact hf
 rw[List.getElem?_set_ne (fun e=>ei e.symm)] at hi
 obtain⟨k5,k6⟩:=k4 q x u hi hu
 exact⟨k5,k6.dQ T⟩
end Go.AM
namespace Go.AM
open Go.RowKit
def ng:List HC->List Nat->List AV
 | [],_=>[]
 | .p x::r,ns=>.p x::ng r ns
 | .row _ _::r,n::ns=>.ow n::ng r ns
 | .row _ _::r,[]=>.junk::ng r []
def tU:List HC->List Nat->List (Nat×AB)
 | [],_=>[]
 | .p _::r,ns=>tU r ns
 | .row e es::r,n::ns=>(n,.row e es)::tU r ns
 | .row _ _::_,[]=>[]
def rowsOf:List HC->Nat
 | []=>0
 | .p _::r=>rowsOf r
 | .row _ _::r=>rowsOf r+1
def iv:List (Nat×AB)->AS->AS
 | [],s=>s
 | (d,b)::r,s=>iv r ⟨(hI d s).t,bI (hI d s).h d b⟩
theorem pU:∀{cs:List HC} {ns:List Nat},rowsOf cs=ns.length->(tU cs ns).map (·.1)=ns
 | [],ns,h=>by cases ns with | nil=>rfl | cons n ns=>simp[rowsOf] at h
 | .p x::cs,ns,h=>by show (tU cs ns).map _=_;exact pU h
 | .row e es::cs,[],h=>by simp[rowsOf] at h
 | .row e es::cs,n::ns,h=>by
  simp only[rowsOf,List.length_cons,Nat.add_right_cancel_iff] at h
  simp[tU,pU h]
theorem AZ:∀{cs:List HC} {ns:List Nat} {n:Nat} {b:AB},(n,b)∈tU cs ns->∃(j:Nat) (e:TypeId) (es:List (List PV)),cs[j]?=some (.row e es)/\b=.row e es/\(ng cs ns)[j]?=some (.ow n)
 | [],ns,n,b,h=>by cases h
 | .p x::cs,ns,n,b,h=>by
  obtain⟨j,e,es,h1,h2,h3⟩:=AZ (cs:=cs) (ns:=ns) h
  exact⟨j+1,e,es,h1,h2,h3⟩
 | .row e es::cs,[],n,b,h=>by cases h
 | .row e es::cs,m::ns,n,b,h=>by
  rcases List.mem_cons.1 h with h | h
  ·injection h with h1 h2
   subst h1 h2
   exact⟨0,e,es,rfl,rfl,rfl⟩
  obtain⟨j,e,es,h1,h2,h3⟩:=AZ (cs:=cs) (ns:=ns) h
  exact⟨j+1,e,es,h1,h2,h3⟩
theorem vL:∀{cs:List HC} {ns:List Nat} {j:Nat} {x:AV},rowsOf cs=ns.length->(ng cs ns)[j]?=some x->(∃z,cs[j]?=some (.p z)/\x=.p z)\/∃n e es,cs[j]?=some (.row e es)/\x=.ow n/\(n,.row e es)∈tU cs ns
 | [],ns,j,x,_,h=>by simp[ng] at h
 | .p y::cs,ns,0,x,_,h=>by simp[ng] at h;exact .inl ⟨y,rfl,h.symm⟩
 | .p y::cs,ns,j+1,x,hl,h=>by
  have:=vL (cs:=cs) (ns:=ns) (j:=j) hl (by simpa [ng] using h)
  exact this
 | .row e es::cs,[],j,x,hl,_=>by simp[rowsOf] at hl
 | .row e es::cs,n::ns,0,x,_,h=>by simp[ng] at h;exact .inr ⟨n,e,es,rfl,h.symm,by simp[tU]⟩
 | .row e es::cs,n::ns,j+1,x,hl,h=>by
  simp only[rowsOf,List.length_cons,Nat.add_right_cancel_iff] at hl
  rcases vL (cs:=cs) (ns:=ns) (j:=j) hl (by simpa [ng] using h) with h | ⟨m,e',dw,h1,h2,h3⟩
  ·exact .inl h
  exact .inr ⟨m,e',dw,h1,h2,by simp[tU,h3]⟩
theorem rD:∀{cs:List HC} {ns:List Nat},(ng cs ns).length=cs.length
 | [],_=>rfl
 | .p x::cs,ns=>by simp[ng,rD (cs:=cs)]
 | .row e es::cs,[]=>by simp[ng,rD (cs:=cs)]
 | .row e es::cs,n::ns=>by simp[ng,rD (cs:=cs)]
theorem qC {A:dc} {S:Nat->Prop} {rho:Nat->Value} {a:Act} {w:World}:∀(l:List (Nat×AB)) (L:Nat->Prop) (s:AS),cm A di L S rho s a w->cm A di (fun k=>L k/\∀p∈l,p.1≠k) S rho (iv l s) a w
 | [],L,s,sim=>sim.nB (fun _ h=>h) (fun i=>⟨fun h=>h.1,fun h=>⟨h,by simp⟩⟩)
 | (d,b)::l,L,s,sim=>(qC l _ _ (sim.Gv d b)).nB (fun _ h=>h) (fun i=>⟨fun ⟨h1,h2⟩=>⟨⟨h1,fun e=>h2 (d,b) (by simp) e.symm⟩,fun p hp=>h2 p (by simp[hp])⟩,fun ⟨⟨h1,h2⟩,h3⟩=>⟨h1,fun p hp=>by
   rcases List.mem_cons.1 hp with h | h
   ·subst h;exact fun e=>h2 e.symm
   exact h3 p h⟩⟩)
theorem mo:∀(l:List (Nat×AB)) (s:AS) (k:Nat),(∀p∈l,p.1≠k)->(∀d,uO d (s.h k)=s.h k)->(iv l s).h k=s.h k
 | [],s,k,_,_=>rfl
 | (d,b)::l,s,k,h,hs=>by
  have hk:k≠d:=fun e=>h (d,b) (by simp) e.symm
  have e1:bI (hI d s).h d b k=s.h k:=by
   rw[bQ _ _ hk]
   show bI (fun k=>uO d (s.h k)) d .none k=_
   rw[bQ _ _ hk]
   exact hs d
  show (iv l ⟨(hI d s).t,bI (hI d s).h d b⟩).h k=_
  rw[mo l _ k (fun p hp=>h p (by simp[hp])) (fun d'=>by show uO d' (bI (hI d s).h d b k)=bI (hI d s).h d b k;rw[e1];exact hs d')]
  exact e1
theorem sB:∀(l:List (Nat×AB)) (s:AS) (k:Nat) (b:AB),(l.map (·.1)).Nodup->(∀d,uO d b=b)->(k,b)∈l->(iv l s).h k=b
 | [],s,k,b,_,_,h=>by cases h
 | (d,b')::l,s,k,b,hn,hb,h=>by
  simp only[List.map_cons,List.nodup_cons] at hn
  show (iv l ⟨(hI d s).t,bI (hI d s).h d b'⟩).h k=_
  rcases List.mem_cons.1 h with h | h
  ·injection h with h1 h2
   subst h1 h2
   rw[mo l _ k (fun p hp e=>hn.1 (List.mem_map.2 ⟨p,hp,e⟩)) (fun d'=>by show uO d' (bI (hI k s).h k b k)=bI (hI k s).h k b k;rw[bc];exact hb d')]
   exact bc _ _ _
  exact sB l _ k b hn.2 hb h
theorem lN:∀{l:List Nat},ed l=true->l.Nodup
 | [],_=>by simp
 | n::l,h=>by
  simp[ed] at h
  refine List.nodup_cons.2 ⟨fun hm=>?_,lN h.2.2⟩
  rw[jn.2 hm] at h
  cases h.1
theorem bg.open {A:dc} (hC:ct A.C) (s:AS) (id:Nat) (ns:List Nat) {cs:List HC} (hb:s.h id=.bC cs) (hl:rowsOf cs=ns.length) (hg:ed ns=true) (hid:xc id ns=false):
  bg A s ⟨(iv (tU cs ns) s).t,bI (iv (tU cs ns) s).h id (.box (ng cs ns))⟩:=by
 intro S rho a w nC
 have NK:=pU hl
 have EL:((tU cs ns).map (·.1)).Nodup:=by rw[NK];exact lN hg
 have n_:∀n,n∈ns↔∃b,(n,b)∈tU cs ns:=fun n=>by rw[show (n∈ns)=(n∈(tU cs ns).map (·.1)) by rw[NK]];simp
 have xu:¬id∈ns:=fun h=>by rw[jn.2 h] at hid;cases hid
 have sim:=qC (tU cs ns) di s nC
 have sim:cm A di (fun k=>¬k∈ns) S rho (iv (tU cs ns) s) a w:=sim.nB (fun _ h=>h) (fun i=>⟨fun h=>⟨trivial,fun p hp e=>h (by rw[n_,<-e];exact⟨p.2,hp⟩)⟩,fun ⟨_,h⟩ hm=>by obtain⟨b,iI⟩:=(n_ i).1 hm;exact h _ iI rfl⟩)
 obtain⟨s1,yy⟩:∃s1,s1=iv (tU cs ns) s:=⟨_,rfl⟩
 have FH:s1.h id=.bC cs:=by
  rw[yy,mo _ _ id (fun p hp e=>xu (by rw[n_,<-e];exact⟨p.2,hp⟩)) (fun d=>by rw[hb];rfl),hb]
 have Ki:∀n b,(n,b)∈tU cs ns->s1.h n=b:=fun n b hm=>by
  obtain⟨j,e,es,_,rfl,_⟩:=AZ hm
  rw[yy];exact sB _ _ n _ EL (fun d=>rfl) hm
 rw[<-yy] at sim ⊢
 have hh:=sim.hp id xu
 rw[FH] at hh
 obtain⟨g,ty,c,k1,hB⟩:=hh
 have B2:cW (rho id)=some g:=by rw[k1];rfl
 have cI:(s1.h id).live:=by rw[FH];trivial
 have place:∀n,n∈ns->∃(j:Nat) (e:TypeId) (es:List (List PV)) (u:Value),cs[j]?=some (.row e es)/\(ng cs ns)[j]?=some (.ow n)/\c[j]?=some u/\s1.h n=.row e es/\(n,AB.row e es)∈tU cs ns:=fun n hm=>by
  obtain⟨b,iI⟩:=(n_ n).1 hm
  obtain⟨j,e,es,h1,rfl,h3⟩:=AZ iI
  obtain⟨u,hu⟩:=hY hB.sz.symm (aW h1)
  exact⟨j,e,es,u,h1,h3,hu,Ki n _ iI,iI⟩
 obtain⟨F,hF⟩:∃F:Nat->Value,∀n,n∈ns->∃(j:Nat) (e:TypeId) (es:List (List PV)),cs[j]?=some (.row e es)/\(ng cs ns)[j]?=some (.ow n)/\c[j]?=some (F n)/\s1.h n=.row e es/\(n,AB.row e es)∈tU cs ns:=by
  have ex:∀n,∃u:Value,n∈ns->∃(j:Nat) (e:TypeId) (es:List (List PV)),cs[j]?=some (.row e es)/\(ng cs ns)[j]?=some (.ow n)/\c[j]?=some u/\s1.h n=.row e es/\(n,AB.row e es)∈tU cs ns:=fun n=>by
   by_cases hm:n∈ns
   ·obtain⟨j,e,es,u,h⟩:=place n hm
    exact⟨u,fun _=>⟨j,e,es,h⟩⟩
   exact⟨undef,fun h=>(hm h).elim⟩
  exact⟨fun n=>(ex n).choose,fun n=>(ex n).choose_spec⟩
 have FI:∀{cs:List HC} {ns:List Nat} {i j n:Nat},rowsOf cs=ns.length->ed ns=true->(ng cs ns)[i]?=some (.ow n)->(ng cs ns)[j]?=some (.ow n)->i=j:=by
  intro cs ns i j n hl hg h1 h2
  have OB:∀{cs:List HC} {ns:List Nat},rowsOf cs=ns.length->dp (ng cs ns)=ns:=by
   intro cs
   induction cs with
   | nil=>intro ns h;cases ns with | nil=>rfl | cons n ns=>simp[rowsOf] at h
   | cons x cs ih=>
    intro ns h
    cases x with
    | p x=>exact ih h
    | row e es=>
     cases ns with
     | nil=>simp[rowsOf] at h
     | cons n ns=>
      simp only[rowsOf,List.length_cons,Nat.add_right_cancel_iff] at h
      show n::dp (ng cs ns)=_
      rw[ih h]
  exact kX (by rw[OB hl];exact hg) h1 h2
 obtain⟨rho',GM⟩:∃rho':Nat->Value,rho'=fun k=>if k∈ns then F k else rho k:=⟨_,rfl⟩
 have I9:∀k,k∈ns->rho' k=F k:=fun k hk=>by rw[GM];exact if_pos hk
 have zF:∀k,¬k∈ns->rho' k=rho k:=fun k hk=>by rw[GM];exact if_neg hk
 have Ln:∀k,(k=id/\bI s1.h id (.box (ng cs ns)) k=.box (ng cs ns))\/(k≠id/\bI s1.h id (.box (ng cs ns)) k=s1.h k):=fun k=>by
  by_cases e:k=id
  ·subst e;exact .inl ⟨rfl,bc _ _ _⟩
  exact .inr ⟨e,bQ _ _ e⟩
 have T:kp S S w w (fun k=>¬k∈ns) di rho rho' s1.h (bI s1.h id (.box (ng cs ns))):=⟨fun _ h=>h,fun _ _=>rfl,fun j hj=>⟨by
   rcases Ln j with⟨rfl,h⟩ | ⟨_,h⟩
   ·rw[FH];trivial
   ·rw[h] at hj;exact hj,fun hn=>⟨trivial,zF j hn⟩⟩,fun j e hj=>by
   rcases Ln j with⟨_,h⟩ | ⟨_,h⟩
   ·rw[h] at hj;cases hj
   rw[h] at hj;exact hj⟩
 have owner:∀j k,(bI s1.h id (.box (ng cs ns)) j).live->hasB w (bI s1.h id (.box (ng cs ns)) j) (rho' j) k->∃o,¬o∈ns/\(s1.h o).live/\hasB w (s1.h o) (rho o) k/\(if j∈ns then o=id else o=j):=fun j k hl ho=>by
  by_cases hj:j∈ns
  ·obtain⟨i,e,es,h1,h2,h3,h4,h5⟩:=hF j hj
   have OC:j≠id:=fun e=>xu (e ▸ hj)
   rw[bQ _ _ OC,h4,I9 j hj] at ho
   refine⟨id,xu,cI,?_,by rw[if_pos hj]⟩
   rw[FH]
   exact .inr <| .inl ⟨cs,g,rfl,B2,c,ty,_,i,_,F j,hB.hp,h1,trivial,h3,aY rfl ho⟩
  rw[zF j hj] at ho
  rcases Ln j with⟨rfl,h⟩ | ⟨_,h⟩
  ·rw[h] at ho
   exact⟨j,hj,cI,.inl (aY rfl ho),by rw[if_neg hj]⟩
  rw[h] at hl ho
  exact⟨j,hj,hl,ho,by rw[if_neg hj]⟩
 exact⟨S,rho',
 {tm:=fun j hj=>(sim.tm j hj).dQ T
  sz:=sim.sz,df:=sim.df,nb:=sim.nb
  pn:=fun k hk=>by rw[zF k fun h=>by have:=kY hg h;omega];exact sim.pn k hk
  ev:=sim.ev,s0:=sim.s0,st:=sim.st,sb:=sim.sb
  hp:=fun j _=>by
   show fa _ _ _ _ _ _ _ (bI s1.h id (.box (ng cs ns)) j)
   rcases Ln j with⟨rfl,h⟩ | ⟨dh,h⟩
   ·rw[h]
    refine⟨g,ty,c,by rw[zF j xu];exact k1,hB.hp,by rw[rD];exact hB.sz,fun i x u hi hu=>?_⟩
    rcases vL hl hi with⟨z,h1,rfl⟩ | ⟨n,e,es,h1,rfl,h3⟩
    ·exact⟨(hB.cell i _ u h1 hu).1,.p _ _ (hB.cell i _ u h1 hu).2⟩
    refine⟨(hB.cell i _ u h1 hu).1,.ow n u fun _=>⟨trivial,?_⟩⟩
    have hm:n∈ns:=(n_ n).2 ⟨_,h3⟩
    obtain⟨i',e',dw,q1,q2,q3,q4,q5⟩:=hF n hm
    have:=FI hl hg q2 hi
    subst this
    rw[I9 n hm]
    rw[q3] at hu
    injection hu with hu
    exact hu.symm
   rw[h]
   by_cases hj:j∈ns
   ·obtain⟨i,e,es,h1,h2,h3,h4,h5⟩:=hF j hj
    rw[h4]
    show a_ _ _ _ _ _ (rho' j)
    rw[I9 j hj]
    exact (hB.cell i _ _ h1 h3).2
   exact (sim.hp j hj).dQ T (fun _ _ _=>rfl) (fun _=>zF j hj)
  dj:=fun i j k _ _ li lj hi hj=>by
   obtain⟨o,o1,o2,o3,o4⟩:=owner i k li hi
   obtain⟨p,p1,p2,p3,p4⟩:=owner j k lj hj
   have:=sim.dj o p k o1 p1 o2 p2 o3 p3
   subst this
   by_cases ei:i∈ns
   ·rw[if_pos ei] at o4
    subst o4
    have hi:hasB w (bI s1.h o (.box (ng cs ns)) i) (rho' i) k:=hi
    obtain⟨i1,e1,Lf,q1,q2,q3,q4,q5⟩:=hF i ei
    have NL:cW (F i)=some k:=by
     rw[bQ _ _ (fun e=>xu (by rw[<-e];exact ei)),q4,I9 i ei] at hi
     exact aY rfl hi
    by_cases ej:j∈ns
    ·have hj:hasB w (bI s1.h o (.box (ng cs ns)) j) (rho' j) k:=hj
     obtain⟨j1,e2,JG,r1,r2,r3,r4,r5⟩:=hF j ej
     have MR:cW (F j)=some k:=by
      rw[bQ _ _ (fun e=>xu (by rw[<-e];exact ej)),r4,I9 j ej] at hj
      exact aY rfl hj
     have:=hB.dis i1 j1 _ _ _ _ k q1 r1 q3 r3 trivial trivial NL MR
     subst this
     rw[q2] at r2
     injection r2 with r2
     injection r2
    rw[if_neg ej] at p4
    subst p4
    exfalso
    have hj:hasB w (bI s1.h o (.box (ng cs ns)) o) (rho' o) k:=hj
    rw[bc,zF o ej] at hj
    have hj:=aY rfl hj
    rw[B2] at hj
    injection hj with hj
    exact hB.top i1 _ _ k q1 q3 trivial NL hj.symm
   rw[if_neg ei] at o4
   by_cases ej:j∈ns
   ·rw[if_pos ej] at p4
    subst o4
    subst p4
    exfalso
    have hi:hasB w (bI s1.h o (.box (ng cs ns)) o) (rho' o) k:=hi
    have hj:hasB w (bI s1.h o (.box (ng cs ns)) j) (rho' j) k:=hj
    obtain⟨j1,e2,JG,r1,r2,r3,r4,r5⟩:=hF j ej
    have MR:cW (F j)=some k:=by
     rw[bQ _ _ (fun e=>xu (by rw[<-e];exact ej)),r4,I9 j ej] at hj
     exact aY rfl hj
    rw[bc,zF o ei] at hi
    have hi:=aY rfl hi
    rw[B2] at hi
    injection hi with hi
    exact hB.top j1 _ _ k r1 r3 trivial MR hi.symm
   rw[if_neg ej] at p4
   exact o4.symm.trans p4
  lv:=fun i k _ li hi=>by
   obtain⟨o,o1,o2,o3,_⟩:=owner i k li hi
   exact sim.lv o k o1 o2 o3
  fr:=sim.fr }⟩
end Go.AM
namespace Go.AM
open Go.RowKit
theorem LD.map {α:Type} {l:List α} {f:α->List HX} {g:α->List PV} (h:∀x∈l,(g x).length=(f x).length/\∀(j:Nat) u v,(f x)[j]?=some u->(g x)[j]?=some v->Jf u v):LD (l.map f) (l.map g):=
 ⟨by simp,fun a r q h1 h2=>by
  rw[List.getElem?_map] at h1 h2
  obtain⟨x,hx,rfl⟩:=Option.map_eq_some_iff.1 h1
  rw[hx] at h2
  injection h2 with h2
  subst h2
  exact h x (List.mem_of_getElem? hx)⟩
end Go.AM
namespace Go.AM
open Go.RowKit
theorem kv {C:Ctx} {o:Oper} {rho:Operand->AV} {h:Nat->AB} {K K':KK} (hk:∀v e n,K v e n->K' v e n) (hq:bY C o rho h K):bY C o rho h K':=by
 obtain⟨v,e,n,h1,h2⟩:=m_ (fun _=>.inr rfl) hq
 exact h2 _ (hk _ _ _ h1)
theorem zG {C:Ctx} {o:Oper} {K K':AS->Prop} {s:AS} (hk:∀s,K s->K' s) (hq:nM C o K s):nM C o K' s:=by
 unfold nM at hq ⊢
 split at hq
 ·exact kv (fun v e n h=>hk _ h) hq
 split at hq
 ·split at hq
  ·split at hq
   ·split at hq <;> exact hk _ hq
   ·split at hq <;> exact hk _ hq
   exact hk _ hq
  exact hk _ hq
 refine kv (fun v e n h=>?_) hq
 cases n with
 | none=>exact hk _ h
 | some b=>exact h
theorem pV {C:Ctx} {o:Oper} {K K':AS->Prop} {s:AS} (hk:∀s,K s->K' s) (hq:step C o K s):step C o K' s:=by
 unfold step at hq ⊢
 split at hq
 ·exact⟨hk _ hq.1,hk _ hq.2⟩
 exact zG hk hq
theorem jt {b:Bool} {p q p' q':Prop} (h1:p->p') (h2:q->q') (h:fc b p q):fc b p' q':=by
 cases b <;> simp only[fc] at h ⊢
 ·exact h2 h
 exact h1 h
theorem Cc {C:Ctx} {all:List Oper} {K K':AS->Prop} (hk:∀s,K s->K' s):∀(l:List Oper) (s:AS),cL C all l K s->cL C all l K' s:=by
 intro l
 induction l with
 | nil=>intro s h;exact hk _ h
 | cons o l ih=>
  intro s h
  unfold cL at h ⊢
  split at h
  ·exact pV ih h
  split at h
  ·exact h.elim
  split at h
  ·exact h.elim
  split at h
  ·rename_i want _ _ _ _ _ _ _
   refine jt (fun h=>?_) (fun h=>?_) h
   ·split at h
    ·exact pV ih h
    exact ih _ h
   split at h
   ·exact pV ih h
   exact ih _ h
  ·exact ih _ h
  exact h.elim
theorem om {C:Ctx} {ap f:Bool} {X:List Nat} {o:Oper} {K K':AS->Prop} {s:AS} (hk:∀s,K s->K' s) (hq:iE C ap X f o K s):iE C ap X f o K' s:=by
 unfold iE at hq ⊢
 split at hq
 ·refine kv (fun v e n h=>?_) hq
  split at h
  ·exact h
  split at h
  ·split at h
   ·exact hk _ h
   exact h
  split at h
  ·exact hk _ h
  exact h
 exact hq
theorem Cd {C:Ctx} {ap:Bool} {X:List Nat} {all:List Oper} {K K':AS->Prop} (hk:∀s,K s->K' s):∀(l:List Oper) (fl:List Bool) (s:AS),dE C ap X all fl l K s->dE C ap X all fl l K' s:=by
 intro l
 induction l with
 | nil=>intro fl s h;cases fl <;> exact hk _ h
 | cons o l ih=>
  intro fl s h
  cases fl with
  | nil=>exact h
  | cons f fl=>
  unfold dE at h ⊢
  split at h
  ·exact om (ih fl) h
  split at h
  ·exact h.elim
  split at h
  ·exact h.elim
  split at h
  ·refine jt (fun h=>?_) (fun h=>?_) h
   ·split at h
    ·exact om (ih fl) h
    exact ih fl _ h
   split at h
   ·exact om (ih fl) h
   exact ih fl _ h
  ·exact ih fl _ h
  exact h.elim
theorem nh {f f':AS->Prop} {K K':Exit->AS->Prop} (hf:∀s,f s->f' s) (hk:∀e s,K e s->K' e s):∀e s,fG f K e s->fG f' K' e s:=by
 intro e s h
 cases e <;> first | exact hf _ h | exact hk _ _ h
theorem sC {id:Nat} {K K':Exit->AS->Prop} (hk:∀e s,K e s->K' e s):∀e s,ml id K e s->ml id K' e s:=by
 intro e s h
 cases e <;> first | exact hk _ _ h | exact jt (hk _ _) (hk _ _) h
theorem sD {A:dc}:∀(c:Code) (K K':Exit->AS->Prop) (s:AS),(∀e s,K e s->K' e s)->jr A c K s->jr A c K' s:=by
 intro c
 induction c with
 | skip=>intro K K' s hk h;exact hk _ _ h
 | region id ops draw=>
  intro K K' s hk h
  cases draw with
  | false=>exact Cc (hk _) _ _ h
  | true=>obtain⟨X,h⟩:=h;exact⟨X,Cd (fun _ h=>hk _ _ h) _ _ _ h⟩
 | seq a b HQ HR=>intro K K' s hk h;exact HQ _ _ _ (nh (fun s h=>by obtain⟨s2,h1,h2⟩:=h;exact⟨s2,h1,HR _ _ _ hk h2⟩) hk) h
 | cond c a b HQ HR=>
  intro K K' s hk h
  simp only[jr] at h ⊢
  split at h
  ·exact jt (HQ _ _ _ hk) (HR _ _ _ hk) h
  exact h
 | block id c ih=>intro K K' s hk h;exact ih _ _ _ (sC hk) h
 | loop c ih=>
  intro K K' s hk h
  obtain⟨α,I,m,h0,hr⟩:=h
  exact⟨α,I,m,h0,fun x s hi=>ih _ _ _ (nh (fun _ h=>h) hk) (hr x s hi)⟩
 | exit id=>intro K K' s hk h;exact hk _ _ h
 | ret=>intro K K' s hk h;exact hk _ _ h
 | rangeFunc=>intro K K' s _ h;exact h.elim
 | scope=>intro K K' s _ h;exact h.elim
 | label=>intro K K' s _ h;exact h.elim
 | goto=>intro K K' s _ h;exact h.elim
 | refuse=>intro K K' s _ h;exact h.elim
def sE {α:Type} (R:α->Prop) (ts:α->List (Nat×AV)) (hs:α->List (Nat×AB)) (s:AS):Prop:=∃y,R y/\lW (ts y) s.t/\lW (hs y) s.h
theorem sE.go {α:Type} {R:α->Prop} {ts:α->List (Nat×AV)} {hs:α->List (Nat×AB)} {f:AS->Prop} (h2:∀y,R y->∀t h,f ⟨mn (ts y) t,mn (hs y) h⟩) {s:AS} (h:sE R ts hs s):f s:=by
 obtain⟨y,h1,h3,h4⟩:=h
 have:=h2 y h1 s.t s.h
 rwa [oX _ _ h3,oX _ _ h4] at this
theorem cut {A:dc} {c:Code} {f:AS->Prop} {K:Exit->AS->Prop} {s:AS} {α:Type} (R:α->Prop) (ts:α->List (Nat×AV)) (hs:α->List (Nat×AB))
  (h2:∀y,R y->∀t h,f ⟨mn (ts y) t,mn (hs y) h⟩) (h1:jr A c (fG (sE R ts hs) K) s):jr A c (fG f K) s:=
 sD c _ _ s (nh (fun _ h=>h.go h2) fun _ _ h=>h) h1
theorem zH {α:Type} {R:α->Prop} {ts:α->List (Nat×AV)} {hs:α->List (Nat×AB)} {K:Exit->AS->Prop} (h2:∀y,R y->∀t h,K .normal ⟨mn (ts y) t,mn (hs y) h⟩):∀e s,fG (sE R ts hs) K e s->K e s:=by
 intro e s h
 cases e <;> first | exact h | exact sE.go h2 h
theorem MS {A:dc} {c:Code} {id:Nat} {K:Exit->AS->Prop} {s:AS} {α:Type} (R:α->Prop) (ts:α->List (Nat×AV)) (hs:α->List (Nat×AB))
  (h2:∀y,R y->∀t h,K .normal ⟨mn (ts y) t,mn (hs y) h⟩) (h1:jr A c (ml id (fG (sE R ts hs) K)) s):jr A c (ml id K) s:=
 sD c _ _ s (sC (zH h2)) h1
end Go.AM
namespace Go.AM
open Go.RowKit
theorem zI {Q:KK->Prop} (k:KK) (h:Q k):Q k:=h
structure AF (F:AS->Prop) (t:Nat->AV) (h:Nat->AB):Prop where
 out:F ⟨t,h⟩
structure QO (C:Ctx) (o:Oper) (t:Nat->AV) (h:Nat->AB) (k:KK):Prop where
 out:bY C o (ev t) h k
structure ST (F:AS->Prop) (t:Nat->AV) (d:Option Tmp) (v:AV) (h:Nat->AB) (e:List (Nat×AB)):Prop where
 out:F ⟨en t d v,app h e⟩
structure SN (F:AS->Prop) (t:Nat->AV) (d:Option Tmp) (v:AV) (h:Nat->AB) (e:List (Nat×AB)) (dd:Nat) (b:AB):Prop where
 out:F ⟨en t d v,bI (app h e) dd b⟩
structure KQ (F:AS->Prop) (d:Option Tmp) (t:Nat->AV) (h:Nat->AB) (v:AV) (e:List (Nat×AB)) (n:Option AB):Prop where
 out:match n with
  | none=>F ⟨en t d v,app h e⟩
  | some _=>False
structure KN (F:AS->Prop) (d:Option Tmp) (dd:Nat) (t:Nat->AV) (h:Nat->AB) (v:AV) (e:List (Nat×AB)) (n:Option AB):Prop where
 out:F ⟨en t d v,match n with
  | none=>bI (app h e) dd .none
  | some b=>app (bI h dd b) e⟩
structure KD (C:Ctx) (ap:Bool) (X:List Nat) (f:Bool) (o:Oper) (F:AS->Prop) (t:Nat->AV) (h:Nat->AB) (v:AV) (e:List (Nat×AB)) (n:Option AB):Prop where
 out:match mh o.op n o.dst with
   | false=>False
   | true=>match Nat.beq (cls C ap o.op) 3 with
    | true=>match fF h e && (ap || gQ h e) && EN X f h e with
     | true=>F ⟨en t o.dst v,oM (app h e) (o.dst.getD 0) n⟩
     | false=>False
    | false=>match e with
     | []=>F ⟨en t o.dst v,oM h (o.dst.getD 0) n⟩
     | _=>False
theorem au {F:AS->Prop} {t:Nat->AV} {h:Nat->AB} (q:F ⟨t,h⟩):AF F t h:=⟨q⟩
section
variable {C:Ctx} {o:Oper} {t:Nat->AV} {h:Nat->AB} {k0:KK}
theorem az {v:AV} {e:List (Nat×AB)} {n:Option AB} (hq:∀k:KK,k v e n->bY C o (ev t) h k) (q:k0 v e n):QO C o t h k0:=⟨hq _ q⟩
theorem bb {P:Prop} {R:KK->Prop} (hq:∀k:KK,(P/\R k)->bY C o (ev t) h k) (q:P/\R k0):QO C o t h k0:=⟨hq _ q⟩
theorem NM {R R':KK->Prop} (hq:∀k:KK,(R k\/R' k)->bY C o (ev t) h k) (q:R k0\/R' k0):QO C o t h k0:=⟨hq _ q⟩
theorem aL {α:Type} {R:α->KK->Prop} (hq:∀k:KK,(∃r,R r k)->bY C o (ev t) h k) (q:∃r,R r k0):QO C o t h k0:=⟨hq _ q⟩
end
section
variable {F:AS->Prop} {t:Nat->AV} {h:Nat->AB} {d:Tmp}
theorem aU {v:AV} (q:AF F t h):ST F t none v h []:=⟨q.out⟩
theorem ae {x:PV} (q:AF F (bI t d (.p x)) h):ST F t (some d) (.p x) h []:=⟨q.out⟩
theorem vM (q:AF F (bI t d .nl) h):ST F t (some d) .nl h []:=⟨q.out⟩
theorem aG {i:Nat} (q:AF F (bI t d (.ow i)) h):ST F t (some d) (.ow i) h []:=⟨q.out⟩
theorem eF {i j k:Nat} (q:AF F (bI t d (.rp i j k)) h):ST F t (some d) (.rp i j k) h []:=⟨q.out⟩
theorem ai {i j:Nat} (q:AF F (bI t d (.bx i j)) h):ST F t (some d) (.bx i j) h []:=⟨q.out⟩
theorem zJ {i j k:Nat} (q:AF F (bI t d (.vw i j k)) h):ST F t (some d) (.vw i j k) h []:=⟨q.out⟩
theorem sF {f:FuncId} {c:List AV} (q:AF F (bI t d (.fn f c)) h):ST F t (some d) (.fn f c) h []:=⟨q.out⟩
theorem bU {xs:List AV} (q:AF F (bI t d (.tu xs)) h):ST F t (some d) (.tu xs) h []:=⟨q.out⟩
theorem aM {i:Nat} {b:AB} {r:List (Nat×AB)} {v:AV} {d:Option Tmp} (q:ST F t d v (bI h i b) r):ST F t d v h ((i,b)::r):=⟨q.out⟩
theorem A0 {i dd:Nat} {b b':AB} {r:List (Nat×AB)} {v:AV} {d:Option Tmp} (q:SN F t d v (bI h i b) r dd b'):SN F t d v h ((i,b)::r) dd b':=⟨q.out⟩
theorem A1 {dd:Nat} {b:AB} {v:AV} {d:Option Tmp} (q:ST F t d v (bI h dd b) []):SN F t d v h [] dd b:=⟨q.out⟩
theorem aX {v:AV} {e:List (Nat×AB)} {d:Option Tmp} (q:ST F t d v h e):KQ F d t h v e none:=⟨q.out⟩
theorem br {v:AV} {e:List (Nat×AB)} {d:Option Tmp} {dd:Nat} (h0:h dd=.none) (h1:oD dd e=true) (q:ST F t d v h e):KN F d dd t h v e none:=⟨by
 have:bI (app h e) dd .none=app h e:=eR _ _ _ ((jk (h:=h) h1).trans h0)
 show F ⟨en t d v,bI (app h e) dd .none⟩
 rw[this]
 exact q.out⟩
theorem aR {v:AV} {e:List (Nat×AB)} {d:Option Tmp} {dd:Nat} {b:AB} (q:ST F t d v (bI h dd b) e):KN F d dd t h v e (some b):=⟨q.out⟩
variable {C:Ctx} {ap f:Bool} {X:List Nat} {o:Oper}
theorem bM {v:AV} (q:ST F t o.dst v h []):KD C ap X f o F t h v [] none:=⟨by
 simp only[mh,fF,gQ,vv,Bool.or_true,Bool.and_true]
 split <;> exact q.out⟩
theorem vN {v:AV} {b:AB} {d:Tmp} (hd:o.dst=some d) (hm:gP o.op=true) (q:ST F t (some d) v (bI h d b) []):KD C ap X f o F t h v [] (some b):=⟨by
 simp only[mh,hd,hm,fF,gQ,vv,Bool.or_true,Bool.and_true]
 split <;> exact q.out⟩
theorem tV {v:AV} {e:List (Nat×AB)} (hc:(Nat.beq (cls C ap o.op) 3 && (fF h e && (ap || gQ h e) && EN X f h e))=true) (q:ST F t o.dst v h e):KD C ap X f o F t h v e none:=⟨by
 simp only[Bool.and_eq_true] at hc
 obtain⟨h1,⟨h2,h3⟩,h4⟩:=hc
 simp only[mh,h1,h2,h3,h4,Bool.and_true]
 exact q.out⟩
theorem A2 {v:AV} {e:List (Nat×AB)} {b:AB} {d:Tmp} (hd:o.dst=some d) (hm:gP o.op=true) (hc:(Nat.beq (cls C ap o.op) 3 && (fF h e && (ap || gQ h e) && EN X f h e))=true) (q:SN F t (some d) v h e d b):KD C ap X f o F t h v e (some b):=⟨by
 simp only[Bool.and_eq_true] at hc
 obtain⟨h1,⟨h2,h3⟩,h4⟩:=hc
 simp only[mh,hd,hm,h1,h2,h3,h4,Bool.and_true]
 exact q.out⟩
end
def DV (d:Nat) (t:Nat->AV) (j:Nat):AV:=sc d (t j)
def DW (d:Nat) (h:Nat->AB):Nat->AB:=bI (fun k=>uO d (h k)) d .none
def MT (i d:Nat) (t:Nat->AV) (j:Nat):AV:=rn i d (t j)
def MU (i d:Nat) (h:Nat->AB) (j:Nat):AB:=match cK j d with
 | true=>Dj i d (h i)
 | false=>match cK j i with
  | true=>.none
  | false=>Dj i d (h j)
def xv (o:Oper):Bool:=match o.op with
 | .assign _=>false
 | _=>true
def mq (o:Oper):Bool:=!gP o.op && xv o
def k_:AB->Bool
 | .row _ _=>true
 | .a7 _ _=>true
 | _=>false
section
variable {C:Ctx} {o:Oper} {F:AS->Prop} {t:Nat->AV} {h:Nat->AB} {d:Tmp}
theorem aN (hn:oR C o t=false) (hm:mq o=true) (q:QO C o t h (KQ F o.dst t h)):AF (step C o F) t h:=⟨by
 simp only[mq,Bool.and_eq_true,Bool.not_eq_true'] at hm
 obtain⟨h1,h2⟩:=hm
 unfold step
 simp only[hn]
 unfold nM
 rw[h1]
 simp only
 have key:bY C o (ev t) h (fun v eff new=>match new with
   | none=>F ⟨en t o.dst v,app h eff⟩
   | some _=>False):=kv (fun v e n hk=>hk.out) q.out
 split
 ·rename_i x d' aZ _
  rw[xv,aZ] at h2
  cases h2
 exact key⟩
theorem cx (hn:oR C o t=false) (hd:o.dst=some d) (hm:gP o.op=true) (q:QO C o (DV d t) (DW d h) (KN F (some d) d (DV d t) (DW d h))):AF (step C o F) t h:=⟨by
 unfold step
 simp only[hn]
 unfold nM
 rw[hm]
 simp only[hd]
 exact kv (fun v e n hk=>by cases n <;> exact hk.out) q.out⟩
theorem sG {x:Operand} {v:AV} (ho:o.op=.assign x) (hd:o.dst=some d) (hv:ev t x=v) (hn:∀i,v=.ow i->k_ (h i)=false) (q:ST F t (some d) v h []):AF (step C o F) t h:=⟨by
 unfold step
 simp only[oR,ho]
 unfold nM
 rw[ho]
 simp only[gP,hd]
 rw[hv]
 split
 ·rename_i i
  have:=hn i rfl
  split
  ·rename_i e es he
   rw[he] at this
   cases this
  ·rename_i e es he
   rw[he] at this
   cases this
  exact q.out
 exact q.out⟩
theorem DX {h:Nat->AB} {v:AV} (hv:(match v with | .ow _=>false | _=>true)=true):∀i,v=.ow i->k_ (h i)=false:=fun i e=>by subst e;cases hv
theorem A3 {h:Nat->AB} {i:Nat} (hh:k_ (h i)=false):∀j,AV.ow i=.ow j->k_ (h j)=false:=fun j e=>by injection e with e;subst e;exact hh
theorem cO {x:Operand} {i:Nat} (ho:o.op=.assign x) (hd:o.dst=some d) (hv:ev t x=.ow i) (hh:k_ (h i)=true) (dh:cK i d=false) (q:AF F (bI (MT i d t) d (.ow d)) (MU i d h)):AF (step C o F) t h:=⟨by
 unfold step
 simp only[oR,ho]
 unfold nM
 rw[ho]
 simp only[gP,hd]
 rw[hv]
 cases hb:h i <;> rw[hb] at hh <;> first | (cases hh;done) | (simp only[hb,dh];exact q.out)⟩
theorem H3 (hn:oR C o t=true) (hd:o.dst=some d) (q:AF F (bI t d (.p (.im (.bool true)))) h/\AF F (bI t d (.p (.im (.bool false)))) h):AF (step C o F) t h:=⟨by
 unfold step
 simp only[hn,hd]
 exact⟨q.1.out,q.2.out⟩⟩
variable {ap f:Bool} {X:List Nat}
theorem bA (hf:jZ C ap X f o (ev t)=true) (q:QO C o t h (KD C ap X f o F t h)):AF (iE C ap X f o F) t h:=⟨by
 unfold iE
 rw[hf]
 exact kv (fun v e n hk=>hk.out) q.out⟩
end
section
variable {C:Ctx} {o og:Oper} {K:AS->Prop} {t:Nat->AV} {h:Nat->AB} {tg d:Tmp} {all r:List Oper} {g:Nat} {want b:Bool} {ap f:Bool} {X:List Nat} {fl:List Bool}
theorem dB (q:AF K t h):AF (cL C all [] K) t h:=⟨q.out⟩
theorem dx (hg:o.guard=none) (q:AF (step C o (cL C all r K)) t h):AF (cL C all (o::r) K) t h:=⟨by
 unfold cL;rw[hg];exact q.out⟩
def EP (run:Bool) (o:Oper) (F G:AS->Prop) (s:AS):Prop:=match run with
 | true=>F s
 | false=>G ⟨en s.t o.dst jY,s.h⟩
theorem aV {F G:AS->Prop} (q:AF F t h):AF (EP true o F G) t h:=⟨q.out⟩
theorem aT {F G:AS->Prop} (q:ST G t o.dst jY h []):AF (EP false o F G) t h:=⟨q.out⟩
theorem MV (hg:o.guard=some (g,want)) (ho:all[g]?=some og) (hd:og.dst=some tg) (hb:t tg=.p (.im (.bool b))) (q:fc b (AF (EP want o (step C o (cL C all r K)) (cL C all r K)) (bI t tg (ep true)) h) (AF (EP (!want) o (step C o (cL C all r K)) (cL C all r K)) (bI t tg (ep false)) h)):AF (cL C all (o::r) K) t h:=⟨by
 unfold cL
 rw[hg]
 simp only[ho,hd,hb]
 cases b <;> cases want <;> simp only[fc,Bool.not_true,Bool.not_false] at q ⊢ <;> exact q.out⟩
theorem GN (hg:o.guard=some (g,want)) (ho:all[g]?=some og) (hd:og.dst=some tg) (hb:t tg=.p (.im (.bool want))) (q:AF (step C o (cL C all r K)) t h):AF (cL C all (o::r) K) t h:=⟨by
 unfold cL
 rw[hg]
 simp only[ho,hd,hb]
 have e:bI t tg (ep want)=t:=eR _ _ _ hb
 cases want <;> (simp only[fc];rw[e];exact q.out)⟩
theorem Kj (hg:o.guard=some (g,want)) (ho:all[g]?=some og) (hd:og.dst=some tg) (hb:t tg=.p (.im (.bool (!want)))) (q:ST (cL C all r K) t o.dst jY h []):AF (cL C all (o::r) K) t h:=⟨by
 unfold cL
 rw[hg]
 simp only[ho,hd,hb]
 have e:bI t tg (ep !want)=t:=eR _ _ _ hb
 cases want <;> (simp only[Bool.not_true,Bool.not_false] at e ⊢;simp only[fc];rw[e];exact q.out)⟩
theorem aj {xs:Array Value} (hg:o.guard=some (g,want)) (ho:all[g]?=some og) (hd:og.dst=some tg) (hb:t tg=.p (.im (.tuple xs))) (q:ST (cL C all r K) t o.dst jY h []):AF (cL C all (o::r) K) t h:=⟨by
 unfold cL
 rw[hg]
 simp only[ho,hd,hb]
 exact q.out⟩
theorem bR (q:AF K t h):AF (dE C ap X all fl [] K) t h:=⟨by cases fl <;> exact q.out⟩
theorem H4 (hg:o.guard=none) (q:AF (iE C ap X f o (dE C ap X all fl r K)) t h):AF (dE C ap X all (f::fl) (o::r) K) t h:=⟨by
 unfold dE;rw[hg];exact q.out⟩
theorem MW (hg:o.guard=some (g,want)) (ho:all[g]?=some og) (hd:og.dst=some tg) (hb:t tg=.p (.im (.bool b))) (q:fc b (AF (EP want o (iE C ap X f o (dE C ap X all fl r K)) (dE C ap X all fl r K)) (bI t tg (ep true)) h) (AF (EP (!want) o (iE C ap X f o (dE C ap X all fl r K)) (dE C ap X all fl r K)) (bI t tg (ep false)) h)):AF (dE C ap X all (f::fl) (o::r) K) t h:=⟨by
 unfold dE
 rw[hg]
 simp only[ho,hd,hb]
 cases b <;> cases want <;> simp only[fc,Bool.not_true,Bool.not_false] at q ⊢ <;> exact q.out⟩
theorem GO (hg:o.guard=some (g,want)) (ho:all[g]?=some og) (hd:og.dst=some tg) (hb:t tg=.p (.im (.bool want))) (q:AF (iE C ap X f o (dE C ap X all fl r K)) t h):AF (dE C ap X all (f::fl) (o::r) K) t h:=⟨by
 unfold dE
 rw[hg]
 simp only[ho,hd,hb]
 have e:bI t tg (ep want)=t:=eR _ _ _ hb
 cases want <;> (simp only[fc];rw[e];exact q.out)⟩
theorem Kk (hg:o.guard=some (g,want)) (ho:all[g]?=some og) (hd:og.dst=some tg) (hb:t tg=.p (.im (.bool (!want)))) (q:ST (dE C ap X all fl r K) t o.dst jY h []):AF (dE C ap X all (f::fl) (o::r) K) t h:=⟨by
 unfold dE
 rw[hg]
 simp only[ho,hd,hb]
 have e:bI t tg (ep !want)=t:=eR _ _ _ hb
 cases want <;> (simp only[Bool.not_true,Bool.not_false] at e ⊢;simp only[fc];rw[e];exact q.out)⟩
theorem zP {x:PV} (hn:oR C o t=false) (hg:o.guard=none) (hm:mq o=true) (hd:o.dst=some d) (hq:∀k:KK,k (.p x) [] none->bY C o (ev t) h k) (q:AF (cL C all r K) (bI t d (.p x)) h):AF (cL C all (o::r) K) t h:=
 dx hg (aN hn hm (az hq (aX (by rw[hd];exact ae q))))
theorem zV {v:AV} (hn:oR C o t=false) (hg:o.guard=none) (hm:mq o=true) (hd:o.dst=some d) (hq:∀k:KK,k v [] none->bY C o (ev t) h k) (q:AF (cL C all r K) (bI t d v) h):AF (cL C all (o::r) K) t h:=
 dx hg (aN hn hm (az hq (aX (by rw[hd];exact⟨q.out⟩))))
theorem zD {x:PV} (hg:o.guard=none) (hf:jZ C ap X f o (ev t)=true) (hd:o.dst=some d) (hq:∀k:KK,k (.p x) [] none->bY C o (ev t) h k) (q:AF (dE C ap X all fl r K) (bI t d (.p x)) h):AF (dE C ap X all (f::fl) (o::r) K) t h:=
 H4 hg (bA hf (az hq (bM (by rw[hd];exact ae q))))
theorem zW {v:AV} (hg:o.guard=none) (hf:jZ C ap X f o (ev t)=true) (hd:o.dst=some d) (hq:∀k:KK,k v [] none->bY C o (ev t) h k) (q:AF (dE C ap X all fl r K) (bI t d v) h):AF (dE C ap X all (f::fl) (o::r) K) t h:=
 H4 hg (bA hf (az hq (bM (by rw[hd];exact⟨q.out⟩))))
end
def zK (l:List Oper) (G:AS->Prop) (s:AS):Prop:=G (oW l s)
def oZ (l:List Oper) (G:AS->Prop) (s:AS):Prop:=G (qz l s)
section
variable {G:AS->Prop} {o:Oper} {r l:List Oper} {t:Nat->AV} {h:Nat->AB} {d i:Nat}
theorem MX (q:AF G t h):AF (zK [] G) t h:=⟨q.out⟩
theorem eG (hm:gP o.op=true) (hd:o.dst.getD 0=d) (q:AF (zK r G) (DV d t) (DW d h)):AF (zK (o::r) G) t h:=⟨by
 show G (oW (o::r) _)
 unfold oW
 rw[hm,hd]
 exact q.out⟩
theorem aK (hm:gP o.op=false) (q:AF (zK r G) t h):AF (zK (o::r) G) t h:=⟨by
 show G (oW (o::r) _)
 unfold oW
 rw[hm]
 exact q.out⟩
theorem cE (hm:(l.all fun o=>!gP o.op)=true) (q:AF G t h):AF (zK l G) t h:=by
 induction l with
 | nil=>exact MX q
 | cons o l ih=>
  simp only[List.all_cons,Bool.and_eq_true,Bool.not_eq_true'] at hm
  exact aK hm.1 (ih (by simpa using hm.2))
theorem MY (q:AF G t h):AF (oZ [] G) t h:=⟨q.out⟩
theorem ao (hm:xv o=true) (q:AF (oZ r G) t h):AF (oZ (o::r) G) t h:=⟨by
 show G (qz r (iL o _))
 have:∀s,iL o s=s:=fun s=>by
  unfold iL
  split
  ·rename_i aZ _
   rw[xv,aZ] at hm
   cases hm
  rfl
 rw[this]
 exact q.out⟩
theorem bS (hm:l.all xv=true) (q:AF G t h):AF (oZ l G) t h:=by
 induction l with
 | nil=>exact MY q
 | cons o l ih=>
  simp only[List.all_cons,Bool.and_eq_true] at hm
  exact ao hm.1 (ih hm.2)
def DY (t:Nat->AV) (h:Nat->AB) (d:Nat):Bool:=match t d with
 | .ow i=>k_ (h i)
 | _=>false
theorem dH (hd:o.dst=some d) (hm:DY t h d=false) (q:AF (oZ r G) t h):AF (oZ (o::r) G) t h:=⟨by
 show G (qz r (iL o _))
 have:iL o ⟨t,h⟩=⟨t,h⟩:=by
  unfold iL
  split
  ·rename_i d' _ q9
   rw[hd] at q9
   injection q9 with q9
   subst q9
   simp only
   split
   ·rename_i i hi
    split
    ·rename_i e es he
     rw[DY,hi] at hm
     simp only[he,k_] at hm
     cases hm
    ·rename_i e es he
     rw[DY,hi] at hm
     simp only[he,k_] at hm
     cases hm
    rfl
   rfl
  rfl
 rw[this]
 exact q.out⟩
theorem FJ {x:Operand} (ho:o.op=.assign x) (hd:o.dst=some d) (ht:t d=.ow i) (hh:k_ (h i)=true) (dh:cK i d=false) (q:AF (oZ r G) (MT i d t) (MU i d h)):AF (oZ (o::r) G) t h:=⟨by
 show G (qz r (iL o _))
 have:iL o ⟨t,h⟩=⟨MT i d t,MU i d h⟩:=by
  unfold iL
  rw[ho,hd]
  simp only[ht]
  cases hb:h i <;> rw[hb] at hh <;> first | (cases hh;done) | (simp only[hb,dh];rfl)
 rw[this]
 exact q.out⟩
end
section
variable {A:dc} {K:Exit->AS->Prop} {a b c:Code} {t:Nat->AV} {h:Nat->AB} {id i:Nat} {l:List Oper} {f:AS->Prop}
theorem an (q:AF (jr A a (fG (jr A b K) K)) t h):AF (jr A (.seq a b) K) t h:=⟨sD a _ _ _ (nh (fun s h=>⟨s,bg.refl _ _,h⟩) (fun _ _ h=>h)) q.out⟩
theorem Kl (q:AF (jr A a (fG (fun s'=>∃kK,bg A s' kK/\jr A b K kK) K)) t h):AF (jr A (.seq a b) K) t h:=⟨q.out⟩
theorem OD (d:Nat) {y:PV} {fz:List (Nat×AB)} (hC:ct A.C) (h0:AM.gK h (t d) fun y' jM=>y'=y/\jM=fz) (q:AF (jr A b K) (bI t d (.p y)) (app h fz)):∃kK,bg A ⟨t,h⟩ kK/\jr A b K kK:=⟨_,bg.gK hC ⟨t,h⟩ d h0,q.out⟩
theorem ar (q:AF (K .normal) t h):AF (jr A .skip K) t h:=⟨q.out⟩
theorem aO (q:AF (jr A c (ml id K)) t h):AF (jr A (.block id c) K) t h:=⟨q.out⟩
theorem bF (q:AF (K (.exit id)) t h):AF (jr A (.exit id) K) t h:=⟨q.out⟩
theorem aA (q:AF (K .ret) t h):AF (jr A .ret K) t h:=⟨q.out⟩
theorem aP (q:AF (cL A.C l l (K .normal)) t h):AF (jr A (.region id ⟨l⟩ false) K) t h:=⟨q.out⟩
theorem Z {α:Sort _} {a:α}:a=a:=rfl
theorem Y:True:=trivial
theorem sI {A B P:Prop} (q:P) (a:A:=by omega) (b:B:=by omega):(A/\B)/\P:=⟨⟨a,b⟩,q⟩
def Lo:List Bool:=[true,true,true,true,true,true]
def I_:List Bool:=[true,true,true,true,true,true,true]
def Km:List Bool:=[true,true,true,true,true,true,true,true]
def Ja:List Bool:=[true,true,true,true,true,true,true,true,true]
def Kn:List Bool:=[true,true,true,true,true,true,true,true,true,true]
def DZ:List Bool:=[true,true,true,true,true,true,true,true,true,true,true]
def Ko:List Bool:=[true,true,true,true,true,true,true,true,true,true,true,true]
def Ce:List Bool:=[true,true,true,true,true,true,true,true,true,true,true,true,true]
def lX:List Bool:=[true,true,true,true,true,true,true,true,true,true,true,true,true,true]
def FK:List Bool:=[true,true,true,true,true,true,true,true,true,true,true,true,true,true,true]
def Kp:List Bool:=[true,true,true,true,true,true,true,true,true,true,true,true,true,true,true,true]
def MZ:List Bool:=[true,true,true,true,true,true,true,true,true,true,true,true,true,true,true,true,true,true,true]
def H5:List Bool:=[true,true,true,true,true,true,true,true,true,true,true,true,true,true,true,true,true,true,true,true]
def M0:List Bool:=[true,true,true,true,true,true,true,true,true,true,true,true,true,true,true,true,true,true,true,true,true,true]
def M1:List Bool:=[true,true,true,true,true,true,true,true,true,true,true,true,true,true,true,true,true,true,true,true,true,true,true,true]
def M3:List Bool:=[true,true,true,true,true,true,true,true,true,true,true,true,true,true,true,true,true,true,true,true,true,true,true,true,true,true,true,true,true,true,true,true,true]
theorem cF (X:List Nat) (ap:Bool) (fl:List Bool) (GD:(l.any fun o=>hZ A.C o.op)=ap) (Lp:gR A.C ap ⟨l⟩=fl) (q:AF (zK l (dE A.C ap X l fl l (oZ l (K .normal)))) t h):AF (jr A (.region id ⟨l⟩ true) K) t h:=⟨by
 subst GD;subst Lp;exact⟨X,q.out⟩⟩
theorem ak {x y:Code} {c:Operand} {b:Bool} (hb:ev t c=.p (.im (.bool b))) (q:fc b (AF (jr A x K) t h) (AF (jr A y K) t h)):AF (jr A (.cond c x y) K) t h:=⟨by
 unfold jr
 rw[hb]
 exact jt (fun q=>q.out) (fun q=>q.out) q⟩
theorem ah (q:AF f t h):AF (fG f K .normal) t h:=⟨q.out⟩
theorem aQ (q:AF (K (.exit i)) t h):AF (fG f K (.exit i)) t h:=⟨q.out⟩
theorem af (q:AF (K .ret) t h):AF (fG f K .ret) t h:=⟨q.out⟩
theorem aS (q:AF (K .normal) t h):AF (ml id K .normal) t h:=⟨q.out⟩
theorem aq (q:AF (K .ret) t h):AF (ml id K .ret) t h:=⟨q.out⟩
theorem bG (q:AF (K .normal) t h):AF (ml id K (.exit id)) t h:=⟨by
 show fc (cK id id) _ _
 rw[bH.2 rfl]
 exact q.out⟩
theorem cu {p q:Prop} (h:p):fc true p q:=h
theorem bz {p q:Prop} (h:q):fc false p q:=h
theorem aB {C:Ctx} {rs:List ResultVar} {args:List Arg} {r:AR} {fin:List Fin} {P Q:Prop} (hq:(P/\Q)->Dr C rs args r fin ⟨t,h⟩) (q:P/\Q):AF (Ds C rs args r fin .ret) t h:=⟨hq q⟩
theorem zi {P:Prop} (h:P):P:=h
theorem zA {P Q G:Prop} (hq:(P/\Q)->G) (q:P/\Q):G:=hq q
theorem zX {α:Type} {R:α->Prop} {G:Prop} (hq:(∃r,R r)->G) (q:∃r,R r):G:=hq q
theorem aC {α:Type} (R:α->Prop) (ts:α->List (Nat×AV)) (hs:α->List (Nat×AB)) (m:α->Nat) (x0:α) (s0:AS) (h0:bg A ⟨t,h⟩ s0) (hR:R x0) (ht:lW (ts x0) s0.t) (hh:lW (hs x0) s0.h)
  (round:∀x,R x->∀t h,AF (jr A c (fG (fun s'=>∃y kK,bg A s' kK/\R y/\m y < m x/\lW (ts y) kK.t/\lW (hs y) kK.h) K)) (mn (ts x) t) (mn (hs x) h)):AF (jr A (.loop c) K) t h:=
 ⟨Fz R ts hs m x0 s0 h0 hR ht hh fun x hx t h=>(round x hx t h).out⟩
theorem sH {α:Type} (R:α->Prop) (ts:α->List (Nat×AV)) (hs:α->List (Nat×AB))
  (h2:∀y,R y->∀t h,AF (K .normal) (mn (ts y) t) (mn (hs y) h)) (h1:AF (jr A c (ml id (fG (sE R ts hs) K))) t h):AF (jr A c (ml id K)) t h:=⟨MS R ts hs (fun y hy t h=>(h2 y hy t h).out) h1.out⟩
end
set_option linter.unusedVariables false in
theorem aE {C : Ctx} (hC : ct C) {f : FuncId} {fn : Func} {c : Code} (hf : C.P.funcs[f]? = some fn) (hb : fn.body = some c) (lM : (fn.name == "runtime.NumGoroutine") = false) {args : List Arg} {r : AR} {fin : List Fin} (n : Nat) (hn : args.length + (fn.ntmps - args.length) = n) (wS : n ≤ 100000) (hok : iM C n c = true)
  (h:∀(w0:World) (mv s0:Nat->Prop) (n:Nat) (pin:Nat->Value),AF (jr ⟨C,w0,mv,s0,n,pin⟩ c (Ds C fn.results.toList args r fin)) (uR args) (mg args)):aw C f args r fin:=
 FA hC hf hb lM n hn wS hok fun A hA=>by
  obtain⟨_,_,_,_,_,_⟩:=A
  subst hA
  exact (h _ _ _ _ _).out
end Go.AM
namespace Go.AM
open Go.RowKit
section
variable {C:Ctx} {o og:Oper} {F K:AS->Prop} {t:Nat->AV} {h:Nat->AB} {tg d:Tmp} {all r l:List Oper} {g id:Nat} {want b:Bool} {ap f:Bool} {X:List Nat} {fl:List Bool}
theorem yP {x:PV} (e:(oR C o t,o.guard,mq o,o.dst,bY C o (ev t) h)=(false,none,true,some d,fun k=>k (.p x) [] none)) (q:AF (cL C all r K) (bI t d (.p x)) h):AF (cL C all (o::r) K) t h:=by
 simp only[Prod.mk.injEq] at e
 obtain⟨e1,e2,e3,e4,e5⟩:=e
 exact zP e1 e2 e3 e4 (fun k hk=>by rw[e5];exact hk) q
theorem yV {v:AV} (e:(oR C o t,o.guard,mq o,o.dst,bY C o (ev t) h)=(false,none,true,some d,fun k=>k v [] none)) (q:AF (cL C all r K) (bI t d v) h):AF (cL C all (o::r) K) t h:=by
 simp only[Prod.mk.injEq] at e
 obtain⟨e1,e2,e3,e4,e5⟩:=e
 exact zV e1 e2 e3 e4 (fun k hk=>by rw[e5];exact hk) q
theorem yD {x:PV} (e:(o.guard,jZ C ap X f o (ev t),o.dst,bY C o (ev t) h)=(none,true,some d,fun k=>k (.p x) [] none)) (q:AF (dE C ap X all fl r K) (bI t d (.p x)) h):AF (dE C ap X all (f::fl) (o::r) K) t h:=by
 simp only[Prod.mk.injEq] at e
 obtain⟨e1,e2,e3,e4⟩:=e
 exact zD e1 e2 e3 (fun k hk=>by rw[e4];exact hk) q
theorem yW {v:AV} (e:(o.guard,jZ C ap X f o (ev t),o.dst,bY C o (ev t) h)=(none,true,some d,fun k=>k v [] none)) (q:AF (dE C ap X all fl r K) (bI t d v) h):AF (dE C ap X all (f::fl) (o::r) K) t h:=by
 simp only[Prod.mk.injEq] at e
 obtain⟨e1,e2,e3,e4⟩:=e
 exact zW e1 e2 e3 (fun k hk=>by rw[e4];exact hk) q
theorem yA {x:Operand} {y:PV} (e:(o.guard,o.op,o.dst,ev t x)=(none,.assign x,some d,.p y)) (q:AF (cL C all r K) (bI t d (.p y)) h):AF (cL C all (o::r) K) t h:=by
 simp only[Prod.mk.injEq] at e
 obtain⟨e1,e2,e3,e4⟩:=e
 exact dx e1 (sG e2 e3 e4 (DX rfl) (ae q))
theorem yB {x:Operand} (e:(o.guard,o.op,o.dst,ev t x)=(none,.assign x,some d,.nl)) (q:AF (cL C all r K) (bI t d .nl) h):AF (cL C all (o::r) K) t h:=by
 simp only[Prod.mk.injEq] at e
 obtain⟨e1,e2,e3,e4⟩:=e
 exact dx e1 (sG e2 e3 e4 (DX rfl) (vM q))
theorem y1 {x:PV} (e:(o.guard,all[g]?,og.dst,t tg,oR C o t,mq o,o.dst,bY C o (ev t) h)=(some (g,want),some og,some tg,.p (.im (.bool want)),false,true,some d,fun k=>k (.p x) [] none)) (q:AF (cL C all r K) (bI t d (.p x)) h):AF (cL C all (o::r) K) t h:=by
 simp only[Prod.mk.injEq] at e
 obtain⟨e1,e2,e3,e4,e5,e6,e7,e8⟩:=e
 exact GN e1 e2 e3 e4 (aN e5 e6 (az (v:=.p x) (e:=[]) (n:=none) (fun k hk=>by rw[e8];exact hk) (aX (by rw[e7];exact ae q))))
theorem y2 (e:(o.guard,all[g]?,og.dst,t tg)=(some (g,want),some og,some tg,.p (.im (.bool want)))) (q:AF (step C o (cL C all r K)) t h):AF (cL C all (o::r) K) t h:=by
 simp only[Prod.mk.injEq] at e
 obtain⟨e1,e2,e3,e4⟩:=e
 exact GN e1 e2 e3 e4 q
theorem y0 (e:(o.guard,all[g]?,og.dst,t tg,o.dst)=(some (g,want),some og,some tg,.p (.im (.bool (!want))),some d)) (q:AF (cL C all r K) (bI t d jY) h):AF (cL C all (o::r) K) t h:=by
 simp only[Prod.mk.injEq] at e
 obtain⟨e1,e2,e3,e4,e5⟩:=e
 exact Kj e1 e2 e3 e4 (by rw[e5];exact ae q)
theorem yg (e:(o.guard,all[g]?,og.dst,t tg)=(some (g,want),some og,some tg,.p (.im (.bool b)))) (q:fc b (AF (EP want o (step C o (cL C all r K)) (cL C all r K)) (bI t tg (ep true)) h) (AF (EP (!want) o (step C o (cL C all r K)) (cL C all r K)) (bI t tg (ep false)) h)):AF (cL C all (o::r) K) t h:=by
 simp only[Prod.mk.injEq] at e
 obtain⟨e1,e2,e3,e4⟩:=e
 exact MV e1 e2 e3 e4 q
theorem yq (e:(o.guard,oR C o t,mq o)=(none,false,true)) (q:QO C o t h (KQ (cL C all r K) o.dst t h)):AF (cL C all (o::r) K) t h:=by
 simp only[Prod.mk.injEq] at e
 obtain⟨e1,e2,e3⟩:=e
 exact dx e1 (aN e2 e3 q)
theorem yn (e:(o.guard,oR C o t,o.dst,gP o.op)=(none,false,some d,true)) (q:QO C o (DV d t) (DW d h) (KN (cL C all r K) (some d) d (DV d t) (DW d h))):AF (cL C all (o::r) K) t h:=by
 simp only[Prod.mk.injEq] at e
 obtain⟨e1,e2,e3,e4⟩:=e
 exact dx e1 (cx e2 e3 e4 q)
theorem yk {x:PV} (q:AF F (bI t d (.p x)) h):KQ F (some d) t h (.p x) [] none:=aX (ae q)
theorem d1 {x:PV} (e:(o.guard,all[g]?,og.dst,t tg,jZ C ap X f o (ev t),o.dst,bY C o (ev t) h)=(some (g,want),some og,some tg,.p (.im (.bool want)),true,some d,fun k=>k (.p x) [] none)) (q:AF (dE C ap X all fl r K) (bI t d (.p x)) h):AF (dE C ap X all (f::fl) (o::r) K) t h:=by
 simp only[Prod.mk.injEq] at e
 obtain⟨e1,e2,e3,e4,e5,e6,e7⟩:=e
 exact GO e1 e2 e3 e4 (bA e5 (az (v:=.p x) (e:=[]) (n:=none) (fun k hk=>by rw[e7];exact hk) (bM (by rw[e6];exact ae q))))
theorem d2 (e:(o.guard,all[g]?,og.dst,t tg)=(some (g,want),some og,some tg,.p (.im (.bool want)))) (q:AF (iE C ap X f o (dE C ap X all fl r K)) t h):AF (dE C ap X all (f::fl) (o::r) K) t h:=by
 simp only[Prod.mk.injEq] at e
 obtain⟨e1,e2,e3,e4⟩:=e
 exact GO e1 e2 e3 e4 q
theorem d0 (e:(o.guard,all[g]?,og.dst,t tg,o.dst)=(some (g,want),some og,some tg,.p (.im (.bool (!want))),some d)) (q:AF (dE C ap X all fl r K) (bI t d jY) h):AF (dE C ap X all (f::fl) (o::r) K) t h:=by
 simp only[Prod.mk.injEq] at e
 obtain⟨e1,e2,e3,e4,e5⟩:=e
 exact Kk e1 e2 e3 e4 (by rw[e5];exact ae q)
theorem dg (e:(o.guard,all[g]?,og.dst,t tg)=(some (g,want),some og,some tg,.p (.im (.bool b)))) (q:fc b (AF (EP want o (iE C ap X f o (dE C ap X all fl r K)) (dE C ap X all fl r K)) (bI t tg (ep true)) h) (AF (EP (!want) o (iE C ap X f o (dE C ap X all fl r K)) (dE C ap X all fl r K)) (bI t tg (ep false)) h)):AF (dE C ap X all (f::fl) (o::r) K) t h:=by
 simp only[Prod.mk.injEq] at e
 obtain⟨e1,e2,e3,e4⟩:=e
 exact MW e1 e2 e3 e4 q
theorem dq (e:(o.guard,jZ C ap X f o (ev t))=(none,true)) (q:QO C o t h (KD C ap X f o (dE C ap X all fl r K) t h)):AF (dE C ap X all (f::fl) (o::r) K) t h:=by
 simp only[Prod.mk.injEq] at e
 exact H4 e.1 (bA e.2 q)
end
section
variable {A:dc} {K:Exit->AS->Prop} {a b c:Code} {t:Nat->AV} {h:Nat->AB} {id i:Nat} {l all:List Oper} {f:AS->Prop} {C:Ctx}
theorem yT (q:AF f t h):AF (cL C all [] (fG f K .normal)) t h:=dB (ah q)
theorem yS (q:AF (cL A.C l l (fG (jr A b K) K .normal)) t h):AF (jr A (.seq (.region id ⟨l⟩ false) b) K) t h:=an (aP q)
theorem yU (q:AF (cL A.C l l (fG (jr A b K) K .normal)) t h):AF (cL C all [] (fG (jr A (.seq (.region id ⟨l⟩ false) b) K) K .normal)) t h:=dB (ah (an (aP q)))
theorem yR {rs:List ResultVar} {args:List Arg} {r:AR} {fin:List Fin} {P Q:Prop} {C':Ctx} (hq:(P/\Q)->Dr C rs args r fin ⟨t,h⟩) (q:P/\Q):AF (cL C' all [] (fG (jr A .ret (Ds C rs args r fin)) K .normal)) t h:=dB (ah (aA (aB hq q)))
end
theorem zB:(∀(p:Prop) [Decidable p],(decide p=true)=p)/\(∀(p:Prop) [Decidable p],(decide p=false)=¬p)/\(∀(α:Type) [_root_.LE α] (a b:α),(a>=b)=(b<=a))/\(∀(α:Type) [_root_.LT α] (a b:α),(a > b)=(b < a))/\(∀b:Bool,((!b)=true)=(b=false))/\(∀b:Bool,((!b)=false)=(b=true)):=
 ⟨fun p _=>by simp,fun p _=>by simp,fun _ _ _ _=>rfl,fun _ _ _ _=>rfl,fun b=>by simp,fun b=>by simp⟩
end Go.AM
namespace Go.AM
open Go.RowKit
def rE (C : Ctx) (f : FuncId) : Prop := ∃ fn : Func, C.P.funcs[f]? = some fn ∧ (fn.name == "runtime.NumGoroutine") = false ∧ fn.body.isNone = false
theorem rF {S:Nat->Prop} {w:World} {P:Program} {as:List Value} {vs:Array Value} (hl:(as.map fun a=>Arg.pv (.im a)).length=vs.size) (hr:∀(j:Nat) x v,(as.map fun a=>Arg.pv (.im a))[j]?=some x->vs[j]?=some v->yF S w P x v):vs=as.toArray:=by
 apply Array.ext'
 apply List.ext_getElem?
 intro i
 by_cases hi:i < as.length
 ·have h1:(as.map fun a=>Arg.pv (.im a))[i]?=some (.pv (.im as[i])):=by rw[List.getElem?_map,List.getElem?_eq_getElem hi];rfl
  have E4:i < vs.size:=by rw[<-hl];simpa using hi
  have h2:=hr i _ vs[i] h1 (Array.getElem?_eq_getElem E4)
  have h3:vs[i]=as[i]:=by
   have:bu S w (.im as[i]) vs[i]:=h2
   generalize vs[i]=v at this
   cases this;rfl
  rw[Array.getElem?_toList,Array.getElem?_eq_getElem E4,h3]
  simp[hi]
 rw[List.getElem?_eq_none (by simpa [<-hl] using hi)]
 rw[List.getElem?_eq_none (by simpa using hi)]
theorem vO {S:Nat->Prop} {w:World} {P:Program}:∀l:List Value,fx S w P (l.map fun a=>Arg.pv (.im a)) [] l:=by
 intro l
 induction l with
 | nil=>trivial
 | cons a l ih=>exact ih
theorem o5 {w:World}:∀(l:List Value) (i g:Nat),¬du w (l.map fun a=>Arg.pv (.im a)) [] l i g:=by
 intro l
 induction l with
 | nil=>exact fun i g h=>h
 | cons a l ih=>
  intro i g h
  cases i with
  | zero=>exact h
  | succ i=>exact ih i g h
theorem xw {w w':World} (l:List Value):oE w w' (l.map fun a=>Arg.pv (.im a)) [] l.toArray:=⟨fun i g h=>(o5 l i g h).elim,fun i j g h=>(o5 l i g h).elim⟩
theorem pW {C:Ctx} {f:FuncId} (as:List Value) (r:Value) (hf:rE C f) (h:∀S w,C.E S w->(∀b,S b->b < w.heap.size)->Calls C.P f as.toArray w fun e w'=>e=.returned r/\Below w.heap.size w w'):
  aw C f (as.map fun a=>.pv (.im a)) (.p (.im r)) []:=by
 refine⟨hf,fun S w vs hE hS hl hr _=>?_⟩
 have CZ:=rF hl hr
 subst CZ
 exact (h S w hE hS).mono fun e w' ⟨he,hb⟩=>⟨r,S,he,⟨hb.os,hb.tape,hb.output,hb.size,fun k hk _=>hb.block k hk⟩,fun _ h=>h,fun b iI=>Nat.lt_of_lt_of_le (hS b iI) hb.size,fun b iI=>.inl iI,.im r,vO as,xw as,fun g h=>by cases h⟩
theorem xx {C:Ctx} (hC:ct C) {f:FuncId} (as:List Value) (e:TypeId) (xs:List Value) (ti:TI) (hT:C.T e=some ti) (hsz:ti.size=1) (gO:∀v∈xs,v.oneCell'=true) (hlen:xs.length<=maxLen) (hf:rE C f)
  (h:∀S w,C.E S w->(∀b,S b->b < w.heap.size)->Calls C.P f as.toArray w fun e' w'=>e'=.returned (.slice (some ⟨w.heap.size,0,none⟩) xs.length xs.length)/\w'=w.alloc (.cells xs.toArray e)):
  aw C f (as.map fun a=>.pv (.im a)) (.own e (xs.map fun v=>[.im v])) []:=by
 refine⟨hf,fun S w vs hE hS hl hr _=>?_⟩
 have CZ:=rF hl hr
 subst CZ
 obtain⟨info,z,h1,h2,_⟩:=hC.gw e ti hT
 refine (h S w hE hS).mono fun e' w' ⟨he,hw⟩=>?_
 subst hw
 have Df:(w.alloc (.cells xs.toArray e)).heap[w.heap.size]?=some (.cells xs.toArray e (0,0)):=by unfold World.alloc;exact Array.getElem?_push_size
 have OE:(w.alloc (.cells xs.toArray e)).heap.size=w.heap.size+1:=Array.size_push ..
 have hb:Below w.heap.size w (w.alloc (.cells xs.toArray e)):=(Below.refl _ _).alloc (Nat.le_refl _) _
 refine⟨_,S,he,⟨hb.os,hb.tape,hb.output,hb.size,fun k hk _=>hb.block k hk⟩,fun _ h=>h,fun b iI=>Nat.lt_of_lt_of_le (hS b iI) hb.size,fun b iI=>.inl iI,⟨⟨info,xs,h1,by omega,⟨?_,.inr ⟨w.heap.size,xs.length,xs.toArray,?_,Nat.zero_le _,Df,?_,hlen,?_,?_⟩⟩,?_,gO,?_⟩,?_⟩,vO as,xw as,?_⟩
 ·simp[h2,hsz]
 ·simp
 ·simp
 ·simp[h2,hsz]
 ·simp[h2,hsz]
 ·intro r hr
  obtain⟨v,_,rfl⟩:=List.mem_map.1 hr
  simp[h2,hsz]
 ·intro a r j x ha hj
  rw[List.getElem?_map] at ha
  obtain⟨v,hv,rfl⟩:=Option.map_eq_some_iff.1 ha
  cases j with
  | zero=>
   simp at hj
   subst hj
   exact⟨v,by rw[h2,hsz,Nat.mul_one,Nat.add_zero];exact hv,.im v⟩
  | succ j=>simp at hj
 ·intro g hg hs
  injection hg with hg
  have hg:w.heap.size=g:=hg
  have:=hS g hs
  omega
 intro g _ hg
 have hg:=aY rfl hg
 injection hg with hg
 have hg:w.heap.size=g:=hg
 exact⟨by omega,.inl (by omega),fun i=>o5 as i g⟩
end Go.AM
