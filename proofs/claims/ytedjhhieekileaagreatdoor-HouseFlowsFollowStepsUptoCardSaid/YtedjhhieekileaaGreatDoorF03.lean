/- Part 3 of the proof of HouseFlowsFollowSteps. -/
import Derived.Test.YtedjhhieekileaaGreatDoorF02
import Derived.WideKeyRuns
set_option linter.unusedVariables false
set_option linter.unusedSimpArgs false
set_option maxRecDepth 100000
set_option maxHeartbeats 8000000
namespace Go
abbrev kf:=@Bool.false_or
abbrev dA:=@List.mem_range
abbrev vz:=@Bool.not_true
abbrev q9:=@List.any_eq_true
abbrev vA:=@List.map_congr_left
abbrev vB:=@Bool.or_false
abbrev l_:=@List.mem_append_left
abbrev ma:=@List.mem_filterMap
abbrev ov:=@List.mem_append_right
abbrev fT:=@List.filter_cons
abbrev ib:=@List.mem_filter
abbrev ic:=@List.flatMap_cons
abbrev ig:=@List.map_map
abbrev gG:=@List.mem_flatMap
abbrev ij:=@List.length_filter_le
abbrev ik:=@List.getElem?_replicate
abbrev il:=@List.set_append_right
abbrev kl:=@List.replicate_succ
abbrev km:=@List.set_cons_zero
abbrev ko:=@of_decide_eq_true
abbrev kp:=@Array.size_push
end Go
namespace Go.AM
open Go.RowKit
def isApp:Op->Bool
 | .call c=>match c.callee with
  | .builtin .append=>true
  | _=>false
 | _=>false
def Eg(m:Nat->Bool):Nat->Bool
 | 0=>false
 | n+1=>m n||Eg m n
def gm(C:Ctx)(o:Op):Bool:=isApp o||match o with
 | .call c=>match c.callee with
  | .value (.func f)=>Eg (C.md f) 8||C.bl f
  | .value (.tmp _)=>true
  | _=>false
 | _=>false
def cls(C:Ctx)(ap:Bool):Op->Nat
 | .move _=>0
 | .assign _=>0
 | .pick _ _ _=>0
 | .binOp _ _ _ _ _=>0
 | .unOp _ _ _=>0
 | .convert _ _ _=>0
 | .extract _ _=>0
 | .index _ _ _=>0
 | .field _ _ _=>0
 | .makeFunc _ _ _=>0
 | .fieldAddr _ _ _=>match ap with
  | true=>2
  | false=>1
 | .nilCheck _=>match ap with
  | true=>2
  | false=>1
 | .store _ _ _=>3
 | .mapUpdate _ _ _ _=>3
 | .call c=>match c.callee with
  | .builtin .append=>3
  | .builtin .clear=>3
  | .builtin .min=>0
  | .builtin .max=>0
  | .value (.func f)=>match Eg (C.md f) 8||C.bl f with
   | true=>3
   | false=>2
  | .value (.tmp _)=>3
  | _=>2
 | _=>2
def Eh:AB->AB->Bool
 | .row e _,.row e' _=>bB e e'
 | .box _,.box _=>true
 | .map _ _,.map _ _=>true
 | _,_=>false
def Ei:AB->Bool
 | .none=>false
 | _=>true
def fb(h:Nat->AB):List (Nat×AB)->Bool
 | []=>true
 | (i,_)::r=>Ei (h i)&&fb h r
def gD(h:Nat->AB):List (Nat×AB)->Bool
 | []=>true
 | (i,b)::r=>Eh (h i) b&&gD h r
def nu(op:Op):Option AB->Option Tmp->Bool
 | none,_=>true
 | some _,some _=>ly op
 | some _,none=>false
def py:AV->Bool
 | .p _=>true
 | _=>false
def pz(o:Oper)(rho:Operand->AV):Bool:=match o.op with
 | .load _ a=>py (rho a)
 | .indexAddr _ x _=>py (rho x)
 | .slice _ x _ _ none=>py (rho x)
 | .build _ ps=>ps.toList.all fun p=>py (rho p.2)
 | .call c=>match c.callee,c.args.toList with
  | .builtin .len,[x]=>py (rho x)
  | _,_=>false
 | .fieldAddr _ x _=>py (rho x)
 | .nilCheck x=>py (rho x)
 | _=>false
def tx:List Nat->Nat->Bool
 | [],_=>false
 | i::r,k=>match bB i k with
  | true=>true
  | false=>tx r k
def LF(X:List Nat):AV->Bool
 | .ow id=>tx X id
 | .rp id _ _=>tx X id
 | .bx id _=>tx X id
 | _=>false
def lz(X:List Nat)(o:Oper)(rho:Operand->AV):Bool:=match o.op with
 | .load _ a=>LF X (rho a)
 | .indexAddr _ x _=>LF X (rho x)
 | .lookup _ x _ _=>LF X (rho x)
 | .call c=>match c.callee,c.args.toList with
  | .builtin .len,[x]=>LF X (rho x)
  | _,_=>false
 | _=>false
def pA(X:List Nat)(o:Oper)(rho:Operand->AV):Bool:=match o.op with
 | .makeSlice _ _ _=>tx X (o.dst.getD 0)
 | .buildSlice _ _ ps=>tx X (o.dst.getD 0)&&ps.toList.all fun p=>py (rho p.2)
 | _=>false
def Ty(X:List Nat)(o:Oper)(rho:Operand->AV):Bool:=lz X o rho||pA X o rho
def Kt(X:List Nat):List (Nat×AB)->Bool
 | []=>true
 | (i,_)::r=>match tx X i with
  | true=>false
  | false=>Kt X r
def kc:AB->Nat
 | .box _=>1
 | .jt _=>1
 | .row _ _=>2
 | .ai _ _=>2
 | _=>0
def ox(X:List Nat)(h:Nat->AB):List (Nat×AB)->Bool
 | []=>true
 | (i,b)::r=>match tx X (i+1000000) with
  | true=>Nat.beq (kc b) (kc (h i))&&(!Nat.beq (kc (h i)) 0&&ox X h r)
  | false=>ox X h r
def FD(X:List Nat)(f:Bool)(h:Nat->AB)(e:List (Nat×AB)):Bool:=(f||Kt X e)&&ox X h e
theorem AT(X:List Nat)(f:Bool)(h:Nat->AB):FD X f h []=true:=by simp[FD,Kt,ox]
def Ou(X:List Nat):AV->Bool
 | .bx id _=>tx X (id+1000000)
 | .rp id _ _=>tx X (id+1000000)
 | _=>false
def pB(X:List Nat)(o:Oper)(rho:Operand->AV):Bool:=match o.op with
 | .fieldAddr _ x _=>Ou X (rho x)
 | .nilCheck x=>Ou X (rho x)
 | _=>false
def sd(C:Ctx)(ap:Bool)(X:List Nat)(f:Bool)(o:Oper)(rho:Operand->AV):Bool:=f||pz o rho||Ty X o rho||pB X o rho||Nat.beq (cls C ap o.op) 3
def Ej(C:Ctx)(ap:Bool)(X:List Nat)(f:Bool)(o:Oper)(K:AS->Prop)(s:AS):Prop:=
 aZ C o (ev s.t) s.h fun v eff new=>match nu o.op new o.dst with
  | false=>False
  | true=>match Nat.beq (cls C ap o.op) 3 with
   | true=>match fb s.h eff&&(ap||gD s.h eff)&&FD X f s.h eff with
    | true=>K ⟨cU s.t o.dst v,jA (app s.h eff) (o.dst.getD 0) new⟩
    | false=>False
   | false=>match eff with
    | []=>K ⟨cU s.t o.dst v,jA s.h (o.dst.getD 0) new⟩
    | _=>False
def mT(C:Ctx)(ap:Bool)(X:List Nat)(f:Bool)(o:Oper)(K:AS->Prop)(s:AS):Prop:=match sd C ap X f o (ev s.t) with
 | true=>Ej C ap X f o K s
 | false=>False
def kg(C:Ctx)(ap:Bool)(X:List Nat)(all:List Oper):List Bool->List Oper->(AS->Prop)->AS->Prop
 | _,[],K,s=>K s
 | [],_::_,_,_=>False
 | f::fl,o::r,K,s=>match o.guard with
  | none=>mT C ap X f o (kg C ap X all fl r K) s
  | some (g,want)=>match all[g]? with
   | none=>False
   | some og=>match og.dst with
    | none=>False
    | some tg=>match s.t tg with
     | .p (.im (.bool b))=>kF b
       (match want with
        | true=>mT C ap X f o (kg C ap X all fl r K) ⟨ax s.t tg (fP true),s.h⟩
        | false=>kg C ap X all fl r K ⟨cU (ax s.t tg (fP true)) o.dst mK,s.h⟩)
       (match want with
        | false=>mT C ap X f o (kg C ap X all fl r K) ⟨ax s.t tg (fP false),s.h⟩
        | true=>kg C ap X all fl r K ⟨cU (ax s.t tg (fP false)) o.dst mK,s.h⟩)
     | .p (.im (.tuple _))=>kg C ap X all fl r K ⟨cU s.t o.dst mK,s.h⟩
     | _=>False
structure RR where
 run:Bool
 v:AV
 eff:List (Nat×AB)
 new:Option AB
structure DStep(C:Ctx)(ap:Bool)(all:List Oper)(o:Oper)(s:AS)(r:RR)(s':AS):Prop where
 guard:match o.guard with
  | none=>r.run=true
  | some (g,want)=>∃og tg b,all[g]?=some og/\og.dst=some tg/\s.t tg=.p (.im b)/\r.run=Lw b want
 ran:r.run=true->aZ C o (ev s.t) s.h fun v e n=>v=r.v/\e=r.eff/\n=r.new
 not:r.run=false->r.v=mK/\r.eff=[]/\r.new=none
 next:s'=⟨cU s.t o.dst r.v,jA (app s.h r.eff) (o.dst.getD 0) r.new⟩
 there:fb s.h r.eff=true
 kind:ap=false->gD s.h r.eff=true
 quiet:cls C ap o.op≠3->r.eff=[]
 ndst:nu o.op r.new o.dst=true
variable {ap:Bool}
theorem Cl{C:Ctx}{f:Bool}{X:List Nat}{o:Oper}{K:AS->Prop}{s:AS}(h:Ej C ap X f o K s):∃v eff new,(aZ C o (ev s.t) s.h fun v' e' n'=>v'=v/\e'=eff/\n'=new)/\fb s.h eff=true/\(ap=false->gD s.h eff=true)/\(cls C ap o.op≠3->eff=[])/\nu o.op new o.dst=true/\FD X f s.h eff=true/\K ⟨cU s.t o.dst v,jA (app s.h eff) (o.dst.getD 0) new⟩:=by
 obtain⟨v,eff,new,h1,h2⟩:=l6 (fun _=>.inr rfl) h;refine⟨v,eff,new,h2 _ ⟨rfl,rfl,rfl⟩,?_⟩;split at h1
 ·exact h1.elim
 rename_i Fz;split at h1
 ·rename_i hc;have hc:cls C ap o.op=3:=bq hc;split at h1
  ·rename_i hk;have hx:FD X f s.h eff=true:=(qK _ _▸hk).2;simp only[qK,oa]at hk;exact⟨hk.1.1,fun e=>hk.1.2.resolve_left (by rw[e];decide),fun h=>absurd hc h,Fz,hx,h1⟩
  exact h1.elim
 split at h1
 ·exact⟨rfl,fun _=>rfl,fun _=>rfl,Fz,AT _ _ _,h1⟩
 exact h1.elim
def se(C:Ctx)(ap:Bool)(X:List Nat)(fl:List Bool)(o:Oper)(s:AS)(r:RR)(i:Nat):Prop:=r.run=true->(fl[i]?=some true\/pz o (ev s.t)=true\/Ty X o (ev s.t)=true\/pB X o (ev s.t)=true\/cls C ap o.op=3)/\(fl[i]?=some true\/Kt X r.eff=true)/\ox X s.h r.eff=true
theorem Ek{C:Ctx}{X:List Nat}{all:List Oper}{K:AS->Prop}:∀(l:List Oper) (fl:List Bool) (s:AS),kg C ap X all fl l K s->∃(st:Nat->AS) (r:Nat->RR),st 0=s/\K (st l.length)/\∀(i:Nat) o,l[i]?=some o->DStep C ap all o (st i) (r i) (st (i+1))/\se C ap X fl o (st i) (r i) i:=by
 intro l
 induction l with
 | nil=>intro fl s h;exact⟨fun _=>s,fun _=>⟨false,.junk,[],none⟩,rfl,by cases fl<;>exact h,by simp⟩
 | cons o l ih=>
  intro fl s h;cases fl with
  | nil=>exact h.elim
  | cons f fl=>
  have ext:∀(r:RR) (s':AS),DStep C ap all o s r s'->(r.run=true->sd C ap X f o (ev s.t)=true/\FD X f s.h r.eff=true)->kg C ap X all fl l K s'->∃(st:Nat->AS) (r:Nat->RR),st 0=s/\K (st (o::l).length)/\∀(i:Nat) o',(o::l)[i]?=some o'->DStep C ap all o' (st i) (r i) (st (i+1))/\se C ap X (f::fl) o' (st i) (r i) i:=by
   intro r0 s' hd hf hk;obtain⟨st,r,h1,h2,h3⟩:=ih fl s' hk;refine⟨fun i=>match i with | 0=>s | i+1=>st i,fun i=>match i with | 0=>r0 | i+1=>r i,rfl,h2,fun i o' hi=>?_⟩;cases i with
   | zero=>
    simp at hi;subst hi;refine⟨?_,fun hr=>?_⟩
    ·show DStep C ap all o s r0 (st 0);rw[h1];exact hd
    obtain⟨q1,q2⟩:=hf hr;simp only[FD,qK]at q2;obtain⟨q2,q3⟩:=q2;exact⟨by cases f with
     | true=>exact .inl rfl
     | false=>simp only[sd,kf,oa]at q1;exact .inr (by rcases q1 with ((h | h) | h) | h;exact .inl h;exact .inr (.inl h);exact .inr (.inr (.inl h));exact .inr (.inr (.inr (bq h)))),by cases f with
     | true=>exact .inl rfl
     | false=>exact .inr q2,q3⟩
   | succ i=>
    obtain⟨q1,q2⟩:=h3 i o' (by simpa using hi);exact⟨q1,fun hr=>q2 hr⟩
  have runs:(match o.guard with
    | none=>true=true
    | some (g,want)=>∃og tg b,all[g]?=some og/\og.dst=some tg/\s.t tg=.p (.im b)/\true=Lw b want)->mT C ap X f o (kg C ap X all fl l K) s->∃(st:Nat->AS) (r:Nat->RR),st 0=s/\K (st (o::l).length)/\∀(i:Nat) o',(o::l)[i]?=some o'->DStep C ap all o' (st i) (r i) (st (i+1))/\se C ap X (f::fl) o' (st i) (r i) i:=by
   intro hg hs;unfold mT at hs;split at hs
   case h_2=>exact hs.elim
   rename_i hf;obtain⟨v,eff,new,k1,k2,k3,k4,k6,k7,k5⟩:=Cl hs;exact ext ⟨true,v,eff,new⟩ _ ⟨hg,fun _=>k1,(fun h=>by cases h),rfl,k2,k3,k4,k6⟩ (fun _=>⟨hf,k7⟩) k5
  unfold kg at h;split at h
  ·rename_i hg;exact runs (by rw[hg]) h
  rename_i g want hg;split at h
  ·exact h.elim
  rename_i og IY;split at h
  ·exact h.elim
  rename_i tg IZ;split at h
  ·rename_i b hb;have ot:∀b',b=b'->ax s.t tg (fP b')=s.t:=fun b' e=>eX _ _ _ (by rw[hb,e];rfl);have HU:kg C ap X all fl l K ⟨cU s.t o.dst mK,s.h⟩->(false=(b==want))->∃(st:Nat->AS) (r:Nat->RR),st 0=s/\K (st (o::l).length)/\∀(i:Nat) o',(o::l)[i]?=some o'->DStep C ap all o' (st i) (r i) (st (i+1))/\se C ap X (f::fl) o' (st i) (r i) i:=fun hs he=>
    ext ⟨false,mK,[],none⟩ _ ⟨by rw[hg];exact⟨og,tg,.bool b,IY,IZ,hb,by rw[he];cases b<;>cases want<;>rfl⟩,fun h=>(by cases h),fun _=>⟨rfl,rfl,rfl⟩,rfl,rfl,fun _=>rfl,fun _=>rfl,rfl⟩ (fun h=>by cases h) hs
   cases b<;>cases want<;>simp only[kF]at h
   ·rw[ot false rfl]at h;exact runs (by rw[hg];exact⟨og,tg,.bool false,IY,IZ,hb,rfl⟩) h
   ·rw[ot false rfl]at h;exact HU h rfl
   ·rw[ot true rfl]at h;exact HU h rfl
   rw[ot true rfl]at h;exact runs (by rw[hg];exact⟨og,tg,.bool true,IY,IZ,hb,rfl⟩) h
  ·rename_i q hb;exact ext ⟨false,mK,[],none⟩ _ ⟨by rw[hg];exact⟨og,tg,.tuple q,IY,IZ,hb,by cases want<;>rfl⟩,fun h=>(by cases h),fun _=>⟨rfl,rfl,rfl⟩,rfl,rfl,fun _=>rfl,fun _=>rfl,rfl⟩ (fun h=>by cases h) h
  exact h.elim
variable {rho:Operand->AV} {h':Nat->AB}
theorem I5{C:Ctx}{o:Oper}{h:Nat->AB}{K:KK}(hc:cls C ap o.op=0)(hq:aZ C o rho h K):aZ C o rho h' K:=by
 cases aq:o.op<;>rw[aq]at hc<;>try (simp only[aZ,aq]at hq ⊢;exact hq)
 all_goals try (cases hc;done)
 case makeFunc fn first cap=>
  cases fn with
  | func f=>simp only[aZ,aq]at hq ⊢;exact hq
  | _=>simp only[aZ,aq]at hq
 case fieldAddr=>cases ap<;>cases hc
 case nilCheck=>cases ap<;>cases hc
 case call c=>
  simp only[aZ,aq]at hq ⊢;simp only[cls]at hc;split at hc
  ·cases hc
  ·cases hc
  ·rename_i h1;simp only[h1,Ta,dK]at hq ⊢;exact hq
  ·rename_i h1;simp only[h1,Ta,dK]at hq ⊢;exact hq
  ·split at hc<;>cases hc
  ·cases hc
  cases hc
theorem I6{C:Ctx}{o:Oper}{h:Nat->AB}{K:KK}(hc:cls C ap o.op=1)(hh:∀id,(h id).there->((h' id).there/\(∀e es,h id=.row e es->∃bW,h' id=.row e bW)/\(∀cs,h id=.box cs->∃dB,h' id=.box dB)/\(∀cs,h id=.jt cs->∃dB,h' id=.jt dB)/\(∀e es,h id=.ai e es->∃bW,h' id=.ai e bW)/\(∀c0 ty a,h id=.cell c0 ty a->∃a',h' id=.cell c0 ty a')))(hq:aZ C o rho h K):aZ C o rho h' K:=by
 cases aq:o.op<;>rw[aq]at hc<;>try (cases hc;done)
 case call c=>
  exfalso;simp only[cls]at hc;split at hc<;>first | cases hc | (split at hc<;>cases hc)
 case fieldAddr t x f=>
  simp only[aZ,aq]at hq ⊢;split at hq
  ·split at hq
   ·split at hq
    ·exact hq
    ·rename_i id o' hx;split at hq
     ·exact hq.elim
     rename_i bO;have ht:(h id).there:=by cases h1:h id<;>first | trivial | exact absurd h1 (by simpa using bO)
     have:=(hh id ht).1;split
     ·rename_i h2;rw[h2]at this;exact this.elim
     exact hq
    ·rename_i id i o' hx;split at hq
     ·rename_i e es hr;obtain⟨bW,h2⟩:=(hh id (by rw[hr];trivial)).2.1 e es hr;simp only[h2];exact hq
     ·rename_i e es hr;obtain⟨bW,h2⟩:=(hh id (by rw[hr];trivial)).2.2.2.2.1 e es hr;simp only[h2];exact hq
     exact hq.elim
    exact hq
   exact hq
  exact hq
 case nilCheck x=>
  simp only[aZ,aq]at hq ⊢;split at hq
  ·exact hq
  ·rename_i id off hx;split at hq
   ·rename_i cs hr;obtain⟨dB,h2⟩:=(hh id (by rw[hr];trivial)).2.2.1 cs hr;simp only[h2];exact hq
   ·rename_i cs hr;obtain⟨dB,h2⟩:=(hh id (by rw[hr];trivial)).2.2.2.1 cs hr;simp only[h2];exact hq
   exact hq.elim
  ·rename_i id i off hx;split at hq
   ·rename_i e es hr;obtain⟨bW,h2⟩:=(hh id (by rw[hr];trivial)).2.1 e es hr;simp only[h2];exact hq
   ·rename_i e es hr;obtain⟨bW,h2⟩:=(hh id (by rw[hr];trivial)).2.2.2.2.1 e es hr;simp only[h2];exact hq
   exact hq.elim
  ·rename_i id hx;split at hq
   ·rename_i c0 ty a hr;obtain⟨a',h2⟩:=(hh id (by rw[hr];trivial)).2.2.2.2.2 c0 ty a hr;simp only[h2];exact hq
   exact hq.elim
  exact hq
def pC(ops:Array Oper)(o:Oper)(d:Tmp):Bool:=(o.looksAt ops).contains d
def zr(C:Ctx)(ap:Bool)(ops:Array Oper)(b:Array Nat)(i j:Nat)(oi oj:Oper):Bool:=
 (match oi.dst,oj.dst with
  | some x,some y=>!bB x y
  | _,_=>true) &&
 (match oj.dst with
  | some d=>!pC ops oi d||(b.getD j 0).testBit i
  | none=>true) &&
 (match oi.dst with
  | some d=>!pC ops oj d||(b.getD j 0).testBit i
  | none=>true) &&
 (if cls C ap oj.op=3 then (if cls C ap oi.op=3 then (b.getD j 0).testBit i else true) else true)
def LG(ops:Array Oper)(b:Array Nat)(C:Ctx)(ap:Bool)(c i:Nat):Bool:=(List.range ops.size).all fun k=>match ops[k]? with
  | none=>true
  | some ok=>!bB (cls C ap ok.op) c||(if k<i then (b.getD i 0).testBit k else if i<k then (b.getD k 0).testBit i else true)
def Gm:Op->Bool
 | .fieldAddr _ _ _=>true
 | .nilCheck _=>true
 | _=>false
def Ov(ops:Array Oper)(b:Array Nat)(C:Ctx)(ap:Bool)(i:Nat):Bool:=(List.range ops.size).all fun k=>match ops[k]? with
  | none=>true
  | some ok=>(Gm ok.op||!bB (cls C ap ok.op) 2)||(if k<i then (b.getD i 0).testBit k else if i<k then (b.getD k 0).testBit i else true)
def vC(C:Ctx)(ap:Bool)(ops:Array Oper)(b:Array Nat)(i:Nat)(oi:Oper):Bool:=
 match cls C ap oi.op with
 | 2=>LG ops b C ap 3 i
 | 3=>Ov ops b C ap i
 | _=>true
def fS(C:Ctx)(ap:Bool)(ops:Array Oper):List Bool:=
 let b:=Region.before ops
 (List.range ops.size).map fun i=>match ops[i]? with
  | some oi=>vC C ap ops b i oi
  | none=>true
variable {ops:Array Oper} {oi:Oper}
theorem El{C:Ctx}{i:Nat}{c:Nat}(hi:ops[i]?=some oi)(h:LG ops (Region.before ops) C ap c i=true):
  ∀(k:Nat) ok,ops[k]?=some ok->cls C ap ok.op=c->(k<i->((Region.before ops).getD i 0).testBit k=true)/\(i<k->((Region.before ops).getD k 0).testBit i=true):=by
 intro k ok hk Ow;have iR:=(vn.1 hi).1;have wN:=(vn.1 hk).1;have h2:=cC.1 h k (dA.2 wN);simp only[hk,aG.2 Ow,vz,kf]at h2;refine⟨fun dv=>?_,fun dv=>?_⟩
 ·rwa [ae dv]at h2
 rwa [af (by omega),ae dv]at h2
theorem xC{C:Ctx}{i:Nat}(hi:ops[i]?=some oi)(h:(fS C ap ops)[i]?=some true):vC C ap ops (Region.before ops) i oi=true:=by
 have iR:=(vn.1 hi).1;simpa only[fS,ao,fG iR,eM,hi,Option.some.injEq] using h
theorem pD{C:Ctx}{i:Nat}(hi:ops[i]?=some oi)(h:(fS C ap ops)[i]?=some true)(hc:cls C ap oi.op=2):
  ∀(k:Nat) ok,ops[k]?=some ok->cls C ap ok.op=3->(k<i->((Region.before ops).getD i 0).testBit k=true)/\(i<k->((Region.before ops).getD k 0).testBit i=true):=by
 have h2:=xC hi h;simp only[vC,hc]at h2;exact El hi h2
theorem sf{C:Ctx}{i:Nat}(hi:ops[i]?=some oi)(h:(fS C ap ops)[i]?=some true)(hc:cls C ap oi.op=3):
  ∀(k:Nat) ok,ops[k]?=some ok->cls C ap ok.op=2->Gm ok.op=false->(k<i->((Region.before ops).getD i 0).testBit k=true)/\(i<k->((Region.before ops).getD k 0).testBit i=true):=by
 have h2:=xC hi h;simp only[vC,hc]at h2;intro k ok hk Ow hth;have iR:=(vn.1 hi).1;have wN:=(vn.1 hk).1;have h2:=cC.1 h2 k (dA.2 wN);simp only[hk,hth,aG.2 Ow,vz,kf]at h2;refine⟨fun dv=>?_,fun dv=>?_⟩
 ·rwa [ae dv]at h2
 rwa [af (by omega),ae dv]at h2
theorem AU{X:List Nat}{o:Oper}(h:Ty X o rho=true):Gm o.op=false:=by
 unfold Ty lz pA at h;cases e:o.op<;>rw[e]at h<;>first | rfl | cases h
theorem xD{X:List Nat}:∀{eff:List (Nat×AB)},Kt X eff=true->∀p∈eff,tx X p.1=false:=by
 intro eff
 induction eff with
 | nil=>intro _ p hp;cases hp
 | cons x r ih=>
  intro h p hp;unfold Kt at h;split at h
  ·cases h
  rename_i hx;rcases fL.1 hp with e | e
  ·rw[e];exact hx
  exact ih h p e
theorem da{a:AV}(h:py a=true):∃x,a=.p x:=by cases a<;>first | exact⟨_,rfl⟩ | cases h
variable {fs:List (Nat×Nat×Bool)}
theorem Em{h:Nat->AB}:∀(ps:List (Nat×Operand)) (cs:List PV) (K:List PV->List (Nat×AB)->Prop),(ps.all fun p=>py (rho p.2))=true->gd h fs rho ps cs K->gd h' fs rho ps cs K:=by
 intro ps
 induction ps with
 | nil=>intro cs K _ hq;exact hq
 | cons p ps ih=>
  intro cs K hp hq;obtain⟨i,x⟩:=p;simp only[Ub,qK]at hp;obtain⟨y,hy⟩:=da hp.1;simp only[gd]at hq ⊢;split at hq
  ·rw[hy]at hq ⊢;simp only[g_,iC]at hq ⊢;revert hq;cases mZ y with
   | none=>exact id
   | some ys=>
    simp only;cases o7 ys.length _&&yy _ cs.length with
    | false=>exact id
    | true=>intro hq;exact ih _ _ hp.2 hq
  exact hq.elim
theorem En{h:Nat->AB}:∀(ps:List (Nat×Operand)) (cs:List AV) (K:List AV->Prop),(ps.all fun p=>py (rho p.2))=true->gf h fs rho ps cs K->gf h' fs rho ps cs K:=by
 intro ps
 induction ps with
 | nil=>intro cs K _ hq;exact hq
 | cons p ps ih=>
  intro cs K hp hq;obtain⟨i,x⟩:=p;simp only[Ub,qK]at hp;obtain⟨y,hy⟩:=da hp.1;unfold gf at hq ⊢;split at hq
  ·rename_i h1;split at hq
   ·rename_i ys h0;split at hq
    case h_2=>exact hq.elim
    rename_i h2;exact ih _ _ hp.2 hq
   rename_i h0;split at hq
   ·rename_i h2;have e:kL h' (rho x)=kL h (rho x):=by rw[hy];cases y<;>rfl
    simp only[h1,h0,e,h2];exact ih _ _ hp.2 hq
   exact hq.elim
  exact hq.elim
theorem zt{h:Nat->AB}{Q:Prop}:∀(ps:List (Nat×Operand)) (cs:List PV) (K:List PV->List (Nat×AB)->Prop),(∀a b,K a b->Q)->gd h fs rho ps cs K->Q:=by
 intro ps
 induction ps with
 | nil=>intro cs K hk hq;exact hk _ _ hq
 | cons p ps ih=>
  intro cs K hk hq;obtain⟨i,x⟩:=p;simp only[gd]at hq;split at hq
  ·obtain⟨y,fz,h1,_⟩:=e9 (fun _=>.inr rfl) hq;split at h1
   ·split at h1
    ·exact ih _ _ (fun a b h=>hk _ _ h) h1
    exact h1.elim
   exact h1.elim
  exact hq.elim
theorem I7{C:Ctx}{o:Oper}{h:Nat->AB}{K:KK}(hp:pz o rho=true)(hq:aZ C o rho h K):aZ C o rho h' K:=by
 unfold pz at hp;split at hp
 ·rename_i t a aq;obtain⟨x,hx⟩:=da hp;simp only[aZ,aq]at hq ⊢;rw[hx]at hq ⊢;cases x<;>exact hq
 ·rename_i t x ix aq;obtain⟨y,hx⟩:=da hp;simp only[aZ,aq]at hq ⊢;rw[hx]at hq ⊢;cases y<;>exact hq
 ·rename_i t x lo hi aq;obtain⟨y,hx⟩:=da hp;simp only[aZ,aq]at hq ⊢;rw[hx]at hq ⊢;have hq:ef C rho h t x lo hi K:=hq;show ef C rho h' t x lo hi K;simp only[ef]at hq ⊢;rw[hx]at hq ⊢;exact hq
 ·rename_i t ps aq;simp only[aZ,aq]at hq ⊢;split at hq
  ·split at hq
   ·exact Em _ _ _ hp hq
   exact En _ _ _ hp hq
  exact hq.elim
 ·rename_i c aq;split at hp
  ·rename_i x hc ha;obtain⟨y,hx⟩:=da hp;simp only[aZ,aq,hc,ha,Ta,dK]at hq ⊢;split at hq
   ·rename_i I8 ht;simp only[ha,ht]at *;injection I8 with I8 _;subst I8;rw[hx]at hq ⊢;cases y<;>exact hq
   exact hq.elim
  cases hp
 ·rename_i t x f aq;obtain⟨y,hx⟩:=da hp;simp only[aZ,aq]at hq ⊢;rw[hx]at hq ⊢;cases y<;>exact hq
 ·rename_i x aq;obtain⟨y,hx⟩:=da hp;simp only[aZ,aq]at hq ⊢;rw[hx]at hq ⊢;cases y<;>exact hq
 cases hp
variable {e:List (Nat×AB)}
theorem zu{C:Ctx}{o:Oper}{h:Nat->AB}{v:AV}{n:Option AB}(hp:pz o rho=true)(hq:aZ C o rho h fun v' e' n'=>v'=v/\e'=e/\n'=n):n=none:=by
 have aux:∀(x:AV) (K:List (List PV)->Prop) (Q:Prop),(∀es,K es->Q)->dV h x K->Q:=by
  intro x K Q hk hq;unfold dV at hq
  repeat' (split at hq)
  all_goals first | exact hq.elim | exact hk _ hq
 unfold pz at hp;split at hp
 ·rename_i t a aq;obtain⟨x,hx⟩:=da hp;simp only[aZ,aq]at hq;split at hq
  ·exact hq.elim
  rw[hx]at hq;split at hq
  ·split at hq
   ·split at hq
    ·exact hq.2.2.symm
    exact hq.elim
   split at hq
   ·exact hq.2.2.symm
   exact hq.elim
  ·rename_i h1;cases h1
  ·rename_i h1;cases h1
  ·rename_i h1;cases h1
  exact hq.elim
 ·rename_i t x ix aq;obtain⟨y,hx⟩:=da hp;simp only[aZ,aq]at hq;split at hq
  ·split at hq
   ·exact hq.elim
   rw[hx]at hq;split at hq
   ·obtain⟨r,_,hq⟩:=hq;split at hq
    ·exact hq.2.2.symm
    exact hq.elim
   all_goals first | exact hq.elim | (rename_i h1;cases h1;done) | (rename_i h1 _;cases h1;done) | (rename_i h1 _ _;cases h1;done)
  exact hq.elim
 ·rename_i t x lo hi aq;obtain⟨y,hx⟩:=da hp;simp only[aZ,aq]at hq;rw[hx]at hq;have hq:ef C rho h t x lo hi _:=hq;simp only[ef]at hq;split at hq
  ·rw[hx]at hq;split at hq
   ·split at hq
    ·exact hq.2.2.2.symm
    exact hq.elim
   exact hq.elim
  ·split at hq
   ·exact hq.elim
   obtain⟨z,fz,hq,_⟩:=e9 (fun _=>.inr rfl) hq;split at hq
   ·split at hq
    ·exact hq.2.2.2.symm
    exact hq.elim
   exact hq.elim
  exact hq.elim
 ·rename_i t ps aq;simp only[aZ,aq]at hq;split at hq
  ·split at hq
   ·exact zt _ _ _ (fun _ _ h=>h.2.2.symm) hq
   obtain⟨z,h1,_⟩:=tU (fun _=>.inr rfl) hq;exact h1.2.2.symm
  exact hq.elim
 ·rename_i c aq;split at hp
  ·rename_i x hc ha;simp only[aZ,aq,hc,ha,Ta,dK]at hq;split at hq
   ·split at hq
    ·split at hq
     ·exact hq.2.2.symm
     exact hq.elim
    ·split at hq
     ·exact hq.2.2.symm
     exact aux _ _ _ (fun _ h=>h.2.2.symm) hq
    ·split at hq
     ·split at hq
      ·exact hq.2.2.symm
      exact hq.elim
     ·exact hq.2.2.symm
     exact hq.elim
    exact hq.elim
   exact hq.elim
  cases hp
 ·rename_i t x f aq;obtain⟨y,hx⟩:=da hp;simp only[aZ,aq]at hq;rw[hx]at hq
  repeat' (split at hq)
  all_goals first | exact hq.elim | exact hq.2.2.symm | (rename_i h1;cases h1)
 ·rename_i x aq;obtain⟨y,hx⟩:=da hp;simp only[aZ,aq]at hq;rw[hx]at hq
  repeat' (split at hq)
  all_goals first | exact hq.elim | exact hq.2.2.symm | (rename_i h1;cases h1)
 cases hp
theorem Gn{C:Ctx}{o:Oper}{X:List Nat}{h:Nat->AB}{K:KK}(hh:∀id,tx X id=true->h id=.none\/h' id=h id)(hp:lz X o rho=true)(hq:aZ C o rho h K):aZ C o rho h' K:=by
 have hx:∀{a:AV},LF X a=true->(∃id,a=.ow id/\(h id=.none\/h' id=h id))\/(∃id i off,a=.rp id i off/\(h id=.none\/h' id=h id))\/∃id off,a=.bx id off/\(h id=.none\/h' id=h id):=by
  intro a ha;cases a with
  | ow id=>exact .inl ⟨id,rfl,hh id ha⟩
  | rp id i off=>exact .inr (.inl ⟨id,i,off,rfl,hh id ha⟩)
  | bx id off=>exact .inr (.inr ⟨id,off,rfl,hh id ha⟩)
  | _=>cases ha
 unfold lz at hp;split at hp
 ·rename_i t a aq;simp only[aZ,aq]at hq ⊢;cases hT:C.T t with
  | none=>simp only[hT]at hq
  | some ti=>
   simp only[hT]at hq ⊢;rcases hx hp with⟨id,e,e2⟩ | ⟨id,i,off,e,e2⟩ | ⟨id,off,e,e2⟩<;>simp only[e]at hq ⊢<;>rcases e2 with e2 | e2<;>first | (simp only[e2]at hq;done) | (rw[e2];exact hq)
 ·rename_i t x ix aq;simp only[aZ,aq]at hq ⊢;split at hq
  case h_2=>exact hq.elim
  rename_i e size bytes zero eq k i hT C2;cases nf:C.T e with
  | none=>simp only[nf]at hq
  | some te=>
   simp only[nf]at hq ⊢;rcases hx hp with⟨id,e,e2⟩ | ⟨id,i,off,e,e2⟩ | ⟨id,off,e,e2⟩<;>simp only[e]at hq ⊢<;>rcases e2 with e2 | e2<;>first | (simp only[e2]at hq;done) | (rw[e2];exact hq)
 ·rename_i t x ix ck aq;simp only[aZ,aq]at hq ⊢;rcases hx hp with⟨id,e,e2⟩ | ⟨id,i,off,e,e2⟩ | ⟨id,off,e,e2⟩<;>simp only[e]at hq ⊢
  ·rcases e2 with e2 | e2
   ·simp only[e2]at hq
    repeat' (split at hq)
    all_goals exact hq.elim
   rw[e2];exact hq
  ·exact hq
  exact hq
 ·rename_i c aq;split at hp
  ·rename_i x hc ha;simp only[aZ,aq,hc,ha,Ta,dK]at hq ⊢;split at hq
   case h_2=>exact hq.elim
   rename_i x' t I8 ht;injection I8 with I8 _;subst I8;split at hq
   ·rcases hx hp with⟨id,e,e2⟩ | ⟨id,i,off,e,e2⟩ | ⟨id,off,e,e2⟩<;>simp only[e]at hq
   ·rename_i hT;rcases hx hp with⟨id,e,e2⟩ | ⟨id,i,off,e,e2⟩ | ⟨id,off,e,e2⟩<;>simp only[hT,e,hlen,dV]at hq ⊢;rcases e2 with e2 | e2
    ·simp only[e2]at hq
    rw[e2];exact hq
   ·rename_i hT;rcases hx hp with⟨id,e,e2⟩ | ⟨id,i,off,e,e2⟩ | ⟨id,off,e,e2⟩<;>simp only[hT,e]at hq ⊢;rcases e2 with e2 | e2
    ·simp only[e2]at hq
    rw[e2];exact hq
   exact hq.elim
  cases hp
 cases hp
theorem xE{C:Ctx}{o:Oper}{X:List Nat}{h:Nat->AB}{v:AV}{n:Option AB}(hp:lz X o rho=true)(hq:aZ C o rho h fun v' e' n'=>v'=v/\e'=e/\n'=n):n=none:=by
 have aux:∀(x:AV) (K:List (List PV)->Prop) (Q:Prop),(∀es,K es->Q)->dV h x K->Q:=by
  intro x K Q hk hq;unfold dV at hq
  repeat' (split at hq)
  all_goals first | exact hq.elim | exact hk _ hq
 unfold lz at hp;split at hp
 ·rename_i aq;simp only[aZ,aq]at hq
  repeat' (split at hq)
  all_goals first | exact hq.elim | exact hq.2.2.symm | (exfalso;obtain⟨r,hr,hq⟩:=hq;exact hq) | (rcases hq with⟨r,hr,hq⟩;first | exact hq.2.2.symm | (split at hq<;>first | exact hq.elim | exact hq.2.2.symm))
 ·rename_i aq;simp only[aZ,aq]at hq
  repeat' (split at hq)
  all_goals first | exact hq.elim | exact hq.2.2.symm | exact hq.2.2.2.symm | (obtain⟨r,hr,hq⟩:=hq;split at hq<;>first | exact hq.elim | exact hq.2.2.symm)
 ·rename_i aq;simp only[aZ,aq]at hq
  repeat' (split at hq)
  all_goals first | exact hq.elim | (obtain⟨r,hr,hq⟩:=hq;exact hq.2.2.symm) | (obtain⟨r,hr,hq⟩:=hq;split at hq<;>exact hq.2.2.symm)
 ·rename_i c aq;split at hp
  ·rename_i x hc ha;simp only[aZ,aq,hc,ha,Ta,dK]at hq;split at hq
   ·split at hq
    ·split at hq
     ·exact hq.2.2.symm
     exact hq.elim
    ·split at hq
     ·exact hq.2.2.symm
     exact aux _ _ _ (fun _ h=>h.2.2.symm) hq
    ·split at hq
     ·split at hq
      ·exact hq.2.2.symm
      exact hq.elim
     ·exact hq.2.2.symm
     exact hq.elim
    exact hq.elim
   exact hq.elim
  cases hp
 cases hp
theorem I9{C:Ctx}{o:Oper}{X:List Nat}{h:Nat->AB}{K:KK}(hh:∀id,tx X id=true->h id=.none\/h' id=h id)(hp:Ty X o rho=true)(hq:aZ C o rho h K):aZ C o rho h' K:=by
 unfold Ty at hp;rcases (oa _ _▸hp:lz X o rho=true\/pA X o rho=true) with hp | hp
 ·exact Gn hh hp hq
 unfold pA at hp;split at hp
 ·rename_i t n c aq;simp only[aZ,aq]at hq ⊢;exact hq
 ·rename_i t n ps aq;simp only[qK]at hp;have fI:∀p∈ps.toList,py (rho p.2)=true:=cC.1 hp.2;have aux:∀(b:Bool) (size:Nat) (l:List (Nat×Operand)) (es:List (List PV)) (K:List (List PV)->List (Nat×AB)->Prop),(∀p∈l,py (rho p.2)=true)->eC b h size rho l es K->eC b h' size rho l es K:=by
   intro b size l
   induction l with
   | nil=>intro es K _ h;exact h
   | cons p r ih=>
    intro es K hl hk;obtain⟨i,x⟩:=p;obtain⟨y,hy⟩:=da (hl _ dJ);simp only at hy;simp only[eC,hy]at hk ⊢;have e:∀(h:Nat->AB) (Q:PV->List (Nat×AB)->Prop),qa b h (.p y) Q=Q y []:=fun h Q=>by cases b<;>rfl
    rw[e]at hk ⊢;revert hk;split
    ·intro hk;revert hk;split
     ·intro hk;exact ih _ _ (fun p hp=>hl p (An _ hp)) hk
     exact fun hk=>hk
    exact fun hk=>hk
  simp only[aZ,aq]at hq ⊢;revert hq;split
  ·split
   ·split
    ·split
     ·split
      ·rename_i x hps _;have hx:=fI (0,x) (by rw[hps];exact dJ);obtain⟨y,hy⟩:=da hx;have e:kL h' (rho x)=kL h (rho x):=by
        simp only at hy;rw[hy];cases y<;>rfl
       rw[e];exact fun hq=>hq
      exact fun hq=>hq
     split
     ·exact aux _ _ _ _ _ fI
     exact aux _ _ _ _ _ fI
    exact fun hq=>hq
   exact fun hq=>hq
  exact fun hq=>hq
 cases hp
theorem zv{C:Ctx}{o:Oper}{X:List Nat}{h:Nat->AB}{v:AV}{n:Option AB}(hp:Ty X o rho=true)(hq:aZ C o rho h fun v' e' n'=>v'=v/\e'=e/\n'=n):n=none\/tx X (o.dst.getD 0)=true:=by
 unfold Ty at hp;rcases (oa _ _▸hp:lz X o rho=true\/pA X o rho=true) with hp | hp
 ·exact .inl (xE hp hq)
 unfold pA at hp;split at hp
 ·exact .inr hp
 ·simp only[qK]at hp;exact .inr hp.1
 cases hp
theorem I_{C:Ctx}{o:Oper}{X:List Nat}{h:Nat->AB}{K:KK}(hh:∀id,tx X (id+1000000)=true->h id≠.none->(kc (h' id)=kc (h id)/\kc (h id)≠0)\/h' id=h id)(hp:pB X o rho=true)(hq:aZ C o rho h K):aZ C o rho h' K:=by
 have hx:∀{a:AV},Ou X a=true->(∃id off,a=.bx id off/\tx X (id+1000000)=true)\/∃id i off,a=.rp id i off/\tx X (id+1000000)=true:=fun {a} ha=>by
  cases a with
  | bx id off=>exact .inl ⟨id,off,rfl,ha⟩
  | rp id i off=>exact .inr ⟨id,i,off,rfl,ha⟩
  | _=>cases ha
 unfold pB at hp;split at hp
 ·rename_i t x f aq;simp only[aZ,aq]at hq ⊢;split at hq
  case h_2=>exact hq.elim
  rename_i hT;split at hq
  case h_2=>exact hq.elim
  rcases hx hp with⟨id,off,e,hi⟩ | ⟨id,i,off,e,hi⟩<;>simp only[e]at hq ⊢
  ·have bO:h id≠.none:=fun e2=>by rw[e2]at hq;exact hq
   rcases hh id hi bO with⟨h1,h2⟩ | h2
   ·cases e3:h id<;>rw[e3]at h1 h2 hq<;>first | exact hq.elim | exact absurd rfl h2 | (cases e4:h' id<;>rw[e4]at h1<;>first | exact hq | (exfalso;revert h1;decide) | cases h1)
   rw[h2];exact hq
  have bO:h id≠.none:=fun e2=>by rw[e2]at hq;exact hq
  rcases hh id hi bO with⟨h1,h2⟩ | h2
  ·cases e3:h id<;>rw[e3]at h1 h2 hq<;>first | exact hq.elim | exact absurd rfl h2 | (cases e4:h' id<;>rw[e4]at h1<;>first | exact hq | (exfalso;revert h1;decide) | cases h1)
  rw[h2];exact hq
 ·rename_i x aq;simp only[aZ,aq]at hq ⊢;rcases hx hp with⟨id,off,e,hi⟩ | ⟨id,i,off,e,hi⟩<;>simp only[e]at hq ⊢
  ·have bO:h id≠.none:=fun e2=>by rw[e2]at hq;exact hq
   rcases hh id hi bO with⟨h1,h2⟩ | h2
   ·cases e3:h id<;>rw[e3]at h1 h2 hq<;>first | exact hq.elim | exact absurd rfl h2 | (cases e4:h' id<;>rw[e4]at h1<;>first | exact hq | (exfalso;revert h1;decide) | cases h1)
   rw[h2];exact hq
  have bO:h id≠.none:=fun e2=>by rw[e2]at hq;exact hq
  rcases hh id hi bO with⟨h1,h2⟩ | h2
  ·cases e3:h id<;>rw[e3]at h1 h2 hq<;>first | exact hq.elim | exact absurd rfl h2 | (cases e4:h' id<;>rw[e4]at h1<;>first | exact hq | (exfalso;revert h1;decide) | cases h1)
  rw[h2];exact hq
 cases hp
theorem zw{C:Ctx}{o:Oper}{X:List Nat}{h:Nat->AB}{v:AV}{n:Option AB}(hp:pB X o rho=true)(hq:aZ C o rho h fun v' e' n'=>v'=v/\e'=e/\n'=n):n=none:=by
 unfold pB at hp;split at hp
 ·rename_i aq;simp only[aZ,aq]at hq
  repeat' (split at hq)
  all_goals first | exact hq.elim | exact hq.2.2.symm
 ·rename_i aq;simp only[aZ,aq]at hq
  repeat' (split at hq)
  all_goals first | exact hq.elim | exact hq.2.2.symm
 cases hp
def zx(ops:Array Oper)(o:Oper):Bool:=match o.dst with
 | some d=>!pC ops o d
 | none=>true
def zy(ops:Array Oper)(b:Array Nat):Bool:=
 (List.range ops.size).all fun j=>(match ops[j]? with
  | some oj=>(oj.after.toList.all fun e=>!Region.binds .any e||Nat.blt e.on j)&&(List.range j).all fun i=>!(b.getD j 0).testBit i||(oj.after.toList.any fun e=>Region.binds .any e&&(bB e.on i||(Nat.blt i e.on&&(b.getD e.on 0).testBit i)))
  | none=>true)
def iJ(C:Ctx)(ops:Array Oper):Bool:=
 let ap:=ops.toList.any fun o=>gm C o.op;let b:=Region.before ops
 zy ops b&&(List.range ops.size).all fun j=>match ops[j]? with
  | some oj=>zx ops oj&&(List.range j).all fun i=>match ops[i]? with
   | some oi=>zr C ap ops b i j oi oj
   | none=>true
  | none=>true
def zz(ops:Array Oper)(E:Nat->Bool):Prop:=∀(j:Nat) oj,ops[j]?=some oj->E j=true->∀e∈oj.after,Region.binds .any e=true->E e.on=true
theorem uc{b:Array Nat}(h:zy ops b=true):(∀(j:Nat) oj,ops[j]?=some oj->∀e∈oj.after,Region.binds .any e=true->e.on<j)/\
  ∀(E:Nat->Bool),zz ops E->∀(j:Nat) oj,ops[j]?=some oj->(∀e∈oj.after,Region.binds .any e=true->E e.on=true)->∀i,i<j->(b.getD j 0).testBit i=true->E i=true:=by
 have hj:∀(j:Nat) oj,ops[j]?=some oj->(∀e∈oj.after,Region.binds .any e=true->e.on<j)/\∀i,i<j->(b.getD j 0).testBit i=true->∃e∈oj.after,Region.binds .any e=true/\(e.on=i\/(i<e.on/\(b.getD e.on 0).testBit i=true)):=by
  intro j oj zA;have h1:=cC.1 h j (dA.2 (vn.1 zA).1);simp only[zA,qK]at h1;refine⟨fun e he hb=>?_,fun i hi ht=>?_⟩
  ·have h2:=cC.1 h1.1 e (fm.2 he);rw[hb]at h2;simp only[vz,kf]at h2;exact dT h2
  have h2:=cC.1 h1.2 i (dA.2 hi);rw[ht]at h2;simp only[vz,kf]at h2;obtain⟨e,he,h3⟩:=q9.1 h2;simp only[qK,oa]at h3;exact⟨e,fm.1 he,h3.1,h3.2.imp aG.1 fun h=>⟨dT h.1,h.2⟩⟩
 refine⟨fun j oj zA=>(hj j oj zA).1,fun E hE j=>?_⟩
 induction j using Nat.strongRecOn with
 | _ j ih=>
  intro oj zA fI i hi ht;obtain⟨e,he,hb,h2⟩:=(hj j oj zA).2 i hi ht;rcases h2 with h2 | h2
  ·rw[<-h2];exact fI e he hb
  have dv:=(hj j oj zA).1 e he hb;have RB:=fI e he hb;cases M_:ops[e.on]? with
  | none=>
   have:e.on<ops.size:=Nat.lt_trans dv (vn.1 zA).1;rw[bE this]at M_;cases M_
  | some oe=>exact ih e.on dv oe M_ (fun e' Ox dM=>hE e.on oe M_ RB e' Ox dM) i h2.1 h2.2
variable {rho':Operand->AV}
theorem xF{h:Nat->AB}:∀{ps:List (Nat×Operand)} {cs:List PV},(∀p∈ps,rho p.2=rho' p.2)->gd h fs rho ps cs=gd h fs rho' ps cs:=by
 intro ps
 induction ps with
 | nil=>intro cs _;rfl
 | cons p ps ih=>
  intro cs hp;obtain⟨i,x⟩:=p;funext K;have e:=hp (i,x) (by simp);simp only at e;simp only[gd,e];have:∀cs,gd h fs rho ps cs=gd h fs rho' ps cs:=fun cs=>ih (fun p hm=>hp p (by simp[hm]));simp only[this]
theorem xG{h:Nat->AB}:∀{ps:List (Nat×Operand)} {cs:List AV},(∀p∈ps,rho p.2=rho' p.2)->gf h fs rho ps cs=gf h fs rho' ps cs:=by
 intro ps
 induction ps with
 | nil=>intro cs _;rfl
 | cons p ps ih=>
  intro cs hp;obtain⟨i,x⟩:=p;funext K;have e:=hp (i,x) (by simp);simp only at e;simp only[gf,e];have:∀cs,gf h fs rho ps cs=gf h fs rho' ps cs:=fun cs=>ih (fun p hm=>hp p (by simp[hm]));simp only[this]
theorem oy{b:Bool}{h:Nat->AB}{size:Nat}:∀{ps:List (Nat×Operand)} {cs:List (List PV)},(∀p∈ps,rho p.2=rho' p.2)->eC b h size rho ps cs=eC b h size rho' ps cs:=by
 intro ps
 induction ps with
 | nil=>intro cs _;rfl
 | cons p ps ih=>
  intro cs hp;obtain⟨i,x⟩:=p;funext K;have e:=hp (i,x) (by simp);simp only at e;simp only[eC,e];have:∀cs,eC b h size rho ps cs=eC b h size rho' ps cs:=fun cs=>ih (fun p hm=>hp p (by simp[hm]));simp only[this]
theorem me{C:Ctx}{o:Oper}{rho rho':Operand->AV}{h:Nat->AB}{K:KK}(hx:∀x∈o.op.operands,rho x=rho' x)(hq:aZ C o rho h K):aZ C o rho' h K:=by
 cases aq:o.op<;>simp only[aq,Op.operands]at hx<;>simp only[aZ,aq]at hq ⊢<;>try exact hq
 case move x=>rw[<-hx x (by simp)];exact hq
 case assign x=>rw[<-hx x (by simp)];exact hq
 case pick c a b=>rw[<-hx c (by simp),<-hx a (by simp),<-hx b (by simp)];exact hq
 case box e x=>rw[<-hx x (by simp)];exact hq
 case build t ps=>
  split at hq
  ·rename_i fs _ _ _ _ hT;split at hq
   ·rename_i h1;rw[<-xF (rho:=rho) (rho':=rho') (fun p hp=>hx p.2 (by simp;exact⟨p.1,fm.1 hp⟩))];exact hq
   rename_i h1;rw[<-xG (rho:=rho) (rho':=rho') (fun p hp=>hx p.2 (by simp;exact⟨p.1,fm.1 hp⟩))];exact hq
  exact hq
 case buildSlice t n ps=>
  split at hq
  ·split at hq
   ·split at hq
    ·split at hq
     ·split at hq
      ·rename_i x hps _;have e:=hx x (by simp;exact⟨0,fm.1 (by rw[hps];exact dJ)⟩);rw[<-e];exact hq
      exact hq
     split at hq
     ·rw[<-oy (rho:=rho) (rho':=rho') (fun p hp=>hx p.2 (by simp;exact⟨p.1,fm.1 hp⟩))];exact hq
     rw[<-oy (rho:=rho) (rho':=rho') (fun p hp=>hx p.2 (by simp;exact⟨p.1,fm.1 hp⟩))];exact hq
    exact hq
   exact hq
  exact hq
 case load t x=>rw[<-hx x (by simp)];exact hq
 case store t x y=>rw[<-hx x (by simp),<-hx y (by simp)];exact hq
 case nilCheck x=>rw[<-hx x (by simp)];exact hq
 case binOp op t x y t'=>rw[<-hx x (by simp),<-hx y (by simp)];exact hq
 case unOp op t x=>rw[<-hx x (by simp)];exact hq
 case makeInterface t x=>rw[<-hx x (by simp)];exact hq
 case typeAssert x xt t ok=>
  cases ok with
  | true=>exact hq
  | false=>simp only at hq ⊢;rw[<-hx x (by simp)];exact hq
 case convert s d x=>rw[<-hx x (by simp)];exact hq
 case makeFunc fn first cap=>
  cases fn with
  | func f=>
   have:cap.toList.map rho=cap.toList.map rho':=vA fun x hm=>hx x (by simp[fm.1 hm]);simp only[this]at hq;exact hq
  | _=>exact hq
 case makeSlice t x y=>rw[<-hx x (by simp),<-hx y (by simp)];exact hq
 case slice t x lo hi mx=>
  cases mx with
  | some m=>exact hq
  | none=>
   have e0:=hx x (by simp);have e1:∀y,lo=some y->rho y=rho' y:=fun y hy=>hx y (by simp[hy]);have e2:∀y,hi=some y->rho y=rho' y:=fun y hy=>hx y (by simp[hy]);have hs:ef C rho h t x lo hi K=ef C rho' h t x lo hi K:=by
    unfold ef;rw[e0];cases lo<;>cases hi<;>simp only[Option.some.injEq,forall_eq',forall_eq,reduceCtorEq,false_implies,implies_true]at e1 e2<;>simp only[e1,e2]
   have hv:∀id e' es,nN C rho t lo hi id e' es K=nN C rho' t lo hi id e' es K:=fun id e' es=>by
    unfold nN;cases lo<;>cases hi<;>simp only[Option.some.injEq,forall_eq',forall_eq,reduceCtorEq,false_implies,implies_true]at e1 e2<;>simp only[e1,e2]
   simp only at hq ⊢;simp only[<-e0,<-hs,<-hv];exact hq
 case makeMap t r=>cases r<;>exact hq
 case lookup t x i ck=>rw[<-hx x (by simp),<-hx i (by simp)];exact hq
 case mapUpdate t x i y=>rw[<-hx x (by simp),<-hx i (by simp),<-hx y (by simp)];exact hq
 case range t x=>rw[<-hx x (by simp)];exact hq
 case entry x=>rw[<-hx x (by simp)];exact hq
 case fieldAddr t x f=>rw[<-hx x (by simp)];exact hq
 case field t x f=>rw[<-hx x (by simp)];exact hq
 case indexAddr t x y=>rw[<-hx x (by simp),<-hx y (by simp)];exact hq
 case index t x y=>rw[<-hx x (by simp),<-hx y (by simp)];exact hq
 case extract x i=>rw[<-hx x (by simp)];exact hq
 case call c=>
  have hm:c.args.toList.map rho=c.args.toList.map rho':=vA fun x BR=>hx x (by simp[Call.operands,fm.1 BR]);have ha:∀x∈c.args.toList,rho x=rho' x:=fun x BR=>hx x (by simp[Call.operands,fm.1 BR]);split at hq
  ·split at hq
   ·rename_i h1 h2;simp only[h1,h2]at *;rw[<-ha _ (by simp)];exact hq
   exact hq
  ·split at hq
   ·rename_i h1 h2;simp only[h1,h2]at *;rw[<-ha _ (by simp)];exact hq
   exact hq
  ·split at hq
   ·rename_i h1;simp only[h1]at *;rw[<-ha _ (by simp),<-ha _ (by simp)];exact hq
   exact hq
  ·split at hq
   ·rename_i h1;simp only[h1]at *;rw[<-ha _ (by simp),<-ha _ (by simp)];exact hq
   ·rename_i h1;simp only[h1]at *;rw[<-ha _ (by simp),<-ha _ (by simp),<-ha _ (by simp)];exact hq
   ·rename_i h1;simp only[h1]at *;rw[<-ha _ (by simp),<-ha _ (by simp),<-ha _ (by simp),<-ha _ (by simp),<-ha _ (by simp)];exact hq
   exact hq
  ·split at hq
   ·rename_i h1 h2;simp only[h1,h2]at *;rw[<-ha _ (by simp),<-ha _ (by simp)];exact hq
   exact hq
  ·rename_i g hc;have Fx:c.callee=.value g:=by
    cases Oy:c.callee with
    | value g'=>rw[Oy]at hc;simp only[Ta]at hc;injection hc with hc;rw[hc]
    | invoke r m=>rw[Oy]at hc;cases hc
    | builtin b=>rw[Oy]at hc;cases b<;>cases hc
   have hg:=hx g (by simp[Call.operands,Fx]);rw[<-hg,<-hm];exact hq
  exact hq
end Go.AM
namespace Go.AM
open Go.RowKit
theorem pE{h h':Nat->AB}{id:Nat}:∀(fe:List (Nat×AB)) ,h id=h' id->app h fe id=app h' fe id:=by
 intro fe
 induction fe generalizing h h' with
 | nil=>intro e;exact e
 | cons x fe ih=>
  intro e;refine ih ?_;by_cases hx:id=x.1
  ·rw[hx,ak,ak]
  rw[au _ _ hx,au _ _ hx];exact e
theorem gE{h:Nat->AB}:∀{fe:List (Nat×AB)},fb h fe=true->∀p∈fe,(h p.1).there:=by
 intro fe
 induction fe with
 | nil=>intro _ p hp;cases hp
 | cons x fe ih=>
  intro hh p hp;simp only[fb,qK]at hh;rcases fL.1 hp with e | e
  ·subst e;have:=hh.1;cases hx:h p.1<;>rw[hx]at this<;>first | trivial | (simp[Ei]at this)
  exact ih hh.2 p e
def Hn(B:Nat->AB)(r:Nat->RR)(E:Nat->Bool):Nat->Nat->AB
 | 0=>B
 | i+1=>match E i with
  | true=>app (Hn B r E i) (r i).eff
  | false=>Hn B r E i
theorem HV{B:Nat->AB}{r:Nat->RR}{E:Nat->Bool}(i:Nat):∀(m:Nat),(∀k,k<m->(E k=true↔k<i)\/(r k).eff=[])->i<=m->Hn B r E m=Hn B r (fun _=>true) i:=by
 have low:∀m,m<=i->(∀k,k<m->(E k=true↔k<i)\/(r k).eff=[])->Hn B r E m=Hn B r (fun _=>true) m:=by
  intro m
  induction m with
  | zero=>intro _ _;rfl
  | succ m ih=>
   intro hm hk;have h1:=ih (by omega) (fun k mF=>hk k (by omega));simp only[Hn];rw[h1];rcases hk m (by omega) with h | h
   ·rw[h.2 (by omega)]
   rw[h];cases E m<;>rfl
 intro m
 induction m with
 | zero=>
      intro _ hi;have:i=0:=by omega
      subst this;rfl
 | succ m ih=>
  intro hk hi;by_cases e:i=m+1
  ·subst e;exact low (m+1) (aC _) hk
  have h1:=ih (fun k mF=>hk k (by omega)) (by omega);rw[<-h1];simp only[Hn];rcases hk m (by omega) with h | h
  ·have:E m=false:=by rw[cr];intro ht;have:=h.1 ht;omega
   rw[this]
  rw[h];cases E m<;>rfl
theorem Ja{B:Nat->AB}{r:Nat->RR}{E:Nat->Bool}{i:Nat}(hi:E i=false):∀(m:Nat),(∀k,i<k->k<m->E k=true->(r k).eff=[])->i<m->Hn B r (fun k=>E k||bB k i) m=app (Hn B r E m) (r i).eff:=by
 have low:∀m,m<=i->Hn B r (fun k=>E k||bB k i) m=Hn B r E m:=by
  intro m
  induction m with
  | zero=>intro _;rfl
  | succ m ih=>
   intro hm;have:bB m i=false:=by rw[cr];intro h;have:=aG.1 h;omega
   simp only[Hn,this,vB];rw[ih (by omega)]
 intro m
 induction m with
 | zero=>intro _ h;omega
 | succ m ih=>
  intro hk dv;by_cases e:m=i
  ·subst e;simp only[Hn,hi,aG.2 rfl,ou];rw[low m (aC _)]
  have h1:=ih (fun k h1 h2=>hk k h1 (by omega)) (by omega);have:bB m i=false:=by rw[cr];intro h;exact e (aG.1 h)
  simp only[Hn,this,vB];rw[h1];cases hE:E m with
  | false=>rfl
  | true=>rw[hk m (by omega) (by omega) hE];rfl
theorem Eo(C:Ctx)(ap:Bool)(op:Op):cls C ap op<=3:=by
 unfold cls;split<;>first | decide | skip
 all_goals (cases ap<;>first | decide | skip)
 all_goals (split<;>first | decide | skip)
 all_goals (split<;>decide)
theorem Ep(C:Ctx)(op:Op):cls C true op≠1:=by
 unfold cls;split<;>first | decide | skip
 all_goals (split<;>first | decide | skip)
 all_goals (split<;>decide)
theorem Cm{C:Ctx}{ap:Bool}{o:Oper}{rho:Operand->AV}{h:Nat->AB}{K:KK}(hc:cls C ap o.op<=1)(hq:aZ C o rho h K):∃v e,K v e none:=by
 cases aq:o.op<;>rw[aq]at hc<;>simp only[aZ,aq]at hq
 case move x=>exact⟨_,_,hq⟩
 case assign x=>exact⟨_,_,hq⟩
 case pick c a b=>
  split at hq
  ·split at hq<;>exact⟨_,_,hq⟩
  exact hq.elim
 case binOp op t x y t'=>
  split at hq
  ·obtain⟨v,h1,_⟩:=xn hq;exact⟨_,_,h1⟩
  ·obtain⟨v,h1,_⟩:=xm hq;exact⟨_,_,h1⟩
  exact hq.elim
 case unOp op t x=>
  split at hq
  ·exact⟨_,_,hq⟩
  ·obtain⟨v,h1,_⟩:=jD hq;exact⟨_,_,h1⟩
  exact hq.elim
 case convert s d x=>
  split at hq
  ·obtain⟨v,h1,_⟩:=jD hq;exact⟨_,_,h1⟩
  ·exact⟨_,_,hq⟩
  ·exact⟨_,_,hq⟩
  exact hq.elim
 case extract x i=>
  split at hq
  ·split at hq
   ·exact⟨_,_,hq⟩
   exact hq.elim
  exact hq.elim
 case index t x y=>
  split at hq
  ·obtain⟨b,_,hq⟩:=hq;exact⟨_,_,hq⟩
  exact hq.elim
 case field t x f=>
  split at hq
  ·split at hq
   ·split at hq
    ·split at hq
     ·exact⟨_,_,hq⟩
     exact hq.elim
    split at hq
    ·exact⟨_,_,hq⟩
    exact hq.elim
   exact hq.elim
  exact hq.elim
 case makeFunc fn first cap=>
  cases fn with
  | func f=>
   simp only at hq;split at hq
   ·exact⟨_,_,hq⟩
   exact hq.elim
  | _=>exact hq.elim
 case fieldAddr t x f=>
  split at hq
  ·split at hq
   ·split at hq
    ·exact⟨_,_,hq⟩
    ·split at hq
     ·exact hq.elim
     exact⟨_,_,hq⟩
    ·split at hq
     ·exact⟨_,_,hq⟩
     ·exact⟨_,_,hq⟩
     exact hq.elim
    exact hq.elim
   exact hq.elim
  exact hq.elim
 case nilCheck x=>
  split at hq
  ·exact⟨_,_,hq⟩
  ·split at hq
   ·exact⟨_,_,hq⟩
   ·exact⟨_,_,hq⟩
   exact hq.elim
  ·split at hq
   ·exact⟨_,_,hq⟩
   ·exact⟨_,_,hq⟩
   exact hq.elim
  ·split at hq
   ·exact⟨_,_,hq⟩
   exact hq.elim
  exact hq.elim
 case call c=>
  simp only[cls]at hc;split at hc
  ·exact absurd hc (by decide)
  ·exact absurd hc (by decide)
  ·rename_i h1;simp only[h1,Ta,dK]at hq;split at hq
   ·split at hq
    ·exact⟨_,_,hq⟩
    exact hq.elim
   exact hq.elim
  ·rename_i h1;simp only[h1,Ta,dK]at hq;split at hq
   ·split at hq
    ·exact⟨_,_,hq⟩
    exact hq.elim
   ·split at hq
    ·exact⟨_,_,hq⟩
    exact hq.elim
   ·split at hq
    ·exact⟨_,_,hq⟩
    exact hq.elim
   exact hq.elim
  ·split at hc<;>exact absurd hc (by decide)
  ·exact absurd hc (by decide)
  exact absurd hc (by decide)
 all_goals exact absurd hc (by simp[cls])
theorem Gp{C:Ctx}{ap:Bool}{o:Oper}{rho:Operand->AV}{h:Nat->AB}{v:AV}{e:List (Nat×AB)}{n:Option AB}{b:AB}(hq:aZ C o rho h fun v' e' n'=>v'=v/\e'=e/\n'=n)(hn:some b=n):cls C ap o.op=3\/cls C ap o.op=2:=by
 have hle:=Eo C ap o.op;by_cases h1:cls C ap o.op<=1
 ·obtain⟨_,_,_,_,h2⟩:=Cm h1 hq;rw[<-h2]at hn;cases hn
 omega
section
variable {C:Ctx} {ops:Array Oper} {st:Nat->AS} {r:Nat->RR} {ap:Bool} {X:List Nat}
theorem LH{B:Nat->AB}{r:Nat->RR}{E:Nat->Bool}{d:Nat}(i:Nat):∀(m:Nat),(∀k,k<m->(E k=true↔k<i)\/∀p∈(r k).eff,p.1≠d)->i<=m->Hn B r E m d=Hn B r (fun _=>true) i d:=by
 have low:∀m,m<=i->(∀k,k<m->(E k=true↔k<i)\/∀p∈(r k).eff,p.1≠d)->Hn B r E m d=Hn B r (fun _=>true) m d:=by
  intro m
  induction m with
  | zero=>intro _ _;rfl
  | succ m ih=>
   intro hm hk;have h1:=ih (by omega) (fun k mF=>hk k (by omega));simp only[Hn];rcases hk m (by omega) with h | h
   ·rw[h.2 (by omega)];exact pE _ h1
   cases E m with
   | true=>exact pE _ h1
   | false=>exact h1.trans (fo h).symm
 intro m
 induction m with
 | zero=>
      intro _ hi;have:i=0:=by omega
      subst this;rfl
 | succ m ih=>
  intro hk hi;by_cases e:i=m+1
  ·subst e;exact low (m+1) (aC _) hk
  have h1:=ih (fun k mF=>hk k (by omega)) (by omega);rw[<-h1];simp only[Hn];rcases hk m (by omega) with h | h
  ·have:E m=false:=by rw[cr];intro ht;have:=h.1 ht;omega
   rw[this]
  cases E m with
  | true=>exact fo h
  | false=>rfl
structure Oz(C:Ctx)(ap:Bool)(ops:Array Oper)(i j:Nat)(oi oj:Oper):Prop where
 dst:∀x,oi.dst=some x->oj.dst≠some x
 war:∀d,oj.dst=some d->d∈oi.looksAt ops->((Region.before ops).getD j 0).testBit i=true
 raw:∀d,oi.dst=some d->d∈oj.looksAt ops->((Region.before ops).getD j 0).testBit i=true
 w3:cls C ap oj.op=3->cls C ap oi.op=3->((Region.before ops).getD j 0).testBit i=true
theorem iw(hok:iJ C ops=true):zy ops (Region.before ops)=true/\(∀(j:Nat) oj,ops[j]?=some oj->∀d,oj.dst=some d->d ∉ oj.looksAt ops)/\
  ∀(i j:Nat) oi oj,i<j->ops[i]?=some oi->ops[j]?=some oj->Oz C (ops.toList.any fun o=>gm C o.op) ops i j oi oj:=by
 simp only[iJ,qK]at hok;obtain⟨h1,h2⟩:=hok;have hj:∀(j:Nat) oj,ops[j]?=some oj->zx ops oj=true/\∀(i:Nat) oi,i<j->ops[i]?=some oi->zr C (ops.toList.any fun o=>gm C o.op) ops (Region.before ops) i j oi oj=true:=by
  intro j oj zA;have h3:=cC.1 h2 j (dA.2 (vn.1 zA).1);simp only[zA,qK]at h3;refine⟨h3.1,fun i oi hi OA=>?_⟩;have h4:=cC.1 h3.2 i (dA.2 hi);simp only[OA]at h4;exact h4
 refine⟨h1,fun j oj zA d hd=>?_,fun i j oi oj F8 OA zA=>?_⟩
 ·have:=(hj j oj zA).1;simp only[zx,hd,pC]at this;simpa using this
 have h3:=(hj j oj zA).2 i oi F8 OA;simp only[zr,qK]at h3;obtain⟨⟨⟨p1,p2⟩,p3⟩,p4⟩:=h3;refine⟨fun x hx hy=>?_,fun d hd hm=>?_,fun d hd hm=>?_,fun hc hi=>?_⟩
 ·simp only[hx,hy,aG.2 rfl,vz]at p1;cases p1
 ·simp only[hd,pC]at p2;have mD:(oi.looksAt ops).contains d=true:=by simpa using hm
  rw[mD]at p2;simpa using p2
 ·simp only[hd,pC]at p3;have mD:(oj.looksAt ops).contains d=true:=by simpa using hm
  rw[mD]at p3;simpa using p3
 rw[ae hc,ae hi]at p4;exact p4
theorem zC(hok:iJ C ops=true)(H:∀(i:Nat) o,ops[i]?=some o->DStep C ap ops.toList o (st i) (r i) (st (i+1))){i:Nat}{o:Oper}(ho:ops[i]?=some o){d:Tmp}(hd:o.dst=some d):∀k,i+1<=k->k<=ops.size->(st k).t d=(r i).v:=by
 obtain⟨_,hs,hp⟩:=iw hok;intro k
 induction k with
 | zero=>intro h;omega
 | succ k ih=>
  intro Ku hk;by_cases e:i=k
  ·subst e;rw[(H i o ho).next,hd];exact ak _ _ _
  have h1:=ih (by omega) (by omega);have xH:ops[k]?=some ops[k]:=bE (by omega);rw[(H k _ xH).next];show cU (st k).t _ _ d=_;have bO:=(hp i k o _ (by omega) ho xH).dst d hd;cases tY:ops[k].dst with
  | none=>exact h1
  | some d'=>rw[cU,au _ _ (fun e=>bO (by rw[tY,e]))];exact h1
theorem vD(H:∀(i:Nat) o,ops[i]?=some o->DStep C ap ops.toList o (st i) (r i) (st (i+1))){x:Nat}(hx:∀(k:Nat) o,ops[k]?=some o->o.dst≠some x):∀k,k<=ops.size->(st k).t x=(st 0).t x:=by
 intro k
 induction k with
 | zero=>intro _;rfl
 | succ k ih=>
  intro hk;have xH:ops[k]?=some ops[k]:=bE (by omega);rw[(H k _ xH).next];show cU (st k).t _ _ x=_;cases tY:ops[k].dst with
  | none=>exact ih (by omega)
  | some d'=>rw[cU,au _ _ (fun e=>hx k _ xH (by rw[tY,e]))];exact ih (by omega)
theorem Cn(hok:iJ C ops=true)(H:∀(i:Nat) o,ops[i]?=some o->DStep C ap ops.toList o (st i) (r i) (st (i+1))){j:Nat}{o:Oper}(ho:ops[j]?=some o){d:Tmp}(hd:o.dst=some d):∀k,k<=j->(st k).t d=(st 0).t d:=by
 obtain⟨_,hs,hp⟩:=iw hok;have hj:=(vn.1 ho).1;intro k
 induction k with
 | zero=>intro _;rfl
 | succ k ih=>
  intro hk;have xH:ops[k]?=some ops[k]:=bE (by omega);rw[(H k _ xH).next];show cU (st k).t _ _ d=_;cases tY:ops[k].dst with
  | none=>exact ih (by omega)
  | some d'=>rw[cU,au _ _ (fun e=>(hp k j _ o (by omega) xH ho).dst d' tY (by rw[hd,e]))];exact ih (by omega)
def Co(ops:Array Oper)(r:Nat->RR)(k d:Nat)(b:AB):Prop:=∃o,ops[k]?=some o/\o.dst=some d/\(r k).new=some b
def fc(ops:Array Oper)(r:Nat->RR)(i d:Nat):Prop:=∃k b,i<=k/\Co ops r k d b
theorem nv(hok:iJ C ops=true)(H:∀(i:Nat) o,ops[i]?=some o->DStep C ap ops.toList o (st i) (r i) (st (i+1))){B:Nat->AB}(Cp:∀k d b,Co ops r k d b->B d=b)(s_:∀d,¬fc ops r 0 d->B d=(st 0).h d)(h0:∀d,fc ops r 0 d->(st 0).h d=.none):
  ∀i,i<=ops.size->∀d,(fc ops r i d->(st i).h d=.none/\Hn B r (fun _=>true) i d=B d)/\(¬fc ops r i d->(st i).h d=Hn B r (fun _=>true) i d):=by
 obtain⟨_,hs,hp⟩:=iw hok;intro i
 induction i with
 | zero=>intro _ d;exact⟨fun h=>⟨h0 d h,rfl⟩,fun h=>(s_ d h).symm⟩
 | succ i ih=>
  intro hi d;have ih:=ih (by omega);have ho:ops[i]?=some ops[i]:=bE (by omega);have D:=H i _ ho;have hth:=gE D.there;have OB:Hn B r (fun _=>true) (i+1)=app (Hn B r (fun _=>true) i) (r i).eff:=rfl;have wL:(st (i+1)).h=jA (app (st i).h (r i).eff) (ops[i].dst.getD 0) (r i).new:=by rw[D.next]
  have out:fc ops r i d->∀p∈(r i).eff,p.1≠d:=fun q_ p HW e=>by
   have h1:=hth p HW;rw[e,((ih d).1 q_).1]at h1;exact h1
  have LI:∀b,(r i).new=some b->∃d',ops[i].dst=some d':=fun b hb=>by
   have:=D.ndst;rw[hb]at this;cases hd:ops[i].dst with
   | none=>rw[hd]at this;cases this
   | some d'=>exact⟨d',rfl⟩
  refine⟨fun q_=>?_,fun q_=>?_⟩
  ·have Gq:fc ops r i d:=by obtain⟨k,b,h1,h2⟩:=q_;exact⟨k,b,by omega,h2⟩
   obtain⟨h1,h2⟩:=(ih d).1 Gq;refine⟨?_,by rw[OB,fo (out Gq)];exact h2⟩;rw[wL];cases hn:(r i).new with
   | none=>show app _ _ d=_;rw[fo (out Gq)];exact h1
   | some b=>
    obtain⟨d',tY⟩:=LI b hn;rw[tY];show ax _ d' b d=_;have bO:d≠d':=fun e=>by
     obtain⟨k,b',h3,o',h4,h5,h6⟩:=q_;exact (hp i k _ o' (by omega) ho h4).dst d' tY (by rw[h5,e])
    rw[au _ _ bO,fo (out Gq)];exact h1
  by_cases hc:∃b,Co ops r i d b
  ·obtain⟨b,hc⟩:=hc;have Gq:fc ops r i d:=⟨i,b,aC _,hc⟩;obtain⟨o',h4,h5,h6⟩:=hc;rw[ho]at h4;injection h4 with h4;rw[wL,OB,fo (out Gq),((ih d).1 Gq).2,h6,h4,h5,Cp i d b ⟨o',by rw[ho,h4],h5,h6⟩];exact ak _ _ _
  have Gq:¬fc ops r i d:=fun ⟨k,b,h1,h2⟩=>by
   by_cases e:k=i
   ·subst e;exact hc ⟨b,h2⟩
   exact q_ ⟨k,b,by omega,h2⟩
  have h1:=(ih d).2 Gq;rw[wL,OB,<-pE (r i).eff h1];cases hn:(r i).new with
  | none=>rfl
  | some b=>
   obtain⟨d',tY⟩:=LI b hn;rw[tY];show ax _ d' b d=_;rw[au _ _ (fun e=>hc ⟨b,_,ho,by rw[tY,e],hn⟩)]
def KC(b b':AB):Prop:=b'=b\/(∃e es bW,b=.row e es/\b'=.row e bW)\/(∃cs dB,b=.box cs/\b'=.box dB)\/(∃mk es mk' bW,b=.map mk es/\b'=.map mk' bW)
theorem KC.trans{a b c:AB}(h:KC a b)(k:KC b c):KC a c:=by
 rcases h with rfl | ⟨e,es,bW,rfl,rfl⟩ | ⟨cs,dB,rfl,rfl⟩ | ⟨m,es,m',bW,rfl,rfl⟩
 ·exact k
 ·rcases k with rfl | ⟨e',fs,Jb,h1,rfl⟩ | ⟨cs,dB,h1,rfl⟩ | ⟨_,_,_,_,h1,rfl⟩
  ·exact .inr (.inl ⟨_,_,_,rfl,rfl⟩)
  ·injection h1 with h1 h2;subst h1;exact .inr (.inl ⟨_,_,_,rfl,rfl⟩)
  ·cases h1
  cases h1
 ·rcases k with rfl | ⟨e',fs,Jb,h1,rfl⟩ | ⟨ds,OC,h1,rfl⟩ | ⟨_,_,_,_,h1,rfl⟩
  ·exact .inr (.inr (.inl ⟨_,_,rfl,rfl⟩))
  ·cases h1
  ·exact .inr (.inr (.inl ⟨_,_,rfl,rfl⟩))
  cases h1
 rcases k with rfl | ⟨e',fs,Jb,h1,rfl⟩ | ⟨ds,OC,h1,rfl⟩ | ⟨_,_,_,_,h1,rfl⟩
 ·exact .inr (.inr (.inr ⟨_,_,_,_,rfl,rfl⟩))
 ·cases h1
 ·cases h1
 exact .inr (.inr (.inr ⟨_,_,_,_,rfl,rfl⟩))
theorem Er{b b':AB}(h:Eh b b'=true):KC b b':=by
 cases b<;>cases b'<;>first | (simp[Eh]at h;done) | skip
 ·have:=aG.1 h;subst this;exact .inr (.inl ⟨_,_,_,rfl,rfl⟩)
 ·exact .inr (.inr (.inl ⟨_,_,rfl,rfl⟩))
 exact .inr (.inr (.inr ⟨_,_,_,_,rfl,rfl⟩))
theorem oz{h:Nat->AB}:∀{fe:List (Nat×AB)},gD h fe=true->∀p∈fe,KC (h p.1) p.2:=by
 intro fe
 induction fe with
 | nil=>intro _ p hp;cases hp
 | cons x fe ih=>
  intro hh p hp;simp only[gD,qK]at hh;rcases fL.1 hp with e | e
  ·subst e;exact Er hh.1
  exact ih hh.2 p e
theorem sg(hok:iJ C ops=true)(H:∀(i:Nat) o,ops[i]?=some o->DStep C ap ops.toList o (st i) (r i) (st (i+1)))(Gr:ap=false){B:Nat->AB}(Cp:∀k d b,Co ops r k d b->B d=b)(s_:∀d,¬fc ops r 0 d->B d=(st 0).h d)(h0:∀d,fc ops r 0 d->(st 0).h d=.none)(E:Nat->Bool):
  ∀m,m<=ops.size->∀d,KC (B d) (Hn B r E m d):=by
 have hh:=nv hok H Cp s_ h0;have canon:∀m,m<=ops.size->∀d,KC (B d) (Hn B r (fun _=>true) m d):=by
  intro m
  induction m with
  | zero=>intro _ d;exact .inl rfl
  | succ m ih=>
   intro hm d;have ho:ops[m]?=some ops[m]:=bE (by omega);have D:=H m _ ho;show KC (B d) (app (Hn B r (fun _=>true) m) (r m).eff d);rcases dx (r m).eff (Hn B r (fun _=>true) m) d with⟨b,h1,h2⟩ | ⟨_,h2⟩
   ·rw[h2];have hk:=oz (D.kind Gr) _ h1;have ht:=gE D.there _ h1;have OD:¬fc ops r m d:=fun hp=>by rw[((hh m (by omega) d).1 hp).1]at ht;exact ht
    rw[(hh m (by omega) d).2 OD]at hk;exact (ih (by omega) d).trans hk
   rw[h2];exact ih (by omega) d
 intro m
 induction m with
 | zero=>intro _ d;exact .inl rfl
 | succ m ih=>
  intro hm d;have ho:ops[m]?=some ops[m]:=bE (by omega);have D:=H m _ ho;simp only[Hn];cases E m with
  | false=>exact ih (by omega) d
  | true=>
   show KC (B d) (app (Hn B r E m) (r m).eff d);rcases dx (r m).eff (Hn B r E m) d with⟨b,h1,h2⟩ | ⟨_,h2⟩
   ·rw[h2];have hk:=oz (D.kind Gr) _ h1;have ht:=gE D.there _ h1;have OD:¬fc ops r m d:=fun hp=>by rw[((hh m (by omega) d).1 hp).1]at ht;exact ht
    rw[(hh m (by omega) d).2 OD]at hk;exact (canon m (by omega) d).trans hk
   rw[h2];exact ih (by omega) d
def VE(ops:Array Oper)(E:Nat->Bool)(x:Nat):Prop:=∀(k:Nat) o,ops[k]?=some o->o.dst=some x->E k=true
open Classical in
noncomputable def TE(ops:Array Oper)(st:Nat->AS)(E:Nat->Bool)(x:Nat):AV:=if VE ops E x then (st ops.size).t x else (st 0).t x
def LE(ops:Array Oper)(r:Nat->RR)(E:Nat->Bool)(d:Nat):Prop:=∀k b,Co ops r k d b->E k=true
variable {id:Nat}
theorem Es{h:Nat->AB}{c:Nat}:∀{eff:List (Nat×AB)},(∀p∈eff,p.1=id->kc p.2=c)->kc (h id)=c->kc (app h eff id)=c:=by
 intro eff
 induction eff generalizing h with
 | nil=>intro _ h2;exact h2
 | cons p r ih=>
  intro h1 h2;obtain⟨q,b⟩:=p;refine ih (h:=ax h q b) (fun p hp e=>h1 p (An _ hp) e) ?_;by_cases e:id=q
  ·subst e;rw[ak];exact h1 _ dJ rfl
  rw[au _ _ e];exact h2
theorem zD{X:List Nat}{h:Nat->AB}(hid:tx X (id+1000000)=true):∀{eff:List (Nat×AB)},ox X h eff=true->∀p∈eff,p.1=id->kc p.2=kc (h id)/\kc (h id)≠0:=by
 intro eff
 induction eff with
 | nil=>intro _ p hp;cases hp
 | cons q r ih=>
  intro hk p hp e;obtain⟨i,b⟩:=q;unfold ox at hk;split at hk
  ·rename_i hi;simp only[qK,j8]at hk;obtain⟨k1,k2,k3⟩:=hk;rcases fL.1 hp with rfl | hp
   ·simp only at e;subst e;exact⟨bq k1,fun e0=>by rw[e0]at k2;cases k2⟩
   exact ih k3 p hp e
  rename_i hi;rcases fL.1 hp with rfl | hp
  ·simp only at e;subst e;rw[hid]at hi;cases hi
  exact ih hk p hp e
theorem Et{X:List Nat}(hok:iJ C ops=true)(H:∀(i:Nat) o,ops[i]?=some o->DStep C ap ops.toList o (st i) (r i) (st (i+1)))(Eu:∀k,k<ops.size->ox X (st k).h (r k).eff=true){B:Nat->AB}(hh:∀i,i<=ops.size->∀d,(fc ops r i d->(st i).h d=.none/\Hn B r (fun _=>true) i d=B d)/\(¬fc ops r i d->(st i).h d=Hn B r (fun _=>true) i d))(E:Nat->Bool){i:Nat}(hid:tx X (id+1000000)=true)(hi:i<=ops.size)(bO:(st i).h id≠.none):
  (kc (Hn B r E ops.size id)=kc ((st i).h id)/\kc ((st i).h id)≠0)\/Hn B r E ops.size id=(st i).h id:=by
 have OE:∀k,k<=ops.size->(st k).h id≠.none->(st k).h id=Hn B r (fun _=>true) k id:=fun k hk h=>by
  by_cases hp:fc ops r k id
  ·exact absurd ((hh k hk id).1 hp).1 h
  exact (hh k hk id).2 hp
 have OF:∀{b:AB},kc b≠0->b≠.none:=fun hb e=>by rw[e]at hb;exact hb rfl
 have spec:∀m,m<ops.size->∀p∈(r m).eff,p.1=id->kc p.2=kc (Hn B r (fun _=>true) m id)/\kc (Hn B r (fun _=>true) m id)≠0:=fun m hm p hp e=>by
  obtain⟨h1,h2⟩:=zD hid (Eu m hm) p hp e;rw[OE m (by omega) (OF h2)]at h1 h2;exact⟨h1,h2⟩
 by_cases ht:∃k,k<ops.size/\∃p∈(r k).eff,p.1=id
 ·left;have same:∀m,m<=ops.size->kc (Hn B r (fun _=>true) m id)=kc (B id):=by
   intro m
   induction m with
   | zero=>intro _;rfl
   | succ m ih=>
    intro hm;have:=ih (by omega);show kc (app (Hn B r (fun _=>true) m) (r m).eff id)=_;exact Es (fun p hp e=>(spec m (by omega) p hp e).1.trans this) this
  have any:∀m,m<=ops.size->kc (Hn B r E m id)=kc (B id):=by
   intro m
   induction m with
   | zero=>intro _;rfl
   | succ m ih=>
    intro hm;simp only[Hn];cases E m with
    | false=>exact ih (by omega)
    | true=>exact Es (fun p hp e=>(spec m (by omega) p hp e).1.trans (same m (by omega))) (ih (by omega))
  obtain⟨k,hk,p,hp,e⟩:=ht;have h0:=(spec k hk p hp e).2;rw[same k (by omega)]at h0;have hs:kc ((st i).h id)=kc (B id):=by rw[OE i hi bO];exact same i hi
  exact⟨by rw[any _ (aC _),hs],by rw[hs];exact h0⟩
 right;have un:∀(F:Nat->Bool) m,m<=ops.size->Hn B r F m id=B id:=by
  intro F m
  induction m with
  | zero=>intro _;rfl
  | succ m ih=>
   intro hm;simp only[Hn];cases F m with
   | false=>exact ih (by omega)
   | true=>
    show app (Hn B r F m) (r m).eff id=_;rw[fo fun p FC e=>ht ⟨m,by omega,p,FC,e⟩];exact ih (by omega)
 rw[un E _ (aC _),OE i hi bO,un _ i hi]
theorem Gs{A:jR}(hC:aL A.C)(Gr:ap=ops.toList.any fun o=>gm A.C o.op)(hok:iJ A.C ops=true)(hd:∀o∈ops.toList,gP o A.n)(H:∀(i:Nat) o,ops[i]?=some o->DStep A.C ap ops.toList o (st i) (r i) (st (i+1)))(G:∀(i:Nat) o,ops[i]?=some o->se A.C ap X (fS A.C ap ops) o (st i) (r i) i){B:Nat->AB}(Cp:∀k d b,Co ops r k d b->B d=b)(s_:∀d,¬fc ops r 0 d->B d=(st 0).h d)(h0:∀d,fc ops r 0 d->(st 0).h d=.none)
  {E:Nat->Bool} (hE:zz ops E) {i:Nat} {o:Oper} (ho:ops[i]?=some o) (hi:E i=false) (fI:∀e∈o.after,Region.binds .any e=true->E e.on=true) {S:Nat->Prop} {rho:Nat->Value} {a:Act} {w:World} (sim:aU A bk (LE ops r E) S rho ⟨TE ops st E,Hn B r E ops.size⟩ a w)
  {Q:Exit->Act->World->Prop} {next:Act->World->Prop} (hnext:∀S' rho' a' w',aU A bk (LE ops r fun k=>E k||bB k i) S' rho' ⟨TE ops st (fun k=>E k||bB k i),Hn B r (fun k=>E k||bB k i) ops.size⟩ a' w'->next a' w'):wpOp A.C.P ops Q i next a w:=by
 obtain⟨Ev,hs,hp⟩:=iw hok;rw[<-Gr]at hp;obtain⟨HY,LJ⟩:=uc Ev;have iR:i<ops.size:=(vn.1 ho).1;have hh:=nv hok H Cp s_ h0;have D:=H i o ho;have Ly:gP o A.n:=hd o (aj (by simpa using ho));have bits:∀k,k<i->((Region.before ops).getD i 0).testBit k=true->E k=true:=LJ E hE i o ho fI;have later:∀(k:Nat) ok,ops[k]?=some ok->i<k->((Region.before ops).getD k 0).testBit i=true->E k=false:=by
  intro k ok hk Ku OG;rw[cr];intro xI;have:=LJ E hE k ok hk (fun e he hb=>hE k ok hk xI e he hb) i Ku OG;rw[hi]at this;cases this
 have ue:∀x,x∈o.looksAt ops->TE ops st E x=(st i).t x:=by
  intro x hx;unfold TE;split
  ·rename_i hv;by_cases hw:∃(k:Nat) (ok:Oper),ops[k]?=some ok/\ok.dst=some x
   ·obtain⟨k,ok,hk,vE⟩:=hw;have wN:=(vn.1 hk).1;rcases gC k i with h | h | h
    ·rw[zC hok H hk vE ops.size (by omega) (aC _),zC hok H hk vE i (by omega) (by omega)]
    ·subst h;rw[ho]at hk;injection hk with hk;subst hk;exact absurd hx (hs k o ho x vE)
    have h1:=later k ok hk h ((hp i k o ok h ho hk).war x vE hx);rw[hv k ok hk vE]at h1;cases h1
   have bO:∀(k:Nat) o,ops[k]?=some o->o.dst≠some x:=fun k o hk e=>hw ⟨k,o,hk,e⟩;rw[vD H bO ops.size (aC _),vD H bO i (by omega)]
  rename_i hv;have hex:∃(k:Nat) (ok:Oper),ops[k]?=some ok/\ok.dst=some x/\E k=false:=Classical.byContradiction fun hn=>hv fun k ok hk vE=>by
   cases RC:E k with
   | true=>rfl
   | false=>exact absurd ⟨k,ok,hk,vE,RC⟩ hn
  obtain⟨k,ok,hk,vE,xI⟩:=hex;rcases gC k i with h | h | h
  ·have:=bits k h ((hp k i ok o h hk ho).raw x vE hx);rw[xI]at this;cases this
  ·subst h;rw[ho]at hk;injection hk with hk;subst hk;exact absurd hx (hs k o ho x vE)
  exact (Cn hok H hk vE i (by omega)).symm
 have HZ:(cls A.C ap o.op=3\/(cls A.C ap o.op=2/\(fS A.C ap ops)[i]?=some true))->∀k,i<k->k<ops.size->E k=true->(r k).eff=[]:=by
  intro hc k Ku wN xI;have hk:ops[k]?=some ops[k]:=bE wN;by_cases h3:cls A.C ap ops[k].op=3
  ·have:=later k _ hk Ku (by
    rcases hc with hc | ⟨hc,hf⟩
    ·exact (hp i k o _ Ku ho hk).w3 h3 hc
    exact (pD ho hf hc k _ hk h3).2 Ku)
   rw[xI]at this;cases this
  exact (H k _ hk).quiet h3
 have Ew:∀k,k<ops.size->(r k).eff≠[]->cls A.C ap (ops[k]?.getD o).op=3:=by
  intro k hk bO;have mF:ops[k]?=some ops[k]:=bE hk;rw[mF];by_cases h3:cls A.C ap ops[k].op=3
  ·exact h3
  exact absurd ((H k _ mF).quiet h3) bO
 have Ex:(cls A.C ap o.op=3\/(cls A.C ap o.op=2/\(fS A.C ap ops)[i]?=some true))->Hn B r E ops.size=Hn B r (fun _=>true) i:=by
  intro hc;refine HV i ops.size (fun k wN=>?_) (by omega);have hk:ops[k]?=some ops[k]:=bE wN;by_cases bO:(r k).eff=[]
  ·exact .inr bO
  have h3:=Ew k wN bO;rw[hk]at h3;have h3:cls A.C ap ops[k].op=3:=h3;refine .inl ⟨fun xI=>?_,fun dv=>?_⟩
  ·rcases gC k i with h | h | h
   ·exact h
   ·subst h;rw[hi]at xI;cases xI
   exact absurd (HZ hc k h wN xI) bO
  rcases hc with hc | ⟨hc,hf⟩
  ·exact bits k dv ((hp k i _ o dv hk ho).w3 hc h3)
  exact bits k dv ((pD ho hf hc k _ hk h3).1 dv)
 have OH:cls A.C ap o.op=2->Gm o.op=false->∀id,tx X id=true->Hn B r E ops.size id=Hn B r (fun _=>true) i id:=fun hc hth id hid=>by
  refine LH i ops.size (fun k wN=>?_) (by omega);have hk:ops[k]?=some ops[k]:=bE wN;by_cases bO:∀p∈(r k).eff,p.1≠id
  ·exact .inr bO
  have BV:(r k).eff≠[]:=fun e=>bO (by rw[e];simp);have h3:cls A.C ap ops[k].op=3:=by have:=Ew k wN BV;rw[hk]at this;exact this
  have OI:(r k).run=true:=by
   cases hr:(r k).run with
   | true=>rfl
   | false=>exact absurd ((H k _ hk).not hr).2.1 BV
  have hf:(fS A.C ap ops)[k]?=some true:=by
   rcases (G k _ hk OI).2.1 with h | h
   ·exact h
   exact absurd (fun p hp e=>by have:=xD h p hp;rw[e,hid]at this;cases this) bO
  have ord:=sf hk hf h3 i o ho hc hth;refine .inl ⟨fun xI=>?_,fun dv=>?_⟩
  ·rcases gC k i with h | h | h
   ·exact h
   ·subst h;rw[hi]at xI;cases xI
   have:=later k _ hk h (ord.1 h);rw[xI]at this;cases this
  exact bits k dv (ord.2 dv)
 have ext:∀id,(st i).h id=.none\/Hn B r (fun _=>true) i id=(st i).h id:=by
  intro id;by_cases q_:fc ops r i id
  ·exact .inl ((hh i (by omega) id).1 q_).1
  exact .inr ((hh i (by omega) id).2 q_).symm
 have PZ:(r i).run=true->aZ A.C o (ev (TE ops st E)) (Hn B r E ops.size) fun v e n=>v=(r i).v/\e=(r i).eff/\n=(r i).new:=by
  intro hrun;have h1:=D.ran hrun;have h2:aZ A.C o (ev (TE ops st E)) (st i).h fun v e n=>v=(r i).v/\e=(r i).eff/\n=(r i).new:=by
   refine me (fun x hx=>?_) h1;cases x with
   | tmp t=>
    exact (ue t (l_ _ (ma.2 ⟨.tmp t,by simpa using hx,rfl⟩))).symm
   | const v=>rfl
   | global g=>rfl
   | func f=>rfl
  have four:cls A.C ap o.op=0\/cls A.C ap o.op=1\/cls A.C ap o.op=2\/cls A.C ap o.op=3:=by
   have:=Eo A.C ap o.op;omega
  rcases four with h | h | h | h
  ·exact I5 h h2
  ·have LK:ap=false:=by
    cases OJ:ap with
    | false=>rfl
    | true=>
     rw[OJ]at h;exact absurd h (Ep A.C o.op)
   refine I6 h (fun id ht=>?_) h2;have H0:=sg hok H LK Cp s_ h0 E ops.size (aC _) id;have LL:=sg hok H LK Cp s_ h0 (fun _=>true) i (by omega) id;have heq:(st i).h id=Hn B r (fun _=>true) i id:=by
    rcases ext id with e | e
    ·rw[e]at ht;exact ht.elim
    exact e.symm
   rw[<-heq]at LL;rcases LL with e | ⟨e,es,bW,e1,e2⟩ | ⟨cs,dB,e1,e2⟩ | ⟨m,es,m',bW,e1,e2⟩
   ·rw[<-e]at H0;rcases H0 with f | ⟨f,fs,Jb,f1,f2⟩ | ⟨cs,dB,f1,f2⟩ | ⟨m,es,m',bW,f1,f2⟩
    ·rw[f];exact⟨ht,fun e es h=>⟨es,h⟩,fun cs h=>⟨cs,h⟩,fun cs h=>⟨cs,h⟩,fun e es h=>⟨es,h⟩,fun c0 ty a h=>⟨a,h⟩⟩
    ·rw[f1,f2];exact⟨trivial,fun e es h=>(by injection h with h1 h2;subst h1;exact⟨Jb,rfl⟩),fun cs h=>(by cases h),fun cs h=>(by cases h),fun _ _ h=>(by cases h),fun _ _ _ h=>by cases h⟩
    ·rw[f1,f2];exact⟨trivial,fun e es h=>by (cases h),fun cs h=>⟨dB,rfl⟩,fun cs h=>(by cases h),fun _ _ h=>(by cases h),fun _ _ _ h=>by cases h⟩
    rw[f1,f2];exact⟨trivial,fun e es h=>by (cases h),fun cs h=>by (cases h),fun cs h=>(by cases h),fun _ _ h=>(by cases h),fun _ _ _ h=>by cases h⟩
   ·rw[e1]at H0;rw[e2];rcases H0 with f | ⟨f,fs,Jb,f1,f2⟩ | ⟨cs,dB,f1,f2⟩ | ⟨m,es,m',bW,f1,f2⟩
    ·rw[f];exact⟨trivial,fun e es h=>(by injection h with h1 h2;subst h1;exact⟨_,rfl⟩),fun cs h=>by (cases h),fun cs h=>(by cases h),fun _ _ h=>(by cases h),fun _ _ _ h=>by cases h⟩
    ·injection f1 with f1 _;subst f1;rw[f2];exact⟨trivial,fun e es h=>(by injection h with h1 h2;subst h1;exact⟨_,rfl⟩),fun cs h=>by (cases h),fun cs h=>(by cases h),fun _ _ h=>(by cases h),fun _ _ _ h=>by cases h⟩
    ·cases f1
    cases f1
   ·rw[e1]at H0;rw[e2];rcases H0 with f | ⟨f,fs,Jb,f1,f2⟩ | ⟨ds,OC,f1,f2⟩ | ⟨m,es,m',bW,f1,f2⟩
    ·rw[f];exact⟨trivial,fun e es h=>by (cases h),fun cs h=>⟨_,rfl⟩,fun cs h=>(by cases h),fun _ _ h=>(by cases h),fun _ _ _ h=>by cases h⟩
    ·cases f1
    ·rw[f2];exact⟨trivial,fun e es h=>by (cases h),fun cs h=>⟨_,rfl⟩,fun cs h=>(by cases h),fun _ _ h=>(by cases h),fun _ _ _ h=>by cases h⟩
    cases f1
   rw[e1]at H0;rw[e2];rcases H0 with f | ⟨f,fs,Jb,f1,f2⟩ | ⟨ds,OC,f1,f2⟩ | ⟨m,es,m',bW,f1,f2⟩
   ·rw[f];exact⟨trivial,fun e es h=>by (cases h),fun cs h=>by (cases h),fun cs h=>(by cases h),fun _ _ h=>(by cases h),fun _ _ _ h=>by cases h⟩
   ·cases f1
   ·cases f1
   rw[f2];exact⟨trivial,fun e es h=>by (cases h),fun cs h=>by (cases h),fun cs h=>(by cases h),fun _ _ h=>(by cases h),fun _ _ _ h=>by cases h⟩
  ·rcases (G i o ho hrun).1 with hf | hpv | hfp | hth | h3
   case inr.inr.inr.inr=>rw[h]at h3;cases h3
   case inr.inr.inr.inl=>
    have Eu:∀k,k<ops.size->ox X (st k).h (r k).eff=true:=fun k wN=>by
     have hk:ops[k]?=some ops[k]:=bE wN;cases hr:(r k).run with
     | true=>exact (G k _ hk hr).2.2
     | false=>rw[((H k _ hk).not hr).2.1];rfl
    refine me (fun x hx=>?_) (I_ (h':=Hn B r E ops.size) (fun id hid bO=>Et hok H Eu hh E hid (by omega) bO) hth h1);cases x with
    | tmp t=>
     exact (ue t (l_ _ (ma.2 ⟨.tmp t,by simpa using hx,rfl⟩))).symm
    | const v=>rfl
    | global g=>rfl
    | func f=>rfl
   case inr.inr.inl=>
    refine me (fun x hx=>?_) (I9 (h':=Hn B r E ops.size) (fun id hid=>?_) hfp h1)
    ·cases x with
     | tmp t=>
      exact (ue t (l_ _ (ma.2 ⟨.tmp t,by simpa using hx,rfl⟩))).symm
     | const v=>rfl
     | global g=>rfl
     | func f=>rfl
    rw[OH h (AU hfp) id hid];exact ext id
   case inr.inl=>
    refine me (fun x hx=>?_) (I7 hpv h1);cases x with
    | tmp t=>
     exact (ue t (l_ _ (ma.2 ⟨.tmp t,by simpa using hx,rfl⟩))).symm
    | const v=>rfl
    | global g=>rfl
    | func f=>rfl
   rw[Ex (.inr ⟨h,hf⟩)];obtain⟨v,e,n,⟨rfl,rfl,rfl⟩,h4⟩:=l6 ext h2;exact h4 _ ⟨rfl,rfl,rfl⟩
  rw[Ex (.inl h)];obtain⟨v,e,n,⟨rfl,rfl,rfl⟩,h4⟩:=l6 ext h2;exact h4 _ ⟨rfl,rfl,rfl⟩
 have H3:∀x,o.dst≠some x->(VE ops (fun k=>E k||bB k i) x↔VE ops E x):=by
  intro x hx;refine⟨fun hv k ok hk vE=>?_,fun hv k ok hk vE=>by simp[hv k ok hk vE]⟩;have:=hv k ok hk vE;simp only[oa]at this;rcases this with h | h
  ·exact h
  have:=aG.1 h;subst this;rw[ho]at hk;injection hk with hk;subst hk;exact absurd vE hx
 have LM:∀v,v=(r i).v->cU (TE ops st E) o.dst v=TE ops st (fun k=>E k||bB k i):=by
  intro v hv;funext x;have other:o.dst≠some x->TE ops st E x=TE ops st (fun k=>E k||bB k i) x:=fun hx=>by
   unfold TE;by_cases Na:VE ops E x
   ·rw[ae Na,ae ((H3 x hx).2 Na)]
   rw[af Na,af fun h=>Na ((H3 x hx).1 h)]
  cases hZ:o.dst with
  | none=>exact other (by rw[hZ];intro h;cases h)
  | some d=>
   show ax _ _ _ _=_;by_cases e:x=d
   ·subst e;rw[ak];unfold TE;rw[ae,zC hok H ho hZ ops.size (by omega) (aC _),hv];intro k ok hk vE;have:k=i:=by
     rcases gC k i with h5 | h5 | h5
     ·exact absurd hZ ((hp k i ok o h5 hk ho).dst x vE)
     ·exact h5
     exact absurd vE ((hp i k o ok h5 ho hk).dst x hZ)
    simp[this,aG.2]
   rw[au _ _ e];exact other fun h=>e (by rw[hZ]at h;injection h with h;exact h.symm)
 unfold wpOp;simp only[ho];by_cases hrun:(r i).run=true
 ·have rZ:Region.wanted o (yielded ops a.tmps)=true:=by
   have hg:=D.guard;unfold Region.wanted;split at hg
   ·rename_i h;rw[h]
   rename_i g want h;rw[h];obtain⟨og,tg,b,k1,k2,k3,k4⟩:=hg;have Ey:tg∈o.looksAt ops:=ov _ (by rw[h];simp[show ops[g]?=some og by simpa using k1,k2]);have:=kb sim (ops:=ops) (g:=g) (by simpa using k1) k2 trivial (by show TE ops st E tg=_;rw[ue tg Ey];exact k3);simp only[this];rw[hrun]at k4;exact k4.symm
  rw[ae rZ];refine .inl (D0 A o _ _ _ _ _ _ _ _ next Q hC sim (fun _ _=>trivial) Ly (PZ hrun) (fun v eff b hk=>?_) fun v eff new S' rho' a' w' hk aQ=>?_)
  ·obtain⟨_,_,Kv⟩:=hk;obtain⟨d,hZ⟩:∃d,o.dst=some d:=by
    have:=D.ndst;rw[<-Kv]at this;cases tY:o.dst with
    | none=>rw[tY]at this;cases this
    | some d=>exact⟨d,rfl⟩
   have uf:Co ops r i d b:=⟨o,ho,hZ,Kv.symm⟩;rw[hZ];refine⟨fun hL=>(by have:=hL i b uf;rw[hi]at this;cases this),?_⟩;show Hn B r E ops.size d=b;have q_:fc ops r i d:=⟨i,b,aC _,uf⟩;have bO:∀k,k<ops.size->E k=true->∀p∈(r k).eff,p.1≠d:=by
    intro k wN xI p HW e;have hk:ops[k]?=some ops[k]:=bE wN;have ht:=gE (H k _ hk).there p HW;rcases gC k i with h | h | h
    ·have RD:fc ops r k d:=⟨i,b,by omega,uf⟩;rw[e,((hh k (by omega) d).1 RD).1]at ht;exact ht
    ·subst h;rw[hi]at xI;cases xI
    have h3:cls A.C ap ops[k].op=3:=by
     by_cases h3:cls A.C ap ops[k].op=3
     ·exact h3
     have:=(H k _ hk).quiet h3;rw[this]at HW;cases HW
    have hmk:cls A.C ap o.op=3\/cls A.C ap o.op=2:=Gp (ap:=ap) (PZ hrun) Kv;have:=later k _ hk h (by
     rcases hmk with hmk | hmk
     ·exact (hp i k o _ h ho hk).w3 h3 hmk
     rcases (G i o ho hrun).1 with hf | hpv | hfp | hth | h3'
     ·exact (pD ho hf hmk k _ hk h3).2 h
     ·have:=zu hpv (D.ran hrun);rw[<-Kv]at this;cases this
     ·rcases zv hfp (D.ran hrun) with tP | hdX
      ·rw[<-Kv]at tP;cases tP
      rw[hZ]at hdX;have hdX:tx X d=true:=hdX;have BV:(r k).eff≠[]:=fun e=>by rw[e]at HW;cases HW
      have OI:(r k).run=true:=by
       cases hr:(r k).run with
       | true=>rfl
       | false=>exact absurd ((H k _ hk).not hr).2.1 BV
      have hf:(fS A.C ap ops)[k]?=some true:=by
       rcases (G k _ hk OI).2.1 with h | h
       ·exact h
       have:=xD h p HW;rw[e,hdX]at this;cases this
      exact (sf hk hf h3 i o ho hmk (AU hfp)).1 h
     ·have:=zw hth (D.ran hrun);rw[<-Kv]at this;cases this
     rw[hmk]at h3';cases h3')
    rw[xI]at this;cases this
   have:∀m,m<=ops.size->Hn B r E m d=B d:=by
    intro m
    induction m with
    | zero=>intro _;rfl
    | succ m ih=>
     intro hm;simp only[Hn];cases RE:E m with
     | false=>exact ih (by omega)
     | true=>
      show app (Hn B r E m) (r m).eff d=_;rw[fo (bO m (by omega) RE)];exact ih (by omega)
   rw[this ops.size (aC _),Cp i d b uf]
  obtain⟨e1,e2,e3⟩:=hk;refine hnext S' rho' a' w' ?_;have hH:app (Hn B r E ops.size) eff=Hn B r (fun k=>E k||bB k i) ops.size:=by
   rw[e2];by_cases bO:(r i).eff=[]
   ·rw[bO];show Hn B r E ops.size=_;have:∀m,Hn B r (fun k=>E k||bB k i) m=Hn B r E m:=by
     intro m
     induction m with
     | zero=>rfl
     | succ m ih=>
      simp only[Hn];rw[ih];by_cases e:m=i
      ·subst e;rw[hi,aG.2 rfl,bO];rfl
      have:bB m i=false:=by rw[cr];intro h;exact e (aG.1 h)
      rw[this,vB]
    exact (this _).symm
   have h3:cls A.C ap o.op=3:=by
    by_cases h3:cls A.C ap o.op=3
    ·exact h3
    exact absurd (D.quiet h3) bO
   exact (Ja hi ops.size (HZ (.inl h3)) iR).symm
  have aJ:=aQ;rw[LM v e1]at aJ;have cF:aU A (mG bk o.dst) (nR (LE ops r E) new (o.dst.getD 0)) S' rho' ⟨TE ops st (fun k=>E k||bB k i),Hn B r (fun k=>E k||bB k i) ops.size⟩ a' w':=by rw[<-hH];exact aJ
  refine cF.jF (fun _ _=>.inl trivial) fun d=>?_;cases LN:new with
  | none=>
   refine⟨fun h k b uf=>?_,fun h k b uf=>by simp[h k b uf]⟩;have:=h k b uf;simp only[oa]at this;rcases this with h | h
   ·exact h
   have:=aG.1 h;subst this;obtain⟨o',h1,h2,h4⟩:=uf;rw[<-e3,LN]at h4;cases h4
  | some b=>
   obtain⟨d',hZ⟩:∃d,o.dst=some d:=by
    have:=D.ndst;rw[<-e3,LN]at this;cases tY:o.dst with
    | none=>rw[tY]at this;cases this
    | some d=>exact⟨d,rfl⟩
   rw[hZ];show _↔(LE ops r E d\/d=d');refine⟨fun h=>?_,fun h k b' uf=>?_⟩
   ·by_cases e:d=d'
    ·exact .inr e
    refine .inl fun k b' uf=>?_;have:=h k b' uf;simp only[oa]at this;rcases this with h | h
    ·exact h
    have:=aG.1 h;subst this;obtain⟨o',h1,h2,h4⟩:=uf;rw[ho]at h1;injection h1 with h1;rw[<-h1,hZ]at h2;injection h2 with h2;exact absurd h2.symm e
   rcases h with h | h
   ·simp[h k b' uf]
   obtain⟨o',h1,h2,h4⟩:=uf;have:k=i:=by
    rcases gC k i with h5 | h5 | h5
    ·exact absurd (by rw[hZ,h]) ((hp k i o' o h5 h1 ho).dst d h2)
    ·exact h5
    exact absurd (by rw[h2,h]) ((hp i k o o' h5 ho h1).dst d' hZ)
   simp[this,aG.2]
 have Ez:(r i).run=false:=by simpa using hrun
 obtain⟨n1,n2,n3⟩:=D.not Ez;have rZ:Region.wanted o (yielded ops a.tmps)=false:=by
  have hg:=D.guard;unfold Region.wanted;split at hg
  ·rw[Ez]at hg;cases hg
  rename_i g want h;rw[h];obtain⟨og,tg,b,k1,k2,k3,k4⟩:=hg;have Ey:tg∈o.looksAt ops:=ov _ (by rw[h];simp[show ops[g]?=some og by simpa using k1,k2]);have:=kb sim (ops:=ops) (g:=g) (by simpa using k1) k2 trivial (by show TE ops st E tg=_;rw[ue tg Ey];exact k3);simp only[this];rw[Ez]at k4;exact k4.symm
 rw[af (by rw[rZ];decide)];refine hnext S rho _ _ ?_;have aJ:=sim.value o.dst Ly mK undef (.p _ _ (.im _));rw[LM mK n1.symm]at aJ;have hH:Hn B r (fun k=>E k||bB k i) ops.size=Hn B r E ops.size:=by
  have:∀m,Hn B r (fun k=>E k||bB k i) m=Hn B r E m:=by
   intro m
   induction m with
   | zero=>rfl
   | succ m ih=>
    simp only[Hn];rw[ih];by_cases e:m=i
    ·subst e;rw[hi,aG.2 rfl,n2];rfl
    have:bB m i=false:=by rw[cr];intro h;exact e (aG.1 h)
    rw[this,vB]
  exact this _
 rw[hH];refine aJ.jF (fun _ _=>.inl trivial) fun d=>⟨fun h k b uf=>?_,fun h k b uf=>by simp[h k b uf]⟩;have:=h k b uf;simp only[oa]at this;rcases this with h | h
 ·exact h
 have:=aG.1 h;subst this;obtain⟨o',h1,h2,h4⟩:=uf;rw[n3]at h4;cases h4
theorem filter_lt{p q:Nat->Bool}(P0:∀x,q x=true->p x=true){i:Nat}(hp:p i=true)(hq:q i=false):∀(l:List Nat),(l.filter q).length<=(l.filter p).length/\(i∈l->(l.filter q).length<(l.filter p).length):=by
 intro l
 induction l with
 | nil=>exact⟨aC _,fun h=>by cases h⟩
 | cons x l ih=>
  simp only[fT];refine⟨?_,fun h=>?_⟩
  ·cases OK:q x with
   | true=>rw[P0 x OK];simp;exact ih.1
   | false=>cases p x<;>simp<;>have:=ih.1<;>omega
  rcases fL.1 h with e | e
  ·subst e;rw[hp,hq];simp;have:=ih.1;omega
  have:=ih.2 e;cases OK:q x with
  | true=>rw[P0 x OK];simp;exact this
  | false=>cases p x<;>simp<;>omega
theorem Gt{A:jR}(hC:aL A.C)(Gr:ap=ops.toList.any fun o=>gm A.C o.op)(hok:iJ A.C ops=true)(hd:∀o∈ops.toList,gP o A.n)(H:∀(i:Nat) o,ops[i]?=some o->DStep A.C ap ops.toList o (st i) (r i) (st (i+1)))(G:∀(i:Nat) o,ops[i]?=some o->se A.C ap X (fS A.C ap ops) o (st i) (r i) i){B:Nat->AB}(Cp:∀k d b,Co ops r k d b->B d=b)(s_:∀d,¬fc ops r 0 d->B d=(st 0).h d)(h0:∀d,fc ops r 0 d->(st 0).h d=.none)
  {Q:Exit->Act->World->Prop} (hQ:∀S rho a w,aU A bk bk S rho (st ops.size) a w->Q .normal a w):
  ∀(fuel:Nat) (listed:Array Bool) (S:Nat->Prop) (rho:Nat->Value) (a:Act) (w:World),listed.size=ops.size->zz ops (fun i=>listed.getD i false)->((List.range ops.size).filter fun i=>!listed.getD i false).length<=fuel ->
   aU A bk (LE ops r fun i=>listed.getD i false) S rho ⟨TE ops st (fun i=>listed.getD i false),Hn B r (fun i=>listed.getD i false) ops.size⟩ a w->wpAny A.C.P .any ops Q fuel listed a w:=by
 obtain⟨Ev,hs,hp⟩:=iw hok;obtain⟨HY,_⟩:=uc Ev;have hh:=nv hok H Cp s_ h0;have fin:∀(listed:Array Bool) (S:Nat->Prop) (rho:Nat->Value) (a:Act) (w:World),listed.size=ops.size->Region.ready .any ops listed=[]->aU A bk (LE ops r fun i=>listed.getD i false) S rho ⟨TE ops st (fun i=>listed.getD i false),Hn B r (fun i=>listed.getD i false) ops.size⟩ a w->Q .normal a w:=by
  intro listed S rho a w hsz hr sim;have all:∀i,i<ops.size->listed.getD i false=true:=by
   intro i
   induction i using Nat.strongRecOn with
   | _ i ih=>
    intro hi;have ho:ops[i]?=some ops[i]:=bE hi;cases hl:listed.getD i false with
    | true=>rfl
    | false=>
     have:i∈Region.ready .any ops listed:=mem_ready.2 ⟨getD_in (by omega) hl,_,ho,fun e he hb=>by
      have h1:=HY i _ ho e he hb;exact ih e.on h1 (by omega)⟩
     rw[hr]at this;cases this
  refine hQ S rho a w ?_;have hH:Hn B r (fun i=>listed.getD i false) ops.size=(st ops.size).h:=by
   rw[HV ops.size ops.size (fun k hk=>.inl ⟨fun _=>hk,fun _=>all k hk⟩) (aC _)];funext d;refine ((hh ops.size (aC _) d).2 fun ⟨k,b,h1,o,h2,_⟩=>?_).symm;have:=(vn.1 h2).1;omega
  have hT:TE ops st (fun i=>listed.getD i false)=(st ops.size).t:=funext fun x=>ae fun k o hk _=>all k (vn.1 hk).1;rw[hH,hT]at sim;refine sim.jF (fun _ _=>trivial) fun d=>⟨fun _ k b hc=>?_,fun _=>trivial⟩;obtain⟨o,h2,_⟩:=hc;exact all k (vn.1 h2).1
 intro fuel
 induction fuel with
 | zero=>
  intro listed S rho a w hsz iQ Cq sim;have hr:Region.ready .any ops listed=[]:=by
   rw[List.eq_nil_iff_forall_not_mem];intro i hi;obtain⟨h1,o,ho,_⟩:=mem_ready.1 hi;have dv:=(vn.1 ho).1;have hm:i∈(List.range ops.size).filter fun i=>!listed.getD i false:=ib.2 ⟨dA.2 dv,by rw[getD_both h1];rfl⟩;have:=cW (Nat.le_zero.1 Cq);rw[this]at hm;cases hm
  exact⟨hr,fin listed S rho a w hsz hr sim⟩
 | succ fuel ih=>
  intro listed S rho a w hsz iQ Cq sim;refine⟨fun hr=>fin listed S rho a w hsz hr sim,fun i hi=>?_⟩;obtain⟨h1,o,ho,fI⟩:=mem_ready.1 hi;have dv:=(vn.1 ho).1;have P1:listed.getD i false=false:=getD_both h1;have Ef:(fun k=>(listed.setIfInBounds i true).getD k false)=fun k=>listed.getD k false||bB k i:=by
   funext k;by_cases e:i=k
   ·subst e;rw[aG.2 rfl,ou];simp[hsz,dv]
   rw[getD_set_ne false e];have:bB k i=false:=by rw[cr];intro h;exact e (aG.1 h).symm
   rw[this,vB]
  refine Gs hC Gr hok hd H G Cp s_ h0 (E:=fun i=>listed.getD i false) iQ ho P1 fI sim fun S' rho' a' w' aQ=>?_;refine ih (listed.setIfInBounds i true) S' rho' a' w' (by simp[hsz]) ?_ ?_ ?_
  ·rw[Ef];intro j oj hj P2 e he hb;simp only[oa]at P2 ⊢;rcases P2 with h | h
   ·exact .inl (iQ j oj hj h e he hb)
   have:=aG.1 h;subst this;rw[ho]at hj;injection hj with hj;subst hj;exact .inl (fI e he hb)
  ·have H4:∀k,(listed.setIfInBounds i true).getD k false=(listed.getD k false||bB k i):=fun k=>congrFun Ef k;have:=(filter_lt (p:=fun k=>!listed.getD k false) (q:=fun k=>!(listed.setIfInBounds i true).getD k false) (fun x hx=>by
    rw[H4 x]at hx;cases hl:listed.getD x false with
    | true=>rw[hl]at hx;cases hx
    | false=>rfl) (i:=i) (by rw[P1];rfl) (by rw[H4 i,aG.2 rfl,ou];rfl) (List.range ops.size)).2 (dA.2 dv)
   omega
  rw[Ef];exact aQ
end
def HX.cT:List HX->List AV
 | []=>[]
 | .av x::r=>x::HX.cT r
 | .row _ _::r=>HX.cT r
theorem HX.vF(f:AV->AV):∀(r:List HX),HX.cT (r.map (HX.Te f))=(HX.cT r).map f
 | []=>rfl
 | .av x::r=>by simp[HX.cT,HX.Te,HX.vF f r]
 | .row _ _::r=>by simp[HX.cT,HX.Te,HX.vF f r]
theorem HX.vG{x:AV}:∀{r:List HX},.av x∈r->x∈HX.cT r
 | .av y::r,h=>by
  rcases fL.1 h with h | h
  ·injection h with h;subst h;simp[HX.cT]
  simp[HX.cT,HX.vG h]
 | .row _ _::r,h=>by
  rcases fL.1 h with h | h
  ·cases h
  simp[HX.cT,HX.vG h]
def Cr:FX->AV
 | some n=>.ow n
 | none=>.junk
def vH:AB->List AV
 | .box cs=>cs
 | .eN _ cs=>cs
 | .ai _ es=>es.flatMap HX.cT
 | .cell _ _ a=>[a]
 | .fam _ out=>out.map fun x=>Cr x.2
 | _=>[]
theorem si(d:Nat)(b:AB):vH (qX d b)=(vH b).map (sc d):=by
 cases b with
 | ai e es=>
  show (es.map fun r=>r.map (HX.Te (sc d))).flatMap HX.cT=(es.flatMap HX.cT).map (sc d)
  induction es with
  | nil=>rfl
  | cons r es ih=>simp only[qO,ic,aa,ih,HX.vF]
 | fam l out=>
  show (tw (Kr d) out).map (fun x=>Cr x.2)=(out.map fun x=>Cr x.2).map (sc d);rw[tw,ig,ig];refine vA fun x _=>?_;show Cr (Kr d x.2)=sc d (Cr x.2);cases x.2 with
  | some n=>
   unfold Kr Cr;simp only[AM.sc];cases bB n d<;>rfl
  | none=>rfl
 | _=>rfl
def qk(d:Nat)(s:AS):Prop:=s.h d=.none/\(∀j,kN d (s.t j)=false)/\∀k,∀x∈vH (s.h k),kN d x=false
theorem EA(d:Nat)(x:AV):kN d (sc d x)=false:=by
 rw[D6];split
 ·rfl
 assumption
variable {d:Nat}
theorem AW{d':Nat}{x:AV}(h:kN d x=false):kN d (sc d' x)=false:=by
 rw[D6];split
 ·rfl
 exact h
theorem AX(d:Nat)(s:AS)(k:Nat):(k=d/\(dH d s).h k=.none)\/(k≠d/\(dH d s).h k=qX d (s.h k)):=by
 by_cases e:k=d
 ·subst e;exact .inl ⟨rfl,by show ax (fun k'=>qX k (s.h k')) k AB.none k=_;rw[ak]⟩
 exact .inr ⟨e,by show ax (fun k'=>qX d (s.h k')) d AB.none k=_;rw[au _ _ e]⟩
theorem ug(d:Nat)(s:AS):qk d (dH d s):=by
 refine⟨by rcases AX d s d with⟨_,h⟩ | ⟨h,_⟩;exact h;exact absurd rfl h,fun j=>EA d _,fun k x hx=>?_⟩;rcases AX d s k with⟨_,h⟩ | ⟨_,h⟩
 ·rw[h]at hx;cases hx
 rw[h,si]at hx;obtain⟨y,_,rfl⟩:=aV.1 hx;exact EA d y
variable {s:AS}
theorem zE(d':Nat)(hn:qk d s):qk d (dH d' s):=by
 obtain⟨h1,h2,h3⟩:=hn;refine⟨?_,fun j=>AW (h2 j),fun k x hx=>?_⟩
 ·rcases AX d' s d with⟨_,h⟩ | ⟨_,h⟩
  ·exact h
  rw[h,h1];rfl
 rcases AX d' s k with⟨_,h⟩ | ⟨_,h⟩
 ·rw[h]at hx;cases hx
 rw[h,si]at hx;obtain⟨y,hy,rfl⟩:=aV.1 hx;exact AW (h3 k y hy)
def sj:List Oper->AS->AS
 | [],s=>s
 | o::r,s=>match ly o.op with
  | true=>sj r (dH (o.dst.getD 0) s)
  | false=>sj r s
theorem zF:∀(l:List Oper) (s:AS),(∀d,qk d s->qk d (sj l s))/\∀o∈l,ly o.op=true->qk (o.dst.getD 0) (sj l s):=by
 intro l
 induction l with
 | nil=>intro s;exact⟨fun _ h=>h,fun o h=>by cases h⟩
 | cons o l ih=>
  intro s;unfold sj;split
  ·rename_i hm;refine⟨fun d hd=>(ih _).1 d (zE _ hd),fun o' u_ mD=>?_⟩;rcases fL.1 u_ with e | e
   ·subst e;exact (ih _).1 _ (ug _ _)
   exact (ih _).2 o' e mD
  rename_i hm;refine⟨fun d hd=>(ih _).1 d hd,fun o' u_ mD=>?_⟩;rcases fL.1 u_ with e | e
  ·subst e;rw[mD]at hm;cases hm
  exact (ih _).2 o' e mD
variable {A:jR} {rho:Nat->Value}
theorem aU.dH{S:Nat->Prop}{a:Act}{w:World}(sim:aU A bk bk S rho s a w)(d:Nat):aU A bk bk S rho (dH d s) a w:=by
 have h1:=sim.free d .none;have hn:(AM.dH d s).h d=.none:=(ug d s).1;rw[eX _ _ _ hn]at h1;exact h1.AP d hn
theorem aU.pre{S:Nat->Prop}{a:Act}{w:World}:∀(l:List Oper) (s:AS),aU A bk bk S rho s a w->aU A bk bk S rho (sj l s) a w:=by
 intro l
 induction l with
 | nil=>intro s sim;exact sim
 | cons o l ih=>
  intro s sim;unfold sj;split
  ·exact ih _ (sim.dH _)
  exact ih _ sim
def sk(o:Oper)(s:AS):AS:=match o.op,o.dst with
 | .assign _,some d=>match s.t d with
  | .ow i=>match s.h i with
   | .row _ _=>match bB i d with
    | true=>s
    | false=>iT i d s
   | .ai _ _=>match bB i d with
    | true=>s
    | false=>iT i d s
   | _=>s
  | _=>s
 | _,_=>s
def uh:List Oper->AS->AS
 | [],s=>s
 | o::r,s=>uh r (sk o s)
theorem aU.post{S:Nat->Prop}{a:Act}{w:World}:∀(l:List Oper) (rho:Nat->Value) (s:AS),(∀o∈l,gP o A.n)->aU A bk bk S rho s a w->∃rho',aU A bk bk S rho' (uh l s) a w:=by
 intro l
 induction l with
 | nil=>intro rho s _ sim;exact⟨rho,sim⟩
 | cons o l ih=>
  intro rho s hd sim;have tY:∀o∈l,gP o A.n:=fun o' u_=>hd o' (by simp[u_]);have:∃rho',aU A bk bk S rho' (sk o s) a w:=by
   unfold sk;split
   ·rename_i d _ hZ;split
    ·split
     ·split
      ·exact⟨rho,sim⟩
      rename_i bO;refine⟨_,sim.rename _ d (fun e=>?_) (bg (hd o (by simp) d hZ) sim.nb)⟩;rw[aG.2 e]at bO;cases bO
     ·split
      ·exact⟨rho,sim⟩
      rename_i bO;refine⟨_,sim.rename _ d (fun e=>?_) (bg (hd o (by simp) d hZ) sim.nb)⟩;rw[aG.2 e]at bO;cases bO
     exact⟨rho,sim⟩
    exact⟨rho,sim⟩
   exact⟨rho,sim⟩
  obtain⟨rho',aQ⟩:=this;exact ih rho' _ tY aQ
theorem nw{c:AV}:∀{xs:List AV},c∈xs->kN d c=true->eG d xs=true:=by
 intro xs
 induction xs with
 | nil=>intro h;cases h
 | cons x xs ih=>
  intro h hm;simp only[eG,oa];rcases fL.1 h with e | e
  ·subst e;exact .inl hm
  exact .inr (ih e hm)
theorem aE.loc{S:Nat->Prop}{w:World}{P:Program}{L':Nat->Prop}{h h':Nat->AB}{x:AV}{v:Value}(hx:aE S w P bk rho h x v)(hm:∀k,kN k x=true->h' k=h k/\L' k):aE S w P L' rho h' x v:=by
 induction hx with
 | p x v hx=>exact .p x v hx
 | nl=>exact .nl
 | ow k v hv=>obtain⟨h1,h2⟩:=hm k (by simp only[kN];exact aG.2 rfl);exact .ow k v fun ht=>⟨h2,(hv (by rw[<-h1];exact ht)).2⟩
 | rp k a b v hv=>obtain⟨h1,h2⟩:=hm k (by simp only[kN];exact aG.2 rfl);exact .rp k a b v fun e he=>⟨h2,(hv e (by rw[<-h1];exact he)).2⟩
 | bx k a v hv=>obtain⟨h1,h2⟩:=hm k (by simp only[kN];exact aG.2 rfl);exact .bx k a v fun ht=>⟨h2,(hv (by rw[<-h1];exact ht)).2⟩
 | vw k a b v hv=>obtain⟨h1,h2⟩:=hm k (by simp only[kN];exact aG.2 rfl);exact .vw k a b v fun e he=>⟨h2,(hv e (by rw[<-h1];exact he)).2⟩
 | fn f cap vs hl hc ih=>exact .fn f cap vs hl fun j c u hj hu=>ih j c u hj hu fun k hk=>hm k (nw (aj hj) hk)
 | tu xs vs hl hc ih=>exact .tu xs vs hl fun j c u hj hu=>ih j c u hj hu fun k hk=>hm k (nw (aj hj) hk)
 | st xs vs hl h0 hc ih=>exact .st xs vs hl h0 fun j c u hj hu=>ih j c u hj hu fun k hk=>hm k (nw (aj hj) hk)
 | ifp t a u hc ih=>exact .ifp t a u (ih hm)
 | junk v=>exact .junk v
theorem Jc(hC:aL A.C){id:Nat}{ops:Array Oper}{K:Exit->AS->Prop}(hok:iJ A.C ops=true)(hd:∀o∈ops.toList,gP o A.n)
  (h:∃X,kg A.C (ops.toList.any fun o=>gm A.C o.op) X ops.toList (fS A.C (ops.toList.any fun o=>gm A.C o.op) ops) ops.toList (fun s'=>K .normal (uh ops.toList s')) (sj ops.toList s)):W A (.region id ops true) K s:=by
 intro S rho a w sim;have kP:=(sim.grow hC w.drew ⟨rfl,rfl,rfl,aC _,fun _ _ _=>rfl⟩).pre ops.toList s;obtain⟨X,h⟩:=h;obtain⟨st,r,h1,h2,h3⟩:=Ek ops.toList _ _ h;have hsz:ops.toList.length=ops.size:=by simp
 rw[hsz]at h2;have H:∀(i:Nat) o,ops[i]?=some o->DStep A.C (ops.toList.any fun o=>gm A.C o.op) ops.toList o (st i) (r i) (st (i+1)):=fun i o ho=>(h3 i o (by simpa using ho)).1;have G:∀(i:Nat) o,ops[i]?=some o->se A.C (ops.toList.any fun o=>gm A.C o.op) X (fS A.C (ops.toList.any fun o=>gm A.C o.op) ops) o (st i) (r i) i:=fun i o ho=>(h3 i o (by simpa using ho)).2;have nr:∀k d b,Co ops r k d b->qk d (st 0):=fun k d b ⟨o,ho,hZ,hb⟩=>by
  have Fz:=(H k o ho).ndst;rw[hb,hZ]at Fz;rw[h1];have:=(zF ops.toList s).2 o (aj (by simpa using ho)) Fz;rw[hZ]at this;exact this
 have zG:∀d,fc ops r 0 d->qk d (st 0):=fun d ⟨k,b,_,hc⟩=>nr k d b hc;have OL:∀d,Decidable (∃b k,Co ops r k d b):=fun d=>Classical.propDecidable _;obtain⟨B,hB⟩:∃B:Nat->AB,B=fun d=>@dite _ (∃b k,Co ops r k d b) (OL d) (fun h=>Classical.choose h) (fun _=>(st 0).h d):=⟨_,rfl⟩;obtain⟨_,_,hp⟩:=iw hok;have Cp:∀k d b,Co ops r k d b->B d=b:=by
  intro k d b hc;have hex:∃b k,Co ops r k d b:=⟨b,k,hc⟩;rw[hB];simp only;rw[dif_pos hex];obtain⟨k',Fx⟩:=vy hex;generalize Classical.choose hex=b' at Fx;obtain⟨o,e1,e2,e3⟩:=hc;obtain⟨o',f1,f2,f3⟩:=Fx;have:k=k':=by
   rcases gC k k' with h | h | h
   ·exact absurd f2 ((hp k k' o o' h e1 f1).dst d e2)
   ·exact h
   exact absurd e2 ((hp k' k o' o h f1 e1).dst d f2)
  subst this;rw[e3]at f3;injection f3 with f3;exact f3.symm
 have s_:∀d,¬fc ops r 0 d->B d=(st 0).h d:=by
  intro d hn;rw[hB];simp only;rw[dif_neg fun ⟨b,k,hc⟩=>hn ⟨k,b,bd _,hc⟩]
 have hle:∀d,¬fc ops r 0 d->LE ops r (fun _=>false) d:=fun d hn k b hc=>absurd ⟨k,b,bd _,hc⟩ hn;have Gu:∀d,LE ops r (fun _=>false) d->¬fc ops r 0 d:=fun d hl ⟨k,b,_,hc⟩=>by cases hl k b hc
 rw[<-h1]at kP;have OM:aU A bk (LE ops r fun _=>false) S rho ⟨TE ops st (fun _=>false),B⟩ a w.drew:=
  {tm:=fun j _=>by
    have ht:TE ops st (fun _=>false) j=(st 0).t j:=by
     unfold TE;split
     ·rename_i hv;exact vD H (fun k o hk e=>by cases hv k o hk e) ops.size (aC _)
     rfl
    show aE _ _ _ _ _ _ (TE ops st (fun _=>false) j) _;rw[ht];refine (kP.tm j trivial).loc fun k hk=>?_;have hn:¬fc ops r 0 k:=fun q_=>by rw[(zG k q_).2.1 j]at hk;cases hk
    exact⟨s_ k hn,hle k hn⟩
   sz:=kP.sz,df:=kP.df,nb:=kP.nb,pn:=kP.pn,ev:=kP.ev,s0:=kP.s0,st:=kP.st,sb:=kP.sb
   hp:=fun k hk=>by
    have hn:=Gu k hk;show cd _ _ _ _ _ _ _ (B k);rw[s_ k hn];have hh:=kP.hp k trivial;cases hb:(st 0).h k with
    | none=>trivial
    | row e es=>rw[hb]at hh;exact hh
    | f_ es=>rw[hb]at hh;exact hh
    | jt es=>rw[hb]at hh;exact hh
    | map mk es=>rw[hb]at hh;exact hh
    | iter mk es n cur=>rw[hb]at hh;exact hh
    | box cs=>
     rw[hb]at hh;obtain⟨g,ty,c,k1,k2,k3,k4⟩:=hh;refine⟨g,ty,c,k1,k2,k3,fun j x u hj hu=>⟨(k4 j x u hj hu).1,(k4 j x u hj hu).2.loc fun i hi=>?_⟩⟩;have AY:¬fc ops r 0 i:=fun q_=>by rw[(zG i q_).2.2 k x (by rw[hb];exact aj hj)]at hi;cases hi
     exact⟨s_ i AY,hle i AY⟩
    | eN ty cs=>
     rw[hb]at hh;obtain⟨g,c,k1,k2,k3,k4⟩:=hh;refine⟨g,c,k1,k2,k3,fun j x u hj hu=>⟨(k4 j x u hj hu).1,(k4 j x u hj hu).2.loc fun i hi=>?_⟩⟩;have AY:¬fc ops r 0 i:=fun q_=>by rw[(zG i q_).2.2 k x (by rw[hb];exact aj hj)]at hi;cases hi
     exact⟨s_ i AY,hle i AY⟩
    | aA cs=>rw[hb]at hh;exact hh
    | cell c0 ty x=>
     rw[hb]at hh;obtain⟨g,off,v,k1,k2,k3,k4,k5⟩:=hh;refine⟨g,off,v,k1,k2,k3,k4,k5.loc fun i hi=>?_⟩;have AY:¬fc ops r 0 i:=fun q_=>by rw[(zG i q_).2.2 k x (by rw[hb];exact n9.2 rfl)]at hi;cases hi
     exact⟨s_ i AY,hle i AY⟩
    | fam l out=>
     rw[hb]at hh;obtain⟨k1,hF⟩:=hh;refine⟨k1,hF.mem,hF.dis,fun m n g cs hm hl=>?_⟩;have AY:¬fc ops r 0 n:=fun q_=>by
      have hf:=(zG n q_).2.2 k (.ow n) (by rw[hb];exact aV.2 ⟨(m,some n),hm,rfl⟩);simp only[kN]at hf;rw[aG.2 rfl]at hf;cases hf
     intro ht;have ht:(B n).there:=ht;rw[s_ n AY]at ht;exact⟨hle n AY,(hF.out m n g cs hm hl ht).2⟩
    | ai e es=>
     rw[hb]at hh;obtain⟨⟨i0,xs,k1,k2,k3,k4,k5,k6⟩,hS⟩:=hh;refine⟨⟨i0,xs,k1,k2,k3,k4,k5,fun a' r j x ha hj=>?_⟩,hS⟩;obtain⟨u,hu,hr⟩:=k6 a' r j x ha hj;refine⟨u,hu,?_⟩;cases x with
     | row e' bW=>exact hr
     | av x=>
      refine aE.loc hr fun i hi=>?_;have AY:¬fc ops _ 0 i:=fun q_=>by rw[(zG i q_).2.2 k x (by rw[hb];exact gG.2 ⟨r,aj ha,HX.vG (aj hj)⟩)]at hi;cases hi
      exact⟨s_ i AY,hle i AY⟩
   dj:=fun i j g hi hj li lj cK dW=>by
    have fE:(B i).live:=li;have Lv:(B j).live:=lj;have cK:hasB _ (B i) (rho i) g:=cK;have dW:hasB _ (B j) (rho j) g:=dW;rw[s_ i (Gu i hi)]at fE cK;rw[s_ j (Gu j hj)]at Lv dW;exact kP.dj i j g trivial trivial fE Lv cK dW
   lv:=fun i g hi li hg=>by
    have fE:(B i).live:=li;have hg:hasB _ (B i) (rho i) g:=hg;rw[s_ i (Gu i hi)]at fE hg;exact kP.lv i g trivial fE hg
   fr:=kP.fr }
 refine wp_region_any hC.any ?_;have P3:(fun i=>(Array.replicate ops.size false).getD i false)=fun _=>false:=by
  funext i;exact getD_replicate_false _ _
 refine Gt hC rfl hok hd H G Cp s_ (fun d q_=>(zG d q_).1) (fun S' rho' a' w' aQ=>?_) ops.size (Array.replicate ops.size false) S rho a w.drew (by simp) ?_ ?_ ?_
 ·obtain⟨EB,aJ⟩:=aQ.post ops.toList rho' (st ops.size) hd;exact⟨S',EB,_,aJ,h2⟩
 ·rw[P3];intro j oj _ h;cases h
 ·have:((List.range ops.size).filter fun i=>!(Array.replicate ops.size false).getD i false).length<=(List.range ops.size).length:=ij _ _;simpa using this
 rw[P3];have:∀m,Hn B r (fun _=>false) m=B:=by
  intro m
  induction m with
  | zero=>rfl
  | succ m ih=>exact ih
 rw[this];exact OM
end Go.AM
namespace Go.AM
open Go.RowKit
def EC(n:Nat)(o:Oper):Bool:=match o.dst with
 | some d=>Nat.blt d n
 | none=>true
def gn(C:Ctx)(n:Nat):Code->Bool
 | .region _ ops draw=>ops.toList.all (EC n)&&(!draw||iJ C ops)
 | .seq a b=>gn C n a&&gn C n b
 | .cond _ a b=>gn C n a&&gn C n b
 | .block _ c=>gn C n c
 | .loop c=>gn C n c
 | _=>true
def kG(f:AS->Prop)(K:Exit->AS->Prop):Exit->AS->Prop
 | .normal,s=>f s
 | e,s=>K e s
def ui(id:Nat)(K:Exit->AS->Prop):Exit->AS->Prop
 | .exit i,s=>kF (bB i id) (K .normal s) (K (.exit i) s)
 | e,s=>K e s
def ta(A:jR):Code->(Exit->AS->Prop)->AS->Prop
 | .skip,K,s=>K .normal s
 | .region _ ops draw,K,s=>match draw with
  | false=>kO A.C ops.toList ops.toList (K .normal) s
  | true=>∃X,kg A.C (ops.toList.any fun o=>gm A.C o.op) X ops.toList (fS A.C (ops.toList.any fun o=>gm A.C o.op) ops) ops.toList (fun s'=>K .normal (uh ops.toList s')) (sj ops.toList s)
 | .seq a b,K,s=>ta A a (kG (fun s'=>Seen A s' (ta A b K)) K) s
 | .cond c a b,K,s=>match ev s.t c with
  | .p (.im (.bool t))=>kF t (ta A a K s) (ta A b K s)
  | _=>False
 | .block id c,K,s=>ta A c (ui id K) s
 | .loop c,K,s=>∃(α:Type) (I:α->AS->Prop) (m:α->Nat),(∃x s',aY A s s'/\I x s')/\∀x s,I x s->ta A c (kG (fun s'=>∃y nt,aY A s' nt/\I y nt/\m y<m x) K) s
 | .exit id,K,s=>K (.exit id) s
 | .ret,K,s=>K .ret s
 | _,_,_=>False
theorem AZ{n:Nat}{ops:Array Oper}(h:ops.toList.all (EC n)=true):∀o∈ops.toList,gP o n:=by
 intro o ho d hd;have:=cC.1 h o ho;unfold EC at this;rw[hd]at this;exact dT this
theorem uj{A:jR}(hC:aL A.C):∀(c:Code) (K:Exit->AS->Prop) (s:AS),gn A.C A.n c=true->ta A c K s->W A c K s:=by
 intro c
 induction c with
 | skip=>intro K s _ h S rho a w sim;exact wp_skip ⟨S,rho,s,sim,h⟩
 | region id ops draw=>
  intro K s hok h;simp only[gn,qK]at hok;cases draw with
  | false=>exact D9 hC (AZ hok.1) h
  | true=>exact Jc hC (by simpa using hok.2) (AZ hok.1) h
 | seq a b C6 C7=>
  intro K s hok h;simp only[gn,qK]at hok;refine Lz ?_;refine zm (C6 _ s hok.1 h) fun e s' hk=>?_;cases e with
  | normal=>
   exact fun S rho a w sim=>by
    obtain⟨S',rho',s2,aQ,hk⟩:=hk S rho a w sim;exact C7 K s2 hok.2 hk S' rho' a w aQ
  | exit id=>exact hk
  | goto l=>exact hk
  | ret=>exact hk
  | panic c=>exact hk
  | outgrown=>exact hk
 | cond c a b C6 C7=>
  intro K s hok h;simp only[gn,qK]at hok;simp only[ta]at h;split at h
  ·rename_i t ht;refine I0 ht (fun e=>C6 K s hok.1 ?_) (fun e=>C7 K s hok.2 ?_)
   ·rw[e]at h;exact h
   rw[e]at h;exact h
  exact h.elim
 | block id c ih=>
  intro K s hok h;exact Gj (zm (ih _ s hok h) fun e s' hk=>by cases e<;>exact hk)
 | loop c ih=>
  intro K s hok h;obtain⟨α,I,m,h0,hr⟩:=h;refine I1 I m h0 fun x s hi=>?_;exact zm (ih _ s hok (hr x s hi)) fun e s' hk=>by cases e<;>exact hk
 | exit id=>intro K s _ h S rho a w sim;exact wp_exit ⟨S,rho,s,sim,h⟩
 | ret=>intro K s _ h S rho a w sim;exact wp_ret ⟨S,rho,s,sim,h⟩
 | rangeFunc=>intro K s _ h;exact h.elim
 | scope=>intro K s _ h;exact h.elim
 | label=>intro K s _ h;exact h.elim
 | goto=>intro K s _ h;exact h.elim
 | refuse=>intro K s _ h;exact h.elim
def Tu{α:Type}:List (Nat×α)->(Nat->α)->Nat->α
 | [],t=>t
 | (i,v)::r,t=>ax (Tu r t) i v
def jH{α:Type}:List (Nat×α)->(Nat->α)->Prop
 | [],_=>True
 | (i,v)::r,t=>t i=v/\jH r t
theorem oA{α:Type}:∀(l:List (Nat×α)) (t:Nat->α),jH l t->Tu l t=t:=by
 intro l
 induction l with
 | nil=>intro t _;rfl
 | cons p l ih=>
  intro t h;obtain⟨i,v⟩:=p;show ax (Tu l t) i v=t;rw[ih t h.2];exact eX _ _ _ h.1
theorem Gv{A:jR}{c:Code}{K:Exit->AS->Prop}{s:AS}{α:Type}(R:α->Prop)(ts:α->List (Nat×AV))(hs:α->List (Nat×AB))(m:α->Nat)(x0:α)(s0:AS)(h0:aY A s s0)(hR:R x0)(ht:jH (ts x0) s0.t)(hh:jH (hs x0) s0.h)
  (round:∀x,R x->∀t h,ta A c (kG (fun s'=>∃y nt,aY A s' nt/\R y/\m y<m x/\jH (ts y) nt.t/\jH (hs y) nt.h) K) ⟨Tu (ts x) t,Tu (hs x) h⟩):ta A (.loop c) K s:=by
 refine⟨α,fun x s=>R x/\jH (ts x) s.t/\jH (hs x) s.h,m,⟨x0,s0,h0,hR,ht,hh⟩,fun x s ⟨h1,h2,h3⟩=>?_⟩;have:=round x h1 s.t s.h;rw[oA _ _ h2,oA _ _ h3]at this;have e:(kG (fun s'=>∃y nt,aY A s' nt/\R y/\m y<m x/\jH (ts y) nt.t/\jH (hs y) nt.h) K)=(kG (fun s'=>∃y nt,aY A s' nt/\(R y/\jH (ts y) nt.t/\jH (hs y) nt.h)/\m y<m x) K):=by
  funext e s';cases e<;>try rfl
  apply propext;constructor
  ·rintro⟨y,nt,k1,k2,k3,k4,k5⟩;exact⟨y,nt,k1,⟨k2,k4,k5⟩,k3⟩
  rintro⟨y,nt,k1,⟨k2,k4,k5⟩,k3⟩;exact⟨y,nt,k1,k2,k3,k4,k5⟩
 rw[<-e];exact this
end Go.AM
namespace Go.AM
open Go.RowKit
def mU(l:List (Nat×TI))(t:TypeId):Option TI:=match l with
 | []=>none
 | (i,ti)::r=>match Nat.beq i t with
  | true=>some ti
  | false=>mU r t
theorem mf{t:TypeId}{ti:TI}:∀{l:List (Nat×TI)},mU l t=some ti->(t,ti)∈l:=by
 intro l
 induction l with
 | nil=>intro h;cases h
 | cons p l ih=>
  intro h;obtain⟨i,Ny⟩:=p;unfold mU at h;split at h
  ·rename_i e;have:=bq e;subst this;injection h with h;subst h;exact dJ ..
  exact An _ (ih h)
def ED:Value->Value->Bool
 | .int k n,.int k' n'=>kB k k'&&decide (n=n')
 | .bool b,.bool b'=>b==b'
 | .string s,.string s'=>s.data.toList==s'.data.toList
 | .slice none a b,.slice none a' b'=>Nat.beq a a'&&Nat.beq b b'
 | .pointer none,.pointer none=>true
 | .map none,.map none=>true
 | .nilFunc,.nilFunc=>true
 | .nilIface,.nilIface=>true
 | _,_=>false
theorem EE{v u:Value}(h:ED v u=true):v=u:=by
 unfold ED at h;split at h
 ·simp only[qK,dS]at h;rw[Av h.1,h.2]
 ·rw[eq_of_beq h]
 ·have:=eq_of_beq h;congr 1;exact ByteArray.ext (gV this)
 ·simp only[qK]at h;rw[bq h.1,bq h.2]
 ·rfl
 ·rfl
 ·rfl
 ·rfl
 cases h
def vI:List Value->List Value->Bool
 | [],[]=>true
 | v::r,u::s=>ED v u&&vI r s
 | _,_=>false
theorem Cs:∀{a b:List Value},vI a b=true->a=b:=by
 intro a
 induction a with
 | nil=>intro b h;cases b with | nil=>rfl | cons=>cases h
 | cons v r ih=>
  intro b h;cases b with
  | nil=>cases h
  | cons u s=>
   simp only[vI,qK]at h;rw[EE h.1,ih h.2]
def LO:TypeDesc->Bool
 | .struct _ | .array _ _=>true
 | _=>false
def ra(P:Program):List (Nat×Nat×Bool)->List Field->Bool
 | [],[]=>true
 | f::r,g::s=>Nat.beq f.1 g.offset&&!Nat.beq f.2.1 0&&(match P.info? g.type with
  | some i=>Nat.beq i.size f.2.1
  | none=>false)&&(match P.underlying g.type with
  | some d=>LO d==f.2.2
  | none=>false)&&ra P r s
 | _,_=>false
def P4(P:Program)(t:TypeId)(ti:TI):Bool:=match ti.ud,P.underlying t with
 | .sc,some .bool=>true
 | .sc,some d=>!LO d&&!ti.eq
 | .int k,some (.int k')=>kB k k'
 | .st fs,some (.struct gs)=>ra P fs gs.toList
 | .sl e,some (.slice e')=>Nat.beq e e'
 | .mp k e,some (.map k' e')=>Nat.beq k k'&&Nat.beq e e'
 | .str,some .string=>true
 | _,_=>false
def Nb(P:Program)(p:Nat×TI):Bool:=match P.info? p.1 with
 | some info=>Nat.beq info.size p.2.size&&Nat.beq info.bytes p.2.bytes&&(match info.zero with
  | some z=>vI z.cells.toList p.2.zero
  | none=>false)&&Nat.beq p.2.zero.length p.2.size&&p.2.zero.all Value.oneCell'&&P4 P p.1 p.2
 | none=>false
theorem vJ{P:Program}:∀{fs:List (Nat×Nat×Bool)} {gs:List Field},ra P fs gs=true->fs.length=gs.length/\∀(i:Nat) f g,fs[i]?=some f->gs[i]?=some g->f.1=g.offset/\f.2.1≠0/\(∃i2,P.info? g.type=some i2/\i2.size=f.2.1)/\
  (∃d,P.underlying g.type=some d/\f.2.2=(match d with | .struct _ | .array _ _=>true | _=>false)):=by
 intro fs
 induction fs with
 | nil=>intro gs h;cases gs with | nil=>exact⟨rfl,by simp⟩ | cons=>cases h
 | cons f r ih=>
  intro gs h;cases gs with
  | nil=>cases h
  | cons g s=>
   simp only[ra,qK]at h;obtain⟨⟨⟨⟨h1,h2⟩,h3⟩,h4⟩,h5⟩:=h;obtain⟨h6,h7⟩:=ih h5;refine⟨by simp[h6],fun i f' g' hf hg=>?_⟩;cases i with
   | succ i=>exact h7 i f' g' (by simpa using hf) (by simpa using hg)
   | zero=>
    simp at hf hg;subst hf hg;refine⟨bq h1,(fun e=>by rw[e]at h2;cases h2),?_,?_⟩
    ·split at h3
     ·rename_i i hi;exact⟨i,hi,bq h3⟩
     cases h3
    split at h4
    ·rename_i d hd;refine⟨d,hd,?_⟩;rw[<-eq_of_beq h4];cases d<;>rfl
    cases h4
theorem Jd{P:Program}{t:TypeId}{ti:TI}(h:Nb P (t,ti)=true):jw P t ti:=by
 unfold Nb at h;split at h
 ·rename_i info hi;simp only[qK]at h;obtain⟨⟨⟨⟨⟨h1,h2⟩,h3⟩,h4⟩,h5⟩,h6⟩:=h;split at h3
  ·rename_i z hz;refine⟨info,z,hi,bq h1,bq h2,hz,?_,bq h4,fun v hv=>cC.1 h5 v hv,?_⟩
   ·rw[<-Cs h3]
   simp only[P4]at h6;split at h6
   ·rename_i h7 h8;rw[h7];exact⟨⟨_,h8,trivial⟩,fun _=>h8⟩
   ·rename_i d bO h7 h8;rw[h7];simp only[qK]at h6;refine⟨⟨d,h8,?_⟩,fun e=>?_⟩
    ·cases d<;>first | trivial | (cases h6.1;done)
    rw[e]at h6;cases h6.2
   ·rename_i h7 h8;rw[h7,h8,Av h6]
   ·rename_i fs gs h7 h8;rw[h7];obtain⟨h9,Le⟩:=vJ h6;exact⟨gs,h8,by simpa using h9,fun i f g hf hg=>Le i f g hf (by simpa using hg)⟩
   ·rename_i h7 h8;rw[h7,h8,bq h6]
   ·rename_i h7 h8;simp only[qK]at h6;rw[h7,h8,bq h6.1,bq h6.2]
   ·rename_i h7 h8;rw[h7,h8]
   cases h6
  cases h3
 cases h
def ON(P:Program)(p:Nat×TI):Bool:=match P.info? p.1 with
 | some info=>match info.zero with
  | some z=>Dg z==p.2.ud.agg
  | none=>false
 | none=>false
variable {l:List (Nat×TI)}
theorem LP{P:Program}(h:l.all (ON P)=true):∀t ti,mU l t=some ti->yA P t ti:=fun t ti ht=>by
 have:=cC.1 h _ (mf ht);unfold ON at this;split at this
 ·rename_i info hi;split at this
  ·rename_i z hz;exact⟨info,z,hi,hz,eq_of_beq this⟩
  cases this
 cases this
theorem Je{P:Program}(h:l.all (Nb P)=true):∀t ti,mU l t=some ti->jw P t ti:=fun _ _ ht=>Jd (cC.1 h _ (mf ht))
def FE:Option TypeDesc->Value->Bool
 | some (.int _),.int _ _=>true
 | some .string,.string _=>true
 | some .bool,.bool _=>true
 | _,_=>false
def iK(P:Program):Nat->List Field->List Value->Bool
 | _,[],[]=>true
 | i, g :: r, z :: s => FE (P.underlying g.type) z && Nat.beq g.offset i && g.name != "_" && iK P (i + 1) r s
 | _,_,_=>false
def sn(P:Program):Nat->List Field->List Value->Bool
 | _,[],[]=>true
 | _,[],_::_=>false
 | i, g :: r, zs => g.name != "_" && Nat.beq g.offset i && match P.underlying g.type with
  | some (.struct hs)=>(match P.info? g.type with
   | some inf=>Nat.beq inf.size hs.size
   | none=>false)&&!P.stoodInHeld g.type&&iK P 0 hs.toList (zs.take hs.size)&&sn P (i+hs.size) r (zs.drop hs.size)
  | _=>match zs with
   | z::s=>FE (P.underlying g.type) z&&sn P (i+1) r s
   | []=>false
def Jf(P:Program)(p:Nat×TI):Bool:=match p.2.eq,p.2.ud with
 | true,.st _=>(match P.underlying p.1 with
  | some (.struct gs)=>sn P 0 gs.toList p.2.zero&&Nat.beq p.2.zero.length p.2.size
  | _=>false)&&!P.stoodInHeld p.1&&!P.eqGuardType P.depth p.1
 | _,_=>true
theorem gN{P:Program}{w:World}{t:TypeId}{z:Value}(h:FE (P.underlying t) z=true){xs:Array Value}{i:Nat}{v:Value}(hv:xs[i]?=some v):(part t xs i).run P w=.ok v w:=by
 have:(isAgg t).run P w=.ok false w:=by
  rw[Go.isAgg,aI];unfold FE at h;split at h<;>first
   | (rename_i hu;rw[run_underlying hu];rfl)
   | cases h
 simp[part,this,hv]
theorem vK{a b:ByteArray}(h:a.toList=b.toList):a=b:=by
 rw[ByteArray.toList_eq,ByteArray.toList_eq]at h;obtain⟨⟨x⟩⟩:=a;obtain⟨⟨y⟩⟩:=b;simpa using h
theorem Gw{o:Option TypeDesc}{k:IntKind}{n:Int}(h:FE o (.int k n)=true):∃j,o=some (.int j):=by
 cases o with
 | none=>cases h
 | some d=>cases d<;>first | exact⟨_,rfl⟩ | cases h
theorem Gx{o:Option TypeDesc}{x:ByteArray}(h:FE o (.string x)=true):o=some .string:=by
 cases o with
 | none=>cases h
 | some d=>cases d<;>first | rfl | cases h
theorem EF{o:Option TypeDesc}{x:Bool}(h:FE o (.bool x)=true):o=some .bool:=by
 cases o with
 | none=>cases h
 | some d=>cases d<;>first | rfl | cases h
theorem oB{P:Program}{t:TypeId}{z:Value}{zs:List Value}{x:PV}{a b:List PV}{r:Bool}(hk:FE (P.underlying t) z=true)(h:aX (z::zs) (x::a) b=some r):∃u v s c r',x=.im u/\b=.im v::s/\aX zs a s=some r'/\r=(c&&r')/\∀d w,(Op.equalIn (d+1) t u v).run P w=.ok c w:=by
 cases b with
 | nil=>cases z<;>cases x<;>simp[aX]at h
 | cons y b=>
  unfold aX at h;split at h
  ·rename_i h1 h2 h3;cases h1
  ·rename_i h1 h2 h3;injection h1 with h1 mP;injection h2 with h2 nG;injection h3 with h3 h3';subst h1 mP h2 nG h3 h3';split at h
   ·rename_i Dz;have:=Av Dz;subst this;obtain⟨r',q1,q2⟩:=az.1 h;obtain⟨j,hu⟩:=Gw hk;refine⟨_,_,_,_,r',rfl,rfl,q1,q2.symm,fun d w=>?_⟩;rw[run_equalIn_int (P:=P) w d t _ j _ _ hu];congr 1
   cases h
  ·rename_i h1 h2 h3;injection h1 with h1 mP;injection h2 with h2 nG;injection h3 with h3 h3';subst h1 mP h2 nG h3 h3';obtain⟨r',q1,q2⟩:=az.1 h;have hu:=Gx hk;refine⟨_,_,_,_,r',rfl,rfl,q1,q2.symm,fun d w=>?_⟩;rw[run_equalIn_string (P:=P) w d t _ _ hu];congr 1;rw[gU,beq_iff_eq,decide_eq_true_iff];exact⟨fun e=>vK e,fun e=>by rw[e]⟩
  ·rename_i h1 h2 h3;injection h1 with h1 mP;injection h2 with h2 nG;injection h3 with h3 h3';subst h1 mP h2 nG h3 h3';obtain⟨r',q1,q2⟩:=az.1 h;have hu:=EF hk;refine⟨_,_,_,_,r',rfl,rfl,q1,q2.symm,fun d w=>?_⟩;rw[run_equalIn_bool' (P:=P) w d t _ _ hu];congr 1
  cases h
theorem mV{P:Program}{w:World}(d:Nat)(xs ys:Array Value):∀(gs:List Field) (zs:List Value) (i:Nat) (a b:List PV) (r:Bool),iK P i gs zs=true->gs.length=a.length->(∀(j:Nat) x,a[j]?=some x->∃v,xs[i+j]?=some v/\x=.im v)->(∀(j:Nat) x,b[j]?=some x->∃v,ys[i+j]?=some v/\x=.im v)->aX zs a b=some r ->
  (Op.eqFields (d+1) xs ys gs).run P w=.ok r w:=by
 intro gs
 induction gs with
 | nil=>
  intro zs i a b r hi hl _ _ he;have:a=[]:=cW hl.symm;subst this;cases zs with
  | nil=>cases b with
   | nil=>simp[aX]at he;subst he;rfl
   | cons y b=>simp[aX]at he
  | cons z zs=>simp[iK]at hi
 | cons g gs ih=>
  intro zs i a b r hi hl ha hb he;cases a with
  | nil=>simp at hl
  | cons x a=>cases zs with
   | nil=>simp[iK]at hi
   | cons z zs=>
    simp only[iK,qK]at hi;obtain⟨⟨⟨h1,h2⟩,h3⟩,h4⟩:=hi;have h2:=bq h2
    have mS : g.name ≠ "_" := by simpa using h3
    obtain⟨u,v,s1,c,r',rfl,rfl,FQ,rfl,p3⟩:=oB h1 he;obtain⟨v',hv,Jg⟩:=ha 0 _ rfl;obtain⟨u',ni,FF⟩:=hb 0 _ rfl;injection Jg with Jg;injection FF with FF;subst Jg FF;have p1:=gN (w:=w) h1 (xs:=xs) (i:=g.offset) (by rw[h2];simpa using hv);have p2:=gN (w:=w) h1 (xs:=ys) (i:=g.offset) (by rw[h2];simpa using ni);have rest:=ih zs (i+1) a s1 r' h4 (by simpa using hl) (fun j x hx=>by obtain⟨v,q1,q2⟩:=ha (j+1) x (by simpa using hx);exact⟨v,by rw[<-q1];congr 1;omega,q2⟩) (fun j x hx=>by obtain⟨v,q1,q2⟩:=hb (j+1) x (by simpa using hx);exact⟨v,by rw[<-q1];congr 1;omega,q2⟩) FQ;simp only[Op.eqFields,ae mS,aI,p1,p2,p3,br];cases c with
    | true=>
     simp only[vz,aK,if_false,ia];exact rest
    | false=>simp
theorem vL{z:Value}{zs:List Value}{a b:List PV}{r:Bool}(h:aX (z::zs) a b=some r):∃x a' y b' c r',a=x::a'/\b=y::b'/\aX zs a' b'=some r'/\r=(c&&r')/\∀LQ LR LS LU,aX LQ LR LS=some LU->aX (z::LQ) (x::LR) (y::LS)=some (c&&LU):=by
 cases a with
 | nil=>cases z<;>simp[aX]at h
 | cons x a=>cases b with
  | nil=>cases z<;>cases x<;>simp[aX]at h
  | cons y b=>
   unfold aX at h;split at h
   ·rename_i h1 _ _;cases h1
   ·rename_i h1 h2 h3;injection h1 with h1 mP;injection h2 with h2 nG;injection h3 with h3 h3';subst h1 mP h2 nG h3 h3';split at h
    ·rename_i Dz;obtain⟨r',q1,q2⟩:=az.1 h;exact⟨_,_,_,_,_,r',rfl,rfl,q1,q2.symm,fun LQ LR LS LU LV=>by simp only[aX,Dz,LV,eM]⟩
    cases h
   ·rename_i h1 h2 h3;injection h1 with h1 mP;injection h2 with h2 nG;injection h3 with h3 h3';subst h1 mP h2 nG h3 h3';obtain⟨r',q1,q2⟩:=az.1 h;exact⟨_,_,_,_,_,r',rfl,rfl,q1,q2.symm,fun LQ LR LS LU LV=>by simp only[aX,LV,eM]⟩
   ·rename_i h1 h2 h3;injection h1 with h1 mP;injection h2 with h2 nG;injection h3 with h3 h3';subst h1 mP h2 nG h3 h3';obtain⟨r',q1,q2⟩:=az.1 h;exact⟨_,_,_,_,_,r',rfl,rfl,q1,q2.symm,fun LQ LR LS LU LV=>by simp only[aX,LV,eM]⟩
   cases h
theorem qm:∀{z1 z2:List Value} {a b:List PV} {r:Bool},aX (z1++z2) a b=some r->∃a1 a2 b1 b2 r1 r2,a=a1++a2/\b=b1++b2/\a1.length=z1.length/\b1.length=z1.length/\aX z1 a1 b1=some r1/\aX z2 a2 b2=some r2/\r=(r1&&r2)
 | [],z2,a,b,r,h=>⟨[],a,[],b,true,r,rfl,rfl,rfl,rfl,rfl,h,rfl⟩
 | z::z1,z2,a,b,r,h=>by
  obtain⟨x,a',y,b',c,r',rfl,rfl,h1,rfl,h2⟩:=vL (zs:=z1++z2) h;obtain⟨a1,a2,b1,b2,r1,r2,rfl,rfl,l1,l2,k1,k2,rfl⟩:=qm h1;exact⟨x::a1,a2,y::b1,b2,c&&r1,r2,rfl,rfl,by simp[l1],by simp[l2],h2 _ _ _ _ k1,k2,(Bool.and_assoc _ _ _).symm⟩
theorem pF{P:Program}:∀{gs:List Field} {z:List Value} {i:Nat},iK P i gs z=true->gs.length=z.length
 | [],[],_,_=>rfl
 | [],_::_,_,h=>by simp[iK]at h
 | _::_,[],_,h=>by simp[iK]at h
 | g::gs,c::z,i,h=>by
  simp only[iK,qK]at h;simp[pF h.2]
theorem vM{P:Program}{w:World}(d:Nat)(xs ys:Array Value):∀(gs:List Field) (zs:List Value) (i:Nat) (a b:List PV) (r:Bool),sn P i gs zs=true->(∀(j:Nat) x,a[j]?=some x->∃v,xs[i+j]?=some v/\x=.im v)->(∀(j:Nat) x,b[j]?=some x->∃v,ys[i+j]?=some v/\x=.im v)->aX zs a b=some r ->
  (Op.eqFields (d+3) xs ys gs).run P w=.ok r w:=by
 intro gs
 induction gs with
 | nil=>
  intro zs i a b r hi _ _ he;cases zs with
  | nil=>
   cases a with
   | nil=>cases b with
    | nil=>simp[aX]at he;subst he;rfl
    | cons y b=>simp[aX]at he
   | cons x a=>simp[aX]at he
  | cons z zs=>simp[sn]at hi
 | cons g gs ih=>
  intro zs i a b r hi ha hb he;unfold sn at hi;simp only[qK]at hi;obtain⟨⟨h3,h2⟩,hi⟩:=hi;have h2:=bq h2
  have mS : g.name ≠ "_" := by simpa using h3
  split at hi
  ·rename_i hs mH;simp only[qK]at hi;obtain⟨⟨⟨h5,h6⟩,h7⟩,h8⟩:=hi;have h6:P.stoodInHeld g.type=false:=by simpa using h6
   split at h5
   ·rename_i inf OO;have h5:=bq h5;have hl:=pF h7;rw[Tk]at hl;rw[<-nZ hs.size zs]at he;obtain⟨a1,a2,b1,b2,r1,r2,rfl,rfl,l1,l2,k1,k2,rfl⟩:=qm he;rw[<-hl]at l1 l2;have cut:∀(us:Array Value) (c1 c2:List PV),c1.length=hs.size->(∀(j:Nat) x,(c1++c2)[j]?=some x->∃v,us[i+j]?=some v/\x=.im v)->(part g.type us g.offset).run P w=.ok (.agg (us.extract i (i+hs.size))) w/\(∀(j:Nat) x,c1[j]?=some x->∃v,(us.extract i (i+hs.size))[0+j]?=some v/\x=.im v)/\∀(j:Nat) x,c2[j]?=some x->∃v,us[i+hs.size+j]?=some v/\x=.im v:=by
     intro us c1 c2 hc hu;refine⟨?_,fun j x hx=>?_,fun j x hx=>?_⟩
     ·have e1:(isAgg g.type).run P w=.ok true w:=by
       rw[Go.isAgg,aI,run_underlying mH];rfl
      have e2:(sizeOf g.type).run P w=.ok hs.size w:=by
       simp[Go.sizeOf,typeInfo,OO,h5]
      simp[part,e1,e2,h2]
     ·have hj:j<hs.size:=by rw[<-hc];exact ah hx
      obtain⟨v,q1,q2⟩:=hu j x (by rw[bQ (by omega)];exact hx);exact⟨v,by rw[Array.getElem?_extract,ae (by have:=(vn.1 q1).1;omega),cV];exact q1,q2⟩
     obtain⟨v,q1,q2⟩:=hu (hs.size+j) x (by rw[bY (by omega),<-hx];congr 1;omega);exact⟨v,by rw[<-q1];congr 1;omega,q2⟩
    obtain⟨p1,m1,n1⟩:=cut xs a1 a2 l1 ha;obtain⟨p2,m2,n2⟩:=cut ys b1 b2 l2 hb;have hf:P.fieldsOf g.type=hs:=by simp[Program.fieldsOf,mH]
    have p3:(Op.equalIn (d+3) g.type (.agg (xs.extract i (i+hs.size))) (.agg (ys.extract i (i+hs.size)))).run P w=.ok r1 w:=by
     rw[run_equalIn_struct w (d+2) g.type _ _ (by rw[hf];exact mH) h6,hf];exact mV (d+1) _ _ hs.toList _ 0 a1 b1 r1 h7 (by rw[Tk,l1]) m1 m2 k1
    have rest:=ih (zs.drop hs.size) (i+hs.size) a2 b2 r2 h8 n1 n2 k2;simp only[Op.eqFields,ae mS,aI,p1,p2,p3,br];cases r1 with
    | true=>
     simp only[vz,aK,if_false,ia];exact rest
    | false=>simp
   cases h5
  split at hi
  ·rename_i z zs;simp only[qK]at hi;obtain⟨h1,h4⟩:=hi;cases a with
   | nil=>cases z<;>simp[aX]at he
   | cons x a=>
    obtain⟨u,v,s1,c,r',rfl,rfl,FQ,rfl,p3⟩:=oB h1 he;obtain⟨v',hv,Jg⟩:=ha 0 _ rfl;obtain⟨u',ni,FF⟩:=hb 0 _ rfl;injection Jg with Jg;injection FF with FF;subst Jg FF;have p1:=gN (w:=w) h1 (xs:=xs) (i:=g.offset) (by rw[h2];simpa using hv);have p2:=gN (w:=w) h1 (xs:=ys) (i:=g.offset) (by rw[h2];simpa using ni);have rest:=ih zs (i+1) a s1 r' h4 (fun j x hx=>by obtain⟨v,q1,q2⟩:=ha (j+1) x (by simpa using hx);exact⟨v,by rw[<-q1];congr 1;omega,q2⟩) (fun j x hx=>by obtain⟨v,q1,q2⟩:=hb (j+1) x (by simpa using hx);exact⟨v,by rw[<-q1];congr 1;omega,q2⟩) FQ;simp only[Op.eqFields,ae mS,aI,p1,p2,p3,br];cases c with
    | true=>
     simp only[vz,aK,if_false,ia];exact rest
    | false=>simp
  cases hi
theorem Ct{P:Program}{t:TypeId}{gs:Array Field}{zs:List Value}(mH:P.underlying t=some (.struct gs))(h2:P.stoodInHeld t=false)(h4:sn P 0 gs.toList zs=true){a b:List PV}{r:Bool}(hc:aX zs a b=some r)(xs ys:Array Value)(w:World)
  (ha:∀(i:Nat) x v,a[i]?=some x->xs[i]?=some v->x=.im v) (hb:∀(i:Nat) x v,b[i]?=some x->ys[i]?=some v->x=.im v) (LX:a.length=xs.size) (LY:b.length=ys.size):(Op.equal t (.agg xs) (.agg ys)).run P w=.ok r w:=by
 have hf:P.fieldsOf t=gs:=by simp[Program.fieldsOf,mH]
 have hex:∀(l:List PV) (zs:Array Value),l.length=zs.size->(∀(i:Nat) x v,l[i]?=some x->zs[i]?=some v->x=.im v)->∀(j:Nat) x,l[j]?=some x->∃v,zs[0+j]?=some v/\x=.im v:=by
  intro l zs hl hz j x hx;obtain⟨v,hv⟩:=fJ hl (ah hx);exact⟨v,by rw[cV];exact hv,hz j x v hx hv⟩
 have key:=vM (P:=P) (w:=w) 9996 xs ys gs.toList zs 0 a b r h4 (hex a xs LX ha) (hex b ys LY hb) hc;show (Op.equalIn (9999+1) t (.agg xs) (.agg ys)).run P w=_;rw[run_equalIn_struct w 9999 t xs ys (by rw[hf];exact mH) h2,hf];exact key
theorem xJ{P:Program}{t:TypeId}{gs:Array Field}{zs:List Value}(mH:P.underlying t=some (.struct gs))(h2:P.stoodInHeld t=false)(h4:iK P 0 gs.toList zs=true){a b:List PV}{r:Bool}(hc:aX zs a b=some r)(xs ys:Array Value)(w:World)
  (ha:∀(i:Nat) x v,a[i]?=some x->xs[i]?=some v->x=.im v) (hb:∀(i:Nat) x v,b[i]?=some x->ys[i]?=some v->x=.im v) (LX:a.length=xs.size) (LY:b.length=ys.size) (hsz:gs.size=a.length):(Op.equal t (.agg xs) (.agg ys)).run P w=.ok r w:=by
 have hf:P.fieldsOf t=gs:=by simp[Program.fieldsOf,mH]
 have hex:∀(l:List PV) (zs:Array Value),l.length=zs.size->(∀(i:Nat) x v,l[i]?=some x->zs[i]?=some v->x=.im v)->∀(j:Nat) x,l[j]?=some x->∃v,zs[0+j]?=some v/\x=.im v:=by
  intro l zs hl hz j x hx;obtain⟨v,hv⟩:=fJ hl (ah hx);exact⟨v,by rw[cV];exact hv,hz j x v hx hv⟩
 have key:=mV (P:=P) (w:=w) 9998 xs ys gs.toList zs 0 a b r h4 (by simp;omega) (hex a xs LX ha) (hex b ys LY hb) hc;show (Op.equalIn (9999+1) t (.agg xs) (.agg ys)).run P w=_;rw[run_equalIn_struct w 9999 t xs ys (by rw[hf];exact mH) h2,hf];exact key
theorem Jh{P:Program}(h:l.all (Jf P)=true):∀t ti op a b r,mU l t=some ti->ti.eq=true->(∃fs,ti.ud=.st fs)->aX ti.zero a b=some r->∀(xs ys:Array Value) w,(∀(i:Nat) x v,a[i]?=some x->xs[i]?=some v->x=.im v)->(∀(i:Nat) x v,b[i]?=some x->ys[i]?=some v->x=.im v)->
  a.length=xs.size->b.length=ys.size->ti.size=a.length->(op=.eql\/op=.neq)->∀(x y:Operand),(do eqGuard op t x y (.agg xs) (.agg ys);binOp op t (.agg xs) (.agg ys):Sem Value).run P w=.ok (.bool (if op=.eql then r else !r)) w:=by
 intro t ti op a b r ht he ⟨fs,NS⟩ dN xs ys w ha hb LX LY hsz aq x y;have:=cC.1 h _ (mf ht);unfold Jf at this;simp only[he,NS,qK]at this;obtain⟨⟨h1,h2⟩,h3⟩:=this;have h2:P.stoodInHeld t=false:=by simpa using h2
 have h3:P.eqGuardType P.depth t=false:=by simpa using h3
 split at h1
 ·rename_i gs mH;simp only[qK]at h1;obtain⟨h4,_⟩:=h1;have heq:=Ct mH h2 h4 dN xs ys w ha hb LX LY;have Ji:(eqGuard op t x y (.agg xs) (.agg ys)).run P w=.ok () w:=by
   rcases aq with rfl | rfl<;>simp[eqGuard,h3]
  rw[aI,Ji,br];rcases aq with rfl | rfl
  ·simp[binOp,heq]
  simp[binOp,heq]
 cases h1
def Jj(P:Program)(p:Nat×TI):Bool:=match tb p.2 with
 | some (.st _)=>(match P.underlying p.1 with
  | some (.struct gs)=>iK P 0 gs.toList p.2.zero
  | _=>false)&&!P.stoodInHeld p.1
 | _=>true
theorem Gy:∀{z:List Value} {sh:List Nat} {a b:List Value},Uy z=some sh->gZ sh a->gZ sh b->aX z (a.map .im) (b.map .im)=some (Ux a b):=by
 intro z
 induction z with
 | nil=>
  intro sh a b h ha hb;injection h with h;subst h;cases a<;>cases b<;>first
   | rfl
   | exact ha.elim
   | exact hb.elim
 | cons c z ih=>
  intro sh a b h ha hb;unfold Uy at h;split at h
  ·rename_i h1;cases h1
  all_goals first
   | (
     rename_i h1;injection h1 with h1 mP;subst h1 mP;obtain⟨s,hs,rfl⟩:=az.1 h;cases a with
     | nil=>exact ha.elim
     | cons x a=>cases b with
      | nil=>exact hb.elim
      | cons y b=>
       have hx:=ha.1;have hy:=hb.1;cases x<;>first | (exact hx.elim) | skip
       cases y<;>first | (exact hy.elim) | skip
       have:=ih hs ha.2 hb.2
       first
        | (simp only[qO,aX,this,eM,Ux,yw];done)
        | (
         have e1:_=IntKind.i64:=hx;have e2:_=IntKind.i64:=hy;subst e1 e2;simp only[qO,aX,this,eM,Ux,yw,kB];done))
   | cases h
theorem je:∀{sh:List Nat} {a:List Value},gZ sh a->a.length=sh.length
 | [],[],_=>rfl
 | [],_::_,h=>h.elim
 | _::_,[],h=>h.elim
 | _::_,_::_,h=>by simp[je h.2]
theorem EG:∀{z:List Value} {sh:List Nat},Uy z=some sh->z.length=sh.length:=by
 intro z
 induction z with
 | nil=>intro sh h;injection h with h;subst h;rfl
 | cons c z ih=>
  intro sh h;unfold Uy at h;split at h
  ·rename_i h1;cases h1
  all_goals first
   | (
     rename_i h1;injection h1 with h1 mP;subst h1 mP;obtain⟨s,hs,rfl⟩:=az.1 h;simp[ih hs];done)
   | cases h
theorem xK{P:Program}{t:TypeId}{z:Value}(h:FE (P.underlying t) z=true)(e:Bool)(n:Nat)(w:World)(v:Value):(Instr.checkKey e (n+1) t v).run P w=.ok () w:=by
 unfold FE at h;split at h
 all_goals first
  | (rename_i hu;cases v<;>simp[Instr.checkKey,run_underlying hu];done)
  | cases h
theorem vN{P:Program}(e:Bool)(n:Nat)(w:World)(xs:Array Value):∀(gs:List Field) (zs:List Value) (i:Nat),iK P i gs zs=true->(∀j,j<gs.length->∃v,xs[i+j]?=some v)->(forIn gs PUnit.unit fun f _=>(do
   if f.name ≠ "_" then Instr.checkKey e (n + 1) f.type (← part f.type xs f.offset)
   pure (ForInStep.yield PUnit.unit):Sem (ForInStep PUnit))).run P w=.ok PUnit.unit w:=by
 intro gs
 induction gs with
 | nil=>intro zs i _ _;rfl
 | cons g gs ih=>
  intro zs i hi hx;cases zs with
  | nil=>simp[iK]at hi
  | cons z zs=>
   simp only[iK,qK]at hi;obtain⟨⟨⟨h1,h2⟩,h3⟩,h4⟩:=hi;have h2:=bq h2
   have mS : g.name ≠ "_" := by simpa using h3
   obtain⟨v,hv⟩:=hx 0 (by simp);have p1:=gN (w:=w) h1 (xs:=xs) (i:=g.offset) (by rw[h2];simpa using hv);have rest:=ih zs (i+1) h4 fun j hj=>by obtain⟨v,q⟩:=hx (j+1) (by simpa using hj);exact⟨v,by rw[<-q];congr 1;omega⟩
   simp only[List.forIn_cons,ae mS,aI,p1,xK h1,br,ct];exact rest
theorem vO{P:Program}{kt:TypeId}{gs:Array Field}(mH:P.underlying kt=some (.struct gs))(e:Bool)(n:Nat)(w:World)(xs:Array Value):(Instr.checkKey e (n+1) kt (.agg xs)).run P w=((forIn gs.toList PUnit.unit fun f _=>(do
   if f.name ≠ "_" then Instr.checkKey e n f.type (← part f.type xs f.offset)
   pure (ForInStep.yield PUnit.unit):Sem (ForInStep PUnit))).run P w).andThen fun _ w'=>.ok () w':=by
 simp only[Instr.checkKey,aI,run_underlying mH,br,<-Array.forIn_toList];rfl
theorem vP{P:Program}(h:l.all (Jj P)=true):∀kt tk sh,mU l kt=some tk->tb tk=some (.st sh)->As P kt (.st sh):=by
 intro kt tk sh ht hm;have:=cC.1 h _ (mf ht);unfold Jj at this;simp only[hm,qK]at this;obtain⟨h1,h2⟩:=this;have h2:P.stoodInHeld kt=false:=by simpa using h2
 have hsh:Uy tk.zero=some sh:=by
  unfold tb at hm;split at hm<;>first
   | (cases hm;done)
   | skip
  all_goals (split at hm)
  all_goals first
   | (cases hm;done)
   | (obtain⟨s,hs,e⟩:=az.1 hm;injection e with e;subst e;exact hs)
 split at h1
 ·rename_i gs mH;have hlen:gs.size=sh.length:=by have:=pF h1;rw[EG hsh]at this;simpa using this
  refine⟨fun e k w hk=>?_,fun k w ms hk F4=>?_⟩
  ·cases k<;>first | (exact hk.elim) | skip
   rename_i xs;have hl:=je (sh:=sh) hk;have hl:xs.size=sh.length:=by simpa using hl
   have:=vN e 9998 w xs gs.toList tk.zero 0 h1 fun j hj=>⟨xs[j]'(by simp at hj;omega),by rw[cV];exact bE _⟩;exact (vO mH e 9999 w xs).trans (by rw[this];rfl)
  rw[run_findKey_eq w (by rw[mH]) k ms];show (Instr.findAsking kt k ms 0).run P w=.ok (mN k ms 0) w;generalize 0=i
  induction ms generalizing i with
  | nil=>rfl
  | cons m ms ih=>
   have mD:=F4 m dJ;cases k<;>first | (exact hk.elim) | skip
   rename_i xs;obtain⟨mk,mv,mb⟩:=m;cases mk<;>first | (exact mD.elim) | skip
   rename_i ys;have P5:xs.size=sh.length:=by simpa using je (sh:=sh) hk
   have SA:ys.size=sh.length:=by simpa using je (sh:=sh) mD
   have Lj:∀(zs:Array Value) (i:Nat) x v,(zs.toList.map PV.im)[i]?=some x->zs[i]?=some v->x=.im v:=fun zs i x v q1 q2=>by
    rw[ao,cg,q2]at q1;injection q1 with q1;exact q1.symm
   have:=xJ mH h2 h1 (Gy (sh:=sh) hsh hk mD) xs ys w (Lj xs) (Lj ys) (by simp) (by simp) (by simp;omega);unfold Instr.findAsking mN;simp only[aI,this,br,yx];cases Ux xs.toList ys.toList with
   | true=>rfl
   | false=>exact ih (fun x hx=>F4 x (An _ hx)) _
 cases h1
end Go.AM
namespace Go.AM
open Go.RowKit
variable {A:jR}
theorem aY.EH(hC:aL A.C)(s:AS)(d:Nat)(e:TypeId)(ti:TI)(hd:d<100000)(hn:s.t d=.nl)(hT:A.C.T e=some ti)(hpos:0<ti.size):
  aY A s ⟨ax (dH d s).t d (.ow d),ax (dH d s).h d (.row e [])⟩:=by
 intro S rho a w sim;have hv:a.tmps.getD d undef=.slice none 0 0:=by
  have:=sim.tm d trivial;rw[hn]at this;generalize a.tmps.getD d undef=v at this;cases this;rfl
 have gQ:=sim.free d (.row e []);obtain⟨info,z,h1,h2,h3,h4,h5,h6,h7,h8⟩:=hC.eL e ti hT;have aJ:=gQ.new hC d (.row e []) hd (fun h=>h rfl) (ak _ _ _) w rfl rfl rfl (aC _) (fun _=>False) (fun _ _ _=>rfl) (fun _ h=>h.elim) (.slice none 0 0) (fun g hg=>by cases hg) fun T=>by
  show an _ _ _ _ _ (ax rho d _ d);rw[ak];exact⟨info,[],h1,by omega,⟨by simp,.inl ⟨rfl,rfl⟩⟩,by simp,by simp,by simp⟩
 have cF:aU A bk bk S (ax rho d (.slice none 0 0)) ⟨(dH d s).t,ax (dH d s).h d (.row e [])⟩ a w:=aJ.jF (fun _ _=>trivial) (fun k=>⟨fun _=>by by_cases e:k=d;exact .inr e;exact .inl e,fun _=>trivial⟩);refine⟨S,_,{ cF with tm:=fun j _=>?_ }⟩;by_cases ej:j=d
 ·subst ej;show aE _ _ _ _ _ _ (ax _ _ _ _) _;rw[ak];exact .ow j _ fun _=>⟨trivial,by rw[ak];exact hv⟩
 show aE _ _ _ _ _ _ (ax _ _ _ _) _;rw[au _ _ ej];exact cF.tm j trivial
theorem aY.g_(hC:aL A.C)(s:AS)(d:Nat){y:PV}{fz:List (Nat×AB)}(h:AM.g_ s.h (s.t d) fun y' jr=>y'=y/\jr=fz):aY A s ⟨ax s.t d (.p y),app s.h fz⟩:=by
 intro S rho a w sim;obtain⟨y',jr,S',⟨rfl,rfl⟩,aQ,hp,hS,hF,_⟩:=e8 hC sim (h:=s.h) (fun _=>.inl rfl) (sim.tm d trivial) h;refine⟨S',rho,{ aQ with tm:=fun j _=>?_ }⟩;by_cases ej:j=d
 ·subst ej;show aE _ _ _ _ _ _ (ax _ _ _ _) _;rw[ak];exact .p _ _ hp
 show aE _ _ _ _ _ _ (ax _ _ _ _) _;rw[au _ _ ej];exact aQ.tm j trivial
theorem aY.nil(hC:aL A.C)(s:AS)(d:Nat)(h:s.t d=.nl):aY A s ⟨ax s.t d (.p (.sl [])),s.h⟩:=aY.g_ hC s d (y:=.sl []) (fz:=[]) (by rw[h];exact⟨rfl,rfl⟩)
theorem aY.own(hC:aL A.C)(s:AS)(d:Nat){id:Nat}{e:TypeId}{es:List (List PV)}(h:s.t d=.ow id)(h2:s.h id=.row e es):aY A s ⟨ax s.t d (.p (.sl es)),ax s.h id (.f_ es)⟩:=aY.g_ hC s d (y:=.sl es) (fz:=[(id,.f_ es)]) (by rw[h];simp only[AM.g_,AM.iC];rw[h2];exact⟨rfl,rfl⟩)
theorem aY.ez(s:AS)(i d:Nat)(hid:i≠d)(hd:d<100000):aY A s (iT i d s):=fun S _ _ _ sim=>⟨S,_,sim.rename i d hid hd⟩
theorem aY.rf(hC:aL A.C)(s:AS)(id j d:Nat)(e:TypeId)(ti:TI)(cs:List AV)(hd:d<100000)(hid:id≠d)(hb:s.h id=.box cs)(hn:cs[j]?=some .nl)(hT:A.C.T e=some ti)(hpos:0<ti.size):
  aY A s ⟨(dH d s).t,ax (ax (dH d s).h d (.row e [])) id (.box ((cs.map (sc d)).set j (.ow d)))⟩:=by
 intro S rho a w sim;have gQ:=sim.free d (.row e []);obtain⟨info,z,h1,h2,h3,h4,h5,h6,h7,h8⟩:=hC.eL e ti hT;have aJ:=gQ.new hC d (.row e []) hd (fun h=>h rfl) (ak _ _ _) w rfl rfl rfl (aC _) (fun _=>False) (fun _ _ _=>rfl) (fun _ h=>h.elim) (.slice none 0 0) (fun g hg=>by cases hg) fun T=>by
  show an _ _ _ _ _ (ax rho d _ d);rw[ak];exact⟨info,[],h1,by omega,⟨by simp,.inl ⟨rfl,rfl⟩⟩,by simp,by simp,by simp⟩
 have cF:aU A bk bk S (ax rho d (.slice none 0 0)) ⟨(dH d s).t,ax (dH d s).h d (.row e [])⟩ a w:=aJ.jF (fun _ _=>trivial) (fun k=>⟨fun _=>by by_cases e:k=d;exact .inr e;exact .inl e,fun _=>trivial⟩);have aA:(ax (dH d s).h d (.row e [])) id=.box (cs.map (sc d)):=by
  rw[au _ _ hid];show ax (fun k=>qX d (s.h k)) d .none id=_;rw[au _ _ hid,hb];rfl
 refine⟨S,_,cF.write hC id trivial (by show ((ax (dH d s).h d (.row e [])) id).live;rw[aA];trivial) _ (fun _ h=>by cases h) w rfl rfl rfl rfl (fun _ _=>rfl) fun T=>?_⟩;have hh:=cF.hp id trivial;have hh:cd S w A.C.P bk (ax rho d (.slice none 0 0)) (ax (dH d s).h d (.row e [])) id ((ax (dH d s).h d (.row e [])) id):=hh;rw[aA]at hh;obtain⟨g,ty,c,k1,k2,k3,k4⟩:=hh;refine⟨g,ty,c,k1,k2,by rw[k3,aF],fun i x u hi hu=>?_⟩;by_cases ei:i=j
 ·subst ei;have hj:(cs.map (sc d))[i]?=some .nl:=by rw[ao,hn];rfl
  rw[aP (ah hj)]at hi;injection hi with hi;subst hi;obtain⟨k5,k6⟩:=k4 i _ u hj hu;refine⟨k5,.ow d u fun _=>⟨trivial,?_⟩⟩;rw[ak];cases k6;rfl
 rw[bw (fun e=>ei e.symm)]at hi;obtain⟨k5,k6⟩:=k4 i x u hi hu;exact⟨k5,k6.bA T⟩
theorem aY.Gz(hC:aL A.C)(s:AS)(id j i:Nat)(e:TypeId)(es:List (List PV))(cs:List AV)(hid:id≠i)(hb:s.h id=.box cs)(hn:cs[j]?=some (.ow i))(hr:s.h i=.row e es):
  aY A s ⟨s.t,ax (ax s.h i (.f_ es)) id (.box (cs.set j (.p (.sl es))))⟩:=by
 intro S rho a w sim;have gQ:=sim.tJ hC i trivial hr;have aA:(ax s.h i (.f_ es)) id=.box cs:=by rw[au _ _ hid];exact hb
 refine⟨_,_,gQ.write hC id trivial (by show ((ax s.h i (.f_ es)) id).live;rw[aA];trivial) _ (fun _ h=>by cases h) w rfl rfl rfl rfl (fun _ _=>rfl) fun T=>?_⟩;have hh:=gQ.hp id trivial;have hh:cd _ w A.C.P bk rho (ax s.h i (.f_ es)) id ((ax s.h i (.f_ es)) id):=hh;rw[aA]at hh;have hf:=gQ.hp i trivial;have hf:cd _ w A.C.P bk rho (ax s.h i (.f_ es)) i ((ax s.h i (.f_ es)) i):=hf;rw[ak]at hf;obtain⟨g,ty,c,k1,k2,k3,k4⟩:=hh;refine⟨g,ty,c,k1,k2,by rw[k3,aF],fun q x u hi hu=>?_⟩;by_cases ei:q=j
 ·subst ei;rw[aP (ah hn)]at hi;injection hi with hi;subst hi;obtain⟨k5,k6⟩:=k4 q _ u hn hu;refine⟨k5,.p _ _ ?_⟩;rw[(k6.bu (by rw[ak];trivial)).2];exact hf
 rw[bw (fun e=>ei e.symm)]at hi;obtain⟨k5,k6⟩:=k4 q x u hi hu;exact⟨k5,k6.bA T⟩
end Go.AM
namespace Go.AM
open Go.RowKit
def kH:List Nat->List (Nat×AB)
 | []=>[]
 | n::r=>(n,.none)::kH r
theorem uk{h:Nat->AB}:∀{l:List Nat} (k:Nat),app h (kH l) k=if k∈l then .none else h k
 | [],k=>by simp[kH,app]
 | n::l,k=>by
  show app (ax h n .none) (kH l) k=_;rw[uk (l:=l) k];by_cases h1:k∈l
  ·simp[h1]
  by_cases h2:k=n
  ·subst h2;simp[h1,ak]
  simp[h1,h2,au]
variable {A:jR}
theorem aY.pack(hC:aL A.C)(s:AS)(id:Nat){bs:List AV}{cs:List HC}(hb:s.h id=.box bs)(hg:cN (aS bs)=true)(hp:qg s.h bs cs):aY A s ⟨s.t,ax (app s.h (kH (aS bs))) id (.aA cs)⟩:=by
 intro S rho a w sim;obtain⟨g,ty,c,k1,k2,k3⟩:=r8 sim (id:=id) trivial hb hg hp;have aN:(s.h id).live:=by rw[hb];trivial
 have at':∀j,(j=id/\ax (app s.h (kH (aS bs))) id (.aA cs) j=.aA cs)\/(j≠id/\j∈aS bs/\ax (app s.h (kH (aS bs))) id (.aA cs) j=.none)\/(j≠id/\¬j∈aS bs/\ax (app s.h (kH (aS bs))) id (.aA cs) j=s.h j):=fun j=>by
  by_cases e:j=id
  ·subst e;exact .inl ⟨rfl,ak _ _ _⟩
  rw[au _ _ e,uk];by_cases h:j∈aS bs
  ·exact .inr (.inl ⟨e,h,ae h⟩)
  exact .inr (.inr ⟨e,h,af h⟩)
 have T:fu S S w w bk bk rho rho s.h (ax (app s.h (kH (aS bs))) id (.aA cs)):=⟨fun _ h=>h,fun _ _=>rfl,fun j hj=>⟨by
   rcases at' j with⟨rfl,_⟩ | ⟨_,_,h⟩ | ⟨_,_,h⟩
   ·rw[hb];trivial
   ·rw[h]at hj;exact hj.elim
   ·rw[h]at hj;exact hj,fun _=>⟨trivial,rfl⟩⟩,fun j e hj=>by
   rcases at' j with⟨_,h⟩ | ⟨_,_,h⟩ | ⟨_,_,h⟩
   ·rw[h]at hj;cases hj
   ·rw[h]at hj;cases hj
   rw[h]at hj;exact hj⟩
 have owner:∀j g,(ax (app s.h (kH (aS bs))) id (.aA cs) j).live->hasB w (ax (app s.h (kH (aS bs))) id (.aA cs) j) (rho j) g->∃k,(s.h k).live/\hasB w (s.h k) (rho k) g/\((j=id/\(k=id\/k∈aS bs))\/(j=k/\j≠id/\¬j∈aS bs)):=fun j g hl ho=>by
  rcases at' j with⟨rfl,h⟩ | ⟨_,_,h⟩ | ⟨h1,h2,h⟩
  ·rw[h]at ho;rcases k3 g ho with h | ⟨n,h1,_,h3,h4⟩
   ·exact⟨j,aN,.inl h,.inl ⟨rfl,.inl rfl⟩⟩
   exact⟨n,h3,.inl h4,.inl ⟨rfl,.inr h1⟩⟩
  ·rw[h]at hl;exact hl.elim
  rw[h]at hl ho;exact⟨j,hl,ho,.inr ⟨rfl,h1,h2⟩⟩
 exact⟨S,rho,
 {tm:=fun j hj=>(sim.tm j hj).bA T
  sz:=sim.sz,df:=sim.df,nb:=sim.nb,pn:=sim.pn,ev:=sim.ev,s0:=sim.s0,st:=sim.st,sb:=sim.sb
  hp:=fun j _=>by
   show cd _ _ _ _ _ _ _ (ax (app s.h (kH (aS bs))) id (.aA cs) j);rcases at' j with⟨rfl,h⟩ | ⟨_,_,h⟩ | ⟨_,_,h⟩
   ·rw[h];exact⟨g,ty,c,k1,k2⟩
   ·rw[h];trivial
   rw[h];exact (sim.hp j trivial).bA T (fun _ _ _=>rfl) (fun _=>rfl)
  dj:=fun i j g _ _ li lj hi hj=>by
   obtain⟨k,l1,o1,c1⟩:=owner i g li hi;obtain⟨m,l2,o2,c2⟩:=owner j g lj hj;have:=sim.dj k m g trivial trivial l1 l2 o1 o2;subst this;rcases c1 with⟨rfl,c1⟩ | ⟨rfl,c1,c3⟩<;>rcases c2 with⟨rfl,c2⟩ | ⟨rfl,c2,c4⟩
   ·rfl
   ·rcases c1 with c1 | c1
    ·exact (c2 c1).elim
    exact (c4 c1).elim
   ·rcases c2 with c2 | c2
    ·exact (c1 c2).elim
    exact (c3 c2).elim
   rfl
  lv:=fun i g _ li hi=>by
   obtain⟨k,l1,o1,_⟩:=owner i g li hi;exact sim.lv k g trivial l1 o1
  fr:=sim.fr }⟩
def mh:List HC->List Nat->List AV
 | [],_=>[]
 | .p x::r,ns=>.p x::mh r ns
 | .row _ _::r,n::ns=>.ow n::mh r ns
 | .row _ _::r,[]=>.junk::mh r []
def tz:List HC->List Nat->List (Nat×AB)
 | [],_=>[]
 | .p _::r,ns=>tz r ns
 | .row e es::r,n::ns=>(n,.row e es)::tz r ns
 | .row _ _::_,[]=>[]
def rowsOf:List HC->Nat
 | []=>0
 | .p _::r=>rowsOf r
 | .row _ _::r=>rowsOf r+1
def gF:List (Nat×AB)->AS->AS
 | [],s=>s
 | (d,b)::r,s=>gF r ⟨(dH d s).t,ax (dH d s).h d b⟩
theorem pG:∀{cs:List HC} {ns:List Nat},rowsOf cs=ns.length->(tz cs ns).map (·.1)=ns
 | [],ns,h=>by cases ns with | nil=>rfl | cons n ns=>simp[rowsOf]at h
 | .p x::cs,ns,h=>by show (tz cs ns).map _=_;exact pG h
 | .row e es::cs,[],h=>by simp[rowsOf]at h
 | .row e es::cs,n::ns,h=>by
  simp only[rowsOf,cD,l5]at h;simp[tz,pG h]
theorem A0:∀{cs:List HC} {ns:List Nat} {n:Nat} {b:AB},(n,b)∈tz cs ns->∃(j:Nat) (e:TypeId) (es:List (List PV)),cs[j]?=some (.row e es)/\b=.row e es/\(mh cs ns)[j]?=some (.ow n)
 | [],ns,n,b,h=>by cases h
 | .p x::cs,ns,n,b,h=>by
  obtain⟨j,e,es,h1,h2,h3⟩:=A0 (cs:=cs) (ns:=ns) h;exact⟨j+1,e,es,h1,h2,h3⟩
 | .row e es::cs,[],n,b,h=>by cases h
 | .row e es::cs,m::ns,n,b,h=>by
  rcases fL.1 h with h | h
  ·injection h with h1 h2;subst h1 h2;exact⟨0,e,es,rfl,rfl,rfl⟩
  obtain⟨j,e,es,h1,h2,h3⟩:=A0 (cs:=cs) (ns:=ns) h;exact⟨j+1,e,es,h1,h2,h3⟩
theorem vQ:∀{cs:List HC} {ns:List Nat} {j:Nat} {x:AV},rowsOf cs=ns.length->(mh cs ns)[j]?=some x->(∃z,cs[j]?=some (.p z)/\x=.p z)\/∃n e es,cs[j]?=some (.row e es)/\x=.ow n/\(n,.row e es)∈tz cs ns
 | [],ns,j,x,_,h=>by simp[mh]at h
 | .p y::cs,ns,0,x,_,h=>by simp[mh]at h;exact .inl ⟨y,rfl,h.symm⟩
 | .p y::cs,ns,j+1,x,hl,h=>by
  have:=vQ (cs:=cs) (ns:=ns) (j:=j) hl (by simpa [mh] using h);exact this
 | .row e es::cs,[],j,x,hl,_=>by simp[rowsOf]at hl
 | .row e es::cs,n::ns,0,x,_,h=>by simp[mh]at h;exact .inr ⟨n,e,es,rfl,h.symm,by simp[tz]⟩
 | .row e es::cs,n::ns,j+1,x,hl,h=>by
  simp only[rowsOf,cD,l5]at hl;rcases vQ (cs:=cs) (ns:=ns) (j:=j) hl (by simpa [mh] using h) with h | ⟨m,e',bW,h1,h2,h3⟩
  ·exact .inl h
  exact .inr ⟨m,e',bW,h1,h2,by simp[tz,h3]⟩
theorem rh:∀{cs:List HC} {ns:List Nat},(mh cs ns).length=cs.length
 | [],_=>rfl
 | .p x::cs,ns=>by simp[mh,rh (cs:=cs)]
 | .row e es::cs,[]=>by simp[mh,rh (cs:=cs)]
 | .row e es::cs,n::ns=>by simp[mh,rh (cs:=cs)]
theorem T6{S:Nat->Prop}{rho:Nat->Value}{a:Act}{w:World}:∀(l:List (Nat×AB)) (L:Nat->Prop) (s:AS),aU A bk L S rho s a w->aU A bk (fun k=>L k/\∀p∈l,p.1≠k) S rho (gF l s) a w
 | [],L,s,sim=>sim.jF (fun _ h=>h) (fun i=>⟨fun h=>h.1,fun h=>⟨h,by simp⟩⟩)
 | (d,b)::l,L,s,sim=>(T6 l _ _ (sim.HM d b)).jF (fun _ h=>h) (fun i=>⟨fun ⟨h1,h2⟩=>⟨⟨h1,fun e=>h2 (d,b) (by simp) e.symm⟩,fun p hp=>h2 p (by simp[hp])⟩,fun ⟨⟨h1,h2⟩,h3⟩=>⟨h1,fun p hp=>by
   rcases fL.1 hp with h | h
   ·subst h;exact fun e=>h2 e.symm
   exact h3 p h⟩⟩)
theorem lC:∀(l:List (Nat×AB)) (s:AS) (k:Nat),(∀p∈l,p.1≠k)->(∀d,qX d (s.h k)=s.h k)->(gF l s).h k=s.h k
 | [],s,k,_,_=>rfl
 | (d,b)::l,s,k,h,hs=>by
  have hk:k≠d:=fun e=>h (d,b) (by simp) e.symm;have e1:ax (dH d s).h d b k=s.h k:=by
   rw[au _ _ hk];show ax (fun k=>qX d (s.h k)) d .none k=_;rw[au _ _ hk];exact hs d
  show (gF l ⟨(dH d s).t,ax (dH d s).h d b⟩).h k=_;rw[lC l _ k (fun p hp=>h p (by simp[hp])) (fun d'=>by show qX d' (ax (dH d s).h d b k)=ax (dH d s).h d b k;rw[e1];exact hs d')];exact e1
theorem so:∀(l:List (Nat×AB)) (s:AS) (k:Nat) (b:AB),(l.map (·.1)).Nodup->(∀d,qX d b=b)->(k,b)∈l->(gF l s).h k=b
 | [],s,k,b,_,_,h=>by cases h
 | (d,b')::l,s,k,b,hn,hb,h=>by
  simp only[qO,jc]at hn;show (gF l ⟨(dH d s).t,ax (dH d s).h d b'⟩).h k=_;rcases fL.1 h with h | h
  ·injection h with h1 h2;subst h1 h2;rw[lC l _ k (fun p hp e=>hn.1 (aV.2 ⟨p,hp,e⟩)) (fun d'=>by show qX d' (ax (dH k s).h k b k)=ax (dH k s).h k b k;rw[ak];exact hb d')];exact ak _ _ _
  exact so l _ k b hn.2 hb h
theorem kI:∀{l:List Nat},cN l=true->l.Nodup
 | [],_=>by simp
 | n::l,h=>by
  simp[cN]at h;refine jc.2 ⟨fun hm=>?_,kI h.2.2⟩;rw[iH.2 hm]at h;cases h.1
theorem aY.open(hC:aL A.C)(s:AS)(id:Nat)(ns:List Nat){cs:List HC}(hb:s.h id=.aA cs)(hl:rowsOf cs=ns.length)(hg:cN ns=true)(hid:xx id ns=false):
  aY A s ⟨(gF (tz cs ns) s).t,ax (gF (tz cs ns) s).h id (.box (mh cs ns))⟩:=by
 intro S rho a w kP;have P6:=pG hl;have Fz:((tz cs ns).map (·.1)).Nodup:=by rw[P6];exact kI hg
 have iR:∀n,n∈ns↔∃b,(n,b)∈tz cs ns:=fun n=>by rw[show (n∈ns)=(n∈(tz cs ns).map (·.1)) by rw[P6]];simp
 have xL:¬id∈ns:=fun h=>by rw[iH.2 h]at hid;cases hid
 have sim:=T6 (tz cs ns) bk s kP;have sim:aU A bk (fun k=>¬k∈ns) S rho (gF (tz cs ns) s) a w:=sim.jF (fun _ h=>h) (fun i=>⟨fun h=>⟨trivial,fun p hp e=>h (by rw[iR,<-e];exact⟨p.2,hp⟩)⟩,fun ⟨_,h⟩ hm=>by obtain⟨b,dM⟩:=(iR i).1 hm;exact h _ dM rfl⟩);obtain⟨s1,AA⟩:∃s1,s1=gF (tz cs ns) s:=⟨_,rfl⟩;have sq:s1.h id=.aA cs:=by
  rw[AA,lC _ _ id (fun p hp e=>xL (by rw[iR,<-e];exact⟨p.2,hp⟩)) (fun d=>by rw[hb];rfl),hb]
 have LZ:∀n b,(n,b)∈tz cs ns->s1.h n=b:=fun n b hm=>by
  obtain⟨j,e,es,_,rfl,_⟩:=A0 hm;rw[AA];exact so _ _ n _ Fz (fun d=>rfl) hm
 rw[<-AA]at sim ⊢;have hh:=sim.hp id xL;rw[sq]at hh;obtain⟨g,ty,c,k1,hB⟩:=hh;have Ch:bH (rho id)=some g:=by rw[k1];rfl
 have aN:(s1.h id).live:=by rw[sq];trivial
 have place:∀n,n∈ns->∃(j:Nat) (e:TypeId) (es:List (List PV)) (u:Value),cs[j]?=some (.row e es)/\(mh cs ns)[j]?=some (.ow n)/\c[j]?=some u/\s1.h n=.row e es/\(n,AB.row e es)∈tz cs ns:=fun n hm=>by
  obtain⟨b,dM⟩:=(iR n).1 hm;obtain⟨j,e,es,h1,rfl,h3⟩:=A0 dM;obtain⟨u,hu⟩:=fJ hB.sz.symm (ah h1);exact⟨j,e,es,u,h1,h3,hu,LZ n _ dM,dM⟩
 obtain⟨F,hF⟩:∃F:Nat->Value,∀n,n∈ns->∃(j:Nat) (e:TypeId) (es:List (List PV)),cs[j]?=some (.row e es)/\(mh cs ns)[j]?=some (.ow n)/\c[j]?=some (F n)/\s1.h n=.row e es/\(n,AB.row e es)∈tz cs ns:=by
  have ex:∀n,∃u:Value,n∈ns->∃(j:Nat) (e:TypeId) (es:List (List PV)),cs[j]?=some (.row e es)/\(mh cs ns)[j]?=some (.ow n)/\c[j]?=some u/\s1.h n=.row e es/\(n,AB.row e es)∈tz cs ns:=fun n=>by
   by_cases hm:n∈ns
   ·obtain⟨j,e,es,u,h⟩:=place n hm;exact⟨u,fun _=>⟨j,e,es,h⟩⟩
   exact⟨undef,fun h=>(hm h).elim⟩
  exact⟨fun n=>(ex n).choose,fun n=>(ex n).choose_spec⟩
 have GA:∀{cs:List HC} {ns:List Nat} {i j n:Nat},rowsOf cs=ns.length->cN ns=true->(mh cs ns)[i]?=some (.ow n)->(mh cs ns)[j]?=some (.ow n)->i=j:=by
  intro cs ns i j n hl hg h1 h2;have xM:∀{cs:List HC} {ns:List Nat},rowsOf cs=ns.length->aS (mh cs ns)=ns:=by
   intro cs
   induction cs with
   | nil=>intro ns h;cases ns with | nil=>rfl | cons n ns=>simp[rowsOf]at h
   | cons x cs ih=>
    intro ns h;cases x with
    | p x=>exact ih h
    | row e es=>
     cases ns with
     | nil=>simp[rowsOf]at h
     | cons n ns=>
      simp only[rowsOf,cD,l5]at h;show n::aS (mh cs ns)=_;rw[ih h]
  exact kd (by rw[xM hl];exact hg) h1 h2
 obtain⟨rho',H5⟩:∃rho':Nat->Value,rho'=fun k=>if k∈ns then F k else rho k:=⟨_,rfl⟩;have Kw:∀k,k∈ns->rho' k=F k:=fun k hk=>by rw[H5];exact ae hk
 have zH:∀k,¬k∈ns->rho' k=rho k:=fun k hk=>by rw[H5];exact af hk
 have Kx:∀k,(k=id/\ax s1.h id (.box (mh cs ns)) k=.box (mh cs ns))\/(k≠id/\ax s1.h id (.box (mh cs ns)) k=s1.h k):=fun k=>by
  by_cases e:k=id
  ·subst e;exact .inl ⟨rfl,ak _ _ _⟩
  exact .inr ⟨e,au _ _ e⟩
 have T:fu S S w w (fun k=>¬k∈ns) bk rho rho' s1.h (ax s1.h id (.box (mh cs ns))):=⟨fun _ h=>h,fun _ _=>rfl,fun j hj=>⟨by
   rcases Kx j with⟨rfl,h⟩ | ⟨_,h⟩
   ·rw[sq];trivial
   ·rw[h]at hj;exact hj,fun hn=>⟨trivial,zH j hn⟩⟩,fun j e hj=>by
   rcases Kx j with⟨_,h⟩ | ⟨_,h⟩
   ·rw[h]at hj;cases hj
   rw[h]at hj;exact hj⟩
 have owner:∀j k,(ax s1.h id (.box (mh cs ns)) j).live->hasB w (ax s1.h id (.box (mh cs ns)) j) (rho' j) k->∃o,¬o∈ns/\(s1.h o).live/\hasB w (s1.h o) (rho o) k/\(if j∈ns then o=id else o=j):=fun j k hl ho=>by
  by_cases hj:j∈ns
  ·obtain⟨i,e,es,h1,h2,h3,h4,h5⟩:=hF j hj;have RF:j≠id:=fun e=>xL (e▸hj);rw[au _ _ RF,h4,Kw j hj]at ho;refine⟨id,xL,aN,?_,by rw[ae hj]⟩;rw[sq];exact .inr <| .inl ⟨cs,g,rfl,Ch,c,ty,_,i,_,F j,hB.hp,h1,trivial,h3,al rfl ho⟩
  rw[zH j hj]at ho;rcases Kx j with⟨rfl,h⟩ | ⟨_,h⟩
  ·rw[h]at ho;exact⟨j,hj,aN,.inl (al rfl ho),by rw[af hj]⟩
  rw[h]at hl ho;exact⟨j,hj,hl,ho,by rw[af hj]⟩
 exact⟨S,rho',
 {tm:=fun j hj=>(sim.tm j hj).bA T
  sz:=sim.sz,df:=sim.df,nb:=sim.nb
  pn:=fun k hk=>by rw[zH k fun h=>by have:=ke hg h;omega];exact sim.pn k hk
  ev:=sim.ev,s0:=sim.s0,st:=sim.st,sb:=sim.sb
  hp:=fun j _=>by
   show cd _ _ _ _ _ _ _ (ax s1.h id (.box (mh cs ns)) j);rcases Kx j with⟨rfl,h⟩ | ⟨bO,h⟩
   ·rw[h];refine⟨g,ty,c,by rw[zH j xL];exact k1,hB.hp,by rw[rh];exact hB.sz,fun i x u hi hu=>?_⟩;rcases vQ hl hi with⟨z,h1,rfl⟩ | ⟨n,e,es,h1,rfl,h3⟩
    ·exact⟨(hB.cell i _ u h1 hu).1,.p _ _ (hB.cell i _ u h1 hu).2⟩
    refine⟨(hB.cell i _ u h1 hu).1,.ow n u fun _=>⟨trivial,?_⟩⟩;have hm:n∈ns:=(iR n).2 ⟨_,h3⟩;obtain⟨i',e',bW,q1,q2,q3,q4,q5⟩:=hF n hm;have:=GA hl hg q2 hi;subst this;rw[Kw n hm];rw[q3]at hu;injection hu with hu;exact hu.symm
   rw[h];by_cases hj:j∈ns
   ·obtain⟨i,e,es,h1,h2,h3,h4,h5⟩:=hF j hj;rw[h4];show an _ _ _ _ _ (rho' j);rw[Kw j hj];exact (hB.cell i _ _ h1 h3).2
   exact (sim.hp j hj).bA T (fun _ _ _=>rfl) (fun _=>zH j hj)
  dj:=fun i j k _ _ li lj hi hj=>by
   obtain⟨o,o1,o2,o3,o4⟩:=owner i k li hi;obtain⟨p,p1,p2,p3,p4⟩:=owner j k lj hj;have:=sim.dj o p k o1 p1 o2 p2 o3 p3;subst this;by_cases ei:i∈ns
   ·rw[ae ei]at o4;subst o4;have hi:hasB w (ax s1.h o (.box (mh cs ns)) i) (rho' i) k:=hi;obtain⟨i1,e1,M0,q1,q2,q3,q4,q5⟩:=hF i ei;have Jk:bH (F i)=some k:=by
     rw[au _ _ (fun e=>xL (by rw[<-e];exact ei)),q4,Kw i ei]at hi;exact al rfl hi
    by_cases ej:j∈ns
    ·have hj:hasB w (ax s1.h o (.box (mh cs ns)) j) (rho' j) k:=hj;obtain⟨j1,e2,jo,r1,r2,r3,r4,r5⟩:=hF j ej;have OP:bH (F j)=some k:=by
      rw[au _ _ (fun e=>xL (by rw[<-e];exact ej)),r4,Kw j ej]at hj;exact al rfl hj
     have:=hB.dis i1 j1 _ _ _ _ k q1 r1 q3 r3 trivial trivial Jk OP;subst this;rw[q2]at r2;injection r2 with r2;injection r2
    rw[af ej]at p4;subst p4;exfalso;have hj:hasB w (ax s1.h o (.box (mh cs ns)) o) (rho' o) k:=hj;rw[ak,zH o ej]at hj;have hj:=al rfl hj;rw[Ch]at hj;injection hj with hj;exact hB.top i1 _ _ k q1 q3 trivial Jk hj.symm
   rw[af ei]at o4;by_cases ej:j∈ns
   ·rw[ae ej]at p4;subst o4;subst p4;exfalso;have hi:hasB w (ax s1.h o (.box (mh cs ns)) o) (rho' o) k:=hi;have hj:hasB w (ax s1.h o (.box (mh cs ns)) j) (rho' j) k:=hj;obtain⟨j1,e2,jo,r1,r2,r3,r4,r5⟩:=hF j ej;have OP:bH (F j)=some k:=by
     rw[au _ _ (fun e=>xL (by rw[<-e];exact ej)),r4,Kw j ej]at hj;exact al rfl hj
    rw[ak,zH o ei]at hi;have hi:=al rfl hi;rw[Ch]at hi;injection hi with hi;exact hB.top j1 _ _ k r1 r3 trivial OP hi.symm
   rw[af ej]at p4;exact o4.symm.trans p4
  lv:=fun i k _ li hi=>by
   obtain⟨o,o1,o2,o3,_⟩:=owner i k li hi;exact sim.lv o k o1 o2 o3
  fr:=sim.fr }⟩
end Go.AM
namespace Go.AM
open Go.RowKit
def cellAt(w:World)(g p:Nat)(u:Value):Prop:=∃(c:Array Value) (ty:TypeId) (m:Nat×Nat),w.heap[g]?=some (.cells c ty m)/\c[p]?=some u
theorem jf{w:World}{g p:Nat}{u v:Value}(h:cellAt w g p u)(k:cellAt w g p v):u=v:=by
 obtain⟨c,ty,m,h1,h2⟩:=h;obtain⟨c',KX,m',k1,k2⟩:=k;rw[h1]at k1;injection k1 with k1;injection k1 with k1;subst k1;rw[h2]at k2;injection k2
theorem cS{w:World}{es:List (List HX)}{g a j:Nat}{u:Value}:bI w es g a j u↔∃r e xs,es[a]?=some r/\r[j]?=some (.row e xs)/\cellAt w g (a*r.length+j) u:=
 ⟨fun ⟨r,e,xs,c,ty,m,h1,h2,h3,h4⟩=>⟨r,e,xs,h1,h2,c,ty,m,h3,h4⟩,fun ⟨r,e,xs,h1,h2,c,ty,m,h3,h4⟩=>⟨r,e,xs,c,ty,m,h1,h2,h3,h4⟩⟩
variable {α:Type} {e:TypeId}
theorem an.re{β:Type}{P:Program}{w:World}{R:α->Value->Prop}{R':β->Value->Prop}{es:List (List α)}{jo:List (List β)}{v:Value}(h:an P w R e es v)(hl:jo.length=es.length)
  (hk:∀(a:Nat) r r2,es[a]?=some r->jo[a]?=some r2->r2.length=r.length)
  (hc:∀(a:Nat) r r2 (j:Nat) x x2 u,es[a]?=some r->jo[a]?=some r2->r[j]?=some x->r2[j]?=some x2->(∀g,bH v=some g->cellAt w g (a*r.length+j) u)->R x u->R' x2 u):an P w R' e jo v:=by
 obtain⟨i,xs,h1,h2,h3,h4,h5,h6⟩:=h;have old:∀{a:Nat} {r2:List β},jo[a]?=some r2->∃r,es[a]?=some r:=fun {a r2} ha=>⟨_,aM (by rw[<-hl];exact ah ha)⟩;refine⟨i,xs,h1,h2,by rw[hl];exact h3,fun r2 jb=>?_,h5,fun a r2 j x2 ha hj=>?_⟩
 ·obtain⟨a,ha⟩:=cf.1 jb;obtain⟨r,hr⟩:=old ha;rw[hk a r r2 hr ha];exact h4 r (aj hr)
 obtain⟨r,hr⟩:=old ha;have hlen:=hk a r r2 hr ha;obtain⟨x,hx⟩:∃x,r[j]?=some x:=⟨_,aM (by rw[<-hlen];exact ah hj)⟩;obtain⟨u,hu,nF⟩:=h6 a r j x hr hx;refine⟨u,hu,hc a r r2 j x x2 u hr ha hx hj (fun g hg=>?_) nF⟩;have nP:=h4 r (aj hr);rcases h3.2 with⟨hn,_⟩ | ⟨g',cap,cur,hv,_,wI,k1,k2,k3,k4⟩
 ·rw[hn]at hg;cases hg
 rw[hv]at hg;obtain rfl:=ed.1 hg;refine⟨cur,_,_,wI,?_⟩;rw[nP];rw[<-k4,cB]at hu;split at hu
 ·simpa using hu
 cases hu
variable {A:jR}
theorem aY.OQ(hC:aL A.C)(s:AS)(id:Nat){es:List (List PV)}(hb:s.h id=.row e es):aY A s ⟨s.t,ax s.h id (.ai e (es.map o8))⟩:=by
 intro S rho a w sim;have zI:∀g k j u,¬bI w (es.map o8) g k j u:=fun g k j u h=>by
  obtain⟨r,e',kS,h1,h2,_⟩:=cS.1 h;rw[ao]at h1;obtain⟨q,_,rfl⟩:=az.1 h1;rw[o8,ao]at h2;obtain⟨z,_,hz⟩:=az.1 h2;cases hz
 have hh:=sim.hp id trivial;rw[hb]at hh;have hh:an A.C.P w (ay S w) e es (rho id):=hh;refine⟨S,rho,sim.vf hC id trivial (by rw[hb];trivial) _ (fun e' h=>by rw[hb];exact h) w rfl rfl rfl rfl (fun _ _=>rfl) (fun T=>?_) (fun g h=>?_)⟩
 ·refine⟨hh.re (by simp) (fun k r r2 h1 h2=>?_) (fun k r r2 j x x2 u h1 h2 h3 h4 _ hx=>?_),⟨fun g k j u b _ h=>absurd h (zI _ _ _ _),fun g k j k' j' u u' b _ h=>absurd h (zI _ _ _ _)⟩⟩
  ·rw[ao,h1]at h2;injection h2 with h2;rw[<-h2,o8,Al]
  rw[ao,h1]at h2;injection h2 with h2;rw[<-h2,o8,ao,h3]at h4;injection h4 with h4;rw[<-h4];exact va hx
 rw[bN]at h;rcases h with h | ⟨g',k,j,u,_,h,_⟩
 ·exact .inl h
 exact absurd h (zI _ _ _ _)
def GB:HX->Prop
 | .av (.p _)=>True
 | .av .nl=>True
 | .row _ _=>True
 | _=>False
def ri(es:List (List HX)):Prop:=∀r∈es,∀x∈r,GB x
theorem Cu{es:List (List HX)}(h:ri es)(d:Nat):(es.map fun r=>r.map (HX.Te (sc d)))=es:=by
 conv=>rhs;rw[<-List.map_id es]
 refine vA fun r hr=>?_;show r.map _=r
 conv=>rhs;rw[<-List.map_id r]
 refine vA fun x hx=>?_;have:=h r hr x hx;cases x with
 | row e es=>rfl
 | av y=>cases y<;>first | rfl | exact this.elim
theorem fw{l:List α}{i a:Nat}{x y:α}(h:(l.set i x)[a]?=some y):(a=i/\y=x/\i<l.length)\/(a≠i/\l[a]?=some y):=by
 by_cases e:a=i
 ·subst e;have hl:=ah h;rw[aF]at hl;rw[aP hl]at h;injection h with h;exact .inl ⟨rfl,h.symm,hl⟩
 rw[bw (fun e'=>e e'.symm)]at h;exact .inr ⟨e,h⟩
variable {e':TypeId}
theorem aY.mi(hC:aL A.C)(s:AS)(id i j d:Nat){es:List (List HX)}{r:List HX}{xs:List (List PV)}(hd:d<100000)(hid:id≠d)(hb:s.h id=.ai e es)(hs:ri es)(hr:es[i]?=some r)(hj:r[j]?=some (.row e' xs)):
  aY A s ⟨(dH d s).t,ax (ax (dH d s).h d (.row e' xs)) id (.ai e (es.set i (r.set j (.av (.ow d)))))⟩:=by
 intro S rho a w kP;have sim:=kP.free d (.row e' xs);obtain⟨h1,OR⟩:∃h1,h1=ax (dH d s).h d (.row e' xs):=⟨_,rfl⟩;have sq:h1 id=.ai e es:=by
  rw[OR,au _ _ hid];show ax (fun k=>qX d (s.h k)) d .none id=_;rw[au _ _ hid,hb];show AB.ai e _=_;rw[Cu hs]
 have P7:h1 d=.row e' xs:=by rw[OR,ak]
 rw[<-OR]at sim ⊢;obtain⟨jo,lD⟩:∃jo,jo=es.set i (r.set j (.av (.ow d))):=⟨_,rfl⟩;rw[<-lD];have hh:=sim.hp id hid;have hh:cd S w A.C.P (fun k=>k≠d) rho h1 id (h1 id):=hh;rw[sq]at hh;obtain⟨hR,hS⟩:=hh;obtain⟨g,u,hg,Nc,nF⟩:=hR.rE hr hj;have nF:an A.C.P w (ay S w) e' xs u:=nF;have aN:(h1 id).live:=by rw[sq];trivial
 have cc:∀g' k p v,bI w jo g' k p v->bI w es g' k p v/\¬(k=i/\p=j):=by
  intro g' k p v hc;obtain⟨q,e2,w6,q1,q2,q3⟩:=cS.1 hc;rw[lD]at q1;rcases fw q1 with⟨rfl,rfl,_⟩ | ⟨hk,q1⟩
  ·rcases fw q2 with⟨_,hx,_⟩ | ⟨hp,q2⟩
   ·cases hx
   exact⟨cS.2 ⟨r,e2,w6,hr,q2,by rw[aF]at q3;exact q3⟩,fun h=>hp h.2⟩
  exact⟨cS.2 ⟨q,e2,w6,q1,q2,q3⟩,fun h=>hk h.1⟩
 have hown:∀b,bH u=some b->hasB w (h1 id) (rho id) b:=fun b h=>by rw[sq,bN];exact .inr ⟨g,i,j,u,hg,Nc,h⟩
 obtain⟨rho',eZ⟩:∃rho',rho'=ax rho d u:=⟨_,rfl⟩;have rd:rho' d=u:=by rw[eZ,ak]
 have ro:∀k,k≠d->rho' k=rho k:=fun k h=>by rw[eZ,au _ _ h]
 have T:fu S S w w (fun k=>k≠d) bk rho rho' h1 (ax h1 id (.ai e jo)):=⟨fun _ h=>h,fun _ _=>rfl,fun k hk=>⟨by
   rcases aD h1 id (.ai e jo) k with⟨rfl,h⟩ | ⟨_,h⟩
   ·rw[sq];trivial
   ·rw[h]at hk;exact hk,fun h=>⟨trivial,ro k h⟩⟩,fun k e2 hk=>by
   rcases aD h1 id (.ai e jo) k with⟨rfl,h⟩ | ⟨_,h⟩
   ·rw[h]at hk;rw[sq];exact hk
   rw[h]at hk;exact hk⟩
 have owner:∀k b,(ax h1 id (.ai e jo) k).live->hasB w (ax h1 id (.ai e jo) k) (rho' k) b->∃o,o≠d/\(h1 o).live/\hasB w (h1 o) (rho o) b/\(if k=d then o=id/\bH u=some b else o=k/\(k=id->bH u≠some b)):=by
  intro k b hl ho;by_cases hk:k=d
  ·subst hk;rw[au _ _ (fun e=>hid e.symm),P7,rd]at ho;have ho:=al rfl ho;exact⟨id,hid,aN,hown b ho,by rw[ae rfl];exact⟨rfl,ho⟩⟩
  rcases aD h1 id (.ai e jo) k with⟨rfl,h⟩ | ⟨bO,h⟩
  ·rw[h,ro k hk]at ho;rw[bN]at ho;refine⟨k,hk,aN,?_,?_⟩
   ·rw[sq,bN];rcases ho with ho | ⟨g',k',p,v,o1,o2,o3⟩
    ·exact .inl ho
    exact .inr ⟨g',k',p,v,o1,(cc _ _ _ _ o2).1,o3⟩
   rw[af hk];refine⟨rfl,fun _ P8=>?_⟩;rcases ho with ho | ⟨g',k',p,v,o1,o2,o3⟩
   ·rw[hg]at ho;injection ho with ho;exact hS.top g i j u b hg Nc P8 ho.symm
   rw[hg]at o1;injection o1 with o1;subst o1;obtain⟨c1,c2⟩:=cc _ _ _ _ o2;exact c2 (hS.dis g k' p i j v u b hg c1 Nc o3 P8)
  rw[h,ro k hk]at ho;rw[h]at hl;exact⟨k,hk,hl,ho,by rw[af hk];exact⟨rfl,fun e=>absurd e bO⟩⟩
 exact⟨S,rho',
 {tm:=fun k hk=>(sim.tm k hk).bA T
  sz:=sim.sz,df:=sim.df,nb:=sim.nb
  pn:=fun k hk=>by rw[ro k (by omega)];exact sim.pn k hk
  ev:=sim.ev,s0:=sim.s0,st:=sim.st,sb:=sim.sb
  hp:=fun k _=>by
   show cd _ _ _ _ _ _ _ (ax h1 id (.ai e jo) k);by_cases hk:k=d
   ·subst hk;rw[au _ _ (fun e=>hid e.symm),P7];show an _ _ _ _ _ (rho' k);rw[rd];exact nF
   rcases aD h1 id (.ai e jo) k with⟨rfl,h⟩ | ⟨bO,h⟩
   ·rw[h];show an _ _ _ _ _ (rho' k)/\kU _ _ (rho' k);rw[ro k hk];refine⟨hR.re (by rw[lD,aF]) (fun p q q2 z1 z2=>?_) (fun p q q2 m x x2 v z1 z2 z3 z4 hcell hx=>?_),⟨fun g' p m v b c1 c2 c3=>hS.top g' p m v b c1 (cc _ _ _ _ c2).1 c3,fun g' p m p' m' v v' b c1 c2 c3 c4 c5=>hS.dis g' p m p' m' v v' b c1 (cc _ _ _ _ c2).1 (cc _ _ _ _ c3).1 c4 c5⟩⟩
    ·rw[lD]at z2;rcases fw z2 with⟨rfl,rfl,_⟩ | ⟨_,z2⟩
     ·rw[hr]at z1;injection z1 with z1;rw[<-z1,aF]
     rw[z1]at z2;injection z2 with z2;rw[z2]
    have qo:iY S w A.C.P (fun k=>k≠d) rho h1 x v->x2=x->iY S w A.C.P bk rho' (ax h1 k (.ai e jo)) x2 v:=fun hx L0=>by
     rw[L0];cases x with
     | av y=>exact aE.bA T hx
     | row e2 w6=>exact hx
    rw[lD]at z2;rcases fw z2 with⟨rfl,rfl,_⟩ | ⟨_,z2⟩
    ·rw[hr]at z1;injection z1 with z1;subst z1;rcases fw z4 with⟨rfl,rfl,_⟩ | ⟨_,z4⟩
     ·obtain⟨q',_,_,c1,_,c2⟩:=cS.1 Nc;rw[hr]at c1;injection c1 with c1;subst c1;have:=jf (hcell g hg) c2;subst this;exact .ow d _ fun _=>⟨trivial,rd.symm⟩
     rw[z3]at z4;injection z4 with z4;exact qo hx z4.symm
    rw[z1]at z2;injection z2 with z2;subst z2;rw[z3]at z4;injection z4 with z4;exact qo hx z4.symm
   rw[h];exact (sim.hp k hk).bA T (fun _ _ _=>rfl) (fun _=>ro k hk)
  dj:=fun k m b _ _ lk lm hk hm=>by
   obtain⟨o,o1,o2,o3,o4⟩:=owner k b lk hk;obtain⟨p,p1,p2,p3,p4⟩:=owner m b lm hm;have:=sim.dj o p b o1 p1 o2 p2 o3 p3;subst this;by_cases ek:k=d<;>by_cases em:m=d
   ·rw[ek,em]
   ·rw[ae ek]at o4;rw[af em]at p4;exact absurd o4.2 (p4.2 (p4.1.symm.trans o4.1))
   ·rw[af ek]at o4;rw[ae em]at p4;exact absurd p4.2 (o4.2 (o4.1.symm.trans p4.1))
   rw[af ek]at o4;rw[af em]at p4;exact o4.1.symm.trans p4.1
  lv:=fun k b _ lk hk=>by
   obtain⟨o,o1,o2,o3,_⟩:=owner k b lk hk;exact sim.lv o b o1 o2 o3
  fr:=sim.fr }⟩
theorem aY.jg(hC:aL A.C)(s:AS)(id i j d:Nat){es:List (List HX)}{r:List HX}{xs:List (List PV)}(hid:id≠d)(hb:s.h id=.ai e es)(Nd:s.h d=.row e' xs)(hr:es[i]?=some r)(hj:r[j]?=some (.av (.ow d))):
  aY A s ⟨s.t,ax (ax s.h d .none) id (.ai e (es.set i (r.set j (.row e' xs))))⟩:=by
 intro S rho a w sim;obtain⟨jo,lD⟩:∃jo,jo=es.set i (r.set j (.row e' xs)):=⟨_,rfl⟩;rw[<-lD];have hh:=sim.hp id trivial;rw[hb]at hh;obtain⟨hR,hS⟩:=hh;have aN:(s.h id).live:=by rw[hb];trivial
 have OS:(s.h d).live:=by rw[Nd];trivial
 have Kn:=sim.hp d trivial;rw[Nd]at Kn;have Kn:an A.C.P w (ay S w) e' xs (rho d):=Kn;have up:∀k,(k=id/\ax (ax s.h d .none) id (.ai e jo) k=.ai e jo)\/(k=d/\k≠id/\ax (ax s.h d .none) id (.ai e jo) k=.none)\/(k≠d/\k≠id/\ax (ax s.h d .none) id (.ai e jo) k=s.h k):=fun k=>by
  by_cases h1:k=id
  ·subst h1;exact .inl ⟨rfl,ak _ _ _⟩
  by_cases h2:k=d
  ·subst h2;exact .inr (.inl ⟨rfl,h1,by rw[au _ _ h1,ak]⟩)
  exact .inr (.inr ⟨h2,h1,by rw[au _ _ h1,au _ _ h2]⟩)
 have T:fu S S w w bk bk rho rho s.h (ax (ax s.h d .none) id (.ai e jo)):=⟨fun _ h=>h,fun _ _=>rfl,fun k hk=>⟨by
   rcases up k with⟨rfl,h⟩ | ⟨_,_,h⟩ | ⟨_,_,h⟩
   ·rw[hb];trivial
   ·rw[h]at hk;exact hk.elim
   ·rw[h]at hk;exact hk,fun h=>⟨trivial,rfl⟩⟩,fun k e2 hk=>by
   rcases up k with⟨rfl,h⟩ | ⟨_,_,h⟩ | ⟨_,_,h⟩
   ·rw[h]at hk;rw[hb];exact hk
   ·rw[h]at hk;cases hk
   rw[h]at hk;exact hk⟩
 have hval:∀g u,bH (rho id)=some g->cellAt w g (i*r.length+j) u->u=rho d:=fun g u hg hu=>by
  obtain⟨i0,ws,q1,q2,q3,q4,q5,q6⟩:=hR;obtain⟨u2,p1,p2⟩:=q6 i r j _ hr hj;have p2:aE S w A.C.P bk rho s.h (.ow d) u2:=p2;have:=(p2.bu (by rw[Nd];trivial)).2;rw[<-this];have nP:=q4 r (aj hr);rcases q3.2 with⟨hn,_⟩ | ⟨g',cap,cur,hv,_,wI,k1,k2,k3,k4⟩
  ·rw[hn]at hg;cases hg
  rw[hv]at hg;obtain rfl:=ed.1 hg;refine jf hu ⟨cur,_,_,wI,?_⟩;rw[nP];rw[<-k4,cB]at p1;split at p1
  ·simpa using p1
  cases p1
 have cc:∀g k p v,bH (rho id)=some g->bI w jo g k p v->(bI w es g k p v/\¬(k=i/\p=j))\/(k=i/\p=j/\v=rho d):=by
  intro g k p v hg hc;obtain⟨q,e2,w6,q1,q2,q3⟩:=cS.1 hc;rw[lD]at q1;rcases fw q1 with⟨rfl,rfl,_⟩ | ⟨hk,q1⟩
  ·rw[aF]at q3;rcases fw q2 with⟨rfl,_,_⟩ | ⟨hp,q2⟩
   ·exact .inr ⟨rfl,rfl,hval g v hg q3⟩
   exact .inl ⟨cS.2 ⟨r,e2,w6,hr,q2,q3⟩,fun h=>hp h.2⟩
  exact .inl ⟨cS.2 ⟨q,e2,w6,q1,q2,q3⟩,fun h=>hk h.1⟩
 have inner:∀g k p v b,bH (rho id)=some g->bI w es g k p v->bH v=some b->bH (rho d)≠some b:=fun g k p v b h1 h2 h3 h4=>
  hid (sim.dj id d b trivial trivial aN OS (by rw[hb,bN];exact .inr ⟨g,k,p,v,h1,h2,h3⟩) (.inl h4))
 have owner:∀k b,(ax (ax s.h d .none) id (.ai e jo) k).live->hasB w (ax (ax s.h d .none) id (.ai e jo) k) (rho k) b->∃o,(s.h o).live/\hasB w (s.h o) (rho o) b/\(o=k/\k≠d\/o=d/\k=id):=by
  intro k b hl ho;rcases up k with⟨rfl,h⟩ | ⟨_,_,h⟩ | ⟨h1,_,h⟩
  ·rw[h,bN]at ho;rcases ho with ho | ⟨g,k',p,v,o1,o2,o3⟩
   ·exact⟨k,aN,.inl ho,.inl ⟨rfl,hid⟩⟩
   rcases cc _ _ _ _ o1 o2 with⟨c1,_⟩ | ⟨_,_,rfl⟩
   ·exact⟨k,aN,by rw[hb,bN];exact .inr ⟨g,k',p,v,o1,c1,o3⟩,.inl ⟨rfl,hid⟩⟩
   exact⟨d,OS,.inl o3,.inr ⟨rfl,rfl⟩⟩
  ·rw[h]at hl;exact hl.elim
  rw[h]at hl ho;exact⟨k,hl,ho,.inl ⟨rfl,h1⟩⟩
 exact⟨S,rho,
 {tm:=fun k hk=>(sim.tm k hk).bA T
  sz:=sim.sz,df:=sim.df,nb:=sim.nb,pn:=sim.pn
  ev:=sim.ev,s0:=sim.s0,st:=sim.st,sb:=sim.sb
  hp:=fun k _=>by
   show cd _ _ _ _ _ _ _ (ax (ax s.h d .none) id (.ai e jo) k);rcases up k with⟨rfl,h⟩ | ⟨_,_,h⟩ | ⟨h1,bO,h⟩
   ·rw[h];refine⟨hR.re (by rw[lD,aF]) (fun p q q2 z1 z2=>?_) (fun p q q2 m x x2 v z1 z2 z3 z4 hcell hx=>?_),⟨fun g p m v b c1 c2 c3=>?_,fun g p m p' m' v v' b c1 c2 c3 c4 c5=>?_⟩⟩
    ·rw[lD]at z2;rcases fw z2 with⟨rfl,rfl,_⟩ | ⟨_,z2⟩
     ·rw[hr]at z1;injection z1 with z1;rw[<-z1,aF]
     rw[z1]at z2;injection z2 with z2;rw[z2]
    ·have qo:iY S w A.C.P bk rho s.h x v->x2=x->iY S w A.C.P bk rho (ax (ax s.h d .none) k (.ai e jo)) x2 v:=fun hx L0=>by
      rw[L0];cases x with
      | av y=>exact aE.bA T hx
      | row e2 w6=>exact hx
     rw[lD]at z2;rcases fw z2 with⟨rfl,rfl,_⟩ | ⟨_,z2⟩
     ·rw[hr]at z1;injection z1 with z1;subst z1;rcases fw z4 with⟨rfl,rfl,_⟩ | ⟨_,z4⟩
      ·have hx:iY S w A.C.P bk rho s.h x v:=hx;rw[hj]at z3;injection z3 with z3;subst z3;have hx:aE S w A.C.P bk rho s.h (.ow d) v:=hx;show an A.C.P w (ay S w) e' xs v;rw[(hx.bu (by rw[Nd];trivial)).2];exact Kn
      rw[z3]at z4;injection z4 with z4;exact qo hx z4.symm
     rw[z1]at z2;injection z2 with z2;subst z2;rw[z3]at z4;injection z4 with z4;exact qo hx z4.symm
    ·rcases cc _ _ _ _ c1 c2 with⟨q1,_⟩ | ⟨_,_,rfl⟩
     ·exact hS.top g p m v b c1 q1 c3
     intro IU;subst IU;exact hid (sim.dj k d b trivial trivial aN OS (.inl c1) (.inl c3))
    rcases cc _ _ _ _ c1 c2 with⟨q1,q2⟩ | ⟨rfl,rfl,rfl⟩<;>rcases cc _ _ _ _ c1 c3 with⟨q3,q4⟩ | ⟨rfl,rfl,rfl⟩
    ·exact hS.dis g p m p' m' v v' b c1 q1 q3 c4 c5
    ·exact absurd c5 (inner g p m v b c1 q1 c4)
    ·exact absurd c4 (inner g p' m' v' b c1 q3 c5)
    exact⟨rfl,rfl⟩
   ·rw[h];trivial
   rw[h];exact (sim.hp k trivial).bA T (fun _ _ _=>rfl) (fun _=>rfl)
  dj:=fun k m b _ _ lk lm hk hm=>by
   obtain⟨o,o1,o2,o3⟩:=owner k b lk hk;obtain⟨p,p1,p2,p3⟩:=owner m b lm hm;have:=sim.dj o p b trivial trivial o1 p1 o2 p2;subst this;rcases o3 with⟨rfl,o3⟩ | ⟨rfl,o3⟩<;>rcases p3 with⟨rfl,p3⟩ | ⟨h,p3⟩
   ·rfl
   ·exact absurd h o3
   ·exact absurd rfl p3
   rw[o3,p3]
  lv:=fun k b _ lk hk=>by
   obtain⟨o,o1,o2,_⟩:=owner k b lk hk;exact sim.lv o b trivial o1 o2
  fr:=sim.fr }⟩
theorem aY.OT(hC:aL A.C)(s:AS)(id i j:Nat){es:List (List HX)}{r:List HX}{ti:TI}(hb:s.h id=.ai e es)(hr:es[i]?=some r)(hj:r[j]?=some (.av .nl))(hT:A.C.T e'=some ti)(hpos:0<ti.size):
  aY A s ⟨s.t,ax s.h id (.ai e (es.set i (r.set j (.row e' []))))⟩:=by
 intro S rho a w sim;obtain⟨jo,lD⟩:∃jo,jo=es.set i (r.set j (.row e' [])):=⟨_,rfl⟩;rw[<-lD];have hh:=sim.hp id trivial;rw[hb]at hh;obtain⟨hR,hS⟩:=hh;obtain⟨info,z,h1,h2,_⟩:=hC.eL e' ti hT;have hval:∀g u,bH (rho id)=some g->cellAt w g (i*r.length+j) u->u=.slice none 0 0:=fun g u hg hu=>by
  obtain⟨i0,ws,q1,q2,q3,q4,q5,q6⟩:=hR;obtain⟨u2,p1,p2⟩:=q6 i r j _ hr hj;have p2:aE S w A.C.P bk rho s.h .nl u2:=p2;have:u2=.slice none 0 0:=by cases p2;rfl
  rw[<-this];have nP:=q4 r (aj hr);rcases q3.2 with⟨hn,_⟩ | ⟨g',cap,cur,hv,_,wI,k1,k2,k3,k4⟩
  ·rw[hn]at hg;cases hg
  rw[hv]at hg;obtain rfl:=ed.1 hg;refine jf hu ⟨cur,_,_,wI,?_⟩;rw[nP];rw[<-k4,cB]at p1;split at p1
  ·simpa using p1
  cases p1
 have cc:∀g k p v b,bH (rho id)=some g->bI w jo g k p v->bH v=some b->bI w es g k p v:=by
  intro g k p v b hg hc hv;obtain⟨q,e2,w6,q1,q2,q3⟩:=cS.1 hc;rw[lD]at q1;rcases fw q1 with⟨rfl,rfl,_⟩ | ⟨hk,q1⟩
  ·rw[aF]at q3;rcases fw q2 with⟨rfl,_,_⟩ | ⟨hp,q2⟩
   ·rw[hval g v hg q3]at hv;cases hv
   exact cS.2 ⟨r,e2,w6,hr,q2,q3⟩
  exact cS.2 ⟨q,e2,w6,q1,q2,q3⟩
 refine⟨S,rho,sim.vf hC id trivial (by rw[hb];trivial) _ (fun e2 h=>by rw[hb];exact h) w rfl rfl rfl rfl (fun _ _=>rfl) (fun T=>?_) (fun g h=>?_)⟩
 ·refine⟨hR.re (by rw[lD,aF]) (fun p q q2 z1 z2=>?_) (fun p q q2 m x x2 v z1 z2 z3 z4 hcell hx=>?_),⟨fun g p m v b c1 c2 c3=>hS.top g p m v b c1 (cc _ _ _ _ _ c1 c2 c3) c3,fun g p m p' m' v v' b c1 c2 c3 c4 c5=>hS.dis g p m p' m' v v' b c1 (cc _ _ _ _ _ c1 c2 c4) (cc _ _ _ _ _ c1 c3 c5) c4 c5⟩⟩
  ·rw[lD]at z2;rcases fw z2 with⟨rfl,rfl,_⟩ | ⟨_,z2⟩
   ·rw[hr]at z1;injection z1 with z1;rw[<-z1,aF]
   rw[z1]at z2;injection z2 with z2;rw[z2]
  have qo:iY S w A.C.P bk rho s.h x v->x2=x->iY S w A.C.P bk rho (ax s.h id (.ai e jo)) x2 v:=fun hx L0=>by
   rw[L0];cases x with
   | av y=>exact aE.bA T hx
   | row e2 w6=>exact hx
  rw[lD]at z2;rcases fw z2 with⟨rfl,rfl,_⟩ | ⟨_,z2⟩
  ·rw[hr]at z1;injection z1 with z1;subst z1;rcases fw z4 with⟨rfl,rfl,_⟩ | ⟨_,z4⟩
   ·rw[hj]at z3;injection z3 with z3;subst z3;have hx:aE S w A.C.P bk rho s.h .nl v:=hx;have:v=.slice none 0 0:=by cases hx;rfl
    rw[this];exact⟨info,[],h1,by omega,⟨by simp,.inl ⟨rfl,rfl⟩⟩,by simp,by simp,by simp⟩
   rw[z3]at z4;injection z4 with z4;exact qo hx z4.symm
  rw[z1]at z2;injection z2 with z2;subst z2;rw[z3]at z4;injection z4 with z4;exact qo hx z4.symm
 rw[bN]at h;rw[hb,bN];rcases h with h | ⟨g',k,p,v,c1,c2,c3⟩
 ·exact .inl h
 exact .inr ⟨g',k,p,v,c1,cc _ _ _ _ _ c1 c2 c3,c3⟩
theorem Kf.map{l:List α}{f:α->List HX}{g:α->List PV}(h:∀x∈l,(g x).length=(f x).length/\∀(j:Nat) u v,(f x)[j]?=some u->(g x)[j]?=some v->KI u v):Kf (l.map f) (l.map g):=
 ⟨by simp,fun a r q h1 h2=>by
  rw[ao]at h1 h2;obtain⟨x,hx,rfl⟩:=az.1 h1;rw[hx]at h2;injection h2 with h2;subst h2;exact h x (aj hx)⟩
theorem aY.L1(hC:aL A.C)(s:AS)(id:Nat){es:List (List HX)}(ps:List (List PV))(hb:s.h id=.ai e es)(hps:Kf es ps):aY A s ⟨s.t,ax s.h id (.row e ps)⟩:=by
 intro S rho a w sim;have hh:=sim.hp id trivial;rw[hb]at hh;obtain⟨hR,hS⟩:=hh;have aN:(s.h id).live:=by rw[hb];trivial
 obtain⟨I,hI⟩:∃I:Nat->Prop,I=fun b=>∃g k j u,bH (rho id)=some g/\bI w es g k j u/\bH u=some b:=⟨_,rfl⟩;have OU:∀b,I b->hasB w (s.h id) (rho id) b:=fun b h=>by rw[hI]at h;rw[hb,bN];exact .inr h
 have L2:∀b,I b->bH (rho id)≠some b:=fun b h hg=>by
  rw[hI]at h;obtain⟨g,k,j,u,h1,h2,h3⟩:=h;rw[h1]at hg;injection hg with hg;exact hS.top g k j u b h1 h2 h3 hg.symm
 have T:fu S (fun b=>S b\/I b) w w bk bk rho rho s.h (ax s.h id (.row e ps)):=by
  refine⟨fun b h=>.inl h,fun _ _=>rfl,fun j hj=>⟨?_,fun hl=>⟨hl,rfl⟩⟩,fun j e' hj=>?_⟩
  ·rcases aD s.h id (.row e ps) j with⟨rfl,h⟩ | ⟨_,h⟩
   ·rw[hb];trivial
   rw[h]at hj;exact hj
  rcases aD s.h id (.row e ps) j with⟨rfl,h⟩ | ⟨_,h⟩
  ·rw[h]at hj;rw[hb];exact hj
  rw[h]at hj;exact hj
 have cM:∀j,((ax s.h id (.row e ps)) j).live->(s.h j).live:=by
  intro j hj;rcases aD s.h id (.row e ps) j with⟨rfl,h⟩ | ⟨h1,h⟩
  ·exact aN
  rw[h]at hj;exact hj
 have back:∀j g,hasB w (ax s.h id (.row e ps) j) (rho j) g->hasB w (s.h j) (rho j) g:=fun j g h=>by
  rcases aD s.h id (.row e ps) j with⟨rfl,h'⟩ | ⟨h1,h'⟩
  ·rw[h']at h;exact .inl (al rfl h)
  rw[h']at h;exact h
 exact⟨fun b=>S b\/I b,rho,
 {tm:=fun j hj=>(sim.tm j hj).bA T
  sz:=sim.sz,df:=sim.df,nb:=sim.nb,pn:=sim.pn
  ev:=hC.env _ _ _ _ sim.ev (fun b h=>.inl h) (fun _ _=>rfl) (aC _)
  s0:=fun b h=>.inl (sim.s0 b h)
  st:=fun b h=>h.elim (sim.st b) fun h=>(sim.lv id b trivial aN (OU b h)).1
  sb:=fun b h=>h.elim (sim.sb b) fun h=>.inr (sim.lv id b trivial aN (OU b h)).2.2
  hp:=fun j hj=>by
   rcases aD s.h id (.row e ps) j with⟨rfl,h⟩ | ⟨h1,h⟩
   ·show cd _ _ _ _ _ _ _ (ax s.h j (.row e ps) j);rw[h];refine hR.re hps.len (fun p q q2 z1 z2=>(hps.row p q q2 z1 z2).1) (fun p q q2 m x x2 v z1 z2 z3 z4 hcell hx=>?_);have:=(hps.row p q q2 z1 z2).2 m x x2 z3 z4;cases this with
    | p x=>exact (aE.cb hx).mono (fun b h=>.inl h) (fun _ _=>rfl)
    | nl=>
     have hx:aE S w A.C.P bk rho s.h .nl v:=hx;cases hx;exact .nil _ _
    | row e' xs=>
     have hx:an A.C.P w (ay S w) e' xs v:=hx;refine an.yG hx (fun b h=>.inl h) fun b dM=>.inr ?_;rw[hI];obtain⟨g,u,g1,g2,_⟩:=hR.rE z1 z3;obtain⟨q',_,_,c1,_,c2⟩:=cS.1 g2;rw[z1]at c1;injection c1 with c1;subst c1;have:=jf (hcell g g1) c2;subst this;exact⟨g,p,m,v,g1,g2,dM⟩
   show cd _ _ _ _ _ _ _ (ax s.h id (.row e ps) j);rw[h];exact (sim.hp j hj).bA T (fun _ _ _=>rfl) (fun _=>rfl)
  dj:=fun i j g hi hj li lj cK dW=>sim.dj i j g hi hj (cM i li) (cM j lj) (back i g cK) (back j g dW)
  lv:=fun i g hi li hg=>by
   obtain⟨h3,h4,h5⟩:=sim.lv i g hi (cM i li) (back i g hg);refine⟨h3,fun h=>h.elim h4 fun h=>?_,h5⟩;have:=sim.dj i id g hi trivial (cM i li) aN (back i g hg) (OU g h);subst this;have hg:hasB w (ax s.h i (.row e ps) i) (rho i) g:=hg;rw[ak]at hg;exact L2 g h (al rfl hg)
  fr:=sim.fr }⟩
end Go.AM
namespace Go.AM
open Go.RowKit
variable {A:jR}
theorem aY.Jl(hC:aL A.C)(s:AS)(d:Nat)(hd:d<100000):aY A s ⟨(dH d s).t,ax (dH d s).h d (.fam [] [])⟩:=by
 intro S rho a w sim;have gQ:=sim.free d (.fam [] []);have aJ:=gQ.jA hC d (.fam [] []) hd (fun h=>h rfl) (ak _ _ _) w rfl rfl rfl (aC _) (fun _=>False) (fun _ _ _=>rfl) (fun _ h=>h.elim) (.tuple #[])
  (fun g hg=>by
   rcases fN.1 hg with h | ⟨m,g',cs,h,_⟩
   ·cases h
   ·simp at h) (fun T=>by
   refine⟨?_,⟨fun m g cs h=>by simp at h,fun m m' g g' cs dB k h=>by simp at h,fun m n g cs h=>by cases h⟩⟩;rw[ak];rfl)
 exact⟨S,_,aJ.jF (fun _ _=>trivial) (fun k=>⟨fun _=>by by_cases e:k=d;exact .inr e;exact .inl e,fun _=>trivial⟩)⟩
variable {cs:List HC}
theorem mj{w:World}{g k:Nat}:hasB w (.aA cs) (.pointer (some ⟨g,0,none⟩)) k↔mE w cs g k:=by
 constructor
 ·rintro (h | ⟨dB,g',h,hg,c,ty,m,j,y,u,h1⟩ | ⟨e,es,g',a,j,u,h,_⟩ | ⟨l,out,m,g',dB,h,_⟩)
  ·injection h with h;exact .inl h.symm
  ·injection h with h;subst h;injection hg with hg;subst hg;exact .inr ⟨c,ty,m,j,y,u,h1⟩
  ·cases h
  cases h
 rintro (h | ⟨c,ty,m,j,y,u,h⟩)
 ·exact .inl (by rw[h];rfl)
 exact .inr (.inl ⟨cs,g,rfl,rfl,c,ty,m,j,y,u,h⟩)
variable {l:List (Nat×List HC)}
theorem aY.zJ(hC:aL A.C)(s:AS)(F d j m:Nat){g:Nat}(hd:d<100000)(vR:F≠d)(hF:s.h F=.fam l [])(hm:l[m]?=some (g,cs))(hj:s.t j=.p (.im (.pointer (some ⟨g,0,none⟩)))):
  aY A s ⟨ax (dH d s).t j (.bx d 0),ax (ax (dH d s).h F (.fam l [(m,some d)])) d (.aA cs)⟩:=by
 intro S rho a w sim;have gQ:=sim.free d (.aA cs);have Nf:ax (dH d s).h d (.aA cs) F=.fam l []:=by
  rw[au _ _ vR];show ax (fun k=>qX d (s.h k)) d AB.none F=_;rw[au _ _ vR,hF];rfl
 have RG:ax (dH d s).h d (.aA cs) d=.aA cs:=ak _ _ _;have hh:=gQ.hp F vR;have hh:cd S w A.C.P (fun k=>k≠d) rho (ax (dH d s).h d (.aA cs)) F (ax (dH d s).h d (.aA cs) F):=hh;rw[Nf]at hh;obtain⟨hb,hR⟩:=hh;have pH:∀m,qA [] m:=fun m p hp=>by cases hp
 obtain⟨ty,c,hB⟩:=hR.mem m g cs hm (pH m);have lF:(ax (dH d s).h d (.aA cs) F).live:=by rw[Nf];trivial
 have zK:ax (ax (dH d s).h F (.fam l [(m,some d)])) d (.aA cs) F=.fam l [(m,some d)]:=by rw[au _ _ vR,ak]
 have um:ax (ax (dH d s).h F (.fam l [(m,some d)])) d (.aA cs) d=.aA cs:=ak _ _ _;have EI:∀i,i≠F->i≠d->ax (ax (dH d s).h F (.fam l [(m,some d)])) d (.aA cs) i=ax (dH d s).h d (.aA cs) i:=fun i e1 e2=>by rw[au _ _ e2,au _ _ e1,au _ _ e2]
 have P9:∀m' g' dB k,l[m']?=some (g',dB)->mE w dB g' k->hasB w (ax (dH d s).h d (.aA cs) F) (rho F) k:=fun m' g' dB k h1 h2=>by rw[Nf];exact fN.2 (.inr ⟨m',g',dB,h1,pH m',h2⟩)
 have EJ:∀k,hasB w (.fam l [(m,some d)]) (rho F) k->∃m' g' dB,m'≠m/\l[m']?=some (g',dB)/\mE w dB g' k:=fun k hk=>by
  rcases fN.1 hk with h | ⟨m',g',dB,h1,h2,h3⟩
  ·rw[hb]at h;cases h
  exact⟨m',g',dB,fun e=>h2 (m,some d) dJ e.symm,h1,h3⟩
 have rd:∀i,i≠d->ax rho d (.pointer (some ⟨g,0,none⟩)) i=rho i:=fun i hi=>au _ _ hi;have aJ:=gQ.od hC (L':=bk) (rho':=ax rho d (.pointer (some ⟨g,0,none⟩))) (h':=ax (ax (dH d s).h F (.fam l [(m,some d)])) d (.aA cs)) (w':=w) (fun i=>i=F\/i=d) (Fr.refl _ w)
  (fun i hi=>by
   by_cases e2:i=d
   ·subst e2;exact⟨by show (ax (dH i s).h i (AB.aA cs) i).there;rw[RG];trivial,fun h=>(h rfl).elim⟩
   by_cases e1:i=F
   ·subst e1;exact⟨by show (ax (dH d s).h d (AB.aA cs) i).there;rw[Nf];trivial,fun h=>⟨trivial,rd i e2⟩⟩
   rw[EI i e1 e2]at hi;exact⟨hi,fun h=>⟨trivial,rd i e2⟩⟩)
  (fun i e hi=>by
   by_cases e2:i=d
   ·subst e2;rw[um]at hi;cases hi
   by_cases e1:i=F
   ·subst e1;rw[zK]at hi;cases hi
   rw[EI i e1 e2]at hi;exact hi)
  (fun i hi=>⟨EI i (fun e=>hi (.inl e)) fun e=>hi (.inr e),fun _ e=>hi (.inr e),rd i fun e=>hi (.inr e)⟩)
  (fun i hi=>rd i (by omega))
  (fun T i hi _=>by
   rcases hi with rfl | rfl
   ·rw[zK];refine⟨by rw[rd i vR];exact hb,fun m' g' dB h1 h2=>hR.mem m' g' dB h1 (pH m'),fun m1 m2 g1 g2 Ky kJ k a1 a2 _ _=>hR.dis m1 m2 g1 g2 Ky kJ k a1 a2 (pH m1) (pH m2),fun m' n g' dB h1 h2 _=>?_⟩;rcases fL.1 h1 with h1 | h1
    ·injection h1 with e1 e2;injection e2 with e2;subst e1;subst e2;rw[hm]at h2;injection h2 with h2;injection h2 with h2 nG;subst h2;exact⟨trivial,ak _ _ _⟩
    cases h1
   rw[um];exact⟨g,ty,c,ak _ _ _,hB⟩)
  (fun i k hi _ _ hk=>by
   rcases hi with rfl | rfl
   ·rw[zK,rd i vR]at hk;obtain⟨m',g',dB,_,h1,h2⟩:=EJ k hk;have iR:=P9 m' g' dB k h1 h2;exact⟨(gQ.lv i k vR lF iR).1,.inr ⟨i,.inl rfl,vR,lF,iR⟩⟩
   rw[um,ak]at hk;have iR:=P9 m g cs k hm (mj.1 hk);exact⟨(gQ.lv F k vR lF iR).1,.inr ⟨F,.inl rfl,vR,lF,iR⟩⟩)
  (fun i i' k hi mI _ _ _ _ hk mF=>by
   have no:hasB w (.fam l [(m,some d)]) (rho F) k->hasB w (.aA cs) (.pointer (some ⟨g,0,none⟩)) k->False:=fun h1 h2=>by
    obtain⟨m',g',dB,bO,h3,h4⟩:=EJ k h1;exact bO (hR.dis m' m g' g dB cs k h3 hm (pH _) (pH _) h4 (mj.1 h2))
   rcases hi with rfl | rfl<;>rcases mI with rfl | rfl
   ·rfl
   ·rw[zK,rd _ vR]at hk;rw[um,ak]at mF;exact (no hk mF).elim
   ·rw[um,ak]at hk;rw[zK,rd _ vR]at mF;exact (no mF hk).elim
   rfl)
 refine⟨S,_,{ aJ with tm:=fun i _=>?_ }⟩;show aE _ _ _ _ _ _ (ax (dH d s).t j (.bx d 0) i) _;by_cases e:i=j
 ·subst e;rw[ak];have hx:=sim.tm i trivial;rw[hj]at hx;rw[hx.bc];exact .bx d 0 _ fun _=>⟨trivial,g,ak _ _ _,rfl⟩
 rw[au _ _ e];exact aJ.tm i trivial
theorem aY.sr(hC:aL A.C)(s:AS)(F d m:Nat){g:Nat}{dB:List HC}(hF:s.h F=.fam l [(m,some d)])(hd:s.h d=.aA dB)(hm:l[m]?=some (g,cs)):
  aY A s ⟨s.t,ax (ax s.h d .none) F (.fam (l.set m (g,dB)) [])⟩:=by
 intro S rho a w sim;have vR:F≠d:=fun e=>by rw[e,hd]at hF;cases hF
 have lF:(s.h F).live:=by rw[hF];trivial
 have ld:(s.h d).live:=by rw[hd];trivial
 have hh:=sim.hp F trivial;rw[hF]at hh;obtain⟨hb,hR⟩:=hh;have L3:=sim.hp d trivial;rw[hd]at L3;obtain⟨g',ty,c,k1,hB⟩:=L3;have k2:=(hR.out m d g cs dJ hm (by rw[hd];trivial)).2;rw[k2]at k1;injection k1 with k1;injection k1 with k1;injection k1 with k1;subst k1;have pH:∀m,qA [] m:=fun m p hp=>by cases hp
 have GC:∀m',m'≠m->qA [(m,some d)] m':=fun m' h p hp=>by
  rcases fL.1 hp with e | e
  ·subst e;exact fun e=>h e.symm
  cases e
 have zK:ax (ax s.h d .none) F (.fam (l.set m (g,dB)) []) F=.fam (l.set m (g,dB)) []:=ak _ _ _;have um:ax (ax s.h d .none) F (.fam (l.set m (g,dB)) []) d=.none:=by rw[au _ _ vR.symm,ak]
 have EI:∀i,i≠F->i≠d->ax (ax s.h d .none) F (.fam (l.set m (g,dB)) []) i=s.h i:=fun i e1 e2=>by rw[au _ _ e1,au _ _ e2]
 have zL:∀k,mE w dB g k->hasB w (s.h d) (rho d) k:=fun k h=>by rw[hd,k2];exact mj.2 h
 have Cv:∀m' g' kJ k,m'≠m->l[m']?=some (g',kJ)->mE w kJ g' k->hasB w (s.h F) (rho F) k:=fun m' g' kJ k h h1 h2=>by rw[hF];exact fN.2 (.inr ⟨m',g',kJ,h1,GC m' h,h2⟩)
 have apart:∀m' g' kJ k,m'≠m->l[m']?=some (g',kJ)->mE w kJ g' k->mE w dB g k->False:=fun m' g' kJ k h h1 h2 h3=>vR (sim.dj F d k trivial trivial lF ld (Cv m' g' kJ k h h1 h2) (zL k h3));have aJ:=sim.od hC (L':=bk) (rho':=rho) (h':=ax (ax s.h d .none) F (.fam (l.set m (g,dB)) [])) (w':=w) (fun i=>i=F\/i=d) (Fr.refl _ w)
  (fun i hi=>by
   by_cases e1:i=F
   ·subst e1;exact⟨by rw[hF];trivial,fun h=>⟨trivial,rfl⟩⟩
   by_cases e2:i=d
   ·subst e2;rw[um]at hi;exact hi.elim
   rw[EI i e1 e2]at hi;exact⟨hi,fun h=>⟨trivial,rfl⟩⟩)
  (fun i e hi=>by
   by_cases e1:i=F
   ·subst e1;rw[zK]at hi;cases hi
   by_cases e2:i=d
   ·subst e2;rw[um]at hi;cases hi
   rw[EI i e1 e2]at hi;exact hi)
  (fun i hi=>⟨EI i (fun e=>hi (.inl e)) fun e=>hi (.inr e),fun _=>trivial,rfl⟩)
  (fun i hi=>rfl)
  (fun T i hi _=>by
   rcases hi with rfl | rfl
   ·rw[zK];refine⟨hb,fun m' g' kJ h1 _=>?_,fun m1 m2 g1 g2 Ky kJ k a1 a2 _ _ b1 b2=>?_,fun m' n g' kJ h1=>by cases h1⟩
    ·rcases ey h1 with⟨rfl,e,_⟩ | ⟨bO,h1⟩
     ·injection e with e1 e2;subst e1;subst e2;exact⟨ty,c,hB⟩
     exact hR.mem m' g' kJ h1 (GC m' bO)
    rcases ey a1 with⟨e1,e,_⟩ | ⟨M4,z1⟩<;>rcases ey a2 with⟨e2,f,_⟩ | ⟨xi,z2⟩
    ·rw[e1,e2]
    ·injection e with e3 e4;subst e3;subst e4;exact (apart _ _ _ k xi z2 b2 b1).elim
    ·injection f with e3 e4;subst e3;subst e4;exact (apart _ _ _ k M4 z1 b1 b2).elim
    exact hR.dis m1 m2 g1 g2 Ky kJ k z1 z2 (GC _ M4) (GC _ xi) b1 b2
   rw[um];trivial)
  (fun i k hi _ li hk=>by
   rcases hi with rfl | rfl
   ·rw[zK]at hk;rcases fN.1 hk with h | ⟨m',g',kJ,h1,_,h3⟩
    ·rw[hb]at h;cases h
    rcases ey h1 with⟨rfl,e,_⟩ | ⟨bO,h1⟩
    ·injection e with e1 e2;subst e1;subst e2;exact⟨(sim.lv d k trivial ld (zL k h3)).1,.inr ⟨d,.inr rfl,trivial,ld,zL k h3⟩⟩
    have iR:=Cv m' g' kJ k bO h1 h3;exact⟨(sim.lv _ k trivial lF iR).1,.inr ⟨_,.inl rfl,trivial,lF,iR⟩⟩
   rw[um]at li;exact li.elim)
  (fun i i' k hi mI _ _ li fE hk mF=>by
   have e1:i=F:=hi.resolve_right fun e=>by subst e;rw[um]at li;exact li
   have e2:i'=F:=mI.resolve_right fun e=>by subst e;rw[um]at fE;exact fE
   rw[e1,e2])
 exact⟨S,_,aJ⟩
theorem Seen.Jm(hC:aL A.C)(s:AS)(F d R i j:Nat){e:TypeId}{es:List (List HX)}{r:List HX}{G:AS->Prop}(hF:s.h F=.fam l [])(hd:s.h d=.aA cs)(hR:s.h R=.ai e es)(hi:es[i]?=some r)(hj:r[j]?=some (.av (.bx d 0)))
  (h:∀g,G ⟨s.t,ax (ax (ax s.h d .none) F (.fam (l++[(g,cs)]) [])) R (.ai e (es.set i (r.set j (.av (.p (.im (.pointer (some ⟨g,0,none⟩))))))))⟩):Seen A s G:=by
 intro S rho a w sim;have vR:F≠d:=fun e=>by rw[e,hd]at hF;cases hF
 have P_:R≠d:=fun e=>by rw[e,hd]at hR;cases hR
 have Qa:R≠F:=fun e=>by rw[e,hF]at hR;cases hR
 have lF:(s.h F).live:=by rw[hF];trivial
 have ld:(s.h d).live:=by rw[hd];trivial
 have lR:(s.h R).live:=by rw[hR];trivial
 have hh:=sim.hp F trivial;rw[hF]at hh;obtain⟨hb,hM⟩:=hh;have L3:=sim.hp d trivial;rw[hd]at L3;obtain⟨g,ty,c,k1,hB⟩:=L3;have Qb:=sim.hp R trivial;rw[hR]at Qb;obtain⟨ai,L4⟩:=Qb;have pH:∀m,qA [] m:=fun m p hp=>by cases hp
 obtain⟨bW,EK⟩:∃bW,bW=es.set i (r.set j (.av (.p (.im (.pointer (some ⟨g,0,none⟩)))))):=⟨_,rfl⟩;obtain⟨h',wK⟩:∃h':Nat->AB,h'=ax (ax (ax s.h d .none) F (.fam (l++[(g,cs)]) [])) R (.ai e bW):=⟨_,rfl⟩;have L5:h' R=.ai e bW:=by rw[wK,ak]
 have zK:h' F=.fam (l++[(g,cs)]) []:=by rw[wK,au _ _ Qa.symm,ak]
 have um:h' d=.none:=by rw[wK,au _ _ P_.symm,au _ _ vR.symm,ak]
 have EI:∀k,k≠F->k≠d->k≠R->h' k=s.h k:=fun k e1 e2 e3=>by rw[wK,au _ _ e3,au _ _ e1,au _ _ e2]
 have zL:∀k,mE w cs g k->hasB w (s.h d) (rho d) k:=fun k h=>by rw[hd,k1];exact mj.2 h
 have Cv:∀m' g' kJ k,l[m']?=some (g',kJ)->mE w kJ g' k->hasB w (s.h F) (rho F) k:=fun m' g' kJ k h1 h2=>by rw[hF];exact fN.2 (.inr ⟨m',g',kJ,h1,pH m',h2⟩)
 have new:∀m' g' kJ,(l++[(g,cs)])[m']?=some (g',kJ)->(m' < l.length/\l[m']?=some (g',kJ))\/(m'=l.length/\g'=g/\kJ=cs):=fun m' g' kJ hm=>by
  by_cases dv:m' < l.length
  ·rw[bQ dv]at hm;exact .inl ⟨dv,hm⟩
  rw[bY (by omega)]at hm;have:m' - l.length=0:=by
   have:=ah hm;simp at this;omega
  rw[this]at hm;simp at hm;exact .inr ⟨by omega,hm.1.symm,hm.2.symm⟩
 have EJ:∀k,hasB w (.fam (l++[(g,cs)]) []) (rho F) k->hasB w (s.h F) (rho F) k\/hasB w (s.h d) (rho d) k:=fun k hk=>by
  rcases fN.1 hk with h | ⟨m',g',kJ,h1,_,h3⟩
  ·rw[hb]at h;cases h
  rcases new m' g' kJ h1 with⟨_,h1⟩ | ⟨_,rfl,rfl⟩
  ·exact .inl (Cv m' g' kJ k h1 h3)
  exact .inr (zL k h3)
 have cc:∀g0 a b u,bI w bW g0 a b u->bI w es g0 a b u:=fun g0 a b u ⟨r1,e1,IV,c1,N9,m1,q1,q2,q3,q4⟩=>by
  rw[EK]at q1;rcases ey q1 with⟨rfl,rfl,_⟩ | ⟨_,q1⟩
  ·rw[aF]at q4;rcases ey q2 with⟨_,e2,_⟩ | ⟨_,q2⟩
   ·cases e2
   exact⟨r,e1,IV,c1,N9,m1,hi,q2,q3,q4⟩
  exact⟨r1,e1,IV,c1,N9,m1,q1,q2,q3,q4⟩
 have L6:∀k,hasB w (.ai e bW) (rho R) k->hasB w (s.h R) (rho R) k:=fun k hk=>by
  rw[hR];rcases bN.1 hk with h | ⟨g0,a,b,u,h1,h2,h3⟩
  ·exact .inl h
  exact bN.2 (.inr ⟨g0,a,b,u,h1,cc _ _ _ _ h2,h3⟩)
 have aJ:=sim.od hC (L':=bk) (rho':=rho) (h':=h') (w':=w) (fun k=>k=F\/k=d\/k=R) (Fr.refl _ w)
  (fun k hk=>by
   by_cases e1:k=F
   ·subst e1;exact⟨by rw[hF];trivial,fun h=>⟨trivial,rfl⟩⟩
   by_cases e2:k=d
   ·subst e2;rw[um]at hk;exact hk.elim
   by_cases e3:k=R
   ·subst e3;exact⟨by rw[hR];trivial,fun h=>⟨trivial,rfl⟩⟩
   rw[EI k e1 e2 e3]at hk;exact⟨hk,fun h=>⟨trivial,rfl⟩⟩)
  (fun k e' hk=>by
   by_cases e1:k=F
   ·subst e1;rw[zK]at hk;cases hk
   by_cases e2:k=d
   ·subst e2;rw[um]at hk;cases hk
   by_cases e3:k=R
   ·subst e3;rw[L5]at hk;rw[hR];exact hk
   rw[EI k e1 e2 e3]at hk;exact hk)
  (fun k hk=>⟨EI k (fun e=>hk (.inl e)) (fun e=>hk (.inr (.inl e))) fun e=>hk (.inr (.inr e)),fun _=>trivial,rfl⟩)
  (fun k hk=>rfl)
  (fun T k hk _=>by
   rcases hk with rfl | rfl | rfl
   ·rw[zK];refine⟨hb,fun m' g' kJ h1 _=>?_,fun m1 m2 g1 g2 Ky kJ k a1 a2 _ _ b1 b2=>?_,fun m' n g' kJ h1=>by cases h1⟩
    ·rcases new m' g' kJ h1 with⟨_,h1⟩ | ⟨_,rfl,rfl⟩
     ·exact hM.mem m' g' kJ h1 (pH m')
     exact⟨ty,c,hB⟩
    rcases new m1 g1 Ky a1 with⟨_,z1⟩ | ⟨e1,f1,RH⟩<;>rcases new m2 g2 kJ a2 with⟨_,z2⟩ | ⟨e2,f2,RI⟩
    ·exact hM.dis m1 m2 g1 g2 Ky kJ k z1 z2 (pH _) (pH _) b1 b2
    ·subst f2;subst RI;exact (vR (sim.dj _ d k trivial trivial lF ld (Cv _ _ _ k z1 b1) (zL k b2))).elim
    ·subst f1;subst RH;exact (vR (sim.dj _ d k trivial trivial lF ld (Cv _ _ _ k z2 b2) (zL k b1))).elim
    rw[e1,e2]
   ·rw[um];trivial
   rw[L5];refine⟨?_,fun g0 a b u k hg hc hk=>L4.top g0 a b u k hg (cc _ _ _ _ hc) hk,fun g0 a b a' b' u u' k hg hc Fx=>L4.dis g0 a b a' b' u u' k hg (cc _ _ _ _ hc) (cc _ _ _ _ Fx)⟩;obtain⟨i0,xs,q1,q2,q3,q4,q5,q6⟩:=ai;refine⟨i0,xs,q1,q2,by rw[EK,aF];exact q3,fun r1 FA=>?_,q5,fun a r1 b x ha dM=>?_⟩
   ·rw[EK]at FA;rcases cw FA with h | h
    ·exact q4 r1 h
    rw[h,aF];exact q4 r (aj hi)
   have keep:∀x u,iY S w A.C.P bk rho s.h x u->iY S w A.C.P bk rho h' x u:=fun x u hx=>by
    cases x with
    | av x=>exact aE.bA T hx
    | row e' kS=>exact hx
   rw[EK]at ha;rcases ey ha with⟨rfl,rfl,_⟩ | ⟨_,ha⟩
   ·rcases ey dM with⟨rfl,rfl,_⟩ | ⟨_,dM⟩
    ·obtain⟨u,hu,jb⟩:=q6 _ _ _ _ hi hj;refine⟨u,hu,?_⟩;have jb:aE S w A.C.P bk rho s.h (.bx d 0) u:=jb;obtain⟨_,g2,g3,g4⟩:=jb.dt (by rw[hd];trivial);rw[k1]at g3;injection g3 with g3;injection g3 with g3;injection g3 with g3;subst g3;rw[g4];exact .p _ _ (.im _)
    obtain⟨u,hu,jb⟩:=q6 _ _ _ _ hi dM;exact⟨u,hu,keep _ _ jb⟩
   obtain⟨u,hu,jb⟩:=q6 _ _ _ _ ha dM;exact⟨u,hu,keep _ _ jb⟩)
  (fun k b hk _ li dM=>by
   rcases hk with rfl | rfl | rfl
   ·rw[zK]at dM;rcases EJ b dM with h | h
    ·exact⟨(sim.lv _ b trivial lF h).1,.inr ⟨_,.inl rfl,trivial,lF,h⟩⟩
    exact⟨(sim.lv _ b trivial ld h).1,.inr ⟨_,.inr (.inl rfl),trivial,ld,h⟩⟩
   ·rw[um]at li;exact li.elim
   rw[L5]at dM;have h:=L6 b dM;exact⟨(sim.lv _ b trivial lR h).1,.inr ⟨_,.inr (.inr rfl),trivial,lR,h⟩⟩)
  (fun k k' b hk mF _ _ li fE dM GD=>by
   have no:hasB w (.fam (l++[(g,cs)]) []) (rho F) b->hasB w (.ai e bW) (rho R) b->False:=fun h1 h2=>by
    have h2:=L6 b h2;rcases EJ b h1 with h | h
    ·exact Qa (sim.dj _ _ b trivial trivial lR lF h2 h)
    exact P_ (sim.dj _ _ b trivial trivial lR ld h2 h)
   rcases hk with rfl | rfl | rfl
   ·rcases mF with rfl | rfl | rfl
    ·rfl
    ·rw[um]at fE;exact fE.elim
    rw[zK]at dM;rw[L5]at GD;exact (no dM GD).elim
   ·rw[um]at li;exact li.elim
   rcases mF with rfl | rfl | rfl
   ·rw[L5]at dM;rw[zK]at GD;exact (no GD dM).elim
   ·rw[um]at fE;exact fE.elim
   rfl)
 have hG:=h g;rw[<-EK,<-wK]at hG;exact⟨S,rho,_,aJ,hG⟩
theorem aY.Jn(hC:aL A.C)(s:AS)(id j m:Nat){mk:MK}{es:List (Value×PV)}(bW:List (Value×Value))(cs:List AV)(hid:id≠m)(hb:s.h id=.box cs)(hn:cs[j]?=some (.ow m))(hm:s.h m=.map mk es)(he:es=bW.map Bz):
  aY A s ⟨s.t,ax (ax s.h m .none) id (.box (cs.set j (.p (.mp mk bW))))⟩:=by
 subst he;intro S rho a w sim;have gQ:=sim.BE hC m trivial hm;have e0:ax s.h m .none id=.box cs:=by rw[au _ _ hid];exact hb
 have aN:(ax s.h m AB.none id).live:=by rw[e0];trivial
 have hh:=sim.hp m trivial;rw[hm]at hh;obtain⟨g,ms,clock,h1,h2,h3,h4,h5⟩:=ph hh;have aA:=sim.hp id trivial;rw[hb]at aA;obtain⟨gb,ty,c,b1,b2,b3,b4⟩:=aA;have U_:=gQ.hp id trivial;have U_:cd _ w A.C.P bk rho (ax s.h m .none) id (ax s.h m .none id):=U_;rw[e0]at U_;obtain⟨RJ,KX,c',d1,d2,d3,d4⟩:=U_;refine⟨_,rho,gQ.write hC id trivial aN (.box (cs.set j (.p (.mp mk bW)))) (fun _ h=>by cases h) w rfl rfl rfl rfl (fun _ _=>rfl) fun T=>?_⟩;refine⟨RJ,KX,c',d1,d2,by rw[aF];exact d3,fun k x u hx hu=>?_⟩;rcases ey hx with⟨rfl,rfl,_⟩ | ⟨hk,hx⟩
 ·have hc:c'=c:=by
   rw[b1]at d1;injection d1 with d1;injection d1 with d1;injection d1 with d1;subst d1;rw[b2]at d2;injection d2 with d2;injection d2 with d2;exact d2.symm
  subst hc;obtain⟨o1,l1⟩:=b4 k _ u hn hu;have hv:=(l1.bu (by rw[hm];trivial)).2;refine⟨o1,?_⟩;rw[hv,h1];refine .p _ _ (.mp mk bW g ms clock (.inr rfl) h2 ⟨by rw[h3,Al],fun i p mm hp BR=>?_,h5⟩);obtain⟨e1,e2,e3⟩:=h4 i (Bz p) mm (by rw[ao,hp];rfl) BR;exact⟨e1,e2,e3.bc⟩
 exact⟨(d4 k x u hx hu).1,(d4 k x u hx hu).2.bA T⟩
theorem aY.L7{A:jR}(hC:aL A.C)(s:AS)(id n:Nat){e e':TypeId}{ti:TI}(hb:s.h id=.ai e (List.replicate n [.av .nl]))(hT:A.C.T e'=some ti)(hpos:0<ti.size):aY A s ⟨s.t,ax s.h id (.ai e (List.replicate n [.row e' []]))⟩:=by
 have key:∀k,k<=n->aY A s ⟨s.t,ax s.h id (.ai e (List.replicate k [.row e' []]++List.replicate (n-k) [.av .nl]))⟩:=fun k=>by
  induction k with
  | zero=>
   intro _;have:ax s.h id (.ai e (List.replicate 0 [.row e' []]++List.replicate (n-0) [.av .nl]))=s.h:=eX _ _ _ (by rw[hb];simp);rw[this];exact aY.refl _ _
  | succ k ih=>
   intro hk;refine (ih (by omega)).trans ?_;have h1:(List.replicate k [HX.row e' []]++List.replicate (n-k) [HX.av .nl])[k]?=some [HX.av .nl]:=by
    rw[bY (by simp),uX,fH,ik,ae (by omega)]
   have:=aY.OT hC (A:=A) ⟨s.t,ax s.h id (.ai e (List.replicate k [.row e' []]++List.replicate (n-k) [.av .nl]))⟩ id k 0 (e':=e') (ak _ _ _) h1 rfl hT hpos;have e2:(List.replicate k [HX.row e' []]++List.replicate (n-k) [HX.av .nl]).set k [HX.row e' []]=List.replicate (k+1) [HX.row e' []]++List.replicate (n-(k+1)) [HX.av .nl]:=by
    rw[il _ _ (by simp)];simp only[uX,fH];rw[show n-k=(n-(k+1))+1 by omega,kl,km,List.replicate_succ' (n:=k),gX];rfl
   have e3:∀(f:Nat->AB) (x y:AB),ax (ax f id x) id y=ax f id y:=fun f x y=>by
    funext i;by_cases e:i=id
    ·subst e;rw[ak,ak]
    rw[au _ _ e,au _ _ e,au _ _ e]
   simp only[km,e2,e3]at this;exact this
 have:=key n (aC _);simp only[fH,List.replicate_zero,ca]at this;exact this
theorem aY.Cw(hC:aL A.C)(s:AS)(k id hi:Nat){c0:Array Value}{ty:TypeId}{e:TypeId}{es:List (List PV)}(hid:id<100000)(hk:s.h k=.cell c0 ty (.vw id 0 hi))(hr:s.h id=.row e es):
  aY A s ⟨(dH id s).t,ax (ax (dH id s).h id (.row e (es.take hi))) k (.cell c0 ty (.ow id))⟩:=by
 intro S rho a w sim;have aN:(s.h id).live:=by rw[hr];trivial
 have hh:=sim.hp id trivial;rw[hr]at hh;have hh:an A.C.P w (ay S w) e es (rho id):=hh;have L8:k≠id:=fun e=>by rw[e,hr]at hk;cases hk
 have Dz:=sim.hp k trivial;rw[hk]at Dz;obtain⟨g0,OV,v,w1,w2,w3,w4,ht⟩:=Dz;have RL:∃n c ad,rho id=.slice ad n c/\hi<=n/\v=.slice ad hi c:=by
  cases ht with
  | vw _ _ _ _ q=>
   obtain⟨_,n,c,ad,ti,q1,_,_,q3,q4,q5⟩:=q e (by rw[hr];rfl);refine⟨n,c,ad,q1,q3,?_⟩;rw[q5];cases ad with
   | none=>simp
   | some x=>simp[Addr.add]
 obtain⟨n,c,ad,q1,q3,q5⟩:=RL;have hblk:∀g,bH v=some g->bH (rho id)=some g:=fun g hg=>by
  rw[q5]at hg;rw[q1];cases ad<;>exact hg
 have ho:∀k,k≠id->ax (dH id s).h id (.row e (es.take hi)) k=qX id (s.h k):=fun k hk=>by rw[au _ _ hk];show ax (fun k=>qX id (s.h k)) id AB.none k=_;rw[au _ _ hk]
 have gQ:=sim.free id (.row e (es.take hi));have aJ:=gQ.new hC id (.row e (es.take hi)) hid (fun h=>h rfl) (ak _ _ _) w rfl rfl rfl (aC _) (fun k=>bH (rho id)=some k) (fun _ _ _=>rfl) (fun k hk=>by
  obtain⟨l1,l2,l3⟩:=sim.mO id k trivial aN hk;refine⟨l2,fun i mI li hb=>?_,l3⟩;have li:(ax (dH id s).h id (.row e (es.take hi)) i).live:=li;have hb:hasB w (ax (dH id s).h id (.row e (es.take hi)) i) (rho i) k:=hb;rw[ho i mI,oq]at li;rw[ho i mI,qY]at hb;exact mI (sim.dj i id k trivial trivial li aN hb (C_ hk))) v (fun g hg=>⟨(sim.mO id g trivial aN (hblk g hg)).1,.inr (hblk g hg)⟩) fun T=>by
   show an _ _ _ _ _ (ax rho id _ id);rw[ak];exact an.front hh q1 q3 q5
 have cF:aU A bk bk S (ax rho id v) ⟨(dH id s).t,ax (dH id s).h id (.row e (es.take hi))⟩ a w:=aJ.jF (fun _ _=>trivial) (fun k=>⟨fun _=>by by_cases e:k=id;exact .inr e;exact .inl e,fun _=>trivial⟩);have N6:(ax (dH id s).h id (.row e (es.take hi)) k).live:=by rw[ho k L8,hk];trivial
 exact⟨S,_,cF.write hC k trivial N6 (.cell c0 ty (.ow id)) (fun _ h=>by cases h) w rfl rfl rfl rfl (fun _ _=>rfl) fun T=>
  ⟨g0,OV,v,by rw[au _ _ L8];exact w1,w2,w3,w4,.ow id _ fun _=>⟨trivial,(ak _ _ _).symm⟩⟩⟩
end Go.AM
namespace Go.AM
open Go.RowKit
theorem iL{C:Ctx}{o:Oper}{rho:Operand->AV}{h:Nat->AB}{K K':KK}(hk:∀v e n,K v e n->K' v e n)(hq:aZ C o rho h K):aZ C o rho h K':=by
 obtain⟨v,e,n,h1,h2⟩:=l6 (fun _=>.inr rfl) hq;exact h2 _ (hk _ _ _ h1)
variable {K':AS->Prop} {s:AS}
theorem zM{C:Ctx}{o:Oper}{K:AS->Prop}(hk:∀s,K s->K' s)(hq:rY C o K s):rY C o K' s:=by
 unfold rY at hq ⊢;split at hq
 ·exact iL (fun v e n h=>hk _ h) hq
 split at hq
 ·split at hq
  ·split at hq
   ·split at hq<;>exact hk _ hq
   ·split at hq<;>exact hk _ hq
   exact hk _ hq
  exact hk _ hq
 ·unfold AQ at hq ⊢;split at hq
  ·split at hq
   ·exact⟨fun h=>hk _ (hq.1 h),fun i p k' h1 h2=>hk _ (hq.2 i p k' h1 h2)⟩
   exact hq.elim
  exact hq.elim
 refine iL (fun v e n h=>?_) hq;cases n with
 | none=>exact hk _ h
 | some b=>exact h
theorem qp{C:Ctx}{f:FuncId}{cT:List AV}{d:Option Tmp}{K:AS->Prop}(hk:∀s,K s->K' s)(hq:pr C f cT d K s):pr C f cT d K' s:=by
 obtain⟨mp,args,bX,r,fin,h1,h2,h3⟩:=hq;exact⟨mp,args,bX,r,fin,h1,h2,hk _ h3⟩
theorem GF{C:Ctx}{o:Oper}{K:AS->Prop}(hk:∀s,K s->K' s)(hq:nS C o K s):nS C o K' s:=by
 unfold nS at hq ⊢;split at hq
 ·split at hq
  ·split at hq
   ·split at hq
    ·obtain⟨f,d,h1,h2⟩:=hq;exact⟨f,d,h1,qp hk h2⟩
    exact hq
   exact hq
  ·split at hq
   ·exact qp hk hq
   exact hq
  exact hq
 exact hq
theorem pI{C:Ctx}{o:Oper}{K:AS->Prop}(hk:∀s,K s->K' s)(hq:step C o K s):step C o K' s:=by
 unfold step at hq ⊢;split at hq
 ·exact⟨hk _ hq.1,hk _ hq.2⟩
 split at hq
 ·rename_i hn;exact GF hk hq
 exact zM hk hq
theorem kh{b:Bool}{p q p' q':Prop}(h1:p->p')(h2:q->q')(h:kF b p q):kF b p' q':=by
 cases b<;>simp only[kF]at h ⊢
 ·exact h2 h
 exact h1 h
theorem Cx{C:Ctx}{all:List Oper}{K:AS->Prop}(hk:∀s,K s->K' s):∀(l:List Oper) (s:AS),kO C all l K s->kO C all l K' s:=by
 intro l
 induction l with
 | nil=>intro s h;exact hk _ h
 | cons o l ih=>
  intro s h;unfold kO at h ⊢;split at h
  ·exact pI ih h
  split at h
  ·exact h.elim
  split at h
  ·exact h.elim
  split at h
  ·rename_i want _ _ _ _ _ _ _;refine kh (fun h=>?_) (fun h=>?_) h
   ·split at h
    ·exact pI ih h
    exact ih _ h
   split at h
   ·exact pI ih h
   exact ih _ h
  ·exact ih _ h
  exact h.elim
theorem nx{C:Ctx}{ap f:Bool}{X:List Nat}{o:Oper}{K:AS->Prop}(hk:∀s,K s->K' s)(hq:mT C ap X f o K s):mT C ap X f o K' s:=by
 unfold mT at hq ⊢;split at hq
 ·refine iL (fun v e n h=>?_) hq;split at h
  ·exact h
  split at h
  ·split at h
   ·exact hk _ h
   exact h
  split at h
  ·exact hk _ h
  exact h
 exact hq
theorem Cy{C:Ctx}{ap:Bool}{X:List Nat}{all:List Oper}{K:AS->Prop}(hk:∀s,K s->K' s):∀(l:List Oper) (fl:List Bool) (s:AS),kg C ap X all fl l K s->kg C ap X all fl l K' s:=by
 intro l
 induction l with
 | nil=>intro fl s h;cases fl<;>exact hk _ h
 | cons o l ih=>
  intro fl s h;cases fl with
  | nil=>exact h
  | cons f fl=>
  unfold kg at h ⊢;split at h
  ·exact nx (ih fl) h
  split at h
  ·exact h.elim
  split at h
  ·exact h.elim
  split at h
  ·refine kh (fun h=>?_) (fun h=>?_) h
   ·split at h
    ·exact nx (ih fl) h
    exact ih fl _ h
   split at h
   ·exact nx (ih fl) h
   exact ih fl _ h
  ·exact ih fl _ h
  exact h.elim
theorem pJ{f f':AS->Prop}{K K':Exit->AS->Prop}(hf:∀s,f s->f' s)(hk:∀e s,K e s->K' e s):∀e s,kG f K e s->kG f' K' e s:=by
 intro e s h;cases e<;>first | exact hf _ h | exact hk _ _ h
theorem ss{id:Nat}{K K':Exit->AS->Prop}(hk:∀e s,K e s->K' e s):∀e s,ui id K e s->ui id K' e s:=by
 intro e s h;cases e<;>first | exact hk _ _ h | exact kh (hk _ _) (hk _ _) h
variable {A:jR}
theorem lE:∀(c:Code) (K K':Exit->AS->Prop) (s:AS),(∀e s,K e s->K' e s)->ta A c K s->ta A c K' s:=by
 intro c
 induction c with
 | skip=>intro K K' s hk h;exact hk _ _ h
 | region id ops draw=>
  intro K K' s hk h;cases draw with
  | false=>exact Cx (hk _) _ _ h
  | true=>obtain⟨X,h⟩:=h;exact⟨X,Cy (fun _ h=>hk _ _ h) _ _ _ h⟩
 | seq a b C6 C7=>intro K K' s hk h;exact C6 _ _ _ (pJ (fun s h=>Seen.mono (fun s2 h2=>C7 _ _ _ hk h2) h) hk) h
 | cond c a b C6 C7=>
  intro K K' s hk h;simp only[ta]at h ⊢;split at h
  ·exact kh (C6 _ _ _ hk) (C7 _ _ _ hk) h
  exact h
 | block id c ih=>intro K K' s hk h;exact ih _ _ _ (ss hk) h
 | loop c ih=>
  intro K K' s hk h;obtain⟨α,I,m,h0,hr⟩:=h;exact⟨α,I,m,h0,fun x s hi=>ih _ _ _ (pJ (fun _ h=>h) hk) (hr x s hi)⟩
 | exit id=>intro K K' s hk h;exact hk _ _ h
 | ret=>intro K K' s hk h;exact hk _ _ h
 | rangeFunc=>intro K K' s _ h;exact h.elim
 | scope=>intro K K' s _ h;exact h.elim
 | label=>intro K K' s _ h;exact h.elim
 | goto=>intro K K' s _ h;exact h.elim
 | refuse=>intro K K' s _ h;exact h.elim
def su{α:Type}(R:α->Prop)(ts:α->List (Nat×AV))(hs:α->List (Nat×AB))(s:AS):Prop:=∃y,R y/\jH (ts y) s.t/\jH (hs y) s.h
variable {α:Type}
theorem su.go{R:α->Prop}{ts:α->List (Nat×AV)}{hs:α->List (Nat×AB)}{f:AS->Prop}(h2:∀y,R y->∀t h,f ⟨Tu (ts y) t,Tu (hs y) h⟩)(h:su R ts hs s):f s:=by
 obtain⟨y,h1,h3,h4⟩:=h;have:=h2 y h1 s.t s.h
 rwa [oA _ _ h3,oA _ _ h4]at this
theorem cut{c:Code}{f:AS->Prop}{K:Exit->AS->Prop}(R:α->Prop)(ts:α->List (Nat×AV))(hs:α->List (Nat×AB))
  (h2:∀y,R y->∀t h,f ⟨Tu (ts y) t,Tu (hs y) h⟩) (h1:ta A c (kG (su R ts hs) K) s):ta A c (kG f K) s:=
 lE c _ _ s (pJ (fun _ h=>h.go h2) fun _ _ h=>h) h1
theorem zN{R:α->Prop}{ts:α->List (Nat×AV)}{hs:α->List (Nat×AB)}{K:Exit->AS->Prop}(h2:∀y,R y->∀t h,K .normal ⟨Tu (ts y) t,Tu (hs y) h⟩):∀e s,kG (su R ts hs) K e s->K e s:=by
 intro e s h;cases e<;>first | exact h | exact su.go h2 h
theorem OW{c:Code}{id:Nat}{K:Exit->AS->Prop}(R:α->Prop)(ts:α->List (Nat×AV))(hs:α->List (Nat×AB))
  (h2:∀y,R y->∀t h,K .normal ⟨Tu (ts y) t,Tu (hs y) h⟩) (h1:ta A c (ui id (kG (su R ts hs) K)) s):ta A c (ui id K) s:=
 lE c _ _ s (ss (zN h2)) h1
end Go.AM
namespace Go.AM
open Go.RowKit
def Cz(d:Nat)(t:Nat->AV)(j:Nat):AV:=sc d (t j)
def xN(d:Nat)(h:Nat->AB):Nat->AB:=ax (fun k=>qX d (h k)) d .none
def Qc(i d:Nat)(t:Nat->AV)(j:Nat):AV:=rn i d (t j)
def Qd(i d:Nat)(h:Nat->AB)(j:Nat):AB:=match bB j d with
 | true=>D5 i d (h i)
 | false=>match bB j i with
  | true=>.none
  | false=>D5 i d (h j)
def Va(o:Oper):Bool:=match o.op with
 | .assign _=>false
 | _=>true
def vS:AB->Bool
 | .row _ _=>true
 | .ai _ _=>true
 | _=>false
abbrev TP:=(Nat->AV)->(Nat->AB)->Prop
def SG(G:TP)(K:AS->Prop):Prop:=∀t h,G t h->K ⟨t,h⟩
def OX(G:TP)(t:Nat->AV)(h:Nat->AB)(d:Nat):AV->Prop
 | .p x=>G (ax t d (.p x)) h
 | .nl=>G (ax t d .nl) h
 | .ow i=>G (ax t d (.ow i)) h
 | .rp i j k=>G (ax t d (.rp i j k)) h
 | .bx i j=>G (ax t d (.bx i j)) h
 | .vw i j k=>G (ax t d (.vw i j k)) h
 | .fn f c=>G (ax t d (.fn f c)) h
 | .tu x=>G (ax t d (.tu x)) h
 | .st x=>G (ax t d (.st x)) h
 | .ifp y x=>G (ax t d (.ifp y x)) h
 | .junk=>G (ax t d .junk) h
def xO(G:TP)(t:Nat->AV)(d:Option Tmp)(v:AV):List (Nat×AB)->(Nat->AB)->Prop
 | (i,b)::r,h=>xO G t d v r (ax h i b)
 | [],h=>match d with
  | some d=>OX G t h d v
  | none=>G t h
def EL(d:Nat):AV->AV
 | .ow i=>match bB i d with
  | true=>.ow d
  | false=>.ow i
 | .bx i j=>match bB i d with
  | true=>.bx d j
  | false=>.bx i j
 | v=>v
theorem vT(d:Nat)(v:AV):EL d v=v:=by
 unfold EL;split
 ·split
  ·rename_i h;rw[aG.1 h]
  rfl
 ·split
  ·rename_i h;rw[aG.1 h]
  rfl
 rfl
def Qe(G:TP)(d:Option Tmp)(t:Nat->AV)(h:Nat->AB):KK:=fun v e n=>match n with
 | none=>xO G t d v e h
 | some _=>False
def Ng(G:TP)(d:Option Tmp)(dd:Nat)(t:Nat->AV)(h:Nat->AB):KK:=fun v e n=>match n with
 | none=>match m_ dd e with
  | true=>xO G t d v e h
  | false=>False
 | some b=>xO G t d (EL dd v) e (ax h dd b)
def Qf(G:TP)(t:Nat->AV)(h:Nat->AB)(d:Nat):AV->Prop
 | .ow i=>match vS (h i) with
  | false=>G (ax t d (.ow i)) h
  | true=>match bB i d with
   | true=>G (ax t d (.ow i)) h
   | false=>G (ax (Qc i d t) d (.ow d)) (Qd i d h)
 | v=>OX G t h d v
def EM(G:TP)(d:Option Tmp)(t:Nat->AV)(h:Nat->AB):AV->Prop
 | .bx id 0=>match h id with
  | .iter mk es k _=>(k=0->xO G t d (.tu [.p (.im (.bool false))]) [] h)/\∀(i:Nat) (p:Value×Value) (k':Nat),es[i]?=some p->k' < k->xO G t d (.tu [.p (.im (.bool true)),.p (.im p.1),.p (.im p.2)]) [] (ax h id (.iter mk es k' (some p)))
  | _=>False
 | _=>False
def OY(mp:List (Nat×Nat))(t:Nat->AV)(j:Nat):AV:=(t j).ez (mR mp)
def OZ(mp:List (Nat×Nat))(h:Nat->AB)(k:Nat):AB:=(h k).ez (mR mp)
def zO(C:Ctx)(f:FuncId)(cT:List AV)(d:Option Tmp)(G:TP)(t:Nat->AV)(h:Nat->AB):Prop:=
 ∃(mp:List (Nat×Nat)) (args:List AV) (bX:List (Nat×AB)) (r:AV) (fin:List (Nat×AB)),cR C f args bX r fin/\(M9 mp bX fin=true/\cT.map (AV.ez (rV mp))=args/\Gg mp bX h mp)/\
  xO G (OY mp t) d (r.ez (jE mp)) [] (xq mp fin mp (OZ mp h))
def nW(C:Ctx)(o:Oper)(G:TP)(t:Nat->AV)(h:Nat->AB):Prop:=match o.op with
 | .call c=>match c.callee with
  | .invoke r name=>match ev t r with
   | .ifp ty (.ow id)=>match h id with
    | .cell _ _ x=>∃f d,u9 C.P ty name f d/\zO C f (D3 d id x::c.args.toList.map (ev t)) o.dst G t h
    | _=>False
   | _=>False
  | .value g=>match g with
   | .func f=>zO C f (c.args.toList.map (ev t)) o.dst G t h
   | _=>False
  | _=>False
 | _=>False
def EN(C:Ctx)(o:Oper)(G:TP)(t:Nat->AV)(h:Nat->AB):Prop:=match Gi C o t with
 | true=>xO G t o.dst (.p (.im (.bool true))) [] h/\xO G t o.dst (.p (.im (.bool false))) [] h
 | false=>match nq C o with
  | true=>nW C o G t h
  | false=>match ly o.op with
  | true=>match o.dst with
   | some d=>aZ C o (ev (Cz d t)) (xN d h) (Ng G (some d) d (Cz d t) (xN d h))
   | none=>aZ C o (ev (Cz 0 t)) (xN 0 h) (Ng G none 0 (Cz 0 t) (xN 0 h))
  | false=>match o.op,o.dst with
   | .assign x,some d=>Qf G t h d (ev t x)
   | .next x false,d=>EM G d t h (ev t x)
   | _,d=>aZ C o (ev t) h (Qe G d t h)
def vU(all:List Oper)(o:Oper)(G1 G0:TP)(t:Nat->AV)(h:Nat->AB):Prop:=match o.guard with
 | none=>G1 t h
 | some (g,want)=>match all[g]? with
  | none=>False
  | some og=>match og.dst with
   | none=>False
   | some tg=>match t tg with
    | .p (.im (.bool b))=>@Bool.rec (fun _=>Prop)
     (match want with
      | false=>G1 (ax t tg (fP false)) h
      | true=>G0 (ax t tg (fP false)) h)
     (match want with
      | true=>G1 (ax t tg (fP true)) h
      | false=>G0 (ax t tg (fP true)) h) b
    | .p (.im (.tuple _))=>G0 t h
    | _=>False
def CA(C:Ctx)(all:List Oper):List Oper->TP->TP
 | [],G,t,h=>G t h
 | o::r,G,t,h=>vU all o (EN C o (CA C all r G)) (fun t h=>xO (CA C all r G) t o.dst mK [] h) t h
section
variable {G:TP} {K:AS->Prop} {t:Nat->AV} {h:Nat->AB} {d:Tmp} {C:Ctx} {o:Oper}
theorem A3(H:SG G K){v:AV}(q:OX G t h d v):K ⟨ax t d v,h⟩:=by cases v<;>exact H _ _ q
variable {d:Option Tmp}
theorem dm(H:SG G K){v:AV}:∀(e:List (Nat×AB)) {h:Nat->AB},xO G t d v e h->K ⟨cU t d v,app h e⟩
 | (i,b)::r,h,q=>dm H r (h:=ax h i b) q
 | [],h,q=>by cases d with
  | none=>exact H _ _ q
  | some d=>exact A3 H q
theorem uo(d:Nat)(h:Nat->AB):xN d h d=.none:=by unfold xN;rw[ak]
theorem A4(H:SG G K){dd:Nat}{v:AV}{e:List (Nat×AB)}{n:Option AB}(h0:h dd=.none)(q:Ng G d dd t h v e n):K ⟨cU t d v,match n with
  | none=>ax (app h e) dd .none
  | some b=>app (ax h dd b) e⟩:=by
 unfold Ng at q;cases n with
 | none=>
  simp only at q ⊢;cases hn:m_ dd e with
  | false=>rw[hn]at q;exact q.elim
  | true=>
   rw[hn]at q;have:ax (app h e) dd .none=app h e:=eX _ _ _ ((iD (h:=h) hn).trans h0);rw[this];exact dm H e q
 | some b=>rw[vT]at q;exact dm H e q
theorem Uj(H:SG G K){f:FuncId}{cT:List AV}(q:zO C f cT d G t h):pr C f cT d K ⟨t,h⟩:=by
 obtain⟨mp,args,bX,r,fin,h1,h2,h3⟩:=q;exact⟨mp,args,bX,r,fin,h1,h2,dm H [] h3⟩
theorem Jo(H:SG G K)(q:nW C o G t h):nS C o K ⟨t,h⟩:=by
 unfold nW at q;unfold nS;split at q
 ·rename_i c ho;simp only[ho];split at q
  ·rename_i r name hc;simp only[hc];split at q
   ·rename_i ty id hr;simp only[hr];split at q
    ·rename_i c0 KX x hx;simp only[hx];obtain⟨f,d,h1,h2⟩:=q;exact⟨f,d,h1,Uj H h2⟩
    exact q.elim
   exact q.elim
  ·rename_i g hc;simp only[hc];split at q
   ·exact Uj H q
   exact q.elim
  exact q.elim
 exact q.elim
theorem uq(H:SG G K)(q:EN C o G t h):step C o K ⟨t,h⟩:=by
 unfold step;unfold EN at q;cases hn:Gi C o t with
 | true=>
  simp only[hn]at q ⊢;exact⟨dm H [] q.1,dm H [] q.2⟩
 | false=>
  simp only[hn]at q ⊢;cases Qg:nq C o with
  | true=>
   simp only[Qg]at q ⊢;exact Jo H q
  | false=>
  simp only[Qg]at q ⊢;unfold rY;cases hm:ly o.op with
  | true=>
   rw[hm]at q;simp only at q ⊢;cases hd:o.dst with
   | some d=>
    rw[hd]at q;exact iL (fun v e n hk=>by
     have:=A4 H (uo _ _) hk;cases n<;>exact this) q
   | none=>
    rw[hd]at q;exact iL (fun v e n hk=>by
     have:=A4 H (uo _ _) hk;cases n<;>exact this) q
  | false=>
   rw[hm]at q;simp only at q ⊢;split
   ·rename_i x d ho hd;rw[ho,hd]at q;simp only at q;unfold Qf at q;split
    ·rename_i i hi;rw[hi]at q;simp only at q;cases hb:h i<;>rw[hb]at q<;>simp only[vS]at q ⊢<;>first | exact H _ _ q | (cases BL:bB i d<;>rw[BL]at q<;>exact H _ _ q)
    rename_i tP;split at q
    ·rename_i i hi;exact absurd hi (tP i)
    exact A3 H q
   ·rename_i x ho;rw[ho]at q;have q:EM G o.dst t h (ev t x):=q;unfold AQ;unfold EM at q;split at q
    ·rename_i id hid;simp only[hid];split at q
     ·rename_i mk es k c hit;simp only[hit];exact⟨fun h0=>dm H [] (q.1 h0),fun i p k' h1 h2=>dm H [] (q.2 i p k' h1 h2)⟩
     exact q.elim
    exact q.elim
   rename_i O0 tP;have hk:aZ C o (ev t) h (Qe G o.dst t h):=by
    split at q
    ·rename_i x d ho hd;exact absurd hd (tP x d ho)
    ·rename_i x ho;exact absurd ho (O0 x)
    exact q
   exact iL (fun v e n hk=>by cases n<;>first | exact dm H e hk | exact hk.elim) hk
theorem xP{all:List Oper}(H:SG G K):∀(l:List Oper) {t:Nat->AV} {h:Nat->AB},CA C all l G t h->kO C all l K ⟨t,h⟩
 | [],t,h,q=>H _ _ q
 | o::r,t,h,q=>by
  have ih:SG (CA C all r G) (kO C all r K):=fun _ _ q=>xP H r q;unfold CA vU at q;unfold kO;split at q
  ·rename_i h1;(try simp only[h1]);exact uq ih q
  rename_i g want h1
  (try simp only[h1])
  split at q
  ·exact q.elim
  rename_i og h2
  (try simp only[h2])
  split at q
  ·exact q.elim
  rename_i tg h3
  (try simp only[h3])
  split at q
  ·rename_i b h4
   (try simp only[h4])
   cases b<;>cases want<;>first | exact uq ih q | exact dm ih [] q
  ·rename_i xs h4
   (try simp only[h4])
   exact dm ih [] q
  exact q.elim
end
def Nh(C:Ctx)(ap:Bool)(X:List Nat)(f:Bool)(o:Oper)(G:TP)(t:Nat->AV)(h:Nat->AB):KK:=fun v e n=>match nu o.op n o.dst with
 | false=>False
 | true=>match e with
  | []=>match o.dst with
   | some d=>xO G t (some d) (EL d v) [] (jA h d n)
   | none=>xO G t none v [] (jA h 0 n)
  | p::e=>match Nat.beq (cls C ap o.op) 3&&(fb h (p::e)&&(ap||gD h (p::e))&&FD X f h (p::e)) with
   | false=>False
   | true=>match n with
    | none=>xO G t o.dst v (p::e) h
    | some b=>match o.dst with
     | some d=>xO G t (some d) (EL d v) ((p::e)++[(d,b)]) h
     | none=>xO G t none v ((p::e)++[(0,b)]) h
def ur(C:Ctx)(ap:Bool)(X:List Nat)(all:List Oper):List Bool->List Oper->TP->TP
 | _,[],G,t,h=>G t h
 | [],_::_,_,_,_=>False
 | f::fl,o::r,G,t,h=>vU all o (fun t h=>match sd C ap X f o (ev t) with
   | true=>aZ C o (ev t) h (Nh C ap X f o (ur C ap X all fl r G) t h)
   | false=>False) (fun t h=>xO (ur C ap X all fl r G) t o.dst mK [] h) t h
def CB:List Oper->TP->TP
 | [],G,t,h=>G t h
 | o::r,G,t,h=>match ly o.op with
  | true=>match o.dst with
   | some d=>CB r G (Cz d t) (xN d h)
   | none=>CB r G (Cz 0 t) (xN 0 h)
  | false=>CB r G t h
def qq:List Oper->TP->TP
 | [],G,t,h=>G t h
 | o::r,G,t,h=>match Va o with
  | true=>qq r G t h
  | false=>match o.dst with
   | none=>False
   | some d=>match t d with
    | .ow i=>match vS (h i) with
     | false=>qq r G t h
     | true=>match bB i d with
      | true=>qq r G t h
      | false=>qq r G (Qc i d t) (Qd i d h)
    | _=>qq r G t h
theorem sx(d:Nat)(b:AB):∀(e:List (Nat×AB)) (h:Nat->AB),app h (e++[(d,b)])=ax (app h e) d b
 | [],h=>rfl
 | (i,x)::r,h=>sx d b r (ax h i x)
section
variable {C:Ctx} {all:List Oper} {G:TP} {K:AS->Prop} {o:Oper} {t:Nat->AV} {h:Nat->AB} {ap:Bool} {X:List Nat} {f:Bool}
theorem GG(H:SG G K){v:AV}{e:List (Nat×AB)}{n:Option AB}(q:Nh C ap X f o G t h v e n):match nu o.op n o.dst with
  | false=>False
  | true=>match Nat.beq (cls C ap o.op) 3 with
   | true=>match fb h e&&(ap||gD h e)&&FD X f h e with
    | true=>K ⟨cU t o.dst v,jA (app h e) (o.dst.getD 0) n⟩
    | false=>False
   | false=>match e with
    | []=>K ⟨cU t o.dst v,jA h (o.dst.getD 0) n⟩
    | _=>False:=by
 unfold Nh at q;cases hn:nu o.op n o.dst with
 | false=>rw[hn]at q;exact q.elim
 | true=>
  rw[hn]at q;simp only at q ⊢;cases e with
  | nil=>
   have:K ⟨cU t o.dst v,jA h (o.dst.getD 0) n⟩:=by
    cases hd:o.dst with
    | some d=>rw[hd]at q;simp only[vT]at q;exact dm H [] q
    | none=>rw[hd]at q;exact dm H [] q
   simp only[fb,gD,AT,ou,Bool.and_true];split<;>exact this
  | cons p e=>
   simp only at q;cases h1:Nat.beq (cls C ap o.op) 3 with
   | false=>rw[h1]at q;exact q.elim
   | true=>
    rw[h1]at q;simp only[ia]at q ⊢;cases h2:fb h (p::e)&&(ap||gD h (p::e))&&FD X f h (p::e) with
    | false=>rw[h2]at q;exact q.elim
    | true=>
     rw[h2]at q;simp only at q ⊢;cases n with
     | none=>exact dm H (p::e) q
     | some b=>
      cases hd:o.dst with
      | some d=>
       rw[hd]at q;simp only[vT]at q;have:=dm H _ q;rw[sx]at this;exact this
      | none=>
       rw[hd]at q;have:=dm H _ q;rw[sx]at this;exact this
theorem sy(H:SG G K) (q:match sd C ap X f o (ev t) with
   | true=>aZ C o (ev t) h (Nh C ap X f o G t h)
   | false=>False):mT C ap X f o K ⟨t,h⟩:=by
 unfold mT;split at q
 ·rename_i hl;simp only[hl];exact iL (fun v e n hk=>by
   have:=GG H hk;unfold nu at this ⊢;cases n<;>cases e<;>exact this) q
 exact q.elim
theorem uu(H:SG G K):∀(fl:List Bool) (l:List Oper) {t:Nat->AV} {h:Nat->AB},ur C ap X all fl l G t h->kg C ap X all fl l K ⟨t,h⟩
 | fl,[],t,h,q=>by cases fl<;>exact H _ _ q
 | [],_::_,_,_,q=>q.elim
 | f::fl,o::r,t,h,q=>by
  have ih:SG (ur C ap X all fl r G) (kg C ap X all fl r K):=fun _ _ q=>uu H fl r q;unfold ur vU at q;unfold kg;split at q
  ·rename_i h1;(try simp only[h1]);exact sy ih q
  rename_i g want h1
  (try simp only[h1])
  split at q
  ·exact q.elim
  rename_i og h2
  (try simp only[h2])
  split at q
  ·exact q.elim
  rename_i tg h3
  (try simp only[h3])
  split at q
  ·rename_i b h4
   (try simp only[h4])
   cases b<;>cases want<;>first | exact sy ih q | exact dm ih [] q
  ·rename_i xs h4
   (try simp only[h4])
   exact dm ih [] q
  exact q.elim
theorem oC(H:SG G K):∀(l:List Oper) {t:Nat->AV} {h:Nat->AB},CB l G t h->K (sj l ⟨t,h⟩)
 | [],_,_,q=>H _ _ q
 | o::r,t,h,q=>by
  unfold CB at q;unfold sj;cases hm:ly o.op with
  | true=>
   rw[hm]at q;cases hd:o.dst with
   | some d=>rw[hd]at q;exact oC H r q
   | none=>rw[hd]at q;exact oC H r q
  | false=>rw[hm]at q;exact oC H r q
theorem iy(H:SG G K):∀(l:List Oper) {t:Nat->AV} {h:Nat->AB},qq l G t h->K (uh l ⟨t,h⟩)
 | [],_,_,q=>H _ _ q
 | o::r,t,h,q=>by
  unfold qq at q;show K (uh r (sk o _));unfold sk;cases hm:Va o with
  | true=>
   rw[hm]at q;have:∀x,o.op≠.assign x:=fun x hx=>by rw[Va,hx]at hm;cases hm
   split
   ·rename_i x d hx _;exact absurd hx (this _)
   exact iy H r q
  | false=>
   rw[hm]at q;simp only at q;split at q
   ·exact q.elim
   rename_i d hd;have ha:∃x,o.op=.assign x:=by
    unfold Va at hm;split at hm
    ·rename_i x hx;exact⟨x,hx⟩
    cases hm
   obtain⟨x,ha⟩:=ha;rw[ha,hd];simp only;split at q
   ·rename_i i ht
    (try simp only[ht])
    cases hb:h i<;>rw[hb]at q<;>simp only[vS]at q ⊢<;>first
     | exact iy H r q
     | (cases BL:bB i d<;>rw[BL]at q<;>exact iy H r q)
   rename_i tP
   first
    | exact iy H r q
    | (
      split
      ·rename_i i ht;exact absurd ht (tP i)
      exact iy H r q)
end
def zP:Code->Option Nat
 | .seq a _=>zP a
 | .region i _ _=>some i
 | .block _ c=>zP c
 | .cond _ x y=>match zP x with
  | some i=>some i
  | none=>zP y
 | .loop c=>zP c
 | _=>none
def CC(k:Nat):List Nat->Bool
 | []=>false
 | i::r=>match bB i k with
  | true=>true
  | false=>CC k r
def L9(l:List Nat):Option Nat->Bool
 | some k=>CC k l
 | none=>false
def GH(f:TP)(K:Exit->TP):Exit->TP
 | .normal=>f
 | .exit i=>K (.exit i)
 | .ret=>K .ret
 | e=>K e
def GI(id:Nat)(K:Exit->TP):Exit->TP
 | .exit i=>fun t h=>match bB i id with
  | true=>K .normal t h
  | false=>K (.exit i) t h
 | .normal=>K .normal
 | .ret=>K .ret
 | e=>K e
structure Hint where
 M:List Nat
 B:List Nat
 X:List (Nat×List Nat)
 K:List Nat
 F:List (Nat×List Bool)
 S:List Nat
def GJ{α:Type}(d:α)(k:Nat):List (Nat×α)->α
 | []=>d
 | (i,x)::r=>match bB i k with
  | true=>x
  | false=>GJ d k r
def L_:List Oper->List Bool
 | []=>[]
 | _::r=>true::L_ r
def Ma(Q:Hint)(id:Nat)(l:List Oper):List Bool:=GJ (L_ l) id Q.F
def iM(Q:Hint)(C:Ctx):Code->Bool
 | .region id ops draw=>!draw||(decide ((ops.toList.any fun o=>gm C o.op)=CC id Q.K)&&decide (fS C (CC id Q.K) ops=Ma Q id ops.toList))
 | .seq a b=>iM Q C a&&iM Q C b
 | .cond _ a b=>iM Q C a&&iM Q C b
 | .block _ c=>iM Q C c
 | .loop c=>iM Q C c
 | _=>true
structure LW(Q:Hint)(A:jR)(c:Code)(K:Exit->TP)(t:Nat->AV)(h:Nat->AB):Prop where
 out:iM Q A.C c=true->ta A (.loop c) (fun e s=>K e s.t s.h) ⟨t,h⟩
structure SW(Q:Hint)(A:jR)(a b:Code)(K:Exit->TP)(t:Nat->AV)(h:Nat->AB):Prop where
 out:iM Q A.C a=true->iM Q A.C b=true->ta A (.seq a b) (fun e s=>K e s.t s.h) ⟨t,h⟩
structure BW(Q:Hint)(A:jR)(c:Code)(id:Nat)(K:Exit->TP)(t:Nat->AV)(h:Nat->AB):Prop where
 out:iM Q A.C c=true->ta A (.block id c) (fun e s=>K e s.t s.h) ⟨t,h⟩
def fB(Q:Hint)(A:jR):Code->(Exit->TP)->TP
 | .skip,K,t,h=>K .normal t h
 | .region id ops draw,K,t,h=>match draw with
  | false=>CA A.C ops.toList ops.toList (K .normal) t h
  | true=>CB ops.toList (ur A.C (CC id Q.K) (GJ [] id Q.X) ops.toList (Ma Q id ops.toList) ops.toList (qq ops.toList (K .normal))) t h
 | .seq a b,K,t,h=>match L9 Q.S (zP b),L9 Q.M (zP b) with
  | true,_=>SW Q A a b K t h
  | false,false=>fB Q A a (GH (fB Q A b K) K) t h
  | false,true=>fB Q A a (GH (fun t h=>Seen A ⟨t,h⟩ fun s=>fB Q A b K s.t s.h) K) t h
 | .cond c a b,K,t,h=>match ev t c with
  | .p (.im (.bool x))=>@Bool.rec (fun _=>Prop) (fB Q A b K t h) (fB Q A a K t h) x
  | _=>False
 | .block id c,K,t,h=>match CC id Q.B with
  | false=>fB Q A c (GI id K) t h
  | true=>BW Q A c id K t h
 | .loop c,K,t,h=>LW Q A c K t h
 | .exit id,K,t,h=>K (.exit id) t h
 | .ret,K,t,h=>K .ret t h
 | _,_,_,_=>False
variable {Q:Hint} {A:jR}
theorem ml:∀(c:Code) {G:Exit->TP} {K:Exit->AS->Prop} {t:Nat->AV} {h:Nat->AB},iM Q A.C c=true->(∀e,SG (G e) (K e))->fB Q A c G t h->ta A c K ⟨t,h⟩:=by
 intro c
 induction c with
 | skip=>intro G K t h hd H q;exact H _ _ _ q
 | region id ops draw=>
  intro G K t h hd H q;cases draw with
  | false=>exact xP (H .normal) _ q
  | true=>
   simp only[iM,vz,kf,qK,dS]at hd;refine⟨GJ [] id Q.X,?_⟩;rw[hd.1,hd.2];exact oC (fun _ _ q=>uu (fun _ _ q=>iy (H .normal) _ q) _ _ q) _ q
 | seq a b C6 C7=>
  intro G K t h hd H q;simp only[iM,qK]at hd;unfold fB at q;split at q
  ·exact lE (.seq a b) _ _ _ (fun e s q=>H e _ _ q) (q.out hd.1 hd.2)
  ·refine C6 hd.1 (fun e t h q=>?_) q;cases e with
   | normal=>exact Seen.of (aY.refl _ _) (C7 hd.2 H q)
   | _=>exact H _ _ _ q
  refine C6 hd.1 (fun e t h q=>?_) q;cases e with
  | normal=>
   exact Seen.mono (fun s q=>C7 hd.2 H q) q
  | _=>exact H _ _ _ q
 | cond c a b C6 C7=>
  intro G K t h hd H q;simp only[iM,qK]at hd;unfold fB at q;unfold ta;split at q
  ·rename_i x hx;simp only[hx];cases x
   ·exact C7 hd.2 H q
   exact C6 hd.1 H q
  exact q.elim
 | block id c ih=>
  intro G K t h hd H q;unfold fB at q;split at q
  ·refine ih hd (fun e t h q=>?_) q;cases e with
   | exit i=>
    show kF (bB i id) _ _;simp only[GI]at q;cases hb:bB i id<;>rw[hb]at q<;>exact H _ _ _ q
   | _=>exact H _ _ _ q
  exact lE (.block id c) _ _ _ (fun e s q=>H e _ _ q) (q.out hd)
 | loop c ih=>intro G K t h hd H q;exact lE (.loop c) _ _ _ (fun e s q=>H e _ _ q) (q.out hd)
 | exit id=>intro G K t h hd H q;exact H _ _ _ q
 | ret=>intro G K t h hd H q;exact H _ _ _ q
 | rangeFunc=>intro G K t h hd H q;exact q.elim
 | scope=>intro G K t h hd H q;exact q.elim
 | label=>intro G K t h hd H q;exact q.elim
 | goto=>intro G K t h hd H q;exact q.elim
 | refuse=>intro G K t h hd H q;exact q.elim
variable {c:Code} {α:Type}
theorem d_{K:Exit->TP}{t:Nat->AV}{h:Nat->AB}(R:α->Prop)(ts:α->List (Nat×AV))(hs:α->List (Nat×AB))(m:α->Nat)(x0:α)(s0:AS)(h0:aY A ⟨t,h⟩ s0)(hR:R x0)(ht:jH (ts x0) s0.t)(hh:jH (hs x0) s0.h)
  (round:∀x,R x->∀t h,fB Q A c (GH (fun t h=>∃y nt,aY A ⟨t,h⟩ nt/\R y/\m y<m x/\jH (ts y) nt.t/\jH (hs y) nt.h) K) (Tu (ts x) t) (Tu (hs x) h)):LW Q A c K t h:=
 ⟨fun hd=>Gv R ts hs m x0 s0 h0 hR ht hh fun x hx t h=>ml c hd (fun e t h q=>by cases e<;>exact q) (round x hx t h)⟩
theorem O3{id:Nat}{K:Exit->TP}{t:Nat->AV}{h:Nat->AB}(R:α->Prop)(ts:α->List (Nat×AV))(hs:α->List (Nat×AB))
  (h2:∀y,R y->∀t h,K .normal (Tu (ts y) t) (Tu (hs y) h)) (h1:fB Q A c (GI id (GH (fun t h=>∃y,R y/\jH (ts y) t/\jH (hs y) h) K)) t h):BW Q A c id K t h:=
 ⟨fun hd=>OW R ts hs h2 (ml c hd (K:=ui id (kG (su R ts hs) fun e s=>K e s.t s.h)) (fun e t h q=>by
  cases e with
  | exit i=>
   show kF (bB i id) _ _;simp only[GI]at q;cases hb:bB i id<;>rw[hb]at q<;>exact q
  | _=>exact q) h1)⟩
theorem VM{a b:Code}{K:Exit->TP}{t:Nat->AV}{h:Nat->AB}(R:α->Prop)(ts:α->List (Nat×AV))(hs:α->List (Nat×AB))
  (h2:∀y,R y->∀t h,fB Q A b K (Tu (ts y) t) (Tu (hs y) h)) (h1:fB Q A a (GH (fun t h=>∃y,R y/\jH (ts y) t/\jH (hs y) h) K) t h):SW Q A a b K t h:=
 ⟨fun ha hb=>cut R ts hs (fun y hy t h=>Seen.of (aY.refl _ _) (ml b hb (fun _ _ _ q=>q) (h2 y hy t h))) (ml a ha (K:=kG (su R ts hs) fun e s=>K e s.t s.h) (fun e t h q=>by cases e<;>exact q) h1)⟩
theorem lG{G:TP}{t:Nat->AV}{h:Nat->AB}{s2:AS}(hl:aY A ⟨t,h⟩ s2)(q:G s2.t s2.h):Seen A ⟨t,h⟩ fun s=>G s.t s.h:=Seen.of hl q
theorem zB:(∀(p:Prop) [Decidable p],(decide p=true)=p)/\(∀(p:Prop) [Decidable p],(decide p=false)=¬p)/\(∀(α:Type) [_root_.LE α] (a b:α),(a>=b)=(b<=a))/\(∀(α:Type) [_root_.LT α] (a b:α),(a>b)=(b<a))/\(∀b:Bool,((!b)=true)=(b=false))/\(∀b:Bool,((!b)=false)=(b=true)):=
 ⟨fun p _=>by simp,fun p _=>by simp,fun _ _ _ _=>rfl,fun _ _ _ _=>rfl,fun b=>by simp,fun b=>by simp⟩
class Jp(b:Bool)(p q:outParam Prop):Prop where
 yes:b=true->p
 no:b=false->q
instance (priority:=10) O4 {b:Bool}:Jp b (b=true) (b=false):=⟨id,id⟩
instance RM{p:Prop}[Decidable p]:Jp (decide p) p (¬p):=⟨ko,of_decide_eq_false⟩
instance Qh{α:Type}[_root_.LE α]{a b:α}[Decidable (a>=b)]:Jp (decide (a>=b)) (b<=a) (¬b<=a):=⟨ko,of_decide_eq_false⟩
instance Qi{α:Type}[_root_.LT α]{a b:α}[Decidable (a>b)]:Jp (decide (a>b)) (b<a) (¬b<a):=⟨ko,of_decide_eq_false⟩
instance RN{b:Bool}{p q:Prop}[i:Jp b p q]:Jp (!b) q p:=⟨fun h=>i.no (by simpa using h),fun h=>i.yes (by simpa using h)⟩
theorem Z{α:Sort _}{a:α}:a=a:=rfl
theorem Y:True:=trivial
theorem wO{p q:Prop}(h:p/\q):p/\q:=h
theorem iW{b:Bool}{P Q p q:Prop}[k:Jp b p q](f:p->P)(g:q->Q):@Bool.rec (fun _=>Prop) Q P b:=by
 cases b
 ·exact g (k.no rfl)
 exact f (k.yes rfl)
structure vV where
 w0:World
 mv:Nat->Prop
 s0:Nat->Prop
 n:Nat
 pin:Nat->Value
def vW (Q : Hint) (C : Ctx) (fn : Func) (c : Code) (k : Nat) : Bool := !(fn.name == "runtime.NumGoroutine") && (Nat.ble (k + (fn.ntmps - k)) 100000 && (gn C (k + (fn.ntmps - k)) c && iM Q C c))
variable {fn:Func} {args:List Arg}
theorem RO(Q:Hint){C:Ctx}(hC:aL C){f:FuncId}{r:AR}{fin:List Fin}(hf:C.P.funcs[f]?=some fn)(hb:fn.body=some c)(hk:vW Q C fn c args.length=true)
  (K:vV->Exit->TP) (hK:∀p e t h,K p e t h->∃s',aY ⟨C,p.w0,p.mv,p.s0,p.n,p.pin⟩ ⟨t,h⟩ s'/\Ci C fn.results.toList args r fin e s')
  (h:∀p:vV,∃s2,aY ⟨C,p.w0,p.mv,p.s0,p.n,p.pin⟩ ⟨qi args,jG args⟩ s2/\fB Q ⟨C,p.w0,p.mv,p.s0,p.n,p.pin⟩ c (K p) s2.t s2.h):aT C f args r fin:=by
 simp only[vW,qK,j8,Nat.ble_eq]at hk;refine I3 hC hf hb hk.1 (by omega) fun A hA O5 S rho a w sim=>?_;obtain⟨_,w0,mv,s0,n,pin⟩:=A;subst hA;obtain⟨s2,hl,hw⟩:=h ⟨w0,mv,s0,n,pin⟩;obtain⟨S',rho',aQ⟩:=hl S rho a w sim;have:=uj hC c (fun e s=>∃s',aY ⟨_,w0,mv,s0,n,pin⟩ s s'/\Ci _ fn.results.toList args r fin e s') s2 (by show gn _ _ c=true;rw[O5];exact hk.2.2.1) (ml c hk.2.2.2 (fun e t h q=>hK _ e t h q) hw) S' rho' a w aQ;refine wp_mono this fun e a' w' hq=>?_;obtain⟨S2,EB,s3,cF,s4,O6,hk⟩:=hq;obtain⟨S5,Jq,xj⟩:=O6 S2 EB a' w' cF;exact⟨S5,Jq,s4,xj,hk⟩
theorem RP(Q:Hint){C:Ctx}(hC:aL C){f:FuncId}{r:AR}{fin:List Fin}(hf:C.P.funcs[f]?=some fn)(hb:fn.body=some c)(hk:vW Q C fn c args.length=true)
  (h:∀p:vV,∃s2,aY ⟨C,p.w0,p.mv,p.s0,p.n,p.pin⟩ ⟨qi args,jG args⟩ s2/\fB Q ⟨C,p.w0,p.mv,p.s0,p.n,p.pin⟩ c (fun e t h=>Ci C fn.results.toList args r fin e ⟨t,h⟩) s2.t s2.h):aT C f args r fin:=
 RO Q hC hf hb hk _ (fun _ _ _ _ q=>⟨_,aY.refl _ _,q⟩) h
theorem Mb(Q:Hint){C:Ctx}(hC:aL C){f:FuncId}{r:AR}{fin:List Fin}(hf:C.P.funcs[f]?=some fn)(hb:fn.body=some c)(hk:vW Q C fn c args.length=true)
  (h:∀p:vV,fB Q ⟨C,p.w0,p.mv,p.s0,p.n,p.pin⟩ c (fun e t h=>Ci C fn.results.toList args r fin e ⟨t,h⟩) (qi args) (jG args)):aT C f args r fin:=
 RP Q hC hf hb hk fun p=>⟨_,aY.refl _ _,h p⟩
theorem fW{C:Ctx}(hC:aL C){f:FuncId}{r:AR}{fin:List Fin}(hf:C.P.funcs[f]?=some fn)(hb:fn.body=some c)(hk:vW ⟨[],[],[],[],[],[]⟩ C fn c args.length=true)
  (h:∀p:vV,fB ⟨[],[],[],[],[],[]⟩ ⟨C,p.w0,p.mv,p.s0,p.n,p.pin⟩ c (fun e t h=>Ci C fn.results.toList args r fin e ⟨t,h⟩) (qi args) (jG args)):aT C f args r fin:=Mb _ hC hf hb hk h
variable {bX:List (Nat×AB)}
theorem Qj(Q:Hint){C:Ctx}(hC:aL C){f:FuncId}{args:List AV}{r:AV}{fin:List (Nat×AB)}(hf:C.P.funcs[f]?=some fn)(hb:fn.body=some c)(hk:vW Q C fn c args.length=true)
  (K:vV->Exit->TP) (hK:∀p e t h,K p e t h->∃s',aY ⟨C,p.w0,p.mv,p.s0,p.n,p.pin⟩ ⟨t,h⟩ s'/\xB C fn.results.toList r fin e s')
  (h:∀p:vV,Seen ⟨C,p.w0,p.mv,p.s0,p.n,p.pin⟩ ⟨nT args,bp bX⟩ fun s=>fB Q ⟨C,p.w0,p.mv,p.s0,p.n,p.pin⟩ c (K p) s.t s.h):cR C f args bX r fin:=by
 simp only[vW,qK,j8,Nat.ble_eq]at hk;refine Gl hC hf hb hk.1 (by omega) fun A hA O5 S rho a w sim=>?_;obtain⟨_,w0,mv,s0,n,pin⟩:=A;subst hA;obtain⟨S',rho',s2,aQ,hw⟩:=h ⟨w0,mv,s0,n,pin⟩ S rho a w sim;have:=uj hC c (fun e s=>∃s',aY ⟨_,w0,mv,s0,n,pin⟩ s s'/\xB _ fn.results.toList r fin e s') s2 (by show gn _ _ c=true;rw[O5];exact hk.2.2.1) (ml c hk.2.2.2 (fun e t h q=>hK _ e t h q) hw) S' rho' a w aQ;refine wp_mono this fun e a' w' hq=>?_;obtain⟨S2,EB,s3,cF,s4,O6,hk⟩:=hq;obtain⟨S5,Jq,xj⟩:=O6 S2 EB a' w' cF;exact⟨S5,Jq,s4,xj,hk⟩
theorem Kz(Q:Hint){C:Ctx}(hC:aL C){f:FuncId}{args:List AV}{r:AV}{fin:List (Nat×AB)}(hf:C.P.funcs[f]?=some fn)(hb:fn.body=some c)(hk:vW Q C fn c args.length=true)
  (h:∀p:vV,fB Q ⟨C,p.w0,p.mv,p.s0,p.n,p.pin⟩ c (fun e t h=>∃s',aY ⟨C,p.w0,p.mv,p.s0,p.n,p.pin⟩ ⟨t,h⟩ s'/\xB C fn.results.toList r fin e s') (nT args) (bp bX)):cR C f args bX r fin:=
 Qj Q hC hf hb hk _ (fun _ _ _ _ q=>q) fun p=>Seen.of (aY.refl _ _) (h p)
theorem Jr(Q:Hint){C:Ctx}(hC:aL C){f:FuncId}{args:List AV}{r:AV}{fin:List (Nat×AB)}(hf:C.P.funcs[f]?=some fn)(hb:fn.body=some c)(hk:vW Q C fn c args.length=true)
  (h:∀p:vV,fB Q ⟨C,p.w0,p.mv,p.s0,p.n,p.pin⟩ c (fun e t h=>xB C fn.results.toList r fin e ⟨t,h⟩) (nT args) (bp bX)):cR C f args bX r fin:=
 Qj Q hC hf hb hk _ (fun _ _ _ _ q=>⟨_,aY.refl _ _,q⟩) fun p=>Seen.of (aY.refl _ _) (h p)
end Go.AM
namespace Go.AM
open Go.RowKit
def vX (C : Ctx) (f : FuncId) : Prop := ∃ fn : Func, C.P.funcs[f]? = some fn ∧ (fn.name == "runtime.NumGoroutine") = false ∧ fn.body.isNone = false
theorem rj{S:Nat->Prop}{w:World}{P:Program}{as:List Value}{vs:Array Value}(hl:(as.map fun a=>Arg.pv (.im a)).length=vs.size)(hr:∀(j:Nat) x v,(as.map fun a=>Arg.pv (.im a))[j]?=some x->vs[j]?=some v->yz S w P x v):vs=as.toArray:=by
 apply gV;apply fj;intro i;by_cases hi:i<as.length
 ·have h1:(as.map fun a=>Arg.pv (.im a))[i]?=some (.pv (.im as[i])):=by rw[ao,aM hi];rfl
  have Kh:i<vs.size:=by rw[<-hl];simpa using hi
  have h2:=hr i _ vs[i] h1 (bE Kh);have h3:vs[i]=as[i]:=by
   have:ay S w (.im as[i]) vs[i]:=h2;generalize vs[i]=v at this;cases this;rfl
  rw[cg,bE Kh,h3];simp[hi]
 rw[dI (by simpa [<-hl] using hi)];rw[dI (by simpa using hi)]
theorem vY{S:Nat->Prop}{w:World}{P:Program}:∀l:List Value,eV S w P (l.map fun a=>Arg.pv (.im a)) [] l:=by
 intro l
 induction l with
 | nil=>trivial
 | cons a l ih=>exact ih
theorem rk{w:World}:∀(l:List Value) (i g:Nat),¬cq w (l.map fun a=>Arg.pv (.im a)) [] l i g:=by
 intro l
 induction l with
 | nil=>exact fun i g h=>h
 | cons a l ih=>
  intro i g h;cases i with
  | zero=>exact h
  | succ i=>exact ih i g h
theorem sB{w w':World}(l:List Value):T4 w w' (l.map fun a=>Arg.pv (.im a)) [] l.toArray:=⟨fun i g h=>(rk l i g h).elim,fun i j g h=>(rk l i g h).elim⟩
theorem iz{C:Ctx}{f:FuncId}(as:List Value)(r:Value)(hf:vX C f)(h:∀S w,C.E S w->(∀b,S b->b<w.heap.size)->Calls C.P f as.toArray w fun e w'=>e=.returned r/\Below w.heap.size w w'):
  aT C f (as.map fun a=>.pv (.im a)) (.p (.im r)) []:=by
 refine⟨hf,fun S w vs hE hS hl hr _=>?_⟩;have wV:=rj hl hr;subst wV;exact (h S w hE hS).mono fun e w' ⟨he,hb⟩=>⟨r,S,he,⟨hb.os,hb.tape,hb.output,hb.size,fun k hk _=>hb.block k hk⟩,fun _ h=>h,fun b dM=>bg (hS b dM) hb.size,fun b dM=>.inl dM,.im r,vY as,sB as,fun g h=>by cases h⟩
theorem xQ{C:Ctx}(hC:aL C){f:FuncId}(as:List Value)(e:TypeId)(xs:List Value)(ti:TI)(hT:C.T e=some ti)(hsz:ti.size=1)(ga:∀v∈xs,v.oneCell'=true)(hlen:xs.length<=maxLen)(hf:vX C f)
  (h:∀S w,C.E S w->(∀b,S b->b<w.heap.size)->Calls C.P f as.toArray w fun e' w'=>e'=.returned (.slice (some ⟨w.heap.size,0,none⟩) xs.length xs.length)/\w'=w.alloc (.cells xs.toArray e)):
  aT C f (as.map fun a=>.pv (.im a)) (.own e (xs.map fun v=>[.im v])) []:=by
 refine⟨hf,fun S w vs hE hS hl hr _=>?_⟩;have wV:=rj hl hr;subst wV;obtain⟨info,z,h1,h2,_⟩:=hC.eL e ti hT;refine (h S w hE hS).mono fun e' w' ⟨he,hw⟩=>?_;subst hw;have DX:(w.alloc (.cells xs.toArray e)).heap[w.heap.size]?=some (.cells xs.toArray e (0,0)):=by unfold World.alloc;exact Array.getElem?_push_size
 have RQ:(w.alloc (.cells xs.toArray e)).heap.size=w.heap.size+1:=kp ..;have hb:Below w.heap.size w (w.alloc (.cells xs.toArray e)):=(Below.refl _ _).alloc (aC _) _;refine⟨_,S,he,⟨hb.os,hb.tape,hb.output,hb.size,fun k hk _=>hb.block k hk⟩,fun _ h=>h,fun b dM=>bg (hS b dM) hb.size,fun b dM=>.inl dM,⟨⟨info,xs,h1,by omega,⟨?_,.inr ⟨w.heap.size,xs.length,xs.toArray,?_,bd _,DX,?_,hlen,?_,?_⟩⟩,?_,ga,?_⟩,?_⟩,vY as,sB as,?_⟩
 ·simp[h2,hsz]
 ·simp
 ·simp
 ·simp[h2,hsz]
 ·simp[h2,hsz]
 ·intro r hr;obtain⟨v,_,rfl⟩:=aV.1 hr;simp[h2,hsz]
 ·intro a r j x ha hj;rw[ao]at ha;obtain⟨v,hv,rfl⟩:=az.1 ha;cases j with
  | zero=>
   simp at hj;subst hj;exact⟨v,by rw[h2,hsz,Nat.mul_one,jS];exact hv,.im v⟩
  | succ j=>simp at hj
 ·intro g hg hs;injection hg with hg;have hg:w.heap.size=g:=hg;have:=hS g hs;omega
 intro g _ hg;have hg:=al rfl hg;injection hg with hg;have hg:w.heap.size=g:=hg;exact⟨by omega,.inl (by omega),fun i=>rk as i g⟩
end Go.AM
