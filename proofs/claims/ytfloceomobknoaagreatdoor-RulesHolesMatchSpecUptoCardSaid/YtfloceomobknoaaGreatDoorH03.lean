/- Part 3 of the proof of RulesHolesMatchSpec. -/
import Derived.Test.YtfloceomobknoaaGreatDoorH02
import Derived.WideKeyRuns
set_option linter.unusedVariables false
set_option linter.unusedSimpArgs false
set_option maxRecDepth 100000
set_option maxHeartbeats 8000000
namespace Go
abbrev adZ:=@Bool.or_eq_true
abbrev abv:=@Bool.false_or
abbrev abD:=@List.mem_range
abbrev aaR:=@Bool.not_true
abbrev aci:=@List.any_eq_true
abbrev aaG:=@List.map_congr_left
abbrev abo:=@Bool.or_false
abbrev acz:=@Classical.byContradiction
abbrev abY:=@List.mem_append_left
abbrev aba:=@List.mem_filterMap
abbrev adt:=@List.mem_append_right
abbrev aby:=@List.filter_cons
abbrev abH:=@List.eq_nil_iff_forall_not_mem
abbrev adu:=@List.mem_filter
abbrev abz:=@List.flatMap_cons
abbrev abE:=@List.map_append
abbrev aax:=@List.mem_flatMap
abbrev adb:=@List.length_filter_le
abbrev acO:=@Bool.false_eq_true
abbrev adw:=@of_decide_eq_true
abbrev abJ:=@Go.RowKit.Below.refl
abbrev acE:=@Nat.mul_one
end Go
namespace Go.AM
open Go.RowKit
def isApp:Op->Bool
 | .call c=>match c.callee with
  | .builtin .append=>true
  | _=>false
 | _=>false
def Mg(m:Nat->Bool):Nat->Bool
 | 0=>false
 | n+1=>m n||Mg m n
def jI(C:Ctx)(o:Op):Bool:=isApp o||match o with
 | .call c=>match c.callee with
  | .value (.func f)=>Mg (C.md f) 8||C.bl f
  | .value (.tmp _)=>true
  | _=>false
 | _=>false
def cls(C:Ctx)(ap:Bool):Op->Nat
 | .move _=>0
 | .assign _=>0
 | .pick _ _ _=>0
 | .binOp _ _ _ _ _=>0
 | .unOp _ _ _=>0
 | .convert _ _ _=>0
 | .extract _ _=>0
 | .index _ _ _=>0
 | .field _ _ _=>0
 | .makeFunc _ _ _=>0
 | .fieldAddr _ _ _=>match ap with
  | true=>2
  | false=>1
 | .nilCheck _=>match ap with
  | true=>2
  | false=>1
 | .store _ _ _=>3
 | .mapUpdate _ _ _ _=>3
 | .call c=>match c.callee with
  | .builtin .append=>3
  | .builtin .clear=>3
  | .builtin .min=>0
  | .builtin .max=>0
  | .value (.func f)=>match Mg (C.md f) 8||C.bl f with
   | true=>3
   | false=>2
  | .value (.tmp _)=>3
  | _=>2
 | _=>2
def Mh:AB->AB->Bool
 | .row e _,.row e' _=>cq e e'
 | .box _,.box _=>true
 | .map _ _,.map _ _=>true
 | _,_=>false
def Mi:AB->Bool
 | .none=>false
 | _=>true
def iw(h:Nat->AB):List (Nat×AB)->Bool
 | []=>true
 | (i,_)::r=>Mi (h i)&&iw h r
def kj(h:Nat->AB):List (Nat×AB)->Bool
 | []=>true
 | (i,b)::r=>Mh (h i) b&&kj h r
def sE(op:Op):Option AB->Option Tmp->Bool
 | none,_=>true
 | some _,some _=>qp op
 | some _,none=>false
def vg:AV->Bool
 | .p _=>true
 | _=>false
def vh(o:Oper)(rho:Operand->AV):Bool:=match o.op with
 | .load _ a=>vg (rho a)
 | .indexAddr _ x _=>vg (rho x)
 | .slice _ x _ _ none=>vg (rho x)
 | .build _ ps=>ps.toList.all fun p=>vg (rho p.2)
 | .call c=>match c.callee,c.args.toList with
  | .builtin .len,[x]=>vg (rho x)
  | _,_=>false
 | .fieldAddr _ x _=>vg (rho x)
 | .nilCheck x=>vg (rho x)
 | _=>false
def Av:List Nat->Nat->Bool
 | [],_=>false
 | i::r,k=>match cq i k with
  | true=>true
  | false=>Av r k
def Up(X:List Nat):AV->Bool
 | .ow id=>Av X id
 | .rp id _ _=>Av X id
 | .bx id _=>Av X id
 | _=>false
def qq(X:List Nat)(o:Oper)(rho:Operand->AV):Bool:=match o.op with
 | .load _ a=>Up X (rho a)
 | .indexAddr _ x _=>Up X (rho x)
 | .lookup _ x _ _=>Up X (rho x)
 | .call c=>match c.callee,c.args.toList with
  | .builtin .len,[x]=>Up X (rho x)
  | _,_=>false
 | _=>false
def vi(X:List Nat)(o:Oper)(rho:Operand->AV):Bool:=match o.op with
 | .makeSlice _ _ _=>Av X (o.dst.getD 0)
 | .buildSlice _ _ ps=>Av X (o.dst.getD 0)&&ps.toList.all fun p=>vg (rho p.2)
 | _=>false
def qu(X:List Nat)(o:Oper)(rho:Operand->AV):Bool:=qq X o rho||vi X o rho
def Tw(X:List Nat):List (Nat×AB)->Bool
 | []=>true
 | (i,_)::r=>match Av X i with
  | true=>false
  | false=>Tw X r
def kc:AB->Nat
 | .box _=>1
 | .jd _=>1
 | .row _ _=>2
 | .az _ _=>2
 | _=>0
def tG(X:List Nat)(h:Nat->AB):List (Nat×AB)->Bool
 | []=>true
 | (i,b)::r=>match Av X (i+1000000) with
  | true=>Nat.beq (kc b) (kc (h i))&&(!Nat.beq (kc (h i)) 0&&tG X h r)
  | false=>tG X h r
def Ot(X:List Nat)(f:Bool)(h:Nat->AB)(e:List (Nat×AB)):Bool:=(f||Tw X e)&&tG X h e
theorem Iw(X:List Nat)(f:Bool)(h:Nat->AB):Ot X f h []=true:=by simp[Ot,Tw,tG]
def Xn(X:List Nat):AV->Bool
 | .bx id _=>Av X (id+1000000)
 | .rp id _ _=>Av X (id+1000000)
 | _=>false
def vj(X:List Nat)(o:Oper)(rho:Operand->AV):Bool:=match o.op with
 | .fieldAddr _ x _=>Xn X (rho x)
 | .nilCheck x=>Xn X (rho x)
 | _=>false
def yw(C:Ctx)(ap:Bool)(X:List Nat)(f:Bool)(o:Oper)(rho:Operand->AV):Bool:=f||vh o rho||qu X o rho||vj X o rho||Nat.beq (cls C ap o.op) 3
def Mj(C:Ctx)(ap:Bool)(X:List Nat)(f:Bool)(o:Oper)(K:AS->Prop)(s:AS):Prop:=
 bV C o (ev s.t) s.h fun v eff new=>match sE o.op new o.dst with
  | false=>False
  | true=>match Nat.beq (cls C ap o.op) 3 with
   | true=>match iw s.h eff&&(ap||kj s.h eff)&&Ot X f s.h eff with
    | true=>K ⟨fx s.t o.dst v,qd (app s.h eff) (o.dst.getD 0) new⟩
    | false=>False
   | false=>match eff with
    | []=>K ⟨fx s.t o.dst v,qd s.h (o.dst.getD 0) new⟩
    | _=>False
def rR(C:Ctx)(ap:Bool)(X:List Nat)(f:Bool)(o:Oper)(K:AS->Prop)(s:AS):Prop:=match yw C ap X f o (ev s.t) with
 | true=>Mj C ap X f o K s
 | false=>False
def oS(C:Ctx)(ap:Bool)(X:List Nat)(all:List Oper):List Bool->List Oper->(AS->Prop)->AS->Prop
 | _,[],K,s=>K s
 | [],_::_,_,_=>False
 | f::fl,o::r,K,s=>match o.guard with
  | none=>rR C ap X f o (oS C ap X all fl r K) s
  | some (g,want)=>match all[g]? with
   | none=>False
   | some og=>match og.dst with
    | none=>False
    | some tg=>match s.t tg with
     | .p (.im (.bool b))=>pR b
       (match want with
        | true=>rR C ap X f o (oS C ap X all fl r K) ⟨aT s.t tg (jh true),s.h⟩
        | false=>oS C ap X all fl r K ⟨fx (aT s.t tg (jh true)) o.dst rH,s.h⟩)
       (match want with
        | false=>rR C ap X f o (oS C ap X all fl r K) ⟨aT s.t tg (jh false),s.h⟩
        | true=>oS C ap X all fl r K ⟨fx (aT s.t tg (jh false)) o.dst rH,s.h⟩)
     | .p (.im (.tuple _))=>oS C ap X all fl r K ⟨fx s.t o.dst rH,s.h⟩
     | _=>False
structure RR where
 run:Bool
 v:AV
 eff:List (Nat×AB)
 new:Option AB
structure DStep(C:Ctx)(ap:Bool)(all:List Oper)(o:Oper)(s:AS)(r:RR)(s':AS):Prop where
 guard:match o.guard with
  | none=>r.run=true
  | some (g,want)=>∃og tg b,all[g]?=some og/\og.dst=some tg/\s.t tg=.p (.im b)/\r.run=Uj b want
 ran:r.run=true->bV C o (ev s.t) s.h fun v e n=>v=r.v/\e=r.eff/\n=r.new
 not:r.run=false->r.v=rH/\r.eff=[]/\r.new=none
 next:s'=⟨fx s.t o.dst r.v,qd (app s.h r.eff) (o.dst.getD 0) r.new⟩
 there:iw s.h r.eff=true
 kind:ap=false->kj s.h r.eff=true
 quiet:cls C ap o.op≠3->r.eff=[]
 ndst:sE o.op r.new o.dst=true
variable {ap:Bool}
theorem J5{C:Ctx}{f:Bool}{X:List Nat}{o:Oper}{K:AS->Prop}{s:AS}(h:Mj C ap X f o K s):∃v eff new,(bV C o (ev s.t) s.h fun v' e' n'=>v'=v/\e'=eff/\n'=new)/\iw s.h eff=true/\(ap=false->kj s.h eff=true)/\(cls C ap o.op≠3->eff=[])/\sE o.op new o.dst=true/\Ot X f s.h eff=true/\K ⟨fx s.t o.dst v,qd (app s.h eff) (o.dst.getD 0) new⟩:=by
 obtain⟨v,eff,new,h1,h2⟩:=q_ (fun _=>.inr rfl) h;refine⟨v,eff,new,h2 _ ⟨rfl,rfl,rfl⟩,?_⟩;split at h1
 ·exact h1.elim
 rename_i Oo;split at h1
 ·rename_i hc;have hc:cls C ap o.op=3:=aa2 hc;split at h1
  ·rename_i hk;have hx:Ot X f s.h eff=true:=(aaZ _ _▸hk).2;simp only[aaZ,adZ]at hk;exact⟨hk.1.1,fun e=>hk.1.2.resolve_left (by rw[e];decide),fun h=>absurd hc h,Oo,hx,h1⟩
  exact h1.elim
 split at h1
 ·exact⟨rfl,fun _=>rfl,fun _=>rfl,Oo,Iw _ _ _,h1⟩
 exact h1.elim
def yx(C:Ctx)(ap:Bool)(X:List Nat)(fl:List Bool)(o:Oper)(s:AS)(r:RR)(i:Nat):Prop:=r.run=true->(fl[i]?=some true\/vh o (ev s.t)=true\/qu X o (ev s.t)=true\/vj X o (ev s.t)=true\/cls C ap o.op=3)/\(fl[i]?=some true\/Tw X r.eff=true)/\tG X s.h r.eff=true
theorem Mk{C:Ctx}{X:List Nat}{all:List Oper}{K:AS->Prop}:∀(l:List Oper) (fl:List Bool) (s:AS),oS C ap X all fl l K s->∃(st:Nat->AS) (r:Nat->RR),st 0=s/\K (st l.length)/\∀(i:Nat) o,l[i]?=some o->DStep C ap all o (st i) (r i) (st (i+1))/\yx C ap X fl o (st i) (r i) i:=by
 intro l
 induction l with
 | nil=>intro fl s h;exact⟨fun _=>s,fun _=>⟨false,.junk,[],none⟩,rfl,by cases fl<;>exact h,by simp⟩
 | cons o l ih=>
  intro fl s h;cases fl with
  | nil=>exact h.elim
  | cons f fl=>
  have ext:∀(r:RR) (s':AS),DStep C ap all o s r s'->(r.run=true->yw C ap X f o (ev s.t)=true/\Ot X f s.h r.eff=true)->oS C ap X all fl l K s'->∃(st:Nat->AS) (r:Nat->RR),st 0=s/\K (st (o::l).length)/\∀(i:Nat) o',(o::l)[i]?=some o'->DStep C ap all o' (st i) (r i) (st (i+1))/\yx C ap X (f::fl) o' (st i) (r i) i:=by
   intro r0 s' hd hf hk;obtain⟨st,r,h1,h2,h3⟩:=ih fl s' hk;refine⟨fun i=>match i with | 0=>s | i+1=>st i,fun i=>match i with | 0=>r0 | i+1=>r i,rfl,h2,fun i o' hi=>?_⟩;cases i with
   | zero=>
    simp at hi;subst hi;refine⟨?_,fun hr=>?_⟩
    ·show DStep C ap all o s r0 (st 0);rw[h1];exact hd
    obtain⟨q1,q2⟩:=hf hr;simp only[Ot,aaZ]at q2;obtain⟨q2,q3⟩:=q2;exact⟨by cases f with
     | true=>exact .inl rfl
     | false=>simp only[yw,abv,adZ]at q1;exact .inr (by rcases q1 with ((h | h) | h) | h;exact .inl h;exact .inr (.inl h);exact .inr (.inr (.inl h));exact .inr (.inr (.inr (aa2 h)))),by cases f with
     | true=>exact .inl rfl
     | false=>exact .inr q2,q3⟩
   | succ i=>
    obtain⟨q1,q2⟩:=h3 i o' (by simpa using hi);exact⟨q1,fun hr=>q2 hr⟩
  have runs:(match o.guard with
    | none=>true=true
    | some (g,want)=>∃og tg b,all[g]?=some og/\og.dst=some tg/\s.t tg=.p (.im b)/\true=Uj b want)->rR C ap X f o (oS C ap X all fl l K) s->∃(st:Nat->AS) (r:Nat->RR),st 0=s/\K (st (o::l).length)/\∀(i:Nat) o',(o::l)[i]?=some o'->DStep C ap all o' (st i) (r i) (st (i+1))/\yx C ap X (f::fl) o' (st i) (r i) i:=by
   intro hg hs;unfold rR at hs;split at hs
   case h_2=>exact hs.elim
   rename_i hf;obtain⟨v,eff,new,k1,k2,k3,k4,k6,k7,k5⟩:=J5 hs;exact ext ⟨true,v,eff,new⟩ _ ⟨hg,fun _=>k1,(fun h=>by cases h),rfl,k2,k3,k4,k6⟩ (fun _=>⟨hf,k7⟩) k5
  unfold oS at h;split at h
  ·rename_i hg;exact runs (by rw[hg]) h
  rename_i g want hg;split at h
  ·exact h.elim
  rename_i og RV;split at h
  ·exact h.elim
  rename_i tg RW;split at h
  ·rename_i b hb;have tE:∀b',b=b'->aT s.t tg (jh b')=s.t:=fun b' e=>jf _ _ _ (by rw[hb,e];rfl);have QI:oS C ap X all fl l K ⟨fx s.t o.dst rH,s.h⟩->(false=(b==want))->∃(st:Nat->AS) (r:Nat->RR),st 0=s/\K (st (o::l).length)/\∀(i:Nat) o',(o::l)[i]?=some o'->DStep C ap all o' (st i) (r i) (st (i+1))/\yx C ap X (f::fl) o' (st i) (r i) i:=fun hs he=>
    ext ⟨false,rH,[],none⟩ _ ⟨by rw[hg];exact⟨og,tg,.bool b,RV,RW,hb,by rw[he];cases b<;>cases want<;>rfl⟩,fun h=>(by cases h),fun _=>⟨rfl,rfl,rfl⟩,rfl,rfl,fun _=>rfl,fun _=>rfl,rfl⟩ (fun h=>by cases h) hs
   cases b<;>cases want<;>simp only[pR]at h
   ·rw[tE false rfl]at h;exact runs (by rw[hg];exact⟨og,tg,.bool false,RV,RW,hb,rfl⟩) h
   ·rw[tE false rfl]at h;exact QI h rfl
   ·rw[tE true rfl]at h;exact QI h rfl
   rw[tE true rfl]at h;exact runs (by rw[hg];exact⟨og,tg,.bool true,RV,RW,hb,rfl⟩) h
  ·rename_i q hb;exact ext ⟨false,rH,[],none⟩ _ ⟨by rw[hg];exact⟨og,tg,.tuple q,RV,RW,hb,by cases want<;>rfl⟩,fun h=>(by cases h),fun _=>⟨rfl,rfl,rfl⟩,rfl,rfl,fun _=>rfl,fun _=>rfl,rfl⟩ (fun h=>by cases h) h
  exact h.elim
variable {rho:Operand->AV} {h':Nat->AB}
theorem R4{C:Ctx}{o:Oper}{h:Nat->AB}{K:KK}(hc:cls C ap o.op=0)(hq:bV C o rho h K):bV C o rho h' K:=by
 cases aK:o.op<;>rw[aK]at hc<;>try (simp only[bV,aK]at hq ⊢;exact hq)
 all_goals try (cases hc;done)
 case makeFunc fn first cap=>
  cases fn with
  | func f=>simp only[bV,aK]at hq ⊢;exact hq
  | _=>simp only[bV,aK]at hq
 case fieldAddr=>cases ap<;>cases hc
 case nilCheck=>cases ap<;>cases hc
 case call c=>
  simp only[bV,aK]at hq ⊢;simp only[cls]at hc;split at hc
  ·cases hc
  ·cases hc
  ·rename_i h1;simp only[h1,aeC,fy]at hq ⊢;exact hq
  ·rename_i h1;simp only[h1,aeC,fy]at hq ⊢;exact hq
  ·split at hc<;>cases hc
  ·cases hc
  cases hc
theorem R5{C:Ctx}{o:Oper}{h:Nat->AB}{K:KK}(hc:cls C ap o.op=1)(hh:∀id,(h id).there->((h' id).there/\(∀e es,h id=.row e es->∃de,h' id=.row e de)/\(∀cs,h id=.box cs->∃mZ,h' id=.box mZ)/\(∀cs,h id=.jd cs->∃mZ,h' id=.jd mZ)/\(∀e es,h id=.az e es->∃de,h' id=.az e de)))(hq:bV C o rho h K):bV C o rho h' K:=by
 cases aK:o.op<;>rw[aK]at hc<;>try (cases hc;done)
 case call c=>
  exfalso;simp only[cls]at hc;split at hc<;>first | cases hc | (split at hc<;>cases hc)
 case fieldAddr t x f=>
  simp only[bV,aK]at hq ⊢;split at hq
  ·split at hq
   ·split at hq
    ·exact hq
    ·rename_i id o' hx;split at hq
     ·exact hq.elim
     rename_i b8;have ht:(h id).there:=by cases h1:h id<;>first | trivial | exact absurd h1 (by simpa using b8)
     have:=(hh id ht).1;split
     ·rename_i h2;rw[h2]at this;exact this.elim
     exact hq
    ·rename_i id i o' hx;split at hq
     ·rename_i e es hr;obtain⟨de,h2⟩:=(hh id (by rw[hr];trivial)).2.1 e es hr;simp only[h2];exact hq
     ·rename_i e es hr;obtain⟨de,h2⟩:=(hh id (by rw[hr];trivial)).2.2.2.2 e es hr;simp only[h2];exact hq
     exact hq.elim
    exact hq
   exact hq
  exact hq
 case nilCheck x=>
  simp only[bV,aK]at hq ⊢;split at hq
  ·exact hq
  ·rename_i id off hx;split at hq
   ·rename_i cs hr;obtain⟨mZ,h2⟩:=(hh id (by rw[hr];trivial)).2.2.1 cs hr;simp only[h2];exact hq
   ·rename_i cs hr;obtain⟨mZ,h2⟩:=(hh id (by rw[hr];trivial)).2.2.2.1 cs hr;simp only[h2];exact hq
   exact hq.elim
  ·rename_i id i off hx;split at hq
   ·rename_i e es hr;obtain⟨de,h2⟩:=(hh id (by rw[hr];trivial)).2.1 e es hr;simp only[h2];exact hq
   ·rename_i e es hr;obtain⟨de,h2⟩:=(hh id (by rw[hr];trivial)).2.2.2.2 e es hr;simp only[h2];exact hq
   exact hq.elim
  exact hq
def vk(ops:Array Oper)(o:Oper)(d:Tmp):Bool:=(o.looksAt ops).contains d
def GH(C:Ctx)(ap:Bool)(ops:Array Oper)(b:Array Nat)(i j:Nat)(oi oj:Oper):Bool:=
 (match oi.dst,oj.dst with
  | some x,some y=>!cq x y
  | _,_=>true) &&
 (match oj.dst with
  | some d=>!vk ops oi d||(b.getD j 0).testBit i
  | none=>true) &&
 (match oi.dst with
  | some d=>!vk ops oj d||(b.getD j 0).testBit i
  | none=>true) &&
 (if cls C ap oj.op=3 then (if cls C ap oi.op=3 then (b.getD j 0).testBit i else true) else true)
def Uq(ops:Array Oper)(b:Array Nat)(C:Ctx)(ap:Bool)(c i:Nat):Bool:=(List.range ops.size).all fun k=>match ops[k]? with
  | none=>true
  | some ok=>!cq (cls C ap ok.op) c||(if k<i then (b.getD i 0).testBit k else if i<k then (b.getD k 0).testBit i else true)
def O4:Op->Bool
 | .fieldAddr _ _ _=>true
 | .nilCheck _=>true
 | _=>false
def Xo(ops:Array Oper)(b:Array Nat)(C:Ctx)(ap:Bool)(i:Nat):Bool:=(List.range ops.size).all fun k=>match ops[k]? with
  | none=>true
  | some ok=>(O4 ok.op||!cq (cls C ap ok.op) 2)||(if k<i then (b.getD i 0).testBit k else if i<k then (b.getD k 0).testBit i else true)
def Cz(C:Ctx)(ap:Bool)(ops:Array Oper)(b:Array Nat)(i:Nat)(oi:Oper):Bool:=
 match cls C ap oi.op with
 | 2=>Uq ops b C ap 3 i
 | 3=>Xo ops b C ap i
 | _=>true
def ji(C:Ctx)(ap:Bool)(ops:Array Oper):List Bool:=
 let b:=Region.before ops
 (List.range ops.size).map fun i=>match ops[i]? with
  | some oi=>Cz C ap ops b i oi
  | none=>true
variable {ops:Array Oper} {oi:Oper}
theorem Ml{C:Ctx}{i:Nat}{c:Nat}(hi:ops[i]?=some oi)(h:Uq ops (Region.before ops) C ap c i=true):
  ∀(k:Nat) ok,ops[k]?=some ok->cls C ap ok.op=c->(k<i->((Region.before ops).getD i 0).testBit k=true)/\(i<k->((Region.before ops).getD k 0).testBit i=true):=by
 intro k ok hk Xp;have s_:=(ab9.1 hi).1;have DK:=(ab9.1 hk).1;have h2:=abh.1 h k (abD.2 DK);simp only[hk,a7.2 Xp,aaR,abv]at h2;refine⟨fun eF=>?_,fun eF=>?_⟩
 ·rwa [aap eF]at h2
 rwa [aaa (by omega),aap eF]at h2
theorem D_{C:Ctx}{i:Nat}(hi:ops[i]?=some oi)(h:(ji C ap ops)[i]?=some true):Cz C ap ops (Region.before ops) i oi=true:=by
 have s_:=(ab9.1 hi).1;simpa only[ji,aak,abP s_,ab6,hi,Option.some.injEq] using h
theorem vm{C:Ctx}{i:Nat}(hi:ops[i]?=some oi)(h:(ji C ap ops)[i]?=some true)(hc:cls C ap oi.op=2):
  ∀(k:Nat) ok,ops[k]?=some ok->cls C ap ok.op=3->(k<i->((Region.before ops).getD i 0).testBit k=true)/\(i<k->((Region.before ops).getD k 0).testBit i=true):=by
 have h2:=D_ hi h;simp only[Cz,hc]at h2;exact Ml hi h2
theorem yy{C:Ctx}{i:Nat}(hi:ops[i]?=some oi)(h:(ji C ap ops)[i]?=some true)(hc:cls C ap oi.op=3):
  ∀(k:Nat) ok,ops[k]?=some ok->cls C ap ok.op=2->O4 ok.op=false->(k<i->((Region.before ops).getD i 0).testBit k=true)/\(i<k->((Region.before ops).getD k 0).testBit i=true):=by
 have h2:=D_ hi h;simp only[Cz,hc]at h2;intro k ok hk Xp hth;have s_:=(ab9.1 hi).1;have DK:=(ab9.1 hk).1;have h2:=abh.1 h2 k (abD.2 DK);simp only[hk,hth,a7.2 Xp,aaR,abv]at h2;refine⟨fun eF=>?_,fun eF=>?_⟩
 ·rwa [aap eF]at h2
 rwa [aaa (by omega),aap eF]at h2
theorem Ix{X:List Nat}{o:Oper}(h:qu X o rho=true):O4 o.op=false:=by
 unfold qu qq vi at h;cases e:o.op<;>rw[e]at h<;>first | rfl | cases h
theorem Ea{X:List Nat}:∀{eff:List (Nat×AB)},Tw X eff=true->∀p∈eff,Av X p.1=false:=by
 intro eff
 induction eff with
 | nil=>intro _ p hp;cases hp
 | cons x r ih=>
  intro h p hp;unfold Tw at h;split at h
  ·cases h
  rename_i hx;rcases adq.1 hp with e | e
  ·rw[e];exact hx
  exact ih h p e
theorem eW{a:AV}(h:vg a=true):∃x,a=.p x:=by cases a<;>first | exact⟨_,rfl⟩ | cases h
variable {fs:List (Nat×Nat×Bool)}
theorem Mm{h:Nat->AB}:∀(ps:List (Nat×Operand)) (cs:List PV) (K:List PV->List (Nat×AB)->Prop),(ps.all fun p=>vg (rho p.2))=true->jC h fs rho ps cs K->jC h' fs rho ps cs K:=by
 intro ps
 induction ps with
 | nil=>intro cs K _ hq;exact hq
 | cons p ps ih=>
  intro cs K hp hq;obtain⟨i,x⟩:=p;simp only[aaP,aaZ]at hp;obtain⟨y,hy⟩:=eW hp.1;simp only[jC]at hq ⊢;split at hq
  ·rw[hy]at hq ⊢;simp only[gD,l8]at hq ⊢;revert hq;cases sg y with
   | none=>exact id
   | some ys=>
    simp only;cases Ag ys.length _&&H9 _ cs.length with
    | false=>exact id
    | true=>intro hq;exact ih _ _ hp.2 hq
  exact hq.elim
theorem Mn{h:Nat->AB}:∀(ps:List (Nat×Operand)) (cs:List AV) (K:List AV->Prop),(ps.all fun p=>vg (rho p.2))=true->k_ h fs rho ps cs K->k_ h' fs rho ps cs K:=by
 intro ps
 induction ps with
 | nil=>intro cs K _ hq;exact hq
 | cons p ps ih=>
  intro cs K hp hq;obtain⟨i,x⟩:=p;simp only[aaP,aaZ]at hp;obtain⟨y,hy⟩:=eW hp.1;unfold k_ at hq ⊢;split at hq
  ·rename_i h1;split at hq
   ·rename_i h2;have e:u5 h' (rho x)=u5 h (rho x):=by rw[hy];cases y<;>rfl
    simp only[h1,e,h2];exact ih _ _ hp.2 hq
   exact hq.elim
  exact hq.elim
theorem GI{h:Nat->AB}{Q:Prop}:∀(ps:List (Nat×Operand)) (cs:List PV) (K:List PV->List (Nat×AB)->Prop),(∀a b,K a b->Q)->jC h fs rho ps cs K->Q:=by
 intro ps
 induction ps with
 | nil=>intro cs K hk hq;exact hk _ _ hq
 | cons p ps ih=>
  intro cs K hk hq;obtain⟨i,x⟩:=p;simp only[jC]at hq;split at hq
  ·obtain⟨y,fz,h1,_⟩:=iu (fun _=>.inr rfl) hq;split at h1
   ·split at h1
    ·exact ih _ _ (fun a b h=>hk _ _ h) h1
    exact h1.elim
   exact h1.elim
  exact hq.elim
theorem R6{C:Ctx}{o:Oper}{h:Nat->AB}{K:KK}(hp:vh o rho=true)(hq:bV C o rho h K):bV C o rho h' K:=by
 unfold vh at hp;split at hp
 ·rename_i t a aK;obtain⟨x,hx⟩:=eW hp;simp only[bV,aK]at hq ⊢;rw[hx]at hq ⊢;cases x<;>exact hq
 ·rename_i t x ix aK;obtain⟨y,hx⟩:=eW hp;simp only[bV,aK]at hq ⊢;rw[hx]at hq ⊢;cases y<;>exact hq
 ·rename_i t x lo hi aK;obtain⟨y,hx⟩:=eW hp;simp only[bV,aK]at hq ⊢;rw[hx]at hq ⊢;have hq:gm C rho h t x lo hi K:=hq;show gm C rho h' t x lo hi K;simp only[gm]at hq ⊢;rw[hx]at hq ⊢;exact hq
 ·rename_i t ps aK;simp only[bV,aK]at hq ⊢;split at hq
  ·split at hq
   ·exact Mm _ _ _ hp hq
   exact Mn _ _ _ hp hq
  exact hq.elim
 ·rename_i c aK;split at hp
  ·rename_i x hc ha;obtain⟨y,hx⟩:=eW hp;simp only[bV,aK,hc,ha,aeC,fy]at hq ⊢;split at hq
   ·rename_i R7 ht;simp only[ha,ht]at *;injection R7 with R7 _;subst R7;rw[hx]at hq ⊢;cases y<;>exact hq
   exact hq.elim
  cases hp
 ·rename_i t x f aK;obtain⟨y,hx⟩:=eW hp;simp only[bV,aK]at hq ⊢;rw[hx]at hq ⊢;cases y<;>exact hq
 ·rename_i x aK;obtain⟨y,hx⟩:=eW hp;simp only[bV,aK]at hq ⊢;rw[hx]at hq ⊢;cases y<;>exact hq
 cases hp
variable {e:List (Nat×AB)}
theorem GJ{C:Ctx}{o:Oper}{h:Nat->AB}{v:AV}{n:Option AB}(hp:vh o rho=true)(hq:bV C o rho h fun v' e' n'=>v'=v/\e'=e/\n'=n):n=none:=by
 have aux:∀(x:AV) (K:List (List PV)->Prop) (Q:Prop),(∀es,K es->Q)->gH h x K->Q:=by
  intro x K Q hk hq;unfold gH at hq
  repeat' (split at hq)
  all_goals first | exact hq.elim | exact hk _ hq
 unfold vh at hp;split at hp
 ·rename_i t a aK;obtain⟨x,hx⟩:=eW hp;simp only[bV,aK]at hq;split at hq
  ·exact hq.elim
  rw[hx]at hq;split at hq
  ·split at hq
   ·split at hq
    ·exact hq.2.2.symm
    exact hq.elim
   split at hq
   ·exact hq.2.2.symm
   exact hq.elim
  ·rename_i h1;cases h1
  ·rename_i h1;cases h1
  exact hq.elim
 ·rename_i t x ix aK;obtain⟨y,hx⟩:=eW hp;simp only[bV,aK]at hq;split at hq
  ·split at hq
   ·exact hq.elim
   rw[hx]at hq;split at hq
   ·obtain⟨r,_,hq⟩:=hq;split at hq
    ·exact hq.2.2.symm
    exact hq.elim
   all_goals first | exact hq.elim | (rename_i h1;cases h1;done) | (rename_i h1 _;cases h1;done) | (rename_i h1 _ _;cases h1;done)
  exact hq.elim
 ·rename_i t x lo hi aK;obtain⟨y,hx⟩:=eW hp;simp only[bV,aK]at hq;rw[hx]at hq;have hq:gm C rho h t x lo hi _:=hq;simp only[gm]at hq;split at hq
  ·rw[hx]at hq;split at hq
   ·split at hq
    ·exact hq.2.2.2.symm
    exact hq.elim
   exact hq.elim
  ·split at hq
   ·exact hq.elim
   obtain⟨z,fz,hq,_⟩:=iu (fun _=>.inr rfl) hq;split at hq
   ·split at hq
    ·exact hq.2.2.2.symm
    exact hq.elim
   exact hq.elim
  exact hq.elim
 ·rename_i t ps aK;simp only[bV,aK]at hq;split at hq
  ·split at hq
   ·exact GI _ _ _ (fun _ _ h=>h.2.2.symm) hq
   obtain⟨z,h1,_⟩:=A9 (fun _=>.inr rfl) hq;exact h1.2.2.symm
  exact hq.elim
 ·rename_i c aK;split at hp
  ·rename_i x hc ha;simp only[bV,aK,hc,ha,aeC,fy]at hq;split at hq
   ·split at hq
    ·split at hq
     ·exact hq.2.2.symm
     exact hq.elim
    ·split at hq
     ·exact hq.2.2.symm
     exact aux _ _ _ (fun _ h=>h.2.2.symm) hq
    ·split at hq
     ·split at hq
      ·exact hq.2.2.symm
      exact hq.elim
     exact hq.elim
    exact hq.elim
   exact hq.elim
  cases hp
 ·rename_i t x f aK;obtain⟨y,hx⟩:=eW hp;simp only[bV,aK]at hq;rw[hx]at hq
  repeat' (split at hq)
  all_goals first | exact hq.elim | exact hq.2.2.symm | (rename_i h1;cases h1)
 ·rename_i x aK;obtain⟨y,hx⟩:=eW hp;simp only[bV,aK]at hq;rw[hx]at hq
  repeat' (split at hq)
  all_goals first | exact hq.elim | exact hq.2.2.symm | (rename_i h1;cases h1)
 cases hp
theorem O5{C:Ctx}{o:Oper}{X:List Nat}{h:Nat->AB}{K:KK}(hh:∀id,Av X id=true->h id=.none\/h' id=h id)(hp:qq X o rho=true)(hq:bV C o rho h K):bV C o rho h' K:=by
 have hx:∀{a:AV},Up X a=true->(∃id,a=.ow id/\(h id=.none\/h' id=h id))\/(∃id i off,a=.rp id i off/\(h id=.none\/h' id=h id))\/∃id off,a=.bx id off/\(h id=.none\/h' id=h id):=by
  intro a ha;cases a with
  | ow id=>exact .inl ⟨id,rfl,hh id ha⟩
  | rp id i off=>exact .inr (.inl ⟨id,i,off,rfl,hh id ha⟩)
  | bx id off=>exact .inr (.inr ⟨id,off,rfl,hh id ha⟩)
  | _=>cases ha
 unfold qq at hp;split at hp
 ·rename_i t a aK;simp only[bV,aK]at hq ⊢;cases hT:C.T t with
  | none=>simp only[hT]at hq
  | some ti=>
   simp only[hT]at hq ⊢;rcases hx hp with⟨id,e,e2⟩ | ⟨id,i,off,e,e2⟩ | ⟨id,off,e,e2⟩<;>simp only[e]at hq ⊢<;>rcases e2 with e2 | e2<;>first | (simp only[e2]at hq;done) | (rw[e2];exact hq)
 ·rename_i t x ix aK;simp only[bV,aK]at hq ⊢;split at hq
  case h_2=>exact hq.elim
  rename_i e size bytes zero eq k i hT Oj;cases u9:C.T e with
  | none=>simp only[u9]at hq
  | some te=>
   simp only[u9]at hq ⊢;rcases hx hp with⟨id,e,e2⟩ | ⟨id,i,off,e,e2⟩ | ⟨id,off,e,e2⟩<;>simp only[e]at hq ⊢<;>rcases e2 with e2 | e2<;>first | (simp only[e2]at hq;done) | (rw[e2];exact hq)
 ·rename_i t x ix ck aK;simp only[bV,aK]at hq ⊢;rcases hx hp with⟨id,e,e2⟩ | ⟨id,i,off,e,e2⟩ | ⟨id,off,e,e2⟩<;>simp only[e]at hq ⊢
  ·rcases e2 with e2 | e2
   ·simp only[e2]at hq
    repeat' (split at hq)
    all_goals exact hq.elim
   rw[e2];exact hq
  ·exact hq
  exact hq
 ·rename_i c aK;split at hp
  ·rename_i x hc ha;simp only[bV,aK,hc,ha,aeC,fy]at hq ⊢;split at hq
   case h_2=>exact hq.elim
   rename_i x' t R7 ht;injection R7 with R7 _;subst R7;split at hq
   ·rcases hx hp with⟨id,e,e2⟩ | ⟨id,i,off,e,e2⟩ | ⟨id,off,e,e2⟩<;>simp only[e]at hq
   ·rename_i hT;rcases hx hp with⟨id,e,e2⟩ | ⟨id,i,off,e,e2⟩ | ⟨id,off,e,e2⟩<;>simp only[hT,e,hlen,gH]at hq ⊢;rcases e2 with e2 | e2
    ·simp only[e2]at hq
    rw[e2];exact hq
   ·rename_i hT;rcases hx hp with⟨id,e,e2⟩ | ⟨id,i,off,e,e2⟩ | ⟨id,off,e,e2⟩<;>simp only[hT,e]at hq ⊢;rcases e2 with e2 | e2
    ·simp only[e2]at hq
    rw[e2];exact hq
   exact hq.elim
  cases hp
 cases hp
theorem Eb{C:Ctx}{o:Oper}{X:List Nat}{h:Nat->AB}{v:AV}{n:Option AB}(hp:qq X o rho=true)(hq:bV C o rho h fun v' e' n'=>v'=v/\e'=e/\n'=n):n=none:=by
 have aux:∀(x:AV) (K:List (List PV)->Prop) (Q:Prop),(∀es,K es->Q)->gH h x K->Q:=by
  intro x K Q hk hq;unfold gH at hq
  repeat' (split at hq)
  all_goals first | exact hq.elim | exact hk _ hq
 unfold qq at hp;split at hp
 ·rename_i aK;simp only[bV,aK]at hq
  repeat' (split at hq)
  all_goals first | exact hq.elim | exact hq.2.2.symm | (exfalso;obtain⟨r,hr,hq⟩:=hq;exact hq) | (rcases hq with⟨r,hr,hq⟩;first | exact hq.2.2.symm | (split at hq<;>first | exact hq.elim | exact hq.2.2.symm))
 ·rename_i aK;simp only[bV,aK]at hq
  repeat' (split at hq)
  all_goals first | exact hq.elim | exact hq.2.2.symm | exact hq.2.2.2.symm | (obtain⟨r,hr,hq⟩:=hq;split at hq<;>first | exact hq.elim | exact hq.2.2.symm)
 ·rename_i aK;simp only[bV,aK]at hq
  repeat' (split at hq)
  all_goals first | exact hq.elim | (obtain⟨r,hr,hq⟩:=hq;exact hq.2.2.symm) | (obtain⟨r,hr,hq⟩:=hq;split at hq<;>exact hq.2.2.symm)
 ·rename_i c aK;split at hp
  ·rename_i x hc ha;simp only[bV,aK,hc,ha,aeC,fy]at hq;split at hq
   ·split at hq
    ·split at hq
     ·exact hq.2.2.symm
     exact hq.elim
    ·split at hq
     ·exact hq.2.2.symm
     exact aux _ _ _ (fun _ h=>h.2.2.symm) hq
    ·split at hq
     ·split at hq
      ·exact hq.2.2.symm
      exact hq.elim
     exact hq.elim
    exact hq.elim
   exact hq.elim
  cases hp
 cases hp
theorem R8{C:Ctx}{o:Oper}{X:List Nat}{h:Nat->AB}{K:KK}(hh:∀id,Av X id=true->h id=.none\/h' id=h id)(hp:qu X o rho=true)(hq:bV C o rho h K):bV C o rho h' K:=by
 unfold qu at hp;rcases (adZ _ _▸hp:qq X o rho=true\/vi X o rho=true) with hp | hp
 ·exact O5 hh hp hq
 unfold vi at hp;split at hp
 ·rename_i t n c aK;simp only[bV,aK]at hq ⊢;exact hq
 ·rename_i t n ps aK;simp only[aaZ]at hp;have aeL:∀p∈ps.toList,vg (rho p.2)=true:=abh.1 hp.2;have aux:∀(b:Bool) (size:Nat) (l:List (Nat×Operand)) (es:List (List PV)) (K:List (List PV)->List (Nat×AB)->Prop),(∀p∈l,vg (rho p.2)=true)->gG b h size rho l es K->gG b h' size rho l es K:=by
   intro b size l
   induction l with
   | nil=>intro es K _ h;exact h
   | cons p r ih=>
    intro es K hl hk;obtain⟨i,x⟩:=p;obtain⟨y,hy⟩:=eW (hl _ adU);simp only at hy;simp only[gG,hy]at hk ⊢;have e:∀(h:Nat->AB) (Q:PV->List (Nat×AB)->Prop),wa b h (.p y) Q=Q y []:=fun h Q=>by cases b<;>rfl
    rw[e]at hk ⊢;revert hk;split
    ·intro hk;revert hk;split
     ·intro hk;exact ih _ _ (fun p hp=>hl p (aaw _ hp)) hk
     exact fun hk=>hk
    exact fun hk=>hk
  simp only[bV,aK]at hq ⊢;revert hq;split
  ·split
   ·split
    ·split
     ·exact aux _ _ _ _ _ aeL
     exact aux _ _ _ _ _ aeL
    exact fun hq=>hq
   exact fun hq=>hq
  exact fun hq=>hq
 cases hp
theorem GK{C:Ctx}{o:Oper}{X:List Nat}{h:Nat->AB}{v:AV}{n:Option AB}(hp:qu X o rho=true)(hq:bV C o rho h fun v' e' n'=>v'=v/\e'=e/\n'=n):n=none\/Av X (o.dst.getD 0)=true:=by
 unfold qu at hp;rcases (adZ _ _▸hp:qq X o rho=true\/vi X o rho=true) with hp | hp
 ·exact .inl (Eb hp hq)
 unfold vi at hp;split at hp
 ·exact .inr hp
 ·simp only[aaZ]at hp;exact .inr hp.1
 cases hp
theorem R9{C:Ctx}{o:Oper}{X:List Nat}{h:Nat->AB}{K:KK}(hh:∀id,Av X (id+1000000)=true->h id≠.none->(kc (h' id)=kc (h id)/\kc (h id)≠0)\/h' id=h id)(hp:vj X o rho=true)(hq:bV C o rho h K):bV C o rho h' K:=by
 have hx:∀{a:AV},Xn X a=true->(∃id off,a=.bx id off/\Av X (id+1000000)=true)\/∃id i off,a=.rp id i off/\Av X (id+1000000)=true:=fun {a} ha=>by
  cases a with
  | bx id off=>exact .inl ⟨id,off,rfl,ha⟩
  | rp id i off=>exact .inr ⟨id,i,off,rfl,ha⟩
  | _=>cases ha
 unfold vj at hp;split at hp
 ·rename_i t x f aK;simp only[bV,aK]at hq ⊢;split at hq
  case h_2=>exact hq.elim
  rename_i hT;split at hq
  case h_2=>exact hq.elim
  rcases hx hp with⟨id,off,e,hi⟩ | ⟨id,i,off,e,hi⟩<;>simp only[e]at hq ⊢
  ·have b8:h id≠.none:=fun e2=>by rw[e2]at hq;exact hq
   rcases hh id hi b8 with⟨h1,h2⟩ | h2
   ·cases e3:h id<;>rw[e3]at h1 h2 hq<;>first | exact hq.elim | exact absurd rfl h2 | (cases e4:h' id<;>rw[e4]at h1<;>first | exact hq | (exfalso;revert h1;decide) | cases h1)
   rw[h2];exact hq
  have b8:h id≠.none:=fun e2=>by rw[e2]at hq;exact hq
  rcases hh id hi b8 with⟨h1,h2⟩ | h2
  ·cases e3:h id<;>rw[e3]at h1 h2 hq<;>first | exact hq.elim | exact absurd rfl h2 | (cases e4:h' id<;>rw[e4]at h1<;>first | exact hq | (exfalso;revert h1;decide) | cases h1)
  rw[h2];exact hq
 ·rename_i x aK;simp only[bV,aK]at hq ⊢;rcases hx hp with⟨id,off,e,hi⟩ | ⟨id,i,off,e,hi⟩<;>simp only[e]at hq ⊢
  ·have b8:h id≠.none:=fun e2=>by rw[e2]at hq;exact hq
   rcases hh id hi b8 with⟨h1,h2⟩ | h2
   ·cases e3:h id<;>rw[e3]at h1 h2 hq<;>first | exact hq.elim | exact absurd rfl h2 | (cases e4:h' id<;>rw[e4]at h1<;>first | exact hq | (exfalso;revert h1;decide) | cases h1)
   rw[h2];exact hq
  have b8:h id≠.none:=fun e2=>by rw[e2]at hq;exact hq
  rcases hh id hi b8 with⟨h1,h2⟩ | h2
  ·cases e3:h id<;>rw[e3]at h1 h2 hq<;>first | exact hq.elim | exact absurd rfl h2 | (cases e4:h' id<;>rw[e4]at h1<;>first | exact hq | (exfalso;revert h1;decide) | cases h1)
  rw[h2];exact hq
 cases hp
theorem GL{C:Ctx}{o:Oper}{X:List Nat}{h:Nat->AB}{v:AV}{n:Option AB}(hp:vj X o rho=true)(hq:bV C o rho h fun v' e' n'=>v'=v/\e'=e/\n'=n):n=none:=by
 unfold vj at hp;split at hp
 ·rename_i aK;simp only[bV,aK]at hq
  repeat' (split at hq)
  all_goals first | exact hq.elim | exact hq.2.2.symm
 ·rename_i aK;simp only[bV,aK]at hq
  repeat' (split at hq)
  all_goals first | exact hq.elim | exact hq.2.2.symm
 cases hp
def GM(ops:Array Oper)(o:Oper):Bool:=match o.dst with
 | some d=>!vk ops o d
 | none=>true
def GN(ops:Array Oper)(b:Array Nat):Bool:=
 (List.range ops.size).all fun j=>(match ops[j]? with
  | some oj=>(oj.after.toList.all fun e=>!Region.binds .any e||Nat.blt e.on j)&&(List.range j).all fun i=>!(b.getD j 0).testBit i||(oj.after.toList.any fun e=>Region.binds .any e&&(cq e.on i||(Nat.blt i e.on&&(b.getD e.on 0).testBit i)))
  | none=>true)
def mh(C:Ctx)(ops:Array Oper):Bool:=
 let ap:=ops.toList.any fun o=>jI C o.op;let b:=Region.before ops
 GN ops b&&(List.range ops.size).all fun j=>match ops[j]? with
  | some oj=>GM ops oj&&(List.range j).all fun i=>match ops[i]? with
   | some oi=>GH C ap ops b i j oi oj
   | none=>true
  | none=>true
def GO(ops:Array Oper)(E:Nat->Bool):Prop:=∀(j:Nat) oj,ops[j]?=some oj->E j=true->∀e∈oj.after,Region.binds .any e=true->E e.on=true
theorem Be{b:Array Nat}(h:GN ops b=true):(∀(j:Nat) oj,ops[j]?=some oj->∀e∈oj.after,Region.binds .any e=true->e.on<j)/\
  ∀(E:Nat->Bool),GO ops E->∀(j:Nat) oj,ops[j]?=some oj->(∀e∈oj.after,Region.binds .any e=true->E e.on=true)->∀i,i<j->(b.getD j 0).testBit i=true->E i=true:=by
 have hj:∀(j:Nat) oj,ops[j]?=some oj->(∀e∈oj.after,Region.binds .any e=true->e.on<j)/\∀i,i<j->(b.getD j 0).testBit i=true->∃e∈oj.after,Region.binds .any e=true/\(e.on=i\/(i<e.on/\(b.getD e.on 0).testBit i=true)):=by
  intro j oj GP;have h1:=abh.1 h j (abD.2 (ab9.1 GP).1);simp only[GP,aaZ]at h1;refine⟨fun e he hb=>?_,fun i hi ht=>?_⟩
  ·have h2:=abh.1 h1.1 e (aal.2 he);rw[hb]at h2;simp only[aaR,abv]at h2;exact abA h2
  have h2:=abh.1 h1.2 i (abD.2 hi);rw[ht]at h2;simp only[aaR,abv]at h2;obtain⟨e,he,h3⟩:=aci.1 h2;simp only[aaZ,adZ]at h3;exact⟨e,aal.1 he,h3.1,h3.2.imp a7.1 fun h=>⟨abA h.1,h.2⟩⟩
 refine⟨fun j oj GP=>(hj j oj GP).1,fun E hE j=>?_⟩
 induction j using Nat.strongRecOn with
 | _ j ih=>
  intro oj GP aeL i hi ht;obtain⟨e,he,hb,h2⟩:=(hj j oj GP).2 i hi ht;rcases h2 with h2 | h2
  ·rw[<-h2];exact aeL e he hb
  have eF:=(hj j oj GP).1 e he hb;have ln:=aeL e he hb;cases Wb:ops[e.on]? with
  | none=>
   have:e.on<ops.size:=Nat.lt_trans eF (ab9.1 GP).1;rw[aa1 this]at Wb;cases Wb
  | some oe=>exact ih e.on eF oe Wb (fun e' GQ hb'=>hE e.on oe Wb ln e' GQ hb') i h2.1 h2.2
variable {rho':Operand->AV}
theorem Ec{h:Nat->AB}:∀{ps:List (Nat×Operand)} {cs:List PV},(∀p∈ps,rho p.2=rho' p.2)->jC h fs rho ps cs=jC h fs rho' ps cs:=by
 intro ps
 induction ps with
 | nil=>intro cs _;rfl
 | cons p ps ih=>
  intro cs hp;obtain⟨i,x⟩:=p;funext K;have e:=hp (i,x) (by simp);simp only at e;simp only[jC,e];have:∀cs,jC h fs rho ps cs=jC h fs rho' ps cs:=fun cs=>ih (fun p hm=>hp p (by simp[hm]));simp only[this]
theorem Ed{h:Nat->AB}:∀{ps:List (Nat×Operand)} {cs:List AV},(∀p∈ps,rho p.2=rho' p.2)->k_ h fs rho ps cs=k_ h fs rho' ps cs:=by
 intro ps
 induction ps with
 | nil=>intro cs _;rfl
 | cons p ps ih=>
  intro cs hp;obtain⟨i,x⟩:=p;funext K;have e:=hp (i,x) (by simp);simp only at e;simp only[k_,e];have:∀cs,k_ h fs rho ps cs=k_ h fs rho' ps cs:=fun cs=>ih (fun p hm=>hp p (by simp[hm]));simp only[this]
theorem tH{b:Bool}{h:Nat->AB}{size:Nat}:∀{ps:List (Nat×Operand)} {cs:List (List PV)},(∀p∈ps,rho p.2=rho' p.2)->gG b h size rho ps cs=gG b h size rho' ps cs:=by
 intro ps
 induction ps with
 | nil=>intro cs _;rfl
 | cons p ps ih=>
  intro cs hp;obtain⟨i,x⟩:=p;funext K;have e:=hp (i,x) (by simp);simp only at e;simp only[gG,e];have:∀cs,gG b h size rho ps cs=gG b h size rho' ps cs:=fun cs=>ih (fun p hm=>hp p (by simp[hm]));simp only[this]
theorem ri{C:Ctx}{o:Oper}{h:Nat->AB}{K:KK}(hx:∀x∈o.op.operands,rho x=rho' x)(hq:bV C o rho h K):bV C o rho' h K:=by
 cases aK:o.op<;>simp only[aK,Op.operands]at hx<;>simp only[bV,aK]at hq ⊢<;>try exact hq
 case move x=>rw[<-hx x (by simp)];exact hq
 case assign x=>rw[<-hx x (by simp)];exact hq
 case pick c a b=>rw[<-hx c (by simp),<-hx a (by simp),<-hx b (by simp)];exact hq
 case box e x=>rw[<-hx x (by simp)];exact hq
 case build t ps=>
  split at hq
  ·rename_i fs _ _ _ _ hT;split at hq
   ·rename_i h1;rw[<-Ec (rho:=rho) (rho':=rho') (fun p hp=>hx p.2 (by simp;exact⟨p.1,aal.1 hp⟩))];exact hq
   rename_i h1;rw[<-Ed (rho:=rho) (rho':=rho') (fun p hp=>hx p.2 (by simp;exact⟨p.1,aal.1 hp⟩))];exact hq
  exact hq
 case buildSlice t n ps=>
  split at hq
  ·split at hq
   ·split at hq
    ·split at hq
     ·rw[<-tH (rho:=rho) (rho':=rho') (fun p hp=>hx p.2 (by simp;exact⟨p.1,aal.1 hp⟩))];exact hq
     rw[<-tH (rho:=rho) (rho':=rho') (fun p hp=>hx p.2 (by simp;exact⟨p.1,aal.1 hp⟩))];exact hq
    exact hq
   exact hq
  exact hq
 case load t x=>rw[<-hx x (by simp)];exact hq
 case store t x y=>rw[<-hx x (by simp),<-hx y (by simp)];exact hq
 case nilCheck x=>rw[<-hx x (by simp)];exact hq
 case binOp op t x y t'=>rw[<-hx x (by simp),<-hx y (by simp)];exact hq
 case unOp op t x=>rw[<-hx x (by simp)];exact hq
 case convert s d x=>rw[<-hx x (by simp)];exact hq
 case makeFunc fn first cap=>
  cases fn with
  | func f=>
   have:cap.toList.map rho=cap.toList.map rho':=aaG fun x hm=>hx x (by simp[aal.1 hm]);simp only[this]at hq;exact hq
  | _=>exact hq
 case makeSlice t x y=>rw[<-hx x (by simp),<-hx y (by simp)];exact hq
 case slice t x lo hi mx=>
  cases mx with
  | some m=>exact hq
  | none=>
   have e0:=hx x (by simp);have e1:∀y,lo=some y->rho y=rho' y:=fun y hy=>hx y (by simp[hy]);have e2:∀y,hi=some y->rho y=rho' y:=fun y hy=>hx y (by simp[hy]);have hs:gm C rho h t x lo hi K=gm C rho' h t x lo hi K:=by
    unfold gm;rw[e0];cases lo<;>cases hi<;>simp only[Option.some.injEq,forall_eq',forall_eq,reduceCtorEq,false_implies,implies_true]at e1 e2<;>simp only[e1,e2]
   have hv:∀id e' es,td C rho t lo hi id e' es K=td C rho' t lo hi id e' es K:=fun id e' es=>by
    unfold td;cases lo<;>cases hi<;>simp only[Option.some.injEq,forall_eq',forall_eq,reduceCtorEq,false_implies,implies_true]at e1 e2<;>simp only[e1,e2]
   simp only at hq ⊢;simp only[<-e0,<-hs,<-hv];exact hq
 case makeMap t r=>cases r<;>exact hq
 case lookup t x i ck=>rw[<-hx x (by simp),<-hx i (by simp)];exact hq
 case mapUpdate t x i y=>rw[<-hx x (by simp),<-hx i (by simp),<-hx y (by simp)];exact hq
 case fieldAddr t x f=>rw[<-hx x (by simp)];exact hq
 case field t x f=>rw[<-hx x (by simp)];exact hq
 case indexAddr t x y=>rw[<-hx x (by simp),<-hx y (by simp)];exact hq
 case index t x y=>rw[<-hx x (by simp),<-hx y (by simp)];exact hq
 case extract x i=>rw[<-hx x (by simp)];exact hq
 case call c=>
  have hm:c.args.toList.map rho=c.args.toList.map rho':=aaG fun x DW=>hx x (by simp[Call.operands,aal.1 DW]);have ha:∀x∈c.args.toList,rho x=rho' x:=fun x DW=>hx x (by simp[Call.operands,aal.1 DW]);split at hq
  ·split at hq
   ·rename_i h1 h2;simp only[h1,h2]at *;rw[<-ha _ (by simp)];exact hq
   exact hq
  ·split at hq
   ·rename_i h1 h2;simp only[h1,h2]at *;rw[<-ha _ (by simp)];exact hq
   exact hq
  ·split at hq
   ·rename_i h1;simp only[h1]at *;rw[<-ha _ (by simp),<-ha _ (by simp)];exact hq
   exact hq
  ·split at hq
   ·rename_i h1;simp only[h1]at *;rw[<-ha _ (by simp),<-ha _ (by simp)];exact hq
   ·rename_i h1;simp only[h1]at *;rw[<-ha _ (by simp),<-ha _ (by simp),<-ha _ (by simp)];exact hq
   ·rename_i h1;simp only[h1]at *;rw[<-ha _ (by simp),<-ha _ (by simp),<-ha _ (by simp),<-ha _ (by simp),<-ha _ (by simp)];exact hq
   exact hq
  ·split at hq
   ·rename_i h1 h2;simp only[h1,h2]at *;rw[<-ha _ (by simp),<-ha _ (by simp)];exact hq
   exact hq
  ·rename_i g hc;have hc':c.callee=.value g:=by
    cases Xq:c.callee with
    | value g'=>rw[Xq]at hc;simp only[aeC]at hc;injection hc with hc;rw[hc]
    | invoke r m=>rw[Xq]at hc;cases hc
    | builtin b=>rw[Xq]at hc;cases b<;>cases hc
   have hg:=hx g (by simp[Call.operands,hc']);rw[<-hg,<-hm];exact hq
  exact hq
end Go.AM
namespace Go.AM
open Go.RowKit
theorem vn{h h':Nat->AB}{id:Nat}:∀(fe:List (Nat×AB)) ,h id=h' id->app h fe id=app h' fe id:=by
 intro fe
 induction fe generalizing h h' with
 | nil=>intro e;exact e
 | cons x fe ih=>
  intro e;refine ih ?_;by_cases hx:id=x.1
  ·rw[hx,aH,aH]
  rw[aV _ _ hx,aV _ _ hx];exact e
theorem kq{h:Nat->AB}:∀{fe:List (Nat×AB)},iw h fe=true->∀p∈fe,(h p.1).there:=by
 intro fe
 induction fe with
 | nil=>intro _ p hp;cases hp
 | cons x fe ih=>
  intro hh p hp;simp only[iw,aaZ]at hh;rcases adq.1 hp with e | e
  ·subst e;have:=hh.1;cases hx:h p.1<;>rw[hx]at this<;>first | trivial | (simp[Mi]at this)
  exact ih hh.2 p e
def Hn(B:Nat->AB)(r:Nat->RR)(E:Nat->Bool):Nat->Nat->AB
 | 0=>B
 | i+1=>match E i with
  | true=>app (Hn B r E i) (r i).eff
  | false=>Hn B r E i
theorem QJ{B:Nat->AB}{r:Nat->RR}{E:Nat->Bool}(i:Nat):∀(m:Nat),(∀k,k<m->(E k=true↔k<i)\/(r k).eff=[])->i<=m->Hn B r E m=Hn B r (fun _=>true) i:=by
 have low:∀m,m<=i->(∀k,k<m->(E k=true↔k<i)\/(r k).eff=[])->Hn B r E m=Hn B r (fun _=>true) m:=by
  intro m
  induction m with
  | zero=>intro _ _;rfl
  | succ m ih=>
   intro hm hk;have h1:=ih (by omega) (fun k xA=>hk k (by omega));simp only[Hn];rw[h1];rcases hk m (by omega) with h | h
   ·rw[h.2 (by omega)]
   rw[h];cases E m<;>rfl
 intro m
 induction m with
 | zero=>
      intro _ hi;have:i=0:=by omega
      subst this;rfl
 | succ m ih=>
  intro hk hi;by_cases e:i=m+1
  ·subst e;exact low (m+1) (aam _) hk
  have h1:=ih (fun k xA=>hk k (by omega)) (by omega);rw[<-h1];simp only[Hn];rcases hk m (by omega) with h | h
  ·have:E m=false:=by rw[aaV];intro ht;have:=h.1 ht;omega
   rw[this]
  rw[h];cases E m<;>rfl
theorem R_{B:Nat->AB}{r:Nat->RR}{E:Nat->Bool}{i:Nat}(hi:E i=false):∀(m:Nat),(∀k,i<k->k<m->E k=true->(r k).eff=[])->i<m->Hn B r (fun k=>E k||cq k i) m=app (Hn B r E m) (r i).eff:=by
 have low:∀m,m<=i->Hn B r (fun k=>E k||cq k i) m=Hn B r E m:=by
  intro m
  induction m with
  | zero=>intro _;rfl
  | succ m ih=>
   intro hm;have:cq m i=false:=by rw[aaV];intro h;have:=a7.1 h;omega
   simp only[Hn,this,abo];rw[ih (by omega)]
 intro m
 induction m with
 | zero=>intro _ h;omega
 | succ m ih=>
  intro hk eF;by_cases e:m=i
  ·subst e;simp only[Hn,hi,a7.2 rfl,ads];rw[low m (aam _)]
  have h1:=ih (fun k h1 h2=>hk k h1 (by omega)) (by omega);have:cq m i=false:=by rw[aaV];intro h;exact e (a7.1 h)
  simp only[Hn,this,abo];rw[h1];cases hE:E m with
  | false=>rfl
  | true=>rw[hk m (by omega) (by omega) hE];rfl
theorem Mo(C:Ctx)(ap:Bool)(op:Op):cls C ap op<=3:=by
 unfold cls;split<;>first | decide | skip
 all_goals (cases ap<;>first | decide | skip)
 all_goals (split<;>first | decide | skip)
 all_goals (split<;>decide)
theorem Mp(C:Ctx)(op:Op):cls C true op≠1:=by
 unfold cls;split<;>first | decide | skip
 all_goals (split<;>first | decide | skip)
 all_goals (split<;>decide)
theorem J6{C:Ctx}{ap:Bool}{o:Oper}{rho:Operand->AV}{h:Nat->AB}{K:KK}(hc:cls C ap o.op<=1)(hq:bV C o rho h K):∃v e,K v e none:=by
 cases aK:o.op<;>rw[aK]at hc<;>simp only[bV,aK]at hq
 case move x=>exact⟨_,_,hq⟩
 case assign x=>exact⟨_,_,hq⟩
 case pick c a b=>
  split at hq
  ·split at hq<;>exact⟨_,_,hq⟩
  exact hq.elim
 case binOp op t x y t'=>
  split at hq
  ·obtain⟨v,h1,_⟩:=D2 hq;exact⟨_,_,h1⟩
  ·obtain⟨v,h1,_⟩:=D1 hq;exact⟨_,_,h1⟩
  exact hq.elim
 case unOp op t x=>
  split at hq
  ·exact⟨_,_,hq⟩
  ·obtain⟨v,h1,_⟩:=n9 hq;exact⟨_,_,h1⟩
  exact hq.elim
 case convert s d x=>
  split at hq
  ·obtain⟨v,h1,_⟩:=n9 hq;exact⟨_,_,h1⟩
  ·exact⟨_,_,hq⟩
  ·exact⟨_,_,hq⟩
  exact hq.elim
 case extract x i=>
  split at hq
  ·split at hq
   ·exact⟨_,_,hq⟩
   exact hq.elim
  exact hq.elim
 case index t x y=>
  split at hq
  ·obtain⟨b,_,hq⟩:=hq;exact⟨_,_,hq⟩
  exact hq.elim
 case field t x f=>
  split at hq
  ·split at hq
   ·split at hq
    ·split at hq
     ·exact⟨_,_,hq⟩
     exact hq.elim
    split at hq
    ·exact⟨_,_,hq⟩
    exact hq.elim
   exact hq.elim
  exact hq.elim
 case makeFunc fn first cap=>
  cases fn with
  | func f=>
   simp only at hq;split at hq
   ·exact⟨_,_,hq⟩
   exact hq.elim
  | _=>exact hq.elim
 case fieldAddr t x f=>
  split at hq
  ·split at hq
   ·split at hq
    ·exact⟨_,_,hq⟩
    ·split at hq
     ·exact hq.elim
     exact⟨_,_,hq⟩
    ·split at hq
     ·exact⟨_,_,hq⟩
     ·exact⟨_,_,hq⟩
     exact hq.elim
    exact hq.elim
   exact hq.elim
  exact hq.elim
 case nilCheck x=>
  split at hq
  ·exact⟨_,_,hq⟩
  ·split at hq
   ·exact⟨_,_,hq⟩
   ·exact⟨_,_,hq⟩
   exact hq.elim
  ·split at hq
   ·exact⟨_,_,hq⟩
   ·exact⟨_,_,hq⟩
   exact hq.elim
  exact hq.elim
 case call c=>
  simp only[cls]at hc;split at hc
  ·exact absurd hc (by decide)
  ·exact absurd hc (by decide)
  ·rename_i h1;simp only[h1,aeC,fy]at hq;split at hq
   ·split at hq
    ·exact⟨_,_,hq⟩
    exact hq.elim
   exact hq.elim
  ·rename_i h1;simp only[h1,aeC,fy]at hq;split at hq
   ·split at hq
    ·exact⟨_,_,hq⟩
    exact hq.elim
   ·split at hq
    ·exact⟨_,_,hq⟩
    exact hq.elim
   ·split at hq
    ·exact⟨_,_,hq⟩
    exact hq.elim
   exact hq.elim
  ·split at hc<;>exact absurd hc (by decide)
  ·exact absurd hc (by decide)
  exact absurd hc (by decide)
 all_goals exact absurd hc (by simp[cls])
theorem O6{C:Ctx}{ap:Bool}{o:Oper}{rho:Operand->AV}{h:Nat->AB}{v:AV}{e:List (Nat×AB)}{n:Option AB}{b:AB}(hq:bV C o rho h fun v' e' n'=>v'=v/\e'=e/\n'=n)(hn:some b=n):cls C ap o.op=3\/cls C ap o.op=2:=by
 have hle:=Mo C ap o.op;by_cases h1:cls C ap o.op<=1
 ·obtain⟨_,_,_,_,h2⟩:=J6 h1 hq;rw[<-h2]at hn;cases hn
 omega
section
variable {C:Ctx} {ops:Array Oper} {st:Nat->AS} {r:Nat->RR} {ap:Bool} {X:List Nat}
theorem Ur{B:Nat->AB}{r:Nat->RR}{E:Nat->Bool}{d:Nat}(i:Nat):∀(m:Nat),(∀k,k<m->(E k=true↔k<i)\/∀p∈(r k).eff,p.1≠d)->i<=m->Hn B r E m d=Hn B r (fun _=>true) i d:=by
 have low:∀m,m<=i->(∀k,k<m->(E k=true↔k<i)\/∀p∈(r k).eff,p.1≠d)->Hn B r E m d=Hn B r (fun _=>true) m d:=by
  intro m
  induction m with
  | zero=>intro _ _;rfl
  | succ m ih=>
   intro hm hk;have h1:=ih (by omega) (fun k xA=>hk k (by omega));simp only[Hn];rcases hk m (by omega) with h | h
   ·rw[h.2 (by omega)];exact vn _ h1
   cases E m with
   | true=>exact vn _ h1
   | false=>exact h1.trans (iA h).symm
 intro m
 induction m with
 | zero=>
      intro _ hi;have:i=0:=by omega
      subst this;rfl
 | succ m ih=>
  intro hk hi;by_cases e:i=m+1
  ·subst e;exact low (m+1) (aam _) hk
  have h1:=ih (fun k xA=>hk k (by omega)) (by omega);rw[<-h1];simp only[Hn];rcases hk m (by omega) with h | h
  ·have:E m=false:=by rw[aaV];intro ht;have:=h.1 ht;omega
   rw[this]
  cases E m with
  | true=>exact iA h
  | false=>rfl
structure O7(C:Ctx)(ap:Bool)(ops:Array Oper)(i j:Nat)(oi oj:Oper):Prop where
 dst:∀x,oi.dst=some x->oj.dst≠some x
 war:∀d,oj.dst=some d->d∈oi.looksAt ops->((Region.before ops).getD j 0).testBit i=true
 raw:∀d,oi.dst=some d->d∈oj.looksAt ops->((Region.before ops).getD j 0).testBit i=true
 w3:cls C ap oj.op=3->cls C ap oi.op=3->((Region.before ops).getD j 0).testBit i=true
theorem ae7(hok:mh C ops=true):GN ops (Region.before ops)=true/\(∀(j:Nat) oj,ops[j]?=some oj->∀d,oj.dst=some d->d ∉ oj.looksAt ops)/\
  ∀(i j:Nat) oi oj,i<j->ops[i]?=some oi->ops[j]?=some oj->O7 C (ops.toList.any fun o=>jI C o.op) ops i j oi oj:=by
 simp only[mh,aaZ]at hok;obtain⟨h1,h2⟩:=hok;have hj:∀(j:Nat) oj,ops[j]?=some oj->GM ops oj=true/\∀(i:Nat) oi,i<j->ops[i]?=some oi->GH C (ops.toList.any fun o=>jI C o.op) ops (Region.before ops) i j oi oj=true:=by
  intro j oj GP;have h3:=abh.1 h2 j (abD.2 (ab9.1 GP).1);simp only[GP,aaZ]at h3;refine⟨h3.1,fun i oi hi Xr=>?_⟩;have h4:=abh.1 h3.2 i (abD.2 hi);simp only[Xr]at h4;exact h4
 refine⟨h1,fun j oj GP d hd=>?_,fun i j oi oj DX Xr GP=>?_⟩
 ·have:=(hj j oj GP).1;simp only[GM,hd,vk]at this;simpa using this
 have h3:=(hj j oj GP).2 i oi DX Xr;simp only[GH,aaZ]at h3;obtain⟨⟨⟨p1,p2⟩,p3⟩,p4⟩:=h3;refine⟨fun x hx hy=>?_,fun d hd hm=>?_,fun d hd hm=>?_,fun hc hi=>?_⟩
 ·simp only[hx,hy,a7.2 rfl,aaR]at p1;cases p1
 ·simp only[hd,vk]at p2;have H8:(oi.looksAt ops).contains d=true:=by simpa using hm
  rw[H8]at p2;simpa using p2
 ·simp only[hd,vk]at p3;have H8:(oj.looksAt ops).contains d=true:=by simpa using hm
  rw[H8]at p3;simpa using p3
 rw[aap hc,aap hi]at p4;exact p4
theorem GR(hok:mh C ops=true)(H:∀(i:Nat) o,ops[i]?=some o->DStep C ap ops.toList o (st i) (r i) (st (i+1))){i:Nat}{o:Oper}(ho:ops[i]?=some o){d:Tmp}(hd:o.dst=some d):∀k,i+1<=k->k<=ops.size->(st k).t d=(r i).v:=by
 obtain⟨_,hs,hp⟩:=ae7 hok;intro k
 induction k with
 | zero=>intro h;omega
 | succ k ih=>
  intro O8 hk;by_cases e:i=k
  ·subst e;rw[(H i o ho).next,hd];exact aH _ _ _
  have h1:=ih (by omega) (by omega);have Ee:ops[k]?=some ops[k]:=aa1 (by omega);rw[(H k _ Ee).next];show fx (st k).t _ _ d=_;have b8:=(hp i k o _ (by omega) ho Ee).dst d hd;cases Ba:ops[k].dst with
  | none=>exact h1
  | some d'=>rw[fx,aV _ _ (fun e=>b8 (by rw[Ba,e]))];exact h1
theorem CB(H:∀(i:Nat) o,ops[i]?=some o->DStep C ap ops.toList o (st i) (r i) (st (i+1))){x:Nat}(hx:∀(k:Nat) o,ops[k]?=some o->o.dst≠some x):∀k,k<=ops.size->(st k).t x=(st 0).t x:=by
 intro k
 induction k with
 | zero=>intro _;rfl
 | succ k ih=>
  intro hk;have Ee:ops[k]?=some ops[k]:=aa1 (by omega);rw[(H k _ Ee).next];show fx (st k).t _ _ x=_;cases Ba:ops[k].dst with
  | none=>exact ih (by omega)
  | some d'=>rw[fx,aV _ _ (fun e=>hx k _ Ee (by rw[Ba,e]))];exact ih (by omega)
theorem J7(hok:mh C ops=true)(H:∀(i:Nat) o,ops[i]?=some o->DStep C ap ops.toList o (st i) (r i) (st (i+1))){j:Nat}{o:Oper}(ho:ops[j]?=some o){d:Tmp}(hd:o.dst=some d):∀k,k<=j->(st k).t d=(st 0).t d:=by
 obtain⟨_,hs,hp⟩:=ae7 hok;have hj:=(ab9.1 ho).1;intro k
 induction k with
 | zero=>intro _;rfl
 | succ k ih=>
  intro hk;have Ee:ops[k]?=some ops[k]:=aa1 (by omega);rw[(H k _ Ee).next];show fx (st k).t _ _ d=_;cases Ba:ops[k].dst with
  | none=>exact ih (by omega)
  | some d'=>rw[fx,aV _ _ (fun e=>(hp k j _ o (by omega) Ee ho).dst d' Ba (by rw[hd,e]))];exact ih (by omega)
def J8(ops:Array Oper)(r:Nat->RR)(k d:Nat)(b:AB):Prop:=∃o,ops[k]?=some o/\o.dst=some d/\(r k).new=some b
def ja(ops:Array Oper)(r:Nat->RR)(i d:Nat):Prop:=∃k b,i<=k/\J8 ops r k d b
theorem sF(hok:mh C ops=true)(H:∀(i:Nat) o,ops[i]?=some o->DStep C ap ops.toList o (st i) (r i) (st (i+1))){B:Nat->AB}(J9:∀k d b,J8 ops r k d b->B d=b)(Bf:∀d,¬ja ops r 0 d->B d=(st 0).h d)(h0:∀d,ja ops r 0 d->(st 0).h d=.none):
  ∀i,i<=ops.size->∀d,(ja ops r i d->(st i).h d=.none/\Hn B r (fun _=>true) i d=B d)/\(¬ja ops r i d->(st i).h d=Hn B r (fun _=>true) i d):=by
 obtain⟨_,hs,hp⟩:=ae7 hok;intro i
 induction i with
 | zero=>intro _ d;exact⟨fun h=>⟨h0 d h,rfl⟩,fun h=>(Bf d h).symm⟩
 | succ i ih=>
  intro hi d;have ih:=ih (by omega);have ho:ops[i]?=some ops[i]:=aa1 (by omega);have D:=H i _ ho;have hth:=kq D.there;have Xt:Hn B r (fun _=>true) (i+1)=app (Hn B r (fun _=>true) i) (r i).eff:=rfl;have xl:(st (i+1)).h=qd (app (st i).h (r i).eff) (ops[i].dst.getD 0) (r i).new:=by rw[D.next]
  have out:ja ops r i d->∀p∈(r i).eff,p.1≠d:=fun Bg p QK e=>by
   have h1:=hth p QK;rw[e,((ih d).1 Bg).1]at h1;exact h1
  have Us:∀b,(r i).new=some b->∃d',ops[i].dst=some d':=fun b hb=>by
   have:=D.ndst;rw[hb]at this;cases hd:ops[i].dst with
   | none=>rw[hd]at this;cases this
   | some d'=>exact⟨d',rfl⟩
  refine⟨fun Bg=>?_,fun Bg=>?_⟩
  ·have O9:ja ops r i d:=by obtain⟨k,b,h1,h2⟩:=Bg;exact⟨k,b,by omega,h2⟩
   obtain⟨h1,h2⟩:=(ih d).1 O9;refine⟨?_,by rw[Xt,iA (out O9)];exact h2⟩;rw[xl];cases hn:(r i).new with
   | none=>show app _ _ d=_;rw[iA (out O9)];exact h1
   | some b=>
    obtain⟨d',Ba⟩:=Us b hn;rw[Ba];show aT _ d' b d=_;have b8:d≠d':=fun e=>by
     obtain⟨k,b',h3,o',h4,h5,h6⟩:=Bg;exact (hp i k _ o' (by omega) ho h4).dst d' Ba (by rw[h5,e])
    rw[aV _ _ b8,iA (out O9)];exact h1
  by_cases hc:∃b,J8 ops r i d b
  ·obtain⟨b,hc⟩:=hc;have O9:ja ops r i d:=⟨i,b,aam _,hc⟩;obtain⟨o',h4,h5,h6⟩:=hc;rw[ho]at h4;injection h4 with h4;rw[xl,Xt,iA (out O9),((ih d).1 O9).2,h6,h4,h5,J9 i d b ⟨o',by rw[ho,h4],h5,h6⟩];exact aH _ _ _
  have O9:¬ja ops r i d:=fun ⟨k,b,h1,h2⟩=>by
   by_cases e:k=i
   ·subst e;exact hc ⟨b,h2⟩
   exact Bg ⟨k,b,by omega,h2⟩
  have h1:=(ih d).2 O9;rw[xl,Xt,<-vn (r i).eff h1];cases hn:(r i).new with
  | none=>rfl
  | some b=>
   obtain⟨d',Ba⟩:=Us b hn;rw[Ba];show aT _ d' b d=_;rw[aV _ _ (fun e=>hc ⟨b,_,ho,by rw[Ba,e],hn⟩)]
def KC(b b':AB):Prop:=b'=b\/(∃e es de,b=.row e es/\b'=.row e de)\/(∃cs mZ,b=.box cs/\b'=.box mZ)\/(∃mk es mk' de,b=.map mk es/\b'=.map mk' de)
theorem KC.trans{a b c:AB}(h:KC a b)(k:KC b c):KC a c:=by
 rcases h with rfl | ⟨e,es,de,rfl,rfl⟩ | ⟨cs,mZ,rfl,rfl⟩ | ⟨m,es,m',de,rfl,rfl⟩
 ·exact k
 ·rcases k with rfl | ⟨e',fs,Sa,h1,rfl⟩ | ⟨cs,mZ,h1,rfl⟩ | ⟨_,_,_,_,h1,rfl⟩
  ·exact .inr (.inl ⟨_,_,_,rfl,rfl⟩)
  ·injection h1 with h1 h2;subst h1;exact .inr (.inl ⟨_,_,_,rfl,rfl⟩)
  ·cases h1
  cases h1
 ·rcases k with rfl | ⟨e',fs,Sa,h1,rfl⟩ | ⟨ds,Xu,h1,rfl⟩ | ⟨_,_,_,_,h1,rfl⟩
  ·exact .inr (.inr (.inl ⟨_,_,rfl,rfl⟩))
  ·cases h1
  ·exact .inr (.inr (.inl ⟨_,_,rfl,rfl⟩))
  cases h1
 rcases k with rfl | ⟨e',fs,Sa,h1,rfl⟩ | ⟨ds,Xu,h1,rfl⟩ | ⟨_,_,_,_,h1,rfl⟩
 ·exact .inr (.inr (.inr ⟨_,_,_,_,rfl,rfl⟩))
 ·cases h1
 ·cases h1
 exact .inr (.inr (.inr ⟨_,_,_,_,rfl,rfl⟩))
theorem Mq{b b':AB}(h:Mh b b'=true):KC b b':=by
 cases b<;>cases b'<;>first | (simp[Mh]at h;done) | skip
 ·have:=a7.1 h;subst this;exact .inr (.inl ⟨_,_,_,rfl,rfl⟩)
 ·exact .inr (.inr (.inl ⟨_,_,rfl,rfl⟩))
 exact .inr (.inr (.inr ⟨_,_,_,_,rfl,rfl⟩))
theorem tI{h:Nat->AB}:∀{fe:List (Nat×AB)},kj h fe=true->∀p∈fe,KC (h p.1) p.2:=by
 intro fe
 induction fe with
 | nil=>intro _ p hp;cases hp
 | cons x fe ih=>
  intro hh p hp;simp only[kj,aaZ]at hh;rcases adq.1 hp with e | e
  ·subst e;exact Mq hh.1
  exact ih hh.2 p e
theorem yz(hok:mh C ops=true)(H:∀(i:Nat) o,ops[i]?=some o->DStep C ap ops.toList o (st i) (r i) (st (i+1)))(Tx:ap=false){B:Nat->AB}(J9:∀k d b,J8 ops r k d b->B d=b)(Bf:∀d,¬ja ops r 0 d->B d=(st 0).h d)(h0:∀d,ja ops r 0 d->(st 0).h d=.none)(E:Nat->Bool):
  ∀m,m<=ops.size->∀d,KC (B d) (Hn B r E m d):=by
 have hh:=sF hok H J9 Bf h0;have canon:∀m,m<=ops.size->∀d,KC (B d) (Hn B r (fun _=>true) m d):=by
  intro m
  induction m with
  | zero=>intro _ d;exact .inl rfl
  | succ m ih=>
   intro hm d;have ho:ops[m]?=some ops[m]:=aa1 (by omega);have D:=H m _ ho;show KC (B d) (app (Hn B r (fun _=>true) m) (r m).eff d);rcases aeF (r m).eff (Hn B r (fun _=>true) m) d with⟨b,h1,h2⟩ | ⟨_,h2⟩
   ·rw[h2];have hk:=tI (D.kind Tx) _ h1;have ht:=kq D.there _ h1;have Xv:¬ja ops r m d:=fun hp=>by rw[((hh m (by omega) d).1 hp).1]at ht;exact ht
    rw[(hh m (by omega) d).2 Xv]at hk;exact (ih (by omega) d).trans hk
   rw[h2];exact ih (by omega) d
 intro m
 induction m with
 | zero=>intro _ d;exact .inl rfl
 | succ m ih=>
  intro hm d;have ho:ops[m]?=some ops[m]:=aa1 (by omega);have D:=H m _ ho;simp only[Hn];cases E m with
  | false=>exact ih (by omega) d
  | true=>
   show KC (B d) (app (Hn B r E m) (r m).eff d);rcases aeF (r m).eff (Hn B r E m) d with⟨b,h1,h2⟩ | ⟨_,h2⟩
   ·rw[h2];have hk:=tI (D.kind Tx) _ h1;have ht:=kq D.there _ h1;have Xv:¬ja ops r m d:=fun hp=>by rw[((hh m (by omega) d).1 hp).1]at ht;exact ht
    rw[(hh m (by omega) d).2 Xv]at hk;exact (canon m (by omega) d).trans hk
   rw[h2];exact ih (by omega) d
def VE(ops:Array Oper)(E:Nat->Bool)(x:Nat):Prop:=∀(k:Nat) o,ops[k]?=some o->o.dst=some x->E k=true
open Classical in
noncomputable def TE(ops:Array Oper)(st:Nat->AS)(E:Nat->Bool)(x:Nat):AV:=if VE ops E x then (st ops.size).t x else (st 0).t x
def LE(ops:Array Oper)(r:Nat->RR)(E:Nat->Bool)(d:Nat):Prop:=∀k b,J8 ops r k d b->E k=true
variable {id:Nat}
theorem Mr{h:Nat->AB}{c:Nat}:∀{eff:List (Nat×AB)},(∀p∈eff,p.1=id->kc p.2=c)->kc (h id)=c->kc (app h eff id)=c:=by
 intro eff
 induction eff generalizing h with
 | nil=>intro _ h2;exact h2
 | cons p r ih=>
  intro h1 h2;obtain⟨q,b⟩:=p;refine ih (h:=aT h q b) (fun p hp e=>h1 p (aaw _ hp) e) ?_;by_cases e:id=q
  ·subst e;rw[aH];exact h1 _ adU rfl
  rw[aV _ _ e];exact h2
theorem GS{X:List Nat}{h:Nat->AB}(hid:Av X (id+1000000)=true):∀{eff:List (Nat×AB)},tG X h eff=true->∀p∈eff,p.1=id->kc p.2=kc (h id)/\kc (h id)≠0:=by
 intro eff
 induction eff with
 | nil=>intro _ p hp;cases hp
 | cons q r ih=>
  intro hk p hp e;obtain⟨i,b⟩:=q;unfold tG at hk;split at hk
  ·rename_i hi;simp only[aaZ,ael]at hk;obtain⟨k1,k2,k3⟩:=hk;rcases adq.1 hp with rfl | hp
   ·simp only at e;subst e;exact⟨aa2 k1,fun e0=>by rw[e0]at k2;cases k2⟩
   exact ih k3 p hp e
  rename_i hi;rcases adq.1 hp with rfl | hp
  ·simp only at e;subst e;rw[hid]at hi;cases hi
  exact ih hk p hp e
theorem Ms{X:List Nat}(hok:mh C ops=true)(H:∀(i:Nat) o,ops[i]?=some o->DStep C ap ops.toList o (st i) (r i) (st (i+1)))(Mt:∀k,k<ops.size->tG X (st k).h (r k).eff=true){B:Nat->AB}(hh:∀i,i<=ops.size->∀d,(ja ops r i d->(st i).h d=.none/\Hn B r (fun _=>true) i d=B d)/\(¬ja ops r i d->(st i).h d=Hn B r (fun _=>true) i d))(E:Nat->Bool){i:Nat}(hid:Av X (id+1000000)=true)(hi:i<=ops.size)(b8:(st i).h id≠.none):
  (kc (Hn B r E ops.size id)=kc ((st i).h id)/\kc ((st i).h id)≠0)\/Hn B r E ops.size id=(st i).h id:=by
 have Xw:∀k,k<=ops.size->(st k).h id≠.none->(st k).h id=Hn B r (fun _=>true) k id:=fun k hk h=>by
  by_cases hp:ja ops r k id
  ·exact absurd ((hh k hk id).1 hp).1 h
  exact (hh k hk id).2 hp
 have Xx:∀{b:AB},kc b≠0->b≠.none:=fun hb e=>by rw[e]at hb;exact hb rfl
 have spec:∀m,m<ops.size->∀p∈(r m).eff,p.1=id->kc p.2=kc (Hn B r (fun _=>true) m id)/\kc (Hn B r (fun _=>true) m id)≠0:=fun m hm p hp e=>by
  obtain⟨h1,h2⟩:=GS hid (Mt m hm) p hp e;rw[Xw m (by omega) (Xx h2)]at h1 h2;exact⟨h1,h2⟩
 by_cases ht:∃k,k<ops.size/\∃p∈(r k).eff,p.1=id
 ·left;have same:∀m,m<=ops.size->kc (Hn B r (fun _=>true) m id)=kc (B id):=by
   intro m
   induction m with
   | zero=>intro _;rfl
   | succ m ih=>
    intro hm;have:=ih (by omega);show kc (app (Hn B r (fun _=>true) m) (r m).eff id)=_;exact Mr (fun p hp e=>(spec m (by omega) p hp e).1.trans this) this
  have any:∀m,m<=ops.size->kc (Hn B r E m id)=kc (B id):=by
   intro m
   induction m with
   | zero=>intro _;rfl
   | succ m ih=>
    intro hm;simp only[Hn];cases E m with
    | false=>exact ih (by omega)
    | true=>exact Mr (fun p hp e=>(spec m (by omega) p hp e).1.trans (same m (by omega))) (ih (by omega))
  obtain⟨k,hk,p,hp,e⟩:=ht;have h0:=(spec k hk p hp e).2;rw[same k (by omega)]at h0;have hs:kc ((st i).h id)=kc (B id):=by rw[Xw i hi b8];exact same i hi
  exact⟨by rw[any _ (aam _),hs],by rw[hs];exact h0⟩
 right;have un:∀(F:Nat->Bool) m,m<=ops.size->Hn B r F m id=B id:=by
  intro F m
  induction m with
  | zero=>intro _;rfl
  | succ m ih=>
   intro hm;simp only[Hn];cases F m with
   | false=>exact ih (by omega)
   | true=>
    show app (Hn B r F m) (r m).eff id=_;rw[iA fun p hp' e=>ht ⟨m,by omega,p,hp',e⟩];exact ih (by omega)
 rw[un E _ (aam _),Xw i hi b8,un _ i hi]
theorem O_{A:cD}(hC:bI A.C)(Tx:ap=ops.toList.any fun o=>jI A.C o.op)(hok:mh A.C ops=true)(hd:∀o∈ops.toList,kP o A.n)(H:∀(i:Nat) o,ops[i]?=some o->DStep A.C ap ops.toList o (st i) (r i) (st (i+1)))(G:∀(i:Nat) o,ops[i]?=some o->yx A.C ap X (ji A.C ap ops) o (st i) (r i) i){B:Nat->AB}(J9:∀k d b,J8 ops r k d b->B d=b)(Bf:∀d,¬ja ops r 0 d->B d=(st 0).h d)(h0:∀d,ja ops r 0 d->(st 0).h d=.none)
  {E:Nat->Bool} (hE:GO ops E) {i:Nat} {o:Oper} (ho:ops[i]?=some o) (hi:E i=false) (aeL:∀e∈o.after,Region.binds .any e=true->E e.on=true) {S:Nat->Prop} {rho:Nat->Value} {a:Act} {w:World} (sim:b7 A cE (LE ops r E) S rho ⟨TE ops st E,Hn B r E ops.size⟩ a w)
  {Q:Exit->Act->World->Prop} {next:Act->World->Prop} (hnext:∀S' rho' a' w',b7 A cE (LE ops r fun k=>E k||cq k i) S' rho' ⟨TE ops st (fun k=>E k||cq k i),Hn B r (fun k=>E k||cq k i) ops.size⟩ a' w'->next a' w'):wpOp A.C.P ops Q i next a w:=by
 obtain⟨Mu,hs,hp⟩:=ae7 hok;rw[<-Tx]at hp;obtain⟨QL,Ut⟩:=Be Mu;have s_:i<ops.size:=(ab9.1 ho).1;have hh:=sF hok H J9 Bf h0;have D:=H i o ho;have O1:kP o A.n:=hd o (aad (by simpa using ho));have bits:∀k,k<i->((Region.before ops).getD i 0).testBit k=true->E k=true:=Ut E hE i o ho aeL;have later:∀(k:Nat) ok,ops[k]?=some ok->i<k->((Region.before ops).getD k 0).testBit i=true->E k=false:=by
  intro k ok hk O8 Xy;rw[aaV];intro Ef;have:=Ut E hE k ok hk (fun e he hb=>hE k ok hk Ef e he hb) i O8 Xy;rw[hi]at this;cases this
 have Bh:∀x,x∈o.looksAt ops->TE ops st E x=(st i).t x:=by
  intro x hx;unfold TE;split
  ·rename_i hv;by_cases hw:∃(k:Nat) (ok:Oper),ops[k]?=some ok/\ok.dst=some x
   ·obtain⟨k,ok,hk,CC⟩:=hw;have DK:=(ab9.1 hk).1;rcases ada k i with h | h | h
    ·rw[GR hok H hk CC ops.size (by omega) (aam _),GR hok H hk CC i (by omega) (by omega)]
    ·subst h;rw[ho]at hk;injection hk with hk;subst hk;exact absurd hx (hs k o ho x CC)
    have h1:=later k ok hk h ((hp i k o ok h ho hk).war x CC hx);rw[hv k ok hk CC]at h1;cases h1
   have b8:∀(k:Nat) o,ops[k]?=some o->o.dst≠some x:=fun k o hk e=>hw ⟨k,o,hk,e⟩;rw[CB H b8 ops.size (aam _),CB H b8 i (by omega)]
  rename_i hv;have hex:∃(k:Nat) (ok:Oper),ops[k]?=some ok/\ok.dst=some x/\E k=false:=acz fun hn=>hv fun k ok hk CC=>by
   cases hE':E k with
   | true=>rfl
   | false=>exact absurd ⟨k,ok,hk,CC,hE'⟩ hn
  obtain⟨k,ok,hk,CC,Ef⟩:=hex;rcases ada k i with h | h | h
  ·have:=bits k h ((hp k i ok o h hk ho).raw x CC hx);rw[Ef]at this;cases this
  ·subst h;rw[ho]at hk;injection hk with hk;subst hk;exact absurd hx (hs k o ho x CC)
  exact (J7 hok H hk CC i (by omega)).symm
 have QM:(cls A.C ap o.op=3\/(cls A.C ap o.op=2/\(ji A.C ap ops)[i]?=some true))->∀k,i<k->k<ops.size->E k=true->(r k).eff=[]:=by
  intro hc k O8 DK Ef;have hk:ops[k]?=some ops[k]:=aa1 DK;by_cases h3:cls A.C ap ops[k].op=3
  ·have:=later k _ hk O8 (by
    rcases hc with hc | ⟨hc,hf⟩
    ·exact (hp i k o _ O8 ho hk).w3 h3 hc
    exact (vm ho hf hc k _ hk h3).2 O8)
   rw[Ef]at this;cases this
  exact (H k _ hk).quiet h3
 have Mw:∀k,k<ops.size->(r k).eff≠[]->cls A.C ap (ops[k]?.getD o).op=3:=by
  intro k hk b8;have xA:ops[k]?=some ops[k]:=aa1 hk;rw[xA];by_cases h3:cls A.C ap ops[k].op=3
  ·exact h3
  exact absurd ((H k _ xA).quiet h3) b8
 have Mx:(cls A.C ap o.op=3\/(cls A.C ap o.op=2/\(ji A.C ap ops)[i]?=some true))->Hn B r E ops.size=Hn B r (fun _=>true) i:=by
  intro hc;refine QJ i ops.size (fun k DK=>?_) (by omega);have hk:ops[k]?=some ops[k]:=aa1 DK;by_cases b8:(r k).eff=[]
  ·exact .inr b8
  have h3:=Mw k DK b8;rw[hk]at h3;have h3:cls A.C ap ops[k].op=3:=h3;refine .inl ⟨fun Ef=>?_,fun eF=>?_⟩
  ·rcases ada k i with h | h | h
   ·exact h
   ·subst h;rw[hi]at Ef;cases Ef
   exact absurd (QM hc k h DK Ef) b8
  rcases hc with hc | ⟨hc,hf⟩
  ·exact bits k eF ((hp k i _ o eF hk ho).w3 hc h3)
  exact bits k eF ((vm ho hf hc k _ hk h3).1 eF)
 have Xz:cls A.C ap o.op=2->O4 o.op=false->∀id,Av X id=true->Hn B r E ops.size id=Hn B r (fun _=>true) i id:=fun hc hth id hid=>by
  refine Ur i ops.size (fun k DK=>?_) (by omega);have hk:ops[k]?=some ops[k]:=aa1 DK;by_cases b8:∀p∈(r k).eff,p.1≠id
  ·exact .inr b8
  have JI:(r k).eff≠[]:=fun e=>b8 (by rw[e];simp);have h3:cls A.C ap ops[k].op=3:=by have:=Mw k DK JI;rw[hk]at this;exact this
  have Ty:(r k).run=true:=by
   cases hr:(r k).run with
   | true=>rfl
   | false=>exact absurd ((H k _ hk).not hr).2.1 JI
  have hf:(ji A.C ap ops)[k]?=some true:=by
   rcases (G k _ hk Ty).2.1 with h | h
   ·exact h
   exact absurd (fun p hp e=>by have:=Ea h p hp;rw[e,hid]at this;cases this) b8
  have ord:=yy hk hf h3 i o ho hc hth;refine .inl ⟨fun Ef=>?_,fun eF=>?_⟩
  ·rcases ada k i with h | h | h
   ·exact h
   ·subst h;rw[hi]at Ef;cases Ef
   have:=later k _ hk h (ord.1 h);rw[Ef]at this;cases this
  exact bits k eF (ord.2 eF)
 have ext:∀id,(st i).h id=.none\/Hn B r (fun _=>true) i id=(st i).h id:=by
  intro id;by_cases Bg:ja ops r i id
  ·exact .inl ((hh i (by omega) id).1 Bg).1
  exact .inr ((hh i (by omega) id).2 Bg).symm
 have Y4:(r i).run=true->bV A.C o (ev (TE ops st E)) (Hn B r E ops.size) fun v e n=>v=(r i).v/\e=(r i).eff/\n=(r i).new:=by
  intro hrun;have h1:=D.ran hrun;have h2:bV A.C o (ev (TE ops st E)) (st i).h fun v e n=>v=(r i).v/\e=(r i).eff/\n=(r i).new:=by
   refine ri (fun x hx=>?_) h1;cases x with
   | tmp t=>
    exact (Bh t (abY _ (aba.2 ⟨.tmp t,by simpa using hx,rfl⟩))).symm
   | const v=>rfl
   | global g=>rfl
   | func f=>rfl
  have four:cls A.C ap o.op=0\/cls A.C ap o.op=1\/cls A.C ap o.op=2\/cls A.C ap o.op=3:=by
   have:=Mo A.C ap o.op;omega
  rcases four with h | h | h | h
  ·exact R4 h h2
  ·have Uu:ap=false:=by
    cases XA:ap with
    | false=>rfl
    | true=>
     rw[XA]at h;exact absurd h (Mp A.C o.op)
   refine R5 h (fun id ht=>?_) h2;have QN:=yz hok H Uu J9 Bf h0 E ops.size (aam _) id;have Uv:=yz hok H Uu J9 Bf h0 (fun _=>true) i (by omega) id;have heq:(st i).h id=Hn B r (fun _=>true) i id:=by
    rcases ext id with e | e
    ·rw[e]at ht;exact ht.elim
    exact e.symm
   rw[<-heq]at Uv;rcases Uv with e | ⟨e,es,de,e1,e2⟩ | ⟨cs,mZ,e1,e2⟩ | ⟨m,es,m',de,e1,e2⟩
   ·rw[<-e]at QN;rcases QN with f | ⟨f,fs,Sa,f1,f2⟩ | ⟨cs,mZ,f1,f2⟩ | ⟨m,es,m',de,f1,f2⟩
    ·rw[f];exact⟨ht,fun e es h=>⟨es,h⟩,fun cs h=>⟨cs,h⟩,fun cs h=>⟨cs,h⟩,fun e es h=>⟨es,h⟩⟩
    ·rw[f1,f2];exact⟨trivial,fun e es h=>(by injection h with h1 h2;subst h1;exact⟨Sa,rfl⟩),fun cs h=>(by cases h),fun cs h=>(by cases h),fun _ _ h=>by cases h⟩
    ·rw[f1,f2];exact⟨trivial,fun e es h=>by (cases h),fun cs h=>⟨mZ,rfl⟩,fun cs h=>(by cases h),fun _ _ h=>by cases h⟩
    rw[f1,f2];exact⟨trivial,fun e es h=>by (cases h),fun cs h=>by (cases h),fun cs h=>(by cases h),fun _ _ h=>by cases h⟩
   ·rw[e1]at QN;rw[e2];rcases QN with f | ⟨f,fs,Sa,f1,f2⟩ | ⟨cs,mZ,f1,f2⟩ | ⟨m,es,m',de,f1,f2⟩
    ·rw[f];exact⟨trivial,fun e es h=>(by injection h with h1 h2;subst h1;exact⟨_,rfl⟩),fun cs h=>by (cases h),fun cs h=>(by cases h),fun _ _ h=>by cases h⟩
    ·injection f1 with f1 _;subst f1;rw[f2];exact⟨trivial,fun e es h=>(by injection h with h1 h2;subst h1;exact⟨_,rfl⟩),fun cs h=>by (cases h),fun cs h=>(by cases h),fun _ _ h=>by cases h⟩
    ·cases f1
    cases f1
   ·rw[e1]at QN;rw[e2];rcases QN with f | ⟨f,fs,Sa,f1,f2⟩ | ⟨ds,Xu,f1,f2⟩ | ⟨m,es,m',de,f1,f2⟩
    ·rw[f];exact⟨trivial,fun e es h=>by (cases h),fun cs h=>⟨_,rfl⟩,fun cs h=>(by cases h),fun _ _ h=>by cases h⟩
    ·cases f1
    ·rw[f2];exact⟨trivial,fun e es h=>by (cases h),fun cs h=>⟨_,rfl⟩,fun cs h=>(by cases h),fun _ _ h=>by cases h⟩
    cases f1
   rw[e1]at QN;rw[e2];rcases QN with f | ⟨f,fs,Sa,f1,f2⟩ | ⟨ds,Xu,f1,f2⟩ | ⟨m,es,m',de,f1,f2⟩
   ·rw[f];exact⟨trivial,fun e es h=>by (cases h),fun cs h=>by (cases h),fun cs h=>(by cases h),fun _ _ h=>by cases h⟩
   ·cases f1
   ·cases f1
   rw[f2];exact⟨trivial,fun e es h=>by (cases h),fun cs h=>by (cases h),fun cs h=>(by cases h),fun _ _ h=>by cases h⟩
  ·rcases (G i o ho hrun).1 with hf | hpv | hfp | hth | h3
   case inr.inr.inr.inr=>rw[h]at h3;cases h3
   case inr.inr.inr.inl=>
    have Mt:∀k,k<ops.size->tG X (st k).h (r k).eff=true:=fun k DK=>by
     have hk:ops[k]?=some ops[k]:=aa1 DK;cases hr:(r k).run with
     | true=>exact (G k _ hk hr).2.2
     | false=>rw[((H k _ hk).not hr).2.1];rfl
    refine ri (fun x hx=>?_) (R9 (h':=Hn B r E ops.size) (fun id hid b8=>Ms hok H Mt hh E hid (by omega) b8) hth h1);cases x with
    | tmp t=>
     exact (Bh t (abY _ (aba.2 ⟨.tmp t,by simpa using hx,rfl⟩))).symm
    | const v=>rfl
    | global g=>rfl
    | func f=>rfl
   case inr.inr.inl=>
    refine ri (fun x hx=>?_) (R8 (h':=Hn B r E ops.size) (fun id hid=>?_) hfp h1)
    ·cases x with
     | tmp t=>
      exact (Bh t (abY _ (aba.2 ⟨.tmp t,by simpa using hx,rfl⟩))).symm
     | const v=>rfl
     | global g=>rfl
     | func f=>rfl
    rw[Xz h (Ix hfp) id hid];exact ext id
   case inr.inl=>
    refine ri (fun x hx=>?_) (R6 hpv h1);cases x with
    | tmp t=>
     exact (Bh t (abY _ (aba.2 ⟨.tmp t,by simpa using hx,rfl⟩))).symm
    | const v=>rfl
    | global g=>rfl
    | func f=>rfl
   rw[Mx (.inr ⟨h,hf⟩)];obtain⟨v,e,n,⟨rfl,rfl,rfl⟩,h4⟩:=q_ ext h2;exact h4 _ ⟨rfl,rfl,rfl⟩
  rw[Mx (.inl h)];obtain⟨v,e,n,⟨rfl,rfl,rfl⟩,h4⟩:=q_ ext h2;exact h4 _ ⟨rfl,rfl,rfl⟩
 have QO:∀x,o.dst≠some x->(VE ops (fun k=>E k||cq k i) x↔VE ops E x):=by
  intro x hx;refine⟨fun hv k ok hk CC=>?_,fun hv k ok hk CC=>by simp[hv k ok hk CC]⟩;have:=hv k ok hk CC;simp only[adZ]at this;rcases this with h | h
  ·exact h
  have:=a7.1 h;subst this;rw[ho]at hk;injection hk with hk;subst hk;exact absurd CC hx
 have Uw:∀v,v=(r i).v->fx (TE ops st E) o.dst v=TE ops st (fun k=>E k||cq k i):=by
  intro v hv;funext x;have other:o.dst≠some x->TE ops st E x=TE ops st (fun k=>E k||cq k i) x:=fun hx=>by
   unfold TE;by_cases Wc:VE ops E x
   ·rw[aap Wc,aap ((QO x hx).2 Wc)]
   rw[aaa Wc,aaa fun h=>Wc ((QO x hx).1 h)]
  cases lH:o.dst with
  | none=>exact other (by rw[lH];intro h;cases h)
  | some d=>
   show aT _ _ _ _=_;by_cases e:x=d
   ·subst e;rw[aH];unfold TE;rw[aap,GR hok H ho lH ops.size (by omega) (aam _),hv];intro k ok hk CC;have:k=i:=by
     rcases ada k i with h5 | h5 | h5
     ·exact absurd lH ((hp k i ok o h5 hk ho).dst x CC)
     ·exact h5
     exact absurd CC ((hp i k o ok h5 ho hk).dst x lH)
    simp[this,a7.2]
   rw[aV _ _ e];exact other fun h=>e (by rw[lH]at h;injection h with h;exact h.symm)
 unfold wpOp;simp only[ho];by_cases hrun:(r i).run=true
 ·have yp:Region.wanted o (yielded ops a.tmps)=true:=by
   have hg:=D.guard;unfold Region.wanted;split at hg
   ·rename_i h;rw[h]
   rename_i g want h;rw[h];obtain⟨og,tg,b,k1,k2,k3,k4⟩:=hg;have My:tg∈o.looksAt ops:=adt _ (by rw[h];simp[show ops[g]?=some og by simpa using k1,k2]);have:=oP sim (ops:=ops) (g:=g) (by simpa using k1) k2 trivial (by show TE ops st E tg=_;rw[Bh tg My];exact k3);simp only[this];rw[hrun]at k4;exact k4.symm
  rw[aap yp];refine .inl (L7 A o _ _ _ _ _ _ _ _ next Q hC sim (fun _ _=>trivial) O1 (Y4 hrun) (fun v eff b hk=>?_) fun v eff new S' rho' a' w' hk b9=>?_)
  ·obtain⟨_,_,Tz⟩:=hk;obtain⟨d,lH⟩:∃d,o.dst=some d:=by
    have:=D.ndst;rw[<-Tz]at this;cases Ba:o.dst with
    | none=>rw[Ba]at this;cases this
    | some d=>exact⟨d,rfl⟩
   have yA:J8 ops r i d b:=⟨o,ho,lH,Tz.symm⟩;rw[lH];refine⟨fun hL=>(by have:=hL i b yA;rw[hi]at this;cases this),?_⟩;show Hn B r E ops.size d=b;have Bg:ja ops r i d:=⟨i,b,aam _,yA⟩;have b8:∀k,k<ops.size->E k=true->∀p∈(r k).eff,p.1≠d:=by
    intro k DK Ef p QK e;have hk:ops[k]?=some ops[k]:=aa1 DK;have ht:=kq (H k _ hk).there p QK;rcases ada k i with h | h | h
    ·have J_:ja ops r k d:=⟨i,b,by omega,yA⟩;rw[e,((hh k (by omega) d).1 J_).1]at ht;exact ht
    ·subst h;rw[hi]at Ef;cases Ef
    have h3:cls A.C ap ops[k].op=3:=by
     by_cases h3:cls A.C ap ops[k].op=3
     ·exact h3
     have:=(H k _ hk).quiet h3;rw[this]at QK;cases QK
    have hmk:cls A.C ap o.op=3\/cls A.C ap o.op=2:=O6 (ap:=ap) (Y4 hrun) Tz;have:=later k _ hk h (by
     rcases hmk with hmk | hmk
     ·exact (hp i k o _ h ho hk).w3 h3 hmk
     rcases (G i o ho hrun).1 with hf | hpv | hfp | hth | h3'
     ·exact (vm ho hf hmk k _ hk h3).2 h
     ·have:=GJ hpv (D.ran hrun);rw[<-Tz]at this;cases this
     ·rcases GK hfp (D.ran hrun) with DJ | hdX
      ·rw[<-Tz]at DJ;cases DJ
      rw[lH]at hdX;have hdX:Av X d=true:=hdX;have JI:(r k).eff≠[]:=fun e=>by rw[e]at QK;cases QK
      have Ty:(r k).run=true:=by
       cases hr:(r k).run with
       | true=>rfl
       | false=>exact absurd ((H k _ hk).not hr).2.1 JI
      have hf:(ji A.C ap ops)[k]?=some true:=by
       rcases (G k _ hk Ty).2.1 with h | h
       ·exact h
       have:=Ea h p QK;rw[e,hdX]at this;cases this
      exact (yy hk hf h3 i o ho hmk (Ix hfp)).1 h
     ·have:=GL hth (D.ran hrun);rw[<-Tz]at this;cases this
     rw[hmk]at h3';cases h3')
    rw[Ef]at this;cases this
   have:∀m,m<=ops.size->Hn B r E m d=B d:=by
    intro m
    induction m with
    | zero=>intro _;rfl
    | succ m ih=>
     intro hm;simp only[Hn];cases hEm:E m with
     | false=>exact ih (by omega)
     | true=>
      show app (Hn B r E m) (r m).eff d=_;rw[iA (b8 m (by omega) hEm)];exact ih (by omega)
   rw[this ops.size (aam _),J9 i d b yA]
  obtain⟨e1,e2,e3⟩:=hk;refine hnext S' rho' a' w' ?_;have hH:app (Hn B r E ops.size) eff=Hn B r (fun k=>E k||cq k i) ops.size:=by
   rw[e2];by_cases b8:(r i).eff=[]
   ·rw[b8];show Hn B r E ops.size=_;have:∀m,Hn B r (fun k=>E k||cq k i) m=Hn B r E m:=by
     intro m
     induction m with
     | zero=>rfl
     | succ m ih=>
      simp only[Hn];rw[ih];by_cases e:m=i
      ·subst e;rw[hi,a7.2 rfl,b8];rfl
      have:cq m i=false:=by rw[aaV];intro h;exact e (a7.1 h)
      rw[this,abo]
    exact (this _).symm
   have h3:cls A.C ap o.op=3:=by
    by_cases h3:cls A.C ap o.op=3
    ·exact h3
    exact absurd (D.quiet h3) b8
   exact (R_ hi ops.size (QM (.inl h3)) s_).symm
  have bu:=b9;rw[Uw v e1]at bu;have aeI:b7 A (xY cE o.dst) (Cg (LE ops r E) new (o.dst.getD 0)) S' rho' ⟨TE ops st (fun k=>E k||cq k i),Hn B r (fun k=>E k||cq k i) ops.size⟩ a' w':=by rw[<-hH];exact bu
  refine aeI.qo (fun _ _=>.inl trivial) fun d=>?_;cases GU:new with
  | none=>
   refine⟨fun h k b yA=>?_,fun h k b yA=>by simp[h k b yA]⟩;have:=h k b yA;simp only[adZ]at this;rcases this with h | h
   ·exact h
   have:=a7.1 h;subst this;obtain⟨o',h1,h2,h4⟩:=yA;rw[<-e3,GU]at h4;cases h4
  | some b=>
   obtain⟨d',lH⟩:∃d,o.dst=some d:=by
    have:=D.ndst;rw[<-e3,GU]at this;cases Ba:o.dst with
    | none=>rw[Ba]at this;cases this
    | some d=>exact⟨d,rfl⟩
   rw[lH];show _↔(LE ops r E d\/d=d');refine⟨fun h=>?_,fun h k b' yA=>?_⟩
   ·by_cases e:d=d'
    ·exact .inr e
    refine .inl fun k b' yA=>?_;have:=h k b' yA;simp only[adZ]at this;rcases this with h | h
    ·exact h
    have:=a7.1 h;subst this;obtain⟨o',h1,h2,h4⟩:=yA;rw[ho]at h1;injection h1 with h1;rw[<-h1,lH]at h2;injection h2 with h2;exact absurd h2.symm e
   rcases h with h | h
   ·simp[h k b' yA]
   obtain⟨o',h1,h2,h4⟩:=yA;have:k=i:=by
    rcases ada k i with h5 | h5 | h5
    ·exact absurd (by rw[lH,h]) ((hp k i o' o h5 h1 ho).dst d h2)
    ·exact h5
    exact absurd (by rw[h2,h]) ((hp i k o o' h5 ho h1).dst d' lH)
   simp[this,a7.2]
 have Mz:(r i).run=false:=by simpa using hrun
 obtain⟨n1,n2,n3⟩:=D.not Mz;have yp:Region.wanted o (yielded ops a.tmps)=false:=by
  have hg:=D.guard;unfold Region.wanted;split at hg
  ·rw[Mz]at hg;cases hg
  rename_i g want h;rw[h];obtain⟨og,tg,b,k1,k2,k3,k4⟩:=hg;have My:tg∈o.looksAt ops:=adt _ (by rw[h];simp[show ops[g]?=some og by simpa using k1,k2]);have:=oP sim (ops:=ops) (g:=g) (by simpa using k1) k2 trivial (by show TE ops st E tg=_;rw[Bh tg My];exact k3);simp only[this];rw[Mz]at k4;exact k4.symm
 rw[aaa (by rw[yp];decide)];refine hnext S rho _ _ ?_;have bu:=sim.value o.dst O1 rH undef (.p _ _ (.im _));rw[Uw rH n1.symm]at bu;have hH:Hn B r (fun k=>E k||cq k i) ops.size=Hn B r E ops.size:=by
  have:∀m,Hn B r (fun k=>E k||cq k i) m=Hn B r E m:=by
   intro m
   induction m with
   | zero=>rfl
   | succ m ih=>
    simp only[Hn];rw[ih];by_cases e:m=i
    ·subst e;rw[hi,a7.2 rfl,n2];rfl
    have:cq m i=false:=by rw[aaV];intro h;exact e (a7.1 h)
    rw[this,abo]
  exact this _
 rw[hH];refine bu.qo (fun _ _=>.inl trivial) fun d=>⟨fun h k b yA=>?_,fun h k b yA=>by simp[h k b yA]⟩;have:=h k b yA;simp only[adZ]at this;rcases this with h | h
 ·exact h
 have:=a7.1 h;subst this;obtain⟨o',h1,h2,h4⟩:=yA;rw[n3]at h4;cases h4
theorem filter_lt{p q:Nat->Bool}(XB:∀x,q x=true->p x=true){i:Nat}(hp:p i=true)(hq:q i=false):∀(l:List Nat),(l.filter q).length<=(l.filter p).length/\(i∈l->(l.filter q).length<(l.filter p).length):=by
 intro l
 induction l with
 | nil=>exact⟨aam _,fun h=>by cases h⟩
 | cons x l ih=>
  simp only[aby];refine⟨?_,fun h=>?_⟩
  ·cases XC:q x with
   | true=>rw[XB x XC];simp;exact ih.1
   | false=>cases p x<;>simp<;>have:=ih.1<;>omega
  rcases adq.1 h with e | e
  ·subst e;rw[hp,hq];simp;have:=ih.1;omega
  have:=ih.2 e;cases XC:q x with
  | true=>rw[XB x XC];simp;exact this
  | false=>cases p x<;>simp<;>omega
theorem Pa{A:cD}(hC:bI A.C)(Tx:ap=ops.toList.any fun o=>jI A.C o.op)(hok:mh A.C ops=true)(hd:∀o∈ops.toList,kP o A.n)(H:∀(i:Nat) o,ops[i]?=some o->DStep A.C ap ops.toList o (st i) (r i) (st (i+1)))(G:∀(i:Nat) o,ops[i]?=some o->yx A.C ap X (ji A.C ap ops) o (st i) (r i) i){B:Nat->AB}(J9:∀k d b,J8 ops r k d b->B d=b)(Bf:∀d,¬ja ops r 0 d->B d=(st 0).h d)(h0:∀d,ja ops r 0 d->(st 0).h d=.none)
  {Q:Exit->Act->World->Prop} (hQ:∀S rho a w,b7 A cE cE S rho (st ops.size) a w->Q .normal a w):
  ∀(fuel:Nat) (listed:Array Bool) (S:Nat->Prop) (rho:Nat->Value) (a:Act) (w:World),listed.size=ops.size->GO ops (fun i=>listed.getD i false)->((List.range ops.size).filter fun i=>!listed.getD i false).length<=fuel ->
   b7 A cE (LE ops r fun i=>listed.getD i false) S rho ⟨TE ops st (fun i=>listed.getD i false),Hn B r (fun i=>listed.getD i false) ops.size⟩ a w->wpAny A.C.P .any ops Q fuel listed a w:=by
 obtain⟨Mu,hs,hp⟩:=ae7 hok;obtain⟨QL,_⟩:=Be Mu;have hh:=sF hok H J9 Bf h0;have fin:∀(listed:Array Bool) (S:Nat->Prop) (rho:Nat->Value) (a:Act) (w:World),listed.size=ops.size->Region.ready .any ops listed=[]->b7 A cE (LE ops r fun i=>listed.getD i false) S rho ⟨TE ops st (fun i=>listed.getD i false),Hn B r (fun i=>listed.getD i false) ops.size⟩ a w->Q .normal a w:=by
  intro listed S rho a w hsz hr sim;have all:∀i,i<ops.size->listed.getD i false=true:=by
   intro i
   induction i using Nat.strongRecOn with
   | _ i ih=>
    intro hi;have ho:ops[i]?=some ops[i]:=aa1 hi;cases hl:listed.getD i false with
    | true=>rfl
    | false=>
     have:i∈Region.ready .any ops listed:=mem_ready.2 ⟨getD_in (by omega) hl,_,ho,fun e he hb=>by
      have h1:=QL i _ ho e he hb;exact ih e.on h1 (by omega)⟩
     rw[hr]at this;cases this
  refine hQ S rho a w ?_;have hH:Hn B r (fun i=>listed.getD i false) ops.size=(st ops.size).h:=by
   rw[QJ ops.size ops.size (fun k hk=>.inl ⟨fun _=>hk,fun _=>all k hk⟩) (aam _)];funext d;refine ((hh ops.size (aam _) d).2 fun ⟨k,b,h1,o,h2,_⟩=>?_).symm;have:=(ab9.1 h2).1;omega
  have hT:TE ops st (fun i=>listed.getD i false)=(st ops.size).t:=funext fun x=>aap fun k o hk _=>all k (ab9.1 hk).1;rw[hH,hT]at sim;refine sim.qo (fun _ _=>trivial) fun d=>⟨fun _ k b hc=>?_,fun _=>trivial⟩;obtain⟨o,h2,_⟩:=hc;exact all k (ab9.1 h2).1
 intro fuel
 induction fuel with
 | zero=>
  intro listed S rho a w hsz je Ux sim;have hr:Region.ready .any ops listed=[]:=by
   rw[abH];intro i hi;obtain⟨h1,o,ho,_⟩:=mem_ready.1 hi;have eF:=(ab9.1 ho).1;have hm:i∈(List.range ops.size).filter fun i=>!listed.getD i false:=adu.2 ⟨abD.2 eF,by rw[getD_both h1];rfl⟩;have:=adl (Nat.le_zero.1 Ux);rw[this]at hm;cases hm
  exact⟨hr,fin listed S rho a w hsz hr sim⟩
 | succ fuel ih=>
  intro listed S rho a w hsz je Ux sim;refine⟨fun hr=>fin listed S rho a w hsz hr sim,fun i hi=>?_⟩;obtain⟨h1,o,ho,aeL⟩:=mem_ready.1 hi;have eF:=(ab9.1 ho).1;have Y5:listed.getD i false=false:=getD_both h1;have mT:(fun k=>(listed.setIfInBounds i true).getD k false)=fun k=>listed.getD k false||cq k i:=by
   funext k;by_cases e:i=k
   ·subst e;rw[a7.2 rfl,ads];simp[hsz,eF]
   rw[getD_set_ne false e];have:cq k i=false:=by rw[aaV];intro h;exact e (a7.1 h).symm
   rw[this,abo]
  refine O_ hC Tx hok hd H G J9 Bf h0 (E:=fun i=>listed.getD i false) je ho Y5 aeL sim fun S' rho' a' w' b9=>?_;refine ih (listed.setIfInBounds i true) S' rho' a' w' (by simp[hsz]) ?_ ?_ ?_
  ·rw[mT];intro j oj hj Y6 e he hb;simp only[adZ]at Y6 ⊢;rcases Y6 with h | h
   ·exact .inl (je j oj hj h e he hb)
   have:=a7.1 h;subst this;rw[ho]at hj;injection hj with hj;subst hj;exact .inl (aeL e he hb)
  ·have QP:∀k,(listed.setIfInBounds i true).getD k false=(listed.getD k false||cq k i):=fun k=>congrFun mT k;have:=(filter_lt (p:=fun k=>!listed.getD k false) (q:=fun k=>!(listed.setIfInBounds i true).getD k false) (fun x hx=>by
    rw[QP x]at hx;cases hl:listed.getD x false with
    | true=>rw[hl]at hx;cases hx
    | false=>rfl) (i:=i) (by rw[Y5];rfl) (by rw[QP i,a7.2 rfl,ads];rfl) (List.range ops.size)).2 (abD.2 eF)
   omega
  rw[mT];exact b9
end
def HX.iQ:List HX->List AV
 | []=>[]
 | .av x::r=>x::HX.iQ r
 | .row _ _::r=>HX.iQ r
theorem HX.CD(f:AV->AV):∀(r:List HX),HX.iQ (r.map (HX.cS f))=(HX.iQ r).map f
 | []=>rfl
 | .av x::r=>by simp[HX.iQ,HX.cS,HX.CD f r]
 | .row _ _::r=>by simp[HX.iQ,HX.cS,HX.CD f r]
theorem HX.CE{x:AV}:∀{r:List HX},.av x∈r->x∈HX.iQ r
 | .av y::r,h=>by
  rcases adq.1 h with h | h
  ·injection h with h;subst h;simp[HX.iQ]
  simp[HX.iQ,HX.CE h]
 | .row _ _::r,h=>by
  rcases adq.1 h with h | h
  ·cases h
  simp[HX.iQ,HX.CE h]
def CF:AB->List AV
 | .box cs=>cs
 | .gC _ cs=>cs
 | .az _ es=>es.flatMap HX.iQ
 | _=>[]
theorem yB(d:Nat)(b:AB):CF (xm d b)=(CF b).map (sc d):=by
 cases b with
 | az e es=>
  show (es.map fun r=>r.map (HX.cS (sc d))).flatMap HX.iQ=(es.flatMap HX.iQ).map (sc d)
  induction es with
  | nil=>rfl
  | cons r es ih=>simp only[aa8,abz,abE,ih,HX.CD]
 | _=>rfl
def wm(d:Nat)(s:AS):Prop:=s.h d=.none/\(∀j,rQ d (s.t j)=false)/\∀k,∀x∈CF (s.h k),rQ d x=false
theorem MA(d:Nat)(x:AV):rQ d (sc d x)=false:=by
 rw[L9];split
 ·rfl
 assumption
theorem Iy{d d':Nat}{x:AV}(h:rQ d x=false):rQ d (sc d' x)=false:=by
 rw[L9];split
 ·rfl
 exact h
theorem Iz(d:Nat)(s:AS)(k:Nat):(k=d/\(gX d s).h k=.none)\/(k≠d/\(gX d s).h k=xm d (s.h k)):=by
 by_cases e:k=d
 ·subst e;exact .inl ⟨rfl,by show aT (fun k'=>xm k (s.h k')) k AB.none k=_;rw[aH]⟩
 exact .inr ⟨e,by show aT (fun k'=>xm d (s.h k')) d AB.none k=_;rw[aV _ _ e]⟩
theorem Bi(d:Nat)(s:AS):wm d (gX d s):=by
 refine⟨by rcases Iz d s d with⟨_,h⟩ | ⟨h,_⟩;exact h;exact absurd rfl h,fun j=>MA d _,fun k x hx=>?_⟩;rcases Iz d s k with⟨_,h⟩ | ⟨_,h⟩
 ·rw[h]at hx;cases hx
 rw[h,yB]at hx;obtain⟨y,_,rfl⟩:=adS.1 hx;exact MA d y
variable {s:AS}
theorem GV{d:Nat}(d':Nat)(hn:wm d s):wm d (gX d' s):=by
 obtain⟨h1,h2,h3⟩:=hn;refine⟨?_,fun j=>Iy (h2 j),fun k x hx=>?_⟩
 ·rcases Iz d' s d with⟨_,h⟩ | ⟨_,h⟩
  ·exact h
  rw[h,h1];rfl
 rcases Iz d' s k with⟨_,h⟩ | ⟨_,h⟩
 ·rw[h]at hx;cases hx
 rw[h,yB]at hx;obtain⟨y,hy,rfl⟩:=adS.1 hx;exact Iy (h3 k y hy)
def yC:List Oper->AS->AS
 | [],s=>s
 | o::r,s=>match qp o.op with
  | true=>yC r (gX (o.dst.getD 0) s)
  | false=>yC r s
theorem GW:∀(l:List Oper) (s:AS),(∀d,wm d s->wm d (yC l s))/\∀o∈l,qp o.op=true->wm (o.dst.getD 0) (yC l s):=by
 intro l
 induction l with
 | nil=>intro s;exact⟨fun _ h=>h,fun o h=>by cases h⟩
 | cons o l ih=>
  intro s;unfold yC;split
  ·rename_i hm;refine⟨fun d hd=>(ih _).1 d (GV _ hd),fun o' Ol H8=>?_⟩;rcases adq.1 Ol with e | e
   ·subst e;exact (ih _).1 _ (Bi _ _)
   exact (ih _).2 o' e H8
  rename_i hm;refine⟨fun d hd=>(ih _).1 d hd,fun o' Ol H8=>?_⟩;rcases adq.1 Ol with e | e
  ·subst e;rw[H8]at hm;cases hm
  exact (ih _).2 o' e H8
variable {A:cD} {rho:Nat->Value} {w:World}
theorem b7.gX{S:Nat->Prop}{a:Act}(sim:b7 A cE cE S rho s a w)(d:Nat):b7 A cE cE S rho (gX d s) a w:=by
 have h1:=sim.free d .none;have hn:(AM.gX d s).h d=.none:=(Bi d s).1;rw[jf _ _ _ hn]at h1;exact h1.Iv d hn
theorem b7.pre{S:Nat->Prop}{a:Act}:∀(l:List Oper) (s:AS),b7 A cE cE S rho s a w->b7 A cE cE S rho (yC l s) a w:=by
 intro l
 induction l with
 | nil=>intro s sim;exact sim
 | cons o l ih=>
  intro s sim;unfold yC;split
  ·exact ih _ (sim.gX _)
  exact ih _ sim
def yD(o:Oper)(s:AS):AS:=match o.op,o.dst with
 | .assign _,some d=>match s.t d with
  | .ow i=>match s.h i with
   | .row _ _=>match cq i d with
    | true=>s
    | false=>mR i d s
   | .az _ _=>match cq i d with
    | true=>s
    | false=>mR i d s
   | _=>s
  | _=>s
 | _,_=>s
def Bj:List Oper->AS->AS
 | [],s=>s
 | o::r,s=>Bj r (yD o s)
theorem b7.post{S:Nat->Prop}{a:Act}:∀(l:List Oper) (rho:Nat->Value) (s:AS),(∀o∈l,kP o A.n)->b7 A cE cE S rho s a w->∃rho',b7 A cE cE S rho' (Bj l s) a w:=by
 intro l
 induction l with
 | nil=>intro rho s _ sim;exact⟨rho,sim⟩
 | cons o l ih=>
  intro rho s hd sim;have Ba:∀o∈l,kP o A.n:=fun o' Ol=>hd o' (by simp[Ol]);have:∃rho',b7 A cE cE S rho' (yD o s) a w:=by
   unfold yD;split
   ·rename_i d _ lH;split
    ·split
     ·split
      ·exact⟨rho,sim⟩
      rename_i b8;refine⟨_,sim.rename _ d (fun e=>?_) (aaW (hd o (by simp) d lH) sim.nb)⟩;rw[a7.2 e]at b8;cases b8
     ·split
      ·exact⟨rho,sim⟩
      rename_i b8;refine⟨_,sim.rename _ d (fun e=>?_) (aaW (hd o (by simp) d lH) sim.nb)⟩;rw[a7.2 e]at b8;cases b8
     exact⟨rho,sim⟩
    exact⟨rho,sim⟩
   exact⟨rho,sim⟩
  obtain⟨rho',b9⟩:=this;exact ih rho' _ Ba b9
theorem sG{d:Nat}{c:AV}:∀{xs:List AV},c∈xs->rQ d c=true->gI d xs=true:=by
 intro xs
 induction xs with
 | nil=>intro h;cases h
 | cons x xs ih=>
  intro h hm;simp only[gI,adZ];rcases adq.1 h with e | e
  ·subst e;exact .inl hm
  exact .inr (ih e hm)
theorem aY.loc{S:Nat->Prop}{P:Program}{L':Nat->Prop}{h h':Nat->AB}{x:AV}{v:Value}(hx:aY S w P cE rho h x v)(hm:∀k,rQ k x=true->h' k=h k/\L' k):aY S w P L' rho h' x v:=by
 induction hx with
 | p x v hx=>exact .p x v hx
 | nl=>exact .nl
 | ow k v hv=>obtain⟨h1,h2⟩:=hm k (by simp only[rQ];exact a7.2 rfl);exact .ow k v fun ht=>⟨h2,(hv (by rw[<-h1];exact ht)).2⟩
 | rp k a b v hv=>obtain⟨h1,h2⟩:=hm k (by simp only[rQ];exact a7.2 rfl);exact .rp k a b v fun e he=>⟨h2,(hv e (by rw[<-h1];exact he)).2⟩
 | bx k a v hv=>obtain⟨h1,h2⟩:=hm k (by simp only[rQ];exact a7.2 rfl);exact .bx k a v fun ht=>⟨h2,(hv (by rw[<-h1];exact ht)).2⟩
 | vw k a b v hv=>obtain⟨h1,h2⟩:=hm k (by simp only[rQ];exact a7.2 rfl);exact .vw k a b v fun e he=>⟨h2,(hv e (by rw[<-h1];exact he)).2⟩
 | fn f cap vs hl hc ih=>exact .fn f cap vs hl fun j c u hj hu=>ih j c u hj hu fun k hk=>hm k (sG (aad hj) hk)
 | tu xs vs hl hc ih=>exact .tu xs vs hl fun j c u hj hu=>ih j c u hj hu fun k hk=>hm k (sG (aad hj) hk)
 | st xs vs hl h0 hc ih=>exact .st xs vs hl h0 fun j c u hj hu=>ih j c u hj hu fun k hk=>hm k (sG (aad hj) hk)
 | junk v=>exact .junk v
theorem Sb(hC:bI A.C){id:Nat}{ops:Array Oper}{K:Exit->AS->Prop}(hok:mh A.C ops=true)(hd:∀o∈ops.toList,kP o A.n)
  (h:∃X,oS A.C (ops.toList.any fun o=>jI A.C o.op) X ops.toList (ji A.C (ops.toList.any fun o=>jI A.C o.op) ops) ops.toList (fun s'=>K .normal (Bj ops.toList s')) (yC ops.toList s)):W A (.region id ops true) K s:=by
 intro S rho a w sim;have p6:=(sim.grow hC w.drew ⟨rfl,rfl,rfl,aam _,fun _ _ _=>rfl⟩).pre ops.toList s;obtain⟨X,h⟩:=h;obtain⟨st,r,h1,h2,h3⟩:=Mk ops.toList _ _ h;have hsz:ops.toList.length=ops.size:=by simp
 rw[hsz]at h2;have H:∀(i:Nat) o,ops[i]?=some o->DStep A.C (ops.toList.any fun o=>jI A.C o.op) ops.toList o (st i) (r i) (st (i+1)):=fun i o ho=>(h3 i o (by simpa using ho)).1;have G:∀(i:Nat) o,ops[i]?=some o->yx A.C (ops.toList.any fun o=>jI A.C o.op) X (ji A.C (ops.toList.any fun o=>jI A.C o.op) ops) o (st i) (r i) i:=fun i o ho=>(h3 i o (by simpa using ho)).2;have nr:∀k d b,J8 ops r k d b->wm d (st 0):=fun k d b ⟨o,ho,lH,hb⟩=>by
  have Oo:=(H k o ho).ndst;rw[hb,lH]at Oo;rw[h1];have:=(GW ops.toList s).2 o (aad (by simpa using ho)) Oo;rw[lH]at this;exact this
 have MB:∀d,ja ops r 0 d->wm d (st 0):=fun d ⟨k,b,_,hc⟩=>nr k d b hc;have XD:∀d,Decidable (∃b k,J8 ops r k d b):=fun d=>Classical.propDecidable _;obtain⟨B,hB⟩:∃B:Nat->AB,B=fun d=>@dite _ (∃b k,J8 ops r k d b) (XD d) (fun h=>Classical.choose h) (fun _=>(st 0).h d):=⟨_,rfl⟩;obtain⟨_,_,hp⟩:=ae7 hok;have J9:∀k d b,J8 ops r k d b->B d=b:=by
  intro k d b hc;have hex:∃b k,J8 ops r k d b:=⟨b,k,hc⟩;rw[hB];simp only;rw[dif_pos hex];obtain⟨k',hc'⟩:=acD hex;generalize Classical.choose hex=b' at hc';obtain⟨o,e1,e2,e3⟩:=hc;obtain⟨o',f1,f2,f3⟩:=hc';have:k=k':=by
   rcases ada k k' with h | h | h
   ·exact absurd f2 ((hp k k' o o' h e1 f1).dst d e2)
   ·exact h
   exact absurd e2 ((hp k' k o' o h f1 e1).dst d f2)
  subst this;rw[e3]at f3;injection f3 with f3;exact f3.symm
 have Bf:∀d,¬ja ops r 0 d->B d=(st 0).h d:=by
  intro d hn;rw[hB];simp only;rw[dif_neg fun ⟨b,k,hc⟩=>hn ⟨k,b,aaj _,hc⟩]
 have hle:∀d,¬ja ops r 0 d->LE ops r (fun _=>false) d:=fun d hn k b hc=>absurd ⟨k,b,aaj _,hc⟩ hn;have Pb:∀d,LE ops r (fun _=>false) d->¬ja ops r 0 d:=fun d hl ⟨k,b,_,hc⟩=>by cases hl k b hc
 rw[<-h1]at p6;have XE:b7 A cE (LE ops r fun _=>false) S rho ⟨TE ops st (fun _=>false),B⟩ a w.drew:=
  {tm:=fun j _=>by
    have ht:TE ops st (fun _=>false) j=(st 0).t j:=by
     unfold TE;split
     ·rename_i hv;exact CB H (fun k o hk e=>by cases hv k o hk e) ops.size (aam _)
     rfl
    show aY _ _ _ _ _ _ (TE ops st (fun _=>false) j) _;rw[ht];refine (p6.tm j trivial).loc fun k hk=>?_;have hn:¬ja ops r 0 k:=fun Bg=>by rw[(MB k Bg).2.1 j]at hk;cases hk
    exact⟨Bf k hn,hle k hn⟩
   sz:=p6.sz,df:=p6.df,nb:=p6.nb,pn:=p6.pn,ev:=p6.ev,s0:=p6.s0,st:=p6.st,sb:=p6.sb
   hp:=fun k hk=>by
    have hn:=Pb k hk;show eK _ _ _ _ _ _ _ (B k);rw[Bf k hn];have hh:=p6.hp k trivial;cases hb:(st 0).h k with
    | none=>trivial
    | row e es=>rw[hb]at hh;exact hh
    | jA es=>rw[hb]at hh;exact hh
    | jd es=>rw[hb]at hh;exact hh
    | map mk es=>rw[hb]at hh;exact hh
    | box cs=>
     rw[hb]at hh;obtain⟨g,ty,c,k1,k2,k3,k4⟩:=hh;refine⟨g,ty,c,k1,k2,k3,fun j x u hj hu=>⟨(k4 j x u hj hu).1,(k4 j x u hj hu).2.loc fun i hi=>?_⟩⟩;have QQ:¬ja ops r 0 i:=fun Bg=>by rw[(MB i Bg).2.2 k x (by rw[hb];exact aad hj)]at hi;cases hi
     exact⟨Bf i QQ,hle i QQ⟩
    | gC ty cs=>
     rw[hb]at hh;obtain⟨g,c,k1,k2,k3,k4⟩:=hh;refine⟨g,c,k1,k2,k3,fun j x u hj hu=>⟨(k4 j x u hj hu).1,(k4 j x u hj hu).2.loc fun i hi=>?_⟩⟩;have QQ:¬ja ops r 0 i:=fun Bg=>by rw[(MB i Bg).2.2 k x (by rw[hb];exact aad hj)]at hi;cases hi
     exact⟨Bf i QQ,hle i QQ⟩
    | aN cs=>rw[hb]at hh;exact hh
    | az e es=>
     rw[hb]at hh;obtain⟨⟨i0,xs,k1,k2,k3,k4,k5,k6⟩,hS⟩:=hh;refine⟨⟨i0,xs,k1,k2,k3,k4,k5,fun a' r j x ha hj=>?_⟩,hS⟩;obtain⟨u,hu,hr⟩:=k6 a' r j x ha hj;refine⟨u,hu,?_⟩;cases x with
     | row e' de=>exact hr
     | av x=>
      refine aY.loc hr fun i hi=>?_;have QQ:¬ja ops _ 0 i:=fun Bg=>by rw[(MB i Bg).2.2 k x (by rw[hb];exact aax.2 ⟨r,aad ha,HX.CE (aad hj)⟩)]at hi;cases hi
      exact⟨Bf i QQ,hle i QQ⟩
   dj:=fun i j g hi hj li lj eM jH=>by
    have nT:(B i).live:=li;have Ui:(B j).live:=lj;have eM:hasB _ (B i) (rho i) g:=eM;have jH:hasB _ (B j) (rho j) g:=jH;rw[Bf i (Pb i hi)]at nT eM;rw[Bf j (Pb j hj)]at Ui jH;exact p6.dj i j g trivial trivial nT Ui eM jH
   lv:=fun i g hi li hg=>by
    have nT:(B i).live:=li;have hg:hasB _ (B i) (rho i) g:=hg;rw[Bf i (Pb i hi)]at nT hg;exact p6.lv i g trivial nT hg
   fr:=p6.fr }
 refine wp_region_any hC.any ?_;have Y7:(fun i=>(Array.replicate ops.size false).getD i false)=fun _=>false:=by
  funext i;exact getD_replicate_false _ _
 refine Pa hC rfl hok hd H G J9 Bf (fun d Bg=>(MB d Bg).1) (fun S' rho' a' w' b9=>?_) ops.size (Array.replicate ops.size false) S rho a w.drew (by simp) ?_ ?_ ?_
 ·obtain⟨Sc,bu⟩:=b9.post ops.toList rho' (st ops.size) hd;exact⟨S',Sc,_,bu,h2⟩
 ·rw[Y7];intro j oj _ h;cases h
 ·have:((List.range ops.size).filter fun i=>!(Array.replicate ops.size false).getD i false).length<=(List.range ops.size).length:=adb _ _;simpa using this
 rw[Y7];have:∀m,Hn B r (fun _=>false) m=B:=by
  intro m
  induction m with
  | zero=>rfl
  | succ m ih=>exact ih
 rw[this];exact XE
end Go.AM
namespace Go.AM
open Go.RowKit
def MC(n:Nat)(o:Oper):Bool:=match o.dst with
 | some d=>Nat.blt d n
 | none=>true
def kQ(C:Ctx)(n:Nat):Code->Bool
 | .region _ ops draw=>ops.toList.all (MC n)&&(!draw||mh C ops)
 | .seq a b=>kQ C n a&&kQ C n b
 | .cond _ a b=>kQ C n a&&kQ C n b
 | .block _ c=>kQ C n c
 | .loop c=>kQ C n c
 | _=>true
def n_(f:AS->Prop)(K:Exit->AS->Prop):Exit->AS->Prop
 | .normal,s=>f s
 | e,s=>K e s
def Bk(id:Nat)(K:Exit->AS->Prop):Exit->AS->Prop
 | .exit i,s=>pR (cq i id) (K .normal s) (K (.exit i) s)
 | e,s=>K e s
def Ai(A:cD):Code->(Exit->AS->Prop)->AS->Prop
 | .skip,K,s=>K .normal s
 | .region _ ops draw,K,s=>match draw with
  | false=>pZ A.C ops.toList ops.toList (K .normal) s
  | true=>∃X,oS A.C (ops.toList.any fun o=>jI A.C o.op) X ops.toList (ji A.C (ops.toList.any fun o=>jI A.C o.op) ops) ops.toList (fun s'=>K .normal (Bj ops.toList s')) (yC ops.toList s)
 | .seq a b,K,s=>Ai A a (n_ (fun s'=>∃mN,au A s' mN/\Ai A b K mN) K) s
 | .cond c a b,K,s=>match ev s.t c with
  | .p (.im (.bool t))=>pR t (Ai A a K s) (Ai A b K s)
  | _=>False
 | .block id c,K,s=>Ai A c (Bk id K) s
 | .loop c,K,s=>∃(α:Type) (I:α->AS->Prop) (m:α->Nat),(∃x s',au A s s'/\I x s')/\∀x s,I x s->Ai A c (n_ (fun s'=>∃y mN,au A s' mN/\I y mN/\m y<m x) K) s
 | .exit id,K,s=>K (.exit id) s
 | .ret,K,s=>K .ret s
 | _,_,_=>False
theorem IA{n:Nat}{ops:Array Oper}(h:ops.toList.all (MC n)=true):∀o∈ops.toList,kP o n:=by
 intro o ho d hd;have:=abh.1 h o ho;unfold MC at this;rw[hd]at this;exact abA this
theorem Ka{A:cD}(hC:bI A.C):∀(c:Code) (K:Exit->AS->Prop) (s:AS),kQ A.C A.n c=true->Ai A c K s->W A c K s:=by
 intro c
 induction c with
 | skip=>intro K s _ h S rho a w sim;exact wp_skip ⟨S,rho,s,sim,h⟩
 | region id ops draw=>
  intro K s hok h;simp only[kQ,aaZ]at hok;cases draw with
  | false=>exact Mb hC (IA hok.1) h
  | true=>exact Sb hC (by simpa using hok.2) (IA hok.1) h
 | seq a b Lj Lk=>
  intro K s hok h;simp only[kQ,aaZ]at hok;refine Uk ?_;refine Gy (Lj _ s hok.1 h) fun e s' hk=>?_;cases e with
  | normal=>
   obtain⟨s2,hle,hk⟩:=hk;exact fun S rho a w sim=>by
    obtain⟨S',rho',b9⟩:=hle S rho a w sim;exact Lk K s2 hok.2 hk S' rho' a w b9
  | exit id=>exact hk
  | goto l=>exact hk
  | ret=>exact hk
  | panic c=>exact hk
  | outgrown=>exact hk
 | cond c a b Lj Lk=>
  intro K s hok h;simp only[kQ,aaZ]at hok;simp only[Ai]at h;split at h
  ·rename_i t ht;refine RX ht (fun e=>Lj K s hok.1 ?_) (fun e=>Lk K s hok.2 ?_)
   ·rw[e]at h;exact h
   rw[e]at h;exact h
  exact h.elim
 | block id c ih=>
  intro K s hok h;exact O2 (Gy (ih _ s hok h) fun e s' hk=>by cases e<;>exact hk)
 | loop c ih=>
  intro K s hok h;obtain⟨α,I,m,h0,hr⟩:=h;refine RY I m h0 fun x s hi=>?_;exact Gy (ih _ s hok (hr x s hi)) fun e s' hk=>by cases e<;>exact hk
 | exit id=>intro K s _ h S rho a w sim;exact wp_exit ⟨S,rho,s,sim,h⟩
 | ret=>intro K s _ h S rho a w sim;exact wp_ret ⟨S,rho,s,sim,h⟩
 | rangeFunc=>intro K s _ h;exact h.elim
 | scope=>intro K s _ h;exact h.elim
 | label=>intro K s _ h;exact h.elim
 | goto=>intro K s _ h;exact h.elim
 | refuse=>intro K s _ h;exact h.elim
def oT{α:Type}:List (Nat×α)->(Nat->α)->Nat->α
 | [],t=>t
 | (i,v)::r,t=>aT (oT r t) i v
def mU{α:Type}:List (Nat×α)->(Nat->α)->Prop
 | [],_=>True
 | (i,v)::r,t=>t i=v/\mU r t
theorem tJ{α:Type}:∀(l:List (Nat×α)) (t:Nat->α),mU l t->oT l t=t:=by
 intro l
 induction l with
 | nil=>intro t _;rfl
 | cons p l ih=>
  intro t h;obtain⟨i,v⟩:=p;show aT (oT l t) i v=t;rw[ih t h.2];exact jf _ _ _ h.1
theorem Pc{A:cD}{c:Code}{K:Exit->AS->Prop}{s:AS}{α:Type}(R:α->Prop)(ts:α->List (Nat×AV))(hs:α->List (Nat×AB))(m:α->Nat)(x0:α)(s0:AS)(h0:au A s s0)(hR:R x0)(ht:mU (ts x0) s0.t)(hh:mU (hs x0) s0.h)
  (round:∀x,R x->∀t h,Ai A c (n_ (fun s'=>∃y mN,au A s' mN/\R y/\m y<m x/\mU (ts y) mN.t/\mU (hs y) mN.h) K) ⟨oT (ts x) t,oT (hs x) h⟩):Ai A (.loop c) K s:=by
 refine⟨α,fun x s=>R x/\mU (ts x) s.t/\mU (hs x) s.h,m,⟨x0,s0,h0,hR,ht,hh⟩,fun x s ⟨h1,h2,h3⟩=>?_⟩;have:=round x h1 s.t s.h;rw[tJ _ _ h2,tJ _ _ h3]at this;have e:(n_ (fun s'=>∃y mN,au A s' mN/\R y/\m y<m x/\mU (ts y) mN.t/\mU (hs y) mN.h) K)=(n_ (fun s'=>∃y mN,au A s' mN/\(R y/\mU (ts y) mN.t/\mU (hs y) mN.h)/\m y<m x) K):=by
  funext e s';cases e<;>try rfl
  apply propext;constructor
  ·rintro⟨y,mN,k1,k2,k3,k4,k5⟩;exact⟨y,mN,k1,⟨k2,k4,k5⟩,k3⟩
  rintro⟨y,mN,k1,⟨k2,k4,k5⟩,k3⟩;exact⟨y,mN,k1,k2,k3,k4,k5⟩
 rw[<-e];exact this
end Go.AM
namespace Go.AM
open Go.RowKit
def wq(l:List (Nat×TI))(t:TypeId):Option TI:=match l with
 | []=>none
 | (i,ti)::r=>match Nat.beq i t with
  | true=>some ti
  | false=>wq r t
theorem rj{t:TypeId}{ti:TI}:∀{l:List (Nat×TI)},wq l t=some ti->(t,ti)∈l:=by
 intro l
 induction l with
 | nil=>intro h;cases h
 | cons p l ih=>
  intro h;obtain⟨i,WG⟩:=p;unfold wq at h;split at h
  ·rename_i e;have:=aa2 e;subst this;injection h with h;subst h;exact adU ..
  exact aaw _ (ih h)
def MD:Value->Value->Bool
 | .int k n,.int k' n'=>kB k k'&&decide (n=n')
 | .bool b,.bool b'=>b==b'
 | .string s,.string s'=>s.data.toList==s'.data.toList
 | .slice none a b,.slice none a' b'=>Nat.beq a a'&&Nat.beq b b'
 | .pointer none,.pointer none=>true
 | .map none,.map none=>true
 | .nilFunc,.nilFunc=>true
 | .nilIface,.nilIface=>true
 | _,_=>false
theorem ME{v u:Value}(h:MD v u=true):v=u:=by
 unfold MD at h;split at h
 ·simp only[aaZ,aaH]at h;rw[Ig h.1,h.2]
 ·rw[eq_of_beq h]
 ·have:=eq_of_beq h;congr 1;exact ByteArray.ext (adR this)
 ·simp only[aaZ]at h;rw[aa2 h.1,aa2 h.2]
 ·rfl
 ·rfl
 ·rfl
 ·rfl
 cases h
def CG:List Value->List Value->Bool
 | [],[]=>true
 | v::r,u::s=>MD v u&&CG r s
 | _,_=>false
theorem Kb:∀{a b:List Value},CG a b=true->a=b:=by
 intro a
 induction a with
 | nil=>intro b h;cases b with | nil=>rfl | cons=>cases h
 | cons v r ih=>
  intro b h;cases b with
  | nil=>cases h
  | cons u s=>
   simp only[CG,aaZ]at h;rw[ME h.1,ih h.2]
def Uy:TypeDesc->Bool
 | .struct _ | .array _ _=>true
 | _=>false
def xF(P:Program):List (Nat×Nat×Bool)->List Field->Bool
 | [],[]=>true
 | f::r,g::s=>Nat.beq f.1 g.offset&&!Nat.beq f.2.1 0&&(match P.info? g.type with
  | some i=>Nat.beq i.size f.2.1
  | none=>false)&&(match P.underlying g.type with
  | some d=>Uy d==f.2.2
  | none=>false)&&xF P r s
 | _,_=>false
def Y8(P:Program)(t:TypeId)(ti:TI):Bool:=match ti.ud,P.underlying t with
 | .sc,some .bool=>true
 | .sc,some d=>!Uy d&&!ti.eq
 | .int k,some (.int k')=>kB k k'
 | .st fs,some (.struct gs)=>xF P fs gs.toList
 | .sl e,some (.slice e')=>Nat.beq e e'
 | .mp k e,some (.map k' e')=>Nat.beq k k'&&Nat.beq e e'
 | .str,some .string=>true
 | _,_=>false
def Wd(P:Program)(p:Nat×TI):Bool:=match P.info? p.1 with
 | some info=>Nat.beq info.size p.2.size&&Nat.beq info.bytes p.2.bytes&&(match info.zero with
  | some z=>CG z.cells.toList p.2.zero
  | none=>false)&&Nat.beq p.2.zero.length p.2.size&&p.2.zero.all Value.oneCell'&&Y8 P p.1 p.2
 | none=>false
theorem CH{P:Program}:∀{fs:List (Nat×Nat×Bool)} {gs:List Field},xF P fs gs=true->fs.length=gs.length/\∀(i:Nat) f g,fs[i]?=some f->gs[i]?=some g->f.1=g.offset/\f.2.1≠0/\(∃i2,P.info? g.type=some i2/\i2.size=f.2.1)/\
  (∃d,P.underlying g.type=some d/\f.2.2=(match d with | .struct _ | .array _ _=>true | _=>false)):=by
 intro fs
 induction fs with
 | nil=>intro gs h;cases gs with | nil=>exact⟨rfl,by simp⟩ | cons=>cases h
 | cons f r ih=>
  intro gs h;cases gs with
  | nil=>cases h
  | cons g s=>
   simp only[xF,aaZ]at h;obtain⟨⟨⟨⟨h1,h2⟩,h3⟩,h4⟩,h5⟩:=h;obtain⟨h6,h7⟩:=ih h5;refine⟨by simp[h6],fun i f' g' hf hg=>?_⟩;cases i with
   | succ i=>exact h7 i f' g' (by simpa using hf) (by simpa using hg)
   | zero=>
    simp at hf hg;subst hf hg;refine⟨aa2 h1,(fun e=>by rw[e]at h2;cases h2),?_,?_⟩
    ·split at h3
     ·rename_i i hi;exact⟨i,hi,aa2 h3⟩
     cases h3
    split at h4
    ·rename_i d hd;refine⟨d,hd,?_⟩;rw[<-eq_of_beq h4];cases d<;>rfl
    cases h4
theorem Sd{P:Program}{t:TypeId}{ti:TI}(h:Wd P (t,ti)=true):nV P t ti:=by
 unfold Wd at h;split at h
 ·rename_i info hi;simp only[aaZ]at h;obtain⟨⟨⟨⟨⟨h1,h2⟩,h3⟩,h4⟩,h5⟩,h6⟩:=h;split at h3
  ·rename_i z hz;refine⟨info,z,hi,aa2 h1,aa2 h2,hz,?_,aa2 h4,fun v hv=>abh.1 h5 v hv,?_⟩
   ·rw[<-Kb h3]
   simp only[Y8]at h6;split at h6
   ·rename_i h7 h8;rw[h7];exact⟨⟨_,h8,trivial⟩,fun _=>h8⟩
   ·rename_i d b8 h7 h8;rw[h7];simp only[aaZ]at h6;refine⟨⟨d,h8,?_⟩,fun e=>?_⟩
    ·cases d<;>first | trivial | (cases h6.1;done)
    rw[e]at h6;cases h6.2
   ·rename_i h7 h8;rw[h7,h8,Ig h6]
   ·rename_i fs gs h7 h8;rw[h7];obtain⟨h9,T8⟩:=CH h6;exact⟨gs,h8,by simpa using h9,fun i f g hf hg=>T8 i f g hf (by simpa using hg)⟩
   ·rename_i h7 h8;rw[h7,h8,aa2 h6]
   ·rename_i h7 h8;simp only[aaZ]at h6;rw[h7,h8,aa2 h6.1,aa2 h6.2]
   ·rename_i h7 h8;rw[h7,h8]
   cases h6
  cases h3
 cases h
def XF(P:Program)(p:Nat×TI):Bool:=match P.info? p.1 with
 | some info=>match info.zero with
  | some z=>Lr z==p.2.ud.agg
  | none=>false
 | none=>false
theorem Uz{P:Program}{l:List (Nat×TI)}(h:l.all (XF P)=true):∀t ti,wq l t=some ti->F8 P t ti:=fun t ti ht=>by
 have:=abh.1 h _ (rj ht);unfold XF at this;split at this
 ·rename_i info hi;split at this
  ·rename_i z hz;exact⟨info,z,hi,hz,eq_of_beq this⟩
  cases this
 cases this
theorem Se{P:Program}{l:List (Nat×TI)}(h:l.all (Wd P)=true):∀t ti,wq l t=some ti->nV P t ti:=fun _ _ ht=>Sd (abh.1 h _ (rj ht))
def Ou:Option TypeDesc->Value->Bool
 | some (.int _),.int _ _=>true
 | some .string,.string _=>true
 | some .bool,.bool _=>true
 | _,_=>false
def mi(P:Program):Nat->List Field->List Value->Bool
 | _,[],[]=>true
 | i, g :: r, z :: s => Ou (P.underlying g.type) z && Nat.beq g.offset i && g.name != "_" && mi P (i + 1) r s
 | _,_,_=>false
def yE(P:Program):Nat->List Field->List Value->Bool
 | _,[],[]=>true
 | _,[],_::_=>false
 | i, g :: r, zs => g.name != "_" && Nat.beq g.offset i && match P.underlying g.type with
  | some (.struct hs)=>(match P.info? g.type with
   | some inf=>Nat.beq inf.size hs.size
   | none=>false)&&!P.stoodInHeld g.type&&mi P 0 hs.toList (zs.take hs.size)&&yE P (i+hs.size) r (zs.drop hs.size)
  | _=>match zs with
   | z::s=>Ou (P.underlying g.type) z&&yE P (i+1) r s
   | []=>false
def Sf(P:Program)(p:Nat×TI):Bool:=match p.2.eq,p.2.ud with
 | true,.st _=>(match P.underlying p.1 with
  | some (.struct gs)=>yE P 0 gs.toList p.2.zero&&Nat.beq p.2.zero.length p.2.size
  | _=>false)&&!P.stoodInHeld p.1&&!P.eqGuardType P.depth p.1
 | _,_=>true
variable {w:World}
theorem kE{P:Program}{t:TypeId}{z:Value}(h:Ou (P.underlying t) z=true){xs:Array Value}{i:Nat}{v:Value}(hv:xs[i]?=some v):(part t xs i).run P w=.ok v w:=by
 have:(isAgg t).run P w=.ok false w:=by
  rw[Go.isAgg,aau];unfold Ou at h;split at h<;>first
   | (rename_i hu;rw[run_underlying hu];rfl)
   | cases h
 simp[part,this,hv]
theorem CI{a b:ByteArray}(h:a.toList=b.toList):a=b:=by
 rw[ByteArray.toList_eq,ByteArray.toList_eq]at h;obtain⟨⟨x⟩⟩:=a;obtain⟨⟨y⟩⟩:=b;simpa using h
theorem Pd{o:Option TypeDesc}{k:IntKind}{n:Int}(h:Ou o (.int k n)=true):∃j,o=some (.int j):=by
 cases o with
 | none=>cases h
 | some d=>cases d<;>first | exact⟨_,rfl⟩ | cases h
theorem Pe{o:Option TypeDesc}{x:ByteArray}(h:Ou o (.string x)=true):o=some .string:=by
 cases o with
 | none=>cases h
 | some d=>cases d<;>first | rfl | cases h
theorem MF{o:Option TypeDesc}{x:Bool}(h:Ou o (.bool x)=true):o=some .bool:=by
 cases o with
 | none=>cases h
 | some d=>cases d<;>first | rfl | cases h
theorem tK{P:Program}{t:TypeId}{z:Value}{zs:List Value}{x:PV}{a b:List PV}{r:Bool}(hk:Ou (P.underlying t) z=true)(h:bM (z::zs) (x::a) b=some r):∃u v s c r',x=.im u/\b=.im v::s/\bM zs a s=some r'/\r=(c&&r')/\∀d w,(Op.equalIn (d+1) t u v).run P w=.ok c w:=by
 cases b with
 | nil=>cases z<;>cases x<;>simp[bM]at h
 | cons y b=>
  unfold bM at h;split at h
  ·rename_i h1 h2 h3;cases h1
  ·rename_i h1 h2 h3;injection h1 with h1 tq;injection h2 with h2 we;injection h3 with h3 h3';subst h1 tq h2 we h3 h3';split at h
   ·rename_i Qt;have:=Ig Qt;subst this;obtain⟨r',q1,q2⟩:=acq.1 h;obtain⟨j,hu⟩:=Pd hk;refine⟨_,_,_,_,r',rfl,rfl,q1,q2.symm,fun d w=>?_⟩;rw[run_equalIn_int (P:=P) w d t _ j _ _ hu];congr 1
   cases h
  ·rename_i h1 h2 h3;injection h1 with h1 tq;injection h2 with h2 we;injection h3 with h3 h3';subst h1 tq h2 we h3 h3';obtain⟨r',q1,q2⟩:=acq.1 h;have hu:=Pe hk;refine⟨_,_,_,_,r',rfl,rfl,q1,q2.symm,fun d w=>?_⟩;rw[run_equalIn_string (P:=P) w d t _ _ hu];congr 1;rw[abb,beq_iff_eq,decide_eq_true_iff];exact⟨fun e=>CI e,fun e=>by rw[e]⟩
  ·rename_i h1 h2 h3;injection h1 with h1 tq;injection h2 with h2 we;injection h3 with h3 h3';subst h1 tq h2 we h3 h3';obtain⟨r',q1,q2⟩:=acq.1 h;have hu:=MF hk;refine⟨_,_,_,_,r',rfl,rfl,q1,q2.symm,fun d w=>?_⟩;rw[run_equalIn_bool' (P:=P) w d t _ _ hu];congr 1
  cases h
theorem rS{P:Program}(d:Nat)(xs ys:Array Value):∀(gs:List Field) (zs:List Value) (i:Nat) (a b:List PV) (r:Bool),mi P i gs zs=true->gs.length=a.length->(∀(j:Nat) x,a[j]?=some x->∃v,xs[i+j]?=some v/\x=.im v)->(∀(j:Nat) x,b[j]?=some x->∃v,ys[i+j]?=some v/\x=.im v)->bM zs a b=some r ->
  (Op.eqFields (d+1) xs ys gs).run P w=.ok r w:=by
 intro gs
 induction gs with
 | nil=>
  intro zs i a b r hi hl _ _ he;have:a=[]:=adl hl.symm;subst this;cases zs with
  | nil=>cases b with
   | nil=>simp[bM]at he;subst he;rfl
   | cons y b=>simp[bM]at he
  | cons z zs=>simp[mi]at hi
 | cons g gs ih=>
  intro zs i a b r hi hl ha hb he;cases a with
  | nil=>simp at hl
  | cons x a=>cases zs with
   | nil=>simp[mi]at hi
   | cons z zs=>
    simp only[mi,aaZ]at hi;obtain⟨⟨⟨h1,h2⟩,h3⟩,h4⟩:=hi;have h2:=aa2 h2
    have wj : g.name ≠ "_" := by simpa using h3
    obtain⟨u,v,s1,c,r',rfl,rfl,m_,rfl,p3⟩:=tK h1 he;obtain⟨v',hv,Sg⟩:=ha 0 _ rfl;obtain⟨u',qa,Sh⟩:=hb 0 _ rfl;injection Sg with Sg;injection Sh with Sh;subst Sg Sh;have p1:=kE (w:=w) h1 (xs:=xs) (i:=g.offset) (by rw[h2];simpa using hv);have p2:=kE (w:=w) h1 (xs:=ys) (i:=g.offset) (by rw[h2];simpa using qa);have rest:=ih zs (i+1) a s1 r' h4 (by simpa using hl) (fun j x hx=>by obtain⟨v,q1,q2⟩:=ha (j+1) x (by simpa using hx);exact⟨v,by rw[<-q1];congr 1;omega,q2⟩) (fun j x hx=>by obtain⟨v,q1,q2⟩:=hb (j+1) x (by simpa using hx);exact⟨v,by rw[<-q1];congr 1;omega,q2⟩) m_;simp only[Op.eqFields,aap wj,aau,p1,p2,p3,ab5];cases c with
    | true=>
     simp only[aaR,acO,if_false,adr];exact rest
    | false=>simp
theorem CJ{z:Value}{zs:List Value}{a b:List PV}{r:Bool}(h:bM (z::zs) a b=some r):∃x a' y b' c r',a=x::a'/\b=y::b'/\bM zs a' b'=some r'/\r=(c&&r')/\∀UA UB UC UE,bM UA UB UC=some UE->bM (z::UA) (x::UB) (y::UC)=some (c&&UE):=by
 cases a with
 | nil=>cases z<;>simp[bM]at h
 | cons x a=>cases b with
  | nil=>cases z<;>cases x<;>simp[bM]at h
  | cons y b=>
   unfold bM at h;split at h
   ·rename_i h1 _ _;cases h1
   ·rename_i h1 h2 h3;injection h1 with h1 tq;injection h2 with h2 we;injection h3 with h3 h3';subst h1 tq h2 we h3 h3';split at h
    ·rename_i Qt;obtain⟨r',q1,q2⟩:=acq.1 h;exact⟨_,_,_,_,_,r',rfl,rfl,q1,q2.symm,fun UA UB UC UE UG=>by simp only[bM,Qt,UG,ab6]⟩
    cases h
   ·rename_i h1 h2 h3;injection h1 with h1 tq;injection h2 with h2 we;injection h3 with h3 h3';subst h1 tq h2 we h3 h3';obtain⟨r',q1,q2⟩:=acq.1 h;exact⟨_,_,_,_,_,r',rfl,rfl,q1,q2.symm,fun UA UB UC UE UG=>by simp only[bM,UG,ab6]⟩
   ·rename_i h1 h2 h3;injection h1 with h1 tq;injection h2 with h2 we;injection h3 with h3 h3';subst h1 tq h2 we h3 h3';obtain⟨r',q1,q2⟩:=acq.1 h;exact⟨_,_,_,_,_,r',rfl,rfl,q1,q2.symm,fun UA UB UC UE UG=>by simp only[bM,UG,ab6]⟩
   cases h
theorem wu:∀{z1 z2:List Value} {a b:List PV} {r:Bool},bM (z1++z2) a b=some r->∃a1 a2 b1 b2 r1 r2,a=a1++a2/\b=b1++b2/\a1.length=z1.length/\b1.length=z1.length/\bM z1 a1 b1=some r1/\bM z2 a2 b2=some r2/\r=(r1&&r2)
 | [],z2,a,b,r,h=>⟨[],a,[],b,true,r,rfl,rfl,rfl,rfl,rfl,h,rfl⟩
 | z::z1,z2,a,b,r,h=>by
  obtain⟨x,a',y,b',c,r',rfl,rfl,h1,rfl,h2⟩:=CJ (zs:=z1++z2) h;obtain⟨a1,a2,b1,b2,r1,r2,rfl,rfl,l1,l2,k1,k2,rfl⟩:=wu h1;exact⟨x::a1,a2,y::b1,b2,c&&r1,r2,rfl,rfl,by simp[l1],by simp[l2],h2 _ _ _ _ k1,k2,(Bool.and_assoc _ _ _).symm⟩
theorem vo{P:Program}:∀{gs:List Field} {z:List Value} {i:Nat},mi P i gs z=true->gs.length=z.length
 | [],[],_,_=>rfl
 | [],_::_,_,h=>by simp[mi]at h
 | _::_,[],_,h=>by simp[mi]at h
 | g::gs,c::z,i,h=>by
  simp only[mi,aaZ]at h;simp[vo h.2]
theorem CL{P:Program}(d:Nat)(xs ys:Array Value):∀(gs:List Field) (zs:List Value) (i:Nat) (a b:List PV) (r:Bool),yE P i gs zs=true->(∀(j:Nat) x,a[j]?=some x->∃v,xs[i+j]?=some v/\x=.im v)->(∀(j:Nat) x,b[j]?=some x->∃v,ys[i+j]?=some v/\x=.im v)->bM zs a b=some r ->
  (Op.eqFields (d+3) xs ys gs).run P w=.ok r w:=by
 intro gs
 induction gs with
 | nil=>
  intro zs i a b r hi _ _ he;cases zs with
  | nil=>
   cases a with
   | nil=>cases b with
    | nil=>simp[bM]at he;subst he;rfl
    | cons y b=>simp[bM]at he
   | cons x a=>simp[bM]at he
  | cons z zs=>simp[yE]at hi
 | cons g gs ih=>
  intro zs i a b r hi ha hb he;unfold yE at hi;simp only[aaZ]at hi;obtain⟨⟨h3,h2⟩,hi⟩:=hi;have h2:=aa2 h2
  have wj : g.name ≠ "_" := by simpa using h3
  split at hi
  ·rename_i hs tv;simp only[aaZ]at hi;obtain⟨⟨⟨h5,h6⟩,h7⟩,h8⟩:=hi;have h6:P.stoodInHeld g.type=false:=by simpa using h6
   split at h5
   ·rename_i inf XG;have h5:=aa2 h5;have hl:=vo h7;rw[abj]at hl;rw[<-aaU hs.size zs]at he;obtain⟨a1,a2,b1,b2,r1,r2,rfl,rfl,l1,l2,k1,k2,rfl⟩:=wu he;rw[<-hl]at l1 l2;have cut:∀(us:Array Value) (c1 c2:List PV),c1.length=hs.size->(∀(j:Nat) x,(c1++c2)[j]?=some x->∃v,us[i+j]?=some v/\x=.im v)->(part g.type us g.offset).run P w=.ok (.agg (us.extract i (i+hs.size))) w/\(∀(j:Nat) x,c1[j]?=some x->∃v,(us.extract i (i+hs.size))[0+j]?=some v/\x=.im v)/\∀(j:Nat) x,c2[j]?=some x->∃v,us[i+hs.size+j]?=some v/\x=.im v:=by
     intro us c1 c2 hc hu;refine⟨?_,fun j x hx=>?_,fun j x hx=>?_⟩
     ·have e1:(isAgg g.type).run P w=.ok true w:=by
       rw[Go.isAgg,aau,run_underlying tv];rfl
      have e2:(sizeOf g.type).run P w=.ok hs.size w:=by
       simp[Go.sizeOf,typeInfo,XG,h5]
      simp[part,e1,e2,h2]
     ·have hj:j<hs.size:=by rw[<-hc];exact aD hx
      obtain⟨v,q1,q2⟩:=hu j x (by rw[aaE (by omega)];exact hx);exact⟨v,by rw[Array.getElem?_extract,aap (by have:=(ab9.1 q1).1;omega),abC];exact q1,q2⟩
     obtain⟨v,q1,q2⟩:=hu (hs.size+j) x (by rw[acu (by omega),<-hx];congr 1;omega);exact⟨v,by rw[<-q1];congr 1;omega,q2⟩
    obtain⟨p1,m1,n1⟩:=cut xs a1 a2 l1 ha;obtain⟨p2,m2,n2⟩:=cut ys b1 b2 l2 hb;have hf:P.fieldsOf g.type=hs:=by simp[Program.fieldsOf,tv]
    have p3:(Op.equalIn (d+3) g.type (.agg (xs.extract i (i+hs.size))) (.agg (ys.extract i (i+hs.size)))).run P w=.ok r1 w:=by
     rw[run_equalIn_struct w (d+2) g.type _ _ (by rw[hf];exact tv) h6,hf];exact rS (d+1) _ _ hs.toList _ 0 a1 b1 r1 h7 (by rw[abj,l1]) m1 m2 k1
    have rest:=ih (zs.drop hs.size) (i+hs.size) a2 b2 r2 h8 n1 n2 k2;simp only[Op.eqFields,aap wj,aau,p1,p2,p3,ab5];cases r1 with
    | true=>
     simp only[aaR,acO,if_false,adr];exact rest
    | false=>simp
   cases h5
  split at hi
  ·rename_i z zs;simp only[aaZ]at hi;obtain⟨h1,h4⟩:=hi;cases a with
   | nil=>cases z<;>simp[bM]at he
   | cons x a=>
    obtain⟨u,v,s1,c,r',rfl,rfl,m_,rfl,p3⟩:=tK h1 he;obtain⟨v',hv,Sg⟩:=ha 0 _ rfl;obtain⟨u',qa,Sh⟩:=hb 0 _ rfl;injection Sg with Sg;injection Sh with Sh;subst Sg Sh;have p1:=kE (w:=w) h1 (xs:=xs) (i:=g.offset) (by rw[h2];simpa using hv);have p2:=kE (w:=w) h1 (xs:=ys) (i:=g.offset) (by rw[h2];simpa using qa);have rest:=ih zs (i+1) a s1 r' h4 (fun j x hx=>by obtain⟨v,q1,q2⟩:=ha (j+1) x (by simpa using hx);exact⟨v,by rw[<-q1];congr 1;omega,q2⟩) (fun j x hx=>by obtain⟨v,q1,q2⟩:=hb (j+1) x (by simpa using hx);exact⟨v,by rw[<-q1];congr 1;omega,q2⟩) m_;simp only[Op.eqFields,aap wj,aau,p1,p2,p3,ab5];cases c with
    | true=>
     simp only[aaR,acO,if_false,adr];exact rest
    | false=>simp
  cases hi
variable {gs:Array Field}
theorem Kc{P:Program}{t:TypeId}{zs:List Value}(tv:P.underlying t=some (.struct gs))(h2:P.stoodInHeld t=false)(h4:yE P 0 gs.toList zs=true){a b:List PV}{r:Bool}(hc:bM zs a b=some r)(xs ys:Array Value)(w:World)
  (ha:∀(i:Nat) x v,a[i]?=some x->xs[i]?=some v->x=.im v) (hb:∀(i:Nat) x v,b[i]?=some x->ys[i]?=some v->x=.im v) (Si:a.length=xs.size) (UH:b.length=ys.size):(Op.equal t (.agg xs) (.agg ys)).run P w=.ok r w:=by
 have hf:P.fieldsOf t=gs:=by simp[Program.fieldsOf,tv]
 have hex:∀(l:List PV) (zs:Array Value),l.length=zs.size->(∀(i:Nat) x v,l[i]?=some x->zs[i]?=some v->x=.im v)->∀(j:Nat) x,l[j]?=some x->∃v,zs[0+j]?=some v/\x=.im v:=by
  intro l zs hl hz j x hx;obtain⟨v,hv⟩:=jG hl (aD hx);exact⟨v,by rw[abC];exact hv,hz j x v hx hv⟩
 have key:=CL (P:=P) (w:=w) 9996 xs ys gs.toList zs 0 a b r h4 (hex a xs Si ha) (hex b ys UH hb) hc;show (Op.equalIn (9999+1) t (.agg xs) (.agg ys)).run P w=_;rw[run_equalIn_struct w 9999 t xs ys (by rw[hf];exact tv) h2,hf];exact key
theorem Eg{P:Program}{t:TypeId}{zs:List Value}(tv:P.underlying t=some (.struct gs))(h2:P.stoodInHeld t=false)(h4:mi P 0 gs.toList zs=true){a b:List PV}{r:Bool}(hc:bM zs a b=some r)(xs ys:Array Value)(w:World)
  (ha:∀(i:Nat) x v,a[i]?=some x->xs[i]?=some v->x=.im v) (hb:∀(i:Nat) x v,b[i]?=some x->ys[i]?=some v->x=.im v) (Si:a.length=xs.size) (UH:b.length=ys.size) (hsz:gs.size=a.length):(Op.equal t (.agg xs) (.agg ys)).run P w=.ok r w:=by
 have hf:P.fieldsOf t=gs:=by simp[Program.fieldsOf,tv]
 have hex:∀(l:List PV) (zs:Array Value),l.length=zs.size->(∀(i:Nat) x v,l[i]?=some x->zs[i]?=some v->x=.im v)->∀(j:Nat) x,l[j]?=some x->∃v,zs[0+j]?=some v/\x=.im v:=by
  intro l zs hl hz j x hx;obtain⟨v,hv⟩:=jG hl (aD hx);exact⟨v,by rw[abC];exact hv,hz j x v hx hv⟩
 have key:=rS (P:=P) (w:=w) 9998 xs ys gs.toList zs 0 a b r h4 (by simp;omega) (hex a xs Si ha) (hex b ys UH hb) hc;show (Op.equalIn (9999+1) t (.agg xs) (.agg ys)).run P w=_;rw[run_equalIn_struct w 9999 t xs ys (by rw[hf];exact tv) h2,hf];exact key
theorem Sj{P:Program}{l:List (Nat×TI)}(h:l.all (Sf P)=true):∀t ti op a b r,wq l t=some ti->ti.eq=true->(∃fs,ti.ud=.st fs)->bM ti.zero a b=some r->∀(xs ys:Array Value) w,(∀(i:Nat) x v,a[i]?=some x->xs[i]?=some v->x=.im v)->(∀(i:Nat) x v,b[i]?=some x->ys[i]?=some v->x=.im v)->
  a.length=xs.size->b.length=ys.size->ti.size=a.length->(op=.eql\/op=.neq)->∀(x y:Operand),(do eqGuard op t x y (.agg xs) (.agg ys);binOp op t (.agg xs) (.agg ys):Sem Value).run P w=.ok (.bool (if op=.eql then r else !r)) w:=by
 intro t ti op a b r ht he ⟨fs,WX⟩ hcells xs ys w ha hb Si UH hsz aK x y;have:=abh.1 h _ (rj ht);unfold Sf at this;simp only[he,WX,aaZ]at this;obtain⟨⟨h1,h2⟩,h3⟩:=this;have h2:P.stoodInHeld t=false:=by simpa using h2
 have h3:P.eqGuardType P.depth t=false:=by simpa using h3
 split at h1
 ·rename_i gs tv;simp only[aaZ]at h1;obtain⟨h4,_⟩:=h1;have heq:=Kc tv h2 h4 hcells xs ys w ha hb Si UH;have Sk:(eqGuard op t x y (.agg xs) (.agg ys)).run P w=.ok () w:=by
   rcases aK with rfl | rfl<;>simp[eqGuard,h3]
  rw[aau,Sk,ab5];rcases aK with rfl | rfl
  ·simp[binOp,heq]
  simp[binOp,heq]
 cases h1
def Sl(P:Program)(p:Nat×TI):Bool:=match Al p.2 with
 | some (.st _)=>(match P.underlying p.1 with
  | some (.struct gs)=>mi P 0 gs.toList p.2.zero
  | _=>false)&&!P.stoodInHeld p.1
 | _=>true
theorem Pf:∀{z:List Value} {sh:List Nat} {a b:List Value},Cb z=some sh->ae4 sh a->ae4 sh b->bM z (a.map .im) (b.map .im)=some (DN a b):=by
 intro z
 induction z with
 | nil=>
  intro sh a b h ha hb;injection h with h;subst h;cases a<;>cases b<;>first
   | rfl
   | exact ha.elim
   | exact hb.elim
 | cons c z ih=>
  intro sh a b h ha hb;unfold Cb at h;split at h
  ·rename_i h1;cases h1
  all_goals first
   | (
     rename_i h1;injection h1 with h1 tq;subst h1 tq;obtain⟨s,hs,rfl⟩:=acq.1 h;cases a with
     | nil=>exact ha.elim
     | cons x a=>cases b with
      | nil=>exact hb.elim
      | cons y b=>
       have hx:=ha.1;have hy:=hb.1;cases x<;>first | (exact hx.elim) | skip
       cases y<;>first | (exact hy.elim) | skip
       have:=ih hs ha.2 hb.2
       first
        | (simp only[aa8,bM,this,ab6,DN,Jq];done)
        | (
         have e1:_=IntKind.i64:=hx;have e2:_=IntKind.i64:=hy;subst e1 e2;simp only[aa8,bM,this,ab6,DN,Jq,kB];done))
   | cases h
theorem nk:∀{sh:List Nat} {a:List Value},ae4 sh a->a.length=sh.length
 | [],[],_=>rfl
 | [],_::_,h=>h.elim
 | _::_,[],h=>h.elim
 | _::_,_::_,h=>by simp[nk h.2]
theorem MG:∀{z:List Value} {sh:List Nat},Cb z=some sh->z.length=sh.length:=by
 intro z
 induction z with
 | nil=>intro sh h;injection h with h;subst h;rfl
 | cons c z ih=>
  intro sh h;unfold Cb at h;split at h
  ·rename_i h1;cases h1
  all_goals first
   | (
     rename_i h1;injection h1 with h1 tq;subst h1 tq;obtain⟨s,hs,rfl⟩:=acq.1 h;simp[ih hs];done)
   | cases h
theorem Eh{P:Program}{t:TypeId}{z:Value}(h:Ou (P.underlying t) z=true)(e:Bool)(n:Nat)(w:World)(v:Value):(Instr.checkKey e (n+1) t v).run P w=.ok () w:=by
 unfold Ou at h;split at h
 all_goals first
  | (rename_i hu;cases v<;>simp[Instr.checkKey,run_underlying hu];done)
  | cases h
theorem CM{P:Program}(e:Bool)(n:Nat)(w:World)(xs:Array Value):∀(gs:List Field) (zs:List Value) (i:Nat),mi P i gs zs=true->(∀j,j<gs.length->∃v,xs[i+j]?=some v)->(forIn gs PUnit.unit fun f _=>(do
   if f.name ≠ "_" then Instr.checkKey e (n + 1) f.type (← part f.type xs f.offset)
   pure (ForInStep.yield PUnit.unit):Sem (ForInStep PUnit))).run P w=.ok PUnit.unit w:=by
 intro gs
 induction gs with
 | nil=>intro zs i _ _;rfl
 | cons g gs ih=>
  intro zs i hi hx;cases zs with
  | nil=>simp[mi]at hi
  | cons z zs=>
   simp only[mi,aaZ]at hi;obtain⟨⟨⟨h1,h2⟩,h3⟩,h4⟩:=hi;have h2:=aa2 h2
   have wj : g.name ≠ "_" := by simpa using h3
   obtain⟨v,hv⟩:=hx 0 (by simp);have p1:=kE (w:=w) h1 (xs:=xs) (i:=g.offset) (by rw[h2];simpa using hv);have rest:=ih zs (i+1) h4 fun j hj=>by obtain⟨v,q⟩:=hx (j+1) (by simpa using hj);exact⟨v,by rw[<-q];congr 1;omega⟩
   simp only[List.forIn_cons,aap wj,aau,p1,Eh h1,ab5,aa6];exact rest
theorem CN{P:Program}{kt:TypeId}(tv:P.underlying kt=some (.struct gs))(e:Bool)(n:Nat)(w:World)(xs:Array Value):(Instr.checkKey e (n+1) kt (.agg xs)).run P w=((forIn gs.toList PUnit.unit fun f _=>(do
   if f.name ≠ "_" then Instr.checkKey e n f.type (← part f.type xs f.offset)
   pure (ForInStep.yield PUnit.unit):Sem (ForInStep PUnit))).run P w).andThen fun _ w'=>.ok () w':=by
 simp only[Instr.checkKey,aau,run_underlying tv,ab5,<-Array.forIn_toList];rfl
theorem Pg{P:Program}{l:List (Nat×TI)}(h:l.all (Sl P)=true):∀kt tk sh,wq l kt=some tk->Al tk=some (.st sh)->Ls P kt (.st sh):=by
 intro kt tk sh ht hm;have:=abh.1 h _ (rj ht);unfold Sl at this;simp only[hm,aaZ]at this;obtain⟨h1,h2⟩:=this;have h2:P.stoodInHeld kt=false:=by simpa using h2
 have hsh:Cb tk.zero=some sh:=by
  unfold Al at hm;split at hm<;>first
   | (cases hm;done)
   | skip
  all_goals (split at hm)
  all_goals first
   | (cases hm;done)
   | (obtain⟨s,hs,e⟩:=acq.1 hm;injection e with e;subst e;exact hs)
 split at h1
 ·rename_i gs tv;have hlen:gs.size=sh.length:=by have:=vo h1;rw[MG hsh]at this;simpa using this
  refine⟨fun e k w hk=>?_,fun k w ms hk LS=>?_⟩
  ·cases k<;>first | (exact hk.elim) | skip
   rename_i xs;have hl:=nk (sh:=sh) hk;have hl:xs.size=sh.length:=by simpa using hl
   have:=CM e 9998 w xs gs.toList tk.zero 0 h1 fun j hj=>⟨xs[j]'(by simp at hj;omega),by rw[abC];exact aa1 _⟩;exact (CN tv e 9999 w xs).trans (by rw[this];rfl)
  rw[run_findKey_eq w (by rw[tv]) k ms];show (Instr.findAsking kt k ms 0).run P w=.ok (rM k ms 0) w;generalize 0=i
  induction ms generalizing i with
  | nil=>rfl
  | cons m ms ih=>
   have H8:=LS m adU;cases k<;>first | (exact hk.elim) | skip
   rename_i xs;obtain⟨mk,mv,mb⟩:=m;cases mk<;>first | (exact H8.elim) | skip
   rename_i ys;have hlx:xs.size=sh.length:=by simpa using nk (sh:=sh) hk
   have hly:ys.size=sh.length:=by simpa using nk (sh:=sh) H8
   have Gp:∀(zs:Array Value) (i:Nat) x v,(zs.toList.map PV.im)[i]?=some x->zs[i]?=some v->x=.im v:=fun zs i x v q1 q2=>by
    rw[aak,aek,q2]at q1;injection q1 with q1;exact q1.symm
   have:=Eg tv h2 h1 (Pf (sh:=sh) hsh hk H8) xs ys w (Gp xs) (Gp ys) (by simp) (by simp) (by simp;omega);unfold Instr.findAsking rM;simp only[aau,this,ab5,Ak];cases DN xs.toList ys.toList with
   | true=>rfl
   | false=>exact ih (fun x hx=>LS x (aaw _ hx)) _
 cases h1
end Go.AM
namespace Go.AM
open Go.RowKit
variable {A:cD}
theorem au.dk(hC:bI A.C)(s:AS)(d:Nat)(e:TypeId)(ti:TI)(hd:d<100000)(hn:s.t d=.nl)(hT:A.C.T e=some ti)(hpos:0<ti.size):
  au A s ⟨aT (gX d s).t d (.ow d),aT (gX d s).h d (.row e [])⟩:=by
 intro S rho a w sim;have hv:a.tmps.getD d undef=.slice none 0 0:=by
  have:=sim.tm d trivial;rw[hn]at this;generalize a.tmps.getD d undef=v at this;cases this;rfl
 have sD:=sim.free d (.row e []);obtain⟨info,z,h1,h2,h3,h4,h5,h6,h7,h8⟩:=hC.iq e ti hT;have bu:=sD.new hC d (.row e []) hd (fun h=>h rfl) (aH _ _ _) w rfl rfl rfl (aam _) (fun _=>False) (fun _ _ _=>rfl) (fun _ h=>h.elim) (.slice none 0 0) (fun g hg=>by cases hg) fun T=>by
  show aG _ _ _ _ _ (aT rho d _ d);rw[aH];exact⟨info,[],h1,by omega,⟨by simp,.inl ⟨rfl,rfl⟩⟩,by simp,by simp,by simp⟩
 have aeI:b7 A cE cE S (aT rho d (.slice none 0 0)) ⟨(gX d s).t,aT (gX d s).h d (.row e [])⟩ a w:=bu.qo (fun _ _=>trivial) (fun k=>⟨fun _=>by by_cases e:k=d;exact .inr e;exact .inl e,fun _=>trivial⟩);refine⟨S,_,{ aeI with tm:=fun j _=>?_ }⟩;by_cases ej:j=d
 ·subst ej;show aY _ _ _ _ _ _ (aT _ _ _ _) _;rw[aH];exact .ow j _ fun _=>⟨trivial,by rw[aH];exact hv⟩
 show aY _ _ _ _ _ _ (aT _ _ _ _) _;rw[aV _ _ ej];exact aeI.tm j trivial
theorem au.gD(hC:bI A.C)(s:AS)(d:Nat){y:PV}{fz:List (Nat×AB)}(h:AM.gD s.h (s.t d) fun y' mY=>y'=y/\mY=fz):au A s ⟨aT s.t d (.p y),app s.h fz⟩:=by
 intro S rho a w sim;obtain⟨y',mY,S',⟨rfl,rfl⟩,b9,hp,hS,hF,_⟩:=ir hC sim (h:=s.h) (fun _=>.inl rfl) (sim.tm d trivial) h;refine⟨S',rho,{ b9 with tm:=fun j _=>?_ }⟩;by_cases ej:j=d
 ·subst ej;show aY _ _ _ _ _ _ (aT _ _ _ _) _;rw[aH];exact .p _ _ hp
 show aY _ _ _ _ _ _ (aT _ _ _ _) _;rw[aV _ _ ej];exact b9.tm j trivial
theorem au.nil(hC:bI A.C)(s:AS)(d:Nat)(h:s.t d=.nl):au A s ⟨aT s.t d (.p (.sl [])),s.h⟩:=au.gD hC s d (y:=.sl []) (fz:=[]) (by rw[h];exact⟨rfl,rfl⟩)
theorem au.own(hC:bI A.C)(s:AS)(d:Nat){id:Nat}{e:TypeId}{es:List (List PV)}(h:s.t d=.ow id)(h2:s.h id=.row e es):au A s ⟨aT s.t d (.p (.sl es)),aT s.h id (.jA es)⟩:=au.gD hC s d (y:=.sl es) (fz:=[(id,.jA es)]) (by rw[h];simp only[AM.gD,AM.l8];rw[h2];exact⟨rfl,rfl⟩)
theorem au.Cx(s:AS)(i d:Nat)(hid:i≠d)(hd:d<100000):au A s (mR i d s):=fun S _ _ _ sim=>⟨S,_,sim.rename i d hid hd⟩
theorem au.aeK(hC:bI A.C)(s:AS)(id j d:Nat)(e:TypeId)(ti:TI)(cs:List AV)(hd:d<100000)(hid:id≠d)(hb:s.h id=.box cs)(hn:cs[j]?=some .nl)(hT:A.C.T e=some ti)(hpos:0<ti.size):
  au A s ⟨(gX d s).t,aT (aT (gX d s).h d (.row e [])) id (.box ((cs.map (sc d)).set j (.ow d)))⟩:=by
 intro S rho a w sim;have sD:=sim.free d (.row e []);obtain⟨info,z,h1,h2,h3,h4,h5,h6,h7,h8⟩:=hC.iq e ti hT;have bu:=sD.new hC d (.row e []) hd (fun h=>h rfl) (aH _ _ _) w rfl rfl rfl (aam _) (fun _=>False) (fun _ _ _=>rfl) (fun _ h=>h.elim) (.slice none 0 0) (fun g hg=>by cases hg) fun T=>by
  show aG _ _ _ _ _ (aT rho d _ d);rw[aH];exact⟨info,[],h1,by omega,⟨by simp,.inl ⟨rfl,rfl⟩⟩,by simp,by simp,by simp⟩
 have aeI:b7 A cE cE S (aT rho d (.slice none 0 0)) ⟨(gX d s).t,aT (gX d s).h d (.row e [])⟩ a w:=bu.qo (fun _ _=>trivial) (fun k=>⟨fun _=>by by_cases e:k=d;exact .inr e;exact .inl e,fun _=>trivial⟩);have aN:(aT (gX d s).h d (.row e [])) id=.box (cs.map (sc d)):=by
  rw[aV _ _ hid];show aT (fun k=>xm d (s.h k)) d .none id=_;rw[aV _ _ hid,hb];rfl
 refine⟨S,_,aeI.write hC id trivial (by show ((aT (gX d s).h d (.row e [])) id).live;rw[aN];trivial) _ (fun _ h=>by cases h) w rfl rfl rfl rfl (fun _ _=>rfl) fun T=>?_⟩;have hh:=aeI.hp id trivial;have hh:eK S w A.C.P cE (aT rho d (.slice none 0 0)) (aT (gX d s).h d (.row e [])) id ((aT (gX d s).h d (.row e [])) id):=hh;rw[aN]at hh;obtain⟨g,ty,c,k1,k2,k3,k4⟩:=hh;refine⟨g,ty,c,k1,k2,by rw[k3,aaM],fun i x u hi hu=>?_⟩;by_cases ei:i=j
 ·subst ei;have hj:(cs.map (sc d))[i]?=some .nl:=by rw[aak,hn];rfl
  rw[ab7 (aD hj)]at hi;injection hi with hi;subst hi;obtain⟨k5,k6⟩:=k4 i _ u hj hu;refine⟨k5,.ow d u fun _=>⟨trivial,?_⟩⟩;rw[aH];cases k6;rfl
 rw[ac5 (fun e=>ei e.symm)]at hi;obtain⟨k5,k6⟩:=k4 i x u hi hu;exact⟨k5,k6.cK T⟩
theorem au.MH(hC:bI A.C)(s:AS)(id j d:Nat)(e ty:TypeId)(ti:TI)(cs:List AV)(hd:d<100000)(hid:id≠d)(hb:s.h id=.gC ty cs)(hn:cs[j]?=some .nl)(hT:A.C.T e=some ti)(hpos:0<ti.size):
  au A s ⟨(gX d s).t,aT (aT (gX d s).h d (.row e [])) id (.gC ty ((cs.map (sc d)).set j (.ow d)))⟩:=by
 intro S rho a w sim;have sD:=sim.free d (.row e []);obtain⟨info,z,h1,h2,h3,h4,h5,h6,h7,h8⟩:=hC.iq e ti hT;have bu:=sD.new hC d (.row e []) hd (fun h=>h rfl) (aH _ _ _) w rfl rfl rfl (aam _) (fun _=>False) (fun _ _ _=>rfl) (fun _ h=>h.elim) (.slice none 0 0) (fun g hg=>by cases hg) fun T=>by
  show aG _ _ _ _ _ (aT rho d _ d);rw[aH];exact⟨info,[],h1,by omega,⟨by simp,.inl ⟨rfl,rfl⟩⟩,by simp,by simp,by simp⟩
 have aeI:b7 A cE cE S (aT rho d (.slice none 0 0)) ⟨(gX d s).t,aT (gX d s).h d (.row e [])⟩ a w:=bu.qo (fun _ _=>trivial) (fun k=>⟨fun _=>by by_cases e:k=d;exact .inr e;exact .inl e,fun _=>trivial⟩);have aN:(aT (gX d s).h d (.row e [])) id=.gC ty (cs.map (sc d)):=by
  rw[aV _ _ hid];show aT (fun k=>xm d (s.h k)) d .none id=_;rw[aV _ _ hid,hb];rfl
 refine⟨S,_,aeI.write hC id trivial (by show ((aT (gX d s).h d (.row e [])) id).live;rw[aN];trivial) _ (fun _ h=>by cases h) w rfl rfl rfl rfl (fun _ _=>rfl) fun T=>?_⟩;have hh:=aeI.hp id trivial;have hh:eK S w A.C.P cE (aT rho d (.slice none 0 0)) (aT (gX d s).h d (.row e [])) id ((aT (gX d s).h d (.row e [])) id):=hh;rw[aN]at hh;obtain⟨g,c,k1,k2,k3,k4⟩:=hh;refine⟨g,c,k1,k2,by rw[k3,aaM],fun i x u hi hu=>?_⟩;by_cases ei:i=j
 ·subst ei;have hj:(cs.map (sc d))[i]?=some .nl:=by rw[aak,hn];rfl
  rw[ab7 (aD hj)]at hi;injection hi with hi;subst hi;obtain⟨k5,k6⟩:=k4 i _ u hj hu;refine⟨k5,.ow d u fun _=>⟨trivial,?_⟩⟩;rw[aH];cases k6;rfl
 rw[ac5 (fun e=>ei e.symm)]at hi;obtain⟨k5,k6⟩:=k4 i x u hi hu;exact⟨k5,k6.cK T⟩
theorem au.fB(hC:bI A.C)(s:AS)(id j i:Nat)(e:TypeId)(es:List (List PV))(cs:List AV)(hid:id≠i)(hb:s.h id=.box cs)(hn:cs[j]?=some (.ow i))(hr:s.h i=.row e es):
  au A s ⟨s.t,aT (aT s.h i (.jA es)) id (.box (cs.set j (.p (.sl es))))⟩:=by
 intro S rho a w sim;have sD:=sim.A0 hC i trivial hr;have aN:(aT s.h i (.jA es)) id=.box cs:=by rw[aV _ _ hid];exact hb
 refine⟨_,_,sD.write hC id trivial (by show ((aT s.h i (.jA es)) id).live;rw[aN];trivial) _ (fun _ h=>by cases h) w rfl rfl rfl rfl (fun _ _=>rfl) fun T=>?_⟩;have hh:=sD.hp id trivial;have hh:eK _ w A.C.P cE rho (aT s.h i (.jA es)) id ((aT s.h i (.jA es)) id):=hh;rw[aN]at hh;have hf:=sD.hp i trivial;have hf:eK _ w A.C.P cE rho (aT s.h i (.jA es)) i ((aT s.h i (.jA es)) i):=hf;rw[aH]at hf;obtain⟨g,ty,c,k1,k2,k3,k4⟩:=hh;refine⟨g,ty,c,k1,k2,by rw[k3,aaM],fun q x u hi hu=>?_⟩;by_cases ei:q=j
 ·subst ei;rw[ab7 (aD hn)]at hi;injection hi with hi;subst hi;obtain⟨k5,k6⟩:=k4 q _ u hn hu;refine⟨k5,.p _ _ ?_⟩;rw[(k6.cH (by rw[aH];trivial)).2];exact hf
 rw[ac5 (fun e=>ei e.symm)]at hi;obtain⟨k5,k6⟩:=k4 q x u hi hu;exact⟨k5,k6.cK T⟩
end Go.AM
namespace Go.AM
open Go.RowKit
def pS:List Nat->List (Nat×AB)
 | []=>[]
 | n::r=>(n,.none)::pS r
theorem Bl{h:Nat->AB}:∀{l:List Nat} (k:Nat),app h (pS l) k=if k∈l then .none else h k
 | [],k=>by simp[pS,app]
 | n::l,k=>by
  show app (aT h n .none) (pS l) k=_;rw[Bl (l:=l) k];by_cases h1:k∈l
  ·simp[h1]
  by_cases h2:k=n
  ·subst h2;simp[h1,aH]
  simp[h1,h2,aV]
variable {A:cD}
theorem au.pack(hC:bI A.C)(s:AS)(id:Nat){bs:List AV}{cs:List HC}(hb:s.h id=.box bs)(hg:dP (bH bs)=true)(hp:wi s.h bs cs):au A s ⟨s.t,aT (app s.h (pS (bH bs))) id (.aN cs)⟩:=by
 intro S rho a w sim;obtain⟨g,ty,c,k1,k2,k3⟩:=yq sim (id:=id) trivial hb hg hp;have bY:(s.h id).live:=by rw[hb];trivial
 have at':∀j,(j=id/\aT (app s.h (pS (bH bs))) id (.aN cs) j=.aN cs)\/(j≠id/\j∈bH bs/\aT (app s.h (pS (bH bs))) id (.aN cs) j=.none)\/(j≠id/\¬j∈bH bs/\aT (app s.h (pS (bH bs))) id (.aN cs) j=s.h j):=fun j=>by
  by_cases e:j=id
  ·subst e;exact .inl ⟨rfl,aH _ _ _⟩
  rw[aV _ _ e,Bl];by_cases h:j∈bH bs
  ·exact .inr (.inl ⟨e,h,aap h⟩)
  exact .inr (.inr ⟨e,h,aaa h⟩)
 have T:lB S S w w cE cE rho rho s.h (aT (app s.h (pS (bH bs))) id (.aN cs)):=⟨fun _ h=>h,fun _ _=>rfl,fun j hj=>⟨by
   rcases at' j with⟨rfl,_⟩ | ⟨_,_,h⟩ | ⟨_,_,h⟩
   ·rw[hb];trivial
   ·rw[h]at hj;exact hj.elim
   ·rw[h]at hj;exact hj,fun _=>⟨trivial,rfl⟩⟩,fun j e hj=>by
   rcases at' j with⟨_,h⟩ | ⟨_,_,h⟩ | ⟨_,_,h⟩
   ·rw[h]at hj;cases hj
   ·rw[h]at hj;cases hj
   rw[h]at hj;exact hj⟩
 have owner:∀j g,(aT (app s.h (pS (bH bs))) id (.aN cs) j).live->hasB w (aT (app s.h (pS (bH bs))) id (.aN cs) j) (rho j) g->∃k,(s.h k).live/\hasB w (s.h k) (rho k) g/\((j=id/\(k=id\/k∈bH bs))\/(j=k/\j≠id/\¬j∈bH bs)):=fun j g hl ho=>by
  rcases at' j with⟨rfl,h⟩ | ⟨_,_,h⟩ | ⟨h1,h2,h⟩
  ·rw[h]at ho;rcases k3 g ho with h | ⟨n,h1,_,h3,h4⟩
   ·exact⟨j,bY,.inl h,.inl ⟨rfl,.inl rfl⟩⟩
   exact⟨n,h3,.inl h4,.inl ⟨rfl,.inr h1⟩⟩
  ·rw[h]at hl;exact hl.elim
  rw[h]at hl ho;exact⟨j,hl,ho,.inr ⟨rfl,h1,h2⟩⟩
 exact⟨S,rho,
 {tm:=fun j hj=>(sim.tm j hj).cK T
  sz:=sim.sz,df:=sim.df,nb:=sim.nb,pn:=sim.pn,ev:=sim.ev,s0:=sim.s0,st:=sim.st,sb:=sim.sb
  hp:=fun j _=>by
   show eK _ _ _ _ _ _ _ (aT (app s.h (pS (bH bs))) id (.aN cs) j);rcases at' j with⟨rfl,h⟩ | ⟨_,_,h⟩ | ⟨_,_,h⟩
   ·rw[h];exact⟨g,ty,c,k1,k2⟩
   ·rw[h];trivial
   rw[h];exact (sim.hp j trivial).cK T (fun _ _ _=>rfl) (fun _=>rfl)
  dj:=fun i j g _ _ li lj hi hj=>by
   obtain⟨k,l1,o1,c1⟩:=owner i g li hi;obtain⟨m,l2,o2,c2⟩:=owner j g lj hj;have:=sim.dj k m g trivial trivial l1 l2 o1 o2;subst this;rcases c1 with⟨rfl,c1⟩ | ⟨rfl,c1,c3⟩<;>rcases c2 with⟨rfl,c2⟩ | ⟨rfl,c2,c4⟩
   ·rfl
   ·rcases c1 with c1 | c1
    ·exact (c2 c1).elim
    exact (c4 c1).elim
   ·rcases c2 with c2 | c2
    ·exact (c1 c2).elim
    exact (c3 c2).elim
   rfl
  lv:=fun i g _ li hi=>by
   obtain⟨k,l1,o1,_⟩:=owner i g li hi;exact sim.lv k g trivial l1 o1
  fr:=sim.fr }⟩
def rm:List HC->List Nat->List AV
 | [],_=>[]
 | .p x::r,ns=>.p x::rm r ns
 | .row _ _::r,n::ns=>.ow n::rm r ns
 | .row _ _::r,[]=>.junk::rm r []
def Aw:List HC->List Nat->List (Nat×AB)
 | [],_=>[]
 | .p _::r,ns=>Aw r ns
 | .row e es::r,n::ns=>(n,.row e es)::Aw r ns
 | .row _ _::_,[]=>[]
def rowsOf:List HC->Nat
 | []=>0
 | .p _::r=>rowsOf r
 | .row _ _::r=>rowsOf r+1
def ku:List (Nat×AB)->AS->AS
 | [],s=>s
 | (d,b)::r,s=>ku r ⟨(gX d s).t,aT (gX d s).h d b⟩
theorem vp:∀{cs:List HC} {ns:List Nat},rowsOf cs=ns.length->(Aw cs ns).map (·.1)=ns
 | [],ns,h=>by cases ns with | nil=>rfl | cons n ns=>simp[rowsOf]at h
 | .p x::cs,ns,h=>by show (Aw cs ns).map _=_;exact vp h
 | .row e es::cs,[],h=>by simp[rowsOf]at h
 | .row e es::cs,n::ns,h=>by
  simp only[rowsOf,aaB,aaQ]at h;simp[Aw,vp h]
theorem IB:∀{cs:List HC} {ns:List Nat} {n:Nat} {b:AB},(n,b)∈Aw cs ns->∃(j:Nat) (e:TypeId) (es:List (List PV)),cs[j]?=some (.row e es)/\b=.row e es/\(rm cs ns)[j]?=some (.ow n)
 | [],ns,n,b,h=>by cases h
 | .p x::cs,ns,n,b,h=>by
  obtain⟨j,e,es,h1,h2,h3⟩:=IB (cs:=cs) (ns:=ns) h;exact⟨j+1,e,es,h1,h2,h3⟩
 | .row e es::cs,[],n,b,h=>by cases h
 | .row e es::cs,m::ns,n,b,h=>by
  rcases adq.1 h with h | h
  ·injection h with h1 h2;subst h1 h2;exact⟨0,e,es,rfl,rfl,rfl⟩
  obtain⟨j,e,es,h1,h2,h3⟩:=IB (cs:=cs) (ns:=ns) h;exact⟨j+1,e,es,h1,h2,h3⟩
theorem CO:∀{cs:List HC} {ns:List Nat} {j:Nat} {x:AV},rowsOf cs=ns.length->(rm cs ns)[j]?=some x->(∃z,cs[j]?=some (.p z)/\x=.p z)\/∃n e es,cs[j]?=some (.row e es)/\x=.ow n/\(n,.row e es)∈Aw cs ns
 | [],ns,j,x,_,h=>by simp[rm]at h
 | .p y::cs,ns,0,x,_,h=>by simp[rm]at h;exact .inl ⟨y,rfl,h.symm⟩
 | .p y::cs,ns,j+1,x,hl,h=>by
  have:=CO (cs:=cs) (ns:=ns) (j:=j) hl (by simpa [rm] using h);exact this
 | .row e es::cs,[],j,x,hl,_=>by simp[rowsOf]at hl
 | .row e es::cs,n::ns,0,x,_,h=>by simp[rm]at h;exact .inr ⟨n,e,es,rfl,h.symm,by simp[Aw]⟩
 | .row e es::cs,n::ns,j+1,x,hl,h=>by
  simp only[rowsOf,aaB,aaQ]at hl;rcases CO (cs:=cs) (ns:=ns) (j:=j) hl (by simpa [rm] using h) with h | ⟨m,e',de,h1,h2,h3⟩
  ·exact .inl h
  exact .inr ⟨m,e',de,h1,h2,by simp[Aw,h3]⟩
theorem xG:∀{cs:List HC} {ns:List Nat},(rm cs ns).length=cs.length
 | [],_=>rfl
 | .p x::cs,ns=>by simp[rm,xG (cs:=cs)]
 | .row e es::cs,[]=>by simp[rm,xG (cs:=cs)]
 | .row e es::cs,n::ns=>by simp[rm,xG (cs:=cs)]
theorem wv{S:Nat->Prop}{rho:Nat->Value}{a:Act}{w:World}:∀(l:List (Nat×AB)) (L:Nat->Prop) (s:AS),b7 A cE L S rho s a w->b7 A cE (fun k=>L k/\∀p∈l,p.1≠k) S rho (ku l s) a w
 | [],L,s,sim=>sim.qo (fun _ h=>h) (fun i=>⟨fun h=>h.1,fun h=>⟨h,by simp⟩⟩)
 | (d,b)::l,L,s,sim=>(wv l _ _ (sim.QC d b)).qo (fun _ h=>h) (fun i=>⟨fun ⟨h1,h2⟩=>⟨⟨h1,fun e=>h2 (d,b) (by simp) e.symm⟩,fun p hp=>h2 p (by simp[hp])⟩,fun ⟨⟨h1,h2⟩,h3⟩=>⟨h1,fun p hp=>by
   rcases adq.1 hp with h | h
   ·subst h;exact fun e=>h2 e.symm
   exact h3 p h⟩⟩)
theorem qv:∀(l:List (Nat×AB)) (s:AS) (k:Nat),(∀p∈l,p.1≠k)->(∀d,xm d (s.h k)=s.h k)->(ku l s).h k=s.h k
 | [],s,k,_,_=>rfl
 | (d,b)::l,s,k,h,hs=>by
  have hk:k≠d:=fun e=>h (d,b) (by simp) e.symm;have e1:aT (gX d s).h d b k=s.h k:=by
   rw[aV _ _ hk];show aT (fun k=>xm d (s.h k)) d .none k=_;rw[aV _ _ hk];exact hs d
  show (ku l ⟨(gX d s).t,aT (gX d s).h d b⟩).h k=_;rw[qv l _ k (fun p hp=>h p (by simp[hp])) (fun d'=>by show xm d' (aT (gX d s).h d b k)=aT (gX d s).h d b k;rw[e1];exact hs d')];exact e1
theorem yF:∀(l:List (Nat×AB)) (s:AS) (k:Nat) (b:AB),(l.map (·.1)).Nodup->(∀d,xm d b=b)->(k,b)∈l->(ku l s).h k=b
 | [],s,k,b,_,_,h=>by cases h
 | (d,b')::l,s,k,b,hn,hb,h=>by
  simp only[aa8,aai]at hn;show (ku l ⟨(gX d s).t,aT (gX d s).h d b'⟩).h k=_;rcases adq.1 h with h | h
  ·injection h with h1 h2;subst h1 h2;rw[qv l _ k (fun p hp e=>hn.1 (adS.2 ⟨p,hp,e⟩)) (fun d'=>by show xm d' (aT (gX k s).h k b k)=aT (gX k s).h k b k;rw[aH];exact hb d')];exact aH _ _ _
  exact yF l _ k b hn.2 hb h
theorem pT:∀{l:List Nat},dP l=true->l.Nodup
 | [],_=>by simp
 | n::l,h=>by
  simp[dP]at h;refine aai.2 ⟨fun hm=>?_,pT h.2.2⟩;rw[mf.2 hm]at h;cases h.1
theorem au.open(hC:bI A.C)(s:AS)(id:Nat)(ns:List Nat){cs:List HC}(hb:s.h id=.aN cs)(hl:rowsOf cs=ns.length)(hg:dP ns=true)(hid:mS id ns=false):
  au A s ⟨(ku (Aw cs ns) s).t,aT (ku (Aw cs ns) s).h id (.box (rm cs ns))⟩:=by
 intro S rho a w p6;have Y9:=vp hl;have Oo:((Aw cs ns).map (·.1)).Nodup:=by rw[Y9];exact pT hg
 have s_:∀n,n∈ns↔∃b,(n,b)∈Aw cs ns:=fun n=>by rw[show (n∈ns)=(n∈(Aw cs ns).map (·.1)) by rw[Y9]];simp
 have Ei:¬id∈ns:=fun h=>by rw[mf.2 h]at hid;cases hid
 have sim:=wv (Aw cs ns) cE s p6;have sim:b7 A cE (fun k=>¬k∈ns) S rho (ku (Aw cs ns) s) a w:=sim.qo (fun _ h=>h) (fun i=>⟨fun h=>⟨trivial,fun p hp e=>h (by rw[s_,<-e];exact⟨p.2,hp⟩)⟩,fun ⟨_,h⟩ hm=>by obtain⟨b,hb'⟩:=(s_ i).1 hm;exact h _ hb' rfl⟩);obtain⟨s1,Gd⟩:∃s1,s1=ku (Aw cs ns) s:=⟨_,rfl⟩;have yG:s1.h id=.aN cs:=by
  rw[Gd,qv _ _ id (fun p hp e=>Ei (by rw[s_,<-e];exact⟨p.2,hp⟩)) (fun d=>by rw[hb];rfl),hb]
 have UI:∀n b,(n,b)∈Aw cs ns->s1.h n=b:=fun n b hm=>by
  obtain⟨j,e,es,_,rfl,_⟩:=IB hm;rw[Gd];exact yF _ _ n _ Oo (fun d=>rfl) hm
 rw[<-Gd]at sim ⊢;have hh:=sim.hp id Ei;rw[yG]at hh;obtain⟨g,ty,c,k1,hB⟩:=hh;have J2:cC (rho id)=some g:=by rw[k1];rfl
 have bY:(s1.h id).live:=by rw[yG];trivial
 have place:∀n,n∈ns->∃(j:Nat) (e:TypeId) (es:List (List PV)) (u:Value),cs[j]?=some (.row e es)/\(rm cs ns)[j]?=some (.ow n)/\c[j]?=some u/\s1.h n=.row e es/\(n,AB.row e es)∈Aw cs ns:=fun n hm=>by
  obtain⟨b,hb'⟩:=(s_ n).1 hm;obtain⟨j,e,es,h1,rfl,h3⟩:=IB hb';obtain⟨u,hu⟩:=jG hB.sz.symm (aD h1);exact⟨j,e,es,u,h1,h3,hu,UI n _ hb',hb'⟩
 obtain⟨F,hF⟩:∃F:Nat->Value,∀n,n∈ns->∃(j:Nat) (e:TypeId) (es:List (List PV)),cs[j]?=some (.row e es)/\(rm cs ns)[j]?=some (.ow n)/\c[j]?=some (F n)/\s1.h n=.row e es/\(n,AB.row e es)∈Aw cs ns:=by
  have ex:∀n,∃u:Value,n∈ns->∃(j:Nat) (e:TypeId) (es:List (List PV)),cs[j]?=some (.row e es)/\(rm cs ns)[j]?=some (.ow n)/\c[j]?=some u/\s1.h n=.row e es/\(n,AB.row e es)∈Aw cs ns:=fun n=>by
   by_cases hm:n∈ns
   ·obtain⟨j,e,es,u,h⟩:=place n hm;exact⟨u,fun _=>⟨j,e,es,h⟩⟩
   exact⟨undef,fun h=>(hm h).elim⟩
  exact⟨fun n=>(ex n).choose,fun n=>(ex n).choose_spec⟩
 have Ph:∀{cs:List HC} {ns:List Nat} {i j n:Nat},rowsOf cs=ns.length->dP ns=true->(rm cs ns)[i]?=some (.ow n)->(rm cs ns)[j]?=some (.ow n)->i=j:=by
  intro cs ns i j n hl hg h1 h2;have hcn:∀{cs:List HC} {ns:List Nat},rowsOf cs=ns.length->bH (rm cs ns)=ns:=by
   intro cs
   induction cs with
   | nil=>intro ns h;cases ns with | nil=>rfl | cons n ns=>simp[rowsOf]at h
   | cons x cs ih=>
    intro ns h;cases x with
    | p x=>exact ih h
    | row e es=>
     cases ns with
     | nil=>simp[rowsOf]at h
     | cons n ns=>
      simp only[rowsOf,aaB,aaQ]at h;show n::bH (rm cs ns)=_;rw[ih h]
  exact oQ (by rw[hcn hl];exact hg) h1 h2
 obtain⟨rho',QR⟩:∃rho':Nat->Value,rho'=fun k=>if k∈ns then F k else rho k:=⟨_,rfl⟩;have TA:∀k,k∈ns->rho' k=F k:=fun k hk=>by rw[QR];exact aap hk
 have GX:∀k,¬k∈ns->rho' k=rho k:=fun k hk=>by rw[QR];exact aaa hk
 have We:∀k,(k=id/\aT s1.h id (.box (rm cs ns)) k=.box (rm cs ns))\/(k≠id/\aT s1.h id (.box (rm cs ns)) k=s1.h k):=fun k=>by
  by_cases e:k=id
  ·subst e;exact .inl ⟨rfl,aH _ _ _⟩
  exact .inr ⟨e,aV _ _ e⟩
 have T:lB S S w w (fun k=>¬k∈ns) cE rho rho' s1.h (aT s1.h id (.box (rm cs ns))):=⟨fun _ h=>h,fun _ _=>rfl,fun j hj=>⟨by
   rcases We j with⟨rfl,h⟩ | ⟨_,h⟩
   ·rw[yG];trivial
   ·rw[h]at hj;exact hj,fun hn=>⟨trivial,GX j hn⟩⟩,fun j e hj=>by
   rcases We j with⟨_,h⟩ | ⟨_,h⟩
   ·rw[h]at hj;cases hj
   rw[h]at hj;exact hj⟩
 have owner:∀j k,(aT s1.h id (.box (rm cs ns)) j).live->hasB w (aT s1.h id (.box (rm cs ns)) j) (rho' j) k->∃o,¬o∈ns/\(s1.h o).live/\hasB w (s1.h o) (rho o) k/\(if j∈ns then o=id else o=j):=fun j k hl ho=>by
  by_cases hj:j∈ns
  ·obtain⟨i,e,es,h1,h2,h3,h4,h5⟩:=hF j hj;have Wf:j≠id:=fun e=>Ei (e▸hj);rw[aV _ _ Wf,h4,TA j hj]at ho;refine⟨id,Ei,bY,?_,by rw[aap hj]⟩;rw[yG];exact .inr <| .inl ⟨cs,g,rfl,J2,c,ty,_,i,_,F j,hB.hp,h1,trivial,h3,aI rfl ho⟩
  rw[GX j hj]at ho;rcases We j with⟨rfl,h⟩ | ⟨_,h⟩
  ·rw[h]at ho;exact⟨j,hj,bY,.inl (aI rfl ho),by rw[aaa hj]⟩
  rw[h]at hl ho;exact⟨j,hj,hl,ho,by rw[aaa hj]⟩
 exact⟨S,rho',
 {tm:=fun j hj=>(sim.tm j hj).cK T
  sz:=sim.sz,df:=sim.df,nb:=sim.nb
  pn:=fun k hk=>by rw[GX k fun h=>by have:=oR hg h;omega];exact sim.pn k hk
  ev:=sim.ev,s0:=sim.s0,st:=sim.st,sb:=sim.sb
  hp:=fun j _=>by
   show eK _ _ _ _ _ _ _ (aT s1.h id (.box (rm cs ns)) j);rcases We j with⟨rfl,h⟩ | ⟨b8,h⟩
   ·rw[h];refine⟨g,ty,c,by rw[GX j Ei];exact k1,hB.hp,by rw[xG];exact hB.sz,fun i x u hi hu=>?_⟩;rcases CO hl hi with⟨z,h1,rfl⟩ | ⟨n,e,es,h1,rfl,h3⟩
    ·exact⟨(hB.cell i _ u h1 hu).1,.p _ _ (hB.cell i _ u h1 hu).2⟩
    refine⟨(hB.cell i _ u h1 hu).1,.ow n u fun _=>⟨trivial,?_⟩⟩;have hm:n∈ns:=(s_ n).2 ⟨_,h3⟩;obtain⟨i',e',de,q1,q2,q3,q4,q5⟩:=hF n hm;have:=Ph hl hg q2 hi;subst this;rw[TA n hm];rw[q3]at hu;injection hu with hu;exact hu.symm
   rw[h];by_cases hj:j∈ns
   ·obtain⟨i,e,es,h1,h2,h3,h4,h5⟩:=hF j hj;rw[h4];show aG _ _ _ _ _ (rho' j);rw[TA j hj];exact (hB.cell i _ _ h1 h3).2
   exact (sim.hp j hj).cK T (fun _ _ _=>rfl) (fun _=>GX j hj)
  dj:=fun i j k _ _ li lj hi hj=>by
   obtain⟨o,o1,o2,o3,o4⟩:=owner i k li hi;obtain⟨p,p1,p2,p3,p4⟩:=owner j k lj hj;have:=sim.dj o p k o1 p1 o2 p2 o3 p3;subst this;by_cases ei:i∈ns
   ·rw[aap ei]at o4;subst o4;have hi:hasB w (aT s1.h o (.box (rm cs ns)) i) (rho' i) k:=hi;obtain⟨i1,e1,V6,q1,q2,q3,q4,q5⟩:=hF i ei;have Y_:cC (F i)=some k:=by
     rw[aV _ _ (fun e=>Ei (by rw[<-e];exact ei)),q4,TA i ei]at hi;exact aI rfl hi
    by_cases ej:j∈ns
    ·have hj:hasB w (aT s1.h o (.box (rm cs ns)) j) (rho' j) k:=hj;obtain⟨j1,e2,nH,r1,r2,r3,r4,r5⟩:=hF j ej;have XH:cC (F j)=some k:=by
      rw[aV _ _ (fun e=>Ei (by rw[<-e];exact ej)),r4,TA j ej]at hj;exact aI rfl hj
     have:=hB.dis i1 j1 _ _ _ _ k q1 r1 q3 r3 trivial trivial Y_ XH;subst this;rw[q2]at r2;injection r2 with r2;injection r2
    rw[aaa ej]at p4;subst p4;exfalso;have hj:hasB w (aT s1.h o (.box (rm cs ns)) o) (rho' o) k:=hj;rw[aH,GX o ej]at hj;have hj:=aI rfl hj;rw[J2]at hj;injection hj with hj;exact hB.top i1 _ _ k q1 q3 trivial Y_ hj.symm
   rw[aaa ei]at o4;by_cases ej:j∈ns
   ·rw[aap ej]at p4;subst o4;subst p4;exfalso;have hi:hasB w (aT s1.h o (.box (rm cs ns)) o) (rho' o) k:=hi;have hj:hasB w (aT s1.h o (.box (rm cs ns)) j) (rho' j) k:=hj;obtain⟨j1,e2,nH,r1,r2,r3,r4,r5⟩:=hF j ej;have XH:cC (F j)=some k:=by
     rw[aV _ _ (fun e=>Ei (by rw[<-e];exact ej)),r4,TA j ej]at hj;exact aI rfl hj
    rw[aH,GX o ei]at hi;have hi:=aI rfl hi;rw[J2]at hi;injection hi with hi;exact hB.top j1 _ _ k r1 r3 trivial XH hi.symm
   rw[aaa ej]at p4;exact o4.symm.trans p4
  lv:=fun i k _ li hi=>by
   obtain⟨o,o1,o2,o3,_⟩:=owner i k li hi;exact sim.lv o k o1 o2 o3
  fr:=sim.fr }⟩
end Go.AM
namespace Go.AM
open Go.RowKit
def cellAt(w:World)(g p:Nat)(u:Value):Prop:=∃(c:Array Value) (ty:TypeId) (m:Nat×Nat),w.heap[g]?=some (.cells c ty m)/\c[p]?=some u
variable {w:World}
theorem nn{g p:Nat}{u v:Value}(h:cellAt w g p u)(k:cellAt w g p v):u=v:=by
 obtain⟨c,ty,m,h1,h2⟩:=h;obtain⟨c',YR,m',k1,k2⟩:=k;rw[h1]at k1;injection k1 with k1;injection k1 with k1;subst k1;rw[h2]at k2;injection k2
variable {es:List (List HX)}
theorem dT{g a j:Nat}{u:Value}:dF w es g a j u↔∃r e xs,es[a]?=some r/\r[j]?=some (.row e xs)/\cellAt w g (a*r.length+j) u:=
 ⟨fun ⟨r,e,xs,c,ty,m,h1,h2,h3,h4⟩=>⟨r,e,xs,h1,h2,c,ty,m,h3,h4⟩,fun ⟨r,e,xs,h1,h2,c,ty,m,h3,h4⟩=>⟨r,e,xs,c,ty,m,h1,h2,h3,h4⟩⟩
variable {α:Type} {e:TypeId}
theorem aG.re{β:Type}{P:Program}{R:α->Value->Prop}{R':β->Value->Prop}{es:List (List α)}{nH:List (List β)}{v:Value}(h:aG P w R e es v)(hl:nH.length=es.length)
  (hk:∀(a:Nat) r r2,es[a]?=some r->nH[a]?=some r2->r2.length=r.length)
  (hc:∀(a:Nat) r r2 (j:Nat) x x2 u,es[a]?=some r->nH[a]?=some r2->r[j]?=some x->r2[j]?=some x2->(∀g,cC v=some g->cellAt w g (a*r.length+j) u)->R x u->R' x2 u):aG P w R' e nH v:=by
 obtain⟨i,xs,h1,h2,h3,h4,h5,h6⟩:=h;have old:∀{a:Nat} {r2:List β},nH[a]?=some r2->∃r,es[a]?=some r:=fun {a r2} ha=>⟨_,acg (by rw[<-hl];exact aD ha)⟩;refine⟨i,xs,h1,h2,by rw[hl];exact h3,fun r2 iO=>?_,h5,fun a r2 j x2 ha hj=>?_⟩
 ·obtain⟨a,ha⟩:=ab8.1 iO;obtain⟨r,hr⟩:=old ha;rw[hk a r r2 hr ha];exact h4 r (aad hr)
 obtain⟨r,hr⟩:=old ha;have hlen:=hk a r r2 hr ha;obtain⟨x,hx⟩:∃x,r[j]?=some x:=⟨_,acg (by rw[<-hlen];exact aD hj)⟩;obtain⟨u,hu,An⟩:=h6 a r j x hr hx;refine⟨u,hu,hc a r r2 j x x2 u hr ha hx hj (fun g hg=>?_) An⟩;have xj:=h4 r (aad hr);rcases h3.2 with⟨hn,_⟩ | ⟨g',cap,cur,hv,_,DG,k1,k2,k3,k4⟩
 ·rw[hn]at hg;cases hg
 rw[hv]at hg;obtain rfl:=iP.1 hg;refine⟨cur,_,_,DG,?_⟩;rw[xj];rw[<-k4,aa7]at hu;split at hu
 ·simpa using hu
 cases hu
variable {A:cD}
theorem au.Wg(hC:bI A.C)(s:AS)(id:Nat){es:List (List PV)}(hb:s.h id=.row e es):au A s ⟨s.t,aT s.h id (.az e (es.map s9))⟩:=by
 intro S rho a w sim;have GY:∀g k j u,¬dF w (es.map s9) g k j u:=fun g k j u h=>by
  obtain⟨r,e',rN,h1,h2,_⟩:=dT.1 h;rw[aak]at h1;obtain⟨q,_,rfl⟩:=acq.1 h1;rw[s9,aak]at h2;obtain⟨z,_,hz⟩:=acq.1 h2;cases hz
 have hh:=sim.hp id trivial;rw[hb]at hh;have hh:aG A.C.P w (aO S w) e es (rho id):=hh;refine⟨S,rho,sim.Cl hC id trivial (by rw[hb];trivial) _ (fun e' h=>by rw[hb];exact h) w rfl rfl rfl rfl (fun _ _=>rfl) (fun T=>?_) (fun g h=>?_)⟩
 ·refine⟨hh.re (by simp) (fun k r r2 h1 h2=>?_) (fun k r r2 j x x2 u h1 h2 h3 h4 _ hx=>?_),⟨fun g k j u b _ h=>absurd h (GY _ _ _ _),fun g k j k' j' u u' b _ h=>absurd h (GY _ _ _ _)⟩⟩
  ·rw[aak,h1]at h2;injection h2 with h2;rw[<-h2,s9,aej]
  rw[aak,h1]at h2;injection h2 with h2;rw[<-h2,s9,aak,h3]at h4;injection h4 with h4;rw[<-h4];exact xy hx
 rw[dS]at h;rcases h with h | ⟨g',k,j,u,_,h,_⟩
 ·exact .inl h
 exact absurd h (GY _ _ _ _)
def IC:HX->Prop
 | .av (.p _)=>True
 | .av .nl=>True
 | .row _ _=>True
 | _=>False
def xH(es:List (List HX)):Prop:=∀r∈es,∀x∈r,IC x
theorem Kd(h:xH es)(d:Nat):(es.map fun r=>r.map (HX.cS (sc d)))=es:=by
 conv=>rhs;rw[<-List.map_id es]
 refine aaG fun r hr=>?_;show r.map _=r
 conv=>rhs;rw[<-List.map_id r]
 refine aaG fun x hx=>?_;have:=h r hr x hx;cases x with
 | row e es=>rfl
 | av y=>cases y<;>first | rfl | exact this.elim
theorem iF{l:List α}{i a:Nat}{x y:α}(h:(l.set i x)[a]?=some y):(a=i/\y=x/\i<l.length)\/(a≠i/\l[a]?=some y):=by
 by_cases e:a=i
 ·subst e;have hl:=aD h;rw[aaM]at hl;rw[ab7 hl]at h;injection h with h;exact .inl ⟨rfl,h.symm,hl⟩
 rw[ac5 (fun e'=>e e'.symm)]at h;exact .inr ⟨e,h⟩
variable {e':TypeId}
theorem au.rq(hC:bI A.C)(s:AS)(id i j d:Nat){r:List HX}{xs:List (List PV)}(hd:d<100000)(hid:id≠d)(hb:s.h id=.az e es)(hs:xH es)(hr:es[i]?=some r)(hj:r[j]?=some (.row e' xs)):
  au A s ⟨(gX d s).t,aT (aT (gX d s).h d (.row e' xs)) id (.az e (es.set i (r.set j (.av (.ow d)))))⟩:=by
 intro S rho a w p6;have sim:=p6.free d (.row e' xs);obtain⟨h1,XI⟩:∃h1,h1=aT (gX d s).h d (.row e' xs):=⟨_,rfl⟩;have yG:h1 id=.az e es:=by
  rw[XI,aV _ _ hid];show aT (fun k=>xm d (s.h k)) d .none id=_;rw[aV _ _ hid,hb];show AB.az e _=_;rw[Kd hs]
 have Za:h1 d=.row e' xs:=by rw[XI,aH]
 rw[<-XI]at sim ⊢;obtain⟨nH,qw⟩:∃nH,nH=es.set i (r.set j (.av (.ow d))):=⟨_,rfl⟩;rw[<-qw];have hh:=sim.hp id hid;have hh:eK S w A.C.P (fun k=>k≠d) rho h1 id (h1 id):=hh;rw[yG]at hh;obtain⟨hR,hS⟩:=hh;obtain⟨g,u,hg,Wh,An⟩:=hR.DO hr hj;have An:aG A.C.P w (aO S w) e' xs u:=An;have bY:(h1 id).live:=by rw[yG];trivial
 have f_:∀g' k p v,dF w nH g' k p v->dF w es g' k p v/\¬(k=i/\p=j):=by
  intro g' k p v hc;obtain⟨q,e2,MI,q1,q2,q3⟩:=dT.1 hc;rw[qw]at q1;rcases iF q1 with⟨rfl,rfl,_⟩ | ⟨hk,q1⟩
  ·rcases iF q2 with⟨_,hx,_⟩ | ⟨hp,q2⟩
   ·cases hx
   exact⟨dT.2 ⟨r,e2,MI,hr,q2,by rw[aaM]at q3;exact q3⟩,fun h=>hp h.2⟩
  exact⟨dT.2 ⟨q,e2,MI,q1,q2,q3⟩,fun h=>hk h.1⟩
 have hown:∀b,cC u=some b->hasB w (h1 id) (rho id) b:=fun b h=>by rw[yG,dS];exact .inr ⟨g,i,j,u,hg,Wh,h⟩
 obtain⟨rho',lF⟩:∃rho',rho'=aT rho d u:=⟨_,rfl⟩;have rd:rho' d=u:=by rw[lF,aH]
 have ro:∀k,k≠d->rho' k=rho k:=fun k h=>by rw[lF,aV _ _ h]
 have T:lB S S w w (fun k=>k≠d) cE rho rho' h1 (aT h1 id (.az e nH)):=⟨fun _ h=>h,fun _ _=>rfl,fun k hk=>⟨by
   rcases aW h1 id (.az e nH) k with⟨rfl,h⟩ | ⟨_,h⟩
   ·rw[yG];trivial
   ·rw[h]at hk;exact hk,fun h=>⟨trivial,ro k h⟩⟩,fun k e2 hk=>by
   rcases aW h1 id (.az e nH) k with⟨rfl,h⟩ | ⟨_,h⟩
   ·rw[h]at hk;rw[yG];exact hk
   rw[h]at hk;exact hk⟩
 have owner:∀k b,(aT h1 id (.az e nH) k).live->hasB w (aT h1 id (.az e nH) k) (rho' k) b->∃o,o≠d/\(h1 o).live/\hasB w (h1 o) (rho o) b/\(if k=d then o=id/\cC u=some b else o=k/\(k=id->cC u≠some b)):=by
  intro k b hl ho;by_cases hk:k=d
  ·subst hk;rw[aV _ _ (fun e=>hid e.symm),Za,rd]at ho;have ho:=aI rfl ho;exact⟨id,hid,bY,hown b ho,by rw[aap rfl];exact⟨rfl,ho⟩⟩
  rcases aW h1 id (.az e nH) k with⟨rfl,h⟩ | ⟨b8,h⟩
  ·rw[h,ro k hk]at ho;rw[dS]at ho;refine⟨k,hk,bY,?_,?_⟩
   ·rw[yG,dS];rcases ho with ho | ⟨g',k',p,v,o1,o2,o3⟩
    ·exact .inl ho
    exact .inr ⟨g',k',p,v,o1,(f_ _ _ _ _ o2).1,o3⟩
   rw[aaa hk];refine⟨rfl,fun _ Zb=>?_⟩;rcases ho with ho | ⟨g',k',p,v,o1,o2,o3⟩
   ·rw[hg]at ho;injection ho with ho;exact hS.top g i j u b hg Wh Zb ho.symm
   rw[hg]at o1;injection o1 with o1;subst o1;obtain⟨c1,c2⟩:=f_ _ _ _ _ o2;exact c2 (hS.dis g k' p i j v u b hg c1 Wh o3 Zb)
  rw[h,ro k hk]at ho;rw[h]at hl;exact⟨k,hk,hl,ho,by rw[aaa hk];exact⟨rfl,fun e=>absurd e b8⟩⟩
 exact⟨S,rho',
 {tm:=fun k hk=>(sim.tm k hk).cK T
  sz:=sim.sz,df:=sim.df,nb:=sim.nb
  pn:=fun k hk=>by rw[ro k (by omega)];exact sim.pn k hk
  ev:=sim.ev,s0:=sim.s0,st:=sim.st,sb:=sim.sb
  hp:=fun k _=>by
   show eK _ _ _ _ _ _ _ (aT h1 id (.az e nH) k);by_cases hk:k=d
   ·subst hk;rw[aV _ _ (fun e=>hid e.symm),Za];show aG _ _ _ _ _ (rho' k);rw[rd];exact An
   rcases aW h1 id (.az e nH) k with⟨rfl,h⟩ | ⟨b8,h⟩
   ·rw[h];show aG _ _ _ _ _ (rho' k)/\uZ _ _ (rho' k);rw[ro k hk];refine⟨hR.re (by rw[qw,aaM]) (fun p q q2 z1 z2=>?_) (fun p q q2 m x x2 v z1 z2 z3 z4 hcell hx=>?_),⟨fun g' p m v b c1 c2 c3=>hS.top g' p m v b c1 (f_ _ _ _ _ c2).1 c3,fun g' p m p' m' v v' b c1 c2 c3 c4 c5=>hS.dis g' p m p' m' v v' b c1 (f_ _ _ _ _ c2).1 (f_ _ _ _ _ c3).1 c4 c5⟩⟩
    ·rw[qw]at z2;rcases iF z2 with⟨rfl,rfl,_⟩ | ⟨_,z2⟩
     ·rw[hr]at z1;injection z1 with z1;rw[<-z1,aaM]
     rw[z1]at z2;injection z2 with z2;rw[z2]
    have wx:rK S w A.C.P (fun k=>k≠d) rho h1 x v->x2=x->rK S w A.C.P cE rho' (aT h1 k (.az e nH)) x2 v:=fun hx UJ=>by
     rw[UJ];cases x with
     | av y=>exact aY.cK T hx
     | row e2 MI=>exact hx
    rw[qw]at z2;rcases iF z2 with⟨rfl,rfl,_⟩ | ⟨_,z2⟩
    ·rw[hr]at z1;injection z1 with z1;subst z1;rcases iF z4 with⟨rfl,rfl,_⟩ | ⟨_,z4⟩
     ·obtain⟨q',_,_,c1,_,c2⟩:=dT.1 Wh;rw[hr]at c1;injection c1 with c1;subst c1;have:=nn (hcell g hg) c2;subst this;exact .ow d _ fun _=>⟨trivial,rd.symm⟩
     rw[z3]at z4;injection z4 with z4;exact wx hx z4.symm
    rw[z1]at z2;injection z2 with z2;subst z2;rw[z3]at z4;injection z4 with z4;exact wx hx z4.symm
   rw[h];exact (sim.hp k hk).cK T (fun _ _ _=>rfl) (fun _=>ro k hk)
  dj:=fun k m b _ _ lk lm hk hm=>by
   obtain⟨o,o1,o2,o3,o4⟩:=owner k b lk hk;obtain⟨p,p1,p2,p3,p4⟩:=owner m b lm hm;have:=sim.dj o p b o1 p1 o2 p2 o3 p3;subst this;by_cases ek:k=d<;>by_cases em:m=d
   ·rw[ek,em]
   ·rw[aap ek]at o4;rw[aaa em]at p4;exact absurd o4.2 (p4.2 (p4.1.symm.trans o4.1))
   ·rw[aaa ek]at o4;rw[aap em]at p4;exact absurd p4.2 (o4.2 (o4.1.symm.trans p4.1))
   rw[aaa ek]at o4;rw[aaa em]at p4;exact o4.1.symm.trans p4.1
  lv:=fun k b _ lk hk=>by
   obtain⟨o,o1,o2,o3,_⟩:=owner k b lk hk;exact sim.lv o b o1 o2 o3
  fr:=sim.fr }⟩
theorem au.Bm(hC:bI A.C)(s:AS)(id i j d:Nat){r:List HX}{xs:List (List PV)}(hid:id≠d)(hb:s.h id=.az e es)(Sm:s.h d=.row e' xs)(hr:es[i]?=some r)(hj:r[j]?=some (.av (.ow d))):
  au A s ⟨s.t,aT (aT s.h d .none) id (.az e (es.set i (r.set j (.row e' xs))))⟩:=by
 intro S rho a w sim;obtain⟨nH,qw⟩:∃nH,nH=es.set i (r.set j (.row e' xs)):=⟨_,rfl⟩;rw[<-qw];have hh:=sim.hp id trivial;rw[hb]at hh;obtain⟨hR,hS⟩:=hh;have bY:(s.h id).live:=by rw[hb];trivial
 have XJ:(s.h d).live:=by rw[Sm];trivial
 have Sn:=sim.hp d trivial;rw[Sm]at Sn;have Sn:aG A.C.P w (aO S w) e' xs (rho d):=Sn;have up:∀k,(k=id/\aT (aT s.h d .none) id (.az e nH) k=.az e nH)\/(k=d/\k≠id/\aT (aT s.h d .none) id (.az e nH) k=.none)\/(k≠d/\k≠id/\aT (aT s.h d .none) id (.az e nH) k=s.h k):=fun k=>by
  by_cases h1:k=id
  ·subst h1;exact .inl ⟨rfl,aH _ _ _⟩
  by_cases h2:k=d
  ·subst h2;exact .inr (.inl ⟨rfl,h1,by rw[aV _ _ h1,aH]⟩)
  exact .inr (.inr ⟨h2,h1,by rw[aV _ _ h1,aV _ _ h2]⟩)
 have T:lB S S w w cE cE rho rho s.h (aT (aT s.h d .none) id (.az e nH)):=⟨fun _ h=>h,fun _ _=>rfl,fun k hk=>⟨by
   rcases up k with⟨rfl,h⟩ | ⟨_,_,h⟩ | ⟨_,_,h⟩
   ·rw[hb];trivial
   ·rw[h]at hk;exact hk.elim
   ·rw[h]at hk;exact hk,fun h=>⟨trivial,rfl⟩⟩,fun k e2 hk=>by
   rcases up k with⟨rfl,h⟩ | ⟨_,_,h⟩ | ⟨_,_,h⟩
   ·rw[h]at hk;rw[hb];exact hk
   ·rw[h]at hk;cases hk
   rw[h]at hk;exact hk⟩
 have hval:∀g u,cC (rho id)=some g->cellAt w g (i*r.length+j) u->u=rho d:=fun g u hg hu=>by
  obtain⟨i0,ws,q1,q2,q3,q4,q5,q6⟩:=hR;obtain⟨u2,p1,p2⟩:=q6 i r j _ hr hj;have p2:aY S w A.C.P cE rho s.h (.ow d) u2:=p2;have:=(p2.cH (by rw[Sm];trivial)).2;rw[<-this];have xj:=q4 r (aad hr);rcases q3.2 with⟨hn,_⟩ | ⟨g',cap,cur,hv,_,DG,k1,k2,k3,k4⟩
  ·rw[hn]at hg;cases hg
  rw[hv]at hg;obtain rfl:=iP.1 hg;refine nn hu ⟨cur,_,_,DG,?_⟩;rw[xj];rw[<-k4,aa7]at p1;split at p1
  ·simpa using p1
  cases p1
 have f_:∀g k p v,cC (rho id)=some g->dF w nH g k p v->(dF w es g k p v/\¬(k=i/\p=j))\/(k=i/\p=j/\v=rho d):=by
  intro g k p v hg hc;obtain⟨q,e2,MI,q1,q2,q3⟩:=dT.1 hc;rw[qw]at q1;rcases iF q1 with⟨rfl,rfl,_⟩ | ⟨hk,q1⟩
  ·rw[aaM]at q3;rcases iF q2 with⟨rfl,_,_⟩ | ⟨hp,q2⟩
   ·exact .inr ⟨rfl,rfl,hval g v hg q3⟩
   exact .inl ⟨dT.2 ⟨r,e2,MI,hr,q2,q3⟩,fun h=>hp h.2⟩
  exact .inl ⟨dT.2 ⟨q,e2,MI,q1,q2,q3⟩,fun h=>hk h.1⟩
 have inner:∀g k p v b,cC (rho id)=some g->dF w es g k p v->cC v=some b->cC (rho d)≠some b:=fun g k p v b h1 h2 h3 h4=>
  hid (sim.dj id d b trivial trivial bY XJ (by rw[hb,dS];exact .inr ⟨g,k,p,v,h1,h2,h3⟩) (.inl h4))
 have owner:∀k b,(aT (aT s.h d .none) id (.az e nH) k).live->hasB w (aT (aT s.h d .none) id (.az e nH) k) (rho k) b->∃o,(s.h o).live/\hasB w (s.h o) (rho o) b/\(o=k/\k≠d\/o=d/\k=id):=by
  intro k b hl ho;rcases up k with⟨rfl,h⟩ | ⟨_,_,h⟩ | ⟨h1,_,h⟩
  ·rw[h,dS]at ho;rcases ho with ho | ⟨g,k',p,v,o1,o2,o3⟩
   ·exact⟨k,bY,.inl ho,.inl ⟨rfl,hid⟩⟩
   rcases f_ _ _ _ _ o1 o2 with⟨c1,_⟩ | ⟨_,_,rfl⟩
   ·exact⟨k,bY,by rw[hb,dS];exact .inr ⟨g,k',p,v,o1,c1,o3⟩,.inl ⟨rfl,hid⟩⟩
   exact⟨d,XJ,.inl o3,.inr ⟨rfl,rfl⟩⟩
  ·rw[h]at hl;exact hl.elim
  rw[h]at hl ho;exact⟨k,hl,ho,.inl ⟨rfl,h1⟩⟩
 exact⟨S,rho,
 {tm:=fun k hk=>(sim.tm k hk).cK T
  sz:=sim.sz,df:=sim.df,nb:=sim.nb,pn:=sim.pn
  ev:=sim.ev,s0:=sim.s0,st:=sim.st,sb:=sim.sb
  hp:=fun k _=>by
   show eK _ _ _ _ _ _ _ (aT (aT s.h d .none) id (.az e nH) k);rcases up k with⟨rfl,h⟩ | ⟨_,_,h⟩ | ⟨h1,b8,h⟩
   ·rw[h];refine⟨hR.re (by rw[qw,aaM]) (fun p q q2 z1 z2=>?_) (fun p q q2 m x x2 v z1 z2 z3 z4 hcell hx=>?_),⟨fun g p m v b c1 c2 c3=>?_,fun g p m p' m' v v' b c1 c2 c3 c4 c5=>?_⟩⟩
    ·rw[qw]at z2;rcases iF z2 with⟨rfl,rfl,_⟩ | ⟨_,z2⟩
     ·rw[hr]at z1;injection z1 with z1;rw[<-z1,aaM]
     rw[z1]at z2;injection z2 with z2;rw[z2]
    ·have wx:rK S w A.C.P cE rho s.h x v->x2=x->rK S w A.C.P cE rho (aT (aT s.h d .none) k (.az e nH)) x2 v:=fun hx UJ=>by
      rw[UJ];cases x with
      | av y=>exact aY.cK T hx
      | row e2 MI=>exact hx
     rw[qw]at z2;rcases iF z2 with⟨rfl,rfl,_⟩ | ⟨_,z2⟩
     ·rw[hr]at z1;injection z1 with z1;subst z1;rcases iF z4 with⟨rfl,rfl,_⟩ | ⟨_,z4⟩
      ·have hx:rK S w A.C.P cE rho s.h x v:=hx;rw[hj]at z3;injection z3 with z3;subst z3;have hx:aY S w A.C.P cE rho s.h (.ow d) v:=hx;show aG A.C.P w (aO S w) e' xs v;rw[(hx.cH (by rw[Sm];trivial)).2];exact Sn
      rw[z3]at z4;injection z4 with z4;exact wx hx z4.symm
     rw[z1]at z2;injection z2 with z2;subst z2;rw[z3]at z4;injection z4 with z4;exact wx hx z4.symm
    ·rcases f_ _ _ _ _ c1 c2 with⟨q1,_⟩ | ⟨_,_,rfl⟩
     ·exact hS.top g p m v b c1 q1 c3
     intro Sq;subst Sq;exact hid (sim.dj k d b trivial trivial bY XJ (.inl c1) (.inl c3))
    rcases f_ _ _ _ _ c1 c2 with⟨q1,q2⟩ | ⟨rfl,rfl,rfl⟩<;>rcases f_ _ _ _ _ c1 c3 with⟨q3,q4⟩ | ⟨rfl,rfl,rfl⟩
    ·exact hS.dis g p m p' m' v v' b c1 q1 q3 c4 c5
    ·exact absurd c5 (inner g p m v b c1 q1 c4)
    ·exact absurd c4 (inner g p' m' v' b c1 q3 c5)
    exact⟨rfl,rfl⟩
   ·rw[h];trivial
   rw[h];exact (sim.hp k trivial).cK T (fun _ _ _=>rfl) (fun _=>rfl)
  dj:=fun k m b _ _ lk lm hk hm=>by
   obtain⟨o,o1,o2,o3⟩:=owner k b lk hk;obtain⟨p,p1,p2,p3⟩:=owner m b lm hm;have:=sim.dj o p b trivial trivial o1 p1 o2 p2;subst this;rcases o3 with⟨rfl,o3⟩ | ⟨rfl,o3⟩<;>rcases p3 with⟨rfl,p3⟩ | ⟨h,p3⟩
   ·rfl
   ·exact absurd h o3
   ·exact absurd rfl p3
   rw[o3,p3]
  lv:=fun k b _ lk hk=>by
   obtain⟨o,o1,o2,_⟩:=owner k b lk hk;exact sim.lv o b trivial o1 o2
  fr:=sim.fr }⟩
theorem au.Sr(hC:bI A.C)(s:AS)(id i j:Nat){r:List HX}{ti:TI}(hb:s.h id=.az e es)(hr:es[i]?=some r)(hj:r[j]?=some (.av .nl))(hT:A.C.T e'=some ti)(hpos:0<ti.size):
  au A s ⟨s.t,aT s.h id (.az e (es.set i (r.set j (.row e' []))))⟩:=by
 intro S rho a w sim;obtain⟨nH,qw⟩:∃nH,nH=es.set i (r.set j (.row e' [])):=⟨_,rfl⟩;rw[<-qw];have hh:=sim.hp id trivial;rw[hb]at hh;obtain⟨hR,hS⟩:=hh;obtain⟨info,z,h1,h2,_⟩:=hC.iq e' ti hT;have hval:∀g u,cC (rho id)=some g->cellAt w g (i*r.length+j) u->u=.slice none 0 0:=fun g u hg hu=>by
  obtain⟨i0,ws,q1,q2,q3,q4,q5,q6⟩:=hR;obtain⟨u2,p1,p2⟩:=q6 i r j _ hr hj;have p2:aY S w A.C.P cE rho s.h .nl u2:=p2;have:u2=.slice none 0 0:=by cases p2;rfl
  rw[<-this];have xj:=q4 r (aad hr);rcases q3.2 with⟨hn,_⟩ | ⟨g',cap,cur,hv,_,DG,k1,k2,k3,k4⟩
  ·rw[hn]at hg;cases hg
  rw[hv]at hg;obtain rfl:=iP.1 hg;refine nn hu ⟨cur,_,_,DG,?_⟩;rw[xj];rw[<-k4,aa7]at p1;split at p1
  ·simpa using p1
  cases p1
 have f_:∀g k p v b,cC (rho id)=some g->dF w nH g k p v->cC v=some b->dF w es g k p v:=by
  intro g k p v b hg hc hv;obtain⟨q,e2,MI,q1,q2,q3⟩:=dT.1 hc;rw[qw]at q1;rcases iF q1 with⟨rfl,rfl,_⟩ | ⟨hk,q1⟩
  ·rw[aaM]at q3;rcases iF q2 with⟨rfl,_,_⟩ | ⟨hp,q2⟩
   ·rw[hval g v hg q3]at hv;cases hv
   exact dT.2 ⟨r,e2,MI,hr,q2,q3⟩
  exact dT.2 ⟨q,e2,MI,q1,q2,q3⟩
 refine⟨S,rho,sim.Cl hC id trivial (by rw[hb];trivial) _ (fun e2 h=>by rw[hb];exact h) w rfl rfl rfl rfl (fun _ _=>rfl) (fun T=>?_) (fun g h=>?_)⟩
 ·refine⟨hR.re (by rw[qw,aaM]) (fun p q q2 z1 z2=>?_) (fun p q q2 m x x2 v z1 z2 z3 z4 hcell hx=>?_),⟨fun g p m v b c1 c2 c3=>hS.top g p m v b c1 (f_ _ _ _ _ _ c1 c2 c3) c3,fun g p m p' m' v v' b c1 c2 c3 c4 c5=>hS.dis g p m p' m' v v' b c1 (f_ _ _ _ _ _ c1 c2 c4) (f_ _ _ _ _ _ c1 c3 c5) c4 c5⟩⟩
  ·rw[qw]at z2;rcases iF z2 with⟨rfl,rfl,_⟩ | ⟨_,z2⟩
   ·rw[hr]at z1;injection z1 with z1;rw[<-z1,aaM]
   rw[z1]at z2;injection z2 with z2;rw[z2]
  have wx:rK S w A.C.P cE rho s.h x v->x2=x->rK S w A.C.P cE rho (aT s.h id (.az e nH)) x2 v:=fun hx UJ=>by
   rw[UJ];cases x with
   | av y=>exact aY.cK T hx
   | row e2 MI=>exact hx
  rw[qw]at z2;rcases iF z2 with⟨rfl,rfl,_⟩ | ⟨_,z2⟩
  ·rw[hr]at z1;injection z1 with z1;subst z1;rcases iF z4 with⟨rfl,rfl,_⟩ | ⟨_,z4⟩
   ·rw[hj]at z3;injection z3 with z3;subst z3;have hx:aY S w A.C.P cE rho s.h .nl v:=hx;have:v=.slice none 0 0:=by cases hx;rfl
    rw[this];exact⟨info,[],h1,by omega,⟨by simp,.inl ⟨rfl,rfl⟩⟩,by simp,by simp,by simp⟩
   rw[z3]at z4;injection z4 with z4;exact wx hx z4.symm
  rw[z1]at z2;injection z2 with z2;subst z2;rw[z3]at z4;injection z4 with z4;exact wx hx z4.symm
 rw[dS]at h;rw[hb,dS];rcases h with h | ⟨g',k,p,v,c1,c2,c3⟩
 ·exact .inl h
 exact .inr ⟨g',k,p,v,c1,f_ _ _ _ _ _ c1 c2 c3,c3⟩
theorem Oi.map{l:List α}{f:α->List HX}{g:α->List PV}(h:∀x∈l,(g x).length=(f x).length/\∀(j:Nat) u v,(f x)[j]?=some u->(g x)[j]?=some v->Tr u v):Oi (l.map f) (l.map g):=
 ⟨by simp,fun a r q h1 h2=>by
  rw[aak]at h1 h2;obtain⟨x,hx,rfl⟩:=acq.1 h1;rw[hx]at h2;injection h2 with h2;subst h2;exact h x (aad hx)⟩
theorem au.ID(hC:bI A.C)(s:AS)(id:Nat)(ps:List (List PV))(hb:s.h id=.az e es)(hps:Oi es ps):au A s ⟨s.t,aT s.h id (.row e ps)⟩:=by
 intro S rho a w sim;have hh:=sim.hp id trivial;rw[hb]at hh;obtain⟨hR,hS⟩:=hh;have bY:(s.h id).live:=by rw[hb];trivial
 obtain⟨I,hI⟩:∃I:Nat->Prop,I=fun b=>∃g k j u,cC (rho id)=some g/\dF w es g k j u/\cC u=some b:=⟨_,rfl⟩;have XK:∀b,I b->hasB w (s.h id) (rho id) b:=fun b h=>by rw[hI]at h;rw[hb,dS];exact .inr h
 have UK:∀b,I b->cC (rho id)≠some b:=fun b h hg=>by
  rw[hI]at h;obtain⟨g,k,j,u,h1,h2,h3⟩:=h;rw[h1]at hg;injection hg with hg;exact hS.top g k j u b h1 h2 h3 hg.symm
 have T:lB S (fun b=>S b\/I b) w w cE cE rho rho s.h (aT s.h id (.row e ps)):=by
  refine⟨fun b h=>.inl h,fun _ _=>rfl,fun j hj=>⟨?_,fun hl=>⟨hl,rfl⟩⟩,fun j e' hj=>?_⟩
  ·rcases aW s.h id (.row e ps) j with⟨rfl,h⟩ | ⟨_,h⟩
   ·rw[hb];trivial
   rw[h]at hj;exact hj
  rcases aW s.h id (.row e ps) j with⟨rfl,h⟩ | ⟨_,h⟩
  ·rw[h]at hj;rw[hb];exact hj
  rw[h]at hj;exact hj
 have fw:∀j,((aT s.h id (.row e ps)) j).live->(s.h j).live:=by
  intro j hj;rcases aW s.h id (.row e ps) j with⟨rfl,h⟩ | ⟨h1,h⟩
  ·exact bY
  rw[h]at hj;exact hj
 have back:∀j g,hasB w (aT s.h id (.row e ps) j) (rho j) g->hasB w (s.h j) (rho j) g:=fun j g h=>by
  rcases aW s.h id (.row e ps) j with⟨rfl,h'⟩ | ⟨h1,h'⟩
  ·rw[h']at h;exact .inl (aI rfl h)
  rw[h']at h;exact h
 exact⟨fun b=>S b\/I b,rho,
 {tm:=fun j hj=>(sim.tm j hj).cK T
  sz:=sim.sz,df:=sim.df,nb:=sim.nb,pn:=sim.pn
  ev:=hC.env _ _ _ _ sim.ev (fun b h=>.inl h) (fun _ _=>rfl) (aam _)
  s0:=fun b h=>.inl (sim.s0 b h)
  st:=fun b h=>h.elim (sim.st b) fun h=>(sim.lv id b trivial bY (XK b h)).1
  sb:=fun b h=>h.elim (sim.sb b) fun h=>.inr (sim.lv id b trivial bY (XK b h)).2.2
  hp:=fun j hj=>by
   rcases aW s.h id (.row e ps) j with⟨rfl,h⟩ | ⟨h1,h⟩
   ·show eK _ _ _ _ _ _ _ (aT s.h j (.row e ps) j);rw[h];refine hR.re hps.len (fun p q q2 z1 z2=>(hps.row p q q2 z1 z2).1) (fun p q q2 m x x2 v z1 z2 z3 z4 hcell hx=>?_);have:=(hps.row p q q2 z1 z2).2 m x x2 z3 z4;cases this with
    | p x=>exact (aY.eR hx).mono (fun b h=>.inl h) (fun _ _=>rfl)
    | nl=>
     have hx:aY S w A.C.P cE rho s.h .nl v:=hx;cases hx;exact .nil _ _
    | row e' xs=>
     have hx:aG A.C.P w (aO S w) e' xs v:=hx;refine aG.DT hx (fun b h=>.inl h) fun b hb'=>.inr ?_;rw[hI];obtain⟨g,u,g1,g2,_⟩:=hR.DO z1 z3;obtain⟨q',_,_,c1,_,c2⟩:=dT.1 g2;rw[z1]at c1;injection c1 with c1;subst c1;have:=nn (hcell g g1) c2;subst this;exact⟨g,p,m,v,g1,g2,hb'⟩
   show eK _ _ _ _ _ _ _ (aT s.h id (.row e ps) j);rw[h];exact (sim.hp j hj).cK T (fun _ _ _=>rfl) (fun _=>rfl)
  dj:=fun i j g hi hj li lj eM jH=>sim.dj i j g hi hj (fw i li) (fw j lj) (back i g eM) (back j g jH)
  lv:=fun i g hi li hg=>by
   obtain⟨h3,h4,h5⟩:=sim.lv i g hi (fw i li) (back i g hg);refine⟨h3,fun h=>h.elim h4 fun h=>?_,h5⟩;have:=sim.dj i id g hi trivial (fw i li) bY (back i g hg) (XK g h);subst this;have hg:hasB w (aT s.h i (.row e ps) i) (rho i) g:=hg;rw[aH]at hg;exact UK g h (aI rfl hg)
  fr:=sim.fr }⟩
theorem au.MJ(hC:bI A.C)(s:AS)(id j:Nat)(cs:List AV)(hb:s.h id=.box cs)(hn:cs[j]?=some .nl):au A s ⟨s.t,aT s.h id (.box (cs.set j (.p (.im (.slice none 0 0)))))⟩:=by
 intro S rho a w sim;refine⟨S,rho,sim.write hC id trivial (by rw[hb];trivial) _ (fun _ h=>by cases h) w rfl rfl rfl rfl (fun _ _=>rfl) fun T=>?_⟩;have hh:=sim.hp id trivial;rw[hb]at hh;obtain⟨g,ty,c,k1,k2,k3,k4⟩:=hh;refine⟨g,ty,c,k1,k2,by rw[k3,aaM],fun q x u hi hu=>?_⟩;by_cases ei:q=j
 ·subst ei;rw[ab7 (aD hn)]at hi;injection hi with hi;subst hi;obtain⟨k5,k6⟩:=k4 q _ u hn hu;have:u=.slice none 0 0:=by cases k6;rfl
  rw[this];exact⟨rfl,.p _ _ (.im _)⟩
 rw[ac5 (fun e=>ei e.symm)]at hi;obtain⟨k5,k6⟩:=k4 q x u hi hu;exact⟨k5,k6.cK T⟩
end Go.AM
namespace Go.AM
open Go.RowKit
theorem mj{C:Ctx}{o:Oper}{rho:Operand->AV}{h:Nat->AB}{K K':KK}(hk:∀v e n,K v e n->K' v e n)(hq:bV C o rho h K):bV C o rho h K':=by
 obtain⟨v,e,n,h1,h2⟩:=q_ (fun _=>.inr rfl) hq;exact h2 _ (hk _ _ _ h1)
variable {K':AS->Prop} {s:AS}
theorem GZ{C:Ctx}{o:Oper}{K:AS->Prop}(hk:∀s,K s->K' s)(hq:yn C o K s):yn C o K' s:=by
 unfold yn at hq ⊢;split at hq
 ·exact mj (fun v e n h=>hk _ h) hq
 split at hq
 ·split at hq
  ·split at hq
   ·split at hq<;>exact hk _ hq
   ·split at hq<;>exact hk _ hq
   exact hk _ hq
  exact hk _ hq
 refine mj (fun v e n h=>?_) hq;cases n with
 | none=>exact hk _ h
 | some b=>exact h
theorem vq{C:Ctx}{o:Oper}{K:AS->Prop}(hk:∀s,K s->K' s)(hq:step C o K s):step C o K' s:=by
 unfold step at hq ⊢;split at hq
 ·exact⟨hk _ hq.1,hk _ hq.2⟩
 exact GZ hk hq
theorem oU{b:Bool}{p q p' q':Prop}(h1:p->p')(h2:q->q')(h:pR b p q):pR b p' q':=by
 cases b<;>simp only[pR]at h ⊢
 ·exact h2 h
 exact h1 h
theorem Ke{C:Ctx}{all:List Oper}{K:AS->Prop}(hk:∀s,K s->K' s):∀(l:List Oper) (s:AS),pZ C all l K s->pZ C all l K' s:=by
 intro l
 induction l with
 | nil=>intro s h;exact hk _ h
 | cons o l ih=>
  intro s h;unfold pZ at h ⊢;split at h
  ·exact vq ih h
  split at h
  ·exact h.elim
  split at h
  ·exact h.elim
  split at h
  ·rename_i want _ _ _ _ _ _ _;refine oU (fun h=>?_) (fun h=>?_) h
   ·split at h
    ·exact vq ih h
    exact ih _ h
   split at h
   ·exact vq ih h
   exact ih _ h
  ·exact ih _ h
  exact h.elim
theorem sH{C:Ctx}{ap f:Bool}{X:List Nat}{o:Oper}{K:AS->Prop}(hk:∀s,K s->K' s)(hq:rR C ap X f o K s):rR C ap X f o K' s:=by
 unfold rR at hq ⊢;split at hq
 ·refine mj (fun v e n h=>?_) hq;split at h
  ·exact h
  split at h
  ·split at h
   ·exact hk _ h
   exact h
  split at h
  ·exact hk _ h
  exact h
 exact hq
theorem Kf{C:Ctx}{ap:Bool}{X:List Nat}{all:List Oper}{K:AS->Prop}(hk:∀s,K s->K' s):∀(l:List Oper) (fl:List Bool) (s:AS),oS C ap X all fl l K s->oS C ap X all fl l K' s:=by
 intro l
 induction l with
 | nil=>intro fl s h;cases fl<;>exact hk _ h
 | cons o l ih=>
  intro fl s h;cases fl with
  | nil=>exact h
  | cons f fl=>
  unfold oS at h ⊢;split at h
  ·exact sH (ih fl) h
  split at h
  ·exact h.elim
  split at h
  ·exact h.elim
  split at h
  ·refine oU (fun h=>?_) (fun h=>?_) h
   ·split at h
    ·exact sH (ih fl) h
    exact ih fl _ h
   split at h
   ·exact sH (ih fl) h
   exact ih fl _ h
  ·exact ih fl _ h
  exact h.elim
theorem vt{f f':AS->Prop}{K K':Exit->AS->Prop}(hf:∀s,f s->f' s)(hk:∀e s,K e s->K' e s):∀e s,n_ f K e s->n_ f' K' e s:=by
 intro e s h;cases e<;>first | exact hf _ h | exact hk _ _ h
theorem yH{id:Nat}{K K':Exit->AS->Prop}(hk:∀e s,K e s->K' e s):∀e s,Bk id K e s->Bk id K' e s:=by
 intro e s h;cases e<;>first | exact hk _ _ h | exact oU (hk _ _) (hk _ _) h
variable {A:cD}
theorem qx:∀(c:Code) (K K':Exit->AS->Prop) (s:AS),(∀e s,K e s->K' e s)->Ai A c K s->Ai A c K' s:=by
 intro c
 induction c with
 | skip=>intro K K' s hk h;exact hk _ _ h
 | region id ops draw=>
  intro K K' s hk h;cases draw with
  | false=>exact Ke (hk _) _ _ h
  | true=>obtain⟨X,h⟩:=h;exact⟨X,Kf (fun _ h=>hk _ _ h) _ _ _ h⟩
 | seq a b Lj Lk=>intro K K' s hk h;exact Lj _ _ _ (vt (fun s h=>by obtain⟨s2,h1,h2⟩:=h;exact⟨s2,h1,Lk _ _ _ hk h2⟩) hk) h
 | cond c a b Lj Lk=>
  intro K K' s hk h;simp only[Ai]at h ⊢;split at h
  ·exact oU (Lj _ _ _ hk) (Lk _ _ _ hk) h
  exact h
 | block id c ih=>intro K K' s hk h;exact ih _ _ _ (yH hk) h
 | loop c ih=>
  intro K K' s hk h;obtain⟨α,I,m,h0,hr⟩:=h;exact⟨α,I,m,h0,fun x s hi=>ih _ _ _ (vt (fun _ h=>h) hk) (hr x s hi)⟩
 | exit id=>intro K K' s hk h;exact hk _ _ h
 | ret=>intro K K' s hk h;exact hk _ _ h
 | rangeFunc=>intro K K' s _ h;exact h.elim
 | scope=>intro K K' s _ h;exact h.elim
 | label=>intro K K' s _ h;exact h.elim
 | goto=>intro K K' s _ h;exact h.elim
 | refuse=>intro K K' s _ h;exact h.elim
def wy{α:Type}(R:α->Prop)(ts:α->List (Nat×AV))(hs:α->List (Nat×AB))(s:AS):Prop:=∃y,R y/\mU (ts y) s.t/\mU (hs y) s.h
variable {α:Type}
theorem wy.go{R:α->Prop}{ts:α->List (Nat×AV)}{hs:α->List (Nat×AB)}{f:AS->Prop}(h2:∀y,R y->∀t h,f ⟨oT (ts y) t,oT (hs y) h⟩)(h:wy R ts hs s):f s:=by
 obtain⟨y,h1,h3,h4⟩:=h;have:=h2 y h1 s.t s.h
 rwa [tJ _ _ h3,tJ _ _ h4]at this
theorem cut{c:Code}{f:AS->Prop}{K:Exit->AS->Prop}(R:α->Prop)(ts:α->List (Nat×AV))(hs:α->List (Nat×AB))
  (h2:∀y,R y->∀t h,f ⟨oT (ts y) t,oT (hs y) h⟩) (h1:Ai A c (n_ (wy R ts hs) K) s):Ai A c (n_ f K) s:=
 qx c _ _ s (vt (fun _ h=>h.go h2) fun _ _ h=>h) h1
theorem G3{R:α->Prop}{ts:α->List (Nat×AV)}{hs:α->List (Nat×AB)}{K:Exit->AS->Prop}(h2:∀y,R y->∀t h,K .normal ⟨oT (ts y) t,oT (hs y) h⟩):∀e s,n_ (wy R ts hs) K e s->K e s:=by
 intro e s h;cases e<;>first | exact h | exact wy.go h2 h
theorem XL{c:Code}{id:Nat}{K:Exit->AS->Prop}(R:α->Prop)(ts:α->List (Nat×AV))(hs:α->List (Nat×AB))
  (h2:∀y,R y->∀t h,K .normal ⟨oT (ts y) t,oT (hs y) h⟩) (h1:Ai A c (Bk id (n_ (wy R ts hs) K)) s):Ai A c (Bk id K) s:=
 qx c _ _ s (yH (G3 h2)) h1
end Go.AM
namespace Go.AM
open Go.RowKit
def Kg(d:Nat)(t:Nat->AV)(j:Nat):AV:=sc d (t j)
def Ej(d:Nat)(h:Nat->AB):Nat->AB:=aT (fun k=>xm d (h k)) d .none
def Zc(i d:Nat)(t:Nat->AV)(j:Nat):AV:=rn i d (t j)
def Zd(i d:Nat)(h:Nat->AB)(j:Nat):AB:=match cq j d with
 | true=>L8 i d (h i)
 | false=>match cq j i with
  | true=>.none
  | false=>L8 i d (h j)
def IE(o:Oper):Bool:=match o.op with
 | .assign _=>false
 | _=>true
def CP:AB->Bool
 | .row _ _=>true
 | .az _ _=>true
 | _=>false
abbrev TP:=(Nat->AV)->(Nat->AB)->Prop
def SG(G:TP)(K:AS->Prop):Prop:=∀t h,G t h->K ⟨t,h⟩
def XM(G:TP)(t:Nat->AV)(h:Nat->AB)(d:Nat):AV->Prop
 | .p x=>G (aT t d (.p x)) h
 | .nl=>G (aT t d .nl) h
 | .ow i=>G (aT t d (.ow i)) h
 | .rp i j k=>G (aT t d (.rp i j k)) h
 | .bx i j=>G (aT t d (.bx i j)) h
 | .vw i j k=>G (aT t d (.vw i j k)) h
 | .fn f c=>G (aT t d (.fn f c)) h
 | .tu x=>G (aT t d (.tu x)) h
 | .st x=>G (aT t d (.st x)) h
 | .junk=>G (aT t d .junk) h
def IF(G:TP)(t:Nat->AV)(d:Option Tmp)(v:AV):List (Nat×AB)->(Nat->AB)->Prop
 | (i,b)::r,h=>IF G t d v r (aT h i b)
 | [],h=>match d with
  | some d=>XM G t h d v
  | none=>G t h
def ML(d:Nat):AV->AV
 | .ow i=>match cq i d with
  | true=>.ow d
  | false=>.ow i
 | .bx i j=>match cq i d with
  | true=>.bx d j
  | false=>.bx i j
 | v=>v
theorem CQ(d:Nat)(v:AV):ML d v=v:=by
 unfold ML;split
 ·split
  ·rename_i h;rw[a7.1 h]
  rfl
 ·split
  ·rename_i h;rw[a7.1 h]
  rfl
 rfl
def Ze(G:TP)(d:Option Tmp)(t:Nat->AV)(h:Nat->AB):KK:=fun v e n=>match n with
 | none=>IF G t d v e h
 | some _=>False
def Wi(G:TP)(d:Option Tmp)(dd:Nat)(t:Nat->AV)(h:Nat->AB):KK:=fun v e n=>match n with
 | none=>match afu dd e with
  | true=>IF G t d v e h
  | false=>False
 | some b=>IF G t d (ML dd v) e (aT h dd b)
def Zf(G:TP)(t:Nat->AV)(h:Nat->AB)(d:Nat):AV->Prop
 | .ow i=>match CP (h i) with
  | false=>G (aT t d (.ow i)) h
  | true=>match cq i d with
   | true=>G (aT t d (.ow i)) h
   | false=>G (aT (Zc i d t) d (.ow d)) (Zd i d h)
 | v=>XM G t h d v
def MM(C:Ctx)(o:Oper)(G:TP)(t:Nat->AV)(h:Nat->AB):Prop:=match O0 C o t with
 | true=>IF G t o.dst (.p (.im (.bool true))) [] h/\IF G t o.dst (.p (.im (.bool false))) [] h
 | false=>match qp o.op with
  | true=>match o.dst with
   | some d=>bV C o (ev (Kg d t)) (Ej d h) (Wi G (some d) d (Kg d t) (Ej d h))
   | none=>bV C o (ev (Kg 0 t)) (Ej 0 h) (Wi G none 0 (Kg 0 t) (Ej 0 h))
  | false=>match o.op,o.dst with
   | .assign x,some d=>Zf G t h d (ev t x)
   | _,d=>bV C o (ev t) h (Ze G d t h)
def CR(all:List Oper)(o:Oper)(G1 G0:TP)(t:Nat->AV)(h:Nat->AB):Prop:=match o.guard with
 | none=>G1 t h
 | some (g,want)=>match all[g]? with
  | none=>False
  | some og=>match og.dst with
   | none=>False
   | some tg=>match t tg with
    | .p (.im (.bool b))=>@Bool.rec (fun _=>Prop)
     (match want with
      | false=>G1 (aT t tg (jh false)) h
      | true=>G0 (aT t tg (jh false)) h)
     (match want with
      | true=>G1 (aT t tg (jh true)) h
      | false=>G0 (aT t tg (jh true)) h) b
    | .p (.im (.tuple _))=>G0 t h
    | _=>False
def Kh(C:Ctx)(all:List Oper):List Oper->TP->TP
 | [],G,t,h=>G t h
 | o::r,G,t,h=>CR all o (MM C o (Kh C all r G)) (fun t h=>IF (Kh C all r G) t o.dst rH [] h) t h
section
variable {G:TP} {K:AS->Prop} {t:Nat->AV} {h:Nat->AB} {d:Tmp} {C:Ctx} {o:Oper}
theorem IG(H:SG G K){v:AV}(q:XM G t h d v):K ⟨aT t d v,h⟩:=by cases v<;>exact H _ _ q
theorem fP(H:SG G K){d:Option Tmp}{v:AV}:∀(e:List (Nat×AB)) {h:Nat->AB},IF G t d v e h->K ⟨fx t d v,app h e⟩
 | (i,b)::r,h,q=>fP H r (h:=aT h i b) q
 | [],h,q=>by cases d with
  | none=>exact H _ _ q
  | some d=>exact IG H q
theorem Bn(d:Nat)(h:Nat->AB):Ej d h d=.none:=by unfold Ej;rw[aH]
theorem IH(H:SG G K){d:Option Tmp}{dd:Nat}{v:AV}{e:List (Nat×AB)}{n:Option AB}(h0:h dd=.none)(q:Wi G d dd t h v e n):K ⟨fx t d v,match n with
  | none=>aT (app h e) dd .none
  | some b=>app (aT h dd b) e⟩:=by
 unfold Wi at q;cases n with
 | none=>
  simp only at q ⊢;cases hn:afu dd e with
  | false=>rw[hn]at q;exact q.elim
  | true=>
   rw[hn]at q;have:aT (app h e) dd .none=app h e:=jf _ _ _ ((l9 (h:=h) hn).trans h0);rw[this];exact fP H e q
 | some b=>rw[CQ]at q;exact fP H e q
theorem Bo(H:SG G K)(q:MM C o G t h):step C o K ⟨t,h⟩:=by
 unfold step;unfold MM at q;cases hn:O0 C o t with
 | true=>
  simp only[hn]at q ⊢;exact⟨fP H [] q.1,fP H [] q.2⟩
 | false=>
  simp only[hn]at q ⊢;unfold yn;cases hm:qp o.op with
  | true=>
   rw[hm]at q;simp only at q ⊢;cases hd:o.dst with
   | some d=>
    rw[hd]at q;exact mj (fun v e n hk=>by
     have:=IH H (Bn _ _) hk;cases n<;>exact this) q
   | none=>
    rw[hd]at q;exact mj (fun v e n hk=>by
     have:=IH H (Bn _ _) hk;cases n<;>exact this) q
  | false=>
   rw[hm]at q;simp only at q ⊢;split
   ·rename_i x d ho hd;rw[ho,hd]at q;simp only at q;unfold Zf at q;split
    ·rename_i i hi;rw[hi]at q;simp only at q;cases hb:h i<;>rw[hb]at q<;>simp only[CP]at q ⊢<;>first | exact H _ _ q | (cases On:cq i d<;>rw[On]at q<;>exact H _ _ q)
    rename_i DJ;split at q
    ·rename_i i hi;exact absurd hi (DJ i)
    exact IG H q
   rename_i DJ;have hk:bV C o (ev t) h (Ze G o.dst t h):=by
    split at q
    ·rename_i x d ho hd;exact absurd hd (DJ x d ho)
    exact q
   exact mj (fun v e n hk=>by cases n<;>first | exact fP H e hk | exact hk.elim) hk
theorem Ek{all:List Oper}(H:SG G K):∀(l:List Oper) {t:Nat->AV} {h:Nat->AB},Kh C all l G t h->pZ C all l K ⟨t,h⟩
 | [],t,h,q=>H _ _ q
 | o::r,t,h,q=>by
  have ih:SG (Kh C all r G) (pZ C all r K):=fun _ _ q=>Ek H r q;unfold Kh CR at q;unfold pZ;split at q
  ·rename_i h1;(try simp only[h1]);exact Bo ih q
  rename_i g want h1
  (try simp only[h1])
  split at q
  ·exact q.elim
  rename_i og h2
  (try simp only[h2])
  split at q
  ·exact q.elim
  rename_i tg h3
  (try simp only[h3])
  split at q
  ·rename_i b h4
   (try simp only[h4])
   cases b<;>cases want<;>first | exact Bo ih q | exact fP ih [] q
  ·rename_i xs h4
   (try simp only[h4])
   exact fP ih [] q
  exact q.elim
end
def Wj(C:Ctx)(ap:Bool)(X:List Nat)(f:Bool)(o:Oper)(G:TP)(t:Nat->AV)(h:Nat->AB):KK:=fun v e n=>match sE o.op n o.dst with
 | false=>False
 | true=>match e with
  | []=>match o.dst with
   | some d=>IF G t (some d) (ML d v) [] (qd h d n)
   | none=>IF G t none v [] (qd h 0 n)
  | p::e=>match Nat.beq (cls C ap o.op) 3&&(iw h (p::e)&&(ap||kj h (p::e))&&Ot X f h (p::e)) with
   | false=>False
   | true=>match n with
    | none=>IF G t o.dst v (p::e) h
    | some b=>match o.dst with
     | some d=>IF G t (some d) (ML d v) ((p::e)++[(d,b)]) h
     | none=>IF G t none v ((p::e)++[(0,b)]) h
def Bp(C:Ctx)(ap:Bool)(X:List Nat)(all:List Oper):List Bool->List Oper->TP->TP
 | _,[],G,t,h=>G t h
 | [],_::_,_,_,_=>False
 | f::fl,o::r,G,t,h=>CR all o (fun t h=>match yw C ap X f o (ev t) with
   | true=>bV C o (ev t) h (Wj C ap X f o (Bp C ap X all fl r G) t h)
   | false=>False) (fun t h=>IF (Bp C ap X all fl r G) t o.dst rH [] h) t h
def Ki:List Oper->TP->TP
 | [],G,t,h=>G t h
 | o::r,G,t,h=>match qp o.op with
  | true=>match o.dst with
   | some d=>Ki r G (Kg d t) (Ej d h)
   | none=>Ki r G (Kg 0 t) (Ej 0 h)
  | false=>Ki r G t h
def wz:List Oper->TP->TP
 | [],G,t,h=>G t h
 | o::r,G,t,h=>match IE o with
  | true=>wz r G t h
  | false=>match o.dst with
   | none=>False
   | some d=>match t d with
    | .ow i=>match CP (h i) with
     | false=>wz r G t h
     | true=>match cq i d with
      | true=>wz r G t h
      | false=>wz r G (Zc i d t) (Zd i d h)
    | _=>wz r G t h
theorem yI(d:Nat)(b:AB):∀(e:List (Nat×AB)) (h:Nat->AB),app h (e++[(d,b)])=aT (app h e) d b
 | [],h=>rfl
 | (i,x)::r,h=>yI d b r (aT h i x)
section
variable {C:Ctx} {all:List Oper} {G:TP} {K:AS->Prop} {o:Oper} {t:Nat->AV} {h:Nat->AB} {ap:Bool} {X:List Nat} {f:Bool}
theorem Pj(H:SG G K){v:AV}{e:List (Nat×AB)}{n:Option AB}(q:Wj C ap X f o G t h v e n):match sE o.op n o.dst with
  | false=>False
  | true=>match Nat.beq (cls C ap o.op) 3 with
   | true=>match iw h e&&(ap||kj h e)&&Ot X f h e with
    | true=>K ⟨fx t o.dst v,qd (app h e) (o.dst.getD 0) n⟩
    | false=>False
   | false=>match e with
    | []=>K ⟨fx t o.dst v,qd h (o.dst.getD 0) n⟩
    | _=>False:=by
 unfold Wj at q;cases hn:sE o.op n o.dst with
 | false=>rw[hn]at q;exact q.elim
 | true=>
  rw[hn]at q;simp only at q ⊢;cases e with
  | nil=>
   have:K ⟨fx t o.dst v,qd h (o.dst.getD 0) n⟩:=by
    cases hd:o.dst with
    | some d=>rw[hd]at q;simp only[CQ]at q;exact fP H [] q
    | none=>rw[hd]at q;exact fP H [] q
   simp only[iw,kj,Iw,ads,ac7];split<;>exact this
  | cons p e=>
   simp only at q;cases h1:Nat.beq (cls C ap o.op) 3 with
   | false=>rw[h1]at q;exact q.elim
   | true=>
    rw[h1]at q;simp only[adr]at q ⊢;cases h2:iw h (p::e)&&(ap||kj h (p::e))&&Ot X f h (p::e) with
    | false=>rw[h2]at q;exact q.elim
    | true=>
     rw[h2]at q;simp only at q ⊢;cases n with
     | none=>exact fP H (p::e) q
     | some b=>
      cases hd:o.dst with
      | some d=>
       rw[hd]at q;simp only[CQ]at q;have:=fP H _ q;rw[yI]at this;exact this
      | none=>
       rw[hd]at q;have:=fP H _ q;rw[yI]at this;exact this
theorem yJ(H:SG G K) (q:match yw C ap X f o (ev t) with
   | true=>bV C o (ev t) h (Wj C ap X f o G t h)
   | false=>False):rR C ap X f o K ⟨t,h⟩:=by
 unfold rR;split at q
 ·rename_i hl;simp only[hl];exact mj (fun v e n hk=>by
   have:=Pj H hk;unfold sE at this ⊢;cases n<;>cases e<;>exact this) q
 exact q.elim
theorem Bq(H:SG G K):∀(fl:List Bool) (l:List Oper) {t:Nat->AV} {h:Nat->AB},Bp C ap X all fl l G t h->oS C ap X all fl l K ⟨t,h⟩
 | fl,[],t,h,q=>by cases fl<;>exact H _ _ q
 | [],_::_,_,_,q=>q.elim
 | f::fl,o::r,t,h,q=>by
  have ih:SG (Bp C ap X all fl r G) (oS C ap X all fl r K):=fun _ _ q=>Bq H fl r q;unfold Bp CR at q;unfold oS;split at q
  ·rename_i h1;(try simp only[h1]);exact yJ ih q
  rename_i g want h1
  (try simp only[h1])
  split at q
  ·exact q.elim
  rename_i og h2
  (try simp only[h2])
  split at q
  ·exact q.elim
  rename_i tg h3
  (try simp only[h3])
  split at q
  ·rename_i b h4
   (try simp only[h4])
   cases b<;>cases want<;>first | exact yJ ih q | exact fP ih [] q
  ·rename_i xs h4
   (try simp only[h4])
   exact fP ih [] q
  exact q.elim
theorem tL(H:SG G K):∀(l:List Oper) {t:Nat->AV} {h:Nat->AB},Ki l G t h->K (yC l ⟨t,h⟩)
 | [],_,_,q=>H _ _ q
 | o::r,t,h,q=>by
  unfold Ki at q;unfold yC;cases hm:qp o.op with
  | true=>
   rw[hm]at q;cases hd:o.dst with
   | some d=>rw[hd]at q;exact tL H r q
   | none=>rw[hd]at q;exact tL H r q
  | false=>rw[hm]at q;exact tL H r q
theorem lW(H:SG G K):∀(l:List Oper) {t:Nat->AV} {h:Nat->AB},wz l G t h->K (Bj l ⟨t,h⟩)
 | [],_,_,q=>H _ _ q
 | o::r,t,h,q=>by
  unfold wz at q;show K (Bj r (yD o _));unfold yD;cases hm:IE o with
  | true=>
   rw[hm]at q;have:∀x,o.op≠.assign x:=fun x hx=>by rw[IE,hx]at hm;cases hm
   split
   ·rename_i x d hx _;exact absurd hx (this _)
   exact lW H r q
  | false=>
   rw[hm]at q;simp only at q;split at q
   ·exact q.elim
   rename_i d hd;have ha:∃x,o.op=.assign x:=by
    unfold IE at hm;split at hm
    ·rename_i x hx;exact⟨x,hx⟩
    cases hm
   obtain⟨x,ha⟩:=ha;rw[ha,hd];simp only;split at q
   ·rename_i i ht
    (try simp only[ht])
    cases hb:h i<;>rw[hb]at q<;>simp only[CP]at q ⊢<;>first
     | exact lW H r q
     | (cases On:cq i d<;>rw[On]at q<;>exact lW H r q)
   rename_i DJ
   first
    | exact lW H r q
    | (
      split
      ·rename_i i ht;exact absurd ht (DJ i)
      exact lW H r q)
end
def G4:Code->Option Nat
 | .seq a _=>G4 a
 | .region i _ _=>some i
 | .block _ c=>G4 c
 | .cond _ x y=>match G4 x with
  | some i=>some i
  | none=>G4 y
 | .loop c=>G4 c
 | _=>none
def Kj(k:Nat):List Nat->Bool
 | []=>false
 | i::r=>match cq i k with
  | true=>true
  | false=>Kj k r
def UL(l:List Nat):Option Nat->Bool
 | some k=>Kj k l
 | none=>false
def MN(f:TP)(K:Exit->TP):Exit->TP
 | .normal=>f
 | .exit i=>K (.exit i)
 | .ret=>K .ret
 | e=>K e
def Pk(id:Nat)(K:Exit->TP):Exit->TP
 | .exit i=>fun t h=>match cq i id with
  | true=>K .normal t h
  | false=>K (.exit i) t h
 | .normal=>K .normal
 | .ret=>K .ret
 | e=>K e
structure Hint where
 M:List Nat
 B:List Nat
 X:List (Nat×List Nat)
 K:List Nat
 F:List (Nat×List Bool)
 S:List Nat
def Pm{α:Type}(d:α)(k:Nat):List (Nat×α)->α
 | []=>d
 | (i,x)::r=>match cq i k with
  | true=>x
  | false=>Pm d k r
def UM:List Oper->List Bool
 | []=>[]
 | _::r=>true::UM r
def UN(Q:Hint)(id:Nat)(l:List Oper):List Bool:=Pm (UM l) id Q.F
def mn(Q:Hint)(C:Ctx):Code->Bool
 | .region id ops draw=>!draw||(decide ((ops.toList.any fun o=>jI C o.op)=Kj id Q.K)&&decide (ji C (Kj id Q.K) ops=UN Q id ops.toList))
 | .seq a b=>mn Q C a&&mn Q C b
 | .cond _ a b=>mn Q C a&&mn Q C b
 | .block _ c=>mn Q C c
 | .loop c=>mn Q C c
 | _=>true
structure LW(Q:Hint)(A:cD)(c:Code)(K:Exit->TP)(t:Nat->AV)(h:Nat->AB):Prop where
 out:mn Q A.C c=true->Ai A (.loop c) (fun e s=>K e s.t s.h) ⟨t,h⟩
structure SW(Q:Hint)(A:cD)(a b:Code)(K:Exit->TP)(t:Nat->AV)(h:Nat->AB):Prop where
 out:mn Q A.C a=true->mn Q A.C b=true->Ai A (.seq a b) (fun e s=>K e s.t s.h) ⟨t,h⟩
structure BW(Q:Hint)(A:cD)(c:Code)(id:Nat)(K:Exit->TP)(t:Nat->AV)(h:Nat->AB):Prop where
 out:mn Q A.C c=true->Ai A (.block id c) (fun e s=>K e s.t s.h) ⟨t,h⟩
def iR(Q:Hint)(A:cD):Code->(Exit->TP)->TP
 | .skip,K,t,h=>K .normal t h
 | .region id ops draw,K,t,h=>match draw with
  | false=>Kh A.C ops.toList ops.toList (K .normal) t h
  | true=>Ki ops.toList (Bp A.C (Kj id Q.K) (Pm [] id Q.X) ops.toList (UN Q id ops.toList) ops.toList (wz ops.toList (K .normal))) t h
 | .seq a b,K,t,h=>match UL Q.S (G4 b),UL Q.M (G4 b) with
  | true,_=>SW Q A a b K t h
  | false,false=>iR Q A a (MN (iR Q A b K) K) t h
  | false,true=>iR Q A a (MN (fun t h=>∃mN,au A ⟨t,h⟩ mN/\iR Q A b K mN.t mN.h) K) t h
 | .cond c a b,K,t,h=>match ev t c with
  | .p (.im (.bool x))=>@Bool.rec (fun _=>Prop) (iR Q A b K t h) (iR Q A a K t h) x
  | _=>False
 | .block id c,K,t,h=>match Kj id Q.B with
  | false=>iR Q A c (Pk id K) t h
  | true=>BW Q A c id K t h
 | .loop c,K,t,h=>LW Q A c K t h
 | .exit id,K,t,h=>K (.exit id) t h
 | .ret,K,t,h=>K .ret t h
 | _,_,_,_=>False
variable {Q:Hint} {A:cD}
theorem oa:∀(c:Code) {G:Exit->TP} {K:Exit->AS->Prop} {t:Nat->AV} {h:Nat->AB},mn Q A.C c=true->(∀e,SG (G e) (K e))->iR Q A c G t h->Ai A c K ⟨t,h⟩:=by
 intro c
 induction c with
 | skip=>intro G K t h hd H q;exact H _ _ _ q
 | region id ops draw=>
  intro G K t h hd H q;cases draw with
  | false=>exact Ek (H .normal) _ q
  | true=>
   simp only[mn,aaR,abv,aaZ,aaH]at hd;refine⟨Pm [] id Q.X,?_⟩;rw[hd.1,hd.2];exact tL (fun _ _ q=>Bq (fun _ _ q=>lW (H .normal) _ q) _ _ q) _ q
 | seq a b Lj Lk=>
  intro G K t h hd H q;simp only[mn,aaZ]at hd;unfold iR at q;split at q
  ·exact qx (.seq a b) _ _ _ (fun e s q=>H e _ _ q) (q.out hd.1 hd.2)
  ·refine Lj hd.1 (fun e t h q=>?_) q;cases e with
   | normal=>exact⟨_,au.refl _ _,Lk hd.2 H q⟩
   | _=>exact H _ _ _ q
  refine Lj hd.1 (fun e t h q=>?_) q;cases e with
  | normal=>
   obtain⟨s2,hl,q⟩:=q;exact⟨s2,hl,Lk hd.2 H q⟩
  | _=>exact H _ _ _ q
 | cond c a b Lj Lk=>
  intro G K t h hd H q;simp only[mn,aaZ]at hd;unfold iR at q;unfold Ai;split at q
  ·rename_i x hx;simp only[hx];cases x
   ·exact Lk hd.2 H q
   exact Lj hd.1 H q
  exact q.elim
 | block id c ih=>
  intro G K t h hd H q;unfold iR at q;split at q
  ·refine ih hd (fun e t h q=>?_) q;cases e with
   | exit i=>
    show pR (cq i id) _ _;simp only[Pk]at q;cases hb:cq i id<;>rw[hb]at q<;>exact H _ _ _ q
   | _=>exact H _ _ _ q
  exact qx (.block id c) _ _ _ (fun e s q=>H e _ _ q) (q.out hd)
 | loop c ih=>intro G K t h hd H q;exact qx (.loop c) _ _ _ (fun e s q=>H e _ _ q) (q.out hd)
 | exit id=>intro G K t h hd H q;exact H _ _ _ q
 | ret=>intro G K t h hd H q;exact H _ _ _ q
 | rangeFunc=>intro G K t h hd H q;exact q.elim
 | scope=>intro G K t h hd H q;exact q.elim
 | label=>intro G K t h hd H q;exact q.elim
 | goto=>intro G K t h hd H q;exact q.elim
 | refuse=>intro G K t h hd H q;exact q.elim
variable {α:Type}
theorem aJ{c:Code}{K:Exit->TP}{t:Nat->AV}{h:Nat->AB}(R:α->Prop)(ts:α->List (Nat×AV))(hs:α->List (Nat×AB))(m:α->Nat)(x0:α)(s0:AS)(h0:au A ⟨t,h⟩ s0)(hR:R x0)(ht:mU (ts x0) s0.t)(hh:mU (hs x0) s0.h)
  (round:∀x,R x->∀t h,iR Q A c (MN (fun t h=>∃y mN,au A ⟨t,h⟩ mN/\R y/\m y<m x/\mU (ts y) mN.t/\mU (hs y) mN.h) K) (oT (ts x) t) (oT (hs x) h)):LW Q A c K t h:=
 ⟨fun hd=>Pc R ts hs m x0 s0 h0 hR ht hh fun x hx t h=>oa c hd (fun e t h q=>by cases e<;>exact q) (round x hx t h)⟩
theorem p7{c:Code}{id:Nat}{K:Exit->TP}{t:Nat->AV}{h:Nat->AB}(R:α->Prop)(ts:α->List (Nat×AV))(hs:α->List (Nat×AB))
  (h2:∀y,R y->∀t h,K .normal (oT (ts y) t) (oT (hs y) h)) (h1:iR Q A c (Pk id (MN (fun t h=>∃y,R y/\mU (ts y) t/\mU (hs y) h) K)) t h):BW Q A c id K t h:=
 ⟨fun hd=>XL R ts hs h2 (oa c hd (K:=Bk id (n_ (wy R ts hs) fun e s=>K e s.t s.h)) (fun e t h q=>by
  cases e with
  | exit i=>
   show pR (cq i id) _ _;simp only[Pk]at q;cases hb:cq i id<;>rw[hb]at q<;>exact q
  | _=>exact q) h1)⟩
theorem XN{a b:Code}{K:Exit->TP}{t:Nat->AV}{h:Nat->AB}(R:α->Prop)(ts:α->List (Nat×AV))(hs:α->List (Nat×AB))
  (h2:∀y,R y->∀t h,iR Q A b K (oT (ts y) t) (oT (hs y) h)) (h1:iR Q A a (MN (fun t h=>∃y,R y/\mU (ts y) t/\mU (hs y) h) K) t h):SW Q A a b K t h:=
 ⟨fun ha hb=>cut R ts hs (fun y hy t h=>⟨_,au.refl _ _,oa b hb (fun _ _ _ q=>q) (h2 y hy t h)⟩) (oa a ha (K:=n_ (wy R ts hs) fun e s=>K e s.t s.h) (fun e t h q=>by cases e<;>exact q) h1)⟩
theorem qy{G:TP}{t:Nat->AV}{h:Nat->AB}{s2:AS}(hl:au A ⟨t,h⟩ s2)(q:G s2.t s2.h):∃mN,au A ⟨t,h⟩ mN/\G mN.t mN.h:=⟨s2,hl,q⟩
theorem xp{G:TP}{t:Nat->AV}{h:Nat->AB}(d:Nat){y:PV}{fz:List (Nat×AB)}(hC:bI A.C)(h0:AM.gD h (t d) fun y' mY=>y'=y/\mY=fz)(q:G (aT t d (.p y)) (app h fz)):∃mN,au A ⟨t,h⟩ mN/\G mN.t mN.h:=⟨_,au.gD hC ⟨t,h⟩ d h0,q⟩
theorem zB:(∀(p:Prop) [Decidable p],(decide p=true)=p)/\(∀(p:Prop) [Decidable p],(decide p=false)=¬p)/\(∀(α:Type) [_root_.LE α] (a b:α),(a>=b)=(b<=a))/\(∀(α:Type) [_root_.LT α] (a b:α),(a>b)=(b<a))/\(∀b:Bool,((!b)=true)=(b=false))/\(∀b:Bool,((!b)=false)=(b=true)):=
 ⟨fun p _=>by simp,fun p _=>by simp,fun _ _ _ _=>rfl,fun _ _ _ _=>rfl,fun b=>by simp,fun b=>by simp⟩
class Ss(b:Bool)(p q:outParam Prop):Prop where
 yes:b=true->p
 no:b=false->q
instance (priority:=10) XO {b:Bool}:Ss b (b=true) (b=false):=⟨id,id⟩
instance aaK{p:Prop}[Decidable p]:Ss (decide p) p (¬p):=⟨adw,of_decide_eq_false⟩
instance Zg{α:Type}[_root_.LE α]{a b:α}[Decidable (a>=b)]:Ss (decide (a>=b)) (b<=a) (¬b<=a):=⟨adw,of_decide_eq_false⟩
instance Zh{α:Type}[_root_.LT α]{a b:α}[Decidable (a>b)]:Ss (decide (a>b)) (b<a) (¬b<a):=⟨adw,of_decide_eq_false⟩
instance aaL{b:Bool}{p q:Prop}[i:Ss b p q]:Ss (!b) q p:=⟨fun h=>i.no (by simpa using h),fun h=>i.yes (by simpa using h)⟩
theorem Z{α:Sort _}{a:α}:a=a:=rfl
theorem Y:True:=trivial
theorem iW{b:Bool}{P Q p q:Prop}[k:Ss b p q](f:p->P)(g:q->Q):@Bool.rec (fun _=>Prop) Q P b:=by
 cases b
 ·exact g (k.no rfl)
 exact f (k.yes rfl)
structure Kk where
 w0:World
 mv:Nat->Prop
 s0:Nat->Prop
 n:Nat
 pin:Nat->Value
def Kl (Q : Hint) (C : Ctx) (fn : Func) (c : Code) (k : Nat) : Bool := !(fn.name == "runtime.NumGoroutine") && (Nat.ble (k + (fn.ntmps - k)) 100000 && (kQ C (k + (fn.ntmps - k)) c && mn Q C c))
variable {fn:Func} {args:List Arg} {fin:List Fin}
theorem Zi(Q:Hint){C:Ctx}(hC:bI C){f:FuncId}{c:Code}{r:AR}(hf:C.P.funcs[f]?=some fn)(hb:fn.body=some c)(hk:Kl Q C fn c args.length=true)
  (K:Kk->Exit->TP) (hK:∀p e t h,K p e t h->∃s',au ⟨C,p.w0,p.mv,p.s0,p.n,p.pin⟩ ⟨t,h⟩ s'/\GC C fn.results.toList args r fin e s')
  (h:∀p:Kk,∃s2,au ⟨C,p.w0,p.mv,p.s0,p.n,p.pin⟩ ⟨tF args,afb args⟩ s2/\iR Q ⟨C,p.w0,p.mv,p.s0,p.n,p.pin⟩ c (K p) s2.t s2.h):af C f args r fin:=by
 simp only[Kl,aaZ,ael,Nat.ble_eq]at hk;refine R3 hC hf hb hk.1 (by omega) fun A hA hAn S rho a w sim=>?_;obtain⟨_,w0,mv,s0,n,pin⟩:=A;subst hA;obtain⟨s2,hl,hw⟩:=h ⟨w0,mv,s0,n,pin⟩;obtain⟨S',rho',b9⟩:=hl S rho a w sim;have:=Ka hC c (fun e s=>∃s',au ⟨_,w0,mv,s0,n,pin⟩ s s'/\GC _ fn.results.toList args r fin e s') s2 (by show kQ _ _ c=true;rw[hAn];exact hk.2.2.1) (oa c hk.2.2.2 (fun e t h q=>hK _ e t h q) hw) S' rho' a w b9;refine wp_mono this fun e a' w' hq=>?_;obtain⟨S2,Sc,s3,aeI,s4,hl4,hk⟩:=hq;obtain⟨S5,XP,JP⟩:=hl4 S2 Sc a' w' aeI;exact⟨S5,XP,s4,JP,hk⟩
theorem UO(Q:Hint){C:Ctx}(hC:bI C){f:FuncId}{c:Code}{r:AR}(hf:C.P.funcs[f]?=some fn)(hb:fn.body=some c)(hk:Kl Q C fn c args.length=true)
  (h:∀p:Kk,∃s2,au ⟨C,p.w0,p.mv,p.s0,p.n,p.pin⟩ ⟨tF args,afb args⟩ s2/\iR Q ⟨C,p.w0,p.mv,p.s0,p.n,p.pin⟩ c (fun e t h=>∃s',au ⟨C,p.w0,p.mv,p.s0,p.n,p.pin⟩ ⟨t,h⟩ s'/\GC C fn.results.toList args r fin e s') s2.t s2.h):af C f args r fin:=
 Zi Q hC hf hb hk _ (fun _ _ _ _ q=>q) h
theorem UP(Q:Hint){C:Ctx}(hC:bI C){f:FuncId}{c:Code}{r:AR}(hf:C.P.funcs[f]?=some fn)(hb:fn.body=some c)(hk:Kl Q C fn c args.length=true)
  (h:∀p:Kk,∃s2,au ⟨C,p.w0,p.mv,p.s0,p.n,p.pin⟩ ⟨tF args,afb args⟩ s2/\iR Q ⟨C,p.w0,p.mv,p.s0,p.n,p.pin⟩ c (fun e t h=>GC C fn.results.toList args r fin e ⟨t,h⟩) s2.t s2.h):af C f args r fin:=
 Zi Q hC hf hb hk _ (fun _ _ _ _ q=>⟨_,au.refl _ _,q⟩) h
theorem uX(Q:Hint){C:Ctx}(hC:bI C){f:FuncId}{c:Code}{r:AR}(hf:C.P.funcs[f]?=some fn)(hb:fn.body=some c)(hk:Kl Q C fn c args.length=true)
  (h:∀p:Kk,iR Q ⟨C,p.w0,p.mv,p.s0,p.n,p.pin⟩ c (fun e t h=>GC C fn.results.toList args r fin e ⟨t,h⟩) (tF args) (afb args)):af C f args r fin:=
 UP Q hC hf hb hk fun p=>⟨_,au.refl _ _,h p⟩
theorem fW{C:Ctx}(hC:bI C){f:FuncId}{c:Code}{r:AR}(hf:C.P.funcs[f]?=some fn)(hb:fn.body=some c)(hk:Kl ⟨[],[],[],[],[],[]⟩ C fn c args.length=true)
  (h:∀p:Kk,iR ⟨[],[],[],[],[],[]⟩ ⟨C,p.w0,p.mv,p.s0,p.n,p.pin⟩ c (fun e t h=>GC C fn.results.toList args r fin e ⟨t,h⟩) (tF args) (afb args)):af C f args r fin:=uX _ hC hf hb hk h
end Go.AM
namespace Go.AM
open Go.RowKit
def xI (C : Ctx) (f : FuncId) : Prop := ∃ fn : Func, C.P.funcs[f]? = some fn ∧ (fn.name == "runtime.NumGoroutine") = false ∧ fn.body.isNone = false
variable {w:World}
theorem xJ{S:Nat->Prop}{P:Program}{as:List Value}{vs:Array Value}(hl:(as.map fun a=>Arg.pv (.im a)).length=vs.size)(hr:∀(j:Nat) x v,(as.map fun a=>Arg.pv (.im a))[j]?=some x->vs[j]?=some v->F7 S w P x v):vs=as.toArray:=by
 apply adR;apply ach;intro i;by_cases hi:i<as.length
 ·have h1:(as.map fun a=>Arg.pv (.im a))[i]?=some (.pv (.im as[i])):=by rw[aak,acg hi];rfl
  have Jw:i<vs.size:=by rw[<-hl];simpa using hi
  have h2:=hr i _ vs[i] h1 (aa1 Jw);have h3:vs[i]=as[i]:=by
   have:aO S w (.im as[i]) vs[i]:=h2;generalize vs[i]=v at this;cases this;rfl
  rw[aek,aa1 Jw,h3];simp[hi]
 rw[abI (by simpa [<-hl] using hi)];rw[abI (by simpa using hi)]
theorem CS{S:Nat->Prop}{P:Program}:∀l:List Value,eL S w P (l.map fun a=>Arg.pv (.im a)) [] l:=by
 intro l
 induction l with
 | nil=>trivial
 | cons a l ih=>exact ih
theorem tM:∀(l:List Value) (i g:Nat),¬du w (l.map fun a=>Arg.pv (.im a)) [] l i g:=by
 intro l
 induction l with
 | nil=>exact fun i g h=>h
 | cons a l ih=>
  intro i g h;cases i with
  | zero=>exact h
  | succ i=>exact ih i g h
theorem El{w':World}(l:List Value):ta w w' (l.map fun a=>Arg.pv (.im a)) [] l.toArray:=⟨fun i g h=>(tM l i g h).elim,fun i j g h=>(tM l i g h).elim⟩
theorem vv{C:Ctx}{f:FuncId}(as:List Value)(r:Value)(hf:xI C f)(h:∀S w,C.E S w->(∀b,S b->b<w.heap.size)->Calls C.P f as.toArray w fun e w'=>e=.returned r/\Below w.heap.size w w'):
  af C f (as.map fun a=>.pv (.im a)) (.p (.im r)) []:=by
 refine⟨hf,fun S w vs hE hS hl hr _=>?_⟩;have LI:=xJ hl hr;subst LI;exact (h S w hE hS).mono fun e w' ⟨he,hb⟩=>⟨r,S,he,⟨hb.os,hb.tape,hb.output,hb.size,fun k hk _=>hb.block k hk⟩,fun _ h=>h,fun b hb'=>aaW (hS b hb') hb.size,fun b hb'=>.inl hb',.im r,CS as,El as,fun g h=>by cases h⟩
theorem Em{C:Ctx}(hC:bI C){f:FuncId}(as:List Value)(e:TypeId)(xs:List Value)(ti:TI)(hT:C.T e=some ti)(hsz:ti.size=1)(jg:∀v∈xs,v.oneCell'=true)(hlen:xs.length<=maxLen)(hf:xI C f)
  (h:∀S w,C.E S w->(∀b,S b->b<w.heap.size)->Calls C.P f as.toArray w fun e' w'=>e'=.returned (.slice (some ⟨w.heap.size,0,none⟩) xs.length xs.length)/\w'=w.alloc (.cells xs.toArray e)):
  af C f (as.map fun a=>.pv (.im a)) (.own e (xs.map fun v=>[.im v])) []:=by
 refine⟨hf,fun S w vs hE hS hl hr _=>?_⟩;have LI:=xJ hl hr;subst LI;obtain⟨info,z,h1,h2,_⟩:=hC.iq e ti hT;refine (h S w hE hS).mono fun e' w' ⟨he,hw⟩=>?_;subst hw;have L4:(w.alloc (.cells xs.toArray e)).heap[w.heap.size]?=some (.cells xs.toArray e (0,0)):=by unfold World.alloc;exact Array.getElem?_push_size
 have aaO:(w.alloc (.cells xs.toArray e)).heap.size=w.heap.size+1:=Array.size_push ..;have hb:Below w.heap.size w (w.alloc (.cells xs.toArray e)):=(abJ _ _).alloc (aam _) _;refine⟨_,S,he,⟨hb.os,hb.tape,hb.output,hb.size,fun k hk _=>hb.block k hk⟩,fun _ h=>h,fun b hb'=>aaW (hS b hb') hb.size,fun b hb'=>.inl hb',⟨⟨info,xs,h1,by omega,⟨?_,.inr ⟨w.heap.size,xs.length,xs.toArray,?_,aaj _,L4,?_,hlen,?_,?_⟩⟩,?_,jg,?_⟩,?_⟩,CS as,El as,?_⟩
 ·simp[h2,hsz]
 ·simp
 ·simp
 ·simp[h2,hsz]
 ·simp[h2,hsz]
 ·intro r hr;obtain⟨v,_,rfl⟩:=adS.1 hr;simp[h2,hsz]
 ·intro a r j x ha hj;rw[aak]at ha;obtain⟨v,hv,rfl⟩:=acq.1 ha;cases j with
  | zero=>
   simp at hj;subst hj;exact⟨v,by rw[h2,hsz,acE,abQ];exact hv,.im v⟩
  | succ j=>simp at hj
 ·intro g hg hs;injection hg with hg;have hg:w.heap.size=g:=hg;have:=hS g hs;omega
 intro g _ hg;have hg:=aI rfl hg;injection hg with hg;have hg:w.heap.size=g:=hg;exact⟨by omega,.inl (by omega),fun i=>tM as i g⟩
end Go.AM
