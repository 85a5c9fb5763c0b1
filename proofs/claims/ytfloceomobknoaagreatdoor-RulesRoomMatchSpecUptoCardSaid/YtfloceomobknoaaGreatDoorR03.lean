/- Part 3 of the proof of RulesRoomMatchSpec. -/
import Derived.Test.YtfloceomobknoaaGreatDoorR02
import Derived.WideKeyRuns
set_option linter.unusedVariables false
set_option linter.unusedSimpArgs false
set_option maxRecDepth 100000
set_option maxHeartbeats 8000000
namespace Go
abbrev adZ:=@Bool.or_eq_true
abbrev abv:=@Bool.false_or
abbrev abD:=@List.mem_range
abbrev aaR:=@Bool.not_true
abbrev aci:=@List.any_eq_true
abbrev aaG:=@List.map_congr_left
abbrev abo:=@Bool.or_false
abbrev acz:=@Classical.byContradiction
abbrev abY:=@List.mem_append_left
abbrev aba:=@List.mem_filterMap
abbrev adt:=@List.mem_append_right
abbrev aby:=@List.filter_cons
abbrev abH:=@List.eq_nil_iff_forall_not_mem
abbrev adu:=@List.mem_filter
abbrev abz:=@List.flatMap_cons
abbrev abE:=@List.map_append
abbrev aax:=@List.mem_flatMap
abbrev adb:=@List.length_filter_le
abbrev acO:=@Bool.false_eq_true
abbrev adw:=@Bool.and_assoc
abbrev abJ:=@of_decide_eq_true
abbrev acE:=@Go.RowKit.Below.refl
abbrev acP:=@Nat.mul_one
end Go
namespace Go.AM
open Go.RowKit
def isApp:Op->Bool
 | .call c=>match c.callee with
  | .builtin .append=>true
  | _=>false
 | _=>false
def Mg(m:Nat->Bool):Nat->Bool
 | 0=>false
 | n+1=>m n||Mg m n
def jI(C:Ctx)(o:Op):Bool:=isApp o||match o with
 | .call c=>match c.callee with
  | .value (.func f)=>Mg (C.md f) 8||C.bl f
  | .value (.tmp _)=>true
  | _=>false
 | _=>false
def cls(C:Ctx)(ap:Bool):Op->Nat
 | .move _=>0
 | .assign _=>0
 | .pick _ _ _=>0
 | .binOp _ _ _ _ _=>0
 | .unOp _ _ _=>0
 | .convert _ _ _=>0
 | .extract _ _=>0
 | .index _ _ _=>0
 | .field _ _ _=>0
 | .makeFunc _ _ _=>0
 | .fieldAddr _ _ _=>match ap with
  | true=>2
  | false=>1
 | .nilCheck _=>match ap with
  | true=>2
  | false=>1
 | .store _ _ _=>3
 | .mapUpdate _ _ _ _=>3
 | .call c=>match c.callee with
  | .builtin .append=>3
  | .builtin .clear=>3
  | .builtin .min=>0
  | .builtin .max=>0
  | .value (.func f)=>match Mg (C.md f) 8||C.bl f with
   | true=>3
   | false=>2
  | .value (.tmp _)=>3
  | _=>2
 | _=>2
def Mh:AB->AB->Bool
 | .row e _,.row e' _=>cq e e'
 | .box _,.box _=>true
 | .map _ _,.map _ _=>true
 | _,_=>false
def Mi:AB->Bool
 | .none=>false
 | _=>true
def iw(h:Nat->AB):List (Nat×AB)->Bool
 | []=>true
 | (i,_)::r=>Mi (h i)&&iw h r
def kj(h:Nat->AB):List (Nat×AB)->Bool
 | []=>true
 | (i,b)::r=>Mh (h i) b&&kj h r
def sE(op:Op):Option AB->Option Tmp->Bool
 | none,_=>true
 | some _,some _=>qp op
 | some _,none=>false
def vg:AV->Bool
 | .p _=>true
 | _=>false
def vh(o:Oper)(rho:Operand->AV):Bool:=match o.op with
 | .load _ a=>vg (rho a)
 | .indexAddr _ x _=>vg (rho x)
 | .slice _ x _ _ none=>vg (rho x)
 | .build _ ps=>ps.toList.all fun p=>vg (rho p.2)
 | .call c=>match c.callee,c.args.toList with
  | .builtin .len,[x]=>vg (rho x)
  | _,_=>false
 | .fieldAddr _ x _=>vg (rho x)
 | .nilCheck x=>vg (rho x)
 | _=>false
def Av:List Nat->Nat->Bool
 | [],_=>false
 | i::r,k=>match cq i k with
  | true=>true
  | false=>Av r k
def Up(X:List Nat):AV->Bool
 | .ow id=>Av X id
 | .rp id _ _=>Av X id
 | .bx id _=>Av X id
 | _=>false
def qq(X:List Nat)(o:Oper)(rho:Operand->AV):Bool:=match o.op with
 | .load _ a=>Up X (rho a)
 | .indexAddr _ x _=>Up X (rho x)
 | .lookup _ x _ _=>Up X (rho x)
 | .call c=>match c.callee,c.args.toList with
  | .builtin .len,[x]=>Up X (rho x)
  | _,_=>false
 | _=>false
def vi(X:List Nat)(o:Oper)(rho:Operand->AV):Bool:=match o.op with
 | .makeSlice _ _ _=>Av X (o.dst.getD 0)
 | .buildSlice _ _ ps=>Av X (o.dst.getD 0)&&ps.toList.all fun p=>vg (rho p.2)
 | _=>false
def qu(X:List Nat)(o:Oper)(rho:Operand->AV):Bool:=qq X o rho||vi X o rho
def Tw(X:List Nat):List (Nat×AB)->Bool
 | []=>true
 | (i,_)::r=>match Av X i with
  | true=>false
  | false=>Tw X r
def kc:AB->Nat
 | .box _=>1
 | .jd _=>1
 | .row _ _=>2
 | .az _ _=>2
 | _=>0
def tG(X:List Nat)(h:Nat->AB):List (Nat×AB)->Bool
 | []=>true
 | (i,b)::r=>match Av X (i+1000000) with
  | true=>Nat.beq (kc b) (kc (h i))&&(!Nat.beq (kc (h i)) 0&&tG X h r)
  | false=>tG X h r
def Ot(X:List Nat)(f:Bool)(h:Nat->AB)(e:List (Nat×AB)):Bool:=(f||Tw X e)&&tG X h e
theorem Iw(X:List Nat)(f:Bool)(h:Nat->AB):Ot X f h []=true:=by simp[Ot,Tw,tG]
def Xn(X:List Nat):AV->Bool
 | .bx id _=>Av X (id+1000000)
 | .rp id _ _=>Av X (id+1000000)
 | _=>false
def vj(X:List Nat)(o:Oper)(rho:Operand->AV):Bool:=match o.op with
 | .fieldAddr _ x _=>Xn X (rho x)
 | .nilCheck x=>Xn X (rho x)
 | _=>false
def yw(C:Ctx)(ap:Bool)(X:List Nat)(f:Bool)(o:Oper)(rho:Operand->AV):Bool:=f||vh o rho||qu X o rho||vj X o rho||Nat.beq (cls C ap o.op) 3
def Mj(C:Ctx)(ap:Bool)(X:List Nat)(f:Bool)(o:Oper)(K:AS->Prop)(s:AS):Prop:=
 bV C o (ev s.t) s.h fun v eff new=>match sE o.op new o.dst with
  | false=>False
  | true=>match Nat.beq (cls C ap o.op) 3 with
   | true=>match iw s.h eff&&(ap||kj s.h eff)&&Ot X f s.h eff with
    | true=>K ⟨fx s.t o.dst v,qd (app s.h eff) (o.dst.getD 0) new⟩
    | false=>False
   | false=>match eff with
    | []=>K ⟨fx s.t o.dst v,qd s.h (o.dst.getD 0) new⟩
    | _=>False
def rR(C:Ctx)(ap:Bool)(X:List Nat)(f:Bool)(o:Oper)(K:AS->Prop)(s:AS):Prop:=match yw C ap X f o (ev s.t) with
 | true=>Mj C ap X f o K s
 | false=>False
def oS(C:Ctx)(ap:Bool)(X:List Nat)(all:List Oper):List Bool->List Oper->(AS->Prop)->AS->Prop
 | _,[],K,s=>K s
 | [],_::_,_,_=>False
 | f::fl,o::r,K,s=>match o.guard with
  | none=>rR C ap X f o (oS C ap X all fl r K) s
  | some (g,want)=>match all[g]? with
   | none=>False
   | some og=>match og.dst with
    | none=>False
    | some tg=>match s.t tg with
     | .p (.im (.bool b))=>pR b
       (match want with
        | true=>rR C ap X f o (oS C ap X all fl r K) ⟨aT s.t tg (jh true),s.h⟩
        | false=>oS C ap X all fl r K ⟨fx (aT s.t tg (jh true)) o.dst rH,s.h⟩)
       (match want with
        | false=>rR C ap X f o (oS C ap X all fl r K) ⟨aT s.t tg (jh false),s.h⟩
        | true=>oS C ap X all fl r K ⟨fx (aT s.t tg (jh false)) o.dst rH,s.h⟩)
     | .p (.im (.tuple _))=>oS C ap X all fl r K ⟨fx s.t o.dst rH,s.h⟩
     | _=>False
structure RR where
 run:Bool
 v:AV
 eff:List (Nat×AB)
 new:Option AB
structure DStep(C:Ctx)(ap:Bool)(all:List Oper)(o:Oper)(s:AS)(r:RR)(s':AS):Prop where
 guard:match o.guard with
  | none=>r.run=true
  | some (g,want)=>∃og tg b,all[g]?=some og/\og.dst=some tg/\s.t tg=.p (.im b)/\r.run=Uj b want
 ran:r.run=true->bV C o (ev s.t) s.h fun v e n=>v=r.v/\e=r.eff/\n=r.new
 not:r.run=false->r.v=rH/\r.eff=[]/\r.new=none
 next:s'=⟨fx s.t o.dst r.v,qd (app s.h r.eff) (o.dst.getD 0) r.new⟩
 there:iw s.h r.eff=true
 kind:ap=false->kj s.h r.eff=true
 quiet:cls C ap o.op≠3->r.eff=[]
 ndst:sE o.op r.new o.dst=true
variable {ap:Bool}
theorem J5{C:Ctx}{f:Bool}{X:List Nat}{o:Oper}{K:AS->Prop}{s:AS}(h:Mj C ap X f o K s):∃v eff new,(bV C o (ev s.t) s.h fun J e' L=>J=v/\e'=eff/\L=new)/\iw s.h eff=true/\(ap=false->kj s.h eff=true)/\(cls C ap o.op≠3->eff=[])/\sE o.op new o.dst=true/\Ot X f s.h eff=true/\K ⟨fx s.t o.dst v,qd (app s.h eff) (o.dst.getD 0) new⟩:=by
 obtain⟨v,eff,new,z,N⟩:=q_ (fun _=>.inr rfl) h;refine⟨v,eff,new,N _ ⟨rfl,rfl,rfl⟩,?_⟩;split at z
 ·exact z.elim
 rename_i I;split at z
 ·rename_i D;have D:cls C ap o.op=3:=aa2 D;split at z
  ·rename_i hk;have O:Ot X f s.h eff=true:=(aaZ _ _▸hk).2;simp only[aaZ,adZ]at hk;exact⟨hk.1.1,fun e=>hk.1.2.resolve_left (by rw[e];decide),fun h=>absurd D h,I,O,z⟩
  exact z.elim
 split at z
 ·exact⟨rfl,fun _=>rfl,fun _=>rfl,I,Iw _ _ _,z⟩
 exact z.elim
def yx(C:Ctx)(ap:Bool)(X:List Nat)(fl:List Bool)(o:Oper)(s:AS)(r:RR)(i:Nat):Prop:=r.run=true->(fl[i]?=some true\/vh o (ev s.t)=true\/qu X o (ev s.t)=true\/vj X o (ev s.t)=true\/cls C ap o.op=3)/\(fl[i]?=some true\/Tw X r.eff=true)/\tG X s.h r.eff=true
theorem Mk{C:Ctx}{X:List Nat}{all:List Oper}{K:AS->Prop}:∀(l:List Oper) (D:List Bool) (s:AS),oS C ap X all D l K s->∃(st:Nat->AS) (r:Nat->RR),st 0=s/\K (st l.length)/\∀(i:Nat) o,l[i]?=some o->DStep C ap all o (st i) (r i) (st (i+1))/\yx C ap X D o (st i) (r i) i:=by
 intro l
 induction l with
 | nil=>intro D s h;exact⟨fun _=>s,fun _=>⟨false,.junk,[],none⟩,rfl,by cases D<;>exact h,by simp⟩
 | cons o l ih=>
  intro D s h;cases D with
  | nil=>exact h.elim
  | cons f D=>
  have ext:∀(r:RR) (U:AS),DStep C ap all o s r U->(r.run=true->yw C ap X f o (ev s.t)=true/\Ot X f s.h r.eff=true)->oS C ap X all D l K U->∃(st:Nat->AS) (r:Nat->RR),st 0=s/\K (st (o::l).length)/\∀(i:Nat) o',(o::l)[i]?=some o'->DStep C ap all o' (st i) (r i) (st (i+1))/\yx C ap X (f::D) o' (st i) (r i) i:=by
   intro r0 U hd hf hk;obtain⟨st,r,h1,h2,h3⟩:=ih D U hk;refine⟨fun i=>match i with | 0=>s | i+1=>st i,fun i=>match i with | 0=>r0 | i+1=>r i,rfl,h2,fun i o' hi=>?_⟩;cases i with
   | zero=>
    simp at hi;subst hi;refine⟨?_,fun hr=>?_⟩
    ·show DStep C ap all o s r0 (st 0);rw[h1];exact hd
    obtain⟨V,O⟩:=hf hr;simp only[Ot,aaZ]at O;obtain⟨O,q3⟩:=O;exact⟨by cases f with
     | true=>exact .inl rfl
     | false=>simp only[yw,abv,adZ]at V;exact .inr (by rcases V with ((h | h) | h) | h;exact .inl h;exact .inr (.inl h);exact .inr (.inr (.inl h));exact .inr (.inr (.inr (aa2 h)))),by cases f with
     | true=>exact .inl rfl
     | false=>exact .inr O,q3⟩
   | succ i=>
    obtain⟨V,O⟩:=h3 i o' (by simpa using hi);exact⟨V,fun hr=>O hr⟩
  have I:(match o.guard with
    | none=>true=true
    | some (g,z)=>∃N J b,all[g]?=some N/\N.dst=some J/\s.t J=.p (.im b)/\true=Uj b z)->rR C ap X f o (oS C ap X all D l K) s->∃(st:Nat->AS) (r:Nat->RR),st 0=s/\K (st (o::l).length)/\∀(i:Nat) o',(o::l)[i]?=some o'->DStep C ap all o' (st i) (r i) (st (i+1))/\yx C ap X (f::D) o' (st i) (r i) i:=by
   intro L R;unfold rR at R;split at R
   case h_2=>exact R.elim
   rename_i hf;obtain⟨v,eff,new,k1,k2,k3,k4,k6,k7,k5⟩:=J5 R;exact ext ⟨true,v,eff,new⟩ _ ⟨L,fun _=>k1,(fun h=>by cases h),rfl,k2,k3,k4,k6⟩ (fun _=>⟨hf,k7⟩) k5
  unfold oS at h;split at h
  ·rename_i L;exact I (by rw[L]) h
  rename_i g z L;split at h
  ·exact h.elim
  rename_i N W;split at h
  ·exact h.elim
  rename_i J Y;split at h
  ·rename_i b hb;have Z:∀b',b=b'->aT s.t J (jh b')=s.t:=fun b' e=>jf _ _ _ (by rw[hb,e];rfl);have QI:oS C ap X all D l K ⟨fx s.t o.dst rH,s.h⟩->(false=(b==z))->∃(st:Nat->AS) (r:Nat->RR),st 0=s/\K (st (o::l).length)/\∀(i:Nat) o',(o::l)[i]?=some o'->DStep C ap all o' (st i) (r i) (st (i+1))/\yx C ap X (f::D) o' (st i) (r i) i:=fun R he=>
    ext ⟨false,rH,[],none⟩ _ ⟨by rw[L];exact⟨N,J,.bool b,W,Y,hb,by rw[he];cases b<;>cases z<;>rfl⟩,fun h=>(by cases h),fun _=>⟨rfl,rfl,rfl⟩,rfl,rfl,fun _=>rfl,fun _=>rfl,rfl⟩ (fun h=>by cases h) R
   cases b<;>cases z<;>simp only[pR]at h
   ·rw[Z false rfl]at h;exact I (by rw[L];exact⟨N,J,.bool false,W,Y,hb,rfl⟩) h
   ·rw[Z false rfl]at h;exact QI h rfl
   ·rw[Z true rfl]at h;exact QI h rfl
   rw[Z true rfl]at h;exact I (by rw[L];exact⟨N,J,.bool true,W,Y,hb,rfl⟩) h
  ·rename_i q hb;exact ext ⟨false,rH,[],none⟩ _ ⟨by rw[L];exact⟨N,J,.tuple q,W,Y,hb,by cases z<;>rfl⟩,fun h=>(by cases h),fun _=>⟨rfl,rfl,rfl⟩,rfl,rfl,fun _=>rfl,fun _=>rfl,rfl⟩ (fun h=>by cases h) h
  exact h.elim
variable {rho:Operand->AV} {h':Nat->AB}
theorem R4{C:Ctx}{o:Oper}{h:Nat->AB}{K:KK}(z:cls C ap o.op=0)(D:bV C o rho h K):bV C o rho h' K:=by
 cases I:o.op<;>rw[I]at z<;>try (simp only[bV,I]at D ⊢;exact D)
 all_goals try (cases z;done)
 case makeFunc fn first cap=>
  cases fn with
  | func f=>simp only[bV,I]at D ⊢;exact D
  | _=>simp only[bV,I]at D
 case fieldAddr=>cases ap<;>cases z
 case nilCheck=>cases ap<;>cases z
 case call c=>
  simp only[bV,I]at D ⊢;simp only[cls]at z;split at z
  ·cases z
  ·cases z
  ·rename_i J;simp only[J,aeC,fy]at D ⊢;exact D
  ·rename_i J;simp only[J,aeC,fy]at D ⊢;exact D
  ·split at z<;>cases z
  ·cases z
  cases z
theorem R5{C:Ctx}{o:Oper}{h:Nat->AB}{K:KK}(J:cls C ap o.op=1)(L:∀id,(h id).there->((h' id).there/\(∀e es,h id=.row e es->∃N,h' id=.row e N)/\(∀cs,h id=.box cs->∃O,h' id=.box O)/\(∀cs,h id=.jd cs->∃O,h' id=.jd O)/\(∀e es,h id=.az e es->∃N,h' id=.az e N)))(z:bV C o rho h K):bV C o rho h' K:=by
 cases R:o.op<;>rw[R]at J<;>try (cases J;done)
 case call c=>
  exfalso;simp only[cls]at J;split at J<;>first | cases J | (split at J<;>cases J)
 case fieldAddr t x f=>
  simp only[bV,R]at z ⊢;split at z
  ·split at z
   ·split at z
    ·exact z
    ·rename_i id o' U;split at z
     ·exact z.elim
     rename_i W;have Y:(h id).there:=by cases h1:h id<;>first | trivial | exact absurd h1 (by simpa using W)
     have:=(L id Y).1;split
     ·rename_i I;rw[I]at this;exact this.elim
     exact z
    ·rename_i id i o' U;split at z
     ·rename_i e es D;obtain⟨N,I⟩:=(L id (by rw[D];trivial)).2.1 e es D;simp only[I];exact z
     ·rename_i e es D;obtain⟨N,I⟩:=(L id (by rw[D];trivial)).2.2.2.2 e es D;simp only[I];exact z
     exact z.elim
    exact z
   exact z
  exact z
 case nilCheck x=>
  simp only[bV,R]at z ⊢;split at z
  ·exact z
  ·rename_i id V U;split at z
   ·rename_i cs D;obtain⟨O,I⟩:=(L id (by rw[D];trivial)).2.2.1 cs D;simp only[I];exact z
   ·rename_i cs D;obtain⟨O,I⟩:=(L id (by rw[D];trivial)).2.2.2.1 cs D;simp only[I];exact z
   exact z.elim
  ·rename_i id i V U;split at z
   ·rename_i e es D;obtain⟨N,I⟩:=(L id (by rw[D];trivial)).2.1 e es D;simp only[I];exact z
   ·rename_i e es D;obtain⟨N,I⟩:=(L id (by rw[D];trivial)).2.2.2.2 e es D;simp only[I];exact z
   exact z.elim
  exact z
def vk(ops:Array Oper)(o:Oper)(d:Tmp):Bool:=(o.looksAt ops).contains d
def GH(C:Ctx)(ap:Bool)(ops:Array Oper)(b:Array Nat)(i j:Nat)(oi oj:Oper):Bool:=
 (match oi.dst,oj.dst with
  | some x,some y=>!cq x y
  | _,_=>true) &&
 (match oj.dst with
  | some d=>!vk ops oi d||(b.getD j 0).testBit i
  | none=>true) &&
 (match oi.dst with
  | some d=>!vk ops oj d||(b.getD j 0).testBit i
  | none=>true) &&
 (if cls C ap oj.op=3 then (if cls C ap oi.op=3 then (b.getD j 0).testBit i else true) else true)
def Uq(ops:Array Oper)(b:Array Nat)(C:Ctx)(ap:Bool)(c i:Nat):Bool:=(List.range ops.size).all fun k=>match ops[k]? with
  | none=>true
  | some ok=>!cq (cls C ap ok.op) c||(if k<i then (b.getD i 0).testBit k else if i<k then (b.getD k 0).testBit i else true)
def O4:Op->Bool
 | .fieldAddr _ _ _=>true
 | .nilCheck _=>true
 | _=>false
def Xo(ops:Array Oper)(b:Array Nat)(C:Ctx)(ap:Bool)(i:Nat):Bool:=(List.range ops.size).all fun k=>match ops[k]? with
  | none=>true
  | some ok=>(O4 ok.op||!cq (cls C ap ok.op) 2)||(if k<i then (b.getD i 0).testBit k else if i<k then (b.getD k 0).testBit i else true)
def Cz(C:Ctx)(ap:Bool)(ops:Array Oper)(b:Array Nat)(i:Nat)(oi:Oper):Bool:=
 match cls C ap oi.op with
 | 2=>Uq ops b C ap 3 i
 | 3=>Xo ops b C ap i
 | _=>true
def ji(C:Ctx)(ap:Bool)(ops:Array Oper):List Bool:=
 let b:=Region.before ops
 (List.range ops.size).map fun i=>match ops[i]? with
  | some oi=>Cz C ap ops b i oi
  | none=>true
variable {ops:Array Oper} {oi:Oper}
theorem Ml{C:Ctx}{i:Nat}{c:Nat}(hi:ops[i]?=some oi)(h:Uq ops (Region.before ops) C ap c i=true):
  ∀(k:Nat) ok,ops[k]?=some ok->cls C ap ok.op=c->(k<i->((Region.before ops).getD i 0).testBit k=true)/\(i<k->((Region.before ops).getD k 0).testBit i=true):=by
 intro k ok hk I;have s_:=(ab9.1 hi).1;have J:=(ab9.1 hk).1;have z:=abh.1 h k (abD.2 J);simp only[hk,a7.2 I,aaR,abv]at z;refine⟨fun D=>?_,fun D=>?_⟩
 ·rwa [aap D]at z
 rwa [aaa (by omega),aap D]at z
theorem D_{C:Ctx}{i:Nat}(hi:ops[i]?=some oi)(h:(ji C ap ops)[i]?=some true):Cz C ap ops (Region.before ops) i oi=true:=by
 have z:=(ab9.1 hi).1;simpa only[ji,aak,abP z,ab6,hi,Option.some.injEq] using h
theorem vm{C:Ctx}{i:Nat}(hi:ops[i]?=some oi)(h:(ji C ap ops)[i]?=some true)(D:cls C ap oi.op=2):
  ∀(k:Nat) ok,ops[k]?=some ok->cls C ap ok.op=3->(k<i->((Region.before ops).getD i 0).testBit k=true)/\(i<k->((Region.before ops).getD k 0).testBit i=true):=by
 have z:=D_ hi h;simp only[Cz,D]at z;exact Ml hi z
theorem yy{C:Ctx}{i:Nat}(hi:ops[i]?=some oi)(h:(ji C ap ops)[i]?=some true)(J:cls C ap oi.op=3):
  ∀(k:Nat) ok,ops[k]?=some ok->cls C ap ok.op=2->O4 ok.op=false->(k<i->((Region.before ops).getD i 0).testBit k=true)/\(i<k->((Region.before ops).getD k 0).testBit i=true):=by
 have z:=D_ hi h;simp only[Cz,J]at z;intro k ok hk L D;have s_:=(ab9.1 hi).1;have N:=(ab9.1 hk).1;have z:=abh.1 z k (abD.2 N);simp only[hk,D,a7.2 L,aaR,abv]at z;refine⟨fun I=>?_,fun I=>?_⟩
 ·rwa [aap I]at z
 rwa [aaa (by omega),aap I]at z
theorem Ix{X:List Nat}{o:Oper}(h:qu X o rho=true):O4 o.op=false:=by
 unfold qu qq vi at h;cases e:o.op<;>rw[e]at h<;>first | rfl | cases h
theorem Ea{X:List Nat}:∀{eff:List (Nat×AB)},Tw X eff=true->∀p∈eff,Av X p.1=false:=by
 intro eff
 induction eff with
 | nil=>intro _ p hp;cases hp
 | cons x r ih=>
  intro h p hp;unfold Tw at h;split at h
  ·cases h
  rename_i z;rcases adq.1 hp with e | e
  ·rw[e];exact z
  exact ih h p e
theorem eW{a:AV}(h:vg a=true):∃x,a=.p x:=by cases a<;>first | exact⟨_,rfl⟩ | cases h
variable {fs:List (Nat×Nat×Bool)}
theorem Mm{h:Nat->AB}:∀(ps:List (Nat×Operand)) (cs:List PV) (K:List PV->List (Nat×AB)->Prop),(ps.all fun p=>vg (rho p.2))=true->jC h fs rho ps cs K->jC h' fs rho ps cs K:=by
 intro ps
 induction ps with
 | nil=>intro cs K _ z;exact z
 | cons p ps ih=>
  intro cs K hp z;obtain⟨i,x⟩:=p;simp only[aaP,aaZ]at hp;obtain⟨y,D⟩:=eW hp.1;simp only[jC]at z ⊢;split at z
  ·rw[D]at z ⊢;simp only[gD,l8]at z ⊢;revert z;cases sg y with
   | none=>exact id
   | some ys=>
    simp only;cases Ag ys.length _&&H9 _ cs.length with
    | false=>exact id
    | true=>intro z;exact ih _ _ hp.2 z
  exact z.elim
theorem Mn{h:Nat->AB}:∀(ps:List (Nat×Operand)) (cs:List AV) (K:List AV->Prop),(ps.all fun p=>vg (rho p.2))=true->k_ h fs rho ps cs K->k_ h' fs rho ps cs K:=by
 intro ps
 induction ps with
 | nil=>intro cs K _ z;exact z
 | cons p ps ih=>
  intro cs K hp z;obtain⟨i,x⟩:=p;simp only[aaP,aaZ]at hp;obtain⟨y,D⟩:=eW hp.1;unfold k_ at z ⊢;split at z
  ·rename_i I;split at z
   ·rename_i J;have e:u5 h' (rho x)=u5 h (rho x):=by rw[D];cases y<;>rfl
    simp only[I,e,J];exact ih _ _ hp.2 z
   exact z.elim
  exact z.elim
theorem GI{h:Nat->AB}{Q:Prop}:∀(ps:List (Nat×Operand)) (cs:List PV) (K:List PV->List (Nat×AB)->Prop),(∀a b,K a b->Q)->jC h fs rho ps cs K->Q:=by
 intro ps
 induction ps with
 | nil=>intro cs K hk z;exact hk _ _ z
 | cons p ps ih=>
  intro cs K hk z;obtain⟨i,x⟩:=p;simp only[jC]at z;split at z
  ·obtain⟨y,fz,D,_⟩:=iu (fun _=>.inr rfl) z;split at D
   ·split at D
    ·exact ih _ _ (fun a b h=>hk _ _ h) D
    exact D.elim
   exact D.elim
  exact z.elim
theorem R6{C:Ctx}{o:Oper}{h:Nat->AB}{K:KK}(hp:vh o rho=true)(z:bV C o rho h K):bV C o rho h' K:=by
 unfold vh at hp;split at hp
 ·rename_i t a D;obtain⟨x,I⟩:=eW hp;simp only[bV,D]at z ⊢;rw[I]at z ⊢;cases x<;>exact z
 ·rename_i t x ix D;obtain⟨y,I⟩:=eW hp;simp only[bV,D]at z ⊢;rw[I]at z ⊢;cases y<;>exact z
 ·rename_i t x lo hi D;obtain⟨y,I⟩:=eW hp;simp only[bV,D]at z ⊢;rw[I]at z ⊢;have z:gm C rho h t x lo hi K:=z;show gm C rho h' t x lo hi K;simp only[gm]at z ⊢;rw[I]at z ⊢;exact z
 ·rename_i t ps D;simp only[bV,D]at z ⊢;split at z
  ·split at z
   ·exact Mm _ _ _ hp z
   exact Mn _ _ _ hp z
  exact z.elim
 ·rename_i c D;split at hp
  ·rename_i x N L;obtain⟨y,I⟩:=eW hp;simp only[bV,D,N,L,aeC,fy]at z ⊢;split at z
   ·rename_i J O;simp only[L,O]at *;injection J with J _;subst J;rw[I]at z ⊢;cases y<;>exact z
   exact z.elim
  cases hp
 ·rename_i t x f D;obtain⟨y,I⟩:=eW hp;simp only[bV,D]at z ⊢;rw[I]at z ⊢;cases y<;>exact z
 ·rename_i x D;obtain⟨y,I⟩:=eW hp;simp only[bV,D]at z ⊢;rw[I]at z ⊢;cases y<;>exact z
 cases hp
variable {e:List (Nat×AB)}
theorem GJ{C:Ctx}{o:Oper}{h:Nat->AB}{v:AV}{n:Option AB}(hp:vh o rho=true)(D:bV C o rho h fun O e' R=>O=v/\e'=e/\R=n):n=none:=by
 have N:∀(x:AV) (K:List (List PV)->Prop) (Q:Prop),(∀es,K es->Q)->gH h x K->Q:=by
  intro x K Q hk D;unfold gH at D
  repeat' (split at D)
  all_goals first | exact D.elim | exact hk _ D
 unfold vh at hp;split at hp
 ·rename_i t a J;obtain⟨x,L⟩:=eW hp;simp only[bV,J]at D;split at D
  ·exact D.elim
  rw[L]at D;split at D
  ·split at D
   ·split at D
    ·exact D.2.2.symm
    exact D.elim
   split at D
   ·exact D.2.2.symm
   exact D.elim
  ·rename_i I;cases I
  ·rename_i I;cases I
  exact D.elim
 ·rename_i t x ix J;obtain⟨y,L⟩:=eW hp;simp only[bV,J]at D;split at D
  ·split at D
   ·exact D.elim
   rw[L]at D;split at D
   ·obtain⟨r,_,D⟩:=D;split at D
    ·exact D.2.2.symm
    exact D.elim
   all_goals first | exact D.elim | (rename_i I;cases I;done) | (rename_i I _;cases I;done) | (rename_i I _ _;cases I;done)
  exact D.elim
 ·rename_i t x lo hi J;obtain⟨y,L⟩:=eW hp;simp only[bV,J]at D;rw[L]at D;have D:gm C rho h t x lo hi _:=D;simp only[gm]at D;split at D
  ·rw[L]at D;split at D
   ·split at D
    ·exact D.2.2.2.symm
    exact D.elim
   exact D.elim
  ·split at D
   ·exact D.elim
   obtain⟨z,fz,D,_⟩:=iu (fun _=>.inr rfl) D;split at D
   ·split at D
    ·exact D.2.2.2.symm
    exact D.elim
   exact D.elim
  exact D.elim
 ·rename_i t ps J;simp only[bV,J]at D;split at D
  ·split at D
   ·exact GI _ _ _ (fun _ _ h=>h.2.2.symm) D
   obtain⟨z,I,_⟩:=A9 (fun _=>.inr rfl) D;exact I.2.2.symm
  exact D.elim
 ·rename_i c J;split at hp
  ·rename_i x U V;simp only[bV,J,U,V,aeC,fy]at D;split at D
   ·split at D
    ·split at D
     ·exact D.2.2.symm
     exact D.elim
    ·split at D
     ·exact D.2.2.symm
     exact N _ _ _ (fun _ h=>h.2.2.symm) D
    ·split at D
     ·split at D
      ·exact D.2.2.symm
      exact D.elim
     exact D.elim
    exact D.elim
   exact D.elim
  cases hp
 ·rename_i t x f J;obtain⟨y,L⟩:=eW hp;simp only[bV,J]at D;rw[L]at D
  repeat' (split at D)
  all_goals first | exact D.elim | exact D.2.2.symm | (rename_i I;cases I)
 ·rename_i x J;obtain⟨y,L⟩:=eW hp;simp only[bV,J]at D;rw[L]at D
  repeat' (split at D)
  all_goals first | exact D.elim | exact D.2.2.symm | (rename_i I;cases I)
 cases hp
theorem O5{C:Ctx}{o:Oper}{X:List Nat}{h:Nat->AB}{K:KK}(O:∀id,Av X id=true->h id=.none\/h' id=h id)(hp:qq X o rho=true)(D:bV C o rho h K):bV C o rho h' K:=by
 have L:∀{a:AV},Up X a=true->(∃id,a=.ow id/\(h id=.none\/h' id=h id))\/(∃id i z,a=.rp id i z/\(h id=.none\/h' id=h id))\/∃id z,a=.bx id z/\(h id=.none\/h' id=h id):=by
  intro a N;cases a with
  | ow id=>exact .inl ⟨id,rfl,O id N⟩
  | rp id i z=>exact .inr (.inl ⟨id,i,z,rfl,O id N⟩)
  | bx id z=>exact .inr (.inr ⟨id,z,rfl,O id N⟩)
  | _=>cases N
 unfold qq at hp;split at hp
 ·rename_i t a I;simp only[bV,I]at D ⊢;cases J:C.T t with
  | none=>simp only[J]at D
  | some ti=>
   simp only[J]at D ⊢;rcases L hp with⟨id,e,e2⟩ | ⟨id,i,z,e,e2⟩ | ⟨id,z,e,e2⟩<;>simp only[e]at D ⊢<;>rcases e2 with e2 | e2<;>first | (simp only[e2]at D;done) | (rw[e2];exact D)
 ·rename_i t x V I;simp only[bV,I]at D ⊢;split at D
  case h_2=>exact D.elim
  rename_i e size bytes zero eq k i J Oj;cases U:C.T e with
  | none=>simp only[U]at D
  | some te=>
   simp only[U]at D ⊢;rcases L hp with⟨id,e,e2⟩ | ⟨id,i,z,e,e2⟩ | ⟨id,z,e,e2⟩<;>simp only[e]at D ⊢<;>rcases e2 with e2 | e2<;>first | (simp only[e2]at D;done) | (rw[e2];exact D)
 ·rename_i t x V ck I;simp only[bV,I]at D ⊢;rcases L hp with⟨id,e,e2⟩ | ⟨id,i,z,e,e2⟩ | ⟨id,z,e,e2⟩<;>simp only[e]at D ⊢
  ·rcases e2 with e2 | e2
   ·simp only[e2]at D
    repeat' (split at D)
    all_goals exact D.elim
   rw[e2];exact D
  ·exact D
  exact D
 ·rename_i c I;split at hp
  ·rename_i x W N;simp only[bV,I,W,N,aeC,fy]at D ⊢;split at D
   case h_2=>exact D.elim
   rename_i x' t R ht;injection R with R _;subst R;split at D
   ·rcases L hp with⟨id,e,e2⟩ | ⟨id,i,z,e,e2⟩ | ⟨id,z,e,e2⟩<;>simp only[e]at D
   ·rename_i J;rcases L hp with⟨id,e,e2⟩ | ⟨id,i,z,e,e2⟩ | ⟨id,z,e,e2⟩<;>simp only[J,e,hlen,gH]at D ⊢;rcases e2 with e2 | e2
    ·simp only[e2]at D
    rw[e2];exact D
   ·rename_i J;rcases L hp with⟨id,e,e2⟩ | ⟨id,i,z,e,e2⟩ | ⟨id,z,e,e2⟩<;>simp only[J,e]at D ⊢;rcases e2 with e2 | e2
    ·simp only[e2]at D
    rw[e2];exact D
   exact D.elim
  cases hp
 cases hp
theorem Eb{C:Ctx}{o:Oper}{X:List Nat}{h:Nat->AB}{v:AV}{n:Option AB}(hp:qq X o rho=true)(z:bV C o rho h fun L e' N=>L=v/\e'=e/\N=n):n=none:=by
 have J:∀(x:AV) (K:List (List PV)->Prop) (Q:Prop),(∀es,K es->Q)->gH h x K->Q:=by
  intro x K Q hk z;unfold gH at z
  repeat' (split at z)
  all_goals first | exact z.elim | exact hk _ z
 unfold qq at hp;split at hp
 ·rename_i D;simp only[bV,D]at z
  repeat' (split at z)
  all_goals first | exact z.elim | exact z.2.2.symm | (exfalso;obtain⟨r,I,z⟩:=z;exact z) | (rcases z with⟨r,I,z⟩;first | exact z.2.2.symm | (split at z<;>first | exact z.elim | exact z.2.2.symm))
 ·rename_i D;simp only[bV,D]at z
  repeat' (split at z)
  all_goals first | exact z.elim | exact z.2.2.symm | exact z.2.2.2.symm | (obtain⟨r,I,z⟩:=z;split at z<;>first | exact z.elim | exact z.2.2.symm)
 ·rename_i D;simp only[bV,D]at z
  repeat' (split at z)
  all_goals first | exact z.elim | (obtain⟨r,I,z⟩:=z;exact z.2.2.symm) | (obtain⟨r,I,z⟩:=z;split at z<;>exact z.2.2.symm)
 ·rename_i c D;split at hp
  ·rename_i x O R;simp only[bV,D,O,R,aeC,fy]at z;split at z
   ·split at z
    ·split at z
     ·exact z.2.2.symm
     exact z.elim
    ·split at z
     ·exact z.2.2.symm
     exact J _ _ _ (fun _ h=>h.2.2.symm) z
    ·split at z
     ·split at z
      ·exact z.2.2.symm
      exact z.elim
     exact z.elim
    exact z.elim
   exact z.elim
  cases hp
 cases hp
theorem R8{C:Ctx}{o:Oper}{X:List Nat}{h:Nat->AB}{K:KK}(N:∀id,Av X id=true->h id=.none\/h' id=h id)(hp:qu X o rho=true)(z:bV C o rho h K):bV C o rho h' K:=by
 unfold qu at hp;rcases (adZ _ _▸hp:qq X o rho=true\/vi X o rho=true) with hp | hp
 ·exact O5 N hp z
 unfold vi at hp;split at hp
 ·rename_i t n c J;simp only[bV,J]at z ⊢;exact z
 ·rename_i t n ps J;simp only[aaZ]at hp;have D:∀p∈ps.toList,vg (rho p.2)=true:=abh.1 hp.2;have I:∀(b:Bool) (size:Nat) (l:List (Nat×Operand)) (es:List (List PV)) (K:List (List PV)->List (Nat×AB)->Prop),(∀p∈l,vg (rho p.2)=true)->gG b h size rho l es K->gG b h' size rho l es K:=by
   intro b size l
   induction l with
   | nil=>intro es K _ h;exact h
   | cons p r ih=>
    intro es K hl hk;obtain⟨i,x⟩:=p;obtain⟨y,L⟩:=eW (hl _ adU);simp only at L;simp only[gG,L]at hk ⊢;have e:∀(h:Nat->AB) (Q:PV->List (Nat×AB)->Prop),wa b h (.p y) Q=Q y []:=fun h Q=>by cases b<;>rfl
    rw[e]at hk ⊢;revert hk;split
    ·intro hk;revert hk;split
     ·intro hk;exact ih _ _ (fun p hp=>hl p (aaw _ hp)) hk
     exact fun hk=>hk
    exact fun hk=>hk
  simp only[bV,J]at z ⊢;revert z;split
  ·split
   ·split
    ·split
     ·exact I _ _ _ _ _ D
     exact I _ _ _ _ _ D
    exact fun z=>z
   exact fun z=>z
  exact fun z=>z
 cases hp
theorem GK{C:Ctx}{o:Oper}{X:List Nat}{h:Nat->AB}{v:AV}{n:Option AB}(hp:qu X o rho=true)(z:bV C o rho h fun D e' I=>D=v/\e'=e/\I=n):n=none\/Av X (o.dst.getD 0)=true:=by
 unfold qu at hp;rcases (adZ _ _▸hp:qq X o rho=true\/vi X o rho=true) with hp | hp
 ·exact .inl (Eb hp z)
 unfold vi at hp;split at hp
 ·exact .inr hp
 ·simp only[aaZ]at hp;exact .inr hp.1
 cases hp
theorem R9{C:Ctx}{o:Oper}{X:List Nat}{h:Nat->AB}{K:KK}(R:∀id,Av X (id+1000000)=true->h id≠.none->(kc (h' id)=kc (h id)/\kc (h id)≠0)\/h' id=h id)(hp:vj X o rho=true)(z:bV C o rho h K):bV C o rho h' K:=by
 have V:∀{a:AV},Xn X a=true->(∃id D,a=.bx id D/\Av X (id+1000000)=true)\/∃id i D,a=.rp id i D/\Av X (id+1000000)=true:=fun {a} ha=>by
  cases a with
  | bx id D=>exact .inl ⟨id,D,rfl,ha⟩
  | rp id i D=>exact .inr ⟨id,i,D,rfl,ha⟩
  | _=>cases ha
 unfold vj at hp;split at hp
 ·rename_i t x f U;simp only[bV,U]at z ⊢;split at z
  case h_2=>exact z.elim
  rename_i hT;split at z
  case h_2=>exact z.elim
  rcases V hp with⟨id,D,e,hi⟩ | ⟨id,i,D,e,hi⟩<;>simp only[e]at z ⊢
  ·have L:h id≠.none:=fun e2=>by rw[e2]at z;exact z
   rcases R id hi L with⟨I,J⟩ | J
   ·cases N:h id<;>rw[N]at I J z<;>first | exact z.elim | exact absurd rfl J | (cases O:h' id<;>rw[O]at I<;>first | exact z | (exfalso;revert I;decide) | cases I)
   rw[J];exact z
  have L:h id≠.none:=fun e2=>by rw[e2]at z;exact z
  rcases R id hi L with⟨I,J⟩ | J
  ·cases N:h id<;>rw[N]at I J z<;>first | exact z.elim | exact absurd rfl J | (cases O:h' id<;>rw[O]at I<;>first | exact z | (exfalso;revert I;decide) | cases I)
  rw[J];exact z
 ·rename_i x U;simp only[bV,U]at z ⊢;rcases V hp with⟨id,D,e,hi⟩ | ⟨id,i,D,e,hi⟩<;>simp only[e]at z ⊢
  ·have L:h id≠.none:=fun e2=>by rw[e2]at z;exact z
   rcases R id hi L with⟨I,J⟩ | J
   ·cases N:h id<;>rw[N]at I J z<;>first | exact z.elim | exact absurd rfl J | (cases O:h' id<;>rw[O]at I<;>first | exact z | (exfalso;revert I;decide) | cases I)
   rw[J];exact z
  have L:h id≠.none:=fun e2=>by rw[e2]at z;exact z
  rcases R id hi L with⟨I,J⟩ | J
  ·cases N:h id<;>rw[N]at I J z<;>first | exact z.elim | exact absurd rfl J | (cases O:h' id<;>rw[O]at I<;>first | exact z | (exfalso;revert I;decide) | cases I)
  rw[J];exact z
 cases hp
theorem GL{C:Ctx}{o:Oper}{X:List Nat}{h:Nat->AB}{v:AV}{n:Option AB}(hp:vj X o rho=true)(z:bV C o rho h fun I e' J=>I=v/\e'=e/\J=n):n=none:=by
 unfold vj at hp;split at hp
 ·rename_i D;simp only[bV,D]at z
  repeat' (split at z)
  all_goals first | exact z.elim | exact z.2.2.symm
 ·rename_i D;simp only[bV,D]at z
  repeat' (split at z)
  all_goals first | exact z.elim | exact z.2.2.symm
 cases hp
def GM(ops:Array Oper)(o:Oper):Bool:=match o.dst with
 | some d=>!vk ops o d
 | none=>true
def GN(ops:Array Oper)(b:Array Nat):Bool:=
 (List.range ops.size).all fun j=>(match ops[j]? with
  | some oj=>(oj.after.toList.all fun e=>!Region.binds .any e||Nat.blt e.on j)&&(List.range j).all fun i=>!(b.getD j 0).testBit i||(oj.after.toList.any fun e=>Region.binds .any e&&(cq e.on i||(Nat.blt i e.on&&(b.getD e.on 0).testBit i)))
  | none=>true)
def mh(C:Ctx)(ops:Array Oper):Bool:=
 let ap:=ops.toList.any fun o=>jI C o.op;let b:=Region.before ops
 GN ops b&&(List.range ops.size).all fun j=>match ops[j]? with
  | some oj=>GM ops oj&&(List.range j).all fun i=>match ops[i]? with
   | some oi=>GH C ap ops b i j oi oj
   | none=>true
  | none=>true
def GO(ops:Array Oper)(E:Nat->Bool):Prop:=∀(j:Nat) oj,ops[j]?=some oj->E j=true->∀e∈oj.after,Region.binds .any e=true->E e.on=true
theorem Be{b:Array Nat}(h:GN ops b=true):(∀(j:Nat) z,ops[j]?=some z->∀e∈z.after,Region.binds .any e=true->e.on<j)/\
  ∀(E:Nat->Bool),GO ops E->∀(j:Nat) z,ops[j]?=some z->(∀e∈z.after,Region.binds .any e=true->E e.on=true)->∀i,i<j->(b.getD j 0).testBit i=true->E i=true:=by
 have O:∀(j:Nat) z,ops[j]?=some z->(∀e∈z.after,Region.binds .any e=true->e.on<j)/\∀i,i<j->(b.getD j 0).testBit i=true->∃e∈z.after,Region.binds .any e=true/\(e.on=i\/(i<e.on/\(b.getD e.on 0).testBit i=true)):=by
  intro j z I;have R:=abh.1 h j (abD.2 (ab9.1 I).1);simp only[I,aaZ]at R;refine⟨fun e J hb=>?_,fun i hi U=>?_⟩
  ·have D:=abh.1 R.1 e (aal.2 J);rw[hb]at D;simp only[aaR,abv]at D;exact abA D
  have D:=abh.1 R.2 i (abD.2 hi);rw[U]at D;simp only[aaR,abv]at D;obtain⟨e,J,V⟩:=aci.1 D;simp only[aaZ,adZ]at V;exact⟨e,aal.1 J,V.1,V.2.imp a7.1 fun h=>⟨abA h.1,h.2⟩⟩
 refine⟨fun j z I=>(O j z I).1,fun E hE j=>?_⟩
 induction j using Nat.strongRecOn with
 | _ j ih=>
  intro z I L i hi U;obtain⟨e,J,hb,D⟩:=(O j z I).2 i hi U;rcases D with D | D
  ·rw[<-D];exact L e J hb
  have Z:=(O j z I).1 e J hb;have W:=L e J hb;cases N:ops[e.on]? with
  | none=>
   have:e.on<ops.size:=Nat.lt_trans Z (ab9.1 I).1;rw[aa1 this]at N;cases N
  | some oe=>exact ih e.on Z oe N (fun e' GQ Y=>hE e.on oe N W e' GQ Y) i D.1 D.2
variable {rho':Operand->AV}
theorem Ec{h:Nat->AB}:∀{ps:List (Nat×Operand)} {cs:List PV},(∀p∈ps,rho p.2=rho' p.2)->jC h fs rho ps cs=jC h fs rho' ps cs:=by
 intro ps
 induction ps with
 | nil=>intro cs _;rfl
 | cons p ps ih=>
  intro cs hp;obtain⟨i,x⟩:=p;funext K;have e:=hp (i,x) (by simp);simp only at e;simp only[jC,e];have:∀cs,jC h fs rho ps cs=jC h fs rho' ps cs:=fun cs=>ih (fun p z=>hp p (by simp[z]));simp only[this]
theorem Ed{h:Nat->AB}:∀{ps:List (Nat×Operand)} {cs:List AV},(∀p∈ps,rho p.2=rho' p.2)->k_ h fs rho ps cs=k_ h fs rho' ps cs:=by
 intro ps
 induction ps with
 | nil=>intro cs _;rfl
 | cons p ps ih=>
  intro cs hp;obtain⟨i,x⟩:=p;funext K;have e:=hp (i,x) (by simp);simp only at e;simp only[k_,e];have:∀cs,k_ h fs rho ps cs=k_ h fs rho' ps cs:=fun cs=>ih (fun p z=>hp p (by simp[z]));simp only[this]
theorem tH{b:Bool}{h:Nat->AB}{size:Nat}:∀{ps:List (Nat×Operand)} {cs:List (List PV)},(∀p∈ps,rho p.2=rho' p.2)->gG b h size rho ps cs=gG b h size rho' ps cs:=by
 intro ps
 induction ps with
 | nil=>intro cs _;rfl
 | cons p ps ih=>
  intro cs hp;obtain⟨i,x⟩:=p;funext K;have e:=hp (i,x) (by simp);simp only at e;simp only[gG,e];have:∀cs,gG b h size rho ps cs=gG b h size rho' ps cs:=fun cs=>ih (fun p z=>hp p (by simp[z]));simp only[this]
theorem ri{C:Ctx}{o:Oper}{rho rho':Operand->AV}{h:Nat->AB}{K:KK}(D:∀x∈o.op.operands,rho x=rho' x)(z:bV C o rho h K):bV C o rho' h K:=by
 cases Y:o.op<;>simp only[Y,Op.operands]at D<;>simp only[bV,Y]at z ⊢<;>try exact z
 case move x=>rw[<-D x (by simp)];exact z
 case assign x=>rw[<-D x (by simp)];exact z
 case pick c a b=>rw[<-D c (by simp),<-D a (by simp),<-D b (by simp)];exact z
 case box e x=>rw[<-D x (by simp)];exact z
 case build t ps=>
  split at z
  ·rename_i fs _ _ _ _ hT;split at z
   ·rename_i J;rw[<-Ec (rho:=rho) (rho':=rho') (fun p hp=>D p.2 (by simp;exact⟨p.1,aal.1 hp⟩))];exact z
   rename_i J;rw[<-Ed (rho:=rho) (rho':=rho') (fun p hp=>D p.2 (by simp;exact⟨p.1,aal.1 hp⟩))];exact z
  exact z
 case buildSlice t n ps=>
  split at z
  ·split at z
   ·split at z
    ·split at z
     ·rw[<-tH (rho:=rho) (rho':=rho') (fun p hp=>D p.2 (by simp;exact⟨p.1,aal.1 hp⟩))];exact z
     rw[<-tH (rho:=rho) (rho':=rho') (fun p hp=>D p.2 (by simp;exact⟨p.1,aal.1 hp⟩))];exact z
    exact z
   exact z
  exact z
 case load t x=>rw[<-D x (by simp)];exact z
 case store t x y=>rw[<-D x (by simp),<-D y (by simp)];exact z
 case nilCheck x=>rw[<-D x (by simp)];exact z
 case binOp op t x y t'=>rw[<-D x (by simp),<-D y (by simp)];exact z
 case unOp op t x=>rw[<-D x (by simp)];exact z
 case convert s d x=>rw[<-D x (by simp)];exact z
 case makeFunc fn first cap=>
  cases fn with
  | func f=>
   have:cap.toList.map rho=cap.toList.map rho':=aaG fun x O=>D x (by simp[aal.1 O]);simp only[this]at z;exact z
  | _=>exact z
 case makeSlice t x y=>rw[<-D x (by simp),<-D y (by simp)];exact z
 case slice t x lo hi mx=>
  cases mx with
  | some m=>exact z
  | none=>
   have Z:=D x (by simp);have e1:∀y,lo=some y->rho y=rho' y:=fun y R=>D y (by simp[R]);have e2:∀y,hi=some y->rho y=rho' y:=fun y R=>D y (by simp[R]);have hs:gm C rho h t x lo hi K=gm C rho' h t x lo hi K:=by
    unfold gm;rw[Z];cases lo<;>cases hi<;>simp only[Option.some.injEq,forall_eq',forall_eq,reduceCtorEq,false_implies,implies_true]at e1 e2<;>simp only[e1,e2]
   have hv:∀id e' es,td C rho t lo hi id e' es K=td C rho' t lo hi id e' es K:=fun id e' es=>by
    unfold td;cases lo<;>cases hi<;>simp only[Option.some.injEq,forall_eq',forall_eq,reduceCtorEq,false_implies,implies_true]at e1 e2<;>simp only[e1,e2]
   simp only at z ⊢;simp only[<-Z,<-hs,<-hv];exact z
 case makeMap t r=>cases r<;>exact z
 case lookup t x i ck=>rw[<-D x (by simp),<-D i (by simp)];exact z
 case mapUpdate t x i y=>rw[<-D x (by simp),<-D i (by simp),<-D y (by simp)];exact z
 case fieldAddr t x f=>rw[<-D x (by simp)];exact z
 case field t x f=>rw[<-D x (by simp)];exact z
 case indexAddr t x y=>rw[<-D x (by simp),<-D y (by simp)];exact z
 case index t x y=>rw[<-D x (by simp),<-D y (by simp)];exact z
 case extract x i=>rw[<-D x (by simp)];exact z
 case call c=>
  have O:c.args.toList.map rho=c.args.toList.map rho':=aaG fun x U=>D x (by simp[Call.operands,aal.1 U]);have I:∀x∈c.args.toList,rho x=rho' x:=fun x U=>D x (by simp[Call.operands,aal.1 U]);split at z
  ·split at z
   ·rename_i J N;simp only[J,N]at *;rw[<-I _ (by simp)];exact z
   exact z
  ·split at z
   ·rename_i J N;simp only[J,N]at *;rw[<-I _ (by simp)];exact z
   exact z
  ·split at z
   ·rename_i J;simp only[J]at *;rw[<-I _ (by simp),<-I _ (by simp)];exact z
   exact z
  ·split at z
   ·rename_i J;simp only[J]at *;rw[<-I _ (by simp),<-I _ (by simp)];exact z
   ·rename_i J;simp only[J]at *;rw[<-I _ (by simp),<-I _ (by simp),<-I _ (by simp)];exact z
   ·rename_i J;simp only[J]at *;rw[<-I _ (by simp),<-I _ (by simp),<-I _ (by simp),<-I _ (by simp),<-I _ (by simp)];exact z
   exact z
  ·split at z
   ·rename_i J N;simp only[J,N]at *;rw[<-I _ (by simp),<-I _ (by simp)];exact z
   exact z
  ·rename_i g L;have V:c.callee=.value g:=by
    cases W:c.callee with
    | value g'=>rw[W]at L;simp only[aeC]at L;injection L with L;rw[L]
    | invoke r m=>rw[W]at L;cases L
    | builtin b=>rw[W]at L;cases b<;>cases L
   have hg:=D g (by simp[Call.operands,V]);rw[<-hg,<-O];exact z
  exact z
end Go.AM
namespace Go.AM
open Go.RowKit
theorem vn{h h':Nat->AB}{id:Nat}:∀(fe:List (Nat×AB)) ,h id=h' id->app h fe id=app h' fe id:=by
 intro fe
 induction fe generalizing h h' with
 | nil=>intro e;exact e
 | cons x fe ih=>
  intro e;refine ih ?_;by_cases z:id=x.1
  ·rw[z,aH,aH]
  rw[aV _ _ z,aV _ _ z];exact e
theorem ah0{h:Nat->AB}:∀{fe:List (Nat×AB)},iw h fe=true->∀p∈fe,(h p.1).there:=by
 intro fe
 induction fe with
 | nil=>intro _ p hp;cases hp
 | cons x fe ih=>
  intro z p hp;simp only[iw,aaZ]at z;rcases adq.1 hp with e | e
  ·subst e;have:=z.1;cases hx:h p.1<;>rw[hx]at this<;>first | trivial | (simp[Mi]at this)
  exact ih z.2 p e
def Hn(B:Nat->AB)(r:Nat->RR)(E:Nat->Bool):Nat->Nat->AB
 | 0=>B
 | i+1=>match E i with
  | true=>app (Hn B r E i) (r i).eff
  | false=>Hn B r E i
theorem QJ{B:Nat->AB}{r:Nat->RR}{E:Nat->Bool}(i:Nat):∀(m:Nat),(∀k,k<m->(E k=true↔k<i)\/(r k).eff=[])->i<=m->Hn B r E m=Hn B r (fun _=>true) i:=by
 have z:∀m,m<=i->(∀k,k<m->(E k=true↔k<i)\/(r k).eff=[])->Hn B r E m=Hn B r (fun _=>true) m:=by
  intro m
  induction m with
  | zero=>intro _ _;rfl
  | succ m ih=>
   intro hm hk;have D:=ih (by omega) (fun k I=>hk k (by omega));simp only[Hn];rw[D];rcases hk m (by omega) with h | h
   ·rw[h.2 (by omega)]
   rw[h];cases E m<;>rfl
 intro m
 induction m with
 | zero=>
      intro _ hi;have:i=0:=by omega
      subst this;rfl
 | succ m ih=>
  intro hk hi;by_cases e:i=m+1
  ·subst e;exact z (m+1) (aam _) hk
  have D:=ih (fun k I=>hk k (by omega)) (by omega);rw[<-D];simp only[Hn];rcases hk m (by omega) with h | h
  ·have:E m=false:=by rw[aaV];intro J;have:=h.1 J;omega
   rw[this]
  rw[h];cases E m<;>rfl
theorem R_{B:Nat->AB}{r:Nat->RR}{E:Nat->Bool}{i:Nat}(hi:E i=false):∀(m:Nat),(∀k,i<k->k<m->E k=true->(r k).eff=[])->i<m->Hn B r (fun k=>E k||cq k i) m=app (Hn B r E m) (r i).eff:=by
 have z:∀m,m<=i->Hn B r (fun k=>E k||cq k i) m=Hn B r E m:=by
  intro m
  induction m with
  | zero=>intro _;rfl
  | succ m ih=>
   intro hm;have:cq m i=false:=by rw[aaV];intro h;have:=a7.1 h;omega
   simp only[Hn,this,abo];rw[ih (by omega)]
 intro m
 induction m with
 | zero=>intro _ h;omega
 | succ m ih=>
  intro hk eF;by_cases e:m=i
  ·subst e;simp only[Hn,hi,a7.2 rfl,ads];rw[z m (aam _)]
  have D:=ih (fun k D h2=>hk k D (by omega)) (by omega);have:cq m i=false:=by rw[aaV];intro h;exact e (a7.1 h)
  simp only[Hn,this,abo];rw[D];cases I:E m with
  | false=>rfl
  | true=>rw[hk m (by omega) (by omega) I];rfl
theorem Mo(C:Ctx)(ap:Bool)(op:Op):cls C ap op<=3:=by
 unfold cls;split<;>first | decide | skip
 all_goals (cases ap<;>first | decide | skip)
 all_goals (split<;>first | decide | skip)
 all_goals (split<;>decide)
theorem Mp(C:Ctx)(op:Op):cls C true op≠1:=by
 unfold cls;split<;>first | decide | skip
 all_goals (split<;>first | decide | skip)
 all_goals (split<;>decide)
theorem J6{C:Ctx}{ap:Bool}{o:Oper}{rho:Operand->AV}{h:Nat->AB}{K:KK}(I:cls C ap o.op<=1)(z:bV C o rho h K):∃v e,K v e none:=by
 cases J:o.op<;>rw[J]at I<;>simp only[bV,J]at z
 case move x=>exact⟨_,_,z⟩
 case assign x=>exact⟨_,_,z⟩
 case pick c a b=>
  split at z
  ·split at z<;>exact⟨_,_,z⟩
  exact z.elim
 case binOp op t x y t'=>
  split at z
  ·obtain⟨v,D,_⟩:=D2 z;exact⟨_,_,D⟩
  ·obtain⟨v,D,_⟩:=D1 z;exact⟨_,_,D⟩
  exact z.elim
 case unOp op t x=>
  split at z
  ·exact⟨_,_,z⟩
  ·obtain⟨v,D,_⟩:=n9 z;exact⟨_,_,D⟩
  exact z.elim
 case convert s d x=>
  split at z
  ·obtain⟨v,D,_⟩:=n9 z;exact⟨_,_,D⟩
  ·exact⟨_,_,z⟩
  ·exact⟨_,_,z⟩
  exact z.elim
 case extract x i=>
  split at z
  ·split at z
   ·exact⟨_,_,z⟩
   exact z.elim
  exact z.elim
 case index t x y=>
  split at z
  ·obtain⟨b,_,z⟩:=z;exact⟨_,_,z⟩
  exact z.elim
 case field t x f=>
  split at z
  ·split at z
   ·split at z
    ·split at z
     ·exact⟨_,_,z⟩
     exact z.elim
    split at z
    ·exact⟨_,_,z⟩
    exact z.elim
   exact z.elim
  exact z.elim
 case makeFunc fn first cap=>
  cases fn with
  | func f=>
   simp only at z;split at z
   ·exact⟨_,_,z⟩
   exact z.elim
  | _=>exact z.elim
 case fieldAddr t x f=>
  split at z
  ·split at z
   ·split at z
    ·exact⟨_,_,z⟩
    ·split at z
     ·exact z.elim
     exact⟨_,_,z⟩
    ·split at z
     ·exact⟨_,_,z⟩
     ·exact⟨_,_,z⟩
     exact z.elim
    exact z.elim
   exact z.elim
  exact z.elim
 case nilCheck x=>
  split at z
  ·exact⟨_,_,z⟩
  ·split at z
   ·exact⟨_,_,z⟩
   ·exact⟨_,_,z⟩
   exact z.elim
  ·split at z
   ·exact⟨_,_,z⟩
   ·exact⟨_,_,z⟩
   exact z.elim
  exact z.elim
 case call c=>
  simp only[cls]at I;split at I
  ·exact absurd I (by decide)
  ·exact absurd I (by decide)
  ·rename_i D;simp only[D,aeC,fy]at z;split at z
   ·split at z
    ·exact⟨_,_,z⟩
    exact z.elim
   exact z.elim
  ·rename_i D;simp only[D,aeC,fy]at z;split at z
   ·split at z
    ·exact⟨_,_,z⟩
    exact z.elim
   ·split at z
    ·exact⟨_,_,z⟩
    exact z.elim
   ·split at z
    ·exact⟨_,_,z⟩
    exact z.elim
   exact z.elim
  ·split at I<;>exact absurd I (by decide)
  ·exact absurd I (by decide)
  exact absurd I (by decide)
 all_goals exact absurd I (by simp[cls])
theorem O6{C:Ctx}{ap:Bool}{o:Oper}{rho:Operand->AV}{h:Nat->AB}{v:AV}{e:List (Nat×AB)}{n:Option AB}{b:AB}(D:bV C o rho h fun I e' J=>I=v/\e'=e/\J=n)(z:some b=n):cls C ap o.op=3\/cls C ap o.op=2:=by
 have hle:=Mo C ap o.op;by_cases L:cls C ap o.op<=1
 ·obtain⟨_,_,_,_,N⟩:=J6 L D;rw[<-N]at z;cases z
 omega
section
variable {C:Ctx} {ops:Array Oper} {st:Nat->AS} {r:Nat->RR} {ap:Bool} {X:List Nat}
theorem Ur{B:Nat->AB}{r:Nat->RR}{E:Nat->Bool}{d:Nat}(i:Nat):∀(m:Nat),(∀k,k<m->(E k=true↔k<i)\/∀p∈(r k).eff,p.1≠d)->i<=m->Hn B r E m d=Hn B r (fun _=>true) i d:=by
 have D:∀m,m<=i->(∀k,k<m->(E k=true↔k<i)\/∀p∈(r k).eff,p.1≠d)->Hn B r E m d=Hn B r (fun _=>true) m d:=by
  intro m
  induction m with
  | zero=>intro _ _;rfl
  | succ m ih=>
   intro hm hk;have z:=ih (by omega) (fun k I=>hk k (by omega));simp only[Hn];rcases hk m (by omega) with h | h
   ·rw[h.2 (by omega)];exact vn _ z
   cases E m with
   | true=>exact vn _ z
   | false=>exact z.trans (iA h).symm
 intro m
 induction m with
 | zero=>
      intro _ hi;have:i=0:=by omega
      subst this;rfl
 | succ m ih=>
  intro hk hi;by_cases e:i=m+1
  ·subst e;exact D (m+1) (aam _) hk
  have z:=ih (fun k I=>hk k (by omega)) (by omega);rw[<-z];simp only[Hn];rcases hk m (by omega) with h | h
  ·have:E m=false:=by rw[aaV];intro J;have:=h.1 J;omega
   rw[this]
  cases E m with
  | true=>exact iA h
  | false=>rfl
structure O7(C:Ctx)(ap:Bool)(ops:Array Oper)(i j:Nat)(oi oj:Oper):Prop where
 dst:∀x,oi.dst=some x->oj.dst≠some x
 war:∀d,oj.dst=some d->d∈oi.looksAt ops->((Region.before ops).getD j 0).testBit i=true
 raw:∀d,oi.dst=some d->d∈oj.looksAt ops->((Region.before ops).getD j 0).testBit i=true
 w3:cls C ap oj.op=3->cls C ap oi.op=3->((Region.before ops).getD j 0).testBit i=true
theorem ae7(J:mh C ops=true):GN ops (Region.before ops)=true/\(∀(j:Nat) z,ops[j]?=some z->∀d,z.dst=some d->d ∉ z.looksAt ops)/\
  ∀(i j:Nat) oi z,i<j->ops[i]?=some oi->ops[j]?=some z->O7 C (ops.toList.any fun o=>jI C o.op) ops i j oi z:=by
 simp only[mh,aaZ]at J;obtain⟨h1,h2⟩:=J;have W:∀(j:Nat) z,ops[j]?=some z->GM ops z=true/\∀(i:Nat) oi,i<j->ops[i]?=some oi->GH C (ops.toList.any fun o=>jI C o.op) ops (Region.before ops) i j oi z=true:=by
  intro j z D;have I:=abh.1 h2 j (abD.2 (ab9.1 D).1);simp only[D,aaZ]at I;refine⟨I.1,fun i oi hi N=>?_⟩;have Y:=abh.1 I.2 i (abD.2 hi);simp only[N]at Y;exact Y
 refine⟨h1,fun j z D d L=>?_,fun i j oi z DX N D=>?_⟩
 ·have:=(W j z D).1;simp only[GM,L,vk]at this;simpa using this
 have I:=(W j z D).2 i oi DX N;simp only[GH,aaZ]at I;obtain⟨⟨⟨Z,O⟩,R⟩,p4⟩:=I;refine⟨fun x hx hy=>?_,fun d L U=>?_,fun d L U=>?_,fun hc hi=>?_⟩
 ·simp only[hx,hy,a7.2 rfl,aaR]at Z;cases Z
 ·simp only[L,vk]at O;have V:(oi.looksAt ops).contains d=true:=by simpa using U
  rw[V]at O;simpa using O
 ·simp only[L,vk]at R;have V:(z.looksAt ops).contains d=true:=by simpa using U
  rw[V]at R;simpa using R
 rw[aap hc,aap hi]at p4;exact p4
theorem GR(z:mh C ops=true)(H:∀(i:Nat) o,ops[i]?=some o->DStep C ap ops.toList o (st i) (r i) (st (i+1))){i:Nat}{o:Oper}(D:ops[i]?=some o){d:Tmp}(I:o.dst=some d):∀k,i+1<=k->k<=ops.size->(st k).t d=(r i).v:=by
 obtain⟨_,hs,hp⟩:=ae7 z;intro k
 induction k with
 | zero=>intro h;omega
 | succ k ih=>
  intro O8 hk;by_cases e:i=k
  ·subst e;rw[(H i o D).next,I];exact aH _ _ _
  have J:=ih (by omega) (by omega);have L:ops[k]?=some ops[k]:=aa1 (by omega);rw[(H k _ L).next];show fx (st k).t _ _ d=_;have N:=(hp i k o _ (by omega) D L).dst d I;cases O:ops[k].dst with
  | none=>exact J
  | some d'=>rw[fx,aV _ _ (fun e=>N (by rw[O,e]))];exact J
theorem CB(H:∀(i:Nat) o,ops[i]?=some o->DStep C ap ops.toList o (st i) (r i) (st (i+1))){x:Nat}(D:∀(k:Nat) o,ops[k]?=some o->o.dst≠some x):∀k,k<=ops.size->(st k).t x=(st 0).t x:=by
 intro k
 induction k with
 | zero=>intro _;rfl
 | succ k ih=>
  intro hk;have z:ops[k]?=some ops[k]:=aa1 (by omega);rw[(H k _ z).next];show fx (st k).t _ _ x=_;cases I:ops[k].dst with
  | none=>exact ih (by omega)
  | some d'=>rw[fx,aV _ _ (fun e=>D k _ z (by rw[I,e]))];exact ih (by omega)
theorem J7(z:mh C ops=true)(H:∀(i:Nat) o,ops[i]?=some o->DStep C ap ops.toList o (st i) (r i) (st (i+1))){j:Nat}{o:Oper}(D:ops[j]?=some o){d:Tmp}(J:o.dst=some d):∀k,k<=j->(st k).t d=(st 0).t d:=by
 obtain⟨_,hs,hp⟩:=ae7 z;have hj:=(ab9.1 D).1;intro k
 induction k with
 | zero=>intro _;rfl
 | succ k ih=>
  intro hk;have I:ops[k]?=some ops[k]:=aa1 (by omega);rw[(H k _ I).next];show fx (st k).t _ _ d=_;cases L:ops[k].dst with
  | none=>exact ih (by omega)
  | some N=>rw[fx,aV _ _ (fun e=>(hp k j _ o (by omega) I D).dst N L (by rw[J,e]))];exact ih (by omega)
def J8(ops:Array Oper)(r:Nat->RR)(k d:Nat)(b:AB):Prop:=∃o,ops[k]?=some o/\o.dst=some d/\(r k).new=some b
def ja(ops:Array Oper)(r:Nat->RR)(i d:Nat):Prop:=∃k b,i<=k/\J8 ops r k d b
theorem sF(Y:mh C ops=true)(H:∀(i:Nat) o,ops[i]?=some o->DStep C ap ops.toList o (st i) (r i) (st (i+1))){B:Nat->AB}(J9:∀k d b,J8 ops r k d b->B d=b)(Bf:∀d,¬ja ops r 0 d->B d=(st 0).h d)(h0:∀d,ja ops r 0 d->(st 0).h d=.none):
  ∀i,i<=ops.size->∀d,(ja ops r i d->(st i).h d=.none/\Hn B r (fun _=>true) i d=B d)/\(¬ja ops r i d->(st i).h d=Hn B r (fun _=>true) i d):=by
 obtain⟨_,hs,hp⟩:=ae7 Y;intro i
 induction i with
 | zero=>intro _ d;exact⟨fun h=>⟨h0 d h,rfl⟩,fun h=>(Bf d h).symm⟩
 | succ i ih=>
  intro hi d;have ih:=ih (by omega);have U:ops[i]?=some ops[i]:=aa1 (by omega);have D:=H i _ U;have Z:=ah0 D.there;have Xt:Hn B r (fun _=>true) (i+1)=app (Hn B r (fun _=>true) i) (r i).eff:=rfl;have xl:(st (i+1)).h=qd (app (st i).h (r i).eff) (ops[i].dst.getD 0) (r i).new:=by rw[D.next]
  have out:ja ops r i d->∀p∈(r i).eff,p.1≠d:=fun N p QK e=>by
   have z:=Z p QK;rw[e,((ih d).1 N).1]at z;exact z
  have Us:∀b,(r i).new=some b->∃I,ops[i].dst=some I:=fun b hb=>by
   have:=D.ndst;rw[hb]at this;cases hd:ops[i].dst with
   | none=>rw[hd]at this;cases this
   | some I=>exact⟨I,rfl⟩
  refine⟨fun N=>?_,fun N=>?_⟩
  ·have J:ja ops r i d:=by obtain⟨k,b,z,O⟩:=N;exact⟨k,b,by omega,O⟩
   obtain⟨z,O⟩:=(ih d).1 J;refine⟨?_,by rw[Xt,iA (out J)];exact O⟩;rw[xl];cases hn:(r i).new with
   | none=>show app _ _ d=_;rw[iA (out J)];exact z
   | some b=>
    obtain⟨I,V⟩:=Us b hn;rw[V];show aT _ I b d=_;have b8:d≠I:=fun e=>by
     obtain⟨k,b',h3,o',L,W,h6⟩:=N;exact (hp i k _ o' (by omega) U L).dst I V (by rw[W,e])
    rw[aV _ _ b8,iA (out J)];exact z
  by_cases R:∃b,J8 ops r i d b
  ·obtain⟨b,R⟩:=R;have J:ja ops r i d:=⟨i,b,aam _,R⟩;obtain⟨o',L,W,h6⟩:=R;rw[U]at L;injection L with L;rw[xl,Xt,iA (out J),((ih d).1 J).2,h6,L,W,J9 i d b ⟨o',by rw[U,L],W,h6⟩];exact aH _ _ _
  have J:¬ja ops r i d:=fun ⟨k,b,z,O⟩=>by
   by_cases e:k=i
   ·subst e;exact R ⟨b,O⟩
   exact N ⟨k,b,by omega,O⟩
  have z:=(ih d).2 J;rw[xl,Xt,<-vn (r i).eff z];cases hn:(r i).new with
  | none=>rfl
  | some b=>
   obtain⟨I,V⟩:=Us b hn;rw[V];show aT _ I b d=_;rw[aV _ _ (fun e=>R ⟨b,_,U,by rw[V,e],hn⟩)]
def KC(b b':AB):Prop:=b'=b\/(∃e es de,b=.row e es/\b'=.row e de)\/(∃cs mZ,b=.box cs/\b'=.box mZ)\/(∃mk es mk' de,b=.map mk es/\b'=.map mk' de)
theorem KC.trans{a b c:AB}(h:KC a b)(k:KC b c):KC a c:=by
 rcases h with rfl | ⟨e,es,I,rfl,rfl⟩ | ⟨cs,J,rfl,rfl⟩ | ⟨m,es,m',I,rfl,rfl⟩
 ·exact k
 ·rcases k with rfl | ⟨e',fs,D,z,rfl⟩ | ⟨cs,J,z,rfl⟩ | ⟨_,_,_,_,z,rfl⟩
  ·exact .inr (.inl ⟨_,_,_,rfl,rfl⟩)
  ·injection z with z h2;subst z;exact .inr (.inl ⟨_,_,_,rfl,rfl⟩)
  ·cases z
  cases z
 ·rcases k with rfl | ⟨e',fs,D,z,rfl⟩ | ⟨ds,L,z,rfl⟩ | ⟨_,_,_,_,z,rfl⟩
  ·exact .inr (.inr (.inl ⟨_,_,rfl,rfl⟩))
  ·cases z
  ·exact .inr (.inr (.inl ⟨_,_,rfl,rfl⟩))
  cases z
 rcases k with rfl | ⟨e',fs,D,z,rfl⟩ | ⟨ds,L,z,rfl⟩ | ⟨_,_,_,_,z,rfl⟩
 ·exact .inr (.inr (.inr ⟨_,_,_,_,rfl,rfl⟩))
 ·cases z
 ·cases z
 exact .inr (.inr (.inr ⟨_,_,_,_,rfl,rfl⟩))
theorem Mq{b z:AB}(h:Mh b z=true):KC b z:=by
 cases b<;>cases z<;>first | (simp[Mh]at h;done) | skip
 ·have:=a7.1 h;subst this;exact .inr (.inl ⟨_,_,_,rfl,rfl⟩)
 ·exact .inr (.inr (.inl ⟨_,_,rfl,rfl⟩))
 exact .inr (.inr (.inr ⟨_,_,_,_,rfl,rfl⟩))
theorem tI{h:Nat->AB}:∀{fe:List (Nat×AB)},kj h fe=true->∀p∈fe,KC (h p.1) p.2:=by
 intro fe
 induction fe with
 | nil=>intro _ p hp;cases hp
 | cons x fe ih=>
  intro z p hp;simp only[kj,aaZ]at z;rcases adq.1 hp with e | e
  ·subst e;exact Mq z.1
  exact ih z.2 p e
theorem yz(O:mh C ops=true)(H:∀(i:Nat) o,ops[i]?=some o->DStep C ap ops.toList o (st i) (r i) (st (i+1)))(V:ap=false){B:Nat->AB}(W:∀k d b,J8 ops r k d b->B d=b)(Y:∀d,¬ja ops r 0 d->B d=(st 0).h d)(Z:∀d,ja ops r 0 d->(st 0).h d=.none)(E:Nat->Bool):
  ∀m,m<=ops.size->∀d,KC (B d) (Hn B r E m d):=by
 have N:=sF O H W Y Z;have z:∀m,m<=ops.size->∀d,KC (B d) (Hn B r (fun _=>true) m d):=by
  intro m
  induction m with
  | zero=>intro _ d;exact .inl rfl
  | succ m ih=>
   intro hm d;have R:ops[m]?=some ops[m]:=aa1 (by omega);have D:=H m _ R;show KC (B d) (app (Hn B r (fun _=>true) m) (r m).eff d);rcases aeF (r m).eff (Hn B r (fun _=>true) m) d with⟨b,J,I⟩ | ⟨_,I⟩
   ·rw[I];have hk:=tI (D.kind V) _ J;have L:=ah0 D.there _ J;have U:¬ja ops r m d:=fun hp=>by rw[((N m (by omega) d).1 hp).1]at L;exact L
    rw[(N m (by omega) d).2 U]at hk;exact (ih (by omega) d).trans hk
   rw[I];exact ih (by omega) d
 intro m
 induction m with
 | zero=>intro _ d;exact .inl rfl
 | succ m ih=>
  intro hm d;have R:ops[m]?=some ops[m]:=aa1 (by omega);have D:=H m _ R;simp only[Hn];cases E m with
  | false=>exact ih (by omega) d
  | true=>
   show KC (B d) (app (Hn B r E m) (r m).eff d);rcases aeF (r m).eff (Hn B r E m) d with⟨b,J,I⟩ | ⟨_,I⟩
   ·rw[I];have hk:=tI (D.kind V) _ J;have L:=ah0 D.there _ J;have U:¬ja ops r m d:=fun hp=>by rw[((N m (by omega) d).1 hp).1]at L;exact L
    rw[(N m (by omega) d).2 U]at hk;exact (z m (by omega) d).trans hk
   rw[I];exact ih (by omega) d
def VE(ops:Array Oper)(E:Nat->Bool)(x:Nat):Prop:=∀(k:Nat) o,ops[k]?=some o->o.dst=some x->E k=true
open Classical in
noncomputable def TE(ops:Array Oper)(st:Nat->AS)(E:Nat->Bool)(x:Nat):AV:=if VE ops E x then (st ops.size).t x else (st 0).t x
def LE(ops:Array Oper)(r:Nat->RR)(E:Nat->Bool)(d:Nat):Prop:=∀k b,J8 ops r k d b->E k=true
variable {id:Nat}
theorem Mr{h:Nat->AB}{c:Nat}:∀{eff:List (Nat×AB)},(∀p∈eff,p.1=id->kc p.2=c)->kc (h id)=c->kc (app h eff id)=c:=by
 intro eff
 induction eff generalizing h with
 | nil=>intro _ z;exact z
 | cons p r ih=>
  intro D z;obtain⟨q,b⟩:=p;refine ih (h:=aT h q b) (fun p hp e=>D p (aaw _ hp) e) ?_;by_cases e:id=q
  ·subst e;rw[aH];exact D _ adU rfl
  rw[aV _ _ e];exact z
theorem GS{X:List Nat}{h:Nat->AB}(hid:Av X (id+1000000)=true):∀{eff:List (Nat×AB)},tG X h eff=true->∀p∈eff,p.1=id->kc p.2=kc (h id)/\kc (h id)≠0:=by
 intro eff
 induction eff with
 | nil=>intro _ p hp;cases hp
 | cons q r ih=>
  intro hk p hp e;obtain⟨i,b⟩:=q;unfold tG at hk;split at hk
  ·rename_i hi;simp only[aaZ,ael]at hk;obtain⟨D,z,I⟩:=hk;rcases adq.1 hp with rfl | hp
   ·simp only at e;subst e;exact⟨aa2 D,fun J=>by rw[J]at z;cases z⟩
   exact ih I p hp e
  rename_i hi;rcases adq.1 hp with rfl | hp
  ·simp only at e;subst e;rw[hid]at hi;cases hi
  exact ih hk p hp e
theorem Ms{X:List Nat}(hok:mh C ops=true)(H:∀(i:Nat) o,ops[i]?=some o->DStep C ap ops.toList o (st i) (r i) (st (i+1)))(Z:∀k,k<ops.size->tG X (st k).h (r k).eff=true){B:Nat->AB}(N:∀i,i<=ops.size->∀d,(ja ops r i d->(st i).h d=.none/\Hn B r (fun _=>true) i d=B d)/\(¬ja ops r i d->(st i).h d=Hn B r (fun _=>true) i d))(E:Nat->Bool){i:Nat}(hid:Av X (id+1000000)=true)(hi:i<=ops.size)(O:(st i).h id≠.none):
  (kc (Hn B r E ops.size id)=kc ((st i).h id)/\kc ((st i).h id)≠0)\/Hn B r E ops.size id=(st i).h id:=by
 have I:∀k,k<=ops.size->(st k).h id≠.none->(st k).h id=Hn B r (fun _=>true) k id:=fun k hk h=>by
  by_cases hp:ja ops r k id
  ·exact absurd ((N k hk id).1 hp).1 h
  exact (N k hk id).2 hp
 have Xx:∀{b:AB},kc b≠0->b≠.none:=fun hb e=>by rw[e]at hb;exact hb rfl
 have z:∀m,m<ops.size->∀p∈(r m).eff,p.1=id->kc p.2=kc (Hn B r (fun _=>true) m id)/\kc (Hn B r (fun _=>true) m id)≠0:=fun m D p hp e=>by
  obtain⟨R,J⟩:=GS hid (Z m D) p hp e;rw[I m (by omega) (Xx J)]at R J;exact⟨R,J⟩
 by_cases U:∃k,k<ops.size/\∃p∈(r k).eff,p.1=id
 ·left;have same:∀m,m<=ops.size->kc (Hn B r (fun _=>true) m id)=kc (B id):=by
   intro m
   induction m with
   | zero=>intro _;rfl
   | succ m ih=>
    intro D;have:=ih (by omega);show kc (app (Hn B r (fun _=>true) m) (r m).eff id)=_;exact Mr (fun p hp e=>(z m (by omega) p hp e).1.trans this) this
  have any:∀m,m<=ops.size->kc (Hn B r E m id)=kc (B id):=by
   intro m
   induction m with
   | zero=>intro _;rfl
   | succ m ih=>
    intro D;simp only[Hn];cases E m with
    | false=>exact ih (by omega)
    | true=>exact Mr (fun p hp e=>(z m (by omega) p hp e).1.trans (same m (by omega))) (ih (by omega))
  obtain⟨k,hk,p,hp,e⟩:=U;have V:=(z k hk p hp e).2;rw[same k (by omega)]at V;have W:kc ((st i).h id)=kc (B id):=by rw[I i hi O];exact same i hi
  exact⟨by rw[any _ (aam _),W],by rw[W];exact V⟩
 right;have Y:∀(F:Nat->Bool) m,m<=ops.size->Hn B r F m id=B id:=by
  intro F m
  induction m with
  | zero=>intro _;rfl
  | succ m ih=>
   intro D;simp only[Hn];cases F m with
   | false=>exact ih (by omega)
   | true=>
    show app (Hn B r F m) (r m).eff id=_;rw[iA fun p L e=>U ⟨m,by omega,p,L,e⟩];exact ih (by omega)
 rw[Y E _ (aam _),I i hi O,Y _ i hi]
theorem O_{A:cD}(hC:bI A.C)(Tx:ap=ops.toList.any fun o=>jI A.C o.op)(U:mh A.C ops=true)(hd:∀o∈ops.toList,kP o A.n)(H:∀(i:Nat) o,ops[i]?=some o->DStep A.C ap ops.toList o (st i) (r i) (st (i+1)))(G:∀(i:Nat) o,ops[i]?=some o->yx A.C ap X (ji A.C ap ops) o (st i) (r i) i){B:Nat->AB}(J9:∀k d b,J8 ops r k d b->B d=b)(Bf:∀d,¬ja ops r 0 d->B d=(st 0).h d)(h0:∀d,ja ops r 0 d->(st 0).h d=.none)
  {E:Nat->Bool} (hE:GO ops E) {i:Nat} {o:Oper} (I:ops[i]?=some o) (hi:E i=false) (aeL:∀e∈o.after,Region.binds .any e=true->E e.on=true) {S:Nat->Prop} {rho:Nat->Value} {a:Act} {w:World} (sim:b7 A cE (LE ops r E) S rho ⟨TE ops st E,Hn B r E ops.size⟩ a w)
  {Q:Exit->Act->World->Prop} {next:Act->World->Prop} (hnext:∀S' rho' a' w',b7 A cE (LE ops r fun k=>E k||cq k i) S' rho' ⟨TE ops st (fun k=>E k||cq k i),Hn B r (fun k=>E k||cq k i) ops.size⟩ a' w'->next a' w'):wpOp A.C.P ops Q i next a w:=by
 obtain⟨Mu,hs,hp⟩:=ae7 U;rw[<-Tx]at hp;obtain⟨QL,Ut⟩:=Be Mu;have s_:i<ops.size:=(ab9.1 I).1;have hh:=sF U H J9 Bf h0;have D:=H i o I;have O1:kP o A.n:=hd o (aad (by simpa using I));have bits:∀k,k<i->((Region.before ops).getD i 0).testBit k=true->E k=true:=Ut E hE i o I aeL;have later:∀(k:Nat) ok,ops[k]?=some ok->i<k->((Region.before ops).getD k 0).testBit i=true->E k=false:=by
  intro k ok hk O8 Xy;rw[aaV];intro W;have:=Ut E hE k ok hk (fun e he hb=>hE k ok hk W e he hb) i O8 Xy;rw[hi]at this;cases this
 have Bh:∀x,x∈o.looksAt ops->TE ops st E x=(st i).t x:=by
  intro x Y;unfold TE;split
  ·rename_i hv;by_cases hw:∃(k:Nat) (ok:Oper),ops[k]?=some ok/\ok.dst=some x
   ·obtain⟨k,ok,hk,V⟩:=hw;have DK:=(ab9.1 hk).1;rcases ada k i with h | h | h
    ·rw[GR U H hk V ops.size (by omega) (aam _),GR U H hk V i (by omega) (by omega)]
    ·subst h;rw[I]at hk;injection hk with hk;subst hk;exact absurd Y (hs k o I x V)
    have L:=later k ok hk h ((hp i k o ok h I hk).war x V Y);rw[hv k ok hk V]at L;cases L
   have O:∀(k:Nat) o,ops[k]?=some o->o.dst≠some x:=fun k o hk e=>hw ⟨k,o,hk,e⟩;rw[CB H O ops.size (aam _),CB H O i (by omega)]
  rename_i hv;have hex:∃(k:Nat) (ok:Oper),ops[k]?=some ok/\ok.dst=some x/\E k=false:=acz fun hn=>hv fun k ok hk V=>by
   cases hE':E k with
   | true=>rfl
   | false=>exact absurd ⟨k,ok,hk,V,hE'⟩ hn
  obtain⟨k,ok,hk,V,W⟩:=hex;rcases ada k i with h | h | h
  ·have:=bits k h ((hp k i ok o h hk I).raw x V Y);rw[W]at this;cases this
  ·subst h;rw[I]at hk;injection hk with hk;subst hk;exact absurd Y (hs k o I x V)
  exact (J7 U H hk V i (by omega)).symm
 have QM:(cls A.C ap o.op=3\/(cls A.C ap o.op=2/\(ji A.C ap ops)[i]?=some true))->∀k,i<k->k<ops.size->E k=true->(r k).eff=[]:=by
  intro hc k O8 DK W;have hk:ops[k]?=some ops[k]:=aa1 DK;by_cases J:cls A.C ap ops[k].op=3
  ·have:=later k _ hk O8 (by
    rcases hc with hc | ⟨hc,hf⟩
    ·exact (hp i k o _ O8 I hk).w3 J hc
    exact (vm I hf hc k _ hk J).2 O8)
   rw[W]at this;cases this
  exact (H k _ hk).quiet J
 have Mw:∀k,k<ops.size->(r k).eff≠[]->cls A.C ap (ops[k]?.getD o).op=3:=by
  intro k hk O;have xA:ops[k]?=some ops[k]:=aa1 hk;rw[xA];by_cases J:cls A.C ap ops[k].op=3
  ·exact J
  exact absurd ((H k _ xA).quiet J) O
 have Mx:(cls A.C ap o.op=3\/(cls A.C ap o.op=2/\(ji A.C ap ops)[i]?=some true))->Hn B r E ops.size=Hn B r (fun _=>true) i:=by
  intro hc;refine QJ i ops.size (fun k DK=>?_) (by omega);have hk:ops[k]?=some ops[k]:=aa1 DK;by_cases O:(r k).eff=[]
  ·exact .inr O
  have J:=Mw k DK O;rw[hk]at J;have J:cls A.C ap ops[k].op=3:=J;refine .inl ⟨fun W=>?_,fun eF=>?_⟩
  ·rcases ada k i with h | h | h
   ·exact h
   ·subst h;rw[hi]at W;cases W
   exact absurd (QM hc k h DK W) O
  rcases hc with hc | ⟨hc,hf⟩
  ·exact bits k eF ((hp k i _ o eF hk I).w3 hc J)
  exact bits k eF ((vm I hf hc k _ hk J).1 eF)
 have Xz:cls A.C ap o.op=2->O4 o.op=false->∀id,Av X id=true->Hn B r E ops.size id=Hn B r (fun _=>true) i id:=fun hc hth id hid=>by
  refine Ur i ops.size (fun k DK=>?_) (by omega);have hk:ops[k]?=some ops[k]:=aa1 DK;by_cases O:∀p∈(r k).eff,p.1≠id
  ·exact .inr O
  have JI:(r k).eff≠[]:=fun e=>O (by rw[e];simp);have J:cls A.C ap ops[k].op=3:=by have:=Mw k DK JI;rw[hk]at this;exact this
  have Ty:(r k).run=true:=by
   cases hr:(r k).run with
   | true=>rfl
   | false=>exact absurd ((H k _ hk).not hr).2.1 JI
  have hf:(ji A.C ap ops)[k]?=some true:=by
   rcases (G k _ hk Ty).2.1 with h | h
   ·exact h
   exact absurd (fun p hp e=>by have:=Ea h p hp;rw[e,hid]at this;cases this) O
  have ord:=yy hk hf J i o I hc hth;refine .inl ⟨fun W=>?_,fun eF=>?_⟩
  ·rcases ada k i with h | h | h
   ·exact h
   ·subst h;rw[hi]at W;cases W
   have:=later k _ hk h (ord.1 h);rw[W]at this;cases this
  exact bits k eF (ord.2 eF)
 have ext:∀id,(st i).h id=.none\/Hn B r (fun _=>true) i id=(st i).h id:=by
  intro id;by_cases Bg:ja ops r i id
  ·exact .inl ((hh i (by omega) id).1 Bg).1
  exact .inr ((hh i (by omega) id).2 Bg).symm
 have Y4:(r i).run=true->bV A.C o (ev (TE ops st E)) (Hn B r E ops.size) fun v e n=>v=(r i).v/\e=(r i).eff/\n=(r i).new:=by
  intro z;have L:=D.ran z;have Z:bV A.C o (ev (TE ops st E)) (st i).h fun v e n=>v=(r i).v/\e=(r i).eff/\n=(r i).new:=by
   refine ri (fun x Y=>?_) L;cases x with
   | tmp t=>
    exact (Bh t (abY _ (aba.2 ⟨.tmp t,by simpa using Y,rfl⟩))).symm
   | const v=>rfl
   | global g=>rfl
   | func f=>rfl
  have four:cls A.C ap o.op=0\/cls A.C ap o.op=1\/cls A.C ap o.op=2\/cls A.C ap o.op=3:=by
   have:=Mo A.C ap o.op;omega
  rcases four with h | h | h | h
  ·exact R4 h Z
  ·have Uu:ap=false:=by
    cases XA:ap with
    | false=>rfl
    | true=>
     rw[XA]at h;exact absurd h (Mp A.C o.op)
   refine R5 h (fun id ht=>?_) Z;have QN:=yz U H Uu J9 Bf h0 E ops.size (aam _) id;have Uv:=yz U H Uu J9 Bf h0 (fun _=>true) i (by omega) id;have heq:(st i).h id=Hn B r (fun _=>true) i id:=by
    rcases ext id with e | e
    ·rw[e]at ht;exact ht.elim
    exact e.symm
   rw[<-heq]at Uv;rcases Uv with e | ⟨e,es,de,e1,e2⟩ | ⟨cs,mZ,e1,e2⟩ | ⟨m,es,m',de,e1,e2⟩
   ·rw[<-e]at QN;rcases QN with f | ⟨f,fs,Sa,N,f2⟩ | ⟨cs,mZ,N,f2⟩ | ⟨m,es,m',de,N,f2⟩
    ·rw[f];exact⟨ht,fun e es h=>⟨es,h⟩,fun cs h=>⟨cs,h⟩,fun cs h=>⟨cs,h⟩,fun e es h=>⟨es,h⟩⟩
    ·rw[N,f2];exact⟨trivial,fun e es h=>(by injection h with L Z;subst L;exact⟨Sa,rfl⟩),fun cs h=>(by cases h),fun cs h=>(by cases h),fun _ _ h=>by cases h⟩
    ·rw[N,f2];exact⟨trivial,fun e es h=>by (cases h),fun cs h=>⟨mZ,rfl⟩,fun cs h=>(by cases h),fun _ _ h=>by cases h⟩
    rw[N,f2];exact⟨trivial,fun e es h=>by (cases h),fun cs h=>by (cases h),fun cs h=>(by cases h),fun _ _ h=>by cases h⟩
   ·rw[e1]at QN;rw[e2];rcases QN with f | ⟨f,fs,Sa,N,f2⟩ | ⟨cs,mZ,N,f2⟩ | ⟨m,es,m',de,N,f2⟩
    ·rw[f];exact⟨trivial,fun e es h=>(by injection h with L Z;subst L;exact⟨_,rfl⟩),fun cs h=>by (cases h),fun cs h=>(by cases h),fun _ _ h=>by cases h⟩
    ·injection N with N _;subst N;rw[f2];exact⟨trivial,fun e es h=>(by injection h with L Z;subst L;exact⟨_,rfl⟩),fun cs h=>by (cases h),fun cs h=>(by cases h),fun _ _ h=>by cases h⟩
    ·cases N
    cases N
   ·rw[e1]at QN;rw[e2];rcases QN with f | ⟨f,fs,Sa,N,f2⟩ | ⟨ds,Xu,N,f2⟩ | ⟨m,es,m',de,N,f2⟩
    ·rw[f];exact⟨trivial,fun e es h=>by (cases h),fun cs h=>⟨_,rfl⟩,fun cs h=>(by cases h),fun _ _ h=>by cases h⟩
    ·cases N
    ·rw[f2];exact⟨trivial,fun e es h=>by (cases h),fun cs h=>⟨_,rfl⟩,fun cs h=>(by cases h),fun _ _ h=>by cases h⟩
    cases N
   rw[e1]at QN;rw[e2];rcases QN with f | ⟨f,fs,Sa,N,f2⟩ | ⟨ds,Xu,N,f2⟩ | ⟨m,es,m',de,N,f2⟩
   ·rw[f];exact⟨trivial,fun e es h=>by (cases h),fun cs h=>by (cases h),fun cs h=>(by cases h),fun _ _ h=>by cases h⟩
   ·cases N
   ·cases N
   rw[f2];exact⟨trivial,fun e es h=>by (cases h),fun cs h=>by (cases h),fun cs h=>(by cases h),fun _ _ h=>by cases h⟩
  ·rcases (G i o I z).1 with hf | hpv | hfp | hth | J
   case inr.inr.inr.inr=>rw[h]at J;cases J
   case inr.inr.inr.inl=>
    have Mt:∀k,k<ops.size->tG X (st k).h (r k).eff=true:=fun k DK=>by
     have hk:ops[k]?=some ops[k]:=aa1 DK;cases hr:(r k).run with
     | true=>exact (G k _ hk hr).2.2
     | false=>rw[((H k _ hk).not hr).2.1];rfl
    refine ri (fun x Y=>?_) (R9 (h':=Hn B r E ops.size) (fun id hid O=>Ms U H Mt hh E hid (by omega) O) hth L);cases x with
    | tmp t=>
     exact (Bh t (abY _ (aba.2 ⟨.tmp t,by simpa using Y,rfl⟩))).symm
    | const v=>rfl
    | global g=>rfl
    | func f=>rfl
   case inr.inr.inl=>
    refine ri (fun x Y=>?_) (R8 (h':=Hn B r E ops.size) (fun id hid=>?_) hfp L)
    ·cases x with
     | tmp t=>
      exact (Bh t (abY _ (aba.2 ⟨.tmp t,by simpa using Y,rfl⟩))).symm
     | const v=>rfl
     | global g=>rfl
     | func f=>rfl
    rw[Xz h (Ix hfp) id hid];exact ext id
   case inr.inl=>
    refine ri (fun x Y=>?_) (R6 hpv L);cases x with
    | tmp t=>
     exact (Bh t (abY _ (aba.2 ⟨.tmp t,by simpa using Y,rfl⟩))).symm
    | const v=>rfl
    | global g=>rfl
    | func f=>rfl
   rw[Mx (.inr ⟨h,hf⟩)];obtain⟨v,e,n,⟨rfl,rfl,rfl⟩,h4⟩:=q_ ext Z;exact h4 _ ⟨rfl,rfl,rfl⟩
  rw[Mx (.inl h)];obtain⟨v,e,n,⟨rfl,rfl,rfl⟩,h4⟩:=q_ ext Z;exact h4 _ ⟨rfl,rfl,rfl⟩
 have QO:∀x,o.dst≠some x->(VE ops (fun k=>E k||cq k i) x↔VE ops E x):=by
  intro x Y;refine⟨fun hv k ok hk V=>?_,fun hv k ok hk V=>by simp[hv k ok hk V]⟩;have:=hv k ok hk V;simp only[adZ]at this;rcases this with h | h
  ·exact h
  have:=a7.1 h;subst this;rw[I]at hk;injection hk with hk;subst hk;exact absurd V Y
 have Uw:∀v,v=(r i).v->fx (TE ops st E) o.dst v=TE ops st (fun k=>E k||cq k i):=by
  intro v hv;funext x;have other:o.dst≠some x->TE ops st E x=TE ops st (fun k=>E k||cq k i) x:=fun Y=>by
   unfold TE;by_cases Wc:VE ops E x
   ·rw[aap Wc,aap ((QO x Y).2 Wc)]
   rw[aaa Wc,aaa fun h=>Wc ((QO x Y).1 h)]
  cases lH:o.dst with
  | none=>exact other (by rw[lH];intro h;cases h)
  | some d=>
   show aT _ _ _ _=_;by_cases e:x=d
   ·subst e;rw[aH];unfold TE;rw[aap,GR U H I lH ops.size (by omega) (aam _),hv];intro k ok hk V;have:k=i:=by
     rcases ada k i with h5 | h5 | h5
     ·exact absurd lH ((hp k i ok o h5 hk I).dst x V)
     ·exact h5
     exact absurd V ((hp i k o ok h5 I hk).dst x lH)
    simp[this,a7.2]
   rw[aV _ _ e];exact other fun h=>e (by rw[lH]at h;injection h with h;exact h.symm)
 unfold wpOp;simp only[I];by_cases z:(r i).run=true
 ·have yp:Region.wanted o (yielded ops a.tmps)=true:=by
   have hg:=D.guard;unfold Region.wanted;split at hg
   ·rename_i h;rw[h]
   rename_i g want h;rw[h];obtain⟨og,tg,b,k1,k2,k3,k4⟩:=hg;have My:tg∈o.looksAt ops:=adt _ (by rw[h];simp[show ops[g]?=some og by simpa using k1,k2]);have:=oP sim (ops:=ops) (g:=g) (by simpa using k1) k2 trivial (by show TE ops st E tg=_;rw[Bh tg My];exact k3);simp only[this];rw[z]at k4;exact k4.symm
  rw[aap yp];refine .inl (L7 A o _ _ _ _ _ _ _ _ next Q hC sim (fun _ _=>trivial) O1 (Y4 z) (fun v eff b hk=>?_) fun v eff new S' rho' a' w' hk b9=>?_)
  ·obtain⟨_,_,Tz⟩:=hk;obtain⟨d,lH⟩:∃d,o.dst=some d:=by
    have:=D.ndst;rw[<-Tz]at this;cases Ba:o.dst with
    | none=>rw[Ba]at this;cases this
    | some d=>exact⟨d,rfl⟩
   have R:J8 ops r i d b:=⟨o,I,lH,Tz.symm⟩;rw[lH];refine⟨fun hL=>(by have:=hL i b R;rw[hi]at this;cases this),?_⟩;show Hn B r E ops.size d=b;have Bg:ja ops r i d:=⟨i,b,aam _,R⟩;have O:∀k,k<ops.size->E k=true->∀p∈(r k).eff,p.1≠d:=by
    intro k DK W p QK e;have hk:ops[k]?=some ops[k]:=aa1 DK;have ht:=ah0 (H k _ hk).there p QK;rcases ada k i with h | h | h
    ·have J_:ja ops r k d:=⟨i,b,by omega,R⟩;rw[e,((hh k (by omega) d).1 J_).1]at ht;exact ht
    ·subst h;rw[hi]at W;cases W
    have J:cls A.C ap ops[k].op=3:=by
     by_cases J:cls A.C ap ops[k].op=3
     ·exact J
     have:=(H k _ hk).quiet J;rw[this]at QK;cases QK
    have hmk:cls A.C ap o.op=3\/cls A.C ap o.op=2:=O6 (ap:=ap) (Y4 z) Tz;have:=later k _ hk h (by
     rcases hmk with hmk | hmk
     ·exact (hp i k o _ h I hk).w3 J hmk
     rcases (G i o I z).1 with hf | hpv | hfp | hth | h3'
     ·exact (vm I hf hmk k _ hk J).2 h
     ·have:=GJ hpv (D.ran z);rw[<-Tz]at this;cases this
     ·rcases GK hfp (D.ran z) with DJ | hdX
      ·rw[<-Tz]at DJ;cases DJ
      rw[lH]at hdX;have hdX:Av X d=true:=hdX;have JI:(r k).eff≠[]:=fun e=>by rw[e]at QK;cases QK
      have Ty:(r k).run=true:=by
       cases hr:(r k).run with
       | true=>rfl
       | false=>exact absurd ((H k _ hk).not hr).2.1 JI
      have hf:(ji A.C ap ops)[k]?=some true:=by
       rcases (G k _ hk Ty).2.1 with h | h
       ·exact h
       have:=Ea h p QK;rw[e,hdX]at this;cases this
      exact (yy hk hf J i o I hmk (Ix hfp)).1 h
     ·have:=GL hth (D.ran z);rw[<-Tz]at this;cases this
     rw[hmk]at h3';cases h3')
    rw[W]at this;cases this
   have:∀m,m<=ops.size->Hn B r E m d=B d:=by
    intro m
    induction m with
    | zero=>intro _;rfl
    | succ m ih=>
     intro hm;simp only[Hn];cases hEm:E m with
     | false=>exact ih (by omega)
     | true=>
      show app (Hn B r E m) (r m).eff d=_;rw[iA (O m (by omega) hEm)];exact ih (by omega)
   rw[this ops.size (aam _),J9 i d b R]
  obtain⟨e1,e2,e3⟩:=hk;refine hnext S' rho' a' w' ?_;have hH:app (Hn B r E ops.size) eff=Hn B r (fun k=>E k||cq k i) ops.size:=by
   rw[e2];by_cases O:(r i).eff=[]
   ·rw[O];show Hn B r E ops.size=_;have:∀m,Hn B r (fun k=>E k||cq k i) m=Hn B r E m:=by
     intro m
     induction m with
     | zero=>rfl
     | succ m ih=>
      simp only[Hn];rw[ih];by_cases e:m=i
      ·subst e;rw[hi,a7.2 rfl,O];rfl
      have:cq m i=false:=by rw[aaV];intro h;exact e (a7.1 h)
      rw[this,abo]
    exact (this _).symm
   have J:cls A.C ap o.op=3:=by
    by_cases J:cls A.C ap o.op=3
    ·exact J
    exact absurd (D.quiet J) O
   exact (R_ hi ops.size (QM (.inl J)) s_).symm
  have bu:=b9;rw[Uw v e1]at bu;have aeI:b7 A (xY cE o.dst) (Cg (LE ops r E) new (o.dst.getD 0)) S' rho' ⟨TE ops st (fun k=>E k||cq k i),Hn B r (fun k=>E k||cq k i) ops.size⟩ a' w':=by rw[<-hH];exact bu
  refine aeI.qo (fun _ _=>.inl trivial) fun d=>?_;cases GU:new with
  | none=>
   refine⟨fun h k b R=>?_,fun h k b R=>by simp[h k b R]⟩;have:=h k b R;simp only[adZ]at this;rcases this with h | h
   ·exact h
   have:=a7.1 h;subst this;obtain⟨o',L,Z,h4⟩:=R;rw[<-e3,GU]at h4;cases h4
  | some b=>
   obtain⟨d',lH⟩:∃d,o.dst=some d:=by
    have:=D.ndst;rw[<-e3,GU]at this;cases Ba:o.dst with
    | none=>rw[Ba]at this;cases this
    | some d=>exact⟨d,rfl⟩
   rw[lH];show _↔(LE ops r E d\/d=d');refine⟨fun h=>?_,fun h k b' R=>?_⟩
   ·by_cases e:d=d'
    ·exact .inr e
    refine .inl fun k b' R=>?_;have:=h k b' R;simp only[adZ]at this;rcases this with h | h
    ·exact h
    have:=a7.1 h;subst this;obtain⟨o',L,Z,h4⟩:=R;rw[I]at L;injection L with L;rw[<-L,lH]at Z;injection Z with Z;exact absurd Z.symm e
   rcases h with h | h
   ·simp[h k b' R]
   obtain⟨o',L,Z,h4⟩:=R;have:k=i:=by
    rcases ada k i with h5 | h5 | h5
    ·exact absurd (by rw[lH,h]) ((hp k i o' o h5 L I).dst d Z)
    ·exact h5
    exact absurd (by rw[Z,h]) ((hp i k o o' h5 I L).dst d' lH)
   simp[this,a7.2]
 have Mz:(r i).run=false:=by simpa using z
 obtain⟨n1,n2,n3⟩:=D.not Mz;have yp:Region.wanted o (yielded ops a.tmps)=false:=by
  have hg:=D.guard;unfold Region.wanted;split at hg
  ·rw[Mz]at hg;cases hg
  rename_i g want h;rw[h];obtain⟨og,tg,b,k1,k2,k3,k4⟩:=hg;have My:tg∈o.looksAt ops:=adt _ (by rw[h];simp[show ops[g]?=some og by simpa using k1,k2]);have:=oP sim (ops:=ops) (g:=g) (by simpa using k1) k2 trivial (by show TE ops st E tg=_;rw[Bh tg My];exact k3);simp only[this];rw[Mz]at k4;exact k4.symm
 rw[aaa (by rw[yp];decide)];refine hnext S rho _ _ ?_;have bu:=sim.value o.dst O1 rH undef (.p _ _ (.im _));rw[Uw rH n1.symm]at bu;have hH:Hn B r (fun k=>E k||cq k i) ops.size=Hn B r E ops.size:=by
  have:∀m,Hn B r (fun k=>E k||cq k i) m=Hn B r E m:=by
   intro m
   induction m with
   | zero=>rfl
   | succ m ih=>
    simp only[Hn];rw[ih];by_cases e:m=i
    ·subst e;rw[hi,a7.2 rfl,n2];rfl
    have:cq m i=false:=by rw[aaV];intro h;exact e (a7.1 h)
    rw[this,abo]
  exact this _
 rw[hH];refine bu.qo (fun _ _=>.inl trivial) fun d=>⟨fun h k b R=>?_,fun h k b R=>by simp[h k b R]⟩;have:=h k b R;simp only[adZ]at this;rcases this with h | h
 ·exact h
 have:=a7.1 h;subst this;obtain⟨o',L,Z,h4⟩:=R;rw[n3]at h4;cases h4
theorem filter_lt{p q:Nat->Bool}(D:∀x,q x=true->p x=true){i:Nat}(hp:p i=true)(I:q i=false):∀(l:List Nat),(l.filter q).length<=(l.filter p).length/\(i∈l->(l.filter q).length<(l.filter p).length):=by
 intro l
 induction l with
 | nil=>exact⟨aam _,fun h=>by cases h⟩
 | cons x l ih=>
  simp only[aby];refine⟨?_,fun h=>?_⟩
  ·cases z:q x with
   | true=>rw[D x z];simp;exact ih.1
   | false=>cases p x<;>simp<;>have:=ih.1<;>omega
  rcases adq.1 h with e | e
  ·subst e;rw[hp,I];simp;have:=ih.1;omega
  have:=ih.2 e;cases z:q x with
  | true=>rw[D x z];simp;exact this
  | false=>cases p x<;>simp<;>omega
theorem Pa{A:cD}(hC:bI A.C)(Tx:ap=ops.toList.any fun o=>jI A.C o.op)(N:mh A.C ops=true)(hd:∀o∈ops.toList,kP o A.n)(H:∀(i:Nat) o,ops[i]?=some o->DStep A.C ap ops.toList o (st i) (r i) (st (i+1)))(G:∀(i:Nat) o,ops[i]?=some o->yx A.C ap X (ji A.C ap ops) o (st i) (r i) i){B:Nat->AB}(J9:∀k d b,J8 ops r k d b->B d=b)(Bf:∀d,¬ja ops r 0 d->B d=(st 0).h d)(h0:∀d,ja ops r 0 d->(st 0).h d=.none)
  {Q:Exit->Act->World->Prop} (hQ:∀S rho a w,b7 A cE cE S rho (st ops.size) a w->Q .normal a w):
  ∀(D:Nat) (z:Array Bool) (S:Nat->Prop) (rho:Nat->Value) (a:Act) (w:World),z.size=ops.size->GO ops (fun i=>z.getD i false)->((List.range ops.size).filter fun i=>!z.getD i false).length<=D ->
   b7 A cE (LE ops r fun i=>z.getD i false) S rho ⟨TE ops st (fun i=>z.getD i false),Hn B r (fun i=>z.getD i false) ops.size⟩ a w->wpAny A.C.P .any ops Q D z a w:=by
 obtain⟨Mu,hs,hp⟩:=ae7 N;obtain⟨QL,_⟩:=Be Mu;have hh:=sF N H J9 Bf h0;have fin:∀(z:Array Bool) (S:Nat->Prop) (rho:Nat->Value) (a:Act) (w:World),z.size=ops.size->Region.ready .any ops z=[]->b7 A cE (LE ops r fun i=>z.getD i false) S rho ⟨TE ops st (fun i=>z.getD i false),Hn B r (fun i=>z.getD i false) ops.size⟩ a w->Q .normal a w:=by
  intro z S rho a w J O I;have all:∀i,i<ops.size->z.getD i false=true:=by
   intro i
   induction i using Nat.strongRecOn with
   | _ i ih=>
    intro hi;have L:ops[i]?=some ops[i]:=aa1 hi;cases hl:z.getD i false with
    | true=>rfl
    | false=>
     have:i∈Region.ready .any ops z:=mem_ready.2 ⟨getD_in (by omega) hl,_,L,fun e W hb=>by
      have R:=QL i _ L e W hb;exact ih e.on R (by omega)⟩
     rw[O]at this;cases this
  refine hQ S rho a w ?_;have hH:Hn B r (fun i=>z.getD i false) ops.size=(st ops.size).h:=by
   rw[QJ ops.size ops.size (fun k hk=>.inl ⟨fun _=>hk,fun _=>all k hk⟩) (aam _)];funext d;refine ((hh ops.size (aam _) d).2 fun ⟨k,b,R,o,Z,_⟩=>?_).symm;have:=(ab9.1 Z).1;omega
  have hT:TE ops st (fun i=>z.getD i false)=(st ops.size).t:=funext fun x=>aap fun k o hk _=>all k (ab9.1 hk).1;rw[hH,hT]at I;refine I.qo (fun _ _=>trivial) fun d=>⟨fun _ k b hc=>?_,fun _=>trivial⟩;obtain⟨o,Z,_⟩:=hc;exact all k (ab9.1 Z).1
 intro D
 induction D with
 | zero=>
  intro z S rho a w J je Ux I;have O:Region.ready .any ops z=[]:=by
   rw[abH];intro i hi;obtain⟨R,o,L,_⟩:=mem_ready.1 hi;have Y:=(ab9.1 L).1;have hm:i∈(List.range ops.size).filter fun i=>!z.getD i false:=adu.2 ⟨abD.2 Y,by rw[getD_both R];rfl⟩;have:=adl (Nat.le_zero.1 Ux);rw[this]at hm;cases hm
  exact⟨O,fin z S rho a w J O I⟩
 | succ D ih=>
  intro z S rho a w J je Ux I;refine⟨fun O=>fin z S rho a w J O I,fun i hi=>?_⟩;obtain⟨R,o,L,U⟩:=mem_ready.1 hi;have Y:=(ab9.1 L).1;have Y5:z.getD i false=false:=getD_both R;have mT:(fun k=>(z.setIfInBounds i true).getD k false)=fun k=>z.getD k false||cq k i:=by
   funext k;by_cases e:i=k
   ·subst e;rw[a7.2 rfl,ads];simp[J,Y]
   rw[getD_set_ne false e];have:cq k i=false:=by rw[aaV];intro h;exact e (a7.1 h).symm
   rw[this,abo]
  refine O_ hC Tx N hd H G J9 Bf h0 (E:=fun i=>z.getD i false) je L Y5 U I fun S' rho' a' w' b9=>?_;refine ih (z.setIfInBounds i true) S' rho' a' w' (by simp[J]) ?_ ?_ ?_
  ·rw[mT];intro j oj V Y6 e W hb;simp only[adZ]at Y6 ⊢;rcases Y6 with h | h
   ·exact .inl (je j oj V h e W hb)
   have:=a7.1 h;subst this;rw[L]at V;injection V with V;subst V;exact .inl (U e W hb)
  ·have QP:∀k,(z.setIfInBounds i true).getD k false=(z.getD k false||cq k i):=fun k=>congrFun mT k;have:=(filter_lt (p:=fun k=>!z.getD k false) (q:=fun k=>!(z.setIfInBounds i true).getD k false) (fun x hx=>by
    rw[QP x]at hx;cases hl:z.getD x false with
    | true=>rw[hl]at hx;cases hx
    | false=>rfl) (i:=i) (by rw[Y5];rfl) (by rw[QP i,a7.2 rfl,ads];rfl) (List.range ops.size)).2 (abD.2 Y)
   omega
  rw[mT];exact b9
end
def HX.iQ:List HX->List AV
 | []=>[]
 | .av x::r=>x::HX.iQ r
 | .row _ _::r=>HX.iQ r
theorem HX.CD(f:AV->AV):∀(r:List HX),HX.iQ (r.map (HX.cS f))=(HX.iQ r).map f
 | []=>rfl
 | .av x::r=>by simp[HX.iQ,HX.cS,HX.CD f r]
 | .row _ _::r=>by simp[HX.iQ,HX.cS,HX.CD f r]
theorem HX.CE{x:AV}:∀{r:List HX},.av x∈r->x∈HX.iQ r
 | .av y::r,h=>by
  rcases adq.1 h with h | h
  ·injection h with h;subst h;simp[HX.iQ]
  simp[HX.iQ,HX.CE h]
 | .row _ _::r,h=>by
  rcases adq.1 h with h | h
  ·cases h
  simp[HX.iQ,HX.CE h]
def CF:AB->List AV
 | .box cs=>cs
 | .gC _ cs=>cs
 | .az _ es=>es.flatMap HX.iQ
 | _=>[]
theorem yB(d:Nat)(b:AB):CF (xm d b)=(CF b).map (sc d):=by
 cases b with
 | az e es=>
  show (es.map fun r=>r.map (HX.cS (sc d))).flatMap HX.iQ=(es.flatMap HX.iQ).map (sc d)
  induction es with
  | nil=>rfl
  | cons r es ih=>simp only[aa8,abz,abE,ih,HX.CD]
 | _=>rfl
def wm(d:Nat)(s:AS):Prop:=s.h d=.none/\(∀j,rQ d (s.t j)=false)/\∀k,∀x∈CF (s.h k),rQ d x=false
theorem MA(d:Nat)(x:AV):rQ d (sc d x)=false:=by
 rw[L9];split
 ·rfl
 assumption
theorem Iy{d z:Nat}{x:AV}(h:rQ d x=false):rQ d (sc z x)=false:=by
 rw[L9];split
 ·rfl
 exact h
theorem Iz(d:Nat)(s:AS)(k:Nat):(k=d/\(gX d s).h k=.none)\/(k≠d/\(gX d s).h k=xm d (s.h k)):=by
 by_cases e:k=d
 ·subst e;exact .inl ⟨rfl,by show aT (fun z=>xm k (s.h z)) k AB.none k=_;rw[aH]⟩
 exact .inr ⟨e,by show aT (fun z=>xm d (s.h z)) d AB.none k=_;rw[aV _ _ e]⟩
theorem Bi(d:Nat)(s:AS):wm d (gX d s):=by
 refine⟨by rcases Iz d s d with⟨_,h⟩ | ⟨h,_⟩;exact h;exact absurd rfl h,fun j=>MA d _,fun k x z=>?_⟩;rcases Iz d s k with⟨_,h⟩ | ⟨_,h⟩
 ·rw[h]at z;cases z
 rw[h,yB]at z;obtain⟨y,_,rfl⟩:=adS.1 z;exact MA d y
variable {s:AS}
theorem GV{d:Nat}(D:Nat)(I:wm d s):wm d (gX D s):=by
 obtain⟨J,L,N⟩:=I;refine⟨?_,fun j=>Iy (L j),fun k x z=>?_⟩
 ·rcases Iz D s d with⟨_,h⟩ | ⟨_,h⟩
  ·exact h
  rw[h,J];rfl
 rcases Iz D s k with⟨_,h⟩ | ⟨_,h⟩
 ·rw[h]at z;cases z
 rw[h,yB]at z;obtain⟨y,O,rfl⟩:=adS.1 z;exact Iy (N k y O)
def yC:List Oper->AS->AS
 | [],s=>s
 | o::r,s=>match qp o.op with
  | true=>yC r (gX (o.dst.getD 0) s)
  | false=>yC r s
theorem GW:∀(l:List Oper) (s:AS),(∀d,wm d s->wm d (yC l s))/\∀o∈l,qp o.op=true->wm (o.dst.getD 0) (yC l s):=by
 intro l
 induction l with
 | nil=>intro s;exact⟨fun _ h=>h,fun o h=>by cases h⟩
 | cons o l ih=>
  intro s;unfold yC;split
  ·rename_i D;refine⟨fun d I=>(ih _).1 d (GV _ I),fun o' J z=>?_⟩;rcases adq.1 J with e | e
   ·subst e;exact (ih _).1 _ (Bi _ _)
   exact (ih _).2 o' e z
  rename_i D;refine⟨fun d I=>(ih _).1 d I,fun o' J z=>?_⟩;rcases adq.1 J with e | e
  ·subst e;rw[z]at D;cases D
  exact (ih _).2 o' e z
variable {A:cD} {rho:Nat->Value} {w:World}
theorem b7.gX{S:Nat->Prop}{a:Act}(z:b7 A cE cE S rho s a w)(d:Nat):b7 A cE cE S rho (gX d s) a w:=by
 have D:=z.free d .none;have I:(AM.gX d s).h d=.none:=(Bi d s).1;rw[jf _ _ _ I]at D;exact D.Iv d I
theorem b7.pre{S:Nat->Prop}{a:Act}:∀(l:List Oper) (s:AS),b7 A cE cE S rho s a w->b7 A cE cE S rho (yC l s) a w:=by
 intro l
 induction l with
 | nil=>intro s z;exact z
 | cons o l ih=>
  intro s z;unfold yC;split
  ·exact ih _ (z.gX _)
  exact ih _ z
def yD(o:Oper)(s:AS):AS:=match o.op,o.dst with
 | .assign _,some d=>match s.t d with
  | .ow i=>match s.h i with
   | .row _ _=>match cq i d with
    | true=>s
    | false=>mR i d s
   | .az _ _=>match cq i d with
    | true=>s
    | false=>mR i d s
   | _=>s
  | _=>s
 | _,_=>s
def Bj:List Oper->AS->AS
 | [],s=>s
 | o::r,s=>Bj r (yD o s)
theorem b7.post{S:Nat->Prop}{a:Act}:∀(l:List Oper) (rho:Nat->Value) (s:AS),(∀o∈l,kP o A.n)->b7 A cE cE S rho s a w->∃rho',b7 A cE cE S rho' (Bj l s) a w:=by
 intro l
 induction l with
 | nil=>intro rho s _ z;exact⟨rho,z⟩
 | cons o l ih=>
  intro rho s I z;have L:∀o∈l,kP o A.n:=fun o' N=>I o' (by simp[N]);have:∃rho',b7 A cE cE S rho' (yD o s) a w:=by
   unfold yD;split
   ·rename_i d _ J;split
    ·split
     ·split
      ·exact⟨rho,z⟩
      rename_i D;refine⟨_,z.rename _ d (fun e=>?_) (aaW (I o (by simp) d J) z.nb)⟩;rw[a7.2 e]at D;cases D
     ·split
      ·exact⟨rho,z⟩
      rename_i D;refine⟨_,z.rename _ d (fun e=>?_) (aaW (I o (by simp) d J) z.nb)⟩;rw[a7.2 e]at D;cases D
     exact⟨rho,z⟩
    exact⟨rho,z⟩
   exact⟨rho,z⟩
  obtain⟨rho',O⟩:=this;exact ih rho' _ L O
theorem sG{d:Nat}{c:AV}:∀{xs:List AV},c∈xs->rQ d c=true->gI d xs=true:=by
 intro xs
 induction xs with
 | nil=>intro h;cases h
 | cons x xs ih=>
  intro h z;simp only[gI,adZ];rcases adq.1 h with e | e
  ·subst e;exact .inl z
  exact .inr (ih e z)
theorem aY.loc{S:Nat->Prop}{P:Program}{L':Nat->Prop}{h h':Nat->AB}{x:AV}{v:Value}(N:aY S w P cE rho h x v)(D:∀k,rQ k x=true->h' k=h k/\L' k):aY S w P L' rho h' x v:=by
 induction N with
 | p x v N=>exact .p x v N
 | nl=>exact .nl
 | ow k v hv=>obtain⟨I,J⟩:=D k (by simp only[rQ];exact a7.2 rfl);exact .ow k v fun O=>⟨J,(hv (by rw[<-I];exact O)).2⟩
 | rp k a b v hv=>obtain⟨I,J⟩:=D k (by simp only[rQ];exact a7.2 rfl);exact .rp k a b v fun e R=>⟨J,(hv e (by rw[<-I];exact R)).2⟩
 | bx k a v hv=>obtain⟨I,J⟩:=D k (by simp only[rQ];exact a7.2 rfl);exact .bx k a v fun O=>⟨J,(hv (by rw[<-I];exact O)).2⟩
 | vw k a b v hv=>obtain⟨I,J⟩:=D k (by simp only[rQ];exact a7.2 rfl);exact .vw k a b v fun e R=>⟨J,(hv e (by rw[<-I];exact R)).2⟩
 | fn f cap vs hl hc ih=>exact .fn f cap vs hl fun j c u z L=>ih j c u z L fun k hk=>D k (sG (aad z) hk)
 | tu xs vs hl hc ih=>exact .tu xs vs hl fun j c u z L=>ih j c u z L fun k hk=>D k (sG (aad z) hk)
 | st xs vs hl h0 hc ih=>exact .st xs vs hl h0 fun j c u z L=>ih j c u z L fun k hk=>D k (sG (aad z) hk)
 | junk v=>exact .junk v
theorem Sb(hC:bI A.C){id:Nat}{ops:Array Oper}{K:Exit->AS->Prop}(hok:mh A.C ops=true)(hd:∀o∈ops.toList,kP o A.n)
  (h:∃X,oS A.C (ops.toList.any fun o=>jI A.C o.op) X ops.toList (ji A.C (ops.toList.any fun o=>jI A.C o.op) ops) ops.toList (fun s'=>K .normal (Bj ops.toList s')) (yC ops.toList s)):W A (.region id ops true) K s:=by
 intro S rho a w sim;have D:=(sim.grow hC w.drew ⟨rfl,rfl,rfl,aam _,fun _ _ _=>rfl⟩).pre ops.toList s;obtain⟨X,h⟩:=h;obtain⟨st,r,h1,h2,h3⟩:=Mk ops.toList _ _ h;have hsz:ops.toList.length=ops.size:=by simp
 rw[hsz]at h2;have H:∀(i:Nat) o,ops[i]?=some o->DStep A.C (ops.toList.any fun o=>jI A.C o.op) ops.toList o (st i) (r i) (st (i+1)):=fun i o ho=>(h3 i o (by simpa using ho)).1;have G:∀(i:Nat) o,ops[i]?=some o->yx A.C (ops.toList.any fun o=>jI A.C o.op) X (ji A.C (ops.toList.any fun o=>jI A.C o.op) ops) o (st i) (r i) i:=fun i o ho=>(h3 i o (by simpa using ho)).2;have nr:∀k d b,J8 ops r k d b->wm d (st 0):=fun k d b ⟨o,ho,lH,hb⟩=>by
  have Oo:=(H k o ho).ndst;rw[hb,lH]at Oo;rw[h1];have:=(GW ops.toList s).2 o (aad (by simpa using ho)) Oo;rw[lH]at this;exact this
 have MB:∀d,ja ops r 0 d->wm d (st 0):=fun d ⟨k,b,_,J⟩=>nr k d b J;have XD:∀d,Decidable (∃b k,J8 ops r k d b):=fun d=>Classical.propDecidable _;obtain⟨B,hB⟩:∃B:Nat->AB,B=fun d=>@dite _ (∃b k,J8 ops r k d b) (XD d) (fun h=>Classical.choose h) (fun _=>(st 0).h d):=⟨_,rfl⟩;obtain⟨_,_,hp⟩:=ae7 hok;have J9:∀k d b,J8 ops r k d b->B d=b:=by
  intro k d b J;have V:∃b k,J8 ops r k d b:=⟨b,k,J⟩;rw[hB];simp only;rw[dif_pos V];obtain⟨k',hc'⟩:=acD V;generalize Classical.choose V=b' at hc';obtain⟨o,e1,e2,e3⟩:=J;obtain⟨o',f1,f2,f3⟩:=hc';have:k=k':=by
   rcases ada k k' with h | h | h
   ·exact absurd f2 ((hp k k' o o' h e1 f1).dst d e2)
   ·exact h
   exact absurd e2 ((hp k' k o' o h f1 e1).dst d f2)
  subst this;rw[e3]at f3;injection f3 with f3;exact f3.symm
 have L:∀d,¬ja ops r 0 d->B d=(st 0).h d:=by
  intro d R;rw[hB];simp only;rw[dif_neg fun ⟨b,k,J⟩=>R ⟨k,b,aaj _,J⟩]
 have N:∀d,¬ja ops r 0 d->LE ops r (fun _=>false) d:=fun d R k b J=>absurd ⟨k,b,aaj _,J⟩ R;have Pb:∀d,LE ops r (fun _=>false) d->¬ja ops r 0 d:=fun d hl ⟨k,b,_,J⟩=>by cases hl k b J
 rw[<-h1]at D;have XE:b7 A cE (LE ops r fun _=>false) S rho ⟨TE ops st (fun _=>false),B⟩ a w.drew:=
  {tm:=fun j _=>by
    have ht:TE ops st (fun _=>false) j=(st 0).t j:=by
     unfold TE;split
     ·rename_i hv;exact CB H (fun k o hk e=>by cases hv k o hk e) ops.size (aam _)
     rfl
    show aY _ _ _ _ _ _ (TE ops st (fun _=>false) j) _;rw[ht];refine (D.tm j trivial).loc fun k hk=>?_;have R:¬ja ops r 0 k:=fun O=>by rw[(MB k O).2.1 j]at hk;cases hk
    exact⟨L k R,N k R⟩
   sz:=D.sz,df:=D.df,nb:=D.nb,pn:=D.pn,ev:=D.ev,s0:=D.s0,st:=D.st,sb:=D.sb
   hp:=fun k hk=>by
    have R:=Pb k hk;show eK _ _ _ _ _ _ _ (B k);rw[L k R];have z:=D.hp k trivial;cases hb:(st 0).h k with
    | none=>trivial
    | row e es=>rw[hb]at z;exact z
    | jA es=>rw[hb]at z;exact z
    | jd es=>rw[hb]at z;exact z
    | map mk es=>rw[hb]at z;exact z
    | box cs=>
     rw[hb]at z;obtain⟨g,ty,c,k1,k2,k3,Y⟩:=z;refine⟨g,ty,c,k1,k2,k3,fun j x u I Z=>⟨(Y j x u I Z).1,(Y j x u I Z).2.loc fun i hi=>?_⟩⟩;have U:¬ja ops r 0 i:=fun O=>by rw[(MB i O).2.2 k x (by rw[hb];exact aad I)]at hi;cases hi
     exact⟨L i U,N i U⟩
    | gC ty cs=>
     rw[hb]at z;obtain⟨g,c,k1,k2,k3,Y⟩:=z;refine⟨g,c,k1,k2,k3,fun j x u I Z=>⟨(Y j x u I Z).1,(Y j x u I Z).2.loc fun i hi=>?_⟩⟩;have U:¬ja ops r 0 i:=fun O=>by rw[(MB i O).2.2 k x (by rw[hb];exact aad I)]at hi;cases hi
     exact⟨L i U,N i U⟩
    | aN cs=>rw[hb]at z;exact z
    | az e es=>
     rw[hb]at z;obtain⟨⟨i0,xs,k1,k2,k3,Y,k5,k6⟩,hS⟩:=z;refine⟨⟨i0,xs,k1,k2,k3,Y,k5,fun a' r j x ha I=>?_⟩,hS⟩;obtain⟨u,Z,hr⟩:=k6 a' r j x ha I;refine⟨u,Z,?_⟩;cases x with
     | row e' de=>exact hr
     | av x=>
      refine aY.loc hr fun i hi=>?_;have U:¬ja ops _ 0 i:=fun O=>by rw[(MB i O).2.2 k x (by rw[hb];exact aax.2 ⟨r,aad ha,HX.CE (aad I)⟩)]at hi;cases hi
      exact⟨L i U,N i U⟩
   dj:=fun i j g hi I li lj eM jH=>by
    have nT:(B i).live:=li;have Ui:(B j).live:=lj;have eM:hasB _ (B i) (rho i) g:=eM;have jH:hasB _ (B j) (rho j) g:=jH;rw[L i (Pb i hi)]at nT eM;rw[L j (Pb j I)]at Ui jH;exact D.dj i j g trivial trivial nT Ui eM jH
   lv:=fun i g hi li hg=>by
    have nT:(B i).live:=li;have hg:hasB _ (B i) (rho i) g:=hg;rw[L i (Pb i hi)]at nT hg;exact D.lv i g trivial nT hg
   fr:=D.fr }
 refine wp_region_any hC.any ?_;have Y7:(fun i=>(Array.replicate ops.size false).getD i false)=fun _=>false:=by
  funext i;exact getD_replicate_false _ _
 refine Pa hC rfl hok hd H G J9 L (fun d O=>(MB d O).1) (fun S' rho' a' w' b9=>?_) ops.size (Array.replicate ops.size false) S rho a w.drew (by simp) ?_ ?_ ?_
 ·obtain⟨Sc,bu⟩:=b9.post ops.toList rho' (st ops.size) hd;exact⟨S',Sc,_,bu,h2⟩
 ·rw[Y7];intro j oj _ h;cases h
 ·have:((List.range ops.size).filter fun i=>!(Array.replicate ops.size false).getD i false).length<=(List.range ops.size).length:=adb _ _;simpa using this
 rw[Y7];have:∀m,Hn B r (fun _=>false) m=B:=by
  intro m
  induction m with
  | zero=>rfl
  | succ m ih=>exact ih
 rw[this];exact XE
end Go.AM
namespace Go.AM
open Go.RowKit
def MC(n:Nat)(o:Oper):Bool:=match o.dst with
 | some d=>Nat.blt d n
 | none=>true
def kQ(C:Ctx)(n:Nat):Code->Bool
 | .region _ ops draw=>ops.toList.all (MC n)&&(!draw||mh C ops)
 | .seq a b=>kQ C n a&&kQ C n b
 | .cond _ a b=>kQ C n a&&kQ C n b
 | .block _ c=>kQ C n c
 | .loop c=>kQ C n c
 | _=>true
def n_(f:AS->Prop)(K:Exit->AS->Prop):Exit->AS->Prop
 | .normal,s=>f s
 | e,s=>K e s
def Bk(id:Nat)(K:Exit->AS->Prop):Exit->AS->Prop
 | .exit i,s=>pR (cq i id) (K .normal s) (K (.exit i) s)
 | e,s=>K e s
def Ai(A:cD):Code->(Exit->AS->Prop)->AS->Prop
 | .skip,K,s=>K .normal s
 | .region _ ops draw,K,s=>match draw with
  | false=>pZ A.C ops.toList ops.toList (K .normal) s
  | true=>∃X,oS A.C (ops.toList.any fun o=>jI A.C o.op) X ops.toList (ji A.C (ops.toList.any fun o=>jI A.C o.op) ops) ops.toList (fun s'=>K .normal (Bj ops.toList s')) (yC ops.toList s)
 | .seq a b,K,s=>Ai A a (n_ (fun s'=>∃mN,au A s' mN/\Ai A b K mN) K) s
 | .cond c a b,K,s=>match ev s.t c with
  | .p (.im (.bool t))=>pR t (Ai A a K s) (Ai A b K s)
  | _=>False
 | .block id c,K,s=>Ai A c (Bk id K) s
 | .loop c,K,s=>∃(α:Type) (I:α->AS->Prop) (m:α->Nat),(∃x s',au A s s'/\I x s')/\∀x s,I x s->Ai A c (n_ (fun s'=>∃y mN,au A s' mN/\I y mN/\m y<m x) K) s
 | .exit id,K,s=>K (.exit id) s
 | .ret,K,s=>K .ret s
 | _,_,_=>False
theorem IA{n:Nat}{ops:Array Oper}(h:ops.toList.all (MC n)=true):∀o∈ops.toList,kP o n:=by
 intro o z d D;have:=abh.1 h o z;unfold MC at this;rw[D]at this;exact abA this
theorem Ka{A:cD}(hC:bI A.C):∀(c:Code) (K:Exit->AS->Prop) (s:AS),kQ A.C A.n c=true->Ai A c K s->W A c K s:=by
 intro c
 induction c with
 | skip=>intro K s _ h S rho a w D;exact wp_skip ⟨S,rho,s,D,h⟩
 | region id ops draw=>
  intro K s z h;simp only[kQ,aaZ]at z;cases draw with
  | false=>exact Mb hC (IA z.1) h
  | true=>exact Sb hC (by simpa using z.2) (IA z.1) h
 | seq a b J L=>
  intro K s z h;simp only[kQ,aaZ]at z;refine Uk ?_;refine Gy (J _ s z.1 h) fun e O hk=>?_;cases e with
  | normal=>
   obtain⟨R,N,hk⟩:=hk;exact fun S rho a w D=>by
    obtain⟨S',rho',U⟩:=N S rho a w D;exact L K R z.2 hk S' rho' a w U
  | exit id=>exact hk
  | goto l=>exact hk
  | ret=>exact hk
  | panic c=>exact hk
  | outgrown=>exact hk
 | cond c a b J L=>
  intro K s z h;simp only[kQ,aaZ]at z;simp only[Ai]at h;split at h
  ·rename_i t V;refine RX V (fun e=>J K s z.1 ?_) (fun e=>L K s z.2 ?_)
   ·rw[e]at h;exact h
   rw[e]at h;exact h
  exact h.elim
 | block id c ih=>
  intro K s z h;exact O2 (Gy (ih _ s z h) fun e O hk=>by cases e<;>exact hk)
 | loop c ih=>
  intro K s z h;obtain⟨α,I,m,Y,Z⟩:=h;refine RY I m Y fun x s hi=>?_;exact Gy (ih _ s z (Z x s hi)) fun e O hk=>by cases e<;>exact hk
 | exit id=>intro K s _ h S rho a w D;exact wp_exit ⟨S,rho,s,D,h⟩
 | ret=>intro K s _ h S rho a w D;exact wp_ret ⟨S,rho,s,D,h⟩
 | rangeFunc=>intro K s _ h;exact h.elim
 | scope=>intro K s _ h;exact h.elim
 | label=>intro K s _ h;exact h.elim
 | goto=>intro K s _ h;exact h.elim
 | refuse=>intro K s _ h;exact h.elim
def oT{α:Type}:List (Nat×α)->(Nat->α)->Nat->α
 | [],t=>t
 | (i,v)::r,t=>aT (oT r t) i v
def mU{α:Type}:List (Nat×α)->(Nat->α)->Prop
 | [],_=>True
 | (i,v)::r,t=>t i=v/\mU r t
theorem tJ{α:Type}:∀(l:List (Nat×α)) (t:Nat->α),mU l t->oT l t=t:=by
 intro l
 induction l with
 | nil=>intro t _;rfl
 | cons p l ih=>
  intro t h;obtain⟨i,v⟩:=p;show aT (oT l t) i v=t;rw[ih t h.2];exact jf _ _ _ h.1
theorem Pc{A:cD}{c:Code}{K:Exit->AS->Prop}{s:AS}{α:Type}(R:α->Prop)(I:α->List (Nat×AV))(J:α->List (Nat×AB))(m:α->Nat)(x0:α)(s0:AS)(Y:au A s s0)(Z:R x0)(ht:mU (I x0) s0.t)(hh:mU (J x0) s0.h)
  (D:∀x,R x->∀t h,Ai A c (n_ (fun L=>∃y z,au A L z/\R y/\m y<m x/\mU (I y) z.t/\mU (J y) z.h) K) ⟨oT (I x) t,oT (J x) h⟩):Ai A (.loop c) K s:=by
 refine⟨α,fun x s=>R x/\mU (I x) s.t/\mU (J x) s.h,m,⟨x0,s0,Y,Z,ht,hh⟩,fun x s ⟨h1,h2,h3⟩=>?_⟩;have:=D x h1 s.t s.h;rw[tJ _ _ h2,tJ _ _ h3]at this;have e:(n_ (fun L=>∃y z,au A L z/\R y/\m y<m x/\mU (I y) z.t/\mU (J y) z.h) K)=(n_ (fun L=>∃y z,au A L z/\(R y/\mU (I y) z.t/\mU (J y) z.h)/\m y<m x) K):=by
  funext e L;cases e<;>try rfl
  apply propext;constructor
  ·rintro⟨y,z,N,O,U,V,W⟩;exact⟨y,z,N,⟨O,V,W⟩,U⟩
  rintro⟨y,z,N,⟨O,V,W⟩,U⟩;exact⟨y,z,N,O,U,V,W⟩
 rw[<-e];exact this
end Go.AM
namespace Go.AM
open Go.RowKit
def wq(l:List (Nat×TI))(t:TypeId):Option TI:=match l with
 | []=>none
 | (i,ti)::r=>match Nat.beq i t with
  | true=>some ti
  | false=>wq r t
theorem rj{t:TypeId}{z:TI}:∀{l:List (Nat×TI)},wq l t=some z->(t,z)∈l:=by
 intro l
 induction l with
 | nil=>intro h;cases h
 | cons p l ih=>
  intro h;obtain⟨i,WG⟩:=p;unfold wq at h;split at h
  ·rename_i e;have:=aa2 e;subst this;injection h with h;subst h;exact adU ..
  exact aaw _ (ih h)
def MD:Value->Value->Bool
 | .int k n,.int k' n'=>kB k k'&&decide (n=n')
 | .bool b,.bool b'=>b==b'
 | .string s,.string s'=>s.data.toList==s'.data.toList
 | .slice none a b,.slice none a' b'=>Nat.beq a a'&&Nat.beq b b'
 | .pointer none,.pointer none=>true
 | .map none,.map none=>true
 | .nilFunc,.nilFunc=>true
 | .nilIface,.nilIface=>true
 | _,_=>false
theorem ME{v u:Value}(h:MD v u=true):v=u:=by
 unfold MD at h;split at h
 ·simp only[aaZ,aaH]at h;rw[Ig h.1,h.2]
 ·rw[eq_of_beq h]
 ·have:=eq_of_beq h;congr 1;exact ByteArray.ext (adR this)
 ·simp only[aaZ]at h;rw[aa2 h.1,aa2 h.2]
 ·rfl
 ·rfl
 ·rfl
 ·rfl
 cases h
def CG:List Value->List Value->Bool
 | [],[]=>true
 | v::r,u::s=>MD v u&&CG r s
 | _,_=>false
theorem Kb:∀{a b:List Value},CG a b=true->a=b:=by
 intro a
 induction a with
 | nil=>intro b h;cases b with | nil=>rfl | cons=>cases h
 | cons v r ih=>
  intro b h;cases b with
  | nil=>cases h
  | cons u s=>
   simp only[CG,aaZ]at h;rw[ME h.1,ih h.2]
def Uy:TypeDesc->Bool
 | .struct _ | .array _ _=>true
 | _=>false
def xF(P:Program):List (Nat×Nat×Bool)->List Field->Bool
 | [],[]=>true
 | f::r,g::s=>Nat.beq f.1 g.offset&&!Nat.beq f.2.1 0&&(match P.info? g.type with
  | some i=>Nat.beq i.size f.2.1
  | none=>false)&&(match P.underlying g.type with
  | some d=>Uy d==f.2.2
  | none=>false)&&xF P r s
 | _,_=>false
def Y8(P:Program)(t:TypeId)(ti:TI):Bool:=match ti.ud,P.underlying t with
 | .sc,some .bool=>true
 | .sc,some d=>!Uy d&&!ti.eq
 | .int k,some (.int k')=>kB k k'
 | .st fs,some (.struct gs)=>xF P fs gs.toList
 | .sl e,some (.slice e')=>Nat.beq e e'
 | .mp k e,some (.map k' e')=>Nat.beq k k'&&Nat.beq e e'
 | .str,some .string=>true
 | _,_=>false
def Wd(P:Program)(p:Nat×TI):Bool:=match P.info? p.1 with
 | some info=>Nat.beq info.size p.2.size&&Nat.beq info.bytes p.2.bytes&&(match info.zero with
  | some z=>CG z.cells.toList p.2.zero
  | none=>false)&&Nat.beq p.2.zero.length p.2.size&&p.2.zero.all Value.oneCell'&&Y8 P p.1 p.2
 | none=>false
theorem CH{P:Program}:∀{fs:List (Nat×Nat×Bool)} {gs:List Field},xF P fs gs=true->fs.length=gs.length/\∀(i:Nat) f g,fs[i]?=some f->gs[i]?=some g->f.1=g.offset/\f.2.1≠0/\(∃L,P.info? g.type=some L/\L.size=f.2.1)/\
  (∃d,P.underlying g.type=some d/\f.2.2=(match d with | .struct _ | .array _ _=>true | _=>false)):=by
 intro fs
 induction fs with
 | nil=>intro gs h;cases gs with | nil=>exact⟨rfl,by simp⟩ | cons=>cases h
 | cons f r ih=>
  intro gs h;cases gs with
  | nil=>cases h
  | cons g s=>
   simp only[xF,aaZ]at h;obtain⟨⟨⟨⟨O,N⟩,z⟩,D⟩,R⟩:=h;obtain⟨U,V⟩:=ih R;refine⟨by simp[U],fun i W Y I J=>?_⟩;cases i with
   | succ i=>exact V i W Y (by simpa using I) (by simpa using J)
   | zero=>
    simp at I J;subst I J;refine⟨aa2 O,(fun e=>by rw[e]at N;cases N),?_,?_⟩
    ·split at z
     ·rename_i i hi;exact⟨i,hi,aa2 z⟩
     cases z
    split at D
    ·rename_i d Z;refine⟨d,Z,?_⟩;rw[<-eq_of_beq D];cases d<;>rfl
    cases D
theorem Sd{P:Program}{t:TypeId}{N:TI}(h:Wd P (t,N)=true):nV P t N:=by
 unfold Wd at h;split at h
 ·rename_i info hi;simp only[aaZ]at h;obtain⟨⟨⟨⟨⟨O,R⟩,L⟩,U⟩,V⟩,I⟩:=h;split at L
  ·rename_i z W;refine⟨info,z,hi,aa2 O,aa2 R,W,?_,aa2 U,fun v Y=>abh.1 V v Y,?_⟩
   ·rw[<-Kb L]
   simp only[Y8]at I;split at I
   ·rename_i J D;rw[J];exact⟨⟨_,D,trivial⟩,fun _=>D⟩
   ·rename_i d b8 J D;rw[J];simp only[aaZ]at I;refine⟨⟨d,D,?_⟩,fun e=>?_⟩
    ·cases d<;>first | trivial | (cases I.1;done)
    rw[e]at I;cases I.2
   ·rename_i J D;rw[J,D,Ig I]
   ·rename_i fs gs J D;rw[J];obtain⟨Z,T8⟩:=CH I;exact⟨gs,D,by simpa using Z,fun i f g hf hg=>T8 i f g hf (by simpa using hg)⟩
   ·rename_i J D;rw[J,D,aa2 I]
   ·rename_i J D;simp only[aaZ]at I;rw[J,D,aa2 I.1,aa2 I.2]
   ·rename_i J D;rw[J,D]
   cases I
  cases L
 cases h
def XF(P:Program)(p:Nat×TI):Bool:=match P.info? p.1 with
 | some info=>match info.zero with
  | some z=>Lr z==p.2.ud.agg
  | none=>false
 | none=>false
theorem Uz{P:Program}{l:List (Nat×TI)}(h:l.all (XF P)=true):∀t D,wq l t=some D->F8 P t D:=fun t D I=>by
 have:=abh.1 h _ (rj I);unfold XF at this;split at this
 ·rename_i info hi;split at this
  ·rename_i z J;exact⟨info,z,hi,J,eq_of_beq this⟩
  cases this
 cases this
theorem Se{P:Program}{l:List (Nat×TI)}(h:l.all (Wd P)=true):∀t z,wq l t=some z->nV P t z:=fun _ _ D=>Sd (abh.1 h _ (rj D))
def Ou:Option TypeDesc->Value->Bool
 | some (.int _),.int _ _=>true
 | some .string,.string _=>true
 | some .bool,.bool _=>true
 | _,_=>false
def mi(P:Program):Nat->List Field->List Value->Bool
 | _,[],[]=>true
 | i, g :: r, z :: s => Ou (P.underlying g.type) z && Nat.beq g.offset i && g.name != "_" && mi P (i + 1) r s
 | _,_,_=>false
def yE(P:Program):Nat->List Field->List Value->Bool
 | _,[],[]=>true
 | _,[],_::_=>false
 | i, g :: r, zs => g.name != "_" && Nat.beq g.offset i && match P.underlying g.type with
  | some (.struct hs)=>(match P.info? g.type with
   | some inf=>Nat.beq inf.size hs.size
   | none=>false)&&!P.stoodInHeld g.type&&mi P 0 hs.toList (zs.take hs.size)&&yE P (i+hs.size) r (zs.drop hs.size)
  | _=>match zs with
   | z::s=>Ou (P.underlying g.type) z&&yE P (i+1) r s
   | []=>false
def Sf(P:Program)(p:Nat×TI):Bool:=match p.2.eq,p.2.ud with
 | true,.st _=>(match P.underlying p.1 with
  | some (.struct gs)=>yE P 0 gs.toList p.2.zero&&Nat.beq p.2.zero.length p.2.size
  | _=>false)&&!P.stoodInHeld p.1&&!P.eqGuardType P.depth p.1
 | _,_=>true
theorem kE{P:Program}{w:World}{t:TypeId}{z:Value}(h:Ou (P.underlying t) z=true){xs:Array Value}{i:Nat}{v:Value}(D:xs[i]?=some v):(part t xs i).run P w=.ok v w:=by
 have:(isAgg t).run P w=.ok false w:=by
  rw[Go.isAgg,aau];unfold Ou at h;split at h<;>first
   | (rename_i I;rw[run_underlying I];rfl)
   | cases h
 simp[part,this,D]
theorem CI{a b:ByteArray}(h:a.toList=b.toList):a=b:=by
 rw[ByteArray.toList_eq,ByteArray.toList_eq]at h;obtain⟨⟨x⟩⟩:=a;obtain⟨⟨y⟩⟩:=b;simpa using h
theorem Pd{o:Option TypeDesc}{k:IntKind}{n:Int}(h:Ou o (.int k n)=true):∃j,o=some (.int j):=by
 cases o with
 | none=>cases h
 | some d=>cases d<;>first | exact⟨_,rfl⟩ | cases h
theorem Pe{o:Option TypeDesc}{x:ByteArray}(h:Ou o (.string x)=true):o=some .string:=by
 cases o with
 | none=>cases h
 | some d=>cases d<;>first | rfl | cases h
theorem MF{o:Option TypeDesc}{x:Bool}(h:Ou o (.bool x)=true):o=some .bool:=by
 cases o with
 | none=>cases h
 | some d=>cases d<;>first | rfl | cases h
theorem tK{P:Program}{t:TypeId}{z:Value}{zs:List Value}{x:PV}{a b:List PV}{r:Bool}(hk:Ou (P.underlying t) z=true)(h:bM (z::zs) (x::a) b=some r):∃u v s c r',x=.im u/\b=.im v::s/\bM zs a s=some r'/\r=(c&&r')/\∀d w,(Op.equalIn (d+1) t u v).run P w=.ok c w:=by
 cases b with
 | nil=>cases z<;>cases x<;>simp[bM]at h
 | cons y b=>
  unfold bM at h;split at h
  ·rename_i D I J;cases D
  ·rename_i D I J;injection D with D L;injection I with I N;injection J with J h3';subst D L I N J h3';split at h
   ·rename_i V;have:=Ig V;subst this;obtain⟨r',O,R⟩:=acq.1 h;obtain⟨j,U⟩:=Pd hk;refine⟨_,_,_,_,r',rfl,rfl,O,R.symm,fun d w=>?_⟩;rw[run_equalIn_int (P:=P) w d t _ j _ _ U];congr 1
   cases h
  ·rename_i D I J;injection D with D L;injection I with I N;injection J with J h3';subst D L I N J h3';obtain⟨r',O,R⟩:=acq.1 h;have U:=Pe hk;refine⟨_,_,_,_,r',rfl,rfl,O,R.symm,fun d w=>?_⟩;rw[run_equalIn_string (P:=P) w d t _ _ U];congr 1;rw[abb,beq_iff_eq,decide_eq_true_iff];exact⟨fun e=>CI e,fun e=>by rw[e]⟩
  ·rename_i D I J;injection D with D L;injection I with I N;injection J with J h3';subst D L I N J h3';obtain⟨r',O,R⟩:=acq.1 h;have U:=MF hk;refine⟨_,_,_,_,r',rfl,rfl,O,R.symm,fun d w=>?_⟩;rw[run_equalIn_bool' (P:=P) w d t _ _ U];congr 1
  cases h
theorem rS{P:Program}{w:World}(d:Nat)(xs ys:Array Value):∀(gs:List Field) (zs:List Value) (i:Nat) (a b:List PV) (r:Bool),mi P i gs zs=true->gs.length=a.length->(∀(j:Nat) x,a[j]?=some x->∃v,xs[i+j]?=some v/\x=.im v)->(∀(j:Nat) x,b[j]?=some x->∃v,ys[i+j]?=some v/\x=.im v)->bM zs a b=some r ->
  (Op.eqFields (d+1) xs ys gs).run P w=.ok r w:=by
 intro gs
 induction gs with
 | nil=>
  intro zs i a b r hi hl _ _ he;have:a=[]:=adl hl.symm;subst this;cases zs with
  | nil=>cases b with
   | nil=>simp[bM]at he;subst he;rfl
   | cons y b=>simp[bM]at he
  | cons z zs=>simp[mi]at hi
 | cons g gs ih=>
  intro zs i a b r hi hl ha hb he;cases a with
  | nil=>simp at hl
  | cons x a=>cases zs with
   | nil=>simp[mi]at hi
   | cons z zs=>
    simp only[mi,aaZ]at hi;obtain⟨⟨⟨h1,h2⟩,h3⟩,h4⟩:=hi;have h2:=aa2 h2
    have wj : g.name ≠ "_" := by simpa using h3
    obtain⟨u,v,s1,c,r',rfl,rfl,m_,rfl,p3⟩:=tK h1 he;obtain⟨v',hv,Sg⟩:=ha 0 _ rfl;obtain⟨u',qa,Sh⟩:=hb 0 _ rfl;injection Sg with Sg;injection Sh with Sh;subst Sg Sh;have p1:=kE (w:=w) h1 (xs:=xs) (i:=g.offset) (by rw[h2];simpa using hv);have p2:=kE (w:=w) h1 (xs:=ys) (i:=g.offset) (by rw[h2];simpa using qa);have rest:=ih zs (i+1) a s1 r' h4 (by simpa using hl) (fun j x hx=>by obtain⟨v,q1,q2⟩:=ha (j+1) x (by simpa using hx);exact⟨v,by rw[<-q1];congr 1;omega,q2⟩) (fun j x hx=>by obtain⟨v,q1,q2⟩:=hb (j+1) x (by simpa using hx);exact⟨v,by rw[<-q1];congr 1;omega,q2⟩) m_;simp only[Op.eqFields,aap wj,aau,p1,p2,p3,ab5];cases c with
    | true=>
     simp only[aaR,acO,if_false,adr];exact rest
    | false=>simp
theorem CJ{z:Value}{zs:List Value}{a b:List PV}{r:Bool}(h:bM (z::zs) a b=some r):∃x a' y b' c r',a=x::a'/\b=y::b'/\bM zs a' b'=some r'/\r=(c&&r')/\∀L N O R,bM L N O=some R->bM (z::L) (x::N) (y::O)=some (c&&R):=by
 cases a with
 | nil=>cases z<;>simp[bM]at h
 | cons x a=>cases b with
  | nil=>cases z<;>cases x<;>simp[bM]at h
  | cons y b=>
   unfold bM at h;split at h
   ·rename_i D _ _;cases D
   ·rename_i D I J;injection D with D U;injection I with I V;injection J with J h3';subst D U I V J h3';split at h
    ·rename_i Qt;obtain⟨r',W,Y⟩:=acq.1 h;exact⟨_,_,_,_,_,r',rfl,rfl,W,Y.symm,fun L N O R Z=>by simp only[bM,Qt,Z,ab6]⟩
    cases h
   ·rename_i D I J;injection D with D U;injection I with I V;injection J with J h3';subst D U I V J h3';obtain⟨r',W,Y⟩:=acq.1 h;exact⟨_,_,_,_,_,r',rfl,rfl,W,Y.symm,fun L N O R Z=>by simp only[bM,Z,ab6]⟩
   ·rename_i D I J;injection D with D U;injection I with I V;injection J with J h3';subst D U I V J h3';obtain⟨r',W,Y⟩:=acq.1 h;exact⟨_,_,_,_,_,r',rfl,rfl,W,Y.symm,fun L N O R Z=>by simp only[bM,Z,ab6]⟩
   cases h
theorem wu:∀{D I:List Value} {a b:List PV} {r:Bool},bM (D++I) a b=some r->∃J N L O R U,a=J++N/\b=L++O/\J.length=D.length/\L.length=D.length/\bM D J L=some R/\bM I N O=some U/\r=(R&&U)
 | [],I,a,b,r,h=>⟨[],a,[],b,true,r,rfl,rfl,rfl,rfl,rfl,h,rfl⟩
 | z::D,I,a,b,r,h=>by
  obtain⟨x,a',y,b',c,r',rfl,rfl,V,rfl,W⟩:=CJ (zs:=D++I) h;obtain⟨J,N,L,O,R,U,rfl,rfl,l1,l2,Y,Z,rfl⟩:=wu V;exact⟨x::J,N,y::L,O,c&&R,U,rfl,rfl,by simp[l1],by simp[l2],W _ _ _ _ Y,Z,(adw _ _ _).symm⟩
theorem vo{P:Program}:∀{gs:List Field} {z:List Value} {i:Nat},mi P i gs z=true->gs.length=z.length
 | [],[],_,_=>rfl
 | [],_::_,_,h=>by simp[mi]at h
 | _::_,[],_,h=>by simp[mi]at h
 | g::gs,c::z,i,h=>by
  simp only[mi,aaZ]at h;simp[vo h.2]
theorem CL{P:Program}{w:World}(d:Nat)(xs ys:Array Value):∀(gs:List Field) (zs:List Value) (i:Nat) (a b:List PV) (r:Bool),yE P i gs zs=true->(∀(j:Nat) x,a[j]?=some x->∃v,xs[i+j]?=some v/\x=.im v)->(∀(j:Nat) x,b[j]?=some x->∃v,ys[i+j]?=some v/\x=.im v)->bM zs a b=some r ->
  (Op.eqFields (d+3) xs ys gs).run P w=.ok r w:=by
 intro gs
 induction gs with
 | nil=>
  intro zs i a b r hi _ _ he;cases zs with
  | nil=>
   cases a with
   | nil=>cases b with
    | nil=>simp[bM]at he;subst he;rfl
    | cons y b=>simp[bM]at he
   | cons x a=>simp[bM]at he
  | cons z zs=>simp[yE]at hi
 | cons g gs ih=>
  intro zs i a b r hi ha hb he;unfold yE at hi;simp only[aaZ]at hi;obtain⟨⟨h3,h2⟩,hi⟩:=hi;have h2:=aa2 h2
  have wj : g.name ≠ "_" := by simpa using h3
  split at hi
  ·rename_i hs tv;simp only[aaZ]at hi;obtain⟨⟨⟨h5,h6⟩,h7⟩,h8⟩:=hi;have h6:P.stoodInHeld g.type=false:=by simpa using h6
   split at h5
   ·rename_i inf XG;have h5:=aa2 h5;have hl:=vo h7;rw[abj]at hl;rw[<-aaU hs.size zs]at he;obtain⟨a1,a2,b1,b2,r1,r2,rfl,rfl,l1,l2,k1,k2,rfl⟩:=wu he;rw[<-hl]at l1 l2;have cut:∀(us:Array Value) (c1 c2:List PV),c1.length=hs.size->(∀(j:Nat) x,(c1++c2)[j]?=some x->∃v,us[i+j]?=some v/\x=.im v)->(part g.type us g.offset).run P w=.ok (.agg (us.extract i (i+hs.size))) w/\(∀(j:Nat) x,c1[j]?=some x->∃v,(us.extract i (i+hs.size))[0+j]?=some v/\x=.im v)/\∀(j:Nat) x,c2[j]?=some x->∃v,us[i+hs.size+j]?=some v/\x=.im v:=by
     intro us c1 c2 hc hu;refine⟨?_,fun j x hx=>?_,fun j x hx=>?_⟩
     ·have e1:(isAgg g.type).run P w=.ok true w:=by
       rw[Go.isAgg,aau,run_underlying tv];rfl
      have e2:(sizeOf g.type).run P w=.ok hs.size w:=by
       simp[Go.sizeOf,typeInfo,XG,h5]
      simp[part,e1,e2,h2]
     ·have hj:j<hs.size:=by rw[<-hc];exact aD hx
      obtain⟨v,q1,q2⟩:=hu j x (by rw[aaE (by omega)];exact hx);exact⟨v,by rw[Array.getElem?_extract,aap (by have:=(ab9.1 q1).1;omega),abC];exact q1,q2⟩
     obtain⟨v,q1,q2⟩:=hu (hs.size+j) x (by rw[acu (by omega),<-hx];congr 1;omega);exact⟨v,by rw[<-q1];congr 1;omega,q2⟩
    obtain⟨p1,m1,n1⟩:=cut xs a1 a2 l1 ha;obtain⟨p2,m2,n2⟩:=cut ys b1 b2 l2 hb;have hf:P.fieldsOf g.type=hs:=by simp[Program.fieldsOf,tv]
    have p3:(Op.equalIn (d+3) g.type (.agg (xs.extract i (i+hs.size))) (.agg (ys.extract i (i+hs.size)))).run P w=.ok r1 w:=by
     rw[run_equalIn_struct w (d+2) g.type _ _ (by rw[hf];exact tv) h6,hf];exact rS (d+1) _ _ hs.toList _ 0 a1 b1 r1 h7 (by rw[abj,l1]) m1 m2 k1
    have rest:=ih (zs.drop hs.size) (i+hs.size) a2 b2 r2 h8 n1 n2 k2;simp only[Op.eqFields,aap wj,aau,p1,p2,p3,ab5];cases r1 with
    | true=>
     simp only[aaR,acO,if_false,adr];exact rest
    | false=>simp
   cases h5
  split at hi
  ·rename_i z zs;simp only[aaZ]at hi;obtain⟨h1,h4⟩:=hi;cases a with
   | nil=>cases z<;>simp[bM]at he
   | cons x a=>
    obtain⟨u,v,s1,c,r',rfl,rfl,m_,rfl,p3⟩:=tK h1 he;obtain⟨v',hv,Sg⟩:=ha 0 _ rfl;obtain⟨u',qa,Sh⟩:=hb 0 _ rfl;injection Sg with Sg;injection Sh with Sh;subst Sg Sh;have p1:=kE (w:=w) h1 (xs:=xs) (i:=g.offset) (by rw[h2];simpa using hv);have p2:=kE (w:=w) h1 (xs:=ys) (i:=g.offset) (by rw[h2];simpa using qa);have rest:=ih zs (i+1) a s1 r' h4 (fun j x hx=>by obtain⟨v,q1,q2⟩:=ha (j+1) x (by simpa using hx);exact⟨v,by rw[<-q1];congr 1;omega,q2⟩) (fun j x hx=>by obtain⟨v,q1,q2⟩:=hb (j+1) x (by simpa using hx);exact⟨v,by rw[<-q1];congr 1;omega,q2⟩) m_;simp only[Op.eqFields,aap wj,aau,p1,p2,p3,ab5];cases c with
    | true=>
     simp only[aaR,acO,if_false,adr];exact rest
    | false=>simp
  cases hi
variable {gs:Array Field}
theorem Kc{P:Program}{t:TypeId}{zs:List Value}(D:P.underlying t=some (.struct gs))(N:P.stoodInHeld t=false)(O:yE P 0 gs.toList zs=true){a b:List PV}{r:Bool}(R:bM zs a b=some r)(xs ys:Array Value)(w:World)
  (U:∀(i:Nat) x v,a[i]?=some x->xs[i]?=some v->x=.im v) (hb:∀(i:Nat) x v,b[i]?=some x->ys[i]?=some v->x=.im v) (V:a.length=xs.size) (W:b.length=ys.size):(Op.equal t (.agg xs) (.agg ys)).run P w=.ok r w:=by
 have I:P.fieldsOf t=gs:=by simp[Program.fieldsOf,D]
 have z:∀(l:List PV) (zs:Array Value),l.length=zs.size->(∀(i:Nat) x v,l[i]?=some x->zs[i]?=some v->x=.im v)->∀(j:Nat) x,l[j]?=some x->∃v,zs[0+j]?=some v/\x=.im v:=by
  intro l zs hl Y j x J;obtain⟨v,L⟩:=jG hl (aD J);exact⟨v,by rw[abC];exact L,Y j x v J L⟩
 have key:=CL (P:=P) (w:=w) 9996 xs ys gs.toList zs 0 a b r O (z a xs V U) (z b ys W hb) R;show (Op.equalIn (9999+1) t (.agg xs) (.agg ys)).run P w=_;rw[run_equalIn_struct w 9999 t xs ys (by rw[I];exact D) N,I];exact key
theorem Eg{P:Program}{t:TypeId}{zs:List Value}(D:P.underlying t=some (.struct gs))(N:P.stoodInHeld t=false)(O:mi P 0 gs.toList zs=true){a b:List PV}{r:Bool}(R:bM zs a b=some r)(xs ys:Array Value)(w:World)
  (U:∀(i:Nat) x v,a[i]?=some x->xs[i]?=some v->x=.im v) (hb:∀(i:Nat) x v,b[i]?=some x->ys[i]?=some v->x=.im v) (V:a.length=xs.size) (W:b.length=ys.size) (hsz:gs.size=a.length):(Op.equal t (.agg xs) (.agg ys)).run P w=.ok r w:=by
 have I:P.fieldsOf t=gs:=by simp[Program.fieldsOf,D]
 have z:∀(l:List PV) (zs:Array Value),l.length=zs.size->(∀(i:Nat) x v,l[i]?=some x->zs[i]?=some v->x=.im v)->∀(j:Nat) x,l[j]?=some x->∃v,zs[0+j]?=some v/\x=.im v:=by
  intro l zs hl Y j x J;obtain⟨v,L⟩:=jG hl (aD J);exact⟨v,by rw[abC];exact L,Y j x v J L⟩
 have key:=rS (P:=P) (w:=w) 9998 xs ys gs.toList zs 0 a b r O (by simp;omega) (z a xs V U) (z b ys W hb) R;show (Op.equalIn (9999+1) t (.agg xs) (.agg ys)).run P w=_;rw[run_equalIn_struct w 9999 t xs ys (by rw[I];exact D) N,I];exact key
theorem Sj{P:Program}{l:List (Nat×TI)}(h:l.all (Sf P)=true):∀t z op a b r,wq l t=some z->z.eq=true->(∃fs,z.ud=.st fs)->bM z.zero a b=some r->∀(xs ys:Array Value) w,(∀(i:Nat) x v,a[i]?=some x->xs[i]?=some v->x=.im v)->(∀(i:Nat) x v,b[i]?=some x->ys[i]?=some v->x=.im v)->
  a.length=xs.size->b.length=ys.size->z.size=a.length->(op=.eql\/op=.neq)->∀(x y:Operand),(do eqGuard op t x y (.agg xs) (.agg ys);binOp op t (.agg xs) (.agg ys):Sem Value).run P w=.ok (.bool (if op=.eql then r else !r)) w:=by
 intro t z op a b r O R ⟨fs,U⟩ hcells xs ys w ha hb V W hsz N x y;have:=abh.1 h _ (rj O);unfold Sf at this;simp only[R,U,aaZ]at this;obtain⟨⟨I,J⟩,L⟩:=this;have J:P.stoodInHeld t=false:=by simpa using J
 have L:P.eqGuardType P.depth t=false:=by simpa using L
 split at I
 ·rename_i gs Y;simp only[aaZ]at I;obtain⟨Z,_⟩:=I;have D:=Kc Y J Z hcells xs ys w ha hb V W;have Sk:(eqGuard op t x y (.agg xs) (.agg ys)).run P w=.ok () w:=by
   rcases N with rfl | rfl<;>simp[eqGuard,L]
  rw[aau,Sk,ab5];rcases N with rfl | rfl
  ·simp[binOp,D]
  simp[binOp,D]
 cases I
def Sl(P:Program)(p:Nat×TI):Bool:=match Al p.2 with
 | some (.st _)=>(match P.underlying p.1 with
  | some (.struct gs)=>mi P 0 gs.toList p.2.zero
  | _=>false)&&!P.stoodInHeld p.1
 | _=>true
theorem Pf:∀{z:List Value} {sh:List Nat} {a b:List Value},Cb z=some sh->ae4 sh a->ae4 sh b->bM z (a.map .im) (b.map .im)=some (DN a b):=by
 intro z
 induction z with
 | nil=>
  intro sh a b h D hb;injection h with h;subst h;cases a<;>cases b<;>first
   | rfl
   | exact D.elim
   | exact hb.elim
 | cons c z ih=>
  intro sh a b h D hb;unfold Cb at h;split at h
  ·rename_i I;cases I
  all_goals first
   | (
     rename_i I;injection I with I N;subst I N;obtain⟨s,O,rfl⟩:=acq.1 h;cases a with
     | nil=>exact D.elim
     | cons x a=>cases b with
      | nil=>exact hb.elim
      | cons y b=>
       have J:=D.1;have L:=hb.1;cases x<;>first | (exact J.elim) | skip
       cases y<;>first | (exact L.elim) | skip
       have:=ih O D.2 hb.2
       first
        | (simp only[aa8,bM,this,ab6,DN,Jq];done)
        | (
         have e1:_=IntKind.i64:=J;have e2:_=IntKind.i64:=L;subst e1 e2;simp only[aa8,bM,this,ab6,DN,Jq,kB];done))
   | cases h
theorem nk:∀{sh:List Nat} {a:List Value},ae4 sh a->a.length=sh.length
 | [],[],_=>rfl
 | [],_::_,h=>h.elim
 | _::_,[],h=>h.elim
 | _::_,_::_,h=>by simp[nk h.2]
theorem MG:∀{z:List Value} {sh:List Nat},Cb z=some sh->z.length=sh.length:=by
 intro z
 induction z with
 | nil=>intro sh h;injection h with h;subst h;rfl
 | cons c z ih=>
  intro sh h;unfold Cb at h;split at h
  ·rename_i D;cases D
  all_goals first
   | (
     rename_i D;injection D with D I;subst D I;obtain⟨s,J,rfl⟩:=acq.1 h;simp[ih J];done)
   | cases h
theorem Eh{P:Program}{t:TypeId}{z:Value}(h:Ou (P.underlying t) z=true)(e:Bool)(n:Nat)(w:World)(v:Value):(Instr.checkKey e (n+1) t v).run P w=.ok () w:=by
 unfold Ou at h;split at h
 all_goals first
  | (rename_i D;cases v<;>simp[Instr.checkKey,run_underlying D];done)
  | cases h
theorem CM{P:Program}(e:Bool)(n:Nat)(w:World)(xs:Array Value):∀(gs:List Field) (zs:List Value) (i:Nat),mi P i gs zs=true->(∀j,j<gs.length->∃v,xs[i+j]?=some v)->(forIn gs PUnit.unit fun f _=>(do
   if f.name ≠ "_" then Instr.checkKey e (n + 1) f.type (← part f.type xs f.offset)
   pure (ForInStep.yield PUnit.unit):Sem (ForInStep PUnit))).run P w=.ok PUnit.unit w:=by
 intro gs
 induction gs with
 | nil=>intro zs i _ _;rfl
 | cons g gs ih=>
  intro zs i hi hx;cases zs with
  | nil=>simp[mi]at hi
  | cons z zs=>
   simp only[mi,aaZ]at hi;obtain⟨⟨⟨h1,h2⟩,h3⟩,h4⟩:=hi;have h2:=aa2 h2
   have wj : g.name ≠ "_" := by simpa using h3
   obtain⟨v,hv⟩:=hx 0 (by simp);have p1:=kE (w:=w) h1 (xs:=xs) (i:=g.offset) (by rw[h2];simpa using hv);have rest:=ih zs (i+1) h4 fun j hj=>by obtain⟨v,q⟩:=hx (j+1) (by simpa using hj);exact⟨v,by rw[<-q];congr 1;omega⟩
   simp only[List.forIn_cons,aap wj,aau,p1,Eh h1,ab5,aa6];exact rest
theorem CN{P:Program}{kt:TypeId}(tv:P.underlying kt=some (.struct gs))(e:Bool)(n:Nat)(w:World)(xs:Array Value):(Instr.checkKey e (n+1) kt (.agg xs)).run P w=((forIn gs.toList PUnit.unit fun f _=>(do
   if f.name ≠ "_" then Instr.checkKey e n f.type (← part f.type xs f.offset)
   pure (ForInStep.yield PUnit.unit):Sem (ForInStep PUnit))).run P w).andThen fun _ w'=>.ok () w':=by
 simp only[Instr.checkKey,aau,run_underlying tv,ab5,<-Array.forIn_toList];rfl
theorem Pg{P:Program}{l:List (Nat×TI)}(h:l.all (Sl P)=true):∀D I sh,wq l D=some I->Al I=some (.st sh)->Ls P D (.st sh):=by
 intro D I sh Z z;have:=abh.1 h _ (rj Z);unfold Sl at this;simp only[z,aaZ]at this;obtain⟨J,R⟩:=this;have R:P.stoodInHeld D=false:=by simpa using R
 have L:Cb I.zero=some sh:=by
  unfold Al at z;split at z<;>first
   | (cases z;done)
   | skip
  all_goals (split at z)
  all_goals first
   | (cases z;done)
   | (obtain⟨s,hs,e⟩:=acq.1 z;injection e with e;subst e;exact hs)
 split at J
 ·rename_i gs U;have hlen:gs.size=sh.length:=by have:=vo J;rw[MG L]at this;simpa using this
  refine⟨fun e k w hk=>?_,fun k w N hk W=>?_⟩
  ·cases k<;>first | (exact hk.elim) | skip
   rename_i xs;have hl:=nk (sh:=sh) hk;have hl:xs.size=sh.length:=by simpa using hl
   have:=CM e 9998 w xs gs.toList I.zero 0 J fun j hj=>⟨xs[j]'(by simp at hj;omega),by rw[abC];exact aa1 _⟩;exact (CN U e 9999 w xs).trans (by rw[this];rfl)
  rw[run_findKey_eq w (by rw[U]) k N];show (Instr.findAsking D k N 0).run P w=.ok (rM k N 0) w;generalize 0=i
  induction N generalizing i with
  | nil=>rfl
  | cons m N ih=>
   have V:=W m adU;cases k<;>first | (exact hk.elim) | skip
   rename_i xs;obtain⟨mk,mv,mb⟩:=m;cases mk<;>first | (exact V.elim) | skip
   rename_i ys;have hlx:xs.size=sh.length:=by simpa using nk (sh:=sh) hk
   have hly:ys.size=sh.length:=by simpa using nk (sh:=sh) V
   have Y:∀(zs:Array Value) (i:Nat) x v,(zs.toList.map PV.im)[i]?=some x->zs[i]?=some v->x=.im v:=fun zs i x v O q2=>by
    rw[aak,aek,q2]at O;injection O with O;exact O.symm
   have:=Eg U R J (Pf (sh:=sh) L hk V) xs ys w (Y xs) (Y ys) (by simp) (by simp) (by simp;omega);unfold Instr.findAsking rM;simp only[aau,this,ab5,Ak];cases DN xs.toList ys.toList with
   | true=>rfl
   | false=>exact ih (fun x hx=>W x (aaw _ hx)) _
 cases J
end Go.AM
namespace Go.AM
open Go.RowKit
variable {A:cD}
theorem au.dk(hC:bI A.C)(s:AS)(d:Nat)(e:TypeId)(J:TI)(N:d<100000)(O:s.t d=.nl)(R:A.C.T e=some J)(hpos:0<J.size):
  au A s ⟨aT (gX d s).t d (.ow d),aT (gX d s).h d (.row e [])⟩:=by
 intro S rho a w D;have U:a.tmps.getD d undef=.slice none 0 0:=by
  have:=D.tm d trivial;rw[O]at this;generalize a.tmps.getD d undef=v at this;cases this;rfl
 have V:=D.free d (.row e []);obtain⟨info,z,W,h2,h3,h4,h5,h6,h7,h8⟩:=hC.iq e J R;have Y:=V.new hC d (.row e []) N (fun h=>h rfl) (aH _ _ _) w rfl rfl rfl (aam _) (fun _=>False) (fun _ _ _=>rfl) (fun _ h=>h.elim) (.slice none 0 0) (fun g Z=>by cases Z) fun T=>by
  show aG _ _ _ _ _ (aT rho d _ d);rw[aH];exact⟨info,[],W,by omega,⟨by simp,.inl ⟨rfl,rfl⟩⟩,by simp,by simp,by simp⟩
 have I:b7 A cE cE S (aT rho d (.slice none 0 0)) ⟨(gX d s).t,aT (gX d s).h d (.row e [])⟩ a w:=Y.qo (fun _ _=>trivial) (fun k=>⟨fun _=>by by_cases e:k=d;exact .inr e;exact .inl e,fun _=>trivial⟩);refine⟨S,_,{ I with tm:=fun j _=>?_ }⟩;by_cases L:j=d
 ·subst L;show aY _ _ _ _ _ _ (aT _ _ _ _) _;rw[aH];exact .ow j _ fun _=>⟨trivial,by rw[aH];exact U⟩
 show aY _ _ _ _ _ _ (aT _ _ _ _) _;rw[aV _ _ L];exact I.tm j trivial
theorem au.gD(hC:bI A.C)(s:AS)(d:Nat){y:PV}{fz:List (Nat×AB)}(h:AM.gD s.h (s.t d) fun D I=>D=y/\I=fz):au A s ⟨aT s.t d (.p y),app s.h fz⟩:=by
 intro S rho a w z;obtain⟨D,I,S',⟨rfl,rfl⟩,J,hp,hS,hF,_⟩:=ir hC z (h:=s.h) (fun _=>.inl rfl) (z.tm d trivial) h;refine⟨S',rho,{ J with tm:=fun j _=>?_ }⟩;by_cases L:j=d
 ·subst L;show aY _ _ _ _ _ _ (aT _ _ _ _) _;rw[aH];exact .p _ _ hp
 show aY _ _ _ _ _ _ (aT _ _ _ _) _;rw[aV _ _ L];exact J.tm j trivial
theorem au.nil(hC:bI A.C)(s:AS)(d:Nat)(h:s.t d=.nl):au A s ⟨aT s.t d (.p (.sl [])),s.h⟩:=au.gD hC s d (y:=.sl []) (fz:=[]) (by rw[h];exact⟨rfl,rfl⟩)
theorem au.own(hC:bI A.C)(s:AS)(d:Nat){id:Nat}{e:TypeId}{es:List (List PV)}(h:s.t d=.ow id)(z:s.h id=.row e es):au A s ⟨aT s.t d (.p (.sl es)),aT s.h id (.jA es)⟩:=au.gD hC s d (y:=.sl es) (fz:=[(id,.jA es)]) (by rw[h];simp only[AM.gD,AM.l8];rw[z];exact⟨rfl,rfl⟩)
theorem au.Cx(s:AS)(i d:Nat)(hid:i≠d)(D:d<100000):au A s (mR i d s):=fun S _ _ _ z=>⟨S,_,z.rename i d hid D⟩
theorem au.aeK(hC:bI A.C)(s:AS)(id j d:Nat)(e:TypeId)(J:TI)(cs:List AV)(Y:d<100000)(hid:id≠d)(hb:s.h id=.box cs)(Z:cs[j]?=some .nl)(hT:A.C.T e=some J)(hpos:0<J.size):
  au A s ⟨(gX d s).t,aT (aT (gX d s).h d (.row e [])) id (.box ((cs.map (sc d)).set j (.ow d)))⟩:=by
 intro S rho a w L;have sD:=L.free d (.row e []);obtain⟨info,z,h1,h2,h3,h4,h5,h6,h7,h8⟩:=hC.iq e J hT;have bu:=sD.new hC d (.row e []) Y (fun h=>h rfl) (aH _ _ _) w rfl rfl rfl (aam _) (fun _=>False) (fun _ _ _=>rfl) (fun _ h=>h.elim) (.slice none 0 0) (fun g hg=>by cases hg) fun T=>by
  show aG _ _ _ _ _ (aT rho d _ d);rw[aH];exact⟨info,[],h1,by omega,⟨by simp,.inl ⟨rfl,rfl⟩⟩,by simp,by simp,by simp⟩
 have D:b7 A cE cE S (aT rho d (.slice none 0 0)) ⟨(gX d s).t,aT (gX d s).h d (.row e [])⟩ a w:=bu.qo (fun _ _=>trivial) (fun k=>⟨fun _=>by by_cases e:k=d;exact .inr e;exact .inl e,fun _=>trivial⟩);have aN:(aT (gX d s).h d (.row e [])) id=.box (cs.map (sc d)):=by
  rw[aV _ _ hid];show aT (fun k=>xm d (s.h k)) d .none id=_;rw[aV _ _ hid,hb];rfl
 refine⟨S,_,D.write hC id trivial (by show ((aT (gX d s).h d (.row e [])) id).live;rw[aN];trivial) _ (fun _ h=>by cases h) w rfl rfl rfl rfl (fun _ _=>rfl) fun T=>?_⟩;have I:=D.hp id trivial;have I:eK S w A.C.P cE (aT rho d (.slice none 0 0)) (aT (gX d s).h d (.row e [])) id ((aT (gX d s).h d (.row e [])) id):=I;rw[aN]at I;obtain⟨g,ty,c,k1,k2,k3,R⟩:=I;refine⟨g,ty,c,k1,k2,by rw[k3,aaM],fun i x u hi U=>?_⟩;by_cases V:i=j
 ·subst V;have W:(cs.map (sc d))[i]?=some .nl:=by rw[aak,Z];rfl
  rw[ab7 (aD W)]at hi;injection hi with hi;subst hi;obtain⟨N,O⟩:=R i _ u W U;refine⟨N,.ow d u fun _=>⟨trivial,?_⟩⟩;rw[aH];cases O;rfl
 rw[ac5 (fun e=>V e.symm)]at hi;obtain⟨N,O⟩:=R i x u hi U;exact⟨N,O.cK T⟩
theorem au.MH(hC:bI A.C)(s:AS)(id j d:Nat)(e J:TypeId)(L:TI)(cs:List AV)(Z:d<100000)(hid:id≠d)(hb:s.h id=.gC J cs)(hn:cs[j]?=some .nl)(hT:A.C.T e=some L)(hpos:0<L.size):
  au A s ⟨(gX d s).t,aT (aT (gX d s).h d (.row e [])) id (.gC J ((cs.map (sc d)).set j (.ow d)))⟩:=by
 intro S rho a w N;have sD:=N.free d (.row e []);obtain⟨info,z,h1,h2,h3,h4,h5,h6,h7,h8⟩:=hC.iq e L hT;have bu:=sD.new hC d (.row e []) Z (fun h=>h rfl) (aH _ _ _) w rfl rfl rfl (aam _) (fun _=>False) (fun _ _ _=>rfl) (fun _ h=>h.elim) (.slice none 0 0) (fun g hg=>by cases hg) fun T=>by
  show aG _ _ _ _ _ (aT rho d _ d);rw[aH];exact⟨info,[],h1,by omega,⟨by simp,.inl ⟨rfl,rfl⟩⟩,by simp,by simp,by simp⟩
 have D:b7 A cE cE S (aT rho d (.slice none 0 0)) ⟨(gX d s).t,aT (gX d s).h d (.row e [])⟩ a w:=bu.qo (fun _ _=>trivial) (fun k=>⟨fun _=>by by_cases e:k=d;exact .inr e;exact .inl e,fun _=>trivial⟩);have aN:(aT (gX d s).h d (.row e [])) id=.gC J (cs.map (sc d)):=by
  rw[aV _ _ hid];show aT (fun k=>xm d (s.h k)) d .none id=_;rw[aV _ _ hid,hb];rfl
 refine⟨S,_,D.write hC id trivial (by show ((aT (gX d s).h d (.row e [])) id).live;rw[aN];trivial) _ (fun _ h=>by cases h) w rfl rfl rfl rfl (fun _ _=>rfl) fun T=>?_⟩;have I:=D.hp id trivial;have I:eK S w A.C.P cE (aT rho d (.slice none 0 0)) (aT (gX d s).h d (.row e [])) id ((aT (gX d s).h d (.row e [])) id):=I;rw[aN]at I;obtain⟨g,c,k1,k2,k3,U⟩:=I;refine⟨g,c,k1,k2,by rw[k3,aaM],fun i x u hi V=>?_⟩;by_cases W:i=j
 ·subst W;have Y:(cs.map (sc d))[i]?=some .nl:=by rw[aak,hn];rfl
  rw[ab7 (aD Y)]at hi;injection hi with hi;subst hi;obtain⟨O,R⟩:=U i _ u Y V;refine⟨O,.ow d u fun _=>⟨trivial,?_⟩⟩;rw[aH];cases R;rfl
 rw[ac5 (fun e=>W e.symm)]at hi;obtain⟨O,R⟩:=U i x u hi V;exact⟨O,R.cK T⟩
theorem au.fB(hC:bI A.C)(s:AS)(id j i:Nat)(e:TypeId)(es:List (List PV))(cs:List AV)(hid:id≠i)(hb:s.h id=.box cs)(O:cs[j]?=some (.ow i))(W:s.h i=.row e es):
  au A s ⟨s.t,aT (aT s.h i (.jA es)) id (.box (cs.set j (.p (.sl es))))⟩:=by
 intro S rho a w I;have J:=I.A0 hC i trivial W;have aN:(aT s.h i (.jA es)) id=.box cs:=by rw[aV _ _ hid];exact hb
 refine⟨_,_,J.write hC id trivial (by show ((aT s.h i (.jA es)) id).live;rw[aN];trivial) _ (fun _ h=>by cases h) w rfl rfl rfl rfl (fun _ _=>rfl) fun T=>?_⟩;have z:=J.hp id trivial;have z:eK _ w A.C.P cE rho (aT s.h i (.jA es)) id ((aT s.h i (.jA es)) id):=z;rw[aN]at z;have D:=J.hp i trivial;have D:eK _ w A.C.P cE rho (aT s.h i (.jA es)) i ((aT s.h i (.jA es)) i):=D;rw[aH]at D;obtain⟨g,Y,c,Z,k2,k3,R⟩:=z;refine⟨g,Y,c,Z,k2,by rw[k3,aaM],fun q x u hi U=>?_⟩;by_cases V:q=j
 ·subst V;rw[ab7 (aD O)]at hi;injection hi with hi;subst hi;obtain⟨L,N⟩:=R q _ u O U;refine⟨L,.p _ _ ?_⟩;rw[(N.cH (by rw[aH];trivial)).2];exact D
 rw[ac5 (fun e=>V e.symm)]at hi;obtain⟨L,N⟩:=R q x u hi U;exact⟨L,N.cK T⟩
end Go.AM
namespace Go.AM
open Go.RowKit
def pS:List Nat->List (Nat×AB)
 | []=>[]
 | n::r=>(n,.none)::pS r
theorem Bl{h:Nat->AB}:∀{l:List Nat} (k:Nat),app h (pS l) k=if k∈l then .none else h k
 | [],k=>by simp[pS,app]
 | n::l,k=>by
  show app (aT h n .none) (pS l) k=_;rw[Bl (l:=l) k];by_cases z:k∈l
  ·simp[z]
  by_cases D:k=n
  ·subst D;simp[z,aH]
  simp[z,D,aV]
variable {A:cD}
theorem au.pack(hC:bI A.C)(s:AS)(id:Nat){bs:List AV}{cs:List HC}(hb:s.h id=.box bs)(V:dP (bH bs)=true)(hp:wi s.h bs cs):au A s ⟨s.t,aT (app s.h (pS (bH bs))) id (.aN cs)⟩:=by
 intro S rho a w z;obtain⟨g,W,c,Y,Z,k3⟩:=yq z (id:=id) trivial hb V hp;have bY:(s.h id).live:=by rw[hb];trivial
 have at':∀j,(j=id/\aT (app s.h (pS (bH bs))) id (.aN cs) j=.aN cs)\/(j≠id/\j∈bH bs/\aT (app s.h (pS (bH bs))) id (.aN cs) j=.none)\/(j≠id/\¬j∈bH bs/\aT (app s.h (pS (bH bs))) id (.aN cs) j=s.h j):=fun j=>by
  by_cases e:j=id
  ·subst e;exact .inl ⟨rfl,aH _ _ _⟩
  rw[aV _ _ e,Bl];by_cases h:j∈bH bs
  ·exact .inr (.inl ⟨e,h,aap h⟩)
  exact .inr (.inr ⟨e,h,aaa h⟩)
 have T:lB S S w w cE cE rho rho s.h (aT (app s.h (pS (bH bs))) id (.aN cs)):=⟨fun _ h=>h,fun _ _=>rfl,fun j D=>⟨by
   rcases at' j with⟨rfl,_⟩ | ⟨_,_,h⟩ | ⟨_,_,h⟩
   ·rw[hb];trivial
   ·rw[h]at D;exact D.elim
   ·rw[h]at D;exact D,fun _=>⟨trivial,rfl⟩⟩,fun j e D=>by
   rcases at' j with⟨_,h⟩ | ⟨_,_,h⟩ | ⟨_,_,h⟩
   ·rw[h]at D;cases D
   ·rw[h]at D;cases D
   rw[h]at D;exact D⟩
 have I:∀j g,(aT (app s.h (pS (bH bs))) id (.aN cs) j).live->hasB w (aT (app s.h (pS (bH bs))) id (.aN cs) j) (rho j) g->∃k,(s.h k).live/\hasB w (s.h k) (rho k) g/\((j=id/\(k=id\/k∈bH bs))\/(j=k/\j≠id/\¬j∈bH bs)):=fun j g hl N=>by
  rcases at' j with⟨rfl,h⟩ | ⟨_,_,h⟩ | ⟨O,h2,h⟩
  ·rw[h]at N;rcases k3 g N with h | ⟨n,O,_,h3,h4⟩
   ·exact⟨j,bY,.inl h,.inl ⟨rfl,.inl rfl⟩⟩
   exact⟨n,h3,.inl h4,.inl ⟨rfl,.inr O⟩⟩
  ·rw[h]at hl;exact hl.elim
  rw[h]at hl N;exact⟨j,hl,N,.inr ⟨rfl,O,h2⟩⟩
 exact⟨S,rho,
 {tm:=fun j D=>(z.tm j D).cK T
  sz:=z.sz,df:=z.df,nb:=z.nb,pn:=z.pn,ev:=z.ev,s0:=z.s0,st:=z.st,sb:=z.sb
  hp:=fun j _=>by
   show eK _ _ _ _ _ _ _ (aT (app s.h (pS (bH bs))) id (.aN cs) j);rcases at' j with⟨rfl,h⟩ | ⟨_,_,h⟩ | ⟨_,_,h⟩
   ·rw[h];exact⟨g,W,c,Y,Z⟩
   ·rw[h];trivial
   rw[h];exact (z.hp j trivial).cK T (fun _ _ _=>rfl) (fun _=>rfl)
  dj:=fun i j g _ _ R lj hi D=>by
   obtain⟨k,l1,U,J⟩:=I i g R hi;obtain⟨m,l2,o2,L⟩:=I j g lj D;have:=z.dj k m g trivial trivial l1 l2 U o2;subst this;rcases J with⟨rfl,J⟩ | ⟨rfl,J,c3⟩<;>rcases L with⟨rfl,L⟩ | ⟨rfl,L,c4⟩
   ·rfl
   ·rcases J with J | J
    ·exact (L J).elim
    exact (c4 J).elim
   ·rcases L with L | L
    ·exact (J L).elim
    exact (c3 L).elim
   rfl
  lv:=fun i g _ R hi=>by
   obtain⟨k,l1,U,_⟩:=I i g R hi;exact z.lv k g trivial l1 U
  fr:=z.fr }⟩
def rm:List HC->List Nat->List AV
 | [],_=>[]
 | .p x::r,ns=>.p x::rm r ns
 | .row _ _::r,n::ns=>.ow n::rm r ns
 | .row _ _::r,[]=>.junk::rm r []
def Aw:List HC->List Nat->List (Nat×AB)
 | [],_=>[]
 | .p _::r,ns=>Aw r ns
 | .row e es::r,n::ns=>(n,.row e es)::Aw r ns
 | .row _ _::_,[]=>[]
def rowsOf:List HC->Nat
 | []=>0
 | .p _::r=>rowsOf r
 | .row _ _::r=>rowsOf r+1
def ku:List (Nat×AB)->AS->AS
 | [],s=>s
 | (d,b)::r,s=>ku r ⟨(gX d s).t,aT (gX d s).h d b⟩
theorem vp:∀{cs:List HC} {ns:List Nat},rowsOf cs=ns.length->(Aw cs ns).map (·.1)=ns
 | [],ns,h=>by cases ns with | nil=>rfl | cons n ns=>simp[rowsOf]at h
 | .p x::cs,ns,h=>by show (Aw cs ns).map _=_;exact vp h
 | .row e es::cs,[],h=>by simp[rowsOf]at h
 | .row e es::cs,n::ns,h=>by
  simp only[rowsOf,aaB,aaQ]at h;simp[Aw,vp h]
theorem IB:∀{cs:List HC} {ns:List Nat} {n:Nat} {b:AB},(n,b)∈Aw cs ns->∃(j:Nat) (e:TypeId) (es:List (List PV)),cs[j]?=some (.row e es)/\b=.row e es/\(rm cs ns)[j]?=some (.ow n)
 | [],ns,n,b,h=>by cases h
 | .p x::cs,ns,n,b,h=>by
  obtain⟨j,e,es,z,D,I⟩:=IB (cs:=cs) (ns:=ns) h;exact⟨j+1,e,es,z,D,I⟩
 | .row e es::cs,[],n,b,h=>by cases h
 | .row e es::cs,m::ns,n,b,h=>by
  rcases adq.1 h with h | h
  ·injection h with z D;subst z D;exact⟨0,e,es,rfl,rfl,rfl⟩
  obtain⟨j,e,es,z,D,I⟩:=IB (cs:=cs) (ns:=ns) h;exact⟨j+1,e,es,z,D,I⟩
theorem CO:∀{cs:List HC} {ns:List Nat} {j:Nat} {x:AV},rowsOf cs=ns.length->(rm cs ns)[j]?=some x->(∃z,cs[j]?=some (.p z)/\x=.p z)\/∃n e es,cs[j]?=some (.row e es)/\x=.ow n/\(n,.row e es)∈Aw cs ns
 | [],ns,j,x,_,h=>by simp[rm]at h
 | .p y::cs,ns,0,x,_,h=>by simp[rm]at h;exact .inl ⟨y,rfl,h.symm⟩
 | .p y::cs,ns,j+1,x,hl,h=>by
  have:=CO (cs:=cs) (ns:=ns) (j:=j) hl (by simpa [rm] using h);exact this
 | .row e es::cs,[],j,x,hl,_=>by simp[rowsOf]at hl
 | .row e es::cs,n::ns,0,x,_,h=>by simp[rm]at h;exact .inr ⟨n,e,es,rfl,h.symm,by simp[Aw]⟩
 | .row e es::cs,n::ns,j+1,x,hl,h=>by
  simp only[rowsOf,aaB,aaQ]at hl;rcases CO (cs:=cs) (ns:=ns) (j:=j) hl (by simpa [rm] using h) with h | ⟨m,e',D,I,J,L⟩
  ·exact .inl h
  exact .inr ⟨m,e',D,I,J,by simp[Aw,L]⟩
theorem xG:∀{cs:List HC} {ns:List Nat},(rm cs ns).length=cs.length
 | [],_=>rfl
 | .p x::cs,ns=>by simp[rm,xG (cs:=cs)]
 | .row e es::cs,[]=>by simp[rm,xG (cs:=cs)]
 | .row e es::cs,n::ns=>by simp[rm,xG (cs:=cs)]
theorem wv{S:Nat->Prop}{rho:Nat->Value}{a:Act}{w:World}:∀(l:List (Nat×AB)) (L:Nat->Prop) (s:AS),b7 A cE L S rho s a w->b7 A cE (fun k=>L k/\∀p∈l,p.1≠k) S rho (ku l s) a w
 | [],L,s,sim=>sim.qo (fun _ h=>h) (fun i=>⟨fun h=>h.1,fun h=>⟨h,by simp⟩⟩)
 | (d,b)::l,L,s,sim=>(wv l _ _ (sim.QC d b)).qo (fun _ h=>h) (fun i=>⟨fun ⟨D,z⟩=>⟨⟨D,fun e=>z (d,b) (by simp) e.symm⟩,fun p hp=>z p (by simp[hp])⟩,fun ⟨⟨D,z⟩,h3⟩=>⟨D,fun p hp=>by
   rcases adq.1 hp with h | h
   ·subst h;exact fun e=>z e.symm
   exact h3 p h⟩⟩)
theorem qv:∀(l:List (Nat×AB)) (s:AS) (k:Nat),(∀p∈l,p.1≠k)->(∀d,xm d (s.h k)=s.h k)->(ku l s).h k=s.h k
 | [],s,k,_,_=>rfl
 | (d,b)::l,s,k,h,z=>by
  have hk:k≠d:=fun e=>h (d,b) (by simp) e.symm;have e1:aT (gX d s).h d b k=s.h k:=by
   rw[aV _ _ hk];show aT (fun k=>xm d (s.h k)) d .none k=_;rw[aV _ _ hk];exact z d
  show (ku l ⟨(gX d s).t,aT (gX d s).h d b⟩).h k=_;rw[qv l _ k (fun p hp=>h p (by simp[hp])) (fun D=>by show xm D (aT (gX d s).h d b k)=aT (gX d s).h d b k;rw[e1];exact z D)];exact e1
theorem yF:∀(l:List (Nat×AB)) (s:AS) (k:Nat) (b:AB),(l.map (·.1)).Nodup->(∀d,xm d b=b)->(k,b)∈l->(ku l s).h k=b
 | [],s,k,b,_,_,h=>by cases h
 | (d,D)::l,s,k,b,hn,hb,h=>by
  simp only[aa8,aai]at hn;show (ku l ⟨(gX d s).t,aT (gX d s).h d D⟩).h k=_;rcases adq.1 h with h | h
  ·injection h with h1 h2;subst h1 h2;rw[qv l _ k (fun p hp e=>hn.1 (adS.2 ⟨p,hp,e⟩)) (fun z=>by show xm z (aT (gX k s).h k b k)=aT (gX k s).h k b k;rw[aH];exact hb z)];exact aH _ _ _
  exact yF l _ k b hn.2 hb h
theorem pT:∀{l:List Nat},dP l=true->l.Nodup
 | [],_=>by simp
 | n::l,h=>by
  simp[dP]at h;refine aai.2 ⟨fun z=>?_,pT h.2.2⟩;rw[mf.2 z]at h;cases h.1
theorem au.open(hC:bI A.C)(s:AS)(id:Nat)(ns:List Nat){cs:List HC}(hb:s.h id=.aN cs)(hl:rowsOf cs=ns.length)(hg:dP ns=true)(hid:mS id ns=false):
  au A s ⟨(ku (Aw cs ns) s).t,aT (ku (Aw cs ns) s).h id (.box (rm cs ns))⟩:=by
 intro S rho a w p6;have Y9:=vp hl;have Oo:((Aw cs ns).map (·.1)).Nodup:=by rw[Y9];exact pT hg
 have s_:∀n,n∈ns↔∃b,(n,b)∈Aw cs ns:=fun n=>by rw[show (n∈ns)=(n∈(Aw cs ns).map (·.1)) by rw[Y9]];simp
 have Y:¬id∈ns:=fun h=>by rw[mf.2 h]at hid;cases hid
 have I:=wv (Aw cs ns) cE s p6;have I:b7 A cE (fun k=>¬k∈ns) S rho (ku (Aw cs ns) s) a w:=I.qo (fun _ h=>h) (fun i=>⟨fun h=>⟨trivial,fun p hp e=>h (by rw[s_,<-e];exact⟨p.2,hp⟩)⟩,fun ⟨_,h⟩ O=>by obtain⟨b,R⟩:=(s_ i).1 O;exact h _ R rfl⟩);obtain⟨J,Gd⟩:∃J,J=ku (Aw cs ns) s:=⟨_,rfl⟩;have yG:J.h id=.aN cs:=by
  rw[Gd,qv _ _ id (fun p hp e=>Y (by rw[s_,<-e];exact⟨p.2,hp⟩)) (fun d=>by rw[hb];rfl),hb]
 have UI:∀n b,(n,b)∈Aw cs ns->J.h n=b:=fun n b O=>by
  obtain⟨j,e,es,_,rfl,_⟩:=IB O;rw[Gd];exact yF _ _ n _ Oo (fun d=>rfl) O
 rw[<-Gd]at I ⊢;have hh:=I.hp id Y;rw[yG]at hh;obtain⟨g,ty,c,k1,U⟩:=hh;have J2:cC (rho id)=some g:=by rw[k1];rfl
 have bY:(J.h id).live:=by rw[yG];trivial
 have Z:∀n,n∈ns->∃(j:Nat) (e:TypeId) (es:List (List PV)) (u:Value),cs[j]?=some (.row e es)/\(rm cs ns)[j]?=some (.ow n)/\c[j]?=some u/\J.h n=.row e es/\(n,AB.row e es)∈Aw cs ns:=fun n O=>by
  obtain⟨b,R⟩:=(s_ n).1 O;obtain⟨j,e,es,N,rfl,h3⟩:=IB R;obtain⟨u,W⟩:=jG U.sz.symm (aD N);exact⟨j,e,es,u,N,h3,W,UI n _ R,R⟩
 obtain⟨F,hF⟩:∃F:Nat->Value,∀n,n∈ns->∃(j:Nat) (e:TypeId) (es:List (List PV)),cs[j]?=some (.row e es)/\(rm cs ns)[j]?=some (.ow n)/\c[j]?=some (F n)/\J.h n=.row e es/\(n,AB.row e es)∈Aw cs ns:=by
  have ex:∀n,∃u:Value,n∈ns->∃(j:Nat) (e:TypeId) (es:List (List PV)),cs[j]?=some (.row e es)/\(rm cs ns)[j]?=some (.ow n)/\c[j]?=some u/\J.h n=.row e es/\(n,AB.row e es)∈Aw cs ns:=fun n=>by
   by_cases O:n∈ns
   ·obtain⟨j,e,es,u,h⟩:=Z n O;exact⟨u,fun _=>⟨j,e,es,h⟩⟩
   exact⟨undef,fun h=>(O h).elim⟩
  exact⟨fun n=>(ex n).choose,fun n=>(ex n).choose_spec⟩
 have Ph:∀{cs:List HC} {ns:List Nat} {i j n:Nat},rowsOf cs=ns.length->dP ns=true->(rm cs ns)[i]?=some (.ow n)->(rm cs ns)[j]?=some (.ow n)->i=j:=by
  intro cs ns i j n hl hg N h2;have hcn:∀{cs:List HC} {ns:List Nat},rowsOf cs=ns.length->bH (rm cs ns)=ns:=by
   intro cs
   induction cs with
   | nil=>intro ns h;cases ns with | nil=>rfl | cons n ns=>simp[rowsOf]at h
   | cons x cs ih=>
    intro ns h;cases x with
    | p x=>exact ih h
    | row e es=>
     cases ns with
     | nil=>simp[rowsOf]at h
     | cons n ns=>
      simp only[rowsOf,aaB,aaQ]at h;show n::bH (rm cs ns)=_;rw[ih h]
  exact oQ (by rw[hcn hl];exact hg) N h2
 obtain⟨rho',QR⟩:∃rho':Nat->Value,rho'=fun k=>if k∈ns then F k else rho k:=⟨_,rfl⟩;have TA:∀k,k∈ns->rho' k=F k:=fun k hk=>by rw[QR];exact aap hk
 have GX:∀k,¬k∈ns->rho' k=rho k:=fun k hk=>by rw[QR];exact aaa hk
 have We:∀k,(k=id/\aT J.h id (.box (rm cs ns)) k=.box (rm cs ns))\/(k≠id/\aT J.h id (.box (rm cs ns)) k=J.h k):=fun k=>by
  by_cases e:k=id
  ·subst e;exact .inl ⟨rfl,aH _ _ _⟩
  exact .inr ⟨e,aV _ _ e⟩
 have T:lB S S w w (fun k=>¬k∈ns) cE rho rho' J.h (aT J.h id (.box (rm cs ns))):=⟨fun _ h=>h,fun _ _=>rfl,fun j D=>⟨by
   rcases We j with⟨rfl,h⟩ | ⟨_,h⟩
   ·rw[yG];trivial
   ·rw[h]at D;exact D,fun hn=>⟨trivial,GX j hn⟩⟩,fun j e D=>by
   rcases We j with⟨_,h⟩ | ⟨_,h⟩
   ·rw[h]at D;cases D
   rw[h]at D;exact D⟩
 have L:∀j k,(aT J.h id (.box (rm cs ns)) j).live->hasB w (aT J.h id (.box (rm cs ns)) j) (rho' j) k->∃o,¬o∈ns/\(J.h o).live/\hasB w (J.h o) (rho o) k/\(if j∈ns then o=id else o=j):=fun j k hl ho=>by
  by_cases D:j∈ns
  ·obtain⟨i,e,es,N,h2,h3,h4,h5⟩:=hF j D;have Wf:j≠id:=fun e=>Y (e▸D);rw[aV _ _ Wf,h4,TA j D]at ho;refine⟨id,Y,bY,?_,by rw[aap D]⟩;rw[yG];exact .inr <| .inl ⟨cs,g,rfl,J2,c,ty,_,i,_,F j,U.hp,N,trivial,h3,aI rfl ho⟩
  rw[GX j D]at ho;rcases We j with⟨rfl,h⟩ | ⟨_,h⟩
  ·rw[h]at ho;exact⟨j,D,bY,.inl (aI rfl ho),by rw[aaa D]⟩
  rw[h]at hl ho;exact⟨j,D,hl,ho,by rw[aaa D]⟩
 exact⟨S,rho',
 {tm:=fun j D=>(I.tm j D).cK T
  sz:=I.sz,df:=I.df,nb:=I.nb
  pn:=fun k hk=>by rw[GX k fun h=>by have:=oR hg h;omega];exact I.pn k hk
  ev:=I.ev,s0:=I.s0,st:=I.st,sb:=I.sb
  hp:=fun j _=>by
   show eK _ _ _ _ _ _ _ (aT J.h id (.box (rm cs ns)) j);rcases We j with⟨rfl,h⟩ | ⟨b8,h⟩
   ·rw[h];refine⟨g,ty,c,by rw[GX j Y];exact k1,U.hp,by rw[xG];exact U.sz,fun i x u hi W=>?_⟩;rcases CO hl hi with⟨z,N,rfl⟩ | ⟨n,e,es,N,rfl,h3⟩
    ·exact⟨(U.cell i _ u N W).1,.p _ _ (U.cell i _ u N W).2⟩
    refine⟨(U.cell i _ u N W).1,.ow n u fun _=>⟨trivial,?_⟩⟩;have O:n∈ns:=(s_ n).2 ⟨_,h3⟩;obtain⟨i',e',de,q1,q2,q3,q4,q5⟩:=hF n O;have:=Ph hl hg q2 hi;subst this;rw[TA n O];rw[q3]at W;injection W with W;exact W.symm
   rw[h];by_cases D:j∈ns
   ·obtain⟨i,e,es,N,h2,h3,h4,h5⟩:=hF j D;rw[h4];show aG _ _ _ _ _ (rho' j);rw[TA j D];exact (U.cell i _ _ N h3).2
   exact (I.hp j D).cK T (fun _ _ _=>rfl) (fun _=>GX j D)
  dj:=fun i j k _ _ li lj hi D=>by
   obtain⟨o,o1,o2,o3,o4⟩:=L i k li hi;obtain⟨p,p1,p2,p3,p4⟩:=L j k lj D;have:=I.dj o p k o1 p1 o2 p2 o3 p3;subst this;by_cases ei:i∈ns
   ·rw[aap ei]at o4;subst o4;have hi:hasB w (aT J.h o (.box (rm cs ns)) i) (rho' i) k:=hi;obtain⟨i1,e1,V6,q1,q2,q3,q4,q5⟩:=hF i ei;have Y_:cC (F i)=some k:=by
     rw[aV _ _ (fun e=>Y (by rw[<-e];exact ei)),q4,TA i ei]at hi;exact aI rfl hi
    by_cases V:j∈ns
    ·have D:hasB w (aT J.h o (.box (rm cs ns)) j) (rho' j) k:=D;obtain⟨j1,e2,nH,r1,r2,r3,r4,r5⟩:=hF j V;have XH:cC (F j)=some k:=by
      rw[aV _ _ (fun e=>Y (by rw[<-e];exact V)),r4,TA j V]at D;exact aI rfl D
     have:=U.dis i1 j1 _ _ _ _ k q1 r1 q3 r3 trivial trivial Y_ XH;subst this;rw[q2]at r2;injection r2 with r2;injection r2
    rw[aaa V]at p4;subst p4;exfalso;have D:hasB w (aT J.h o (.box (rm cs ns)) o) (rho' o) k:=D;rw[aH,GX o V]at D;have D:=aI rfl D;rw[J2]at D;injection D with D;exact U.top i1 _ _ k q1 q3 trivial Y_ D.symm
   rw[aaa ei]at o4;by_cases V:j∈ns
   ·rw[aap V]at p4;subst o4;subst p4;exfalso;have hi:hasB w (aT J.h o (.box (rm cs ns)) o) (rho' o) k:=hi;have D:hasB w (aT J.h o (.box (rm cs ns)) j) (rho' j) k:=D;obtain⟨j1,e2,nH,r1,r2,r3,r4,r5⟩:=hF j V;have XH:cC (F j)=some k:=by
     rw[aV _ _ (fun e=>Y (by rw[<-e];exact V)),r4,TA j V]at D;exact aI rfl D
    rw[aH,GX o ei]at hi;have hi:=aI rfl hi;rw[J2]at hi;injection hi with hi;exact U.top j1 _ _ k r1 r3 trivial XH hi.symm
   rw[aaa V]at p4;exact o4.symm.trans p4
  lv:=fun i k _ li hi=>by
   obtain⟨o,o1,o2,o3,_⟩:=L i k li hi;exact I.lv o k o1 o2 o3
  fr:=I.fr }⟩
end Go.AM
namespace Go.AM
open Go.RowKit
def cellAt(w:World)(g p:Nat)(u:Value):Prop:=∃(c:Array Value) (ty:TypeId) (m:Nat×Nat),w.heap[g]?=some (.cells c ty m)/\c[p]?=some u
variable {w:World}
theorem nn{g p:Nat}{u v:Value}(h:cellAt w g p u)(k:cellAt w g p v):u=v:=by
 obtain⟨c,ty,m,I,J⟩:=h;obtain⟨c',YR,m',z,D⟩:=k;rw[I]at z;injection z with z;injection z with z;subst z;rw[J]at D;injection D
variable {es:List (List HX)}
theorem dT{g a j:Nat}{u:Value}:dF w es g a j u↔∃r e xs,es[a]?=some r/\r[j]?=some (.row e xs)/\cellAt w g (a*r.length+j) u:=
 ⟨fun ⟨r,e,xs,c,z,m,D,I,J,L⟩=>⟨r,e,xs,D,I,c,z,m,J,L⟩,fun ⟨r,e,xs,D,I,c,z,m,J,L⟩=>⟨r,e,xs,c,z,m,D,I,J,L⟩⟩
variable {α:Type} {e:TypeId}
theorem aG.re{β:Type}{P:Program}{R:α->Value->Prop}{V:β->Value->Prop}{es:List (List α)}{J:List (List β)}{v:Value}(h:aG P w R e es v)(hl:J.length=es.length)
  (hk:∀(a:Nat) r z,es[a]?=some r->J[a]?=some z->z.length=r.length)
  (hc:∀(a:Nat) r z (j:Nat) x N u,es[a]?=some r->J[a]?=some z->r[j]?=some x->z[j]?=some N->(∀g,cC v=some g->cellAt w g (a*r.length+j) u)->R x u->V N u):aG P w V e J v:=by
 obtain⟨i,xs,h1,h2,W,Y,h5,h6⟩:=h;have old:∀{a:Nat} {z:List β},J[a]?=some z->∃r,es[a]?=some r:=fun {a z} D=>⟨_,acg (by rw[<-hl];exact aD D)⟩;refine⟨i,xs,h1,h2,by rw[hl];exact W,fun z iO=>?_,h5,fun a z j N D Z=>?_⟩
 ·obtain⟨a,D⟩:=ab8.1 iO;obtain⟨r,I⟩:=old D;rw[hk a r z I D];exact Y r (aad I)
 obtain⟨r,I⟩:=old D;have hlen:=hk a r z I D;obtain⟨x,hx⟩:∃x,r[j]?=some x:=⟨_,acg (by rw[<-hlen];exact aD Z)⟩;obtain⟨u,L,An⟩:=h6 a r j x I hx;refine⟨u,L,hc a r z j x N u I D hx Z (fun g O=>?_) An⟩;have xj:=Y r (aad I);rcases W.2 with⟨hn,_⟩ | ⟨g',cap,U,hv,_,DG,k1,k2,k3,k4⟩
 ·rw[hn]at O;cases O
 rw[hv]at O;obtain rfl:=iP.1 O;refine⟨U,_,_,DG,?_⟩;rw[xj];rw[<-k4,aa7]at L;split at L
 ·simpa using L
 cases L
variable {A:cD}
theorem au.Wg(hC:bI A.C)(s:AS)(id:Nat){es:List (List PV)}(hb:s.h id=.row e es):au A s ⟨s.t,aT s.h id (.az e (es.map s9))⟩:=by
 intro S rho a w J;have O:∀g k j u,¬dF w (es.map s9) g k j u:=fun g k j u h=>by
  obtain⟨r,e',rN,I,D,_⟩:=dT.1 h;rw[aak]at I;obtain⟨q,_,rfl⟩:=acq.1 I;rw[s9,aak]at D;obtain⟨z,_,R⟩:=acq.1 D;cases R
 have L:=J.hp id trivial;rw[hb]at L;have L:aG A.C.P w (aO S w) e es (rho id):=L;refine⟨S,rho,J.Cl hC id trivial (by rw[hb];trivial) _ (fun e' h=>by rw[hb];exact h) w rfl rfl rfl rfl (fun _ _=>rfl) (fun T=>?_) (fun g h=>?_)⟩
 ·refine⟨L.re (by simp) (fun k r U I D=>?_) (fun k r U j x x2 u I D V N _ W=>?_),⟨fun g k j u b _ h=>absurd h (O _ _ _ _),fun g k j k' j' u u' b _ h=>absurd h (O _ _ _ _)⟩⟩
  ·rw[aak,I]at D;injection D with D;rw[<-D,s9,aej]
  rw[aak,I]at D;injection D with D;rw[<-D,s9,aak,V]at N;injection N with N;rw[<-N];exact xy W
 rw[dS]at h;rcases h with h | ⟨g',k,j,u,_,h,_⟩
 ·exact .inl h
 exact absurd h (O _ _ _ _)
def IC:HX->Prop
 | .av (.p _)=>True
 | .av .nl=>True
 | .row _ _=>True
 | _=>False
def xH(es:List (List HX)):Prop:=∀r∈es,∀x∈r,IC x
theorem Kd(h:xH es)(d:Nat):(es.map fun r=>r.map (HX.cS (sc d)))=es:=by
 conv=>rhs;rw[<-List.map_id es]
 refine aaG fun r z=>?_;show r.map _=r
 conv=>rhs;rw[<-List.map_id r]
 refine aaG fun x D=>?_;have:=h r z x D;cases x with
 | row e es=>rfl
 | av y=>cases y<;>first | rfl | exact this.elim
theorem iF{l:List α}{i a:Nat}{x y:α}(h:(l.set i x)[a]?=some y):(a=i/\y=x/\i<l.length)\/(a≠i/\l[a]?=some y):=by
 by_cases e:a=i
 ·subst e;have hl:=aD h;rw[aaM]at hl;rw[ab7 hl]at h;injection h with h;exact .inl ⟨rfl,h.symm,hl⟩
 rw[ac5 (fun e'=>e e'.symm)]at h;exact .inr ⟨e,h⟩
variable {e':TypeId}
theorem au.rq(hC:bI A.C)(s:AS)(id i j d:Nat){r:List HX}{xs:List (List PV)}(hd:d<100000)(hid:id≠d)(hb:s.h id=.az e es)(hs:xH es)(hr:es[i]?=some r)(hj:r[j]?=some (.row e' xs)):
  au A s ⟨(gX d s).t,aT (aT (gX d s).h d (.row e' xs)) id (.az e (es.set i (r.set j (.av (.ow d)))))⟩:=by
 intro S rho a w p6;have z:=p6.free d (.row e' xs);obtain⟨D,XI⟩:∃D,D=aT (gX d s).h d (.row e' xs):=⟨_,rfl⟩;have yG:D id=.az e es:=by
  rw[XI,aV _ _ hid];show aT (fun k=>xm d (s.h k)) d .none id=_;rw[aV _ _ hid,hb];show AB.az e _=_;rw[Kd hs]
 have Za:D d=.row e' xs:=by rw[XI,aH]
 rw[<-XI]at z ⊢;obtain⟨N,qw⟩:∃N,N=es.set i (r.set j (.av (.ow d))):=⟨_,rfl⟩;rw[<-qw];have hh:=z.hp id hid;have hh:eK S w A.C.P (fun k=>k≠d) rho D id (D id):=hh;rw[yG]at hh;obtain⟨hR,hS⟩:=hh;obtain⟨g,u,hg,Wh,An⟩:=hR.DO hr hj;have An:aG A.C.P w (aO S w) e' xs u:=An;have bY:(D id).live:=by rw[yG];trivial
 have f_:∀R k p v,dF w N R k p v->dF w es R k p v/\¬(k=i/\p=j):=by
  intro R k p v hc;obtain⟨q,e2,MI,q1,q2,q3⟩:=dT.1 hc;rw[qw]at q1;rcases iF q1 with⟨rfl,rfl,_⟩ | ⟨hk,q1⟩
  ·rcases iF q2 with⟨_,hx,_⟩ | ⟨hp,q2⟩
   ·cases hx
   exact⟨dT.2 ⟨r,e2,MI,hr,q2,by rw[aaM]at q3;exact q3⟩,fun h=>hp h.2⟩
  exact⟨dT.2 ⟨q,e2,MI,q1,q2,q3⟩,fun h=>hk h.1⟩
 have hown:∀b,cC u=some b->hasB w (D id) (rho id) b:=fun b h=>by rw[yG,dS];exact .inr ⟨g,i,j,u,hg,Wh,h⟩
 obtain⟨rho',lF⟩:∃rho',rho'=aT rho d u:=⟨_,rfl⟩;have rd:rho' d=u:=by rw[lF,aH]
 have ro:∀k,k≠d->rho' k=rho k:=fun k h=>by rw[lF,aV _ _ h]
 have T:lB S S w w (fun k=>k≠d) cE rho rho' D (aT D id (.az e N)):=⟨fun _ h=>h,fun _ _=>rfl,fun k hk=>⟨by
   rcases aW D id (.az e N) k with⟨rfl,h⟩ | ⟨_,h⟩
   ·rw[yG];trivial
   ·rw[h]at hk;exact hk,fun h=>⟨trivial,ro k h⟩⟩,fun k e2 hk=>by
   rcases aW D id (.az e N) k with⟨rfl,h⟩ | ⟨_,h⟩
   ·rw[h]at hk;rw[yG];exact hk
   rw[h]at hk;exact hk⟩
 have J:∀k b,(aT D id (.az e N) k).live->hasB w (aT D id (.az e N) k) (rho' k) b->∃o,o≠d/\(D o).live/\hasB w (D o) (rho o) b/\(if k=d then o=id/\cC u=some b else o=k/\(k=id->cC u≠some b)):=by
  intro k b hl I;by_cases hk:k=d
  ·subst hk;rw[aV _ _ (fun e=>hid e.symm),Za,rd]at I;have I:=aI rfl I;exact⟨id,hid,bY,hown b I,by rw[aap rfl];exact⟨rfl,I⟩⟩
  rcases aW D id (.az e N) k with⟨rfl,h⟩ | ⟨b8,h⟩
  ·rw[h,ro k hk]at I;rw[dS]at I;refine⟨k,hk,bY,?_,?_⟩
   ·rw[yG,dS];rcases I with I | ⟨R,k',p,v,U,o2,o3⟩
    ·exact .inl I
    exact .inr ⟨R,k',p,v,U,(f_ _ _ _ _ o2).1,o3⟩
   rw[aaa hk];refine⟨rfl,fun _ Zb=>?_⟩;rcases I with I | ⟨R,k',p,v,U,o2,o3⟩
   ·rw[hg]at I;injection I with I;exact hS.top g i j u b hg Wh Zb I.symm
   rw[hg]at U;injection U with U;subst U;obtain⟨V,c2⟩:=f_ _ _ _ _ o2;exact c2 (hS.dis g k' p i j v u b hg V Wh o3 Zb)
  rw[h,ro k hk]at I;rw[h]at hl;exact⟨k,hk,hl,I,by rw[aaa hk];exact⟨rfl,fun e=>absurd e b8⟩⟩
 exact⟨S,rho',
 {tm:=fun k hk=>(z.tm k hk).cK T
  sz:=z.sz,df:=z.df,nb:=z.nb
  pn:=fun k hk=>by rw[ro k (by omega)];exact z.pn k hk
  ev:=z.ev,s0:=z.s0,st:=z.st,sb:=z.sb
  hp:=fun k _=>by
   show eK _ _ _ _ _ _ _ (aT D id (.az e N) k);by_cases hk:k=d
   ·subst hk;rw[aV _ _ (fun e=>hid e.symm),Za];show aG _ _ _ _ _ (rho' k);rw[rd];exact An
   rcases aW D id (.az e N) k with⟨rfl,h⟩ | ⟨b8,h⟩
   ·rw[h];show aG _ _ _ _ _ (rho' k)/\uZ _ _ (rho' k);rw[ro k hk];refine⟨hR.re (by rw[qw,aaM]) (fun p q q2 O L=>?_) (fun p q q2 m x x2 v O L z3 W hcell hx=>?_),⟨fun R p m v b V c2 c3=>hS.top R p m v b V (f_ _ _ _ _ c2).1 c3,fun R p m p' m' v v' b V c2 c3 c4 c5=>hS.dis R p m p' m' v v' b V (f_ _ _ _ _ c2).1 (f_ _ _ _ _ c3).1 c4 c5⟩⟩
    ·rw[qw]at L;rcases iF L with⟨rfl,rfl,_⟩ | ⟨_,L⟩
     ·rw[hr]at O;injection O with O;rw[<-O,aaM]
     rw[O]at L;injection L with L;rw[L]
    have wx:rK S w A.C.P (fun k=>k≠d) rho D x v->x2=x->rK S w A.C.P cE rho' (aT D k (.az e N)) x2 v:=fun hx UJ=>by
     rw[UJ];cases x with
     | av y=>exact aY.cK T hx
     | row e2 MI=>exact hx
    rw[qw]at L;rcases iF L with⟨rfl,rfl,_⟩ | ⟨_,L⟩
    ·rw[hr]at O;injection O with O;subst O;rcases iF W with⟨rfl,rfl,_⟩ | ⟨_,W⟩
     ·obtain⟨q',_,_,V,_,c2⟩:=dT.1 Wh;rw[hr]at V;injection V with V;subst V;have:=nn (hcell g hg) c2;subst this;exact .ow d _ fun _=>⟨trivial,rd.symm⟩
     rw[z3]at W;injection W with W;exact wx hx W.symm
    rw[O]at L;injection L with L;subst L;rw[z3]at W;injection W with W;exact wx hx W.symm
   rw[h];exact (z.hp k hk).cK T (fun _ _ _=>rfl) (fun _=>ro k hk)
  dj:=fun k m b _ _ lk lm hk hm=>by
   obtain⟨o,U,o2,o3,Y⟩:=J k b lk hk;obtain⟨p,p1,p2,p3,Z⟩:=J m b lm hm;have:=z.dj o p b U p1 o2 p2 o3 p3;subst this;by_cases ek:k=d<;>by_cases em:m=d
   ·rw[ek,em]
   ·rw[aap ek]at Y;rw[aaa em]at Z;exact absurd Y.2 (Z.2 (Z.1.symm.trans Y.1))
   ·rw[aaa ek]at Y;rw[aap em]at Z;exact absurd Z.2 (Y.2 (Y.1.symm.trans Z.1))
   rw[aaa ek]at Y;rw[aaa em]at Z;exact Y.1.symm.trans Z.1
  lv:=fun k b _ lk hk=>by
   obtain⟨o,U,o2,o3,_⟩:=J k b lk hk;exact z.lv o b U o2 o3
  fr:=z.fr }⟩
theorem au.Bm(hC:bI A.C)(s:AS)(id i j d:Nat){r:List HX}{xs:List (List PV)}(hid:id≠d)(hb:s.h id=.az e es)(Sm:s.h d=.row e' xs)(hr:es[i]?=some r)(hj:r[j]?=some (.av (.ow d))):
  au A s ⟨s.t,aT (aT s.h d .none) id (.az e (es.set i (r.set j (.row e' xs))))⟩:=by
 intro S rho a w z;obtain⟨J,qw⟩:∃J,J=es.set i (r.set j (.row e' xs)):=⟨_,rfl⟩;rw[<-qw];have hh:=z.hp id trivial;rw[hb]at hh;obtain⟨hR,hS⟩:=hh;have bY:(s.h id).live:=by rw[hb];trivial
 have XJ:(s.h d).live:=by rw[Sm];trivial
 have Sn:=z.hp d trivial;rw[Sm]at Sn;have Sn:aG A.C.P w (aO S w) e' xs (rho d):=Sn;have up:∀k,(k=id/\aT (aT s.h d .none) id (.az e J) k=.az e J)\/(k=d/\k≠id/\aT (aT s.h d .none) id (.az e J) k=.none)\/(k≠d/\k≠id/\aT (aT s.h d .none) id (.az e J) k=s.h k):=fun k=>by
  by_cases R:k=id
  ·subst R;exact .inl ⟨rfl,aH _ _ _⟩
  by_cases h2:k=d
  ·subst h2;exact .inr (.inl ⟨rfl,R,by rw[aV _ _ R,aH]⟩)
  exact .inr (.inr ⟨h2,R,by rw[aV _ _ R,aV _ _ h2]⟩)
 have T:lB S S w w cE cE rho rho s.h (aT (aT s.h d .none) id (.az e J)):=⟨fun _ h=>h,fun _ _=>rfl,fun k hk=>⟨by
   rcases up k with⟨rfl,h⟩ | ⟨_,_,h⟩ | ⟨_,_,h⟩
   ·rw[hb];trivial
   ·rw[h]at hk;exact hk.elim
   ·rw[h]at hk;exact hk,fun h=>⟨trivial,rfl⟩⟩,fun k e2 hk=>by
   rcases up k with⟨rfl,h⟩ | ⟨_,_,h⟩ | ⟨_,_,h⟩
   ·rw[h]at hk;rw[hb];exact hk
   ·rw[h]at hk;cases hk
   rw[h]at hk;exact hk⟩
 have hval:∀g u,cC (rho id)=some g->cellAt w g (i*r.length+j) u->u=rho d:=fun g u hg hu=>by
  obtain⟨i0,ws,U,Z,Y,q4,q5,q6⟩:=hR;obtain⟨u2,p1,p2⟩:=q6 i r j _ hr hj;have p2:aY S w A.C.P cE rho s.h (.ow d) u2:=p2;have:=(p2.cH (by rw[Sm];trivial)).2;rw[<-this];have xj:=q4 r (aad hr);rcases Y.2 with⟨hn,_⟩ | ⟨g',cap,cur,hv,_,DG,k1,k2,k3,k4⟩
  ·rw[hn]at hg;cases hg
  rw[hv]at hg;obtain rfl:=iP.1 hg;refine nn hu ⟨cur,_,_,DG,?_⟩;rw[xj];rw[<-k4,aa7]at p1;split at p1
  ·simpa using p1
  cases p1
 have f_:∀g k p v,cC (rho id)=some g->dF w J g k p v->(dF w es g k p v/\¬(k=i/\p=j))\/(k=i/\p=j/\v=rho d):=by
  intro g k p v hg hc;obtain⟨q,e2,MI,U,Z,Y⟩:=dT.1 hc;rw[qw]at U;rcases iF U with⟨rfl,rfl,_⟩ | ⟨hk,U⟩
  ·rw[aaM]at Y;rcases iF Z with⟨rfl,_,_⟩ | ⟨hp,Z⟩
   ·exact .inr ⟨rfl,rfl,hval g v hg Y⟩
   exact .inl ⟨dT.2 ⟨r,e2,MI,hr,Z,Y⟩,fun h=>hp h.2⟩
  exact .inl ⟨dT.2 ⟨q,e2,MI,U,Z,Y⟩,fun h=>hk h.1⟩
 have L:∀g k p v b,cC (rho id)=some g->dF w es g k p v->cC v=some b->cC (rho d)≠some b:=fun g k p v b R h2 h3 h4=>
  hid (z.dj id d b trivial trivial bY XJ (by rw[hb,dS];exact .inr ⟨g,k,p,v,R,h2,h3⟩) (.inl h4))
 have D:∀k b,(aT (aT s.h d .none) id (.az e J) k).live->hasB w (aT (aT s.h d .none) id (.az e J) k) (rho k) b->∃o,(s.h o).live/\hasB w (s.h o) (rho o) b/\(o=k/\k≠d\/o=d/\k=id):=by
  intro k b hl ho;rcases up k with⟨rfl,h⟩ | ⟨_,_,h⟩ | ⟨R,_,h⟩
  ·rw[h,dS]at ho;rcases ho with ho | ⟨g,k',p,v,o1,o2,o3⟩
   ·exact⟨k,bY,.inl ho,.inl ⟨rfl,hid⟩⟩
   rcases f_ _ _ _ _ o1 o2 with⟨N,_⟩ | ⟨_,_,rfl⟩
   ·exact⟨k,bY,by rw[hb,dS];exact .inr ⟨g,k',p,v,o1,N,o3⟩,.inl ⟨rfl,hid⟩⟩
   exact⟨d,XJ,.inl o3,.inr ⟨rfl,rfl⟩⟩
  ·rw[h]at hl;exact hl.elim
  rw[h]at hl ho;exact⟨k,hl,ho,.inl ⟨rfl,R⟩⟩
 exact⟨S,rho,
 {tm:=fun k hk=>(z.tm k hk).cK T
  sz:=z.sz,df:=z.df,nb:=z.nb,pn:=z.pn
  ev:=z.ev,s0:=z.s0,st:=z.st,sb:=z.sb
  hp:=fun k _=>by
   show eK _ _ _ _ _ _ _ (aT (aT s.h d .none) id (.az e J) k);rcases up k with⟨rfl,h⟩ | ⟨_,_,h⟩ | ⟨R,b8,h⟩
   ·rw[h];refine⟨hR.re (by rw[qw,aaM]) (fun p q Z O I=>?_) (fun p q Z m x x2 v O I z3 V hcell W=>?_),⟨fun g p m v b N c2 c3=>?_,fun g p m p' m' v v' b N c2 c3 c4 c5=>?_⟩⟩
    ·rw[qw]at I;rcases iF I with⟨rfl,rfl,_⟩ | ⟨_,I⟩
     ·rw[hr]at O;injection O with O;rw[<-O,aaM]
     rw[O]at I;injection I with I;rw[I]
    ·have wx:rK S w A.C.P cE rho s.h x v->x2=x->rK S w A.C.P cE rho (aT (aT s.h d .none) k (.az e J)) x2 v:=fun W UJ=>by
      rw[UJ];cases x with
      | av y=>exact aY.cK T W
      | row e2 MI=>exact W
     rw[qw]at I;rcases iF I with⟨rfl,rfl,_⟩ | ⟨_,I⟩
     ·rw[hr]at O;injection O with O;subst O;rcases iF V with⟨rfl,rfl,_⟩ | ⟨_,V⟩
      ·have W:rK S w A.C.P cE rho s.h x v:=W;rw[hj]at z3;injection z3 with z3;subst z3;have W:aY S w A.C.P cE rho s.h (.ow d) v:=W;show aG A.C.P w (aO S w) e' xs v;rw[(W.cH (by rw[Sm];trivial)).2];exact Sn
      rw[z3]at V;injection V with V;exact wx W V.symm
     rw[O]at I;injection I with I;subst I;rw[z3]at V;injection V with V;exact wx W V.symm
    ·rcases f_ _ _ _ _ N c2 with⟨U,_⟩ | ⟨_,_,rfl⟩
     ·exact hS.top g p m v b N U c3
     intro Sq;subst Sq;exact hid (z.dj k d b trivial trivial bY XJ (.inl N) (.inl c3))
    rcases f_ _ _ _ _ N c2 with⟨U,Z⟩ | ⟨rfl,rfl,rfl⟩<;>rcases f_ _ _ _ _ N c3 with⟨Y,q4⟩ | ⟨rfl,rfl,rfl⟩
    ·exact hS.dis g p m p' m' v v' b N U Y c4 c5
    ·exact absurd c5 (L g p m v b N U c4)
    ·exact absurd c4 (L g p' m' v' b N Y c5)
    exact⟨rfl,rfl⟩
   ·rw[h];trivial
   rw[h];exact (z.hp k trivial).cK T (fun _ _ _=>rfl) (fun _=>rfl)
  dj:=fun k m b _ _ lk lm hk hm=>by
   obtain⟨o,o1,o2,o3⟩:=D k b lk hk;obtain⟨p,p1,p2,p3⟩:=D m b lm hm;have:=z.dj o p b trivial trivial o1 p1 o2 p2;subst this;rcases o3 with⟨rfl,o3⟩ | ⟨rfl,o3⟩<;>rcases p3 with⟨rfl,p3⟩ | ⟨h,p3⟩
   ·rfl
   ·exact absurd h o3
   ·exact absurd rfl p3
   rw[o3,p3]
  lv:=fun k b _ lk hk=>by
   obtain⟨o,o1,o2,_⟩:=D k b lk hk;exact z.lv o b trivial o1 o2
  fr:=z.fr }⟩
theorem au.Sr(hC:bI A.C)(s:AS)(id i j:Nat){r:List HX}{ti:TI}(hb:s.h id=.az e es)(Y:es[i]?=some r)(hj:r[j]?=some (.av .nl))(hT:A.C.T e'=some ti)(hpos:0<ti.size):
  au A s ⟨s.t,aT s.h id (.az e (es.set i (r.set j (.row e' []))))⟩:=by
 intro S rho a w Z;obtain⟨nH,qw⟩:∃nH,nH=es.set i (r.set j (.row e' [])):=⟨_,rfl⟩;rw[<-qw];have hh:=Z.hp id trivial;rw[hb]at hh;obtain⟨hR,hS⟩:=hh;obtain⟨info,z,h1,h2,_⟩:=hC.iq e' ti hT;have hval:∀g u,cC (rho id)=some g->cellAt w g (i*r.length+j) u->u=.slice none 0 0:=fun g u U hu=>by
  obtain⟨i0,ws,q1,O,V,q4,q5,q6⟩:=hR;obtain⟨u2,p1,p2⟩:=q6 i r j _ Y hj;have p2:aY S w A.C.P cE rho s.h .nl u2:=p2;have:u2=.slice none 0 0:=by cases p2;rfl
  rw[<-this];have xj:=q4 r (aad Y);rcases V.2 with⟨hn,_⟩ | ⟨g',cap,cur,hv,_,DG,k1,k2,k3,k4⟩
  ·rw[hn]at U;cases U
  rw[hv]at U;obtain rfl:=iP.1 U;refine nn hu ⟨cur,_,_,DG,?_⟩;rw[xj];rw[<-k4,aa7]at p1;split at p1
  ·simpa using p1
  cases p1
 have f_:∀g k p v b,cC (rho id)=some g->dF w nH g k p v->cC v=some b->dF w es g k p v:=by
  intro g k p v b U hc hv;obtain⟨q,e2,MI,q1,O,V⟩:=dT.1 hc;rw[qw]at q1;rcases iF q1 with⟨rfl,rfl,_⟩ | ⟨hk,q1⟩
  ·rw[aaM]at V;rcases iF O with⟨rfl,_,_⟩ | ⟨hp,O⟩
   ·rw[hval g v U V]at hv;cases hv
   exact dT.2 ⟨r,e2,MI,Y,O,V⟩
  exact dT.2 ⟨q,e2,MI,q1,O,V⟩
 refine⟨S,rho,Z.Cl hC id trivial (by rw[hb];trivial) _ (fun e2 h=>by rw[hb];exact h) w rfl rfl rfl rfl (fun _ _=>rfl) (fun T=>?_) (fun g h=>?_)⟩
 ·refine⟨hR.re (by rw[qw,aaM]) (fun p q O I D=>?_) (fun p q O m x x2 v I D W J hcell N=>?_),⟨fun g p m v b L c2 R=>hS.top g p m v b L (f_ _ _ _ _ _ L c2 R) R,fun g p m p' m' v v' b L c2 R c4 c5=>hS.dis g p m p' m' v v' b L (f_ _ _ _ _ _ L c2 c4) (f_ _ _ _ _ _ L R c5) c4 c5⟩⟩
  ·rw[qw]at D;rcases iF D with⟨rfl,rfl,_⟩ | ⟨_,D⟩
   ·rw[Y]at I;injection I with I;rw[<-I,aaM]
   rw[I]at D;injection D with D;rw[D]
  have wx:rK S w A.C.P cE rho s.h x v->x2=x->rK S w A.C.P cE rho (aT s.h id (.az e nH)) x2 v:=fun N UJ=>by
   rw[UJ];cases x with
   | av y=>exact aY.cK T N
   | row e2 MI=>exact N
  rw[qw]at D;rcases iF D with⟨rfl,rfl,_⟩ | ⟨_,D⟩
  ·rw[Y]at I;injection I with I;subst I;rcases iF J with⟨rfl,rfl,_⟩ | ⟨_,J⟩
   ·rw[hj]at W;injection W with W;subst W;have N:aY S w A.C.P cE rho s.h .nl v:=N;have:v=.slice none 0 0:=by cases N;rfl
    rw[this];exact⟨info,[],h1,by omega,⟨by simp,.inl ⟨rfl,rfl⟩⟩,by simp,by simp,by simp⟩
   rw[W]at J;injection J with J;exact wx N J.symm
  rw[I]at D;injection D with D;subst D;rw[W]at J;injection J with J;exact wx N J.symm
 rw[dS]at h;rw[hb,dS];rcases h with h | ⟨g',k,p,v,L,c2,R⟩
 ·exact .inl h
 exact .inr ⟨g',k,p,v,L,f_ _ _ _ _ _ L c2 R,R⟩
theorem Oi.map{l:List α}{f:α->List HX}{g:α->List PV}(h:∀x∈l,(g x).length=(f x).length/\∀(j:Nat) u v,(f x)[j]?=some u->(g x)[j]?=some v->Tr u v):Oi (l.map f) (l.map g):=
 ⟨by simp,fun a r q D z=>by
  rw[aak]at D z;obtain⟨x,I,rfl⟩:=acq.1 D;rw[I]at z;injection z with z;subst z;exact h x (aad I)⟩
theorem au.ID(hC:bI A.C)(s:AS)(id:Nat)(ps:List (List PV))(hb:s.h id=.az e es)(L:Oi es ps):au A s ⟨s.t,aT s.h id (.row e ps)⟩:=by
 intro S rho a w z;have hh:=z.hp id trivial;rw[hb]at hh;obtain⟨hR,hS⟩:=hh;have V:(s.h id).live:=by rw[hb];trivial
 obtain⟨I,hI⟩:∃I:Nat->Prop,I=fun b=>∃g k j u,cC (rho id)=some g/\dF w es g k j u/\cC u=some b:=⟨_,rfl⟩;have XK:∀b,I b->hasB w (s.h id) (rho id) b:=fun b h=>by rw[hI]at h;rw[hb,dS];exact .inr h
 have UK:∀b,I b->cC (rho id)≠some b:=fun b h J=>by
  rw[hI]at h;obtain⟨g,k,j,u,R,h2,h3⟩:=h;rw[R]at J;injection J with J;exact hS.top g k j u b R h2 h3 J.symm
 have T:lB S (fun b=>S b\/I b) w w cE cE rho rho s.h (aT s.h id (.row e ps)):=by
  refine⟨fun b h=>.inl h,fun _ _=>rfl,fun j D=>⟨?_,fun hl=>⟨hl,rfl⟩⟩,fun j e' D=>?_⟩
  ·rcases aW s.h id (.row e ps) j with⟨rfl,h⟩ | ⟨_,h⟩
   ·rw[hb];trivial
   rw[h]at D;exact D
  rcases aW s.h id (.row e ps) j with⟨rfl,h⟩ | ⟨_,h⟩
  ·rw[h]at D;rw[hb];exact D
  rw[h]at D;exact D
 have W:∀j,((aT s.h id (.row e ps)) j).live->(s.h j).live:=by
  intro j D;rcases aW s.h id (.row e ps) j with⟨rfl,h⟩ | ⟨R,h⟩
  ·exact V
  rw[h]at D;exact D
 have back:∀j g,hasB w (aT s.h id (.row e ps) j) (rho j) g->hasB w (s.h j) (rho j) g:=fun j g h=>by
  rcases aW s.h id (.row e ps) j with⟨rfl,h'⟩ | ⟨R,h'⟩
  ·rw[h']at h;exact .inl (aI rfl h)
  rw[h']at h;exact h
 exact⟨fun b=>S b\/I b,rho,
 {tm:=fun j D=>(z.tm j D).cK T
  sz:=z.sz,df:=z.df,nb:=z.nb,pn:=z.pn
  ev:=hC.env _ _ _ _ z.ev (fun b h=>.inl h) (fun _ _=>rfl) (aam _)
  s0:=fun b h=>.inl (z.s0 b h)
  st:=fun b h=>h.elim (z.st b) fun h=>(z.lv id b trivial V (XK b h)).1
  sb:=fun b h=>h.elim (z.sb b) fun h=>.inr (z.lv id b trivial V (XK b h)).2.2
  hp:=fun j D=>by
   rcases aW s.h id (.row e ps) j with⟨rfl,h⟩ | ⟨R,h⟩
   ·show eK _ _ _ _ _ _ _ (aT s.h j (.row e ps) j);rw[h];refine hR.re L.len (fun p q q2 U z2=>(L.row p q q2 U z2).1) (fun p q q2 m x x2 v U z2 z3 z4 N O=>?_);have:=(L.row p q q2 U z2).2 m x x2 z3 z4;cases this with
    | p x=>exact (aY.eR O).mono (fun b h=>.inl h) (fun _ _=>rfl)
    | nl=>
     have O:aY S w A.C.P cE rho s.h .nl v:=O;cases O;exact .nil _ _
    | row e' xs=>
     have O:aG A.C.P w (aO S w) e' xs v:=O;refine aG.DT O (fun b h=>.inl h) fun b hb'=>.inr ?_;rw[hI];obtain⟨g,u,g1,g2,_⟩:=hR.DO U z3;obtain⟨q',_,_,Y,_,c2⟩:=dT.1 g2;rw[U]at Y;injection Y with Y;subst Y;have:=nn (N g g1) c2;subst this;exact⟨g,p,m,v,g1,g2,hb'⟩
   show eK _ _ _ _ _ _ _ (aT s.h id (.row e ps) j);rw[h];exact (z.hp j D).cK T (fun _ _ _=>rfl) (fun _=>rfl)
  dj:=fun i j g hi D Z lj eM jH=>z.dj i j g hi D (W i Z) (W j lj) (back i g eM) (back j g jH)
  lv:=fun i g hi Z J=>by
   obtain⟨h3,h4,h5⟩:=z.lv i g hi (W i Z) (back i g J);refine⟨h3,fun h=>h.elim h4 fun h=>?_,h5⟩;have:=z.dj i id g hi trivial (W i Z) V (back i g J) (XK g h);subst this;have J:hasB w (aT s.h i (.row e ps) i) (rho i) g:=J;rw[aH]at J;exact UK g h (aI rfl J)
  fr:=z.fr }⟩
theorem au.MJ(hC:bI A.C)(s:AS)(id j:Nat)(cs:List AV)(hb:s.h id=.box cs)(I:cs[j]?=some .nl):au A s ⟨s.t,aT s.h id (.box (cs.set j (.p (.im (.slice none 0 0)))))⟩:=by
 intro S rho a w z;refine⟨S,rho,z.write hC id trivial (by rw[hb];trivial) _ (fun _ h=>by cases h) w rfl rfl rfl rfl (fun _ _=>rfl) fun T=>?_⟩;have J:=z.hp id trivial;rw[hb]at J;obtain⟨g,U,c,V,W,Y,L⟩:=J;refine⟨g,U,c,V,W,by rw[Y,aaM],fun q x u hi N=>?_⟩;by_cases O:q=j
 ·subst O;rw[ab7 (aD I)]at hi;injection hi with hi;subst hi;obtain⟨R,D⟩:=L q _ u I N;have:u=.slice none 0 0:=by cases D;rfl
  rw[this];exact⟨rfl,.p _ _ (.im _)⟩
 rw[ac5 (fun e=>O e.symm)]at hi;obtain⟨R,D⟩:=L q x u hi N;exact⟨R,D.cK T⟩
end Go.AM
namespace Go.AM
open Go.RowKit
theorem mj{C:Ctx}{o:Oper}{rho:Operand->AV}{h:Nat->AB}{K K':KK}(hk:∀v e n,K v e n->K' v e n)(z:bV C o rho h K):bV C o rho h K':=by
 obtain⟨v,e,n,D,I⟩:=q_ (fun _=>.inr rfl) z;exact I _ (hk _ _ _ D)
variable {K':AS->Prop} {s:AS}
theorem GZ{C:Ctx}{o:Oper}{K:AS->Prop}(hk:∀s,K s->K' s)(z:yn C o K s):yn C o K' s:=by
 unfold yn at z ⊢;split at z
 ·exact mj (fun v e n h=>hk _ h) z
 split at z
 ·split at z
  ·split at z
   ·split at z<;>exact hk _ z
   ·split at z<;>exact hk _ z
   exact hk _ z
  exact hk _ z
 refine mj (fun v e n h=>?_) z;cases n with
 | none=>exact hk _ h
 | some b=>exact h
theorem vq{C:Ctx}{o:Oper}{K:AS->Prop}(hk:∀s,K s->K' s)(z:step C o K s):step C o K' s:=by
 unfold step at z ⊢;split at z
 ·exact⟨hk _ z.1,hk _ z.2⟩
 exact GZ hk z
theorem oU{b:Bool}{p q z D:Prop}(I:p->z)(J:q->D)(h:pR b p q):pR b z D:=by
 cases b<;>simp only[pR]at h ⊢
 ·exact J h
 exact I h
theorem Ke{C:Ctx}{all:List Oper}{K:AS->Prop}(hk:∀s,K s->K' s):∀(l:List Oper) (s:AS),pZ C all l K s->pZ C all l K' s:=by
 intro l
 induction l with
 | nil=>intro s h;exact hk _ h
 | cons o l ih=>
  intro s h;unfold pZ at h ⊢;split at h
  ·exact vq ih h
  split at h
  ·exact h.elim
  split at h
  ·exact h.elim
  split at h
  ·rename_i want _ _ _ _ _ _ _;refine oU (fun h=>?_) (fun h=>?_) h
   ·split at h
    ·exact vq ih h
    exact ih _ h
   split at h
   ·exact vq ih h
   exact ih _ h
  ·exact ih _ h
  exact h.elim
theorem sH{C:Ctx}{ap f:Bool}{X:List Nat}{o:Oper}{K:AS->Prop}(hk:∀s,K s->K' s)(z:rR C ap X f o K s):rR C ap X f o K' s:=by
 unfold rR at z ⊢;split at z
 ·refine mj (fun v e n h=>?_) z;split at h
  ·exact h
  split at h
  ·split at h
   ·exact hk _ h
   exact h
  split at h
  ·exact hk _ h
  exact h
 exact z
theorem Kf{C:Ctx}{ap:Bool}{X:List Nat}{all:List Oper}{K:AS->Prop}(hk:∀s,K s->K' s):∀(l:List Oper) (z:List Bool) (s:AS),oS C ap X all z l K s->oS C ap X all z l K' s:=by
 intro l
 induction l with
 | nil=>intro z s h;cases z<;>exact hk _ h
 | cons o l ih=>
  intro z s h;cases z with
  | nil=>exact h
  | cons f z=>
  unfold oS at h ⊢;split at h
  ·exact sH (ih z) h
  split at h
  ·exact h.elim
  split at h
  ·exact h.elim
  split at h
  ·refine oU (fun h=>?_) (fun h=>?_) h
   ·split at h
    ·exact sH (ih z) h
    exact ih z _ h
   split at h
   ·exact sH (ih z) h
   exact ih z _ h
  ·exact ih z _ h
  exact h.elim
theorem vt{f z:AS->Prop}{K K':Exit->AS->Prop}(D:∀s,f s->z s)(hk:∀e s,K e s->K' e s):∀e s,n_ f K e s->n_ z K' e s:=by
 intro e s h;cases e<;>first | exact D _ h | exact hk _ _ h
theorem yH{id:Nat}{K K':Exit->AS->Prop}(hk:∀e s,K e s->K' e s):∀e s,Bk id K e s->Bk id K' e s:=by
 intro e s h;cases e<;>first | exact hk _ _ h | exact oU (hk _ _) (hk _ _) h
variable {A:cD}
theorem qx:∀(c:Code) (K K':Exit->AS->Prop) (s:AS),(∀e s,K e s->K' e s)->Ai A c K s->Ai A c K' s:=by
 intro c
 induction c with
 | skip=>intro K K' s hk h;exact hk _ _ h
 | region id ops draw=>
  intro K K' s hk h;cases draw with
  | false=>exact Ke (hk _) _ _ h
  | true=>obtain⟨X,h⟩:=h;exact⟨X,Kf (fun _ h=>hk _ _ h) _ _ _ h⟩
 | seq a b z D=>intro K K' s hk h;exact z _ _ _ (vt (fun s h=>by obtain⟨J,L,N⟩:=h;exact⟨J,L,D _ _ _ hk N⟩) hk) h
 | cond c a b z D=>
  intro K K' s hk h;simp only[Ai]at h ⊢;split at h
  ·exact oU (z _ _ _ hk) (D _ _ _ hk) h
  exact h
 | block id c ih=>intro K K' s hk h;exact ih _ _ _ (yH hk) h
 | loop c ih=>
  intro K K' s hk h;obtain⟨α,I,m,O,R⟩:=h;exact⟨α,I,m,O,fun x s hi=>ih _ _ _ (vt (fun _ h=>h) hk) (R x s hi)⟩
 | exit id=>intro K K' s hk h;exact hk _ _ h
 | ret=>intro K K' s hk h;exact hk _ _ h
 | rangeFunc=>intro K K' s _ h;exact h.elim
 | scope=>intro K K' s _ h;exact h.elim
 | label=>intro K K' s _ h;exact h.elim
 | goto=>intro K K' s _ h;exact h.elim
 | refuse=>intro K K' s _ h;exact h.elim
def wy{α:Type}(R:α->Prop)(ts:α->List (Nat×AV))(hs:α->List (Nat×AB))(s:AS):Prop:=∃y,R y/\mU (ts y) s.t/\mU (hs y) s.h
variable {α:Type}
theorem wy.go{R:α->Prop}{z:α->List (Nat×AV)}{D:α->List (Nat×AB)}{f:AS->Prop}(I:∀y,R y->∀t h,f ⟨oT (z y) t,oT (D y) h⟩)(h:wy R z D s):f s:=by
 obtain⟨y,J,L,N⟩:=h;have:=I y J s.t s.h
 rwa [tJ _ _ L,tJ _ _ N]at this
theorem cut{c:Code}{f:AS->Prop}{K:Exit->AS->Prop}(R:α->Prop)(z:α->List (Nat×AV))(D:α->List (Nat×AB))
  (I:∀y,R y->∀t h,f ⟨oT (z y) t,oT (D y) h⟩) (J:Ai A c (n_ (wy R z D) K) s):Ai A c (n_ f K) s:=
 qx c _ _ s (vt (fun _ h=>h.go I) fun _ _ h=>h) J
theorem G3{R:α->Prop}{z:α->List (Nat×AV)}{D:α->List (Nat×AB)}{K:Exit->AS->Prop}(I:∀y,R y->∀t h,K .normal ⟨oT (z y) t,oT (D y) h⟩):∀e s,n_ (wy R z D) K e s->K e s:=by
 intro e s h;cases e<;>first | exact h | exact wy.go I h
theorem XL{c:Code}{id:Nat}{K:Exit->AS->Prop}(R:α->Prop)(z:α->List (Nat×AV))(D:α->List (Nat×AB))
  (I:∀y,R y->∀t h,K .normal ⟨oT (z y) t,oT (D y) h⟩) (J:Ai A c (Bk id (n_ (wy R z D) K)) s):Ai A c (Bk id K) s:=
 qx c _ _ s (yH (G3 I)) J
end Go.AM
namespace Go.AM
open Go.RowKit
def Kg(d:Nat)(t:Nat->AV)(j:Nat):AV:=sc d (t j)
def Ej(d:Nat)(h:Nat->AB):Nat->AB:=aT (fun k=>xm d (h k)) d .none
def Zc(i d:Nat)(t:Nat->AV)(j:Nat):AV:=rn i d (t j)
def Zd(i d:Nat)(h:Nat->AB)(j:Nat):AB:=match cq j d with
 | true=>L8 i d (h i)
 | false=>match cq j i with
  | true=>.none
  | false=>L8 i d (h j)
def IE(o:Oper):Bool:=match o.op with
 | .assign _=>false
 | _=>true
def CP:AB->Bool
 | .row _ _=>true
 | .az _ _=>true
 | _=>false
abbrev TP:=(Nat->AV)->(Nat->AB)->Prop
def SG(G:TP)(K:AS->Prop):Prop:=∀t h,G t h->K ⟨t,h⟩
def XM(G:TP)(t:Nat->AV)(h:Nat->AB)(d:Nat):AV->Prop
 | .p x=>G (aT t d (.p x)) h
 | .nl=>G (aT t d .nl) h
 | .ow i=>G (aT t d (.ow i)) h
 | .rp i j k=>G (aT t d (.rp i j k)) h
 | .bx i j=>G (aT t d (.bx i j)) h
 | .vw i j k=>G (aT t d (.vw i j k)) h
 | .fn f c=>G (aT t d (.fn f c)) h
 | .tu x=>G (aT t d (.tu x)) h
 | .st x=>G (aT t d (.st x)) h
 | .junk=>G (aT t d .junk) h
def IF(G:TP)(t:Nat->AV)(d:Option Tmp)(v:AV):List (Nat×AB)->(Nat->AB)->Prop
 | (i,b)::r,h=>IF G t d v r (aT h i b)
 | [],h=>match d with
  | some d=>XM G t h d v
  | none=>G t h
def ML(d:Nat):AV->AV
 | .ow i=>match cq i d with
  | true=>.ow d
  | false=>.ow i
 | .bx i j=>match cq i d with
  | true=>.bx d j
  | false=>.bx i j
 | v=>v
theorem CQ(d:Nat)(v:AV):ML d v=v:=by
 unfold ML;split
 ·split
  ·rename_i h;rw[a7.1 h]
  rfl
 ·split
  ·rename_i h;rw[a7.1 h]
  rfl
 rfl
def Ze(G:TP)(d:Option Tmp)(t:Nat->AV)(h:Nat->AB):KK:=fun v e n=>match n with
 | none=>IF G t d v e h
 | some _=>False
def Wi(G:TP)(d:Option Tmp)(dd:Nat)(t:Nat->AV)(h:Nat->AB):KK:=fun v e n=>match n with
 | none=>match afu dd e with
  | true=>IF G t d v e h
  | false=>False
 | some b=>IF G t d (ML dd v) e (aT h dd b)
def Zf(G:TP)(t:Nat->AV)(h:Nat->AB)(d:Nat):AV->Prop
 | .ow i=>match CP (h i) with
  | false=>G (aT t d (.ow i)) h
  | true=>match cq i d with
   | true=>G (aT t d (.ow i)) h
   | false=>G (aT (Zc i d t) d (.ow d)) (Zd i d h)
 | v=>XM G t h d v
def MM(C:Ctx)(o:Oper)(G:TP)(t:Nat->AV)(h:Nat->AB):Prop:=match O0 C o t with
 | true=>IF G t o.dst (.p (.im (.bool true))) [] h/\IF G t o.dst (.p (.im (.bool false))) [] h
 | false=>match qp o.op with
  | true=>match o.dst with
   | some d=>bV C o (ev (Kg d t)) (Ej d h) (Wi G (some d) d (Kg d t) (Ej d h))
   | none=>bV C o (ev (Kg 0 t)) (Ej 0 h) (Wi G none 0 (Kg 0 t) (Ej 0 h))
  | false=>match o.op,o.dst with
   | .assign x,some d=>Zf G t h d (ev t x)
   | _,d=>bV C o (ev t) h (Ze G d t h)
def CR(all:List Oper)(o:Oper)(G1 G0:TP)(t:Nat->AV)(h:Nat->AB):Prop:=match o.guard with
 | none=>G1 t h
 | some (g,want)=>match all[g]? with
  | none=>False
  | some og=>match og.dst with
   | none=>False
   | some tg=>match t tg with
    | .p (.im (.bool b))=>@Bool.rec (fun _=>Prop)
     (match want with
      | false=>G1 (aT t tg (jh false)) h
      | true=>G0 (aT t tg (jh false)) h)
     (match want with
      | true=>G1 (aT t tg (jh true)) h
      | false=>G0 (aT t tg (jh true)) h) b
    | .p (.im (.tuple _))=>G0 t h
    | _=>False
def Kh(C:Ctx)(all:List Oper):List Oper->TP->TP
 | [],G,t,h=>G t h
 | o::r,G,t,h=>CR all o (MM C o (Kh C all r G)) (fun t h=>IF (Kh C all r G) t o.dst rH [] h) t h
section
variable {G:TP} {K:AS->Prop} {t:Nat->AV} {h:Nat->AB} {d:Tmp} {C:Ctx} {o:Oper}
theorem IG(H:SG G K){v:AV}(q:XM G t h d v):K ⟨aT t d v,h⟩:=by cases v<;>exact H _ _ q
theorem fP(H:SG G K){d:Option Tmp}{v:AV}:∀(e:List (Nat×AB)) {h:Nat->AB},IF G t d v e h->K ⟨fx t d v,app h e⟩
 | (i,b)::r,h,q=>fP H r (h:=aT h i b) q
 | [],h,q=>by cases d with
  | none=>exact H _ _ q
  | some d=>exact IG H q
theorem Bn(d:Nat)(h:Nat->AB):Ej d h d=.none:=by unfold Ej;rw[aH]
theorem IH(H:SG G K){d:Option Tmp}{z:Nat}{v:AV}{e:List (Nat×AB)}{n:Option AB}(D:h z=.none)(q:Wi G d z t h v e n):K ⟨fx t d v,match n with
  | none=>aT (app h e) z .none
  | some b=>app (aT h z b) e⟩:=by
 unfold Wi at q;cases n with
 | none=>
  simp only at q ⊢;cases hn:afu z e with
  | false=>rw[hn]at q;exact q.elim
  | true=>
   rw[hn]at q;have:aT (app h e) z .none=app h e:=jf _ _ _ ((l9 (h:=h) hn).trans D);rw[this];exact fP H e q
 | some b=>rw[CQ]at q;exact fP H e q
theorem Bo(H:SG G K)(q:MM C o G t h):step C o K ⟨t,h⟩:=by
 unfold step;unfold MM at q;cases hn:O0 C o t with
 | true=>
  simp only[hn]at q ⊢;exact⟨fP H [] q.1,fP H [] q.2⟩
 | false=>
  simp only[hn]at q ⊢;unfold yn;cases hm:qp o.op with
  | true=>
   rw[hm]at q;simp only at q ⊢;cases z:o.dst with
   | some d=>
    rw[z]at q;exact mj (fun v e n hk=>by
     have:=IH H (Bn _ _) hk;cases n<;>exact this) q
   | none=>
    rw[z]at q;exact mj (fun v e n hk=>by
     have:=IH H (Bn _ _) hk;cases n<;>exact this) q
  | false=>
   rw[hm]at q;simp only at q ⊢;split
   ·rename_i x d D z;rw[D,z]at q;simp only at q;unfold Zf at q;split
    ·rename_i i hi;rw[hi]at q;simp only at q;cases hb:h i<;>rw[hb]at q<;>simp only[CP]at q ⊢<;>first | exact H _ _ q | (cases J:cq i d<;>rw[J]at q<;>exact H _ _ q)
    rename_i I;split at q
    ·rename_i i hi;exact absurd hi (I i)
    exact IG H q
   rename_i I;have hk:bV C o (ev t) h (Ze G o.dst t h):=by
    split at q
    ·rename_i x d D z;exact absurd z (I x d D)
    exact q
   exact mj (fun v e n hk=>by cases n<;>first | exact fP H e hk | exact hk.elim) hk
theorem Ek{all:List Oper}(H:SG G K):∀(l:List Oper) {t:Nat->AV} {h:Nat->AB},Kh C all l G t h->pZ C all l K ⟨t,h⟩
 | [],t,h,q=>H _ _ q
 | o::r,t,h,q=>by
  have ih:SG (Kh C all r G) (pZ C all r K):=fun _ _ q=>Ek H r q;unfold Kh CR at q;unfold pZ;split at q
  ·rename_i D;(try simp only[D]);exact Bo ih q
  rename_i g z D
  (try simp only[D])
  split at q
  ·exact q.elim
  rename_i og J
  (try simp only[J])
  split at q
  ·exact q.elim
  rename_i tg L
  (try simp only[L])
  split at q
  ·rename_i b I
   (try simp only[I])
   cases b<;>cases z<;>first | exact Bo ih q | exact fP ih [] q
  ·rename_i xs I
   (try simp only[I])
   exact fP ih [] q
  exact q.elim
end
def Wj(C:Ctx)(ap:Bool)(X:List Nat)(f:Bool)(o:Oper)(G:TP)(t:Nat->AV)(h:Nat->AB):KK:=fun v e n=>match sE o.op n o.dst with
 | false=>False
 | true=>match e with
  | []=>match o.dst with
   | some d=>IF G t (some d) (ML d v) [] (qd h d n)
   | none=>IF G t none v [] (qd h 0 n)
  | p::e=>match Nat.beq (cls C ap o.op) 3&&(iw h (p::e)&&(ap||kj h (p::e))&&Ot X f h (p::e)) with
   | false=>False
   | true=>match n with
    | none=>IF G t o.dst v (p::e) h
    | some b=>match o.dst with
     | some d=>IF G t (some d) (ML d v) ((p::e)++[(d,b)]) h
     | none=>IF G t none v ((p::e)++[(0,b)]) h
def Bp(C:Ctx)(ap:Bool)(X:List Nat)(all:List Oper):List Bool->List Oper->TP->TP
 | _,[],G,t,h=>G t h
 | [],_::_,_,_,_=>False
 | f::fl,o::r,G,t,h=>CR all o (fun t h=>match yw C ap X f o (ev t) with
   | true=>bV C o (ev t) h (Wj C ap X f o (Bp C ap X all fl r G) t h)
   | false=>False) (fun t h=>IF (Bp C ap X all fl r G) t o.dst rH [] h) t h
def Ki:List Oper->TP->TP
 | [],G,t,h=>G t h
 | o::r,G,t,h=>match qp o.op with
  | true=>match o.dst with
   | some d=>Ki r G (Kg d t) (Ej d h)
   | none=>Ki r G (Kg 0 t) (Ej 0 h)
  | false=>Ki r G t h
def wz:List Oper->TP->TP
 | [],G,t,h=>G t h
 | o::r,G,t,h=>match IE o with
  | true=>wz r G t h
  | false=>match o.dst with
   | none=>False
   | some d=>match t d with
    | .ow i=>match CP (h i) with
     | false=>wz r G t h
     | true=>match cq i d with
      | true=>wz r G t h
      | false=>wz r G (Zc i d t) (Zd i d h)
    | _=>wz r G t h
theorem yI(d:Nat)(b:AB):∀(e:List (Nat×AB)) (h:Nat->AB),app h (e++[(d,b)])=aT (app h e) d b
 | [],h=>rfl
 | (i,x)::r,h=>yI d b r (aT h i x)
section
variable {C:Ctx} {all:List Oper} {G:TP} {K:AS->Prop} {o:Oper} {t:Nat->AV} {h:Nat->AB} {ap:Bool} {X:List Nat} {f:Bool}
theorem Pj(H:SG G K){v:AV}{e:List (Nat×AB)}{n:Option AB}(q:Wj C ap X f o G t h v e n):match sE o.op n o.dst with
  | false=>False
  | true=>match Nat.beq (cls C ap o.op) 3 with
   | true=>match iw h e&&(ap||kj h e)&&Ot X f h e with
    | true=>K ⟨fx t o.dst v,qd (app h e) (o.dst.getD 0) n⟩
    | false=>False
   | false=>match e with
    | []=>K ⟨fx t o.dst v,qd h (o.dst.getD 0) n⟩
    | _=>False:=by
 unfold Wj at q;cases hn:sE o.op n o.dst with
 | false=>rw[hn]at q;exact q.elim
 | true=>
  rw[hn]at q;simp only at q ⊢;cases e with
  | nil=>
   have:K ⟨fx t o.dst v,qd h (o.dst.getD 0) n⟩:=by
    cases hd:o.dst with
    | some d=>rw[hd]at q;simp only[CQ]at q;exact fP H [] q
    | none=>rw[hd]at q;exact fP H [] q
   simp only[iw,kj,Iw,ads,ac7];split<;>exact this
  | cons p e=>
   simp only at q;cases h1:Nat.beq (cls C ap o.op) 3 with
   | false=>rw[h1]at q;exact q.elim
   | true=>
    rw[h1]at q;simp only[adr]at q ⊢;cases h2:iw h (p::e)&&(ap||kj h (p::e))&&Ot X f h (p::e) with
    | false=>rw[h2]at q;exact q.elim
    | true=>
     rw[h2]at q;simp only at q ⊢;cases n with
     | none=>exact fP H (p::e) q
     | some b=>
      cases hd:o.dst with
      | some d=>
       rw[hd]at q;simp only[CQ]at q;have:=fP H _ q;rw[yI]at this;exact this
      | none=>
       rw[hd]at q;have:=fP H _ q;rw[yI]at this;exact this
theorem yJ(H:SG G K) (q:match yw C ap X f o (ev t) with
   | true=>bV C o (ev t) h (Wj C ap X f o G t h)
   | false=>False):rR C ap X f o K ⟨t,h⟩:=by
 unfold rR;split at q
 ·rename_i hl;simp only[hl];exact mj (fun v e n hk=>by
   have:=Pj H hk;unfold sE at this ⊢;cases n<;>cases e<;>exact this) q
 exact q.elim
theorem Bq(H:SG G K):∀(z:List Bool) (l:List Oper) {t:Nat->AV} {h:Nat->AB},Bp C ap X all z l G t h->oS C ap X all z l K ⟨t,h⟩
 | z,[],t,h,q=>by cases z<;>exact H _ _ q
 | [],_::_,_,_,q=>q.elim
 | f::z,o::r,t,h,q=>by
  have ih:SG (Bp C ap X all z r G) (oS C ap X all z r K):=fun _ _ q=>Bq H z r q;unfold Bp CR at q;unfold oS;split at q
  ·rename_i I;(try simp only[I]);exact yJ ih q
  rename_i g D I
  (try simp only[I])
  split at q
  ·exact q.elim
  rename_i og L
  (try simp only[L])
  split at q
  ·exact q.elim
  rename_i tg N
  (try simp only[N])
  split at q
  ·rename_i b J
   (try simp only[J])
   cases b<;>cases D<;>first | exact yJ ih q | exact fP ih [] q
  ·rename_i xs J
   (try simp only[J])
   exact fP ih [] q
  exact q.elim
theorem tL(H:SG G K):∀(l:List Oper) {t:Nat->AV} {h:Nat->AB},Ki l G t h->K (yC l ⟨t,h⟩)
 | [],_,_,q=>H _ _ q
 | o::r,t,h,q=>by
  unfold Ki at q;unfold yC;cases hm:qp o.op with
  | true=>
   rw[hm]at q;cases hd:o.dst with
   | some d=>rw[hd]at q;exact tL H r q
   | none=>rw[hd]at q;exact tL H r q
  | false=>rw[hm]at q;exact tL H r q
theorem lW(H:SG G K):∀(l:List Oper) {t:Nat->AV} {h:Nat->AB},wz l G t h->K (Bj l ⟨t,h⟩)
 | [],_,_,q=>H _ _ q
 | o::r,t,h,q=>by
  unfold wz at q;show K (Bj r (yD o _));unfold yD;cases hm:IE o with
  | true=>
   rw[hm]at q;have:∀x,o.op≠.assign x:=fun x z=>by rw[IE,z]at hm;cases hm
   split
   ·rename_i x d z _;exact absurd z (this _)
   exact lW H r q
  | false=>
   rw[hm]at q;simp only at q;split at q
   ·exact q.elim
   rename_i d J;have D:∃x,o.op=.assign x:=by
    unfold IE at hm;split at hm
    ·rename_i x z;exact⟨x,z⟩
    cases hm
   obtain⟨x,D⟩:=D;rw[D,J];simp only;split at q
   ·rename_i i I
    (try simp only[I])
    cases hb:h i<;>rw[hb]at q<;>simp only[CP]at q ⊢<;>first
     | exact lW H r q
     | (cases L:cq i d<;>rw[L]at q<;>exact lW H r q)
   rename_i N
   first
    | exact lW H r q
    | (
      split
      ·rename_i i I;exact absurd I (N i)
      exact lW H r q)
end
def G4:Code->Option Nat
 | .seq a _=>G4 a
 | .region i _ _=>some i
 | .block _ c=>G4 c
 | .cond _ x y=>match G4 x with
  | some i=>some i
  | none=>G4 y
 | .loop c=>G4 c
 | _=>none
def Kj(k:Nat):List Nat->Bool
 | []=>false
 | i::r=>match cq i k with
  | true=>true
  | false=>Kj k r
def UL(l:List Nat):Option Nat->Bool
 | some k=>Kj k l
 | none=>false
def MN(f:TP)(K:Exit->TP):Exit->TP
 | .normal=>f
 | .exit i=>K (.exit i)
 | .ret=>K .ret
 | e=>K e
def Pk(id:Nat)(K:Exit->TP):Exit->TP
 | .exit i=>fun t h=>match cq i id with
  | true=>K .normal t h
  | false=>K (.exit i) t h
 | .normal=>K .normal
 | .ret=>K .ret
 | e=>K e
structure Hint where
 M:List Nat
 B:List Nat
 X:List (Nat×List Nat)
 K:List Nat
 F:List (Nat×List Bool)
 S:List Nat
def Pm{α:Type}(d:α)(k:Nat):List (Nat×α)->α
 | []=>d
 | (i,x)::r=>match cq i k with
  | true=>x
  | false=>Pm d k r
def UM:List Oper->List Bool
 | []=>[]
 | _::r=>true::UM r
def UN(Q:Hint)(id:Nat)(l:List Oper):List Bool:=Pm (UM l) id Q.F
def mn(Q:Hint)(C:Ctx):Code->Bool
 | .region id ops draw=>!draw||(decide ((ops.toList.any fun o=>jI C o.op)=Kj id Q.K)&&decide (ji C (Kj id Q.K) ops=UN Q id ops.toList))
 | .seq a b=>mn Q C a&&mn Q C b
 | .cond _ a b=>mn Q C a&&mn Q C b
 | .block _ c=>mn Q C c
 | .loop c=>mn Q C c
 | _=>true
structure LW(Q:Hint)(A:cD)(c:Code)(K:Exit->TP)(t:Nat->AV)(h:Nat->AB):Prop where
 out:mn Q A.C c=true->Ai A (.loop c) (fun e s=>K e s.t s.h) ⟨t,h⟩
structure SW(Q:Hint)(A:cD)(a b:Code)(K:Exit->TP)(t:Nat->AV)(h:Nat->AB):Prop where
 out:mn Q A.C a=true->mn Q A.C b=true->Ai A (.seq a b) (fun e s=>K e s.t s.h) ⟨t,h⟩
structure BW(Q:Hint)(A:cD)(c:Code)(id:Nat)(K:Exit->TP)(t:Nat->AV)(h:Nat->AB):Prop where
 out:mn Q A.C c=true->Ai A (.block id c) (fun e s=>K e s.t s.h) ⟨t,h⟩
def iR(Q:Hint)(A:cD):Code->(Exit->TP)->TP
 | .skip,K,t,h=>K .normal t h
 | .region id ops draw,K,t,h=>match draw with
  | false=>Kh A.C ops.toList ops.toList (K .normal) t h
  | true=>Ki ops.toList (Bp A.C (Kj id Q.K) (Pm [] id Q.X) ops.toList (UN Q id ops.toList) ops.toList (wz ops.toList (K .normal))) t h
 | .seq a b,K,t,h=>match UL Q.S (G4 b),UL Q.M (G4 b) with
  | true,_=>SW Q A a b K t h
  | false,false=>iR Q A a (MN (iR Q A b K) K) t h
  | false,true=>iR Q A a (MN (fun t h=>∃mN,au A ⟨t,h⟩ mN/\iR Q A b K mN.t mN.h) K) t h
 | .cond c a b,K,t,h=>match ev t c with
  | .p (.im (.bool x))=>@Bool.rec (fun _=>Prop) (iR Q A b K t h) (iR Q A a K t h) x
  | _=>False
 | .block id c,K,t,h=>match Kj id Q.B with
  | false=>iR Q A c (Pk id K) t h
  | true=>BW Q A c id K t h
 | .loop c,K,t,h=>LW Q A c K t h
 | .exit id,K,t,h=>K (.exit id) t h
 | .ret,K,t,h=>K .ret t h
 | _,_,_,_=>False
variable {Q:Hint} {A:cD}
theorem oa:∀(c:Code) {G:Exit->TP} {K:Exit->AS->Prop} {t:Nat->AV} {h:Nat->AB},mn Q A.C c=true->(∀e,SG (G e) (K e))->iR Q A c G t h->Ai A c K ⟨t,h⟩:=by
 intro c
 induction c with
 | skip=>intro G K t h z H q;exact H _ _ _ q
 | region id ops draw=>
  intro G K t h z H q;cases draw with
  | false=>exact Ek (H .normal) _ q
  | true=>
   simp only[mn,aaR,abv,aaZ,aaH]at z;refine⟨Pm [] id Q.X,?_⟩;rw[z.1,z.2];exact tL (fun _ _ q=>Bq (fun _ _ q=>lW (H .normal) _ q) _ _ q) _ q
 | seq a b D I=>
  intro G K t h z H q;simp only[mn,aaZ]at z;unfold iR at q;split at q
  ·exact qx (.seq a b) _ _ _ (fun e s q=>H e _ _ q) (q.out z.1 z.2)
  ·refine D z.1 (fun e t h q=>?_) q;cases e with
   | normal=>exact⟨_,au.refl _ _,I z.2 H q⟩
   | _=>exact H _ _ _ q
  refine D z.1 (fun e t h q=>?_) q;cases e with
  | normal=>
   obtain⟨J,hl,q⟩:=q;exact⟨J,hl,I z.2 H q⟩
  | _=>exact H _ _ _ q
 | cond c a b D I=>
  intro G K t h z H q;simp only[mn,aaZ]at z;unfold iR at q;unfold Ai;split at q
  ·rename_i x L;simp only[L];cases x
   ·exact I z.2 H q
   exact D z.1 H q
  exact q.elim
 | block id c ih=>
  intro G K t h z H q;unfold iR at q;split at q
  ·refine ih z (fun e t h q=>?_) q;cases e with
   | exit i=>
    show pR (cq i id) _ _;simp only[Pk]at q;cases hb:cq i id<;>rw[hb]at q<;>exact H _ _ _ q
   | _=>exact H _ _ _ q
  exact qx (.block id c) _ _ _ (fun e s q=>H e _ _ q) (q.out z)
 | loop c ih=>intro G K t h z H q;exact qx (.loop c) _ _ _ (fun e s q=>H e _ _ q) (q.out z)
 | exit id=>intro G K t h z H q;exact H _ _ _ q
 | ret=>intro G K t h z H q;exact H _ _ _ q
 | rangeFunc=>intro G K t h z H q;exact q.elim
 | scope=>intro G K t h z H q;exact q.elim
 | label=>intro G K t h z H q;exact q.elim
 | goto=>intro G K t h z H q;exact q.elim
 | refuse=>intro G K t h z H q;exact q.elim
variable {α:Type}
theorem aJ{c:Code}{K:Exit->TP}{t:Nat->AV}{h:Nat->AB}(R:α->Prop)(D:α->List (Nat×AV))(I:α->List (Nat×AB))(m:α->Nat)(x0:α)(s0:AS)(L:au A ⟨t,h⟩ s0)(N:R x0)(O:mU (D x0) s0.t)(U:mU (I x0) s0.h)
  (z:∀x,R x->∀t h,iR Q A c (MN (fun t h=>∃y J,au A ⟨t,h⟩ J/\R y/\m y<m x/\mU (D y) J.t/\mU (I y) J.h) K) (oT (D x) t) (oT (I x) h)):LW Q A c K t h:=
 ⟨fun V=>Pc R D I m x0 s0 L N O U fun x W t h=>oa c V (fun e t h q=>by cases e<;>exact q) (z x W t h)⟩
theorem p7{c:Code}{id:Nat}{K:Exit->TP}{t:Nat->AV}{h:Nat->AB}(R:α->Prop)(z:α->List (Nat×AV))(D:α->List (Nat×AB))
  (I:∀y,R y->∀t h,K .normal (oT (z y) t) (oT (D y) h)) (J:iR Q A c (Pk id (MN (fun t h=>∃y,R y/\mU (z y) t/\mU (D y) h) K)) t h):BW Q A c id K t h:=
 ⟨fun L=>XL R z D I (oa c L (K:=Bk id (n_ (wy R z D) fun e s=>K e s.t s.h)) (fun e t h q=>by
  cases e with
  | exit i=>
   show pR (cq i id) _ _;simp only[Pk]at q;cases hb:cq i id<;>rw[hb]at q<;>exact q
  | _=>exact q) J)⟩
theorem XN{a b:Code}{K:Exit->TP}{t:Nat->AV}{h:Nat->AB}(R:α->Prop)(z:α->List (Nat×AV))(D:α->List (Nat×AB))
  (I:∀y,R y->∀t h,iR Q A b K (oT (z y) t) (oT (D y) h)) (J:iR Q A a (MN (fun t h=>∃y,R y/\mU (z y) t/\mU (D y) h) K) t h):SW Q A a b K t h:=
 ⟨fun L hb=>cut R z D (fun y N t h=>⟨_,au.refl _ _,oa b hb (fun _ _ _ q=>q) (I y N t h)⟩) (oa a L (K:=n_ (wy R z D) fun e s=>K e s.t s.h) (fun e t h q=>by cases e<;>exact q) J)⟩
theorem qy{G:TP}{t:Nat->AV}{h:Nat->AB}{z:AS}(hl:au A ⟨t,h⟩ z)(q:G z.t z.h):∃D,au A ⟨t,h⟩ D/\G D.t D.h:=⟨z,hl,q⟩
theorem xp{G:TP}{t:Nat->AV}{h:Nat->AB}(d:Nat){y:PV}{fz:List (Nat×AB)}(hC:bI A.C)(D:AM.gD h (t d) fun I J=>I=y/\J=fz)(q:G (aT t d (.p y)) (app h fz)):∃z,au A ⟨t,h⟩ z/\G z.t z.h:=⟨_,au.gD hC ⟨t,h⟩ d D,q⟩
theorem zB:(∀(p:Prop) [Decidable p],(decide p=true)=p)/\(∀(p:Prop) [Decidable p],(decide p=false)=¬p)/\(∀(α:Type) [_root_.LE α] (a b:α),(a>=b)=(b<=a))/\(∀(α:Type) [_root_.LT α] (a b:α),(a>b)=(b<a))/\(∀b:Bool,((!b)=true)=(b=false))/\(∀b:Bool,((!b)=false)=(b=true)):=
 ⟨fun p _=>by simp,fun p _=>by simp,fun _ _ _ _=>rfl,fun _ _ _ _=>rfl,fun b=>by simp,fun b=>by simp⟩
class Ss(b:Bool)(p q:outParam Prop):Prop where
 yes:b=true->p
 no:b=false->q
instance (priority:=10) XO {b:Bool}:Ss b (b=true) (b=false):=⟨id,id⟩
instance aaK{p:Prop}[Decidable p]:Ss (decide p) p (¬p):=⟨abJ,of_decide_eq_false⟩
instance Zg{α:Type}[_root_.LE α]{a b:α}[Decidable (a>=b)]:Ss (decide (a>=b)) (b<=a) (¬b<=a):=⟨abJ,of_decide_eq_false⟩
instance Zh{α:Type}[_root_.LT α]{a b:α}[Decidable (a>b)]:Ss (decide (a>b)) (b<a) (¬b<a):=⟨abJ,of_decide_eq_false⟩
instance aaL{b:Bool}{p q:Prop}[i:Ss b p q]:Ss (!b) q p:=⟨fun h=>i.no (by simpa using h),fun h=>i.yes (by simpa using h)⟩
theorem Z{α:Sort _}{a:α}:a=a:=rfl
theorem Y:True:=trivial
theorem wO{p q:Prop}(h:p/\q):p/\q:=h
theorem iW{b:Bool}{P Q p q:Prop}[k:Ss b p q](f:p->P)(g:q->Q):@Bool.rec (fun _=>Prop) Q P b:=by
 cases b
 ·exact g (k.no rfl)
 exact f (k.yes rfl)
structure Kk where
 w0:World
 mv:Nat->Prop
 s0:Nat->Prop
 n:Nat
 pin:Nat->Value
def Kl (Q : Hint) (C : Ctx) (fn : Func) (c : Code) (k : Nat) : Bool := !(fn.name == "runtime.NumGoroutine") && (Nat.ble (k + (fn.ntmps - k)) 100000 && (kQ C (k + (fn.ntmps - k)) c && mn Q C c))
variable {fn:Func} {args:List Arg} {fin:List Fin}
theorem Zi(Q:Hint){C:Ctx}(hC:bI C){f:FuncId}{c:Code}{r:AR}(O:C.P.funcs[f]?=some fn)(hb:fn.body=some c)(hk:Kl Q C fn c args.length=true)
  (K:Kk->Exit->TP) (R:∀p e t h,K p e t h->∃z,au ⟨C,p.w0,p.mv,p.s0,p.n,p.pin⟩ ⟨t,h⟩ z/\GC C fn.results.toList args r fin e z)
  (h:∀p:Kk,∃D,au ⟨C,p.w0,p.mv,p.s0,p.n,p.pin⟩ ⟨tF args,afb args⟩ D/\iR Q ⟨C,p.w0,p.mv,p.s0,p.n,p.pin⟩ c (K p) D.t D.h):af C f args r fin:=by
 simp only[Kl,aaZ,ael,Nat.ble_eq]at hk;refine R3 hC O hb hk.1 (by omega) fun A U I S rho a w J=>?_;obtain⟨_,w0,mv,s0,n,pin⟩:=A;subst U;obtain⟨D,hl,V⟩:=h ⟨w0,mv,s0,n,pin⟩;obtain⟨S',rho',W⟩:=hl S rho a w J;have:=Ka hC c (fun e s=>∃z,au ⟨_,w0,mv,s0,n,pin⟩ s z/\GC _ fn.results.toList args r fin e z) D (by show kQ _ _ c=true;rw[I];exact hk.2.2.1) (oa c hk.2.2.2 (fun e t h q=>R _ e t h q) V) S' rho' a w W;refine wp_mono this fun e Y w' Z=>?_;obtain⟨S2,Sc,s3,L,s4,N,hk⟩:=Z;obtain⟨S5,XP,JP⟩:=N S2 Sc Y w' L;exact⟨S5,XP,s4,JP,hk⟩
theorem UO(Q:Hint){C:Ctx}(hC:bI C){f:FuncId}{c:Code}{r:AR}(I:C.P.funcs[f]?=some fn)(hb:fn.body=some c)(hk:Kl Q C fn c args.length=true)
  (h:∀p:Kk,∃z,au ⟨C,p.w0,p.mv,p.s0,p.n,p.pin⟩ ⟨tF args,afb args⟩ z/\iR Q ⟨C,p.w0,p.mv,p.s0,p.n,p.pin⟩ c (fun e t h=>∃D,au ⟨C,p.w0,p.mv,p.s0,p.n,p.pin⟩ ⟨t,h⟩ D/\GC C fn.results.toList args r fin e D) z.t z.h):af C f args r fin:=
 Zi Q hC I hb hk _ (fun _ _ _ _ q=>q) h
theorem UP(Q:Hint){C:Ctx}(hC:bI C){f:FuncId}{c:Code}{r:AR}(D:C.P.funcs[f]?=some fn)(hb:fn.body=some c)(hk:Kl Q C fn c args.length=true)
  (h:∀p:Kk,∃z,au ⟨C,p.w0,p.mv,p.s0,p.n,p.pin⟩ ⟨tF args,afb args⟩ z/\iR Q ⟨C,p.w0,p.mv,p.s0,p.n,p.pin⟩ c (fun e t h=>GC C fn.results.toList args r fin e ⟨t,h⟩) z.t z.h):af C f args r fin:=
 Zi Q hC D hb hk _ (fun _ _ _ _ q=>⟨_,au.refl _ _,q⟩) h
theorem uX(Q:Hint){C:Ctx}(hC:bI C){f:FuncId}{c:Code}{r:AR}(z:C.P.funcs[f]?=some fn)(hb:fn.body=some c)(hk:Kl Q C fn c args.length=true)
  (h:∀p:Kk,iR Q ⟨C,p.w0,p.mv,p.s0,p.n,p.pin⟩ c (fun e t h=>GC C fn.results.toList args r fin e ⟨t,h⟩) (tF args) (afb args)):af C f args r fin:=
 UP Q hC z hb hk fun p=>⟨_,au.refl _ _,h p⟩
theorem fW{C:Ctx}(hC:bI C){f:FuncId}{c:Code}{r:AR}(z:C.P.funcs[f]?=some fn)(hb:fn.body=some c)(hk:Kl ⟨[],[],[],[],[],[]⟩ C fn c args.length=true)
  (h:∀p:Kk,iR ⟨[],[],[],[],[],[]⟩ ⟨C,p.w0,p.mv,p.s0,p.n,p.pin⟩ c (fun e t h=>GC C fn.results.toList args r fin e ⟨t,h⟩) (tF args) (afb args)):af C f args r fin:=uX _ hC z hb hk h
end Go.AM
namespace Go.AM
open Go.RowKit
def xI (C : Ctx) (f : FuncId) : Prop := ∃ fn : Func, C.P.funcs[f]? = some fn ∧ (fn.name == "runtime.NumGoroutine") = false ∧ fn.body.isNone = false
variable {w:World}
theorem xJ{S:Nat->Prop}{P:Program}{z:List Value}{vs:Array Value}(hl:(z.map fun a=>Arg.pv (.im a)).length=vs.size)(I:∀(j:Nat) x v,(z.map fun a=>Arg.pv (.im a))[j]?=some x->vs[j]?=some v->F7 S w P x v):vs=z.toArray:=by
 apply adR;apply ach;intro i;by_cases hi:i<z.length
 ·have J:(z.map fun a=>Arg.pv (.im a))[i]?=some (.pv (.im z[i])):=by rw[aak,acg hi];rfl
  have D:i<vs.size:=by rw[<-hl];simpa using hi
  have L:=I i _ vs[i] J (aa1 D);have N:vs[i]=z[i]:=by
   have:aO S w (.im z[i]) vs[i]:=L;generalize vs[i]=v at this;cases this;rfl
  rw[aek,aa1 D,N];simp[hi]
 rw[abI (by simpa [<-hl] using hi)];rw[abI (by simpa using hi)]
theorem CS{S:Nat->Prop}{P:Program}:∀l:List Value,eL S w P (l.map fun a=>Arg.pv (.im a)) [] l:=by
 intro l
 induction l with
 | nil=>trivial
 | cons a l ih=>exact ih
theorem tM:∀(l:List Value) (i g:Nat),¬du w (l.map fun a=>Arg.pv (.im a)) [] l i g:=by
 intro l
 induction l with
 | nil=>exact fun i g h=>h
 | cons a l ih=>
  intro i g h;cases i with
  | zero=>exact h
  | succ i=>exact ih i g h
theorem El{w':World}(l:List Value):ta w w' (l.map fun a=>Arg.pv (.im a)) [] l.toArray:=⟨fun i g h=>(tM l i g h).elim,fun i j g h=>(tM l i g h).elim⟩
theorem vv{C:Ctx}{f:FuncId}(D:List Value)(r:Value)(I:xI C f)(h:∀S w,C.E S w->(∀b,S b->b<w.heap.size)->Calls C.P f D.toArray w fun e w'=>e=.returned r/\Below w.heap.size w w'):
  af C f (D.map fun a=>.pv (.im a)) (.p (.im r)) []:=by
 refine⟨I,fun S w vs J hS hl L _=>?_⟩;have N:=xJ hl L;subst N;exact (h S w J hS).mono fun e w' ⟨O,hb⟩=>⟨r,S,O,⟨hb.os,hb.tape,hb.output,hb.size,fun k hk _=>hb.block k hk⟩,fun _ h=>h,fun b z=>aaW (hS b z) hb.size,fun b z=>.inl z,.im r,CS D,El D,fun g h=>by cases h⟩
theorem Em{C:Ctx}(hC:bI C){f:FuncId}(L:List Value)(e:TypeId)(xs:List Value)(O:TI)(W:C.T e=some O)(D:O.size=1)(Y:∀v∈xs,v.oneCell'=true)(hlen:xs.length<=maxLen)(Z:xI C f)
  (h:∀S w,C.E S w->(∀b,S b->b<w.heap.size)->Calls C.P f L.toArray w fun e' w'=>e'=.returned (.slice (some ⟨w.heap.size,0,none⟩) xs.length xs.length)/\w'=w.alloc (.cells xs.toArray e)):
  af C f (L.map fun a=>.pv (.im a)) (.own e (xs.map fun v=>[.im v])) []:=by
 refine⟨Z,fun S w vs hE hS hl R _=>?_⟩;have LI:=xJ hl R;subst LI;obtain⟨info,z,h1,N,_⟩:=hC.iq e O W;refine (h S w hE hS).mono fun e' w' ⟨he,hw⟩=>?_;subst hw;have L4:(w.alloc (.cells xs.toArray e)).heap[w.heap.size]?=some (.cells xs.toArray e (0,0)):=by unfold World.alloc;exact Array.getElem?_push_size
 have aaO:(w.alloc (.cells xs.toArray e)).heap.size=w.heap.size+1:=Array.size_push ..;have hb:Below w.heap.size w (w.alloc (.cells xs.toArray e)):=(acE _ _).alloc (aam _) _;refine⟨_,S,he,⟨hb.os,hb.tape,hb.output,hb.size,fun k hk _=>hb.block k hk⟩,fun _ h=>h,fun b J=>aaW (hS b J) hb.size,fun b J=>.inl J,⟨⟨info,xs,h1,by omega,⟨?_,.inr ⟨w.heap.size,xs.length,xs.toArray,?_,aaj _,L4,?_,hlen,?_,?_⟩⟩,?_,Y,?_⟩,?_⟩,CS L,El L,?_⟩
 ·simp[N,D]
 ·simp
 ·simp
 ·simp[N,D]
 ·simp[N,D]
 ·intro r R;obtain⟨v,_,rfl⟩:=adS.1 R;simp[N,D]
 ·intro a r j x V U;rw[aak]at V;obtain⟨v,hv,rfl⟩:=acq.1 V;cases j with
  | zero=>
   simp at U;subst U;exact⟨v,by rw[N,D,acP,abQ];exact hv,.im v⟩
  | succ j=>simp at U
 ·intro g I hs;injection I with I;have I:w.heap.size=g:=I;have:=hS g hs;omega
 intro g _ I;have I:=aI rfl I;injection I with I;have I:w.heap.size=g:=I;exact⟨by omega,.inl (by omega),fun i=>tM L i g⟩
end Go.AM
