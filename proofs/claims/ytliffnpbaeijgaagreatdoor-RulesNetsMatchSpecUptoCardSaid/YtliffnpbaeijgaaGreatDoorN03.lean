/- Part 3 of the proof of RulesNetsMatchSpec. -/
import Derived.Test.YtliffnpbaeijgaaGreatDoorN02
import Derived.WideKeyRuns
set_option linter.unusedVariables false
set_option linter.unusedSimpArgs false
set_option maxRecDepth 100000
set_option maxHeartbeats 8000000
namespace Go
abbrev lZ:=@Bool.or_eq_true
abbrev ph:=@Bool.false_or
abbrev wx:=@List.mem_range
abbrev ir:=@Bool.not_true
abbrev wy:=@List.any_eq_true
abbrev qY:=@List.map_congr_left
abbrev wz:=@Bool.or_false
abbrev qZ:=@Classical.byContradiction
abbrev q_:=@List.mem_append_left
abbrev bB:=@List.mem_filterMap
abbrev tJ:=@List.mem_append_right
abbrev kJ:=@List.filter_cons
abbrev AP:=@List.eq_nil_iff_forall_not_mem
abbrev l5:=@List.mem_filter
abbrev l6:=@List.flatMap_cons
abbrev cz:=@List.mem_flatMap
abbrev wH:=@List.length_filter_le
abbrev rm:=@Bool.and_assoc
abbrev iY:=@of_decide_eq_true
abbrev Mt:=@Go.RowKit.Below.refl
abbrev jQ:=@Nat.mul_one
end Go
namespace Go.AM
open Go.RowKit
def isApp:Op->Bool
 | .call c=>match c.callee with
  | .builtin .append=>true
  | _=>false
 | _=>false
def Qw(m:Nat->Bool):Nat->Bool
 | 0=>false
 | n+1=>m n||Qw m n
def lF(C:Ctx)(o:Op):Bool:=isApp o||match o with
 | .call c=>match c.callee with
  | .value (.func f)=>Qw (C.md f) 8||C.bl f
  | .value (.tmp _)=>true
  | _=>false
 | _=>false
def cls(C:Ctx)(ap:Bool):Op->Nat
 | .move _=>0
 | .assign _=>0
 | .pick _ _ _=>0
 | .binOp _ _ _ _ _=>0
 | .unOp _ _ _=>0
 | .convert _ _ _=>0
 | .extract _ _=>0
 | .index _ _ _=>0
 | .field _ _ _=>0
 | .makeFunc _ _ _=>0
 | .fieldAddr _ _ _=>match ap with
  | true=>2
  | false=>1
 | .nilCheck _=>match ap with
  | true=>2
  | false=>1
 | .store _ _ _=>3
 | .mapUpdate _ _ _ _=>3
 | .call c=>match c.callee with
  | .builtin .append=>3
  | .builtin .clear=>3
  | .builtin .min=>0
  | .builtin .max=>0
  | .value (.func f)=>match Qw (C.md f) 8||C.bl f with
   | true=>3
   | false=>2
  | .value (.tmp _)=>3
  | _=>2
 | _=>2
def Qx:AB->AB->Bool
 | .row e _,.row e' _=>cG e e'
 | .box _,.box _=>true
 | .map _ _,.map _ _=>true
 | _,_=>false
def Qy:AB->Bool
 | .none=>false
 | _=>true
def jD(h:Nat->AB):List (Nat×AB)->Bool
 | []=>true
 | (i,_)::r=>Qy (h i)&&jD h r
def l7(h:Nat->AB):List (Nat×AB)->Bool
 | []=>true
 | (i,b)::r=>Qx (h i) b&&l7 h r
def vz(op:Op):Option AB->Option Tmp->Bool
 | none,_=>true
 | some _,some _=>sM op
 | some _,none=>false
def yG:AV->Bool
 | .p _=>true
 | _=>false
def yH(o:Oper)(rho:Operand->AV):Bool:=match o.op with
 | .load _ a=>yG (rho a)
 | .indexAddr _ x _=>yG (rho x)
 | .slice _ x _ _ none=>yG (rho x)
 | .build _ ps=>ps.toList.all fun p=>yG (rho p.2)
 | .call c=>match c.callee,c.args.toList with
  | .builtin .len,[x]=>yG (rho x)
  | _,_=>false
 | .fieldAddr _ x _=>yG (rho x)
 | .nilCheck x=>yG (rho x)
 | _=>false
def DA:List Nat->Nat->Bool
 | [],_=>false
 | i::r,k=>match cG i k with
  | true=>true
  | false=>DA r k
def Zd(X:List Nat):AV->Bool
 | .ow id=>DA X id
 | .rp id _ _=>DA X id
 | .bx id _=>DA X id
 | _=>false
def sN(X:List Nat)(o:Oper)(rho:Operand->AV):Bool:=match o.op with
 | .load _ a=>Zd X (rho a)
 | .indexAddr _ x _=>Zd X (rho x)
 | .lookup _ x _ _=>Zd X (rho x)
 | .call c=>match c.callee,c.args.toList with
  | .builtin .len,[x]=>Zd X (rho x)
  | _,_=>false
 | _=>false
def yI(X:List Nat)(o:Oper)(rho:Operand->AV):Bool:=match o.op with
 | .makeSlice _ _ _=>DA X (o.dst.getD 0)
 | .buildSlice _ _ ps=>DA X (o.dst.getD 0)&&ps.toList.all fun p=>yG (rho p.2)
 | _=>false
def sO(X:List Nat)(o:Oper)(rho:Operand->AV):Bool:=sN X o rho||yI X o rho
def Yl(X:List Nat):List (Nat×AB)->Bool
 | []=>true
 | (i,_)::r=>match DA X i with
  | true=>false
  | false=>Yl X r
def kc:AB->Nat
 | .box _=>1
 | .nd _=>1
 | .row _ _=>2
 | .aw _ _=>2
 | _=>0
def wA(X:List Nat)(h:Nat->AB):List (Nat×AB)->Bool
 | []=>true
 | (i,b)::r=>match DA X (i+1000000) with
  | true=>Nat.beq (kc b) (kc (h i))&&(!Nat.beq (kc (h i)) 0&&wA X h r)
  | false=>wA X h r
def S0(X:List Nat)(f:Bool)(h:Nat->AB)(e:List (Nat×AB)):Bool:=(f||Yl X e)&&wA X h e
theorem Mi(X:List Nat)(f:Bool)(h:Nat->AB):S0 X f h []=true:=by simp[S0,Yl,wA]
def thV(X:List Nat):AV->Bool
 | .bx id _=>DA X (id+1000000)
 | .rp id _ _=>DA X (id+1000000)
 | _=>false
def yJ(X:List Nat)(o:Oper)(rho:Operand->AV):Bool:=match o.op with
 | .fieldAddr _ x _=>thV X (rho x)
 | .nilCheck x=>thV X (rho x)
 | _=>false
def BL(C:Ctx)(ap:Bool)(X:List Nat)(f:Bool)(o:Oper)(rho:Operand->AV):Bool:=f||yH o rho||sO X o rho||yJ X o rho||Nat.beq (cls C ap o.op) 3
def Qz(C:Ctx)(ap:Bool)(X:List Nat)(f:Bool)(o:Oper)(K:AS->Prop)(s:AS):Prop:=
 cc C o (ev s.t) s.h fun v eff new=>match vz o.op new o.dst with
  | false=>False
  | true=>match Nat.beq (cls C ap o.op) 3 with
   | true=>match jD s.h eff&&(ap||l7 s.h eff)&&S0 X f s.h eff with
    | true=>K ⟨fE s.t o.dst v,sD (app s.h eff) (o.dst.getD 0) new⟩
    | false=>False
   | false=>match eff with
    | []=>K ⟨fE s.t o.dst v,sD s.h (o.dst.getD 0) new⟩
    | _=>False
def uZ(C:Ctx)(ap:Bool)(X:List Nat)(f:Bool)(o:Oper)(K:AS->Prop)(s:AS):Prop:=match BL C ap X f o (ev s.t) with
 | true=>Qz C ap X f o K s
 | false=>False
def rh(C:Ctx)(ap:Bool)(X:List Nat)(all:List Oper):List Bool->List Oper->(AS->Prop)->AS->Prop
 | _,[],K,s=>K s
 | [],_::_,_,_=>False
 | f::fl,o::r,K,s=>match o.guard with
  | none=>uZ C ap X f o (rh C ap X all fl r K) s
  | some (g,want)=>match all[g]? with
   | none=>False
   | some og=>match og.dst with
    | none=>False
    | some tg=>match s.t tg with
     | .p (.im (.bool b))=>sd b
       (match want with
        | true=>uZ C ap X f o (rh C ap X all fl r K) ⟨a8 s.t tg (kH true),s.h⟩
        | false=>rh C ap X all fl r K ⟨fE (a8 s.t tg (kH true)) o.dst uO,s.h⟩)
       (match want with
        | false=>uZ C ap X f o (rh C ap X all fl r K) ⟨a8 s.t tg (kH false),s.h⟩
        | true=>rh C ap X all fl r K ⟨fE (a8 s.t tg (kH false)) o.dst uO,s.h⟩)
     | .p (.im (.tuple _))=>rh C ap X all fl r K ⟨fE s.t o.dst uO,s.h⟩
     | _=>False
structure RR where
 run:Bool
 v:AV
 eff:List (Nat×AB)
 new:Option AB
structure DStep(C:Ctx)(ap:Bool)(all:List Oper)(o:Oper)(s:AS)(r:RR)(s':AS):Prop where
 guard:match o.guard with
  | none=>r.run=true
  | some (g,want)=>∃og tg b,all[g]?=some og/\og.dst=some tg/\s.t tg=.p (.im b)/\r.run=Y7 b want
 ran:r.run=true->cc C o (ev s.t) s.h fun v e n=>v=r.v/\e=r.eff/\n=r.new
 not:r.run=false->r.v=uO/\r.eff=[]/\r.new=none
 next:s'=⟨fE s.t o.dst r.v,sD (app s.h r.eff) (o.dst.getD 0) r.new⟩
 there:jD s.h r.eff=true
 kind:ap=false->l7 s.h r.eff=true
 quiet:cls C ap o.op≠3->r.eff=[]
 ndst:vz o.op r.new o.dst=true
variable {ap:Bool}
theorem N5{C:Ctx}{f:Bool}{X:List Nat}{o:Oper}{K:AS->Prop}{s:AS}(h:Qz C ap X f o K s):∃v eff new,(cc C o (ev s.t) s.h fun I e' J=>I=v/\e'=eff/\J=new)/\jD s.h eff=true/\(ap=false->l7 s.h eff=true)/\(cls C ap o.op≠3->eff=[])/\vz o.op new o.dst=true/\S0 X f s.h eff=true/\K ⟨fE s.t o.dst v,sD (app s.h eff) (o.dst.getD 0) new⟩:=by
 obtain⟨v,eff,new,u,L⟩:=tH (fun _=>.inr rfl) h;refine⟨v,eff,new,L _ ⟨rfl,rfl,rfl⟩,?_⟩;split at u
 ·exact u.elim
 rename_i D;split at u
 ·rename_i z;have z:cls C ap o.op=3:=cY z;split at u
  ·rename_i hk;have N:S0 X f s.h eff=true:=(aJ _ _▸hk).2;simp only[aJ,lZ]at hk;exact⟨hk.1.1,fun e=>hk.1.2.resolve_left (by rw[e];decide),fun h=>absurd z h,D,N,u⟩
  exact u.elim
 split at u
 ·exact⟨rfl,fun _=>rfl,fun _=>rfl,D,Mi _ _ _,u⟩
 exact u.elim
def BM(C:Ctx)(ap:Bool)(X:List Nat)(fl:List Bool)(o:Oper)(s:AS)(r:RR)(i:Nat):Prop:=r.run=true->(fl[i]?=some true\/yH o (ev s.t)=true\/sO X o (ev s.t)=true\/yJ X o (ev s.t)=true\/cls C ap o.op=3)/\(fl[i]?=some true\/Yl X r.eff=true)/\wA X s.h r.eff=true
theorem QA{C:Ctx}{X:List Nat}{all:List Oper}{K:AS->Prop}:∀(l:List Oper) (z:List Bool) (s:AS),rh C ap X all z l K s->∃(st:Nat->AS) (r:Nat->RR),st 0=s/\K (st l.length)/\∀(i:Nat) o,l[i]?=some o->DStep C ap all o (st i) (r i) (st (i+1))/\BM C ap X z o (st i) (r i) i:=by
 intro l
 induction l with
 | nil=>intro z s h;exact⟨fun _=>s,fun _=>⟨false,.junk,[],none⟩,rfl,by cases z<;>exact h,by simp⟩
 | cons o l ih=>
  intro z s h;cases z with
  | nil=>exact h.elim
  | cons f z=>
  have ext:∀(r:RR) (R:AS),DStep C ap all o s r R->(r.run=true->BL C ap X f o (ev s.t)=true/\S0 X f s.h r.eff=true)->rh C ap X all z l K R->∃(st:Nat->AS) (r:Nat->RR),st 0=s/\K (st (o::l).length)/\∀(i:Nat) o',(o::l)[i]?=some o'->DStep C ap all o' (st i) (r i) (st (i+1))/\BM C ap X (f::z) o' (st i) (r i) i:=by
   intro r0 R hd Z hk;obtain⟨st,r,h1,h2,h3⟩:=ih z R hk;refine⟨fun i=>match i with | 0=>s | i+1=>st i,fun i=>match i with | 0=>r0 | i+1=>r i,rfl,h2,fun i o' hi=>?_⟩;cases i with
   | zero=>
    simp at hi;subst hi;refine⟨?_,fun hr=>?_⟩
    ·show DStep C ap all o s r0 (st 0);rw[h1];exact hd
    obtain⟨U,N⟩:=Z hr;simp only[S0,aJ]at N;obtain⟨N,q3⟩:=N;exact⟨by cases f with
     | true=>exact .inl rfl
     | false=>simp only[BL,ph,lZ]at U;exact .inr (by rcases U with ((h | h) | h) | h;exact .inl h;exact .inr (.inl h);exact .inr (.inr (.inl h));exact .inr (.inr (.inr (cY h)))),by cases f with
     | true=>exact .inl rfl
     | false=>exact .inr N,q3⟩
   | succ i=>
    obtain⟨U,N⟩:=h3 i o' (by simpa using hi);exact⟨U,fun hr=>N hr⟩
  have D:(match o.guard with
    | none=>true=true
    | some (g,u)=>∃L I b,all[g]?=some L/\L.dst=some I/\s.t I=.p (.im b)/\true=Y7 b u)->uZ C ap X f o (rh C ap X all z l K) s->∃(st:Nat->AS) (r:Nat->RR),st 0=s/\K (st (o::l).length)/\∀(i:Nat) o',(o::l)[i]?=some o'->DStep C ap all o' (st i) (r i) (st (i+1))/\BM C ap X (f::z) o' (st i) (r i) i:=by
   intro J O;unfold uZ at O;split at O
   case h_2=>exact O.elim
   rename_i Z;obtain⟨v,eff,new,k1,k2,k3,k4,k6,k7,k5⟩:=N5 O;exact ext ⟨true,v,eff,new⟩ _ ⟨J,fun _=>k1,(fun h=>by cases h),rfl,k2,k3,k4,k6⟩ (fun _=>⟨Z,k7⟩) k5
  unfold rh at h;split at h
  ·rename_i J;exact D (by rw[J]) h
  rename_i g u J;split at h
  ·exact h.elim
  rename_i L V;split at h
  ·exact h.elim
  rename_i I W;split at h
  ·rename_i b hb;have Y:∀b',b=b'->a8 s.t I (kH b')=s.t:=fun b' e=>kD _ _ _ (by rw[hb,e];rfl);have Vu:rh C ap X all z l K ⟨fE s.t o.dst uO,s.h⟩->(false=(b==u))->∃(st:Nat->AS) (r:Nat->RR),st 0=s/\K (st (o::l).length)/\∀(i:Nat) o',(o::l)[i]?=some o'->DStep C ap all o' (st i) (r i) (st (i+1))/\BM C ap X (f::z) o' (st i) (r i) i:=fun O he=>
    ext ⟨false,uO,[],none⟩ _ ⟨by rw[J];exact⟨L,I,.bool b,V,W,hb,by rw[he];cases b<;>cases u<;>rfl⟩,fun h=>(by cases h),fun _=>⟨rfl,rfl,rfl⟩,rfl,rfl,fun _=>rfl,fun _=>rfl,rfl⟩ (fun h=>by cases h) O
   cases b<;>cases u<;>simp only[sd]at h
   ·rw[Y false rfl]at h;exact D (by rw[J];exact⟨L,I,.bool false,V,W,hb,rfl⟩) h
   ·rw[Y false rfl]at h;exact Vu h rfl
   ·rw[Y true rfl]at h;exact Vu h rfl
   rw[Y true rfl]at h;exact D (by rw[J];exact⟨L,I,.bool true,V,W,hb,rfl⟩) h
  ·rename_i q hb;exact ext ⟨false,uO,[],none⟩ _ ⟨by rw[J];exact⟨L,I,.tuple q,V,W,hb,by cases u<;>rfl⟩,fun h=>(by cases h),fun _=>⟨rfl,rfl,rfl⟩,rfl,rfl,fun _=>rfl,fun _=>rfl,rfl⟩ (fun h=>by cases h) h
  exact h.elim
variable {rho:Operand->AV} {h':Nat->AB}
theorem WH{C:Ctx}{o:Oper}{h:Nat->AB}{K:KK}(u:cls C ap o.op=0)(z:cc C o rho h K):cc C o rho h' K:=by
 cases D:o.op<;>rw[D]at u<;>try (simp only[cc,D]at z ⊢;exact z)
 all_goals try (cases u;done)
 case makeFunc fn first cap=>
  cases fn with
  | func f=>simp only[cc,D]at z ⊢;exact z
  | _=>simp only[cc,D]at z
 case fieldAddr=>cases ap<;>cases u
 case nilCheck=>cases ap<;>cases u
 case call c=>
  simp only[cc,D]at z ⊢;simp only[cls]at u;split at u
  ·cases u
  ·cases u
  ·rename_i I;simp only[I,fc,fZ]at z ⊢;exact z
  ·rename_i I;simp only[I,fc,fZ]at z ⊢;exact z
  ·split at u<;>cases u
  ·cases u
  cases u
theorem WI{C:Ctx}{o:Oper}{h:Nat->AB}{K:KK}(I:cls C ap o.op=1)(J:∀id,(h id).there->((h' id).there/\(∀e es,h id=.row e es->∃L,h' id=.row e L)/\(∀cs,h id=.box cs->∃N,h' id=.box N)/\(∀cs,h id=.nd cs->∃N,h' id=.nd N)/\(∀e es,h id=.aw e es->∃L,h' id=.aw e L)))(u:cc C o rho h K):cc C o rho h' K:=by
 cases O:o.op<;>rw[O]at I<;>try (cases I;done)
 case call c=>
  exfalso;simp only[cls]at I;split at I<;>first | cases I | (split at I<;>cases I)
 case fieldAddr t x f=>
  simp only[cc,O]at u ⊢;split at u
  ·split at u
   ·split at u
    ·exact u
    ·rename_i id o' R;split at u
     ·exact u.elim
     rename_i V;have W:(h id).there:=by cases h1:h id<;>first | trivial | exact absurd h1 (by simpa using V)
     have:=(J id W).1;split
     ·rename_i D;rw[D]at this;exact this.elim
     exact u
    ·rename_i id i o' R;split at u
     ·rename_i e es z;obtain⟨L,D⟩:=(J id (by rw[z];trivial)).2.1 e es z;simp only[D];exact u
     ·rename_i e es z;obtain⟨L,D⟩:=(J id (by rw[z];trivial)).2.2.2.2 e es z;simp only[D];exact u
     exact u.elim
    exact u
   exact u
  exact u
 case nilCheck x=>
  simp only[cc,O]at u ⊢;split at u
  ·exact u
  ·rename_i id U R;split at u
   ·rename_i cs z;obtain⟨N,D⟩:=(J id (by rw[z];trivial)).2.2.1 cs z;simp only[D];exact u
   ·rename_i cs z;obtain⟨N,D⟩:=(J id (by rw[z];trivial)).2.2.2.1 cs z;simp only[D];exact u
   exact u.elim
  ·rename_i id i U R;split at u
   ·rename_i e es z;obtain⟨L,D⟩:=(J id (by rw[z];trivial)).2.1 e es z;simp only[D];exact u
   ·rename_i e es z;obtain⟨L,D⟩:=(J id (by rw[z];trivial)).2.2.2.2 e es z;simp only[D];exact u
   exact u.elim
  exact u
def yK(ops:Array Oper)(o:Oper)(d:Tmp):Bool:=(o.looksAt ops).contains d
def Kr(C:Ctx)(ap:Bool)(ops:Array Oper)(b:Array Nat)(i j:Nat)(oi oj:Oper):Bool:=
 (match oi.dst,oj.dst with
  | some x,some y=>!cG x y
  | _,_=>true) &&
 (match oj.dst with
  | some d=>!yK ops oi d||(b.getD j 0).testBit i
  | none=>true) &&
 (match oi.dst with
  | some d=>!yK ops oj d||(b.getD j 0).testBit i
  | none=>true) &&
 (if cls C ap oj.op=3 then (if cls C ap oi.op=3 then (b.getD j 0).testBit i else true) else true)
def Ze(ops:Array Oper)(b:Array Nat)(C:Ctx)(ap:Bool)(c i:Nat):Bool:=(List.range ops.size).all fun k=>match ops[k]? with
  | none=>true
  | some ok=>!cG (cls C ap ok.op) c||(if k<i then (b.getD i 0).testBit k else if i<k then (b.getD k 0).testBit i else true)
def TF:Op->Bool
 | .fieldAddr _ _ _=>true
 | .nilCheck _=>true
 | _=>false
def ab9(ops:Array Oper)(b:Array Nat)(C:Ctx)(ap:Bool)(i:Nat):Bool:=(List.range ops.size).all fun k=>match ops[k]? with
  | none=>true
  | some ok=>(TF ok.op||!cG (cls C ap ok.op) 2)||(if k<i then (b.getD i 0).testBit k else if i<k then (b.getD k 0).testBit i else true)
def Fy(C:Ctx)(ap:Bool)(ops:Array Oper)(b:Array Nat)(i:Nat)(oi:Oper):Bool:=
 match cls C ap oi.op with
 | 2=>Ze ops b C ap 3 i
 | 3=>ab9 ops b C ap i
 | _=>true
def kK(C:Ctx)(ap:Bool)(ops:Array Oper):List Bool:=
 let b:=Region.before ops
 (List.range ops.size).map fun i=>match ops[i]? with
  | some oi=>Fy C ap ops b i oi
  | none=>true
variable {ops:Array Oper} {oi:Oper}
theorem QB{C:Ctx}{i:Nat}{c:Nat}(hi:ops[i]?=some oi)(h:Ze ops (Region.before ops) C ap c i=true):
  ∀(k:Nat) ok,ops[k]?=some ok->cls C ap ok.op=c->(k<i->((Region.before ops).getD i 0).testBit k=true)/\(i<k->((Region.before ops).getD k 0).testBit i=true):=by
 intro k ok hk u;have nQ:=(qS.1 hi).1;have I:=(qS.1 hk).1;have z:=dY.1 h k (wx.2 I);simp only[hk,bz.2 u,ir,ph]at z;refine⟨fun D=>?_,fun D=>?_⟩
 ·rwa [ae D]at z
 rwa [aa (by omega),ae D]at z
theorem HT{C:Ctx}{i:Nat}(hi:ops[i]?=some oi)(h:(kK C ap ops)[i]?=some true):Fy C ap ops (Region.before ops) i oi=true:=by
 have u:=(qS.1 hi).1;simpa only[kK,aD,jK u,mZ,hi,Option.some.injEq] using h
theorem yL{C:Ctx}{i:Nat}(hi:ops[i]?=some oi)(h:(kK C ap ops)[i]?=some true)(z:cls C ap oi.op=2):
  ∀(k:Nat) ok,ops[k]?=some ok->cls C ap ok.op=3->(k<i->((Region.before ops).getD i 0).testBit k=true)/\(i<k->((Region.before ops).getD k 0).testBit i=true):=by
 have u:=HT hi h;simp only[Fy,z]at u;exact QB hi u
theorem BN{C:Ctx}{i:Nat}(hi:ops[i]?=some oi)(h:(kK C ap ops)[i]?=some true)(J:cls C ap oi.op=3):
  ∀(k:Nat) ok,ops[k]?=some ok->cls C ap ok.op=2->TF ok.op=false->(k<i->((Region.before ops).getD i 0).testBit k=true)/\(i<k->((Region.before ops).getD k 0).testBit i=true):=by
 have u:=HT hi h;simp only[Fy,J]at u;intro k ok hk z D;have nQ:=(qS.1 hi).1;have L:=(qS.1 hk).1;have u:=dY.1 u k (wx.2 L);simp only[hk,D,bz.2 z,ir,ph]at u;refine⟨fun I=>?_,fun I=>?_⟩
 ·rwa [ae I]at u
 rwa [aa (by omega),ae I]at u
theorem Mj{X:List Nat}{o:Oper}(h:sO X o rho=true):TF o.op=false:=by
 unfold sO sN yI at h;cases e:o.op<;>rw[e]at h<;>first | rfl | cases h
theorem HU{X:List Nat}:∀{eff:List (Nat×AB)},Yl X eff=true->∀p∈eff,DA X p.1=false:=by
 intro eff
 induction eff with
 | nil=>intro _ p hp;cases hp
 | cons x r ih=>
  intro h p hp;unfold Yl at h;split at h
  ·cases h
  rename_i u;rcases L8.1 hp with e | e
  ·rw[e];exact u
  exact ih h p e
theorem fH{a:AV}(h:yG a=true):∃x,a=.p x:=by cases a<;>first | exact⟨_,rfl⟩ | cases h
variable {fs:List (Nat×Nat×Bool)}
theorem QC{h:Nat->AB}:∀(ps:List (Nat×Operand)) (cs:List PV) (K:List PV->List (Nat×AB)->Prop),(ps.all fun p=>yG (rho p.2))=true->lA h fs rho ps cs K->lA h' fs rho ps cs K:=by
 intro ps
 induction ps with
 | nil=>intro cs K _ u;exact u
 | cons p ps ih=>
  intro cs K hp u;obtain⟨i,x⟩:=p;simp only[vZ,aJ]at hp;obtain⟨y,z⟩:=fH hp.1;simp only[lA]at u ⊢;split at u
  ·rw[z]at u ⊢;simp only[iT,nZ]at u ⊢;revert u;cases vn y with
   | none=>exact id
   | some ys=>
    simp only;cases Dk ys.length _&&LP _ cs.length with
    | false=>exact id
    | true=>intro u;exact ih _ _ hp.2 u
  exact u.elim
theorem QD{h:Nat->AB}:∀(ps:List (Nat×Operand)) (cs:List AV) (K:List AV->Prop),(ps.all fun p=>yG (rho p.2))=true->mU h fs rho ps cs K->mU h' fs rho ps cs K:=by
 intro ps
 induction ps with
 | nil=>intro cs K _ u;exact u
 | cons p ps ih=>
  intro cs K hp u;obtain⟨i,x⟩:=p;simp only[vZ,aJ]at hp;obtain⟨y,z⟩:=fH hp.1;unfold mU at u ⊢;split at u
  ·rename_i D;split at u
   ·rename_i I;have e:yu h' (rho x)=yu h (rho x):=by rw[z];cases y<;>rfl
    simp only[D,e,I];exact ih _ _ hp.2 u
   exact u.elim
  exact u.elim
theorem Ks{h:Nat->AB}{Q:Prop}:∀(ps:List (Nat×Operand)) (cs:List PV) (K:List PV->List (Nat×AB)->Prop),(∀a b,K a b->Q)->lA h fs rho ps cs K->Q:=by
 intro ps
 induction ps with
 | nil=>intro cs K hk u;exact hk _ _ u
 | cons p ps ih=>
  intro cs K hk u;obtain⟨i,x⟩:=p;simp only[lA]at u;split at u
  ·obtain⟨y,fz,z,_⟩:=jB (fun _=>.inr rfl) u;split at z
   ·split at z
    ·exact ih _ _ (fun a b h=>hk _ _ h) z
    exact z.elim
   exact z.elim
  exact u.elim
theorem WJ{C:Ctx}{o:Oper}{h:Nat->AB}{K:KK}(hp:yH o rho=true)(u:cc C o rho h K):cc C o rho h' K:=by
 unfold yH at hp;split at hp
 ·rename_i t a z;obtain⟨x,D⟩:=fH hp;simp only[cc,z]at u ⊢;rw[D]at u ⊢;cases x<;>exact u
 ·rename_i t x ix z;obtain⟨y,D⟩:=fH hp;simp only[cc,z]at u ⊢;rw[D]at u ⊢;cases y<;>exact u
 ·rename_i t x lo hi z;obtain⟨y,D⟩:=fH hp;simp only[cc,z]at u ⊢;rw[D]at u ⊢;have u:g_ C rho h t x lo hi K:=u;show g_ C rho h' t x lo hi K;simp only[g_]at u ⊢;rw[D]at u ⊢;exact u
 ·rename_i t ps z;simp only[cc,z]at u ⊢;split at u
  ·split at u
   ·exact QC _ _ _ hp u
   exact QD _ _ _ hp u
  exact u.elim
 ·rename_i c z;split at hp
  ·rename_i x L J;obtain⟨y,D⟩:=fH hp;simp only[cc,z,L,J,fc,fZ]at u ⊢;split at u
   ·rename_i I N;simp only[J,N]at *;injection I with I _;subst I;rw[D]at u ⊢;cases y<;>exact u
   exact u.elim
  cases hp
 ·rename_i t x f z;obtain⟨y,D⟩:=fH hp;simp only[cc,z]at u ⊢;rw[D]at u ⊢;cases y<;>exact u
 ·rename_i x z;obtain⟨y,D⟩:=fH hp;simp only[cc,z]at u ⊢;rw[D]at u ⊢;cases y<;>exact u
 cases hp
variable {e:List (Nat×AB)}
theorem Kt{C:Ctx}{o:Oper}{h:Nat->AB}{v:AV}{n:Option AB}(hp:yH o rho=true)(u:cc C o rho h fun N e' O=>N=v/\e'=e/\O=n):n=none:=by
 have L:∀(x:AV) (K:List (List PV)->Prop) (Q:Prop),(∀es,K es->Q)->iE h x K->Q:=by
  intro x K Q hk u;unfold iE at u
  repeat' (split at u)
  all_goals first | exact u.elim | exact hk _ u
 unfold yH at hp;split at hp
 ·rename_i t a I;obtain⟨x,J⟩:=fH hp;simp only[cc,I]at u;split at u
  ·exact u.elim
  rw[J]at u;split at u
  ·split at u
   ·split at u
    ·exact u.2.2.symm
    exact u.elim
   split at u
   ·exact u.2.2.symm
   exact u.elim
  ·rename_i D;cases D
  ·rename_i D;cases D
  exact u.elim
 ·rename_i t x ix I;obtain⟨y,J⟩:=fH hp;simp only[cc,I]at u;split at u
  ·split at u
   ·exact u.elim
   rw[J]at u;split at u
   ·obtain⟨r,_,u⟩:=u;split at u
    ·exact u.2.2.symm
    exact u.elim
   all_goals first | exact u.elim | (rename_i D;cases D;done) | (rename_i D _;cases D;done) | (rename_i D _ _;cases D;done)
  exact u.elim
 ·rename_i t x lo hi I;obtain⟨y,J⟩:=fH hp;simp only[cc,I]at u;rw[J]at u;have u:g_ C rho h t x lo hi _:=u;simp only[g_]at u;split at u
  ·rw[J]at u;split at u
   ·split at u
    ·exact u.2.2.2.symm
    exact u.elim
   exact u.elim
  ·split at u
   ·exact u.elim
   obtain⟨z,fz,u,_⟩:=jB (fun _=>.inr rfl) u;split at u
   ·split at u
    ·exact u.2.2.2.symm
    exact u.elim
   exact u.elim
  exact u.elim
 ·rename_i t ps I;simp only[cc,I]at u;split at u
  ·split at u
   ·exact Ks _ _ _ (fun _ _ h=>h.2.2.symm) u
   obtain⟨z,D,_⟩:=Eg (fun _=>.inr rfl) u;exact D.2.2.symm
  exact u.elim
 ·rename_i c I;split at hp
  ·rename_i x R U;simp only[cc,I,R,U,fc,fZ]at u;split at u
   ·split at u
    ·split at u
     ·exact u.2.2.symm
     exact u.elim
    ·split at u
     ·exact u.2.2.symm
     exact L _ _ _ (fun _ h=>h.2.2.symm) u
    ·split at u
     ·split at u
      ·exact u.2.2.symm
      exact u.elim
     ·exact u.2.2.symm
     exact u.elim
    exact u.elim
   exact u.elim
  cases hp
 ·rename_i t x f I;obtain⟨y,J⟩:=fH hp;simp only[cc,I]at u;rw[J]at u
  repeat' (split at u)
  all_goals first | exact u.elim | exact u.2.2.symm | (rename_i D;cases D)
 ·rename_i x I;obtain⟨y,J⟩:=fH hp;simp only[cc,I]at u;rw[J]at u
  repeat' (split at u)
  all_goals first | exact u.elim | exact u.2.2.symm | (rename_i D;cases D)
 cases hp
theorem TG{C:Ctx}{o:Oper}{X:List Nat}{h:Nat->AB}{K:KK}(N:∀id,DA X id=true->h id=.none\/h' id=h id)(hp:sN X o rho=true)(z:cc C o rho h K):cc C o rho h' K:=by
 have J:∀{a:AV},Zd X a=true->(∃id,a=.ow id/\(h id=.none\/h' id=h id))\/(∃id i u,a=.rp id i u/\(h id=.none\/h' id=h id))\/∃id u,a=.bx id u/\(h id=.none\/h' id=h id):=by
  intro a L;cases a with
  | ow id=>exact .inl ⟨id,rfl,N id L⟩
  | rp id i u=>exact .inr (.inl ⟨id,i,u,rfl,N id L⟩)
  | bx id u=>exact .inr (.inr ⟨id,u,rfl,N id L⟩)
  | _=>cases L
 unfold sN at hp;split at hp
 ·rename_i t a D;simp only[cc,D]at z ⊢;cases I:C.T t with
  | none=>simp only[I]at z
  | some ti=>
   simp only[I]at z ⊢;rcases J hp with⟨id,e,e2⟩ | ⟨id,i,u,e,e2⟩ | ⟨id,u,e,e2⟩<;>simp only[e]at z ⊢<;>rcases e2 with e2 | e2<;>first | (simp only[e2]at z;done) | (rw[e2];exact z)
 ·rename_i t x U D;simp only[cc,D]at z ⊢;split at z
  case h_2=>exact z.elim
  rename_i e size bytes zero eq k i I PN;cases R:C.T e with
  | none=>simp only[R]at z
  | some te=>
   simp only[R]at z ⊢;rcases J hp with⟨id,e,e2⟩ | ⟨id,i,u,e,e2⟩ | ⟨id,u,e,e2⟩<;>simp only[e]at z ⊢<;>rcases e2 with e2 | e2<;>first | (simp only[e2]at z;done) | (rw[e2];exact z)
 ·rename_i t x U ck D;simp only[cc,D]at z ⊢;rcases J hp with⟨id,e,e2⟩ | ⟨id,i,u,e,e2⟩ | ⟨id,u,e,e2⟩<;>simp only[e]at z ⊢
  ·rcases e2 with e2 | e2
   ·simp only[e2]at z
    repeat' (split at z)
    all_goals exact z.elim
   rw[e2];exact z
  ·exact z
  exact z
 ·rename_i c D;split at hp
  ·rename_i x V L;simp only[cc,D,V,L,fc,fZ]at z ⊢;split at z
   case h_2=>exact z.elim
   rename_i x' t O ht;injection O with O _;subst O;split at z
   ·rcases J hp with⟨id,e,e2⟩ | ⟨id,i,u,e,e2⟩ | ⟨id,u,e,e2⟩<;>simp only[e]at z
   ·rename_i I;rcases J hp with⟨id,e,e2⟩ | ⟨id,i,u,e,e2⟩ | ⟨id,u,e,e2⟩<;>simp only[I,e,hlen,iE]at z ⊢;rcases e2 with e2 | e2
    ·simp only[e2]at z
    rw[e2];exact z
   ·rename_i I;rcases J hp with⟨id,e,e2⟩ | ⟨id,i,u,e,e2⟩ | ⟨id,u,e,e2⟩<;>simp only[I,e]at z ⊢;rcases e2 with e2 | e2
    ·simp only[e2]at z
    rw[e2];exact z
   exact z.elim
  cases hp
 cases hp
theorem HV{C:Ctx}{o:Oper}{X:List Nat}{h:Nat->AB}{v:AV}{n:Option AB}(hp:sN X o rho=true)(u:cc C o rho h fun J e' L=>J=v/\e'=e/\L=n):n=none:=by
 have I:∀(x:AV) (K:List (List PV)->Prop) (Q:Prop),(∀es,K es->Q)->iE h x K->Q:=by
  intro x K Q hk u;unfold iE at u
  repeat' (split at u)
  all_goals first | exact u.elim | exact hk _ u
 unfold sN at hp;split at hp
 ·rename_i z;simp only[cc,z]at u
  repeat' (split at u)
  all_goals first | exact u.elim | exact u.2.2.symm | (exfalso;obtain⟨r,D,u⟩:=u;exact u) | (rcases u with⟨r,D,u⟩;first | exact u.2.2.symm | (split at u<;>first | exact u.elim | exact u.2.2.symm))
 ·rename_i z;simp only[cc,z]at u
  repeat' (split at u)
  all_goals first | exact u.elim | exact u.2.2.symm | exact u.2.2.2.symm | (obtain⟨r,D,u⟩:=u;split at u<;>first | exact u.elim | exact u.2.2.symm)
 ·rename_i z;simp only[cc,z]at u
  repeat' (split at u)
  all_goals first | exact u.elim | (obtain⟨r,D,u⟩:=u;exact u.2.2.symm) | (obtain⟨r,D,u⟩:=u;split at u<;>exact u.2.2.symm)
 ·rename_i c z;split at hp
  ·rename_i x N O;simp only[cc,z,N,O,fc,fZ]at u;split at u
   ·split at u
    ·split at u
     ·exact u.2.2.symm
     exact u.elim
    ·split at u
     ·exact u.2.2.symm
     exact I _ _ _ (fun _ h=>h.2.2.symm) u
    ·split at u
     ·split at u
      ·exact u.2.2.symm
      exact u.elim
     ·exact u.2.2.symm
     exact u.elim
    exact u.elim
   exact u.elim
  cases hp
 cases hp
theorem WL{C:Ctx}{o:Oper}{X:List Nat}{h:Nat->AB}{K:KK}(L:∀id,DA X id=true->h id=.none\/h' id=h id)(hp:sO X o rho=true)(u:cc C o rho h K):cc C o rho h' K:=by
 unfold sO at hp;rcases (lZ _ _▸hp:sN X o rho=true\/yI X o rho=true) with hp | hp
 ·exact TG L hp u
 unfold yI at hp;split at hp
 ·rename_i t n c D;simp only[cc,D]at u ⊢;exact u
 ·rename_i t n ps D;simp only[aJ]at hp;have I:∀p∈ps.toList,yG (rho p.2)=true:=dY.1 hp.2;have z:∀(b:Bool) (size:Nat) (l:List (Nat×Operand)) (es:List (List PV)) (K:List (List PV)->List (Nat×AB)->Prop),(∀p∈l,yG (rho p.2)=true)->iD b h size rho l es K->iD b h' size rho l es K:=by
   intro b size l
   induction l with
   | nil=>intro es K _ h;exact h
   | cons p r ih=>
    intro es K hl hk;obtain⟨i,x⟩:=p;obtain⟨y,J⟩:=fH (hl _ bW);simp only at J;simp only[iD,J]at hk ⊢;have e:∀(h:Nat->AB) (Q:PV->List (Nat×AB)->Prop),zy b h (.p y) Q=Q y []:=fun h Q=>by cases b<;>rfl
    rw[e]at hk ⊢;revert hk;split
    ·intro hk;revert hk;split
     ·intro hk;exact ih _ _ (fun p hp=>hl p (cD _ hp)) hk
     exact fun hk=>hk
    exact fun hk=>hk
  simp only[cc,D]at u ⊢;revert u;split
  ·split
   ·split
    ·split
     ·exact z _ _ _ _ _ I
     exact z _ _ _ _ _ I
    exact fun u=>u
   exact fun u=>u
  exact fun u=>u
 cases hp
theorem Ku{C:Ctx}{o:Oper}{X:List Nat}{h:Nat->AB}{v:AV}{n:Option AB}(hp:sO X o rho=true)(u:cc C o rho h fun z e' D=>z=v/\e'=e/\D=n):n=none\/DA X (o.dst.getD 0)=true:=by
 unfold sO at hp;rcases (lZ _ _▸hp:sN X o rho=true\/yI X o rho=true) with hp | hp
 ·exact .inl (HV hp u)
 unfold yI at hp;split at hp
 ·exact .inr hp
 ·simp only[aJ]at hp;exact .inr hp.1
 cases hp
theorem WM{C:Ctx}{o:Oper}{X:List Nat}{h:Nat->AB}{K:KK}(O:∀id,DA X (id+1000000)=true->h id≠.none->(kc (h' id)=kc (h id)/\kc (h id)≠0)\/h' id=h id)(hp:yJ X o rho=true)(u:cc C o rho h K):cc C o rho h' K:=by
 have U:∀{a:AV},thV X a=true->(∃id z,a=.bx id z/\DA X (id+1000000)=true)\/∃id i z,a=.rp id i z/\DA X (id+1000000)=true:=fun {a} ha=>by
  cases a with
  | bx id z=>exact .inl ⟨id,z,rfl,ha⟩
  | rp id i z=>exact .inr ⟨id,i,z,rfl,ha⟩
  | _=>cases ha
 unfold yJ at hp;split at hp
 ·rename_i t x f R;simp only[cc,R]at u ⊢;split at u
  case h_2=>exact u.elim
  rename_i hT;split at u
  case h_2=>exact u.elim
  rcases U hp with⟨id,z,e,hi⟩ | ⟨id,i,z,e,hi⟩<;>simp only[e]at u ⊢
  ·have J:h id≠.none:=fun e2=>by rw[e2]at u;exact u
   rcases O id hi J with⟨D,I⟩ | I
   ·cases L:h id<;>rw[L]at D I u<;>first | exact u.elim | exact absurd rfl I | (cases N:h' id<;>rw[N]at D<;>first | exact u | (exfalso;revert D;decide) | cases D)
   rw[I];exact u
  have J:h id≠.none:=fun e2=>by rw[e2]at u;exact u
  rcases O id hi J with⟨D,I⟩ | I
  ·cases L:h id<;>rw[L]at D I u<;>first | exact u.elim | exact absurd rfl I | (cases N:h' id<;>rw[N]at D<;>first | exact u | (exfalso;revert D;decide) | cases D)
  rw[I];exact u
 ·rename_i x R;simp only[cc,R]at u ⊢;rcases U hp with⟨id,z,e,hi⟩ | ⟨id,i,z,e,hi⟩<;>simp only[e]at u ⊢
  ·have J:h id≠.none:=fun e2=>by rw[e2]at u;exact u
   rcases O id hi J with⟨D,I⟩ | I
   ·cases L:h id<;>rw[L]at D I u<;>first | exact u.elim | exact absurd rfl I | (cases N:h' id<;>rw[N]at D<;>first | exact u | (exfalso;revert D;decide) | cases D)
   rw[I];exact u
  have J:h id≠.none:=fun e2=>by rw[e2]at u;exact u
  rcases O id hi J with⟨D,I⟩ | I
  ·cases L:h id<;>rw[L]at D I u<;>first | exact u.elim | exact absurd rfl I | (cases N:h' id<;>rw[N]at D<;>first | exact u | (exfalso;revert D;decide) | cases D)
  rw[I];exact u
 cases hp
theorem Kw{C:Ctx}{o:Oper}{X:List Nat}{h:Nat->AB}{v:AV}{n:Option AB}(hp:yJ X o rho=true)(u:cc C o rho h fun D e' I=>D=v/\e'=e/\I=n):n=none:=by
 unfold yJ at hp;split at hp
 ·rename_i z;simp only[cc,z]at u
  repeat' (split at u)
  all_goals first | exact u.elim | exact u.2.2.symm
 ·rename_i z;simp only[cc,z]at u
  repeat' (split at u)
  all_goals first | exact u.elim | exact u.2.2.symm
 cases hp
def Kx(ops:Array Oper)(o:Oper):Bool:=match o.dst with
 | some d=>!yK ops o d
 | none=>true
def Ky(ops:Array Oper)(b:Array Nat):Bool:=
 (List.range ops.size).all fun j=>(match ops[j]? with
  | some oj=>(oj.after.toList.all fun e=>!Region.binds .any e||Nat.blt e.on j)&&(List.range j).all fun i=>!(b.getD j 0).testBit i||(oj.after.toList.any fun e=>Region.binds .any e&&(cG e.on i||(Nat.blt i e.on&&(b.getD e.on 0).testBit i)))
  | none=>true)
def oo(C:Ctx)(ops:Array Oper):Bool:=
 let ap:=ops.toList.any fun o=>lF C o.op;let b:=Region.before ops
 Ky ops b&&(List.range ops.size).all fun j=>match ops[j]? with
  | some oj=>Kx ops oj&&(List.range j).all fun i=>match ops[i]? with
   | some oi=>Kr C ap ops b i j oi oj
   | none=>true
  | none=>true
def Kz(ops:Array Oper)(E:Nat->Bool):Prop:=∀(j:Nat) oj,ops[j]?=some oj->E j=true->∀e∈oj.after,Region.binds .any e=true->E e.on=true
theorem El{b:Array Nat}(h:Ky ops b=true):(∀(j:Nat) u,ops[j]?=some u->∀e∈u.after,Region.binds .any e=true->e.on<j)/\
  ∀(E:Nat->Bool),Kz ops E->∀(j:Nat) u,ops[j]?=some u->(∀e∈u.after,Region.binds .any e=true->E e.on=true)->∀i,i<j->(b.getD j 0).testBit i=true->E i=true:=by
 have L:∀(j:Nat) u,ops[j]?=some u->(∀e∈u.after,Region.binds .any e=true->e.on<j)/\∀i,i<j->(b.getD j 0).testBit i=true->∃e∈u.after,Region.binds .any e=true/\(e.on=i\/(i<e.on/\(b.getD e.on 0).testBit i=true)):=by
  intro j u I;have N:=dY.1 h j (wx.2 (qS.1 I).1);simp only[I,aJ]at N;refine⟨fun e J hb=>?_,fun i hi O=>?_⟩
  ·have z:=dY.1 N.1 e (cJ.2 J);rw[hb]at z;simp only[ir,ph]at z;exact gB z
  have z:=dY.1 N.2 i (wx.2 hi);rw[O]at z;simp only[ir,ph]at z;obtain⟨e,J,R⟩:=wy.1 z;simp only[aJ,lZ]at R;exact⟨e,cJ.1 J,R.1,R.2.imp bz.1 fun h=>⟨gB h.1,h.2⟩⟩
 refine⟨fun j u I=>(L j u I).1,fun E hE j=>?_⟩
 induction j using Nat.strongRecOn with
 | _ j ih=>
  intro u I W i hi O;obtain⟨e,J,hb,z⟩:=(L j u I).2 i hi O;rcases z with z | z
  ·rw[<-z];exact W e J hb
  have Y:=(L j u I).1 e J hb;have U:=W e J hb;cases D:ops[e.on]? with
  | none=>
   have:e.on<ops.size:=Nat.lt_trans Y (qS.1 I).1;rw[cC this]at D;cases D
  | some Z=>exact ih e.on Y Z D (fun e' TH V=>hE e.on Z D U e' TH V) i z.1 z.2
variable {rho':Operand->AV}
theorem HY{h:Nat->AB}:∀{ps:List (Nat×Operand)} {cs:List PV},(∀p∈ps,rho p.2=rho' p.2)->lA h fs rho ps cs=lA h fs rho' ps cs:=by
 intro ps
 induction ps with
 | nil=>intro cs _;rfl
 | cons p ps ih=>
  intro cs hp;obtain⟨i,x⟩:=p;funext K;have e:=hp (i,x) (by simp);simp only at e;simp only[lA,e];have:∀cs,lA h fs rho ps cs=lA h fs rho' ps cs:=fun cs=>ih (fun p u=>hp p (by simp[u]));simp only[this]
theorem HZ{h:Nat->AB}:∀{ps:List (Nat×Operand)} {cs:List AV},(∀p∈ps,rho p.2=rho' p.2)->mU h fs rho ps cs=mU h fs rho' ps cs:=by
 intro ps
 induction ps with
 | nil=>intro cs _;rfl
 | cons p ps ih=>
  intro cs hp;obtain⟨i,x⟩:=p;funext K;have e:=hp (i,x) (by simp);simp only at e;simp only[mU,e];have:∀cs,mU h fs rho ps cs=mU h fs rho' ps cs:=fun cs=>ih (fun p u=>hp p (by simp[u]));simp only[this]
theorem wB{b:Bool}{h:Nat->AB}{size:Nat}:∀{ps:List (Nat×Operand)} {cs:List (List PV)},(∀p∈ps,rho p.2=rho' p.2)->iD b h size rho ps cs=iD b h size rho' ps cs:=by
 intro ps
 induction ps with
 | nil=>intro cs _;rfl
 | cons p ps ih=>
  intro cs hp;obtain⟨i,x⟩:=p;funext K;have e:=hp (i,x) (by simp);simp only at e;simp only[iD,e];have:∀cs,iD b h size rho ps cs=iD b h size rho' ps cs:=fun cs=>ih (fun p u=>hp p (by simp[u]));simp only[this]
theorem tK{C:Ctx}{o:Oper}{rho rho':Operand->AV}{h:Nat->AB}{K:KK}(z:∀x∈o.op.operands,rho x=rho' x)(u:cc C o rho h K):cc C o rho' h K:=by
 cases W:o.op<;>simp only[W,Op.operands]at z<;>simp only[cc,W]at u ⊢<;>try exact u
 case move x=>rw[<-z x (by simp)];exact u
 case assign x=>rw[<-z x (by simp)];exact u
 case pick c a b=>rw[<-z c (by simp),<-z a (by simp),<-z b (by simp)];exact u
 case box e x=>rw[<-z x (by simp)];exact u
 case build t ps=>
  split at u
  ·rename_i fs _ _ _ _ hT;split at u
   ·rename_i I;rw[<-HY (rho:=rho) (rho':=rho') (fun p hp=>z p.2 (by simp;exact⟨p.1,cJ.1 hp⟩))];exact u
   rename_i I;rw[<-HZ (rho:=rho) (rho':=rho') (fun p hp=>z p.2 (by simp;exact⟨p.1,cJ.1 hp⟩))];exact u
  exact u
 case buildSlice t n ps=>
  split at u
  ·split at u
   ·split at u
    ·split at u
     ·rw[<-wB (rho:=rho) (rho':=rho') (fun p hp=>z p.2 (by simp;exact⟨p.1,cJ.1 hp⟩))];exact u
     rw[<-wB (rho:=rho) (rho':=rho') (fun p hp=>z p.2 (by simp;exact⟨p.1,cJ.1 hp⟩))];exact u
    exact u
   exact u
  exact u
 case load t x=>rw[<-z x (by simp)];exact u
 case store t x y=>rw[<-z x (by simp),<-z y (by simp)];exact u
 case nilCheck x=>rw[<-z x (by simp)];exact u
 case binOp op t x y t'=>rw[<-z x (by simp),<-z y (by simp)];exact u
 case unOp op t x=>rw[<-z x (by simp)];exact u
 case convert s d x=>rw[<-z x (by simp)];exact u
 case makeFunc fn first cap=>
  cases fn with
  | func f=>
   have:cap.toList.map rho=cap.toList.map rho':=qY fun x O=>z x (by simp[cJ.1 O]);simp only[this]at u;exact u
  | _=>exact u
 case makeSlice t x y=>rw[<-z x (by simp),<-z y (by simp)];exact u
 case slice t x lo hi mx=>
  cases mx with
  | some m=>exact u
  | none=>
   have Y:=z x (by simp);have e1:∀y,lo=some y->rho y=rho' y:=fun y R=>z y (by simp[R]);have e2:∀y,hi=some y->rho y=rho' y:=fun y R=>z y (by simp[R]);have Z:g_ C rho h t x lo hi K=g_ C rho' h t x lo hi K:=by
    unfold g_;rw[Y];cases lo<;>cases hi<;>simp only[Option.some.injEq,forall_eq',forall_eq,reduceCtorEq,false_implies,implies_true]at e1 e2<;>simp only[e1,e2]
   have hv:∀id e' es,v_ C rho t lo hi id e' es K=v_ C rho' t lo hi id e' es K:=fun id e' es=>by
    unfold v_;cases lo<;>cases hi<;>simp only[Option.some.injEq,forall_eq',forall_eq,reduceCtorEq,false_implies,implies_true]at e1 e2<;>simp only[e1,e2]
   simp only at u ⊢;simp only[<-Y,<-Z,<-hv];exact u
 case makeMap t r=>cases r<;>exact u
 case lookup t x i ck=>rw[<-z x (by simp),<-z i (by simp)];exact u
 case mapUpdate t x i y=>rw[<-z x (by simp),<-z i (by simp),<-z y (by simp)];exact u
 case range t x=>rw[<-z x (by simp)];exact u
 case entry x=>rw[<-z x (by simp)];exact u
 case fieldAddr t x f=>rw[<-z x (by simp)];exact u
 case field t x f=>rw[<-z x (by simp)];exact u
 case indexAddr t x y=>rw[<-z x (by simp),<-z y (by simp)];exact u
 case index t x y=>rw[<-z x (by simp),<-z y (by simp)];exact u
 case extract x i=>rw[<-z x (by simp)];exact u
 case call c=>
  have O:c.args.toList.map rho=c.args.toList.map rho':=qY fun x U=>z x (by simp[Call.operands,cJ.1 U]);have D:∀x∈c.args.toList,rho x=rho' x:=fun x U=>z x (by simp[Call.operands,cJ.1 U]);split at u
  ·split at u
   ·rename_i I N;simp only[I,N]at *;rw[<-D _ (by simp)];exact u
   exact u
  ·split at u
   ·rename_i I N;simp only[I,N]at *;rw[<-D _ (by simp)];exact u
   exact u
  ·split at u
   ·rename_i I;simp only[I]at *;rw[<-D _ (by simp),<-D _ (by simp)];exact u
   exact u
  ·split at u
   ·rename_i I;simp only[I]at *;rw[<-D _ (by simp),<-D _ (by simp)];exact u
   ·rename_i I;simp only[I]at *;rw[<-D _ (by simp),<-D _ (by simp),<-D _ (by simp)];exact u
   ·rename_i I;simp only[I]at *;rw[<-D _ (by simp),<-D _ (by simp),<-D _ (by simp),<-D _ (by simp),<-D _ (by simp)];exact u
   exact u
  ·split at u
   ·rename_i I N;simp only[I,N]at *;rw[<-D _ (by simp),<-D _ (by simp)];exact u
   exact u
  ·rename_i g J;have V:c.callee=.value g:=by
    cases L:c.callee with
    | value g'=>rw[L]at J;simp only[fc]at J;injection J with J;rw[J]
    | invoke r m=>rw[L]at J;cases J
    | builtin b=>rw[L]at J;cases b<;>cases J
   have hg:=z g (by simp[Call.operands,V]);rw[<-hg,<-O];exact u
  exact u
end Go.AM
namespace Go.AM
open Go.RowKit
theorem yM{h h':Nat->AB}{id:Nat}:∀(fe:List (Nat×AB)) ,h id=h' id->app h fe id=app h' fe id:=by
 intro fe
 induction fe generalizing h h' with
 | nil=>intro e;exact e
 | cons x fe ih=>
  intro e;refine ih ?_;by_cases u:id=x.1
  ·rw[u,aF,aF]
  rw[bg _ _ u,bg _ _ u];exact e
theorem l8{h:Nat->AB}:∀{fe:List (Nat×AB)},jD h fe=true->∀p∈fe,(h p.1).there:=by
 intro fe
 induction fe with
 | nil=>intro _ p hp;cases hp
 | cons x fe ih=>
  intro u p hp;simp only[jD,aJ]at u;rcases L8.1 hp with e | e
  ·subst e;have:=u.1;cases hx:h p.1<;>rw[hx]at this<;>first | trivial | (simp[Qy]at this)
  exact ih u.2 p e
def Hn(B:Nat->AB)(r:Nat->RR)(E:Nat->Bool):Nat->Nat->AB
 | 0=>B
 | i+1=>match E i with
  | true=>app (Hn B r E i) (r i).eff
  | false=>Hn B r E i
theorem Vv{B:Nat->AB}{r:Nat->RR}{E:Nat->Bool}(i:Nat):∀(m:Nat),(∀k,k<m->(E k=true↔k<i)\/(r k).eff=[])->i<=m->Hn B r E m=Hn B r (fun _=>true) i:=by
 have u:∀m,m<=i->(∀k,k<m->(E k=true↔k<i)\/(r k).eff=[])->Hn B r E m=Hn B r (fun _=>true) m:=by
  intro m
  induction m with
  | zero=>intro _ _;rfl
  | succ m ih=>
   intro hm hk;have z:=ih (by omega) (fun k D=>hk k (by omega));simp only[Hn];rw[z];rcases hk m (by omega) with h | h
   ·rw[h.2 (by omega)]
   rw[h];cases E m<;>rfl
 intro m
 induction m with
 | zero=>
      intro _ hi;have:i=0:=by omega
      subst this;rfl
 | succ m ih=>
  intro hk hi;by_cases e:i=m+1
  ·subst e;exact u (m+1) (aG _) hk
  have z:=ih (fun k D=>hk k (by omega)) (by omega);rw[<-z];simp only[Hn];rcases hk m (by omega) with h | h
  ·have:E m=false:=by rw[cu];intro I;have:=h.1 I;omega
   rw[this]
  rw[h];cases E m<;>rfl
theorem WN{B:Nat->AB}{r:Nat->RR}{E:Nat->Bool}{i:Nat}(hi:E i=false):∀(m:Nat),(∀k,i<k->k<m->E k=true->(r k).eff=[])->i<m->Hn B r (fun k=>E k||cG k i) m=app (Hn B r E m) (r i).eff:=by
 have u:∀m,m<=i->Hn B r (fun k=>E k||cG k i) m=Hn B r E m:=by
  intro m
  induction m with
  | zero=>intro _;rfl
  | succ m ih=>
   intro hm;have:cG m i=false:=by rw[cu];intro h;have:=bz.1 h;omega
   simp only[Hn,this,wz];rw[ih (by omega)]
 intro m
 induction m with
 | zero=>intro _ h;omega
 | succ m ih=>
  intro hk eX;by_cases e:m=i
  ·subst e;simp only[Hn,hi,bz.2 rfl,gF];rw[u m (aG _)]
  have z:=ih (fun k z h2=>hk k z (by omega)) (by omega);have:cG m i=false:=by rw[cu];intro h;exact e (bz.1 h)
  simp only[Hn,this,wz];rw[z];cases D:E m with
  | false=>rfl
  | true=>rw[hk m (by omega) (by omega) D];rfl
theorem QE(C:Ctx)(ap:Bool)(op:Op):cls C ap op<=3:=by
 unfold cls;split<;>first | decide | skip
 all_goals (cases ap<;>first | decide | skip)
 all_goals (split<;>first | decide | skip)
 all_goals (split<;>decide)
theorem QF(C:Ctx)(op:Op):cls C true op≠1:=by
 unfold cls;split<;>first | decide | skip
 all_goals (split<;>first | decide | skip)
 all_goals (split<;>decide)
theorem N6{C:Ctx}{ap:Bool}{o:Oper}{rho:Operand->AV}{h:Nat->AB}{K:KK}(D:cls C ap o.op<=1)(u:cc C o rho h K):∃v e,K v e none:=by
 cases I:o.op<;>rw[I]at D<;>simp only[cc,I]at u
 case move x=>exact⟨_,_,u⟩
 case assign x=>exact⟨_,_,u⟩
 case pick c a b=>
  split at u
  ·split at u<;>exact⟨_,_,u⟩
  exact u.elim
 case binOp op t x y t'=>
  split at u
  ·obtain⟨v,z,_⟩:=HD u;exact⟨_,_,z⟩
  ·obtain⟨v,z,_⟩:=HA u;exact⟨_,_,z⟩
  exact u.elim
 case unOp op t x=>
  split at u
  ·exact⟨_,_,u⟩
  ·obtain⟨v,z,_⟩:=qg u;exact⟨_,_,z⟩
  exact u.elim
 case convert s d x=>
  split at u
  ·obtain⟨v,z,_⟩:=qg u;exact⟨_,_,z⟩
  ·exact⟨_,_,u⟩
  ·exact⟨_,_,u⟩
  exact u.elim
 case extract x i=>
  split at u
  ·split at u
   ·exact⟨_,_,u⟩
   exact u.elim
  exact u.elim
 case index t x y=>
  split at u
  ·obtain⟨b,_,u⟩:=u;exact⟨_,_,u⟩
  exact u.elim
 case field t x f=>
  split at u
  ·split at u
   ·split at u
    ·split at u
     ·exact⟨_,_,u⟩
     exact u.elim
    split at u
    ·exact⟨_,_,u⟩
    exact u.elim
   exact u.elim
  exact u.elim
 case makeFunc fn first cap=>
  cases fn with
  | func f=>
   simp only at u;split at u
   ·exact⟨_,_,u⟩
   exact u.elim
  | _=>exact u.elim
 case fieldAddr t x f=>
  split at u
  ·split at u
   ·split at u
    ·exact⟨_,_,u⟩
    ·split at u
     ·exact u.elim
     exact⟨_,_,u⟩
    ·split at u
     ·exact⟨_,_,u⟩
     ·exact⟨_,_,u⟩
     exact u.elim
    exact u.elim
   exact u.elim
  exact u.elim
 case nilCheck x=>
  split at u
  ·exact⟨_,_,u⟩
  ·split at u
   ·exact⟨_,_,u⟩
   ·exact⟨_,_,u⟩
   exact u.elim
  ·split at u
   ·exact⟨_,_,u⟩
   ·exact⟨_,_,u⟩
   exact u.elim
  exact u.elim
 case call c=>
  simp only[cls]at D;split at D
  ·exact absurd D (by decide)
  ·exact absurd D (by decide)
  ·rename_i z;simp only[z,fc,fZ]at u;split at u
   ·split at u
    ·exact⟨_,_,u⟩
    exact u.elim
   exact u.elim
  ·rename_i z;simp only[z,fc,fZ]at u;split at u
   ·split at u
    ·exact⟨_,_,u⟩
    exact u.elim
   ·split at u
    ·exact⟨_,_,u⟩
    exact u.elim
   ·split at u
    ·exact⟨_,_,u⟩
    exact u.elim
   exact u.elim
  ·split at D<;>exact absurd D (by decide)
  ·exact absurd D (by decide)
  exact absurd D (by decide)
 all_goals exact absurd D (by simp[cls])
theorem TJ{C:Ctx}{ap:Bool}{o:Oper}{rho:Operand->AV}{h:Nat->AB}{v:AV}{e:List (Nat×AB)}{n:Option AB}{b:AB}(z:cc C o rho h fun D e' I=>D=v/\e'=e/\I=n)(u:some b=n):cls C ap o.op=3\/cls C ap o.op=2:=by
 have hle:=QE C ap o.op;by_cases J:cls C ap o.op<=1
 ·obtain⟨_,_,_,_,L⟩:=N6 J z;rw[<-L]at u;cases u
 omega
section
variable {C:Ctx} {ops:Array Oper} {st:Nat->AS} {r:Nat->RR} {ap:Bool} {X:List Nat}
theorem Zf{B:Nat->AB}{r:Nat->RR}{E:Nat->Bool}{d:Nat}(i:Nat):∀(m:Nat),(∀k,k<m->(E k=true↔k<i)\/∀p∈(r k).eff,p.1≠d)->i<=m->Hn B r E m d=Hn B r (fun _=>true) i d:=by
 have z:∀m,m<=i->(∀k,k<m->(E k=true↔k<i)\/∀p∈(r k).eff,p.1≠d)->Hn B r E m d=Hn B r (fun _=>true) m d:=by
  intro m
  induction m with
  | zero=>intro _ _;rfl
  | succ m ih=>
   intro hm hk;have u:=ih (by omega) (fun k D=>hk k (by omega));simp only[Hn];rcases hk m (by omega) with h | h
   ·rw[h.2 (by omega)];exact yM _ u
   cases E m with
   | true=>exact yM _ u
   | false=>exact u.trans (jO h).symm
 intro m
 induction m with
 | zero=>
      intro _ hi;have:i=0:=by omega
      subst this;rfl
 | succ m ih=>
  intro hk hi;by_cases e:i=m+1
  ·subst e;exact z (m+1) (aG _) hk
  have u:=ih (fun k D=>hk k (by omega)) (by omega);rw[<-u];simp only[Hn];rcases hk m (by omega) with h | h
  ·have:E m=false:=by rw[cu];intro I;have:=h.1 I;omega
   rw[this]
  cases E m with
  | true=>exact jO h
  | false=>rfl
structure acb(C:Ctx)(ap:Bool)(ops:Array Oper)(i j:Nat)(oi oj:Oper):Prop where
 dst:∀x,oi.dst=some x->oj.dst≠some x
 war:∀d,oj.dst=some d->d∈oi.looksAt ops->((Region.before ops).getD j 0).testBit i=true
 raw:∀d,oi.dst=some d->d∈oj.looksAt ops->((Region.before ops).getD j 0).testBit i=true
 w3:cls C ap oj.op=3->cls C ap oi.op=3->((Region.before ops).getD j 0).testBit i=true
theorem nR(J:oo C ops=true):Ky ops (Region.before ops)=true/\(∀(j:Nat) u,ops[j]?=some u->∀d,u.dst=some d->d ∉ u.looksAt ops)/\
  ∀(i j:Nat) oi u,i<j->ops[i]?=some oi->ops[j]?=some u->acb C (ops.toList.any fun o=>lF C o.op) ops i j oi u:=by
 simp only[oo,aJ]at J;obtain⟨h1,h2⟩:=J;have V:∀(j:Nat) u,ops[j]?=some u->Kx ops u=true/\∀(i:Nat) oi,i<j->ops[i]?=some oi->Kr C (ops.toList.any fun o=>lF C o.op) ops (Region.before ops) i j oi u=true:=by
  intro j u D;have I:=dY.1 h2 j (wx.2 (qS.1 D).1);simp only[D,aJ]at I;refine⟨I.1,fun i oi hi z=>?_⟩;have W:=dY.1 I.2 i (wx.2 hi);simp only[z]at W;exact W
 refine⟨h1,fun j u D d L=>?_,fun i j oi u Ma z D=>?_⟩
 ·have:=(V j u D).1;simp only[Kx,L,yK]at this;simpa using this
 have I:=(V j u D).2 i oi Ma z;simp only[Kr,aJ]at I;obtain⟨⟨⟨Y,N⟩,O⟩,Z⟩:=I;refine⟨fun x hx hy=>?_,fun d L R=>?_,fun d L R=>?_,fun hc hi=>?_⟩
 ·simp only[hx,hy,bz.2 rfl,ir]at Y;cases Y
 ·simp only[L,yK]at N;have U:(oi.looksAt ops).contains d=true:=by simpa using R
  rw[U]at N;simpa using N
 ·simp only[L,yK]at O;have U:(u.looksAt ops).contains d=true:=by simpa using R
  rw[U]at O;simpa using O
 rw[ae hc,ae hi]at Z;exact Z
theorem KB(u:oo C ops=true)(H:∀(i:Nat) o,ops[i]?=some o->DStep C ap ops.toList o (st i) (r i) (st (i+1))){i:Nat}{o:Oper}(z:ops[i]?=some o){d:Tmp}(D:o.dst=some d):∀k,i+1<=k->k<=ops.size->(st k).t d=(r i).v:=by
 obtain⟨_,hs,hp⟩:=nR u;intro k
 induction k with
 | zero=>intro h;omega
 | succ k ih=>
  intro Ym hk;by_cases e:i=k
  ·subst e;rw[(H i o z).next,D];exact aF _ _ _
  have I:=ih (by omega) (by omega);have J:ops[k]?=some ops[k]:=cC (by omega);rw[(H k _ J).next];show fE (st k).t _ _ d=_;have L:=(hp i k o _ (by omega) z J).dst d D;cases N:ops[k].dst with
  | none=>exact I
  | some d'=>rw[fE,bg _ _ (fun e=>L (by rw[N,e]))];exact I
theorem Fz(H:∀(i:Nat) o,ops[i]?=some o->DStep C ap ops.toList o (st i) (r i) (st (i+1))){x:Nat}(z:∀(k:Nat) o,ops[k]?=some o->o.dst≠some x):∀k,k<=ops.size->(st k).t x=(st 0).t x:=by
 intro k
 induction k with
 | zero=>intro _;rfl
 | succ k ih=>
  intro hk;have u:ops[k]?=some ops[k]:=cC (by omega);rw[(H k _ u).next];show fE (st k).t _ _ x=_;cases D:ops[k].dst with
  | none=>exact ih (by omega)
  | some d'=>rw[fE,bg _ _ (fun e=>z k _ u (by rw[D,e]))];exact ih (by omega)
theorem N7(u:oo C ops=true)(H:∀(i:Nat) o,ops[i]?=some o->DStep C ap ops.toList o (st i) (r i) (st (i+1))){j:Nat}{o:Oper}(z:ops[j]?=some o){d:Tmp}(I:o.dst=some d):∀k,k<=j->(st k).t d=(st 0).t d:=by
 obtain⟨_,hs,hp⟩:=nR u;have hj:=(qS.1 z).1;intro k
 induction k with
 | zero=>intro _;rfl
 | succ k ih=>
  intro hk;have D:ops[k]?=some ops[k]:=cC (by omega);rw[(H k _ D).next];show fE (st k).t _ _ d=_;cases J:ops[k].dst with
  | none=>exact ih (by omega)
  | some L=>rw[fE,bg _ _ (fun e=>(hp k j _ o (by omega) D z).dst L J (by rw[I,e]))];exact ih (by omega)
def N8(ops:Array Oper)(r:Nat->RR)(k d:Nat)(b:AB):Prop:=∃o,ops[k]?=some o/\o.dst=some d/\(r k).new=some b
def ku(ops:Array Oper)(r:Nat->RR)(i d:Nat):Prop:=∃k b,i<=k/\N8 ops r k d b
theorem vA(Y:oo C ops=true)(H:∀(i:Nat) o,ops[i]?=some o->DStep C ap ops.toList o (st i) (r i) (st (i+1))){B:Nat->AB}(N9:∀k d b,N8 ops r k d b->B d=b)(Em:∀d,¬ku ops r 0 d->B d=(st 0).h d)(h0:∀d,ku ops r 0 d->(st 0).h d=.none):
  ∀i,i<=ops.size->∀d,(ku ops r i d->(st i).h d=.none/\Hn B r (fun _=>true) i d=B d)/\(¬ku ops r i d->(st i).h d=Hn B r (fun _=>true) i d):=by
 obtain⟨_,hs,hp⟩:=nR Y;intro i
 induction i with
 | zero=>intro _ d;exact⟨fun h=>⟨h0 d h,rfl⟩,fun h=>(Em d h).symm⟩
 | succ i ih=>
  intro hi d;have ih:=ih (by omega);have U:ops[i]?=some ops[i]:=cC (by omega);have D:=H i _ U;have Z:=l8 D.there;have J:Hn B r (fun _=>true) (i+1)=app (Hn B r (fun _=>true) i) (r i).eff:=rfl;have wh:(st (i+1)).h=sD (app (st i).h (r i).eff) (ops[i].dst.getD 0) (r i).new:=by rw[D.next]
  have out:ku ops r i d->∀p∈(r i).eff,p.1≠d:=fun N p Vw e=>by
   have u:=Z p Vw;rw[e,((ih d).1 N).1]at u;exact u
  have Zg:∀b,(r i).new=some b->∃z,ops[i].dst=some z:=fun b hb=>by
   have:=D.ndst;rw[hb]at this;cases hd:ops[i].dst with
   | none=>rw[hd]at this;cases this
   | some z=>exact⟨z,rfl⟩
  refine⟨fun N=>?_,fun N=>?_⟩
  ·have I:ku ops r i d:=by obtain⟨k,b,u,O⟩:=N;exact⟨k,b,by omega,O⟩
   obtain⟨u,O⟩:=(ih d).1 I;refine⟨?_,by rw[J,jO (out I)];exact O⟩;rw[wh];cases hn:(r i).new with
   | none=>show app _ _ d=_;rw[jO (out I)];exact u
   | some b=>
    obtain⟨z,V⟩:=Zg b hn;rw[V];show a8 _ z b d=_;have cO:d≠z:=fun e=>by
     obtain⟨k,b',h3,o',L,W,h6⟩:=N;exact (hp i k _ o' (by omega) U L).dst z V (by rw[W,e])
    rw[bg _ _ cO,jO (out I)];exact u
  by_cases R:∃b,N8 ops r i d b
  ·obtain⟨b,R⟩:=R;have I:ku ops r i d:=⟨i,b,aG _,R⟩;obtain⟨o',L,W,h6⟩:=R;rw[U]at L;injection L with L;rw[wh,J,jO (out I),((ih d).1 I).2,h6,L,W,N9 i d b ⟨o',by rw[U,L],W,h6⟩];exact aF _ _ _
  have I:¬ku ops r i d:=fun ⟨k,b,u,O⟩=>by
   by_cases e:k=i
   ·subst e;exact R ⟨b,O⟩
   exact N ⟨k,b,by omega,O⟩
  have u:=(ih d).2 I;rw[wh,J,<-yM (r i).eff u];cases hn:(r i).new with
  | none=>rfl
  | some b=>
   obtain⟨z,V⟩:=Zg b hn;rw[V];show a8 _ z b d=_;rw[bg _ _ (fun e=>R ⟨b,_,U,by rw[V,e],hn⟩)]
def KC(b b':AB):Prop:=b'=b\/(∃e es dv,b=.row e es/\b'=.row e dv)\/(∃cs oM,b=.box cs/\b'=.box oM)\/(∃mk es mk' dv,b=.map mk es/\b'=.map mk' dv)
theorem KC.trans{a b c:AB}(h:KC a b)(k:KC b c):KC a c:=by
 rcases h with rfl | ⟨e,es,I,rfl,rfl⟩ | ⟨cs,J,rfl,rfl⟩ | ⟨m,es,m',I,rfl,rfl⟩
 ·exact k
 ·rcases k with rfl | ⟨e',fs,D,u,rfl⟩ | ⟨cs,J,u,rfl⟩ | ⟨_,_,_,_,u,rfl⟩
  ·exact .inr (.inl ⟨_,_,_,rfl,rfl⟩)
  ·injection u with u h2;subst u;exact .inr (.inl ⟨_,_,_,rfl,rfl⟩)
  ·cases u
  cases u
 ·rcases k with rfl | ⟨e',fs,D,u,rfl⟩ | ⟨ds,z,u,rfl⟩ | ⟨_,_,_,_,u,rfl⟩
  ·exact .inr (.inr (.inl ⟨_,_,rfl,rfl⟩))
  ·cases u
  ·exact .inr (.inr (.inl ⟨_,_,rfl,rfl⟩))
  cases u
 rcases k with rfl | ⟨e',fs,D,u,rfl⟩ | ⟨ds,z,u,rfl⟩ | ⟨_,_,_,_,u,rfl⟩
 ·exact .inr (.inr (.inr ⟨_,_,_,_,rfl,rfl⟩))
 ·cases u
 ·cases u
 exact .inr (.inr (.inr ⟨_,_,_,_,rfl,rfl⟩))
theorem QH{b u:AB}(h:Qx b u=true):KC b u:=by
 cases b<;>cases u<;>first | (simp[Qx]at h;done) | skip
 ·have:=bz.1 h;subst this;exact .inr (.inl ⟨_,_,_,rfl,rfl⟩)
 ·exact .inr (.inr (.inl ⟨_,_,rfl,rfl⟩))
 exact .inr (.inr (.inr ⟨_,_,_,_,rfl,rfl⟩))
theorem wC{h:Nat->AB}:∀{fe:List (Nat×AB)},l7 h fe=true->∀p∈fe,KC (h p.1) p.2:=by
 intro fe
 induction fe with
 | nil=>intro _ p hp;cases hp
 | cons x fe ih=>
  intro u p hp;simp only[l7,aJ]at u;rcases L8.1 hp with e | e
  ·subst e;exact QH u.1
  exact ih u.2 p e
theorem BO(O:oo C ops=true)(H:∀(i:Nat) o,ops[i]?=some o->DStep C ap ops.toList o (st i) (r i) (st (i+1)))(U:ap=false){B:Nat->AB}(V:∀k d b,N8 ops r k d b->B d=b)(W:∀d,¬ku ops r 0 d->B d=(st 0).h d)(Y:∀d,ku ops r 0 d->(st 0).h d=.none)(E:Nat->Bool):
  ∀m,m<=ops.size->∀d,KC (B d) (Hn B r E m d):=by
 have N:=vA O H V W Y;have u:∀m,m<=ops.size->∀d,KC (B d) (Hn B r (fun _=>true) m d):=by
  intro m
  induction m with
  | zero=>intro _ d;exact .inl rfl
  | succ m ih=>
   intro Z d;have R:ops[m]?=some ops[m]:=cC (by omega);have D:=H m _ R;show KC (B d) (app (Hn B r (fun _=>true) m) (r m).eff d);rcases fx (r m).eff (Hn B r (fun _=>true) m) d with⟨b,J,z⟩ | ⟨_,z⟩
   ·rw[z];have hk:=wC (D.kind U) _ J;have L:=l8 D.there _ J;have I:¬ku ops r m d:=fun hp=>by rw[((N m (by omega) d).1 hp).1]at L;exact L
    rw[(N m (by omega) d).2 I]at hk;exact (ih (by omega) d).trans hk
   rw[z];exact ih (by omega) d
 intro m
 induction m with
 | zero=>intro _ d;exact .inl rfl
 | succ m ih=>
  intro Z d;have R:ops[m]?=some ops[m]:=cC (by omega);have D:=H m _ R;simp only[Hn];cases E m with
  | false=>exact ih (by omega) d
  | true=>
   show KC (B d) (app (Hn B r E m) (r m).eff d);rcases fx (r m).eff (Hn B r E m) d with⟨b,J,z⟩ | ⟨_,z⟩
   ·rw[z];have hk:=wC (D.kind U) _ J;have L:=l8 D.there _ J;have I:¬ku ops r m d:=fun hp=>by rw[((N m (by omega) d).1 hp).1]at L;exact L
    rw[(N m (by omega) d).2 I]at hk;exact (u m (by omega) d).trans hk
   rw[z];exact ih (by omega) d
def VE(ops:Array Oper)(E:Nat->Bool)(x:Nat):Prop:=∀(k:Nat) o,ops[k]?=some o->o.dst=some x->E k=true
open Classical in
noncomputable def TE(ops:Array Oper)(st:Nat->AS)(E:Nat->Bool)(x:Nat):AV:=if VE ops E x then (st ops.size).t x else (st 0).t x
def LE(ops:Array Oper)(r:Nat->RR)(E:Nat->Bool)(d:Nat):Prop:=∀k b,N8 ops r k d b->E k=true
variable {id:Nat}
theorem QI{h:Nat->AB}{c:Nat}:∀{eff:List (Nat×AB)},(∀p∈eff,p.1=id->kc p.2=c)->kc (h id)=c->kc (app h eff id)=c:=by
 intro eff
 induction eff generalizing h with
 | nil=>intro _ u;exact u
 | cons p r ih=>
  intro z u;obtain⟨q,b⟩:=p;refine ih (h:=a8 h q b) (fun p hp e=>z p (cD _ hp) e) ?_;by_cases e:id=q
  ·subst e;rw[aF];exact z _ bW rfl
  rw[bg _ _ e];exact u
theorem KD{X:List Nat}{h:Nat->AB}(hid:DA X (id+1000000)=true):∀{eff:List (Nat×AB)},wA X h eff=true->∀p∈eff,p.1=id->kc p.2=kc (h id)/\kc (h id)≠0:=by
 intro eff
 induction eff with
 | nil=>intro _ p hp;cases hp
 | cons q r ih=>
  intro hk p hp e;obtain⟨i,b⟩:=q;unfold wA at hk;split at hk
  ·rename_i hi;simp only[aJ,Fq]at hk;obtain⟨z,u,D⟩:=hk;rcases L8.1 hp with rfl | hp
   ·simp only at e;subst e;exact⟨cY z,fun I=>by rw[I]at u;cases u⟩
   exact ih D p hp e
  rename_i hi;rcases L8.1 hp with rfl | hp
  ·simp only at e;subst e;rw[hid]at hi;cases hi
  exact ih hk p hp e
theorem QJ{X:List Nat}(hok:oo C ops=true)(H:∀(i:Nat) o,ops[i]?=some o->DStep C ap ops.toList o (st i) (r i) (st (i+1)))(Z:∀k,k<ops.size->wA X (st k).h (r k).eff=true){B:Nat->AB}(N:∀i,i<=ops.size->∀d,(ku ops r i d->(st i).h d=.none/\Hn B r (fun _=>true) i d=B d)/\(¬ku ops r i d->(st i).h d=Hn B r (fun _=>true) i d))(E:Nat->Bool){i:Nat}(hid:DA X (id+1000000)=true)(hi:i<=ops.size)(O:(st i).h id≠.none):
  (kc (Hn B r E ops.size id)=kc ((st i).h id)/\kc ((st i).h id)≠0)\/Hn B r E ops.size id=(st i).h id:=by
 have z:∀k,k<=ops.size->(st k).h id≠.none->(st k).h id=Hn B r (fun _=>true) k id:=fun k hk h=>by
  by_cases hp:ku ops r k id
  ·exact absurd ((N k hk id).1 hp).1 h
  exact (N k hk id).2 hp
 have I:∀{b:AB},kc b≠0->b≠.none:=fun hb e=>by rw[e]at hb;exact hb rfl
 have u:∀m,m<ops.size->∀p∈(r m).eff,p.1=id->kc p.2=kc (Hn B r (fun _=>true) m id)/\kc (Hn B r (fun _=>true) m id)≠0:=fun m D p hp e=>by
  obtain⟨R,J⟩:=KD hid (Z m D) p hp e;rw[z m (by omega) (I J)]at R J;exact⟨R,J⟩
 by_cases U:∃k,k<ops.size/\∃p∈(r k).eff,p.1=id
 ·left;have same:∀m,m<=ops.size->kc (Hn B r (fun _=>true) m id)=kc (B id):=by
   intro m
   induction m with
   | zero=>intro _;rfl
   | succ m ih=>
    intro D;have:=ih (by omega);show kc (app (Hn B r (fun _=>true) m) (r m).eff id)=_;exact QI (fun p hp e=>(u m (by omega) p hp e).1.trans this) this
  have any:∀m,m<=ops.size->kc (Hn B r E m id)=kc (B id):=by
   intro m
   induction m with
   | zero=>intro _;rfl
   | succ m ih=>
    intro D;simp only[Hn];cases E m with
    | false=>exact ih (by omega)
    | true=>exact QI (fun p hp e=>(u m (by omega) p hp e).1.trans (same m (by omega))) (ih (by omega))
  obtain⟨k,hk,p,hp,e⟩:=U;have V:=(u k hk p hp e).2;rw[same k (by omega)]at V;have W:kc ((st i).h id)=kc (B id):=by rw[z i hi O];exact same i hi
  exact⟨by rw[any _ (aG _),W],by rw[W];exact V⟩
 right;have Y:∀(F:Nat->Bool) m,m<=ops.size->Hn B r F m id=B id:=by
  intro F m
  induction m with
  | zero=>intro _;rfl
  | succ m ih=>
   intro D;simp only[Hn];cases F m with
   | false=>exact ih (by omega)
   | true=>
    show app (Hn B r F m) (r m).eff id=_;rw[jO fun p L e=>U ⟨m,by omega,p,L,e⟩];exact ih (by omega)
 rw[Y E _ (aG _),z i hi O,Y _ i hi]
theorem TK{A:rZ}(hC:bP A.C)(Yn:ap=ops.toList.any fun o=>lF A.C o.op)(U:oo A.C ops=true)(hd:∀o∈ops.toList,mL o A.n)(H:∀(i:Nat) o,ops[i]?=some o->DStep A.C ap ops.toList o (st i) (r i) (st (i+1)))(G:∀(i:Nat) o,ops[i]?=some o->BM A.C ap X (kK A.C ap ops) o (st i) (r i) i){B:Nat->AB}(N9:∀k d b,N8 ops r k d b->B d=b)(Em:∀d,¬ku ops r 0 d->B d=(st 0).h d)(h0:∀d,ku ops r 0 d->(st 0).h d=.none)
  {E:Nat->Bool} (hE:Kz ops E) {i:Nat} {o:Oper} (z:ops[i]?=some o) (hi:E i=false) (jz:∀e∈o.after,Region.binds .any e=true->E e.on=true) {S:Nat->Prop} {rho:Nat->Value} {a:Act} {w:World} (sim:cn A cX (LE ops r E) S rho ⟨TE ops st E,Hn B r E ops.size⟩ a w)
  {Q:Exit->Act->World->Prop} {next:Act->World->Prop} (hnext:∀S' rho' a' w',cn A cX (LE ops r fun k=>E k||cG k i) S' rho' ⟨TE ops st (fun k=>E k||cG k i),Hn B r (fun k=>E k||cG k i) ops.size⟩ a' w'->next a' w'):wpOp A.C.P ops Q i next a w:=by
 obtain⟨QL,hs,hp⟩:=nR U;rw[<-Yn]at hp;obtain⟨Vx,Zh⟩:=El QL;have nQ:i<ops.size:=(qS.1 z).1;have hh:=vA U H N9 Em h0;have D:=H i o z;have Y8:mL o A.n:=hd o (aj (by simpa using z));have bits:∀k,k<i->((Region.before ops).getD i 0).testBit k=true->E k=true:=Zh E hE i o z jz;have later:∀(k:Nat) ok,ops[k]?=some ok->i<k->((Region.before ops).getD k 0).testBit i=true->E k=false:=by
  intro k ok hk Ym acj;rw[cu];intro W;have:=Zh E hE k ok hk (fun e he hb=>hE k ok hk W e he hb) i Ym acj;rw[hi]at this;cases this
 have En:∀x,x∈o.looksAt ops->TE ops st E x=(st i).t x:=by
  intro x Y;unfold TE;split
  ·rename_i hv;by_cases hw:∃(k:Nat) (ok:Oper),ops[k]?=some ok/\ok.dst=some x
   ·obtain⟨k,ok,hk,V⟩:=hw;have HR:=(qS.1 hk).1;rcases iq k i with h | h | h
    ·rw[KB U H hk V ops.size (by omega) (aG _),KB U H hk V i (by omega) (by omega)]
    ·subst h;rw[z]at hk;injection hk with hk;subst hk;exact absurd Y (hs k o z x V)
    have L:=later k ok hk h ((hp i k o ok h z hk).war x V Y);rw[hv k ok hk V]at L;cases L
   have O:∀(k:Nat) o,ops[k]?=some o->o.dst≠some x:=fun k o hk e=>hw ⟨k,o,hk,e⟩;rw[Fz H O ops.size (aG _),Fz H O i (by omega)]
  rename_i hv;have hex:∃(k:Nat) (ok:Oper),ops[k]?=some ok/\ok.dst=some x/\E k=false:=qZ fun hn=>hv fun k ok hk V=>by
   cases hE':E k with
   | true=>rfl
   | false=>exact absurd ⟨k,ok,hk,V,hE'⟩ hn
  obtain⟨k,ok,hk,V,W⟩:=hex;rcases iq k i with h | h | h
  ·have:=bits k h ((hp k i ok o h hk z).raw x V Y);rw[W]at this;cases this
  ·subst h;rw[z]at hk;injection hk with hk;subst hk;exact absurd Y (hs k o z x V)
  exact (N7 U H hk V i (by omega)).symm
 have Vy:(cls A.C ap o.op=3\/(cls A.C ap o.op=2/\(kK A.C ap ops)[i]?=some true))->∀k,i<k->k<ops.size->E k=true->(r k).eff=[]:=by
  intro hc k Ym HR W;have hk:ops[k]?=some ops[k]:=cC HR;by_cases I:cls A.C ap ops[k].op=3
  ·have:=later k _ hk Ym (by
    rcases hc with hc | ⟨hc,hf⟩
    ·exact (hp i k o _ Ym z hk).w3 I hc
    exact (yL z hf hc k _ hk I).2 Ym)
   rw[W]at this;cases this
  exact (H k _ hk).quiet I
 have QM:∀k,k<ops.size->(r k).eff≠[]->cls A.C ap (ops[k]?.getD o).op=3:=by
  intro k hk O;have AI:ops[k]?=some ops[k]:=cC hk;rw[AI];by_cases I:cls A.C ap ops[k].op=3
  ·exact I
  exact absurd ((H k _ AI).quiet I) O
 have QN:(cls A.C ap o.op=3\/(cls A.C ap o.op=2/\(kK A.C ap ops)[i]?=some true))->Hn B r E ops.size=Hn B r (fun _=>true) i:=by
  intro hc;refine Vv i ops.size (fun k HR=>?_) (by omega);have hk:ops[k]?=some ops[k]:=cC HR;by_cases O:(r k).eff=[]
  ·exact .inr O
  have I:=QM k HR O;rw[hk]at I;have I:cls A.C ap ops[k].op=3:=I;refine .inl ⟨fun W=>?_,fun eX=>?_⟩
  ·rcases iq k i with h | h | h
   ·exact h
   ·subst h;rw[hi]at W;cases W
   exact absurd (Vy hc k h HR W) O
  rcases hc with hc | ⟨hc,hf⟩
  ·exact bits k eX ((hp k i _ o eX hk z).w3 hc I)
  exact bits k eX ((yL z hf hc k _ hk I).1 eX)
 have ack:cls A.C ap o.op=2->TF o.op=false->∀id,DA X id=true->Hn B r E ops.size id=Hn B r (fun _=>true) i id:=fun hc hth id hid=>by
  refine Zf i ops.size (fun k HR=>?_) (by omega);have hk:ops[k]?=some ops[k]:=cC HR;by_cases O:∀p∈(r k).eff,p.1≠id
  ·exact .inr O
  have NG:(r k).eff≠[]:=fun e=>O (by rw[e];simp);have I:cls A.C ap ops[k].op=3:=by have:=QM k HR NG;rw[hk]at this;exact this
  have hrk:(r k).run=true:=by
   cases hr:(r k).run with
   | true=>rfl
   | false=>exact absurd ((H k _ hk).not hr).2.1 NG
  have hf:(kK A.C ap ops)[k]?=some true:=by
   rcases (G k _ hk hrk).2.1 with h | h
   ·exact h
   exact absurd (fun p hp e=>by have:=HU h p hp;rw[e,hid]at this;cases this) O
  have ord:=BN hk hf I i o z hc hth;refine .inl ⟨fun W=>?_,fun eX=>?_⟩
  ·rcases iq k i with h | h | h
   ·exact h
   ·subst h;rw[hi]at W;cases W
   have:=later k _ hk h (ord.1 h);rw[W]at this;cases this
  exact bits k eX (ord.2 eX)
 have ext:∀id,(st i).h id=.none\/Hn B r (fun _=>true) i id=(st i).h id:=by
  intro id;by_cases DB:ku ops r i id
  ·exact .inl ((hh i (by omega) id).1 DB).1
  exact .inr ((hh i (by omega) id).2 DB).symm
 have opE:(r i).run=true->cc A.C o (ev (TE ops st E)) (Hn B r E ops.size) fun v e n=>v=(r i).v/\e=(r i).eff/\n=(r i).new:=by
  intro u;have L:=D.ran u;have Z:cc A.C o (ev (TE ops st E)) (st i).h fun v e n=>v=(r i).v/\e=(r i).eff/\n=(r i).new:=by
   refine tK (fun x Y=>?_) L;cases x with
   | tmp t=>
    exact (En t (q_ _ (bB.2 ⟨.tmp t,by simpa using Y,rfl⟩))).symm
   | const v=>rfl
   | global g=>rfl
   | func f=>rfl
  have four:cls A.C ap o.op=0\/cls A.C ap o.op=1\/cls A.C ap o.op=2\/cls A.C ap o.op=3:=by
   have:=QE A.C ap o.op;omega
  rcases four with h | h | h | h
  ·exact WH h Z
  ·have Zi:ap=false:=by
    cases acn:ap with
    | false=>rfl
    | true=>
     rw[acn]at h;exact absurd h (QF A.C o.op)
   refine WI h (fun id ht=>?_) Z;have Vz:=BO U H Zi N9 Em h0 E ops.size (aG _) id;have Zj:=BO U H Zi N9 Em h0 (fun _=>true) i (by omega) id;have heq:(st i).h id=Hn B r (fun _=>true) i id:=by
    rcases ext id with e | e
    ·rw[e]at ht;exact ht.elim
    exact e.symm
   rw[<-heq]at Zj;rcases Zj with e | ⟨e,es,dv,e1,e2⟩ | ⟨cs,oM,e1,e2⟩ | ⟨m,es,m',dv,e1,e2⟩
   ·rw[<-e]at Vz;rcases Vz with f | ⟨f,fs,WO,N,f2⟩ | ⟨cs,oM,N,f2⟩ | ⟨m,es,m',dv,N,f2⟩
    ·rw[f];exact⟨ht,fun e es h=>⟨es,h⟩,fun cs h=>⟨cs,h⟩,fun cs h=>⟨cs,h⟩,fun e es h=>⟨es,h⟩⟩
    ·rw[N,f2];exact⟨trivial,fun e es h=>(by injection h with L Z;subst L;exact⟨WO,rfl⟩),fun cs h=>(by cases h),fun cs h=>(by cases h),fun _ _ h=>by cases h⟩
    ·rw[N,f2];exact⟨trivial,fun e es h=>by (cases h),fun cs h=>⟨oM,rfl⟩,fun cs h=>(by cases h),fun _ _ h=>by cases h⟩
    rw[N,f2];exact⟨trivial,fun e es h=>by (cases h),fun cs h=>by (cases h),fun cs h=>(by cases h),fun _ _ h=>by cases h⟩
   ·rw[e1]at Vz;rw[e2];rcases Vz with f | ⟨f,fs,WO,N,f2⟩ | ⟨cs,oM,N,f2⟩ | ⟨m,es,m',dv,N,f2⟩
    ·rw[f];exact⟨trivial,fun e es h=>(by injection h with L Z;subst L;exact⟨_,rfl⟩),fun cs h=>by (cases h),fun cs h=>(by cases h),fun _ _ h=>by cases h⟩
    ·injection N with N _;subst N;rw[f2];exact⟨trivial,fun e es h=>(by injection h with L Z;subst L;exact⟨_,rfl⟩),fun cs h=>by (cases h),fun cs h=>(by cases h),fun _ _ h=>by cases h⟩
    ·cases N
    cases N
   ·rw[e1]at Vz;rw[e2];rcases Vz with f | ⟨f,fs,WO,N,f2⟩ | ⟨ds,ds',N,f2⟩ | ⟨m,es,m',dv,N,f2⟩
    ·rw[f];exact⟨trivial,fun e es h=>by (cases h),fun cs h=>⟨_,rfl⟩,fun cs h=>(by cases h),fun _ _ h=>by cases h⟩
    ·cases N
    ·rw[f2];exact⟨trivial,fun e es h=>by (cases h),fun cs h=>⟨_,rfl⟩,fun cs h=>(by cases h),fun _ _ h=>by cases h⟩
    cases N
   rw[e1]at Vz;rw[e2];rcases Vz with f | ⟨f,fs,WO,N,f2⟩ | ⟨ds,ds',N,f2⟩ | ⟨m,es,m',dv,N,f2⟩
   ·rw[f];exact⟨trivial,fun e es h=>by (cases h),fun cs h=>by (cases h),fun cs h=>(by cases h),fun _ _ h=>by cases h⟩
   ·cases N
   ·cases N
   rw[f2];exact⟨trivial,fun e es h=>by (cases h),fun cs h=>by (cases h),fun cs h=>(by cases h),fun _ _ h=>by cases h⟩
  ·rcases (G i o z u).1 with hf | hpv | hfp | hth | I
   case inr.inr.inr.inr=>rw[h]at I;cases I
   case inr.inr.inr.inl=>
    have QK:∀k,k<ops.size->wA X (st k).h (r k).eff=true:=fun k HR=>by
     have hk:ops[k]?=some ops[k]:=cC HR;cases hr:(r k).run with
     | true=>exact (G k _ hk hr).2.2
     | false=>rw[((H k _ hk).not hr).2.1];rfl
    refine tK (fun x Y=>?_) (WM (h':=Hn B r E ops.size) (fun id hid O=>QJ U H QK hh E hid (by omega) O) hth L);cases x with
    | tmp t=>
     exact (En t (q_ _ (bB.2 ⟨.tmp t,by simpa using Y,rfl⟩))).symm
    | const v=>rfl
    | global g=>rfl
    | func f=>rfl
   case inr.inr.inl=>
    refine tK (fun x Y=>?_) (WL (h':=Hn B r E ops.size) (fun id hid=>?_) hfp L)
    ·cases x with
     | tmp t=>
      exact (En t (q_ _ (bB.2 ⟨.tmp t,by simpa using Y,rfl⟩))).symm
     | const v=>rfl
     | global g=>rfl
     | func f=>rfl
    rw[ack h (Mj hfp) id hid];exact ext id
   case inr.inl=>
    refine tK (fun x Y=>?_) (WJ hpv L);cases x with
    | tmp t=>
     exact (En t (q_ _ (bB.2 ⟨.tmp t,by simpa using Y,rfl⟩))).symm
    | const v=>rfl
    | global g=>rfl
    | func f=>rfl
   rw[QN (.inr ⟨h,hf⟩)];obtain⟨v,e,n,⟨rfl,rfl,rfl⟩,h4⟩:=tH ext Z;exact h4 _ ⟨rfl,rfl,rfl⟩
  rw[QN (.inl h)];obtain⟨v,e,n,⟨rfl,rfl,rfl⟩,h4⟩:=tH ext Z;exact h4 _ ⟨rfl,rfl,rfl⟩
 have VA:∀x,o.dst≠some x->(VE ops (fun k=>E k||cG k i) x↔VE ops E x):=by
  intro x Y;refine⟨fun hv k ok hk V=>?_,fun hv k ok hk V=>by simp[hv k ok hk V]⟩;have:=hv k ok hk V;simp only[lZ]at this;rcases this with h | h
  ·exact h
  have:=bz.1 h;subst this;rw[z]at hk;injection hk with hk;subst hk;exact absurd V Y
 have Zk:∀v,v=(r i).v->fE (TE ops st E) o.dst v=TE ops st (fun k=>E k||cG k i):=by
  intro v hv;funext x;have other:o.dst≠some x->TE ops st E x=TE ops st (fun k=>E k||cG k i) x:=fun Y=>by
   unfold TE;by_cases hvx:VE ops E x
   ·rw[ae hvx,ae ((VA x Y).2 hvx)]
   rw[aa hvx,aa fun h=>hvx ((VA x Y).1 h)]
  cases J:o.dst with
  | none=>exact other (by rw[J];intro h;cases h)
  | some d=>
   show a8 _ _ _ _=_;by_cases e:x=d
   ·subst e;rw[aF];unfold TE;rw[ae,KB U H z J ops.size (by omega) (aG _),hv];intro k ok hk V;have:k=i:=by
     rcases iq k i with h5 | h5 | h5
     ·exact absurd J ((hp k i ok o h5 hk z).dst x V)
     ·exact h5
     exact absurd V ((hp i k o ok h5 z hk).dst x J)
    simp[this,bz.2]
   rw[bg _ _ e];exact other fun h=>e (by rw[J]at h;injection h with h;exact h.symm)
 unfold wpOp;simp only[z];by_cases u:(r i).run=true
 ·have BH:Region.wanted o (yielded ops a.tmps)=true:=by
   have hg:=D.guard;unfold Region.wanted;split at hg
   ·rename_i h;rw[h]
   rename_i g want h;rw[h];obtain⟨og,tg,b,k1,k2,k3,k4⟩:=hg;have QO:tg∈o.looksAt ops:=tJ _ (by rw[h];simp[show ops[g]?=some og by simpa using k1,k2]);have:=qU sim (ops:=ops) (g:=g) (by simpa using k1) k2 trivial (by show TE ops st E tg=_;rw[En tg QO];exact k3);simp only[this];rw[u]at k4;exact k4.symm
  rw[ae BH];refine .inl (Ql A o _ _ _ _ _ _ _ _ next Q hC sim (fun _ _=>trivial) Y8 (opE u) (fun v eff b hk=>?_) fun v eff new S' rho' a' w' hk cv=>?_)
  ·obtain⟨_,_,Yo⟩:=hk;obtain⟨d,J⟩:∃d,o.dst=some d:=by
    have:=D.ndst;rw[<-Yo]at this;cases Ei:o.dst with
    | none=>rw[Ei]at this;cases this
    | some d=>exact⟨d,rfl⟩
   have R:N8 ops r i d b:=⟨o,z,J,Yo.symm⟩;rw[J];refine⟨fun hL=>(by have:=hL i b R;rw[hi]at this;cases this),?_⟩;show Hn B r E ops.size d=b;have DB:ku ops r i d:=⟨i,b,aG _,R⟩;have O:∀k,k<ops.size->E k=true->∀p∈(r k).eff,p.1≠d:=by
    intro k HR W p Vw e;have hk:ops[k]?=some ops[k]:=cC HR;have ht:=l8 (H k _ hk).there p Vw;rcases iq k i with h | h | h
    ·have KE:ku ops r k d:=⟨i,b,by omega,R⟩;rw[e,((hh k (by omega) d).1 KE).1]at ht;exact ht
    ·subst h;rw[hi]at W;cases W
    have I:cls A.C ap ops[k].op=3:=by
     by_cases I:cls A.C ap ops[k].op=3
     ·exact I
     have:=(H k _ hk).quiet I;rw[this]at Vw;cases Vw
    have hmk:cls A.C ap o.op=3\/cls A.C ap o.op=2:=TJ (ap:=ap) (opE u) Yo;have:=later k _ hk h (by
     rcases hmk with hmk | hmk
     ·exact (hp i k o _ h z hk).w3 I hmk
     rcases (G i o z u).1 with hf | hpv | hfp | hth | h3'
     ·exact (yL z hf hmk k _ hk I).2 h
     ·have:=Kt hpv (D.ran u);rw[<-Yo]at this;cases this
     ·rcases Ku hfp (D.ran u) with Eb | hdX
      ·rw[<-Yo]at Eb;cases Eb
      rw[J]at hdX;have hdX:DA X d=true:=hdX;have NG:(r k).eff≠[]:=fun e=>by rw[e]at Vw;cases Vw
      have hrk:(r k).run=true:=by
       cases hr:(r k).run with
       | true=>rfl
       | false=>exact absurd ((H k _ hk).not hr).2.1 NG
      have hf:(kK A.C ap ops)[k]?=some true:=by
       rcases (G k _ hk hrk).2.1 with h | h
       ·exact h
       have:=HU h p Vw;rw[e,hdX]at this;cases this
      exact (BN hk hf I i o z hmk (Mj hfp)).1 h
     ·have:=Kw hth (D.ran u);rw[<-Yo]at this;cases this
     rw[hmk]at h3';cases h3')
    rw[W]at this;cases this
   have:∀m,m<=ops.size->Hn B r E m d=B d:=by
    intro m
    induction m with
    | zero=>intro _;rfl
    | succ m ih=>
     intro hm;simp only[Hn];cases hEm:E m with
     | false=>exact ih (by omega)
     | true=>
      show app (Hn B r E m) (r m).eff d=_;rw[jO (O m (by omega) hEm)];exact ih (by omega)
   rw[this ops.size (aG _),N9 i d b R]
  obtain⟨e1,e2,e3⟩:=hk;refine hnext S' rho' a' w' ?_;have hH:app (Hn B r E ops.size) eff=Hn B r (fun k=>E k||cG k i) ops.size:=by
   rw[e2];by_cases O:(r i).eff=[]
   ·rw[O];show Hn B r E ops.size=_;have:∀m,Hn B r (fun k=>E k||cG k i) m=Hn B r E m:=by
     intro m
     induction m with
     | zero=>rfl
     | succ m ih=>
      simp only[Hn];rw[ih];by_cases e:m=i
      ·subst e;rw[hi,bz.2 rfl,O];rfl
      have:cG m i=false:=by rw[cu];intro h;exact e (bz.1 h)
      rw[this,wz]
    exact (this _).symm
   have I:cls A.C ap o.op=3:=by
    by_cases I:cls A.C ap o.op=3
    ·exact I
    exact absurd (D.quiet I) O
   exact (WN hi ops.size (Vy (.inl I)) nQ).symm
  have bH:=cv;rw[Zk v e1]at bH;have fu:cn A (yy cX o.dst) (Br (LE ops r E) new (o.dst.getD 0)) S' rho' ⟨TE ops st (fun k=>E k||cG k i),Hn B r (fun k=>E k||cG k i) ops.size⟩ a' w':=by rw[<-hH];exact bH
  refine fu.sL (fun _ _=>.inl trivial) fun d=>?_;cases QP:new with
  | none=>
   refine⟨fun h k b R=>?_,fun h k b R=>by simp[h k b R]⟩;have:=h k b R;simp only[lZ]at this;rcases this with h | h
   ·exact h
   have:=bz.1 h;subst this;obtain⟨o',L,Z,h4⟩:=R;rw[<-e3,QP]at h4;cases h4
  | some b=>
   obtain⟨d',J⟩:∃d,o.dst=some d:=by
    have:=D.ndst;rw[<-e3,QP]at this;cases Ei:o.dst with
    | none=>rw[Ei]at this;cases this
    | some d=>exact⟨d,rfl⟩
   rw[J];show _↔(LE ops r E d\/d=d');refine⟨fun h=>?_,fun h k b' R=>?_⟩
   ·by_cases e:d=d'
    ·exact .inr e
    refine .inl fun k b' R=>?_;have:=h k b' R;simp only[lZ]at this;rcases this with h | h
    ·exact h
    have:=bz.1 h;subst this;obtain⟨o',L,Z,h4⟩:=R;rw[z]at L;injection L with L;rw[<-L,J]at Z;injection Z with Z;exact absurd Z.symm e
   rcases h with h | h
   ·simp[h k b' R]
   obtain⟨o',L,Z,h4⟩:=R;have:k=i:=by
    rcases iq k i with h5 | h5 | h5
    ·exact absurd (by rw[J,h]) ((hp k i o' o h5 L z).dst d Z)
    ·exact h5
    exact absurd (by rw[Z,h]) ((hp i k o o' h5 z L).dst d' J)
   simp[this,bz.2]
 have QQ:(r i).run=false:=by simpa using u
 obtain⟨n1,n2,n3⟩:=D.not QQ;have BH:Region.wanted o (yielded ops a.tmps)=false:=by
  have hg:=D.guard;unfold Region.wanted;split at hg
  ·rw[QQ]at hg;cases hg
  rename_i g want h;rw[h];obtain⟨og,tg,b,k1,k2,k3,k4⟩:=hg;have QO:tg∈o.looksAt ops:=tJ _ (by rw[h];simp[show ops[g]?=some og by simpa using k1,k2]);have:=qU sim (ops:=ops) (g:=g) (by simpa using k1) k2 trivial (by show TE ops st E tg=_;rw[En tg QO];exact k3);simp only[this];rw[QQ]at k4;exact k4.symm
 rw[aa (by rw[BH];decide)];refine hnext S rho _ _ ?_;have bH:=sim.value o.dst Y8 uO undef (.p _ _ (.im _));rw[Zk uO n1.symm]at bH;have hH:Hn B r (fun k=>E k||cG k i) ops.size=Hn B r E ops.size:=by
  have:∀m,Hn B r (fun k=>E k||cG k i) m=Hn B r E m:=by
   intro m
   induction m with
   | zero=>rfl
   | succ m ih=>
    simp only[Hn];rw[ih];by_cases e:m=i
    ·subst e;rw[hi,bz.2 rfl,n2];rfl
    have:cG m i=false:=by rw[cu];intro h;exact e (bz.1 h)
    rw[this,wz]
  exact this _
 rw[hH];refine bH.sL (fun _ _=>.inl trivial) fun d=>⟨fun h k b R=>?_,fun h k b R=>by simp[h k b R]⟩;have:=h k b R;simp only[lZ]at this;rcases this with h | h
 ·exact h
 have:=bz.1 h;subst this;obtain⟨o',L,Z,h4⟩:=R;rw[n3]at h4;cases h4
theorem filter_lt{p q:Nat->Bool}(z:∀x,q x=true->p x=true){i:Nat}(hp:p i=true)(D:q i=false):∀(l:List Nat),(l.filter q).length<=(l.filter p).length/\(i∈l->(l.filter q).length<(l.filter p).length):=by
 intro l
 induction l with
 | nil=>exact⟨aG _,fun h=>by cases h⟩
 | cons x l ih=>
  simp only[kJ];refine⟨?_,fun h=>?_⟩
  ·cases u:q x with
   | true=>rw[z x u];simp;exact ih.1
   | false=>cases p x<;>simp<;>have:=ih.1<;>omega
  rcases L8.1 h with e | e
  ·subst e;rw[hp,D];simp;have:=ih.1;omega
  have:=ih.2 e;cases u:q x with
  | true=>rw[z x u];simp;exact this
  | false=>cases p x<;>simp<;>omega
theorem TL{A:rZ}(hC:bP A.C)(Yn:ap=ops.toList.any fun o=>lF A.C o.op)(L:oo A.C ops=true)(hd:∀o∈ops.toList,mL o A.n)(H:∀(i:Nat) o,ops[i]?=some o->DStep A.C ap ops.toList o (st i) (r i) (st (i+1)))(G:∀(i:Nat) o,ops[i]?=some o->BM A.C ap X (kK A.C ap ops) o (st i) (r i) i){B:Nat->AB}(N9:∀k d b,N8 ops r k d b->B d=b)(Em:∀d,¬ku ops r 0 d->B d=(st 0).h d)(h0:∀d,ku ops r 0 d->(st 0).h d=.none)
  {Q:Exit->Act->World->Prop} (hQ:∀S rho a w,cn A cX cX S rho (st ops.size) a w->Q .normal a w):
  ∀(z:Nat) (u:Array Bool) (S:Nat->Prop) (rho:Nat->Value) (a:Act) (w:World),u.size=ops.size->Kz ops (fun i=>u.getD i false)->((List.range ops.size).filter fun i=>!u.getD i false).length<=z ->
   cn A cX (LE ops r fun i=>u.getD i false) S rho ⟨TE ops st (fun i=>u.getD i false),Hn B r (fun i=>u.getD i false) ops.size⟩ a w->wpAny A.C.P .any ops Q z u a w:=by
 obtain⟨QL,hs,hp⟩:=nR L;obtain⟨Vx,_⟩:=El QL;have hh:=vA L H N9 Em h0;have fin:∀(u:Array Bool) (S:Nat->Prop) (rho:Nat->Value) (a:Act) (w:World),u.size=ops.size->Region.ready .any ops u=[]->cn A cX (LE ops r fun i=>u.getD i false) S rho ⟨TE ops st (fun i=>u.getD i false),Hn B r (fun i=>u.getD i false) ops.size⟩ a w->Q .normal a w:=by
  intro u S rho a w I N D;have all:∀i,i<ops.size->u.getD i false=true:=by
   intro i
   induction i using Nat.strongRecOn with
   | _ i ih=>
    intro hi;have J:ops[i]?=some ops[i]:=cC hi;cases hl:u.getD i false with
    | true=>rfl
    | false=>
     have:i∈Region.ready .any ops u:=mem_ready.2 ⟨getD_in (by omega) hl,_,J,fun e W hb=>by
      have O:=Vx i _ J e W hb;exact ih e.on O (by omega)⟩
     rw[N]at this;cases this
  refine hQ S rho a w ?_;have hH:Hn B r (fun i=>u.getD i false) ops.size=(st ops.size).h:=by
   rw[Vv ops.size ops.size (fun k hk=>.inl ⟨fun _=>hk,fun _=>all k hk⟩) (aG _)];funext d;refine ((hh ops.size (aG _) d).2 fun ⟨k,b,O,o,Z,_⟩=>?_).symm;have:=(qS.1 Z).1;omega
  have hT:TE ops st (fun i=>u.getD i false)=(st ops.size).t:=funext fun x=>ae fun k o hk _=>all k (qS.1 hk).1;rw[hH,hT]at D;refine D.sL (fun _ _=>trivial) fun d=>⟨fun _ k b hc=>?_,fun _=>trivial⟩;obtain⟨o,Z,_⟩:=hc;exact all k (qS.1 Z).1
 intro z
 induction z with
 | zero=>
  intro u S rho a w I jx Zl D;have N:Region.ready .any ops u=[]:=by
   rw[AP];intro i hi;obtain⟨O,o,J,_⟩:=mem_ready.1 hi;have Y:=(qS.1 J).1;have hm:i∈(List.range ops.size).filter fun i=>!u.getD i false:=l5.2 ⟨wx.2 Y,by rw[getD_both O];rfl⟩;have:=Az (Nat.le_zero.1 Zl);rw[this]at hm;cases hm
  exact⟨N,fin u S rho a w I N D⟩
 | succ z ih=>
  intro u S rho a w I jx Zl D;refine⟨fun N=>fin u S rho a w I N D,fun i hi=>?_⟩;obtain⟨O,o,J,jz⟩:=mem_ready.1 hi;have Y:=(qS.1 J).1;have R:u.getD i false=false:=getD_both O;have qh:(fun k=>(u.setIfInBounds i true).getD k false)=fun k=>u.getD k false||cG k i:=by
   funext k;by_cases e:i=k
   ·subst e;rw[bz.2 rfl,gF];simp[I,Y]
   rw[getD_set_ne false e];have:cG k i=false:=by rw[cu];intro h;exact e (bz.1 h).symm
   rw[this,wz]
  refine TK hC Yn L hd H G N9 Em h0 (E:=fun i=>u.getD i false) jx J R jz D fun S' rho' a' w' cv=>?_;refine ih (u.setIfInBounds i true) S' rho' a' w' (by simp[I]) ?_ ?_ ?_
  ·rw[qh];intro j oj U V e W hb;simp only[lZ]at V ⊢;rcases V with h | h
   ·exact .inl (jx j oj U h e W hb)
   have:=bz.1 h;subst this;rw[J]at U;injection U with U;subst U;exact .inl (jz e W hb)
  ·have VB:∀k,(u.setIfInBounds i true).getD k false=(u.getD k false||cG k i):=fun k=>congrFun qh k;have:=(filter_lt (p:=fun k=>!u.getD k false) (q:=fun k=>!(u.setIfInBounds i true).getD k false) (fun x hx=>by
    rw[VB x]at hx;cases hl:u.getD x false with
    | true=>rw[hl]at hx;cases hx
    | false=>rfl) (i:=i) (by rw[R];rfl) (by rw[VB i,bz.2 rfl,gF];rfl) (List.range ops.size)).2 (wx.2 Y)
   omega
  rw[qh];exact cv
end
def HX.iB:List HX->List AV
 | []=>[]
 | .av x::r=>x::HX.iB r
 | .row _ _::r=>HX.iB r
theorem HX.FB(f:AV->AV):∀(r:List HX),HX.iB (r.map (HX.dn f))=(HX.iB r).map f
 | []=>rfl
 | .av x::r=>by simp[HX.iB,HX.dn,HX.FB f r]
 | .row _ _::r=>by simp[HX.iB,HX.dn,HX.FB f r]
theorem HX.FC{x:AV}:∀{r:List HX},.av x∈r->x∈HX.iB r
 | .av y::r,h=>by
  rcases L8.1 h with h | h
  ·injection h with h;subst h;simp[HX.iB]
  simp[HX.iB,HX.FC h]
 | .row _ _::r,h=>by
  rcases L8.1 h with h | h
  ·cases h
  simp[HX.iB,HX.FC h]
def FD:AB->List AV
 | .box cs=>cs
 | .kr _ cs=>cs
 | .aw _ es=>es.flatMap HX.iB
 | _=>[]
theorem BP(d:Nat)(b:AB):FD (zF d b)=(FD b).map (sc d):=by
 cases b with
 | aw e es=>
  show (es.map fun r=>r.map (HX.dn (sc d))).flatMap HX.iB=(es.flatMap HX.iB).map (sc d)
  induction es with
  | nil=>rfl
  | cons r es ih=>simp only[eH,l6,E8,ih,HX.FB]
 | _=>rfl
def zI(d:Nat)(s:AS):Prop:=s.h d=.none/\(∀j,uY d (s.t j)=false)/\∀k,∀x∈FD (s.h k),uY d x=false
theorem QR(d:Nat)(x:AV):uY d (sc d x)=false:=by
 rw[Qn];split
 ·rfl
 assumption
theorem Mk{d u:Nat}{x:AV}(h:uY d x=false):uY d (sc u x)=false:=by
 rw[Qn];split
 ·rfl
 exact h
theorem Ml(d:Nat)(s:AS)(k:Nat):(k=d/\(jk d s).h k=.none)\/(k≠d/\(jk d s).h k=zF d (s.h k)):=by
 by_cases e:k=d
 ·subst e;exact .inl ⟨rfl,by show a8 (fun u=>zF k (s.h u)) k AB.none k=_;rw[aF]⟩
 exact .inr ⟨e,by show a8 (fun u=>zF d (s.h u)) d AB.none k=_;rw[bg _ _ e]⟩
theorem Eo(d:Nat)(s:AS):zI d (jk d s):=by
 refine⟨by rcases Ml d s d with⟨_,h⟩ | ⟨h,_⟩;exact h;exact absurd rfl h,fun j=>QR d _,fun k x u=>?_⟩;rcases Ml d s k with⟨_,h⟩ | ⟨_,h⟩
 ·rw[h]at u;cases u
 rw[h,BP]at u;obtain⟨y,_,rfl⟩:=aZ.1 u;exact QR d y
variable {s:AS}
theorem KG{d:Nat}(z:Nat)(D:zI d s):zI d (jk z s):=by
 obtain⟨I,J,L⟩:=D;refine⟨?_,fun j=>Mk (J j),fun k x u=>?_⟩
 ·rcases Ml z s d with⟨_,h⟩ | ⟨_,h⟩
  ·exact h
  rw[h,I];rfl
 rcases Ml z s k with⟨_,h⟩ | ⟨_,h⟩
 ·rw[h]at u;cases u
 rw[h,BP]at u;obtain⟨y,N,rfl⟩:=aZ.1 u;exact Mk (L k y N)
def BQ:List Oper->AS->AS
 | [],s=>s
 | o::r,s=>match sM o.op with
  | true=>BQ r (jk (o.dst.getD 0) s)
  | false=>BQ r s
theorem KH:∀(l:List Oper) (s:AS),(∀d,zI d s->zI d (BQ l s))/\∀o∈l,sM o.op=true->zI (o.dst.getD 0) (BQ l s):=by
 intro l
 induction l with
 | nil=>intro s;exact⟨fun _ h=>h,fun o h=>by cases h⟩
 | cons o l ih=>
  intro s;unfold BQ;split
  ·rename_i z;refine⟨fun d D=>(ih _).1 d (KG _ D),fun o' I u=>?_⟩;rcases L8.1 I with e | e
   ·subst e;exact (ih _).1 _ (Eo _ _)
   exact (ih _).2 o' e u
  rename_i z;refine⟨fun d D=>(ih _).1 d D,fun o' I u=>?_⟩;rcases L8.1 I with e | e
  ·subst e;rw[u]at z;cases z
  exact (ih _).2 o' e u
variable {A:rZ} {rho:Nat->Value}
theorem cn.jk{S:Nat->Prop}{a:Act}{w:World}(u:cn A cX cX S rho s a w)(d:Nat):cn A cX cX S rho (jk d s) a w:=by
 have z:=u.free d .none;have D:(AM.jk d s).h d=.none:=(Eo d s).1;rw[kD _ _ _ D]at z;exact z.Mh d D
theorem cn.pre{S:Nat->Prop}{a:Act}{w:World}:∀(l:List Oper) (s:AS),cn A cX cX S rho s a w->cn A cX cX S rho (BQ l s) a w:=by
 intro l
 induction l with
 | nil=>intro s u;exact u
 | cons o l ih=>
  intro s u;unfold BQ;split
  ·exact ih _ (u.jk _)
  exact ih _ u
def BR(o:Oper)(s:AS):AS:=match o.op,o.dst with
 | .assign _,some d=>match s.t d with
  | .ow i=>match s.h i with
   | .row _ _=>match cG i d with
    | true=>s
    | false=>oS i d s
   | .aw _ _=>match cG i d with
    | true=>s
    | false=>oS i d s
   | _=>s
  | _=>s
 | _,_=>s
def Ep:List Oper->AS->AS
 | [],s=>s
 | o::r,s=>Ep r (BR o s)
theorem cn.post{S:Nat->Prop}{a:Act}{w:World}:∀(l:List Oper) (rho:Nat->Value) (s:AS),(∀o∈l,mL o A.n)->cn A cX cX S rho s a w->∃rho',cn A cX cX S rho' (Ep l s) a w:=by
 intro l
 induction l with
 | nil=>intro rho s _ u;exact⟨rho,u⟩
 | cons o l ih=>
  intro rho s I u;have J:∀o∈l,mL o A.n:=fun o' L=>I o' (by simp[L]);have:∃rho',cn A cX cX S rho' (BR o s) a w:=by
   unfold BR;split
   ·rename_i d _ z;split
    ·split
     ·split
      ·exact⟨rho,u⟩
      rename_i D;refine⟨_,u.rename _ d (fun e=>?_) (cB (I o (by simp) d z) u.nb)⟩;rw[bz.2 e]at D;cases D
     ·split
      ·exact⟨rho,u⟩
      rename_i D;refine⟨_,u.rename _ d (fun e=>?_) (cB (I o (by simp) d z) u.nb)⟩;rw[bz.2 e]at D;cases D
     exact⟨rho,u⟩
    exact⟨rho,u⟩
   exact⟨rho,u⟩
  obtain⟨rho',N⟩:=this;exact ih rho' _ J N
theorem vB{d:Nat}{c:AV}:∀{xs:List AV},c∈xs->uY d c=true->iF d xs=true:=by
 intro xs
 induction xs with
 | nil=>intro h;cases h
 | cons x xs ih=>
  intro h u;simp only[iF,lZ];rcases L8.1 h with e | e
  ·subst e;exact .inl u
  exact .inr (ih e u)
theorem bu.loc{S:Nat->Prop}{w:World}{P:Program}{L':Nat->Prop}{h h':Nat->AB}{x:AV}{v:Value}(N:bu S w P cX rho h x v)(D:∀k,uY k x=true->h' k=h k/\L' k):bu S w P L' rho h' x v:=by
 induction N with
 | p x v N=>exact .p x v N
 | nl=>exact .nl
 | ow k v hv=>obtain⟨I,J⟩:=D k (by simp only[uY];exact bz.2 rfl);exact .ow k v fun O=>⟨J,(hv (by rw[<-I];exact O)).2⟩
 | rp k a b v hv=>obtain⟨I,J⟩:=D k (by simp only[uY];exact bz.2 rfl);exact .rp k a b v fun e R=>⟨J,(hv e (by rw[<-I];exact R)).2⟩
 | bx k a v hv=>obtain⟨I,J⟩:=D k (by simp only[uY];exact bz.2 rfl);exact .bx k a v fun O=>⟨J,(hv (by rw[<-I];exact O)).2⟩
 | vw k a b v hv=>obtain⟨I,J⟩:=D k (by simp only[uY];exact bz.2 rfl);exact .vw k a b v fun e R=>⟨J,(hv e (by rw[<-I];exact R)).2⟩
 | fn f cap vs hl hc ih=>exact .fn f cap vs hl fun j c u z L=>ih j c u z L fun k hk=>D k (vB (aj z) hk)
 | tu xs vs hl hc ih=>exact .tu xs vs hl fun j c u z L=>ih j c u z L fun k hk=>D k (vB (aj z) hk)
 | st xs vs hl h0 hc ih=>exact .st xs vs hl h0 fun j c u z L=>ih j c u z L fun k hk=>D k (vB (aj z) hk)
 | junk v=>exact .junk v
theorem WQ(hC:bP A.C){id:Nat}{ops:Array Oper}{K:Exit->AS->Prop}(hok:oo A.C ops=true)(hd:∀o∈ops.toList,mL o A.n)
  (h:∃X,rh A.C (ops.toList.any fun o=>lF A.C o.op) X ops.toList (kK A.C (ops.toList.any fun o=>lF A.C o.op) ops) ops.toList (fun s'=>K .normal (Ep ops.toList s')) (BQ ops.toList s)):W A (.region id ops true) K s:=by
 intro S rho a w sim;have D:=(sim.grow hC w.drew ⟨rfl,rfl,rfl,aG _,fun _ _ _=>rfl⟩).pre ops.toList s;obtain⟨X,h⟩:=h;obtain⟨st,r,h1,h2,h3⟩:=QA ops.toList _ _ h;have hsz:ops.toList.length=ops.size:=by simp
 rw[hsz]at h2;have H:∀(i:Nat) o,ops[i]?=some o->DStep A.C (ops.toList.any fun o=>lF A.C o.op) ops.toList o (st i) (r i) (st (i+1)):=fun i o ho=>(h3 i o (by simpa using ho)).1;have G:∀(i:Nat) o,ops[i]?=some o->BM A.C (ops.toList.any fun o=>lF A.C o.op) X (kK A.C (ops.toList.any fun o=>lF A.C o.op) ops) o (st i) (r i) i:=fun i o ho=>(h3 i o (by simpa using ho)).2;have nr:∀k d b,N8 ops r k d b->zI d (st 0):=fun k d b ⟨o,ho,aaL,hb⟩=>by
  have SZ:=(H k o ho).ndst;rw[hb,aaL]at SZ;rw[h1];have:=(KH ops.toList s).2 o (aj (by simpa using ho)) SZ;rw[aaL]at this;exact this
 have QS:∀d,ku ops r 0 d->zI d (st 0):=fun d ⟨k,b,_,J⟩=>nr k d b J;have acq:∀d,Decidable (∃b k,N8 ops r k d b):=fun d=>Classical.propDecidable _;obtain⟨B,hB⟩:∃B:Nat->AB,B=fun d=>@dite _ (∃b k,N8 ops r k d b) (acq d) (fun h=>Classical.choose h) (fun _=>(st 0).h d):=⟨_,rfl⟩;obtain⟨_,_,hp⟩:=nR hok;have N9:∀k d b,N8 ops r k d b->B d=b:=by
  intro k d b J;have Y:∃b k,N8 ops r k d b:=⟨b,k,J⟩;rw[hB];simp only;rw[dif_pos Y];obtain⟨k',hc'⟩:=L_ Y;generalize Classical.choose Y=b' at hc';obtain⟨o,e1,e2,e3⟩:=J;obtain⟨o',f1,f2,f3⟩:=hc';have:k=k':=by
   rcases iq k k' with h | h | h
   ·exact absurd f2 ((hp k k' o o' h e1 f1).dst d e2)
   ·exact h
   exact absurd e2 ((hp k' k o' o h f1 e1).dst d f2)
  subst this;rw[e3]at f3;injection f3 with f3;exact f3.symm
 have L:∀d,¬ku ops r 0 d->B d=(st 0).h d:=by
  intro d U;rw[hB];simp only;rw[dif_neg fun ⟨b,k,J⟩=>U ⟨k,b,ak _,J⟩]
 have N:∀d,¬ku ops r 0 d->LE ops r (fun _=>false) d:=fun d U k b J=>absurd ⟨k,b,ak _,J⟩ U;have TM:∀d,LE ops r (fun _=>false) d->¬ku ops r 0 d:=fun d hl ⟨k,b,_,J⟩=>by cases hl k b J
 rw[<-h1]at D;have acr:cn A cX (LE ops r fun _=>false) S rho ⟨TE ops st (fun _=>false),B⟩ a w.drew:=
  {tm:=fun j _=>by
    have ht:TE ops st (fun _=>false) j=(st 0).t j:=by
     unfold TE;split
     ·rename_i hv;exact Fz H (fun k o hk e=>by cases hv k o hk e) ops.size (aG _)
     rfl
    show bu _ _ _ _ _ _ (TE ops st (fun _=>false) j) _;rw[ht];refine (D.tm j trivial).loc fun k hk=>?_;have U:¬ku ops r 0 k:=fun O=>by rw[(QS k O).2.1 j]at hk;cases hk
    exact⟨L k U,N k U⟩
   sz:=D.sz,df:=D.df,nb:=D.nb,pn:=D.pn,ev:=D.ev,s0:=D.s0,st:=D.st,sb:=D.sb
   hp:=fun k hk=>by
    have U:=TM k hk;show fD _ _ _ _ _ _ _ (B k);rw[L k U];have z:=D.hp k trivial;cases hb:(st 0).h k with
    | none=>trivial
    | row e es=>rw[hb]at z;exact z
    | lz es=>rw[hb]at z;exact z
    | nd es=>rw[hb]at z;exact z
    | map mk es=>rw[hb]at z;exact z
    | iter mk es n cur=>rw[hb]at z;exact z
    | box cs=>
     rw[hb]at z;obtain⟨g,ty,c,k1,k2,k3,Z⟩:=z;refine⟨g,ty,c,k1,k2,k3,fun j x u I hu=>⟨(Z j x u I hu).1,(Z j x u I hu).2.loc fun i hi=>?_⟩⟩;have V:¬ku ops r 0 i:=fun O=>by rw[(QS i O).2.2 k x (by rw[hb];exact aj I)]at hi;cases hi
     exact⟨L i V,N i V⟩
    | kr ty cs=>
     rw[hb]at z;obtain⟨g,c,k1,k2,k3,Z⟩:=z;refine⟨g,c,k1,k2,k3,fun j x u I hu=>⟨(Z j x u I hu).1,(Z j x u I hu).2.loc fun i hi=>?_⟩⟩;have V:¬ku ops r 0 i:=fun O=>by rw[(QS i O).2.2 k x (by rw[hb];exact aj I)]at hi;cases hi
     exact⟨L i V,N i V⟩
    | aU cs=>rw[hb]at z;exact z
    | aw e es=>
     rw[hb]at z;obtain⟨⟨i0,xs,k1,k2,k3,Z,k5,k6⟩,hS⟩:=z;refine⟨⟨i0,xs,k1,k2,k3,Z,k5,fun a' r j x ha I=>?_⟩,hS⟩;obtain⟨u,hu,hr⟩:=k6 a' r j x ha I;refine⟨u,hu,?_⟩;cases x with
     | row e' dv=>exact hr
     | av x=>
      refine bu.loc hr fun i hi=>?_;have V:¬ku ops _ 0 i:=fun O=>by rw[(QS i O).2.2 k x (by rw[hb];exact cz.2 ⟨r,aj ha,HX.FC (aj I)⟩)]at hi;cases hi
      exact⟨L i V,N i V⟩
   dj:=fun i j g hi I li lj fU R=>by
    have qa:(B i).live:=li;have Y6:(B j).live:=lj;have fU:hasB _ (B i) (rho i) g:=fU;have R:hasB _ (B j) (rho j) g:=R;rw[L i (TM i hi)]at qa fU;rw[L j (TM j I)]at Y6 R;exact D.dj i j g trivial trivial qa Y6 fU R
   lv:=fun i g hi li hg=>by
    have qa:(B i).live:=li;have hg:hasB _ (B i) (rho i) g:=hg;rw[L i (TM i hi)]at qa hg;exact D.lv i g trivial qa hg
   fr:=D.fr }
 refine wp_region_any hC.any ?_;have hE0:(fun i=>(Array.replicate ops.size false).getD i false)=fun _=>false:=by
  funext i;exact getD_replicate_false _ _
 refine TL hC rfl hok hd H G N9 L (fun d O=>(QS d O).1) (fun S' rho' a' w' cv=>?_) ops.size (Array.replicate ops.size false) S rho a w.drew (by simp) ?_ ?_ ?_
 ·obtain⟨WR,bH⟩:=cv.post ops.toList rho' (st ops.size) hd;exact⟨S',WR,_,bH,h2⟩
 ·rw[hE0];intro j oj _ h;cases h
 ·have:((List.range ops.size).filter fun i=>!(Array.replicate ops.size false).getD i false).length<=(List.range ops.size).length:=wH _ _;simpa using this
 rw[hE0];have:∀m,Hn B r (fun _=>false) m=B:=by
  intro m
  induction m with
  | zero=>rfl
  | succ m ih=>exact ih
 rw[this];exact acr
end Go.AM
namespace Go.AM
open Go.RowKit
def QT(n:Nat)(o:Oper):Bool:=match o.dst with
 | some d=>Nat.blt d n
 | none=>true
def mM(C:Ctx)(n:Nat):Code->Bool
 | .region _ ops draw=>ops.toList.all (QT n)&&(!draw||oo C ops)
 | .seq a b=>mM C n a&&mM C n b
 | .cond _ a b=>mM C n a&&mM C n b
 | .block _ c=>mM C n c
 | .loop c=>mM C n c
 | _=>true
def qi(f:AS->Prop)(K:Exit->AS->Prop):Exit->AS->Prop
 | .normal,s=>f s
 | e,s=>K e s
def Er(id:Nat)(K:Exit->AS->Prop):Exit->AS->Prop
 | .exit i,s=>sd (cG i id) (K .normal s) (K (.exit i) s)
 | e,s=>K e s
def Dm(A:rZ):Code->(Exit->AS->Prop)->AS->Prop
 | .skip,K,s=>K .normal s
 | .region _ ops draw,K,s=>match draw with
  | false=>sv A.C ops.toList ops.toList (K .normal) s
  | true=>∃X,rh A.C (ops.toList.any fun o=>lF A.C o.op) X ops.toList (kK A.C (ops.toList.any fun o=>lF A.C o.op) ops) ops.toList (fun s'=>K .normal (Ep ops.toList s')) (BQ ops.toList s)
 | .seq a b,K,s=>Dm A a (qi (fun s'=>∃oN,aA A s' oN/\Dm A b K oN) K) s
 | .cond c a b,K,s=>match ev s.t c with
  | .p (.im (.bool t))=>sd t (Dm A a K s) (Dm A b K s)
  | _=>False
 | .block id c,K,s=>Dm A c (Er id K) s
 | .loop c,K,s=>∃(α:Type) (I:α->AS->Prop) (m:α->Nat),(∃x s',aA A s s'/\I x s')/\∀x s,I x s->Dm A c (qi (fun s'=>∃y oN,aA A s' oN/\I y oN/\m y<m x) K) s
 | .exit id,K,s=>K (.exit id) s
 | .ret,K,s=>K .ret s
 | _,_,_=>False
theorem Mm{n:Nat}{ops:Array Oper}(h:ops.toList.all (QT n)=true):∀o∈ops.toList,mL o n:=by
 intro o u d z;have:=dY.1 h o u;unfold QT at this;rw[z]at this;exact gB this
theorem N_{A:rZ}(hC:bP A.C):∀(c:Code) (K:Exit->AS->Prop) (s:AS),mM A.C A.n c=true->Dm A c K s->W A c K s:=by
 intro c
 induction c with
 | skip=>intro K s _ h S rho a w z;exact wp_skip ⟨S,rho,s,z,h⟩
 | region id ops draw=>
  intro K s u h;simp only[mM,aJ]at u;cases draw with
  | false=>exact Qq hC (Mm u.1) h
  | true=>exact WQ hC (by simpa using u.2) (Mm u.1) h
 | seq a b D J=>
  intro K s u h;simp only[mM,aJ]at u;refine Y9 ?_;refine Kj (D _ s u.1 h) fun e N hk=>?_;cases e with
  | normal=>
   obtain⟨O,L,hk⟩:=hk;exact fun S rho a w z=>by
    obtain⟨S',rho',R⟩:=L S rho a w z;exact J K O u.2 hk S' rho' a w R
  | exit id=>exact hk
  | goto l=>exact hk
  | ret=>exact hk
  | panic c=>exact hk
  | outgrown=>exact hk
 | cond c a b D J=>
  intro K s u h;simp only[mM,aJ]at u;simp only[Dm]at h;split at h
  ·rename_i t U;refine WC U (fun e=>D K s u.1 ?_) (fun e=>J K s u.2 ?_)
   ·rw[e]at h;exact h
   rw[e]at h;exact h
  exact h.elim
 | block id c ih=>
  intro K s u h;exact TC (Kj (ih _ s u h) fun e N hk=>by cases e<;>exact hk)
 | loop c ih=>
  intro K s u h;obtain⟨α,I,m,V,Y⟩:=h;refine WD I m V fun x s hi=>?_;exact Kj (ih _ s u (Y x s hi)) fun e N hk=>by cases e<;>exact hk
 | exit id=>intro K s _ h S rho a w z;exact wp_exit ⟨S,rho,s,z,h⟩
 | ret=>intro K s _ h S rho a w z;exact wp_ret ⟨S,rho,s,z,h⟩
 | rangeFunc=>intro K s _ h;exact h.elim
 | scope=>intro K s _ h;exact h.elim
 | label=>intro K s _ h;exact h.elim
 | goto=>intro K s _ h;exact h.elim
 | refuse=>intro K s _ h;exact h.elim
def ri{α:Type}:List (Nat×α)->(Nat->α)->Nat->α
 | [],t=>t
 | (i,v)::r,t=>a8 (ri r t) i v
def oT{α:Type}:List (Nat×α)->(Nat->α)->Prop
 | [],_=>True
 | (i,v)::r,t=>t i=v/\oT r t
theorem wD{α:Type}:∀(l:List (Nat×α)) (t:Nat->α),oT l t->ri l t=t:=by
 intro l
 induction l with
 | nil=>intro t _;rfl
 | cons p l ih=>
  intro t h;obtain⟨i,v⟩:=p;show a8 (ri l t) i v=t;rw[ih t h.2];exact kD _ _ _ h.1
theorem TN{A:rZ}{c:Code}{K:Exit->AS->Prop}{s:AS}{α:Type}(R:α->Prop)(D:α->List (Nat×AV))(I:α->List (Nat×AB))(m:α->Nat)(x0:α)(s0:AS)(W:aA A s s0)(Y:R x0)(Z:oT (D x0) s0.t)(hh:oT (I x0) s0.h)
  (z:∀x,R x->∀t h,Dm A c (qi (fun J=>∃y u,aA A J u/\R y/\m y<m x/\oT (D y) u.t/\oT (I y) u.h) K) ⟨ri (D x) t,ri (I x) h⟩):Dm A (.loop c) K s:=by
 refine⟨α,fun x s=>R x/\oT (D x) s.t/\oT (I x) s.h,m,⟨x0,s0,W,Y,Z,hh⟩,fun x s ⟨h1,h2,h3⟩=>?_⟩;have:=z x h1 s.t s.h;rw[wD _ _ h2,wD _ _ h3]at this;have e:(qi (fun J=>∃y u,aA A J u/\R y/\m y<m x/\oT (D y) u.t/\oT (I y) u.h) K)=(qi (fun J=>∃y u,aA A J u/\(R y/\oT (D y) u.t/\oT (I y) u.h)/\m y<m x) K):=by
  funext e J;cases e<;>try rfl
  apply propext;constructor
  ·rintro⟨y,u,L,N,O,U,V⟩;exact⟨y,u,L,⟨N,U,V⟩,O⟩
  rintro⟨y,u,L,⟨N,U,V⟩,O⟩;exact⟨y,u,L,N,O,U,V⟩
 rw[<-e];exact this
end Go.AM
namespace Go.AM
open Go.RowKit
def zJ(l:List (Nat×TI))(t:TypeId):Option TI:=match l with
 | []=>none
 | (i,ti)::r=>match Nat.beq i t with
  | true=>some ti
  | false=>zJ r t
theorem tL{t:TypeId}{u:TI}:∀{l:List (Nat×TI)},zJ l t=some u->(t,u)∈l:=by
 intro l
 induction l with
 | nil=>intro h;cases h
 | cons p l ih=>
  intro h;obtain⟨i,ti'⟩:=p;unfold zJ at h;split at h
  ·rename_i e;have:=cY e;subst this;injection h with h;subst h;exact bW ..
  exact cD _ (ih h)
def QU:Value->Value->Bool
 | .int k n,.int k' n'=>kB k k'&&decide (n=n')
 | .bool b,.bool b'=>b==b'
 | .string s,.string s'=>s.data.toList==s'.data.toList
 | .slice none a b,.slice none a' b'=>Nat.beq a a'&&Nat.beq b b'
 | .pointer none,.pointer none=>true
 | .map none,.map none=>true
 | .nilFunc,.nilFunc=>true
 | .nilIface,.nilIface=>true
 | _,_=>false
theorem QV{v u:Value}(h:QU v u=true):v=u:=by
 unfold QU at h;split at h
 ·simp only[aJ,fV]at h;rw[LY h.1,h.2]
 ·rw[eq_of_beq h]
 ·have:=eq_of_beq h;congr 1;exact ByteArray.ext (E4 this)
 ·simp only[aJ]at h;rw[cY h.1,cY h.2]
 ·rfl
 ·rfl
 ·rfl
 ·rfl
 cases h
def FE:List Value->List Value->Bool
 | [],[]=>true
 | v::r,u::s=>QU v u&&FE r s
 | _,_=>false
theorem Oa:∀{a b:List Value},FE a b=true->a=b:=by
 intro a
 induction a with
 | nil=>intro b h;cases b with | nil=>rfl | cons=>cases h
 | cons v r ih=>
  intro b h;cases b with
  | nil=>cases h
  | cons u s=>
   simp only[FE,aJ]at h;rw[QV h.1,ih h.2]
def Zm:TypeDesc->Bool
 | .struct _ | .array _ _=>true
 | _=>false
def AQ(P:Program):List (Nat×Nat×Bool)->List Field->Bool
 | [],[]=>true
 | f::r,g::s=>Nat.beq f.1 g.offset&&!Nat.beq f.2.1 0&&(match P.info? g.type with
  | some i=>Nat.beq i.size f.2.1
  | none=>false)&&(match P.underlying g.type with
  | some d=>Zm d==f.2.2
  | none=>false)&&AQ P r s
 | _,_=>false
def udB(P:Program)(t:TypeId)(ti:TI):Bool:=match ti.ud,P.underlying t with
 | .sc,some .bool=>true
 | .sc,some d=>!Zm d&&!ti.eq
 | .int k,some (.int k')=>kB k k'
 | .st fs,some (.struct gs)=>AQ P fs gs.toList
 | .sl e,some (.slice e')=>Nat.beq e e'
 | .mp k e,some (.map k' e')=>Nat.beq k k'&&Nat.beq e e'
 | .str,some .string=>true
 | _,_=>false
def tiB(P:Program)(p:Nat×TI):Bool:=match P.info? p.1 with
 | some info=>Nat.beq info.size p.2.size&&Nat.beq info.bytes p.2.bytes&&(match info.zero with
  | some z=>FE z.cells.toList p.2.zero
  | none=>false)&&Nat.beq p.2.zero.length p.2.size&&p.2.zero.all Value.oneCell'&&udB P p.1 p.2
 | none=>false
theorem FF{P:Program}:∀{fs:List (Nat×Nat×Bool)} {gs:List Field},AQ P fs gs=true->fs.length=gs.length/\∀(i:Nat) f g,fs[i]?=some f->gs[i]?=some g->f.1=g.offset/\f.2.1≠0/\(∃J,P.info? g.type=some J/\J.size=f.2.1)/\
  (∃d,P.underlying g.type=some d/\f.2.2=(match d with | .struct _ | .array _ _=>true | _=>false)):=by
 intro fs
 induction fs with
 | nil=>intro gs h;cases gs with | nil=>exact⟨rfl,by simp⟩ | cons=>cases h
 | cons f r ih=>
  intro gs h;cases gs with
  | nil=>cases h
  | cons g s=>
   simp only[AQ,aJ]at h;obtain⟨⟨⟨⟨N,L⟩,u⟩,z⟩,O⟩:=h;obtain⟨R,U⟩:=ih O;refine⟨by simp[R],fun i V W D I=>?_⟩;cases i with
   | succ i=>exact U i V W (by simpa using D) (by simpa using I)
   | zero=>
    simp at D I;subst D I;refine⟨cY N,(fun e=>by rw[e]at L;cases L),?_,?_⟩
    ·split at u
     ·rename_i i hi;exact⟨i,hi,cY u⟩
     cases u
    split at z
    ·rename_i d Y;refine⟨d,Y,?_⟩;rw[<-eq_of_beq z];cases d<;>rfl
    cases z
theorem WS{P:Program}{t:TypeId}{L:TI}(h:tiB P (t,L)=true):qc P t L:=by
 unfold tiB at h;split at h
 ·rename_i info hi;simp only[aJ]at h;obtain⟨⟨⟨⟨⟨N,O⟩,J⟩,R⟩,U⟩,D⟩:=h;split at J
  ·rename_i z V;refine⟨info,z,hi,cY N,cY O,V,?_,cY R,fun v W=>dY.1 U v W,?_⟩
   ·rw[<-Oa J]
   simp only[udB]at D;split at D
   ·rename_i I u;rw[I];exact⟨⟨_,u,trivial⟩,fun _=>u⟩
   ·rename_i d cO I u;rw[I];simp only[aJ]at D;refine⟨⟨d,u,?_⟩,fun e=>?_⟩
    ·cases d<;>first | trivial | (cases D.1;done)
    rw[e]at D;cases D.2
   ·rename_i I u;rw[I,u,LY D]
   ·rename_i fs gs I u;rw[I];obtain⟨Y,Z⟩:=FF D;exact⟨gs,u,by simpa using Y,fun i f g hf hg=>Z i f g hf (by simpa using hg)⟩
   ·rename_i I u;rw[I,u,cY D]
   ·rename_i I u;simp only[aJ]at D;rw[I,u,cY D.1,cY D.2]
   ·rename_i I u;rw[I,u]
   cases D
  cases J
 cases h
def zsB(P:Program)(p:Nat×TI):Bool:=match P.info? p.1 with
 | some info=>match info.zero with
  | some z=>PG z==p.2.ud.agg
  | none=>false
 | none=>false
theorem Zn{P:Program}{l:List (Nat×TI)}(h:l.all (zsB P)=true):∀t u,zJ l t=some u->JR P t u:=fun t u D=>by
 have:=dY.1 h _ (tL D);unfold zsB at this;split at this
 ·rename_i info hi;split at this
  ·rename_i z I;exact⟨info,z,hi,I,eq_of_beq this⟩
  cases this
 cases this
theorem WT{P:Program}{l:List (Nat×TI)}(h:l.all (tiB P)=true):∀t u,zJ l t=some u->qc P t u:=fun _ _ z=>WS (dY.1 h _ (tL z))
def S4:Option TypeDesc->Value->Bool
 | some (.int _),.int _ _=>true
 | some .string,.string _=>true
 | some .bool,.bool _=>true
 | _,_=>false
def oq(P:Program):Nat->List Field->List Value->Bool
 | _,[],[]=>true
 | i, g :: r, z :: s => S4 (P.underlying g.type) z && Nat.beq g.offset i && g.name != "_" && oq P (i + 1) r s
 | _,_,_=>false
def ad6(P:Program):Nat->List Field->List Value->Bool
 | _,[],[]=>true
 | _,[],_::_=>false
 | i, g :: r, zs => g.name != "_" && Nat.beq g.offset i && match P.underlying g.type with
  | some (.struct hs)=>(match P.info? g.type with
   | some inf=>Nat.beq inf.size hs.size
   | none=>false)&&!P.stoodInHeld g.type&&oq P 0 hs.toList (zs.take hs.size)&&ad6 P (i+hs.size) r (zs.drop hs.size)
  | _=>match zs with
   | z::s=>S4 (P.underlying g.type) z&&ad6 P (i+1) r s
   | []=>false
def WU(P:Program)(p:Nat×TI):Bool:=match p.2.eq,p.2.ud with
 | true,.st _=>(match P.underlying p.1 with
  | some (.struct gs)=>ad6 P 0 gs.toList p.2.zero&&Nat.beq p.2.zero.length p.2.size
  | _=>false)&&!P.stoodInHeld p.1&&!P.eqGuardType P.depth p.1
 | _,_=>true
theorem mq{P:Program}{w:World}{t:TypeId}{z:Value}(h:S4 (P.underlying t) z=true){xs:Array Value}{i:Nat}{v:Value}(u:xs[i]?=some v):(part t xs i).run P w=.ok v w:=by
 have:(isAgg t).run P w=.ok false w:=by
  rw[Go.isAgg,aV];unfold S4 at h;split at h<;>first
   | (rename_i D;rw[run_underlying D];rfl)
   | cases h
 simp[part,this,u]
theorem FG{a b:ByteArray}(h:a.toList=b.toList):a=b:=by
 rw[ByteArray.toList_eq,ByteArray.toList_eq]at h;obtain⟨⟨x⟩⟩:=a;obtain⟨⟨y⟩⟩:=b;simpa using h
theorem TO{o:Option TypeDesc}{k:IntKind}{n:Int}(h:S4 o (.int k n)=true):∃j,o=some (.int j):=by
 cases o with
 | none=>cases h
 | some d=>cases d<;>first | exact⟨_,rfl⟩ | cases h
theorem TQ{o:Option TypeDesc}{x:ByteArray}(h:S4 o (.string x)=true):o=some .string:=by
 cases o with
 | none=>cases h
 | some d=>cases d<;>first | rfl | cases h
theorem QW{o:Option TypeDesc}{x:Bool}(h:S4 o (.bool x)=true):o=some .bool:=by
 cases o with
 | none=>cases h
 | some d=>cases d<;>first | rfl | cases h
theorem wE{P:Program}{t:TypeId}{z:Value}{zs:List Value}{x:PV}{a b:List PV}{r:Bool}(hk:S4 (P.underlying t) z=true)(h:bU (z::zs) (x::a) b=some r):∃u v s c r',x=.im u/\b=.im v::s/\bU zs a s=some r'/\r=(c&&r')/\∀d w,(Op.equalIn (d+1) t u v).run P w=.ok c w:=by
 cases b with
 | nil=>cases z<;>cases x<;>simp[bU]at h
 | cons y b=>
  unfold bU at h;split at h
  ·rename_i D I J;cases D
  ·rename_i D I J;injection D with D L;injection I with I N;injection J with J h3';subst D L I N J h3';split at h
   ·rename_i V;have:=LY V;subst this;obtain⟨r',O,R⟩:=qI.1 h;obtain⟨j,U⟩:=TO hk;refine⟨_,_,_,_,r',rfl,rfl,O,R.symm,fun d w=>?_⟩;rw[run_equalIn_int (P:=P) w d t _ j _ _ U];congr 1
   cases h
  ·rename_i D I J;injection D with D L;injection I with I N;injection J with J h3';subst D L I N J h3';obtain⟨r',O,R⟩:=qI.1 h;have U:=TQ hk;refine⟨_,_,_,_,r',rfl,rfl,O,R.symm,fun d w=>?_⟩;rw[run_equalIn_string (P:=P) w d t _ _ U];congr 1;rw[Ax,beq_iff_eq,decide_eq_true_iff];exact⟨fun e=>FG e,fun e=>by rw[e]⟩
  ·rename_i D I J;injection D with D L;injection I with I N;injection J with J h3';subst D L I N J h3';obtain⟨r',O,R⟩:=qI.1 h;have U:=QW hk;refine⟨_,_,_,_,r',rfl,rfl,O,R.symm,fun d w=>?_⟩;rw[run_equalIn_bool' (P:=P) w d t _ _ U];congr 1
  cases h
theorem u3{P:Program}{w:World}(d:Nat)(xs ys:Array Value):∀(gs:List Field) (zs:List Value) (i:Nat) (a b:List PV) (r:Bool),oq P i gs zs=true->gs.length=a.length->(∀(j:Nat) x,a[j]?=some x->∃v,xs[i+j]?=some v/\x=.im v)->(∀(j:Nat) x,b[j]?=some x->∃v,ys[i+j]?=some v/\x=.im v)->bU zs a b=some r ->
  (Op.eqFields (d+1) xs ys gs).run P w=.ok r w:=by
 intro gs
 induction gs with
 | nil=>
  intro zs i a b r hi hl _ _ he;have:a=[]:=Az hl.symm;subst this;cases zs with
  | nil=>cases b with
   | nil=>simp[bU]at he;subst he;rfl
   | cons y b=>simp[bU]at he
  | cons z zs=>simp[oq]at hi
 | cons g gs ih=>
  intro zs i a b r hi hl ha hb he;cases a with
  | nil=>simp at hl
  | cons x a=>cases zs with
   | nil=>simp[oq]at hi
   | cons z zs=>
    simp only[oq,aJ]at hi;obtain⟨⟨⟨h1,h2⟩,h3⟩,h4⟩:=hi;have h2:=cY h2
    have zH : g.name ≠ "_" := by simpa using h3
    obtain⟨u,v,s1,c,r',rfl,rfl,yz,rfl,p3⟩:=wE h1 he;obtain⟨v',hv,WV⟩:=ha 0 _ rfl;obtain⟨u',sB,WW⟩:=hb 0 _ rfl;injection WV with WV;injection WW with WW;subst WV WW;have p1:=mq (w:=w) h1 (xs:=xs) (i:=g.offset) (by rw[h2];simpa using hv);have p2:=mq (w:=w) h1 (xs:=ys) (i:=g.offset) (by rw[h2];simpa using sB);have rest:=ih zs (i+1) a s1 r' h4 (by simpa using hl) (fun j x hx=>by obtain⟨v,q1,q2⟩:=ha (j+1) x (by simpa using hx);exact⟨v,by rw[<-q1];congr 1;omega,q2⟩) (fun j x hx=>by obtain⟨v,q1,q2⟩:=hb (j+1) x (by simpa using hx);exact⟨v,by rw[<-q1];congr 1;omega,q2⟩) yz;simp only[Op.eqFields,ae zH,aV,p1,p2,p3,lR];cases c with
    | true=>
     simp only[ir,cK,if_false,tG];exact rest
    | false=>simp
theorem FH{z:Value}{zs:List Value}{a b:List PV}{r:Bool}(h:bU (z::zs) a b=some r):∃x Z y b' c r',a=x::Z/\b=y::b'/\bU zs Z b'=some r'/\r=(c&&r')/\∀J L N O,bU J L N=some O->bU (z::J) (x::L) (y::N)=some (c&&O):=by
 cases a with
 | nil=>cases z<;>simp[bU]at h
 | cons x a=>cases b with
  | nil=>cases z<;>cases x<;>simp[bU]at h
  | cons y b=>
   unfold bU at h;split at h
   ·rename_i u _ _;cases u
   ·rename_i u D I;injection u with u R;injection D with D U;injection I with I h3';subst u R D U I h3';split at h
    ·rename_i JW;obtain⟨r',V,W⟩:=qI.1 h;exact⟨_,_,_,_,_,r',rfl,rfl,V,W.symm,fun J L N O Y=>by simp only[bU,JW,Y,mZ]⟩
    cases h
   ·rename_i u D I;injection u with u R;injection D with D U;injection I with I h3';subst u R D U I h3';obtain⟨r',V,W⟩:=qI.1 h;exact⟨_,_,_,_,_,r',rfl,rfl,V,W.symm,fun J L N O Y=>by simp only[bU,Y,mZ]⟩
   ·rename_i u D I;injection u with u R;injection D with D U;injection I with I h3';subst u R D U I h3';obtain⟨r',V,W⟩:=qI.1 h;exact⟨_,_,_,_,_,r',rfl,rfl,V,W.symm,fun J L N O Y=>by simp only[bU,Y,mZ]⟩
   cases h
theorem zK:∀{u D:List Value} {a b:List PV} {r:Bool},bU (u++D) a b=some r->∃I L J N O R,a=I++L/\b=J++N/\I.length=u.length/\J.length=u.length/\bU u I J=some O/\bU D L N=some R/\r=(O&&R)
 | [],D,a,b,r,h=>⟨[],a,[],b,true,r,rfl,rfl,rfl,rfl,rfl,h,rfl⟩
 | z::u,D,a,b,r,h=>by
  obtain⟨x,a',y,b',c,r',rfl,rfl,U,rfl,V⟩:=FH (zs:=u++D) h;obtain⟨I,L,J,N,O,R,rfl,rfl,l1,l2,W,Y,rfl⟩:=zK U;exact⟨x::I,L,y::J,N,c&&O,R,rfl,rfl,by simp[l1],by simp[l2],V _ _ _ _ W,Y,(rm _ _ _).symm⟩
theorem yN{P:Program}:∀{gs:List Field} {z:List Value} {i:Nat},oq P i gs z=true->gs.length=z.length
 | [],[],_,_=>rfl
 | [],_::_,_,h=>by simp[oq]at h
 | _::_,[],_,h=>by simp[oq]at h
 | g::gs,c::z,i,h=>by
  simp only[oq,aJ]at h;simp[yN h.2]
theorem FI{P:Program}{w:World}(d:Nat)(xs ys:Array Value):∀(gs:List Field) (zs:List Value) (i:Nat) (a b:List PV) (r:Bool),ad6 P i gs zs=true->(∀(j:Nat) x,a[j]?=some x->∃v,xs[i+j]?=some v/\x=.im v)->(∀(j:Nat) x,b[j]?=some x->∃v,ys[i+j]?=some v/\x=.im v)->bU zs a b=some r ->
  (Op.eqFields (d+3) xs ys gs).run P w=.ok r w:=by
 intro gs
 induction gs with
 | nil=>
  intro zs i a b r hi _ _ he;cases zs with
  | nil=>
   cases a with
   | nil=>cases b with
    | nil=>simp[bU]at he;subst he;rfl
    | cons y b=>simp[bU]at he
   | cons x a=>simp[bU]at he
  | cons z zs=>simp[ad6]at hi
 | cons g gs ih=>
  intro zs i a b r hi ha hb he;unfold ad6 at hi;simp only[aJ]at hi;obtain⟨⟨h3,h2⟩,hi⟩:=hi;have h2:=cY h2
  have zH : g.name ≠ "_" := by simpa using h3
  split at hi
  ·rename_i hs vt;simp only[aJ]at hi;obtain⟨⟨⟨h5,h6⟩,h7⟩,h8⟩:=hi;have h6:P.stoodInHeld g.type=false:=by simpa using h6
   split at h5
   ·rename_i inf acu;have h5:=cY h5;have hl:=yN h7;rw[aaK]at hl;rw[<-nj hs.size zs]at he;obtain⟨a1,a2,b1,b2,r1,r2,rfl,rfl,l1,l2,k1,k2,rfl⟩:=zK he;rw[<-hl]at l1 l2;have cut:∀(us:Array Value) (c1 c2:List PV),c1.length=hs.size->(∀(j:Nat) x,(c1++c2)[j]?=some x->∃v,us[i+j]?=some v/\x=.im v)->(part g.type us g.offset).run P w=.ok (.agg (us.extract i (i+hs.size))) w/\(∀(j:Nat) x,c1[j]?=some x->∃v,(us.extract i (i+hs.size))[0+j]?=some v/\x=.im v)/\∀(j:Nat) x,c2[j]?=some x->∃v,us[i+hs.size+j]?=some v/\x=.im v:=by
     intro us c1 c2 hc hu;refine⟨?_,fun j x hx=>?_,fun j x hx=>?_⟩
     ·have e1:(isAgg g.type).run P w=.ok true w:=by
       rw[Go.isAgg,aV,run_underlying vt];rfl
      have e2:(sizeOf g.type).run P w=.ok hs.size w:=by
       simp[Go.sizeOf,typeInfo,acu,h5]
      simp[part,e1,e2,h2]
     ·have hj:j<hs.size:=by rw[<-hc];exact aC hx
      obtain⟨v,q1,q2⟩:=hu j x (by rw[dN (by omega)];exact hx);exact⟨v,by rw[Array.getElem?_extract,ae (by have:=(qS.1 q1).1;omega),fX];exact q1,q2⟩
     obtain⟨v,q1,q2⟩:=hu (hs.size+j) x (by rw[du (by omega),<-hx];congr 1;omega);exact⟨v,by rw[<-q1];congr 1;omega,q2⟩
    obtain⟨p1,m1,n1⟩:=cut xs a1 a2 l1 ha;obtain⟨p2,m2,n2⟩:=cut ys b1 b2 l2 hb;have hf:P.fieldsOf g.type=hs:=by simp[Program.fieldsOf,vt]
    have p3:(Op.equalIn (d+3) g.type (.agg (xs.extract i (i+hs.size))) (.agg (ys.extract i (i+hs.size)))).run P w=.ok r1 w:=by
     rw[run_equalIn_struct w (d+2) g.type _ _ (by rw[hf];exact vt) h6,hf];exact u3 (d+1) _ _ hs.toList _ 0 a1 b1 r1 h7 (by rw[aaK,l1]) m1 m2 k1
    have rest:=ih (zs.drop hs.size) (i+hs.size) a2 b2 r2 h8 n1 n2 k2;simp only[Op.eqFields,ae zH,aV,p1,p2,p3,lR];cases r1 with
    | true=>
     simp only[ir,cK,if_false,tG];exact rest
    | false=>simp
   cases h5
  split at hi
  ·rename_i z zs;simp only[aJ]at hi;obtain⟨h1,h4⟩:=hi;cases a with
   | nil=>cases z<;>simp[bU]at he
   | cons x a=>
    obtain⟨u,v,s1,c,r',rfl,rfl,yz,rfl,p3⟩:=wE h1 he;obtain⟨v',hv,WV⟩:=ha 0 _ rfl;obtain⟨u',sB,WW⟩:=hb 0 _ rfl;injection WV with WV;injection WW with WW;subst WV WW;have p1:=mq (w:=w) h1 (xs:=xs) (i:=g.offset) (by rw[h2];simpa using hv);have p2:=mq (w:=w) h1 (xs:=ys) (i:=g.offset) (by rw[h2];simpa using sB);have rest:=ih zs (i+1) a s1 r' h4 (fun j x hx=>by obtain⟨v,q1,q2⟩:=ha (j+1) x (by simpa using hx);exact⟨v,by rw[<-q1];congr 1;omega,q2⟩) (fun j x hx=>by obtain⟨v,q1,q2⟩:=hb (j+1) x (by simpa using hx);exact⟨v,by rw[<-q1];congr 1;omega,q2⟩) yz;simp only[Op.eqFields,ae zH,aV,p1,p2,p3,lR];cases c with
    | true=>
     simp only[ir,cK,if_false,tG];exact rest
    | false=>simp
  cases hi
variable {gs:Array Field}
theorem Ob{P:Program}{t:TypeId}{zs:List Value}(z:P.underlying t=some (.struct gs))(L:P.stoodInHeld t=false)(N:ad6 P 0 gs.toList zs=true){a b:List PV}{r:Bool}(O:bU zs a b=some r)(xs ys:Array Value)(w:World)
  (R:∀(i:Nat) x v,a[i]?=some x->xs[i]?=some v->x=.im v) (hb:∀(i:Nat) x v,b[i]?=some x->ys[i]?=some v->x=.im v) (U:a.length=xs.size) (V:b.length=ys.size):(Op.equal t (.agg xs) (.agg ys)).run P w=.ok r w:=by
 have D:P.fieldsOf t=gs:=by simp[Program.fieldsOf,z]
 have u:∀(l:List PV) (zs:Array Value),l.length=zs.size->(∀(i:Nat) x v,l[i]?=some x->zs[i]?=some v->x=.im v)->∀(j:Nat) x,l[j]?=some x->∃v,zs[0+j]?=some v/\x=.im v:=by
  intro l zs hl W j x I;obtain⟨v,J⟩:=aau hl (aC I);exact⟨v,by rw[fX];exact J,W j x v I J⟩
 have key:=FI (P:=P) (w:=w) 9996 xs ys gs.toList zs 0 a b r N (u a xs U R) (u b ys V hb) O;show (Op.equalIn (9999+1) t (.agg xs) (.agg ys)).run P w=_;rw[run_equalIn_struct w 9999 t xs ys (by rw[D];exact z) L,D];exact key
theorem H4{P:Program}{t:TypeId}{zs:List Value}(z:P.underlying t=some (.struct gs))(L:P.stoodInHeld t=false)(N:oq P 0 gs.toList zs=true){a b:List PV}{r:Bool}(O:bU zs a b=some r)(xs ys:Array Value)(w:World)
  (R:∀(i:Nat) x v,a[i]?=some x->xs[i]?=some v->x=.im v) (hb:∀(i:Nat) x v,b[i]?=some x->ys[i]?=some v->x=.im v) (U:a.length=xs.size) (V:b.length=ys.size) (hsz:gs.size=a.length):(Op.equal t (.agg xs) (.agg ys)).run P w=.ok r w:=by
 have D:P.fieldsOf t=gs:=by simp[Program.fieldsOf,z]
 have u:∀(l:List PV) (zs:Array Value),l.length=zs.size->(∀(i:Nat) x v,l[i]?=some x->zs[i]?=some v->x=.im v)->∀(j:Nat) x,l[j]?=some x->∃v,zs[0+j]?=some v/\x=.im v:=by
  intro l zs hl W j x I;obtain⟨v,J⟩:=aau hl (aC I);exact⟨v,by rw[fX];exact J,W j x v I J⟩
 have key:=u3 (P:=P) (w:=w) 9998 xs ys gs.toList zs 0 a b r N (by simp;omega) (u a xs U R) (u b ys V hb) O;show (Op.equalIn (9999+1) t (.agg xs) (.agg ys)).run P w=_;rw[run_equalIn_struct w 9999 t xs ys (by rw[D];exact z) L,D];exact key
theorem WX{P:Program}{l:List (Nat×TI)}(h:l.all (WU P)=true):∀t u op a b r,zJ l t=some u->u.eq=true->(∃fs,u.ud=.st fs)->bU u.zero a b=some r->∀(xs ys:Array Value) w,(∀(i:Nat) x v,a[i]?=some x->xs[i]?=some v->x=.im v)->(∀(i:Nat) x v,b[i]?=some x->ys[i]?=some v->x=.im v)->
  a.length=xs.size->b.length=ys.size->u.size=a.length->(op=.eql\/op=.neq)->∀(x y:Operand),(do eqGuard op t x y (.agg xs) (.agg ys);binOp op t (.agg xs) (.agg ys):Sem Value).run P w=.ok (.bool (if op=.eql then r else !r)) w:=by
 intro t u op a b r O R ⟨fs,I⟩ hcells xs ys w ha hb U V hsz N x y;have:=dY.1 h _ (tL O);unfold WU at this;simp only[R,I,aJ]at this;obtain⟨⟨D,J⟩,L⟩:=this;have J:P.stoodInHeld t=false:=by simpa using J
 have L:P.eqGuardType P.depth t=false:=by simpa using L
 split at D
 ·rename_i gs W;simp only[aJ]at D;obtain⟨Y,_⟩:=D;have z:=Ob W J Y hcells xs ys w ha hb U V;have Z:(eqGuard op t x y (.agg xs) (.agg ys)).run P w=.ok () w:=by
   rcases N with rfl | rfl<;>simp[eqGuard,L]
  rw[aV,Z,lR];rcases N with rfl | rfl
  ·simp[binOp,z]
  simp[binOp,z]
 cases D
def WZ(P:Program)(p:Nat×TI):Bool:=match Dr p.2 with
 | some (.st _)=>(match P.underlying p.1 with
  | some (.struct gs)=>oq P 0 gs.toList p.2.zero
  | _=>false)&&!P.stoodInHeld p.1
 | _=>true
theorem TR:∀{z:List Value} {sh:List Nat} {a b:List Value},E_ z=some sh->nc sh a->nc sh b->bU z (a.map .im) (b.map .im)=some (Hj a b):=by
 intro z
 induction z with
 | nil=>
  intro sh a b h u hb;injection h with h;subst h;cases a<;>cases b<;>first
   | rfl
   | exact u.elim
   | exact hb.elim
 | cons c z ih=>
  intro sh a b h u hb;unfold E_ at h;split at h
  ·rename_i D;cases D
  all_goals first
   | (
     rename_i D;injection D with D L;subst D L;obtain⟨s,N,rfl⟩:=qI.1 h;cases a with
     | nil=>exact u.elim
     | cons x a=>cases b with
      | nil=>exact hb.elim
      | cons y b=>
       have I:=u.1;have J:=hb.1;cases x<;>first | (exact I.elim) | skip
       cases y<;>first | (exact J.elim) | skip
       have:=ih N u.2 hb.2
       first
        | (simp only[eH,bU,this,mZ,Hj,Nn];done)
        | (
         have e1:_=IntKind.i64:=I;have e2:_=IntKind.i64:=J;subst e1 e2;simp only[eH,bU,this,mZ,Hj,Nn,kB];done))
   | cases h
theorem pj:∀{sh:List Nat} {a:List Value},nc sh a->a.length=sh.length
 | [],[],_=>rfl
 | [],_::_,h=>h.elim
 | _::_,[],h=>h.elim
 | _::_,_::_,h=>by simp[pj h.2]
theorem QX:∀{z:List Value} {sh:List Nat},E_ z=some sh->z.length=sh.length:=by
 intro z
 induction z with
 | nil=>intro sh h;injection h with h;subst h;rfl
 | cons c z ih=>
  intro sh h;unfold E_ at h;split at h
  ·rename_i u;cases u
  all_goals first
   | (
     rename_i u;injection u with u D;subst u D;obtain⟨s,I,rfl⟩:=qI.1 h;simp[ih I];done)
   | cases h
theorem H5{P:Program}{t:TypeId}{z:Value}(h:S4 (P.underlying t) z=true)(e:Bool)(n:Nat)(w:World)(v:Value):(Instr.checkKey e (n+1) t v).run P w=.ok () w:=by
 unfold S4 at h;split at h
 all_goals first
  | (rename_i u;cases v<;>simp[Instr.checkKey,run_underlying u];done)
  | cases h
theorem FJ{P:Program}(e:Bool)(n:Nat)(w:World)(xs:Array Value):∀(gs:List Field) (zs:List Value) (i:Nat),oq P i gs zs=true->(∀j,j<gs.length->∃v,xs[i+j]?=some v)->(forIn gs PUnit.unit fun f _=>(do
   if f.name ≠ "_" then Instr.checkKey e (n + 1) f.type (← part f.type xs f.offset)
   pure (ForInStep.yield PUnit.unit):Sem (ForInStep PUnit))).run P w=.ok PUnit.unit w:=by
 intro gs
 induction gs with
 | nil=>intro zs i _ _;rfl
 | cons g gs ih=>
  intro zs i hi hx;cases zs with
  | nil=>simp[oq]at hi
  | cons z zs=>
   simp only[oq,aJ]at hi;obtain⟨⟨⟨h1,h2⟩,h3⟩,h4⟩:=hi;have h2:=cY h2
   have zH : g.name ≠ "_" := by simpa using h3
   obtain⟨v,hv⟩:=hx 0 (by simp);have p1:=mq (w:=w) h1 (xs:=xs) (i:=g.offset) (by rw[h2];simpa using hv);have rest:=ih zs (i+1) h4 fun j hj=>by obtain⟨v,q⟩:=hx (j+1) (by simpa using hj);exact⟨v,by rw[<-q];congr 1;omega⟩
   simp only[List.forIn_cons,ae zH,aV,p1,H5 h1,lR,dt];exact rest
theorem FK{P:Program}{kt:TypeId}(vt:P.underlying kt=some (.struct gs))(e:Bool)(n:Nat)(w:World)(xs:Array Value):(Instr.checkKey e (n+1) kt (.agg xs)).run P w=((forIn gs.toList PUnit.unit fun f _=>(do
   if f.name ≠ "_" then Instr.checkKey e n f.type (← part f.type xs f.offset)
   pure (ForInStep.yield PUnit.unit):Sem (ForInStep PUnit))).run P w).andThen fun _ w'=>.ok () w':=by
 simp only[Instr.checkKey,aV,run_underlying vt,lR,<-Array.forIn_toList];rfl
theorem TS{P:Program}{l:List (Nat×TI)}(h:l.all (WZ P)=true):∀z D sh,zJ l z=some D->Dr D=some (.st sh)->PH P z (.st sh):=by
 intro z D sh Y u;have:=dY.1 h _ (tL Y);unfold WZ at this;simp only[u,aJ]at this;obtain⟨I,O⟩:=this;have O:P.stoodInHeld z=false:=by simpa using O
 have J:E_ D.zero=some sh:=by
  unfold Dr at u;split at u<;>first
   | (cases u;done)
   | skip
  all_goals (split at u)
  all_goals first
   | (cases u;done)
   | (obtain⟨s,Z,e⟩:=qI.1 u;injection e with e;subst e;exact Z)
 split at I
 ·rename_i gs R;have hlen:gs.size=sh.length:=by have:=yN I;rw[QX J]at this;simpa using this
  refine⟨fun e k w hk=>?_,fun k w L hk V=>?_⟩
  ·cases k<;>first | (exact hk.elim) | skip
   rename_i xs;have hl:=pj (sh:=sh) hk;have hl:xs.size=sh.length:=by simpa using hl
   have:=FJ e 9998 w xs gs.toList D.zero 0 I fun j hj=>⟨xs[j]'(by simp at hj;omega),by rw[fX];exact cC _⟩;exact (FK R e 9999 w xs).trans (by rw[this];rfl)
  rw[run_findKey_eq w (by rw[R]) k L];show (Instr.findAsking z k L 0).run P w=.ok (uU k L 0) w;generalize 0=i
  induction L generalizing i with
  | nil=>rfl
  | cons m L ih=>
   have U:=V m bW;cases k<;>first | (exact hk.elim) | skip
   rename_i xs;obtain⟨mk,mv,mb⟩:=m;cases mk<;>first | (exact U.elim) | skip
   rename_i ys;have hlx:xs.size=sh.length:=by simpa using pj (sh:=sh) hk
   have hly:ys.size=sh.length:=by simpa using pj (sh:=sh) U
   have W:∀(zs:Array Value) (i:Nat) x v,(zs.toList.map PV.im)[i]?=some x->zs[i]?=some v->x=.im v:=fun zs i x v N q2=>by
    rw[aD,kC,q2]at N;injection N with N;exact N.symm
   have:=H4 R O I (TR (sh:=sh) J hk U) xs ys w (W xs) (W ys) (by simp) (by simp) (by simp;omega);unfold Instr.findAsking uU;simp only[aV,this,lR,Dj];cases Hj xs.toList ys.toList with
   | true=>rfl
   | false=>exact ih (fun x hx=>V x (cD _ hx)) _
 cases I
end Go.AM
namespace Go.AM
open Go.RowKit
variable {A:rZ}
theorem aA.eK(hC:bP A.C)(s:AS)(d:Nat)(e:TypeId)(D:TI)(L:d<100000)(N:s.t d=.nl)(O:A.C.T e=some D)(hpos:0<D.size):
  aA A s ⟨a8 (jk d s).t d (.ow d),a8 (jk d s).h d (.row e [])⟩:=by
 intro S rho a w u;have R:a.tmps.getD d undef=.slice none 0 0:=by
  have:=u.tm d trivial;rw[N]at this;generalize a.tmps.getD d undef=v at this;cases this;rfl
 have U:=u.free d (.row e []);obtain⟨info,z,V,h2,h3,h4,h5,h6,h7,h8⟩:=hC.jw e D O;have W:=U.new hC d (.row e []) L (fun h=>h rfl) (aF _ _ _) w rfl rfl rfl (aG _) (fun _=>False) (fun _ _ _=>rfl) (fun _ h=>h.elim) (.slice none 0 0) (fun g Y=>by cases Y) fun T=>by
  show aH _ _ _ _ _ (a8 rho d _ d);rw[aF];exact⟨info,[],V,by omega,⟨by simp,.inl ⟨rfl,rfl⟩⟩,by simp,by simp,by simp⟩
 have I:cn A cX cX S (a8 rho d (.slice none 0 0)) ⟨(jk d s).t,a8 (jk d s).h d (.row e [])⟩ a w:=W.sL (fun _ _=>trivial) (fun k=>⟨fun _=>by by_cases e:k=d;exact .inr e;exact .inl e,fun _=>trivial⟩);refine⟨S,_,{ I with tm:=fun j _=>?_ }⟩;by_cases J:j=d
 ·subst J;show bu _ _ _ _ _ _ (a8 _ _ _ _) _;rw[aF];exact .ow j _ fun _=>⟨trivial,by rw[aF];exact R⟩
 show bu _ _ _ _ _ _ (a8 _ _ _ _) _;rw[bg _ _ J];exact I.tm j trivial
theorem aA.iT(hC:bP A.C)(s:AS)(d:Nat){y:PV}{fz:List (Nat×AB)}(h:AM.iT s.h (s.t d) fun D u=>D=y/\u=fz):aA A s ⟨a8 s.t d (.p y),app s.h fz⟩:=by
 intro S rho a w z;obtain⟨D,u,S',⟨rfl,rfl⟩,I,hp,hS,hF,_⟩:=jA hC z (h:=s.h) (fun _=>.inl rfl) (z.tm d trivial) h;refine⟨S',rho,{ I with tm:=fun j _=>?_ }⟩;by_cases J:j=d
 ·subst J;show bu _ _ _ _ _ _ (a8 _ _ _ _) _;rw[aF];exact .p _ _ hp
 show bu _ _ _ _ _ _ (a8 _ _ _ _) _;rw[bg _ _ J];exact I.tm j trivial
theorem aA.nil(hC:bP A.C)(s:AS)(d:Nat)(h:s.t d=.nl):aA A s ⟨a8 s.t d (.p (.sl [])),s.h⟩:=aA.iT hC s d (y:=.sl []) (fz:=[]) (by rw[h];exact⟨rfl,rfl⟩)
theorem aA.own(hC:bP A.C)(s:AS)(d:Nat){id:Nat}{e:TypeId}{es:List (List PV)}(h:s.t d=.ow id)(u:s.h id=.row e es):aA A s ⟨a8 s.t d (.p (.sl es)),a8 s.h id (.lz es)⟩:=aA.iT hC s d (y:=.sl es) (fz:=[(id,.lz es)]) (by rw[h];simp only[AM.iT,AM.nZ];rw[u];exact⟨rfl,rfl⟩)
theorem aA.N0(s:AS)(i d:Nat)(hid:i≠d)(z:d<100000):aA A s (oS i d s):=fun S _ _ _ u=>⟨S,_,u.rename i d hid z⟩
theorem aA.gH(hC:bP A.C)(s:AS)(id j d:Nat)(e:TypeId)(I:TI)(cs:List AV)(Y:d<100000)(hid:id≠d)(hb:s.h id=.box cs)(Z:cs[j]?=some .nl)(hT:A.C.T e=some I)(hpos:0<I.size):
  aA A s ⟨(jk d s).t,a8 (a8 (jk d s).h d (.row e [])) id (.box ((cs.map (sc d)).set j (.ow d)))⟩:=by
 intro S rho a w J;have vy:=J.free d (.row e []);obtain⟨info,z,h1,h2,h3,h4,h5,h6,h7,h8⟩:=hC.jw e I hT;have bH:=vy.new hC d (.row e []) Y (fun h=>h rfl) (aF _ _ _) w rfl rfl rfl (aG _) (fun _=>False) (fun _ _ _=>rfl) (fun _ h=>h.elim) (.slice none 0 0) (fun g hg=>by cases hg) fun T=>by
  show aH _ _ _ _ _ (a8 rho d _ d);rw[aF];exact⟨info,[],h1,by omega,⟨by simp,.inl ⟨rfl,rfl⟩⟩,by simp,by simp,by simp⟩
 have O:cn A cX cX S (a8 rho d (.slice none 0 0)) ⟨(jk d s).t,a8 (jk d s).h d (.row e [])⟩ a w:=bH.sL (fun _ _=>trivial) (fun k=>⟨fun _=>by by_cases e:k=d;exact .inr e;exact .inl e,fun _=>trivial⟩);have aU:(a8 (jk d s).h d (.row e [])) id=.box (cs.map (sc d)):=by
  rw[bg _ _ hid];show a8 (fun k=>zF d (s.h k)) d .none id=_;rw[bg _ _ hid,hb];rfl
 refine⟨S,_,O.write hC id trivial (by show ((a8 (jk d s).h d (.row e [])) id).live;rw[aU];trivial) _ (fun _ h=>by cases h) w rfl rfl rfl rfl (fun _ _=>rfl) fun T=>?_⟩;have D:=O.hp id trivial;have D:fD S w A.C.P cX (a8 rho d (.slice none 0 0)) (a8 (jk d s).h d (.row e [])) id ((a8 (jk d s).h d (.row e [])) id):=D;rw[aU]at D;obtain⟨g,ty,c,k1,k2,k3,R⟩:=D;refine⟨g,ty,c,k1,k2,by rw[k3,aQ],fun i x u hi U=>?_⟩;by_cases V:i=j
 ·subst V;have W:(cs.map (sc d))[i]?=some .nl:=by rw[aD,Z];rfl
  rw[dZ (aC W)]at hi;injection hi with hi;subst hi;obtain⟨L,N⟩:=R i _ u W U;refine⟨L,.ow d u fun _=>⟨trivial,?_⟩⟩;rw[aF];cases N;rfl
 rw[gC (fun e=>V e.symm)]at hi;obtain⟨L,N⟩:=R i x u hi U;exact⟨L,N.de T⟩
theorem aA.ahI(hC:bP A.C)(s:AS)(id j d:Nat)(e I:TypeId)(J:TI)(cs:List AV)(Z:d<100000)(hid:id≠d)(hb:s.h id=.kr I cs)(hn:cs[j]?=some .nl)(hT:A.C.T e=some J)(hpos:0<J.size):
  aA A s ⟨(jk d s).t,a8 (a8 (jk d s).h d (.row e [])) id (.kr I ((cs.map (sc d)).set j (.ow d)))⟩:=by
 intro S rho a w L;have vy:=L.free d (.row e []);obtain⟨info,z,h1,h2,h3,h4,h5,h6,h7,h8⟩:=hC.jw e J hT;have bH:=vy.new hC d (.row e []) Z (fun h=>h rfl) (aF _ _ _) w rfl rfl rfl (aG _) (fun _=>False) (fun _ _ _=>rfl) (fun _ h=>h.elim) (.slice none 0 0) (fun g hg=>by cases hg) fun T=>by
  show aH _ _ _ _ _ (a8 rho d _ d);rw[aF];exact⟨info,[],h1,by omega,⟨by simp,.inl ⟨rfl,rfl⟩⟩,by simp,by simp,by simp⟩
 have R:cn A cX cX S (a8 rho d (.slice none 0 0)) ⟨(jk d s).t,a8 (jk d s).h d (.row e [])⟩ a w:=bH.sL (fun _ _=>trivial) (fun k=>⟨fun _=>by by_cases e:k=d;exact .inr e;exact .inl e,fun _=>trivial⟩);have aU:(a8 (jk d s).h d (.row e [])) id=.kr I (cs.map (sc d)):=by
  rw[bg _ _ hid];show a8 (fun k=>zF d (s.h k)) d .none id=_;rw[bg _ _ hid,hb];rfl
 refine⟨S,_,R.write hC id trivial (by show ((a8 (jk d s).h d (.row e [])) id).live;rw[aU];trivial) _ (fun _ h=>by cases h) w rfl rfl rfl rfl (fun _ _=>rfl) fun T=>?_⟩;have D:=R.hp id trivial;have D:fD S w A.C.P cX (a8 rho d (.slice none 0 0)) (a8 (jk d s).h d (.row e [])) id ((a8 (jk d s).h d (.row e [])) id):=D;rw[aU]at D;obtain⟨g,c,k1,k2,k3,U⟩:=D;refine⟨g,c,k1,k2,by rw[k3,aQ],fun i x u hi V=>?_⟩;by_cases W:i=j
 ·subst W;have Y:(cs.map (sc d))[i]?=some .nl:=by rw[aD,hn];rfl
  rw[dZ (aC Y)]at hi;injection hi with hi;subst hi;obtain⟨N,O⟩:=U i _ u Y V;refine⟨N,.ow d u fun _=>⟨trivial,?_⟩⟩;rw[aF];cases O;rfl
 rw[gC (fun e=>W e.symm)]at hi;obtain⟨N,O⟩:=U i x u hi V;exact⟨N,O.de T⟩
theorem aA.gI(hC:bP A.C)(s:AS)(id j i:Nat)(e:TypeId)(es:List (List PV))(cs:List AV)(hid:id≠i)(hb:s.h id=.box cs)(O:cs[j]?=some (.ow i))(W:s.h i=.row e es):
  aA A s ⟨s.t,a8 (a8 s.h i (.lz es)) id (.box (cs.set j (.p (.sl es))))⟩:=by
 intro S rho a w I;have J:=I.D6 hC i trivial W;have aU:(a8 s.h i (.lz es)) id=.box cs:=by rw[bg _ _ hid];exact hb
 refine⟨_,_,J.write hC id trivial (by show ((a8 s.h i (.lz es)) id).live;rw[aU];trivial) _ (fun _ h=>by cases h) w rfl rfl rfl rfl (fun _ _=>rfl) fun T=>?_⟩;have z:=J.hp id trivial;have z:fD _ w A.C.P cX rho (a8 s.h i (.lz es)) id ((a8 s.h i (.lz es)) id):=z;rw[aU]at z;have D:=J.hp i trivial;have D:fD _ w A.C.P cX rho (a8 s.h i (.lz es)) i ((a8 s.h i (.lz es)) i):=D;rw[aF]at D;obtain⟨g,Y,c,Z,k2,k3,R⟩:=z;refine⟨g,Y,c,Z,k2,by rw[k3,aQ],fun q x u hi U=>?_⟩;by_cases V:q=j
 ·subst V;rw[dZ (aC O)]at hi;injection hi with hi;subst hi;obtain⟨L,N⟩:=R q _ u O U;refine⟨L,.p _ _ ?_⟩;rw[(N.cZ (by rw[aF];trivial)).2];exact D
 rw[gC (fun e=>V e.symm)]at hi;obtain⟨L,N⟩:=R q x u hi U;exact⟨L,N.de T⟩
theorem aA.ajr(hC:bP A.C)(s:AS)(d id:Nat){mk:MK}{es:List (Value×PV)}(D:List (Value×Value))(h:s.t d=.ow id)(hb:s.h id=.map mk es)(O:es=D.map mpE):aA A s ⟨a8 s.t d (.p (.mp mk D)),a8 s.h id .none⟩:=by
 subst O;intro S rho a w u;have I:=u.ag4 hC id trivial hb;refine⟨_,rho,{ I with tm:=fun j _=>?_ }⟩;by_cases J:j=d
 ·subst J;show bu _ _ _ _ _ _ (a8 _ _ _ _) _;rw[aF];have L:=u.tm j trivial;rw[h]at L;have R:=(L.cZ (by rw[hb];trivial)).2;have N:=u.hp id trivial;rw[hb]at N;obtain⟨g,U,z,V,W,Y,Z,h5⟩:=Ea N;show bu _ _ _ _ _ _ _ (a.tmps.getD j undef);rw[R,V];refine .p _ _ (.mp mk D g U z (.inr rfl) W ⟨by rw[Y,E5],fun i p m hp hm=>?_,h5⟩);obtain⟨e1,e2,e3⟩:=Z i (mpE p) m (by rw[aD,hp];rfl) hm;exact⟨e1,e2,e3.bZ⟩
 show bu _ _ _ _ _ _ (a8 _ _ _ _) _;rw[bg _ _ J];exact I.tm j trivial
end Go.AM
namespace Go.AM
open Go.RowKit
def sf:List Nat->List (Nat×AB)
 | []=>[]
 | n::r=>(n,.none)::sf r
theorem Es{h:Nat->AB}:∀{l:List Nat} (k:Nat),app h (sf l) k=if k∈l then .none else h k
 | [],k=>by simp[sf,app]
 | n::l,k=>by
  show app (a8 h n .none) (sf l) k=_;rw[Es (l:=l) k];by_cases u:k∈l
  ·simp[u]
  by_cases z:k=n
  ·subst z;simp[u,aF]
  simp[u,z,bg]
variable {A:rZ}
theorem aA.pack(hC:bP A.C)(s:AS)(id:Nat){bs:List AV}{cs:List HC}(hb:s.h id=.box bs)(U:ed (bO bs)=true)(hp:zG s.h bs cs):aA A s ⟨s.t,a8 (app s.h (sf (bO bs))) id (.aU cs)⟩:=by
 intro S rho a w u;obtain⟨g,V,c,W,Y,Z⟩:=BI u (id:=id) trivial hb U hp;have bY:(s.h id).live:=by rw[hb];trivial
 have at':∀j,(j=id/\a8 (app s.h (sf (bO bs))) id (.aU cs) j=.aU cs)\/(j≠id/\j∈bO bs/\a8 (app s.h (sf (bO bs))) id (.aU cs) j=.none)\/(j≠id/\¬j∈bO bs/\a8 (app s.h (sf (bO bs))) id (.aU cs) j=s.h j):=fun j=>by
  by_cases e:j=id
  ·subst e;exact .inl ⟨rfl,aF _ _ _⟩
  rw[bg _ _ e,Es];by_cases h:j∈bO bs
  ·exact .inr (.inl ⟨e,h,ae h⟩)
  exact .inr (.inr ⟨e,h,aa h⟩)
 have T:ng S S w w cX cX rho rho s.h (a8 (app s.h (sf (bO bs))) id (.aU cs)):=⟨fun _ h=>h,fun _ _=>rfl,fun j z=>⟨by
   rcases at' j with⟨rfl,_⟩ | ⟨_,_,h⟩ | ⟨_,_,h⟩
   ·rw[hb];trivial
   ·rw[h]at z;exact z.elim
   ·rw[h]at z;exact z,fun _=>⟨trivial,rfl⟩⟩,fun j e z=>by
   rcases at' j with⟨_,h⟩ | ⟨_,_,h⟩ | ⟨_,_,h⟩
   ·rw[h]at z;cases z
   ·rw[h]at z;cases z
   rw[h]at z;exact z⟩
 have D:∀j g,(a8 (app s.h (sf (bO bs))) id (.aU cs) j).live->hasB w (a8 (app s.h (sf (bO bs))) id (.aU cs) j) (rho j) g->∃k,(s.h k).live/\hasB w (s.h k) (rho k) g/\((j=id/\(k=id\/k∈bO bs))\/(j=k/\j≠id/\¬j∈bO bs)):=fun j g hl L=>by
  rcases at' j with⟨rfl,h⟩ | ⟨_,_,h⟩ | ⟨N,h2,h⟩
  ·rw[h]at L;rcases Z g L with h | ⟨n,N,_,h3,h4⟩
   ·exact⟨j,bY,.inl h,.inl ⟨rfl,.inl rfl⟩⟩
   exact⟨n,h3,.inl h4,.inl ⟨rfl,.inr N⟩⟩
  ·rw[h]at hl;exact hl.elim
  rw[h]at hl L;exact⟨j,hl,L,.inr ⟨rfl,N,h2⟩⟩
 exact⟨S,rho,
 {tm:=fun j z=>(u.tm j z).de T
  sz:=u.sz,df:=u.df,nb:=u.nb,pn:=u.pn,ev:=u.ev,s0:=u.s0,st:=u.st,sb:=u.sb
  hp:=fun j _=>by
   show fD _ _ _ _ _ _ _ (a8 (app s.h (sf (bO bs))) id (.aU cs) j);rcases at' j with⟨rfl,h⟩ | ⟨_,_,h⟩ | ⟨_,_,h⟩
   ·rw[h];exact⟨g,V,c,W,Y⟩
   ·rw[h];trivial
   rw[h];exact (u.hp j trivial).de T (fun _ _ _=>rfl) (fun _=>rfl)
  dj:=fun i j g _ _ O lj hi z=>by
   obtain⟨k,l1,R,I⟩:=D i g O hi;obtain⟨m,l2,o2,J⟩:=D j g lj z;have:=u.dj k m g trivial trivial l1 l2 R o2;subst this;rcases I with⟨rfl,I⟩ | ⟨rfl,I,c3⟩<;>rcases J with⟨rfl,J⟩ | ⟨rfl,J,c4⟩
   ·rfl
   ·rcases I with I | I
    ·exact (J I).elim
    exact (c4 I).elim
   ·rcases J with J | J
    ·exact (I J).elim
    exact (c3 J).elim
   rfl
  lv:=fun i g _ O hi=>by
   obtain⟨k,l1,R,_⟩:=D i g O hi;exact u.lv k g trivial l1 R
  fr:=u.fr }⟩
def tM:List HC->List Nat->List AV
 | [],_=>[]
 | .p x::r,ns=>.p x::tM r ns
 | .row _ _::r,n::ns=>.ow n::tM r ns
 | .row _ _::r,[]=>.junk::tM r []
def DE:List HC->List Nat->List (Nat×AB)
 | [],_=>[]
 | .p _::r,ns=>DE r ns
 | .row e es::r,n::ns=>(n,.row e es)::DE r ns
 | .row _ _::_,[]=>[]
def rowsOf:List HC->Nat
 | []=>0
 | .p _::r=>rowsOf r
 | .row _ _::r=>rowsOf r+1
def l9:List (Nat×AB)->AS->AS
 | [],s=>s
 | (d,b)::r,s=>l9 r ⟨(jk d s).t,a8 (jk d s).h d b⟩
theorem yO:∀{cs:List HC} {ns:List Nat},rowsOf cs=ns.length->(DE cs ns).map (·.1)=ns
 | [],ns,h=>by cases ns with | nil=>rfl | cons n ns=>simp[rowsOf]at h
 | .p x::cs,ns,h=>by show (DE cs ns).map _=_;exact yO h
 | .row e es::cs,[],h=>by simp[rowsOf]at h
 | .row e es::cs,n::ns,h=>by
  simp only[rowsOf,bN,bV]at h;simp[DE,yO h]
theorem Mn:∀{cs:List HC} {ns:List Nat} {n:Nat} {b:AB},(n,b)∈DE cs ns->∃(j:Nat) (e:TypeId) (es:List (List PV)),cs[j]?=some (.row e es)/\b=.row e es/\(tM cs ns)[j]?=some (.ow n)
 | [],ns,n,b,h=>by cases h
 | .p x::cs,ns,n,b,h=>by
  obtain⟨j,e,es,u,z,D⟩:=Mn (cs:=cs) (ns:=ns) h;exact⟨j+1,e,es,u,z,D⟩
 | .row e es::cs,[],n,b,h=>by cases h
 | .row e es::cs,m::ns,n,b,h=>by
  rcases L8.1 h with h | h
  ·injection h with u z;subst u z;exact⟨0,e,es,rfl,rfl,rfl⟩
  obtain⟨j,e,es,u,z,D⟩:=Mn (cs:=cs) (ns:=ns) h;exact⟨j+1,e,es,u,z,D⟩
theorem FL:∀{cs:List HC} {ns:List Nat} {j:Nat} {x:AV},rowsOf cs=ns.length->(tM cs ns)[j]?=some x->(∃z,cs[j]?=some (.p z)/\x=.p z)\/∃n e es,cs[j]?=some (.row e es)/\x=.ow n/\(n,.row e es)∈DE cs ns
 | [],ns,j,x,_,h=>by simp[tM]at h
 | .p y::cs,ns,0,x,_,h=>by simp[tM]at h;exact .inl ⟨y,rfl,h.symm⟩
 | .p y::cs,ns,j+1,x,hl,h=>by
  have:=FL (cs:=cs) (ns:=ns) (j:=j) hl (by simpa [tM] using h);exact this
 | .row e es::cs,[],j,x,hl,_=>by simp[rowsOf]at hl
 | .row e es::cs,n::ns,0,x,_,h=>by simp[tM]at h;exact .inr ⟨n,e,es,rfl,h.symm,by simp[DE]⟩
 | .row e es::cs,n::ns,j+1,x,hl,h=>by
  simp only[rowsOf,bN,bV]at hl;rcases FL (cs:=cs) (ns:=ns) (j:=j) hl (by simpa [tM] using h) with h | ⟨m,e',u,D,I,J⟩
  ·exact .inl h
  exact .inr ⟨m,e',u,D,I,by simp[DE,J]⟩
theorem AT:∀{cs:List HC} {ns:List Nat},(tM cs ns).length=cs.length
 | [],_=>rfl
 | .p x::cs,ns=>by simp[tM,AT (cs:=cs)]
 | .row e es::cs,[]=>by simp[tM,AT (cs:=cs)]
 | .row e es::cs,n::ns=>by simp[tM,AT (cs:=cs)]
theorem zL{S:Nat->Prop}{rho:Nat->Value}{a:Act}{w:World}:∀(l:List (Nat×AB)) (L:Nat->Prop) (s:AS),cn A cX L S rho s a w->cn A cX (fun k=>L k/\∀p∈l,p.1≠k) S rho (l9 l s) a w
 | [],L,s,sim=>sim.sL (fun _ h=>h) (fun i=>⟨fun h=>h.1,fun h=>⟨h,by simp⟩⟩)
 | (d,b)::l,L,s,sim=>(zL l _ _ (sim.Vp d b)).sL (fun _ h=>h) (fun i=>⟨fun ⟨z,u⟩=>⟨⟨z,fun e=>u (d,b) (by simp) e.symm⟩,fun p hp=>u p (by simp[hp])⟩,fun ⟨⟨z,u⟩,h3⟩=>⟨z,fun p hp=>by
   rcases L8.1 hp with h | h
   ·subst h;exact fun e=>u e.symm
   exact h3 p h⟩⟩)
theorem sP:∀(l:List (Nat×AB)) (s:AS) (k:Nat),(∀p∈l,p.1≠k)->(∀d,zF d (s.h k)=s.h k)->(l9 l s).h k=s.h k
 | [],s,k,_,_=>rfl
 | (d,b)::l,s,k,h,u=>by
  have hk:k≠d:=fun e=>h (d,b) (by simp) e.symm;have e1:a8 (jk d s).h d b k=s.h k:=by
   rw[bg _ _ hk];show a8 (fun k=>zF d (s.h k)) d .none k=_;rw[bg _ _ hk];exact u d
  show (l9 l ⟨(jk d s).t,a8 (jk d s).h d b⟩).h k=_;rw[sP l _ k (fun p hp=>h p (by simp[hp])) (fun z=>by show zF z (a8 (jk d s).h d b k)=a8 (jk d s).h d b k;rw[e1];exact u z)];exact e1
theorem BU:∀(l:List (Nat×AB)) (s:AS) (k:Nat) (b:AB),(l.map (·.1)).Nodup->(∀d,zF d b=b)->(k,b)∈l->(l9 l s).h k=b
 | [],s,k,b,_,_,h=>by cases h
 | (d,z)::l,s,k,b,hn,hb,h=>by
  simp only[eH,L9]at hn;show (l9 l ⟨(jk d s).t,a8 (jk d s).h d z⟩).h k=_;rcases L8.1 h with h | h
  ·injection h with h1 h2;subst h1 h2;rw[sP l _ k (fun p hp e=>hn.1 (aZ.2 ⟨p,hp,e⟩)) (fun u=>by show zF u (a8 (jk k s).h k b k)=a8 (jk k s).h k b k;rw[aF];exact hb u)];exact aF _ _ _
  exact BU l _ k b hn.2 hb h
theorem sg:∀{l:List Nat},ed l=true->l.Nodup
 | [],_=>by simp
 | n::l,h=>by
  simp[ed]at h;refine L9.2 ⟨fun u=>?_,sg h.2.2⟩;rw[oh.2 u]at h;cases h.1
theorem aA.open(hC:bP A.C)(s:AS)(id:Nat)(ns:List Nat){cs:List HC}(hb:s.h id=.aU cs)(hl:rowsOf cs=ns.length)(hg:ed ns=true)(hid:aaV id ns=false):
  aA A s ⟨(l9 (DE cs ns) s).t,a8 (l9 (DE cs ns) s).h id (.box (tM cs ns))⟩:=by
 intro S rho a w sw;have hnm:=yO hl;have SZ:((DE cs ns).map (·.1)).Nodup:=by rw[hnm];exact sg hg
 have nQ:∀n,n∈ns↔∃b,(n,b)∈DE cs ns:=fun n=>by rw[show (n∈ns)=(n∈(DE cs ns).map (·.1)) by rw[hnm]];simp
 have Y:¬id∈ns:=fun h=>by rw[oh.2 h]at hid;cases hid
 have I:=zL (DE cs ns) cX s sw;have I:cn A cX (fun k=>¬k∈ns) S rho (l9 (DE cs ns) s) a w:=I.sL (fun _ h=>h) (fun i=>⟨fun h=>⟨trivial,fun p hp e=>h (by rw[nQ,<-e];exact⟨p.2,hp⟩)⟩,fun ⟨_,h⟩ O=>by obtain⟨b,R⟩:=(nQ i).1 O;exact h _ R rfl⟩);obtain⟨J,Ny⟩:∃J,J=l9 (DE cs ns) s:=⟨_,rfl⟩;have BV:J.h id=.aU cs:=by
  rw[Ny,sP _ _ id (fun p hp e=>Y (by rw[nQ,<-e];exact⟨p.2,hp⟩)) (fun d=>by rw[hb];rfl),hb]
 have Zu:∀n b,(n,b)∈DE cs ns->J.h n=b:=fun n b O=>by
  obtain⟨j,e,es,_,rfl,_⟩:=Mn O;rw[Ny];exact BU _ _ n _ SZ (fun d=>rfl) O
 rw[<-Ny]at I ⊢;have hh:=I.hp id Y;rw[BV]at hh;obtain⟨g,ty,c,k1,U⟩:=hh;have N2:cF (rho id)=some g:=by rw[k1];rfl
 have bY:(J.h id).live:=by rw[BV];trivial
 have Z:∀n,n∈ns->∃(j:Nat) (e:TypeId) (es:List (List PV)) (u:Value),cs[j]?=some (.row e es)/\(tM cs ns)[j]?=some (.ow n)/\c[j]?=some u/\J.h n=.row e es/\(n,AB.row e es)∈DE cs ns:=fun n O=>by
  obtain⟨b,R⟩:=(nQ n).1 O;obtain⟨j,e,es,N,rfl,h3⟩:=Mn R;obtain⟨u,W⟩:=aau U.sz.symm (aC N);exact⟨j,e,es,u,N,h3,W,Zu n _ R,R⟩
 obtain⟨F,hF⟩:∃F:Nat->Value,∀n,n∈ns->∃(j:Nat) (e:TypeId) (es:List (List PV)),cs[j]?=some (.row e es)/\(tM cs ns)[j]?=some (.ow n)/\c[j]?=some (F n)/\J.h n=.row e es/\(n,AB.row e es)∈DE cs ns:=by
  have ex:∀n,∃u:Value,n∈ns->∃(j:Nat) (e:TypeId) (es:List (List PV)),cs[j]?=some (.row e es)/\(tM cs ns)[j]?=some (.ow n)/\c[j]?=some u/\J.h n=.row e es/\(n,AB.row e es)∈DE cs ns:=fun n=>by
   by_cases O:n∈ns
   ·obtain⟨j,e,es,u,h⟩:=Z n O;exact⟨u,fun _=>⟨j,e,es,h⟩⟩
   exact⟨undef,fun h=>(O h).elim⟩
  exact⟨fun n=>(ex n).choose,fun n=>(ex n).choose_spec⟩
 have TU:∀{cs:List HC} {ns:List Nat} {i j n:Nat},rowsOf cs=ns.length->ed ns=true->(tM cs ns)[i]?=some (.ow n)->(tM cs ns)[j]?=some (.ow n)->i=j:=by
  intro cs ns i j n hl hg N h2;have VC:∀{cs:List HC} {ns:List Nat},rowsOf cs=ns.length->bO (tM cs ns)=ns:=by
   intro cs
   induction cs with
   | nil=>intro ns h;cases ns with | nil=>rfl | cons n ns=>simp[rowsOf]at h
   | cons x cs ih=>
    intro ns h;cases x with
    | p x=>exact ih h
    | row e es=>
     cases ns with
     | nil=>simp[rowsOf]at h
     | cons n ns=>
      simp only[rowsOf,bN,bV]at h;show n::bO (tM cs ns)=_;rw[ih h]
  exact qV (by rw[VC hl];exact hg) N h2
 obtain⟨rho',VD⟩:∃rho':Nat->Value,rho'=fun k=>if k∈ns then F k else rho k:=⟨_,rfl⟩;have Yp:∀k,k∈ns->rho' k=F k:=fun k hk=>by rw[VD];exact ae hk
 have KI:∀k,¬k∈ns->rho' k=rho k:=fun k hk=>by rw[VD];exact aa hk
 have Zv:∀k,(k=id/\a8 J.h id (.box (tM cs ns)) k=.box (tM cs ns))\/(k≠id/\a8 J.h id (.box (tM cs ns)) k=J.h k):=fun k=>by
  by_cases e:k=id
  ·subst e;exact .inl ⟨rfl,aF _ _ _⟩
  exact .inr ⟨e,bg _ _ e⟩
 have T:ng S S w w (fun k=>¬k∈ns) cX rho rho' J.h (a8 J.h id (.box (tM cs ns))):=⟨fun _ h=>h,fun _ _=>rfl,fun j D=>⟨by
   rcases Zv j with⟨rfl,h⟩ | ⟨_,h⟩
   ·rw[BV];trivial
   ·rw[h]at D;exact D,fun hn=>⟨trivial,KI j hn⟩⟩,fun j e D=>by
   rcases Zv j with⟨_,h⟩ | ⟨_,h⟩
   ·rw[h]at D;cases D
   rw[h]at D;exact D⟩
 have L:∀j k,(a8 J.h id (.box (tM cs ns)) j).live->hasB w (a8 J.h id (.box (tM cs ns)) j) (rho' j) k->∃o,¬o∈ns/\(J.h o).live/\hasB w (J.h o) (rho o) k/\(if j∈ns then o=id else o=j):=fun j k hl ho=>by
  by_cases D:j∈ns
  ·obtain⟨i,e,es,N,h2,h3,h4,h5⟩:=hF j D;have hji:j≠id:=fun e=>Y (e▸D);rw[bg _ _ hji,h4,Yp j D]at ho;refine⟨id,Y,bY,?_,by rw[ae D]⟩;rw[BV];exact .inr <| .inl ⟨cs,g,rfl,N2,c,ty,_,i,_,F j,U.hp,N,trivial,h3,aI rfl ho⟩
  rw[KI j D]at ho;rcases Zv j with⟨rfl,h⟩ | ⟨_,h⟩
  ·rw[h]at ho;exact⟨j,D,bY,.inl (aI rfl ho),by rw[aa D]⟩
  rw[h]at hl ho;exact⟨j,D,hl,ho,by rw[aa D]⟩
 exact⟨S,rho',
 {tm:=fun j D=>(I.tm j D).de T
  sz:=I.sz,df:=I.df,nb:=I.nb
  pn:=fun k hk=>by rw[KI k fun h=>by have:=qW hg h;omega];exact I.pn k hk
  ev:=I.ev,s0:=I.s0,st:=I.st,sb:=I.sb
  hp:=fun j _=>by
   show fD _ _ _ _ _ _ _ (a8 J.h id (.box (tM cs ns)) j);rcases Zv j with⟨rfl,h⟩ | ⟨cO,h⟩
   ·rw[h];refine⟨g,ty,c,by rw[KI j Y];exact k1,U.hp,by rw[AT];exact U.sz,fun i x u hi W=>?_⟩;rcases FL hl hi with⟨z,N,rfl⟩ | ⟨n,e,es,N,rfl,h3⟩
    ·exact⟨(U.cell i _ u N W).1,.p _ _ (U.cell i _ u N W).2⟩
    refine⟨(U.cell i _ u N W).1,.ow n u fun _=>⟨trivial,?_⟩⟩;have O:n∈ns:=(nQ n).2 ⟨_,h3⟩;obtain⟨i',e',dv,q1,q2,q3,q4,q5⟩:=hF n O;have:=TU hl hg q2 hi;subst this;rw[Yp n O];rw[q3]at W;injection W with W;exact W.symm
   rw[h];by_cases D:j∈ns
   ·obtain⟨i,e,es,N,h2,h3,h4,h5⟩:=hF j D;rw[h4];show aH _ _ _ _ _ (rho' j);rw[Yp j D];exact (U.cell i _ _ N h3).2
   exact (I.hp j D).de T (fun _ _ _=>rfl) (fun _=>KI j D)
  dj:=fun i j k _ _ li lj hi D=>by
   obtain⟨o,o1,o2,o3,o4⟩:=L i k li hi;obtain⟨p,p1,p2,p3,p4⟩:=L j k lj D;have:=I.dj o p k o1 p1 o2 p2 o3 p3;subst this;by_cases ei:i∈ns
   ·rw[ae ei]at o4;subst o4;have hi:hasB w (a8 J.h o (.box (tM cs ns)) i) (rho' i) k:=hi;obtain⟨i1,e1,es1,q1,q2,q3,q4,q5⟩:=hF i ei;have hib:cF (F i)=some k:=by
     rw[bg _ _ (fun e=>Y (by rw[<-e];exact ei)),q4,Yp i ei]at hi;exact aI rfl hi
    by_cases V:j∈ns
    ·have D:hasB w (a8 J.h o (.box (tM cs ns)) j) (rho' j) k:=D;obtain⟨j1,e2,pT,r1,r2,r3,r4,r5⟩:=hF j V;have hjb:cF (F j)=some k:=by
      rw[bg _ _ (fun e=>Y (by rw[<-e];exact V)),r4,Yp j V]at D;exact aI rfl D
     have:=U.dis i1 j1 _ _ _ _ k q1 r1 q3 r3 trivial trivial hib hjb;subst this;rw[q2]at r2;injection r2 with r2;injection r2
    rw[aa V]at p4;subst p4;exfalso;have D:hasB w (a8 J.h o (.box (tM cs ns)) o) (rho' o) k:=D;rw[aF,KI o V]at D;have D:=aI rfl D;rw[N2]at D;injection D with D;exact U.top i1 _ _ k q1 q3 trivial hib D.symm
   rw[aa ei]at o4;by_cases V:j∈ns
   ·rw[ae V]at p4;subst o4;subst p4;exfalso;have hi:hasB w (a8 J.h o (.box (tM cs ns)) o) (rho' o) k:=hi;have D:hasB w (a8 J.h o (.box (tM cs ns)) j) (rho' j) k:=D;obtain⟨j1,e2,pT,r1,r2,r3,r4,r5⟩:=hF j V;have hjb:cF (F j)=some k:=by
     rw[bg _ _ (fun e=>Y (by rw[<-e];exact V)),r4,Yp j V]at D;exact aI rfl D
    rw[aF,KI o ei]at hi;have hi:=aI rfl hi;rw[N2]at hi;injection hi with hi;exact U.top j1 _ _ k r1 r3 trivial hjb hi.symm
   rw[aa V]at p4;exact o4.symm.trans p4
  lv:=fun i k _ li hi=>by
   obtain⟨o,o1,o2,o3,_⟩:=L i k li hi;exact I.lv o k o1 o2 o3
  fr:=I.fr }⟩
end Go.AM
namespace Go.AM
open Go.RowKit
def cellAt(w:World)(g p:Nat)(u:Value):Prop:=∃(c:Array Value) (ty:TypeId) (m:Nat×Nat),w.heap[g]?=some (.cells c ty m)/\c[p]?=some u
theorem po{w:World}{g p:Nat}{u v:Value}(h:cellAt w g p u)(k:cellAt w g p v):u=v:=by
 obtain⟨c,ty,m,I,J⟩:=h;obtain⟨c',ty',m',z,D⟩:=k;rw[I]at z;injection z with z;injection z with z;subst z;rw[J]at D;injection D
variable {es:List (List HX)}
theorem hG{w:World}{g a j:Nat}{u:Value}:dT w es g a j u↔∃r e xs,es[a]?=some r/\r[j]?=some (.row e xs)/\cellAt w g (a*r.length+j) u:=
 ⟨fun ⟨r,e,xs,c,z,m,D,I,J,L⟩=>⟨r,e,xs,D,I,c,z,m,J,L⟩,fun ⟨r,e,xs,D,I,c,z,m,J,L⟩=>⟨r,e,xs,c,z,m,D,I,J,L⟩⟩
variable {α:Type} {e:TypeId}
theorem aH.re{β:Type}{P:Program}{w:World}{R:α->Value->Prop}{V:β->Value->Prop}{es:List (List α)}{J:List (List β)}{v:Value}(h:aH P w R e es v)(hl:J.length=es.length)
  (hk:∀(a:Nat) r z,es[a]?=some r->J[a]?=some z->z.length=r.length)
  (hc:∀(a:Nat) r z (j:Nat) x N u,es[a]?=some r->J[a]?=some z->r[j]?=some x->z[j]?=some N->(∀g,cF v=some g->cellAt w g (a*r.length+j) u)->R x u->V N u):aH P w V e J v:=by
 obtain⟨i,xs,h1,h2,W,Y,h5,h6⟩:=h;have old:∀{a:Nat} {z:List β},J[a]?=some z->∃r,es[a]?=some r:=fun {a z} D=>⟨_,oX (by rw[<-hl];exact aC D)⟩;refine⟨i,xs,h1,h2,by rw[hl];exact W,fun z oP=>?_,h5,fun a z j N D Z=>?_⟩
 ·obtain⟨a,D⟩:=ca.1 oP;obtain⟨r,I⟩:=old D;rw[hk a r z I D];exact Y r (aj I)
 obtain⟨r,I⟩:=old D;have hlen:=hk a r z I D;obtain⟨x,hx⟩:∃x,r[j]?=some x:=⟨_,oX (by rw[<-hlen];exact aC Z)⟩;obtain⟨u,L,Du⟩:=h6 a r j x I hx;refine⟨u,L,hc a r z j x N u I D hx Z (fun g O=>?_) Du⟩;have Ah:=Y r (aj I);rcases W.2 with⟨hn,_⟩ | ⟨g',cap,U,hv,_,Hc,k1,k2,k3,k4⟩
 ·rw[hn]at O;cases O
 rw[hv]at O;obtain rfl:=jY.1 O;refine⟨U,_,_,Hc,?_⟩;rw[Ah];rw[<-k4,dM]at L;split at L
 ·simpa using L
 cases L
variable {A:rZ}
theorem aA.toH(hC:bP A.C)(s:AS)(id:Nat){es:List (List PV)}(hb:s.h id=.row e es):aA A s ⟨s.t,a8 s.h id (.aw e (es.map uN))⟩:=by
 intro S rho a w J;have O:∀g k j u,¬dT w (es.map uN) g k j u:=fun g k j u h=>by
  obtain⟨r,e',uV,I,D,_⟩:=hG.1 h;rw[aD]at I;obtain⟨q,_,rfl⟩:=qI.1 I;rw[uN,aD]at D;obtain⟨z,_,R⟩:=qI.1 D;cases R
 have L:=J.hp id trivial;rw[hb]at L;have L:aH A.C.P w (aO S w) e es (rho id):=L;refine⟨S,rho,J.Fh hC id trivial (by rw[hb];trivial) _ (fun e' h=>by rw[hb];exact h) w rfl rfl rfl rfl (fun _ _=>rfl) (fun T=>?_) (fun g h=>?_)⟩
 ·refine⟨L.re (by simp) (fun k r U I D=>?_) (fun k r U j x x2 u I D V N _ W=>?_),⟨fun g k j u b _ h=>absurd h (O _ _ _ _),fun g k j k' j' u u' b _ h=>absurd h (O _ _ _ _)⟩⟩
  ·rw[aD,I]at D;injection D with D;rw[<-D,uN,E5]
  rw[aD,I]at D;injection D with D;rw[<-D,uN,aD,V]at N;injection N with N;rw[<-N];exact AG W
 rw[eh]at h;rcases h with h | ⟨g',k,j,u,_,h,_⟩
 ·exact .inl h
 exact absurd h (O _ _ _ _)
def Mo:HX->Prop
 | .av (.p _)=>True
 | .av .nl=>True
 | .row _ _=>True
 | _=>False
def AU(es:List (List HX)):Prop:=∀r∈es,∀x∈r,Mo x
theorem Oc(h:AU es)(d:Nat):(es.map fun r=>r.map (HX.dn (sc d)))=es:=by
 conv=>rhs;rw[<-List.map_id es]
 refine qY fun r u=>?_;show r.map _=r
 conv=>rhs;rw[<-List.map_id r]
 refine qY fun x z=>?_;have:=h r u x z;cases x with
 | row e es=>rfl
 | av y=>cases y<;>first | rfl | exact this.elim
theorem hZ{l:List α}{i a:Nat}{x y:α}(h:(l.set i x)[a]?=some y):(a=i/\y=x/\i<l.length)\/(a≠i/\l[a]?=some y):=by
 by_cases e:a=i
 ·subst e;have hl:=aC h;rw[aQ]at hl;rw[dZ hl]at h;injection h with h;exact .inl ⟨rfl,h.symm,hl⟩
 rw[gC (fun e'=>e e'.symm)]at h;exact .inr ⟨e,h⟩
variable {e':TypeId}
theorem aA.tN(hC:bP A.C)(s:AS)(id i j d:Nat){r:List HX}{xs:List (List PV)}(hd:d<100000)(hid:id≠d)(hb:s.h id=.aw e es)(hs:AU es)(hr:es[i]?=some r)(hj:r[j]?=some (.row e' xs)):
  aA A s ⟨(jk d s).t,a8 (a8 (jk d s).h d (.row e' xs)) id (.aw e (es.set i (r.set j (.av (.ow d)))))⟩:=by
 intro S rho a w sw;have z:=sw.free d (.row e' xs);obtain⟨D,hh1⟩:∃D,D=a8 (jk d s).h d (.row e' xs):=⟨_,rfl⟩;have BV:D id=.aw e es:=by
  rw[hh1,bg _ _ hid];show a8 (fun k=>zF d (s.h k)) d .none id=_;rw[bg _ _ hid,hb];show AB.aw e _=_;rw[Oc hs]
 have hd1:D d=.row e' xs:=by rw[hh1,aF]
 rw[<-hh1]at z ⊢;obtain⟨N,sQ⟩:∃N,N=es.set i (r.set j (.av (.ow d))):=⟨_,rfl⟩;rw[<-sQ];have hh:=z.hp id hid;have hh:fD S w A.C.P (fun k=>k≠d) rho D id (D id):=hh;rw[BV]at hh;obtain⟨hR,hS⟩:=hh;obtain⟨g,u,hg,Zw,Du⟩:=hR.Hl hr hj;have Du:aH A.C.P w (aO S w) e' xs u:=Du;have bY:(D id).live:=by rw[BV];trivial
 have gU:∀R k p v,dT w N R k p v->dT w es R k p v/\¬(k=i/\p=j):=by
  intro R k p v hc;obtain⟨q,e2,QY,q1,q2,q3⟩:=hG.1 hc;rw[sQ]at q1;rcases hZ q1 with⟨rfl,rfl,_⟩ | ⟨hk,q1⟩
  ·rcases hZ q2 with⟨_,hx,_⟩ | ⟨hp,q2⟩
   ·cases hx
   exact⟨hG.2 ⟨r,e2,QY,hr,q2,by rw[aQ]at q3;exact q3⟩,fun h=>hp h.2⟩
  exact⟨hG.2 ⟨q,e2,QY,q1,q2,q3⟩,fun h=>hk h.1⟩
 have hown:∀b,cF u=some b->hasB w (D id) (rho id) b:=fun b h=>by rw[BV,eh];exact .inr ⟨g,i,j,u,hg,Zw,h⟩
 obtain⟨rho',ni⟩:∃rho',rho'=a8 rho d u:=⟨_,rfl⟩;have rd:rho' d=u:=by rw[ni,aF]
 have ro:∀k,k≠d->rho' k=rho k:=fun k h=>by rw[ni,bg _ _ h]
 have T:ng S S w w (fun k=>k≠d) cX rho rho' D (a8 D id (.aw e N)):=⟨fun _ h=>h,fun _ _=>rfl,fun k hk=>⟨by
   rcases b6 D id (.aw e N) k with⟨rfl,h⟩ | ⟨_,h⟩
   ·rw[BV];trivial
   ·rw[h]at hk;exact hk,fun h=>⟨trivial,ro k h⟩⟩,fun k e2 hk=>by
   rcases b6 D id (.aw e N) k with⟨rfl,h⟩ | ⟨_,h⟩
   ·rw[h]at hk;rw[BV];exact hk
   rw[h]at hk;exact hk⟩
 have J:∀k b,(a8 D id (.aw e N) k).live->hasB w (a8 D id (.aw e N) k) (rho' k) b->∃o,o≠d/\(D o).live/\hasB w (D o) (rho o) b/\(if k=d then o=id/\cF u=some b else o=k/\(k=id->cF u≠some b)):=by
  intro k b hl I;by_cases hk:k=d
  ·subst hk;rw[bg _ _ (fun e=>hid e.symm),hd1,rd]at I;have I:=aI rfl I;exact⟨id,hid,bY,hown b I,by rw[ae rfl];exact⟨rfl,I⟩⟩
  rcases b6 D id (.aw e N) k with⟨rfl,h⟩ | ⟨cO,h⟩
  ·rw[h,ro k hk]at I;rw[eh]at I;refine⟨k,hk,bY,?_,?_⟩
   ·rw[BV,eh];rcases I with I | ⟨R,k',p,v,U,o2,o3⟩
    ·exact .inl I
    exact .inr ⟨R,k',p,v,U,(gU _ _ _ _ o2).1,o3⟩
   rw[aa hk];refine⟨rfl,fun _ hub=>?_⟩;rcases I with I | ⟨R,k',p,v,U,o2,o3⟩
   ·rw[hg]at I;injection I with I;exact hS.top g i j u b hg Zw hub I.symm
   rw[hg]at U;injection U with U;subst U;obtain⟨V,c2⟩:=gU _ _ _ _ o2;exact c2 (hS.dis g k' p i j v u b hg V Zw o3 hub)
  rw[h,ro k hk]at I;rw[h]at hl;exact⟨k,hk,hl,I,by rw[aa hk];exact⟨rfl,fun e=>absurd e cO⟩⟩
 exact⟨S,rho',
 {tm:=fun k hk=>(z.tm k hk).de T
  sz:=z.sz,df:=z.df,nb:=z.nb
  pn:=fun k hk=>by rw[ro k (by omega)];exact z.pn k hk
  ev:=z.ev,s0:=z.s0,st:=z.st,sb:=z.sb
  hp:=fun k _=>by
   show fD _ _ _ _ _ _ _ (a8 D id (.aw e N) k);by_cases hk:k=d
   ·subst hk;rw[bg _ _ (fun e=>hid e.symm),hd1];show aH _ _ _ _ _ (rho' k);rw[rd];exact Du
   rcases b6 D id (.aw e N) k with⟨rfl,h⟩ | ⟨cO,h⟩
   ·rw[h];show aH _ _ _ _ _ (rho' k)/\yt _ _ (rho' k);rw[ro k hk];refine⟨hR.re (by rw[sQ,aQ]) (fun p q q2 O L=>?_) (fun p q q2 m x x2 v O L z3 W hcell hx=>?_),⟨fun R p m v b V c2 c3=>hS.top R p m v b V (gU _ _ _ _ c2).1 c3,fun R p m p' m' v v' b V c2 c3 c4 c5=>hS.dis R p m p' m' v v' b V (gU _ _ _ _ c2).1 (gU _ _ _ _ c3).1 c4 c5⟩⟩
    ·rw[sQ]at L;rcases hZ L with⟨rfl,rfl,_⟩ | ⟨_,L⟩
     ·rw[hr]at O;injection O with O;rw[<-O,aQ]
     rw[O]at L;injection L with L;rw[L]
    have zM:uT S w A.C.P (fun k=>k≠d) rho D x v->x2=x->uT S w A.C.P cX rho' (a8 D k (.aw e N)) x2 v:=fun hx Zx=>by
     rw[Zx];cases x with
     | av y=>exact bu.de T hx
     | row e2 QY=>exact hx
    rw[sQ]at L;rcases hZ L with⟨rfl,rfl,_⟩ | ⟨_,L⟩
    ·rw[hr]at O;injection O with O;subst O;rcases hZ W with⟨rfl,rfl,_⟩ | ⟨_,W⟩
     ·obtain⟨q',_,_,V,_,c2⟩:=hG.1 Zw;rw[hr]at V;injection V with V;subst V;have:=po (hcell g hg) c2;subst this;exact .ow d _ fun _=>⟨trivial,rd.symm⟩
     rw[z3]at W;injection W with W;exact zM hx W.symm
    rw[O]at L;injection L with L;subst L;rw[z3]at W;injection W with W;exact zM hx W.symm
   rw[h];exact (z.hp k hk).de T (fun _ _ _=>rfl) (fun _=>ro k hk)
  dj:=fun k m b _ _ lk lm hk hm=>by
   obtain⟨o,U,o2,o3,Y⟩:=J k b lk hk;obtain⟨p,p1,p2,p3,Z⟩:=J m b lm hm;have:=z.dj o p b U p1 o2 p2 o3 p3;subst this;by_cases ek:k=d<;>by_cases em:m=d
   ·rw[ek,em]
   ·rw[ae ek]at Y;rw[aa em]at Z;exact absurd Y.2 (Z.2 (Z.1.symm.trans Y.1))
   ·rw[aa ek]at Y;rw[ae em]at Z;exact absurd Z.2 (Y.2 (Y.1.symm.trans Z.1))
   rw[aa ek]at Y;rw[aa em]at Z;exact Y.1.symm.trans Z.1
  lv:=fun k b _ lk hk=>by
   obtain⟨o,U,o2,o3,_⟩:=J k b lk hk;exact z.lv o b U o2 o3
  fr:=z.fr }⟩
theorem aA.H7(hC:bP A.C)(s:AS)(id i j d:Nat){r:List HX}{xs:List (List PV)}(hid:id≠d)(hb:s.h id=.aw e es)(TV:s.h d=.row e' xs)(hr:es[i]?=some r)(hj:r[j]?=some (.av (.ow d))):
  aA A s ⟨s.t,a8 (a8 s.h d .none) id (.aw e (es.set i (r.set j (.row e' xs))))⟩:=by
 intro S rho a w z;obtain⟨J,sQ⟩:∃J,J=es.set i (r.set j (.row e' xs)):=⟨_,rfl⟩;rw[<-sQ];have hh:=z.hp id trivial;rw[hb]at hh;obtain⟨hR,hS⟩:=hh;have bY:(s.h id).live:=by rw[hb];trivial
 have hdl:(s.h d).live:=by rw[TV];trivial
 have J_:=z.hp d trivial;rw[TV]at J_;have J_:aH A.C.P w (aO S w) e' xs (rho d):=J_;have up:∀k,(k=id/\a8 (a8 s.h d .none) id (.aw e J) k=.aw e J)\/(k=d/\k≠id/\a8 (a8 s.h d .none) id (.aw e J) k=.none)\/(k≠d/\k≠id/\a8 (a8 s.h d .none) id (.aw e J) k=s.h k):=fun k=>by
  by_cases R:k=id
  ·subst R;exact .inl ⟨rfl,aF _ _ _⟩
  by_cases h2:k=d
  ·subst h2;exact .inr (.inl ⟨rfl,R,by rw[bg _ _ R,aF]⟩)
  exact .inr (.inr ⟨h2,R,by rw[bg _ _ R,bg _ _ h2]⟩)
 have T:ng S S w w cX cX rho rho s.h (a8 (a8 s.h d .none) id (.aw e J)):=⟨fun _ h=>h,fun _ _=>rfl,fun k hk=>⟨by
   rcases up k with⟨rfl,h⟩ | ⟨_,_,h⟩ | ⟨_,_,h⟩
   ·rw[hb];trivial
   ·rw[h]at hk;exact hk.elim
   ·rw[h]at hk;exact hk,fun h=>⟨trivial,rfl⟩⟩,fun k e2 hk=>by
   rcases up k with⟨rfl,h⟩ | ⟨_,_,h⟩ | ⟨_,_,h⟩
   ·rw[h]at hk;rw[hb];exact hk
   ·rw[h]at hk;cases hk
   rw[h]at hk;exact hk⟩
 have hval:∀g u,cF (rho id)=some g->cellAt w g (i*r.length+j) u->u=rho d:=fun g u hg hu=>by
  obtain⟨i0,ws,U,Z,Y,q4,q5,q6⟩:=hR;obtain⟨u2,p1,p2⟩:=q6 i r j _ hr hj;have p2:bu S w A.C.P cX rho s.h (.ow d) u2:=p2;have:=(p2.cZ (by rw[TV];trivial)).2;rw[<-this];have Ah:=q4 r (aj hr);rcases Y.2 with⟨hn,_⟩ | ⟨g',cap,cur,hv,_,Hc,k1,k2,k3,k4⟩
  ·rw[hn]at hg;cases hg
  rw[hv]at hg;obtain rfl:=jY.1 hg;refine po hu ⟨cur,_,_,Hc,?_⟩;rw[Ah];rw[<-k4,dM]at p1;split at p1
  ·simpa using p1
  cases p1
 have gU:∀g k p v,cF (rho id)=some g->dT w J g k p v->(dT w es g k p v/\¬(k=i/\p=j))\/(k=i/\p=j/\v=rho d):=by
  intro g k p v hg hc;obtain⟨q,e2,QY,U,Z,Y⟩:=hG.1 hc;rw[sQ]at U;rcases hZ U with⟨rfl,rfl,_⟩ | ⟨hk,U⟩
  ·rw[aQ]at Y;rcases hZ Z with⟨rfl,_,_⟩ | ⟨hp,Z⟩
   ·exact .inr ⟨rfl,rfl,hval g v hg Y⟩
   exact .inl ⟨hG.2 ⟨r,e2,QY,hr,Z,Y⟩,fun h=>hp h.2⟩
  exact .inl ⟨hG.2 ⟨q,e2,QY,U,Z,Y⟩,fun h=>hk h.1⟩
 have L:∀g k p v b,cF (rho id)=some g->dT w es g k p v->cF v=some b->cF (rho d)≠some b:=fun g k p v b R h2 h3 h4=>
  hid (z.dj id d b trivial trivial bY hdl (by rw[hb,eh];exact .inr ⟨g,k,p,v,R,h2,h3⟩) (.inl h4))
 have D:∀k b,(a8 (a8 s.h d .none) id (.aw e J) k).live->hasB w (a8 (a8 s.h d .none) id (.aw e J) k) (rho k) b->∃o,(s.h o).live/\hasB w (s.h o) (rho o) b/\(o=k/\k≠d\/o=d/\k=id):=by
  intro k b hl ho;rcases up k with⟨rfl,h⟩ | ⟨_,_,h⟩ | ⟨R,_,h⟩
  ·rw[h,eh]at ho;rcases ho with ho | ⟨g,k',p,v,o1,o2,o3⟩
   ·exact⟨k,bY,.inl ho,.inl ⟨rfl,hid⟩⟩
   rcases gU _ _ _ _ o1 o2 with⟨N,_⟩ | ⟨_,_,rfl⟩
   ·exact⟨k,bY,by rw[hb,eh];exact .inr ⟨g,k',p,v,o1,N,o3⟩,.inl ⟨rfl,hid⟩⟩
   exact⟨d,hdl,.inl o3,.inr ⟨rfl,rfl⟩⟩
  ·rw[h]at hl;exact hl.elim
  rw[h]at hl ho;exact⟨k,hl,ho,.inl ⟨rfl,R⟩⟩
 exact⟨S,rho,
 {tm:=fun k hk=>(z.tm k hk).de T
  sz:=z.sz,df:=z.df,nb:=z.nb,pn:=z.pn
  ev:=z.ev,s0:=z.s0,st:=z.st,sb:=z.sb
  hp:=fun k _=>by
   show fD _ _ _ _ _ _ _ (a8 (a8 s.h d .none) id (.aw e J) k);rcases up k with⟨rfl,h⟩ | ⟨_,_,h⟩ | ⟨R,cO,h⟩
   ·rw[h];refine⟨hR.re (by rw[sQ,aQ]) (fun p q Z O I=>?_) (fun p q Z m x x2 v O I z3 V hcell W=>?_),⟨fun g p m v b N c2 c3=>?_,fun g p m p' m' v v' b N c2 c3 c4 c5=>?_⟩⟩
    ·rw[sQ]at I;rcases hZ I with⟨rfl,rfl,_⟩ | ⟨_,I⟩
     ·rw[hr]at O;injection O with O;rw[<-O,aQ]
     rw[O]at I;injection I with I;rw[I]
    ·have zM:uT S w A.C.P cX rho s.h x v->x2=x->uT S w A.C.P cX rho (a8 (a8 s.h d .none) k (.aw e J)) x2 v:=fun W Zx=>by
      rw[Zx];cases x with
      | av y=>exact bu.de T W
      | row e2 QY=>exact W
     rw[sQ]at I;rcases hZ I with⟨rfl,rfl,_⟩ | ⟨_,I⟩
     ·rw[hr]at O;injection O with O;subst O;rcases hZ V with⟨rfl,rfl,_⟩ | ⟨_,V⟩
      ·have W:uT S w A.C.P cX rho s.h x v:=W;rw[hj]at z3;injection z3 with z3;subst z3;have W:bu S w A.C.P cX rho s.h (.ow d) v:=W;show aH A.C.P w (aO S w) e' xs v;rw[(W.cZ (by rw[TV];trivial)).2];exact J_
      rw[z3]at V;injection V with V;exact zM W V.symm
     rw[O]at I;injection I with I;subst I;rw[z3]at V;injection V with V;exact zM W V.symm
    ·rcases gU _ _ _ _ N c2 with⟨U,_⟩ | ⟨_,_,rfl⟩
     ·exact hS.top g p m v b N U c3
     intro Zy;subst Zy;exact hid (z.dj k d b trivial trivial bY hdl (.inl N) (.inl c3))
    rcases gU _ _ _ _ N c2 with⟨U,Z⟩ | ⟨rfl,rfl,rfl⟩<;>rcases gU _ _ _ _ N c3 with⟨Y,q4⟩ | ⟨rfl,rfl,rfl⟩
    ·exact hS.dis g p m p' m' v v' b N U Y c4 c5
    ·exact absurd c5 (L g p m v b N U c4)
    ·exact absurd c4 (L g p' m' v' b N Y c5)
    exact⟨rfl,rfl⟩
   ·rw[h];trivial
   rw[h];exact (z.hp k trivial).de T (fun _ _ _=>rfl) (fun _=>rfl)
  dj:=fun k m b _ _ lk lm hk hm=>by
   obtain⟨o,o1,o2,o3⟩:=D k b lk hk;obtain⟨p,p1,p2,p3⟩:=D m b lm hm;have:=z.dj o p b trivial trivial o1 p1 o2 p2;subst this;rcases o3 with⟨rfl,o3⟩ | ⟨rfl,o3⟩<;>rcases p3 with⟨rfl,p3⟩ | ⟨h,p3⟩
   ·rfl
   ·exact absurd h o3
   ·exact absurd rfl p3
   rw[o3,p3]
  lv:=fun k b _ lk hk=>by
   obtain⟨o,o1,o2,_⟩:=D k b lk hk;exact z.lv o b trivial o1 o2
  fr:=z.fr }⟩
theorem aA.W0(hC:bP A.C)(s:AS)(id i j:Nat){r:List HX}{ti:TI}(hb:s.h id=.aw e es)(Y:es[i]?=some r)(hj:r[j]?=some (.av .nl))(hT:A.C.T e'=some ti)(hpos:0<ti.size):
  aA A s ⟨s.t,a8 s.h id (.aw e (es.set i (r.set j (.row e' []))))⟩:=by
 intro S rho a w Z;obtain⟨pT,sQ⟩:∃pT,pT=es.set i (r.set j (.row e' [])):=⟨_,rfl⟩;rw[<-sQ];have hh:=Z.hp id trivial;rw[hb]at hh;obtain⟨hR,hS⟩:=hh;obtain⟨info,z,h1,h2,_⟩:=hC.jw e' ti hT;have hval:∀g u,cF (rho id)=some g->cellAt w g (i*r.length+j) u->u=.slice none 0 0:=fun g u U hu=>by
  obtain⟨i0,ws,q1,O,V,q4,q5,q6⟩:=hR;obtain⟨u2,p1,p2⟩:=q6 i r j _ Y hj;have p2:bu S w A.C.P cX rho s.h .nl u2:=p2;have:u2=.slice none 0 0:=by cases p2;rfl
  rw[<-this];have Ah:=q4 r (aj Y);rcases V.2 with⟨hn,_⟩ | ⟨g',cap,cur,hv,_,Hc,k1,k2,k3,k4⟩
  ·rw[hn]at U;cases U
  rw[hv]at U;obtain rfl:=jY.1 U;refine po hu ⟨cur,_,_,Hc,?_⟩;rw[Ah];rw[<-k4,dM]at p1;split at p1
  ·simpa using p1
  cases p1
 have gU:∀g k p v b,cF (rho id)=some g->dT w pT g k p v->cF v=some b->dT w es g k p v:=by
  intro g k p v b U hc hv;obtain⟨q,e2,QY,q1,O,V⟩:=hG.1 hc;rw[sQ]at q1;rcases hZ q1 with⟨rfl,rfl,_⟩ | ⟨hk,q1⟩
  ·rw[aQ]at V;rcases hZ O with⟨rfl,_,_⟩ | ⟨hp,O⟩
   ·rw[hval g v U V]at hv;cases hv
   exact hG.2 ⟨r,e2,QY,Y,O,V⟩
  exact hG.2 ⟨q,e2,QY,q1,O,V⟩
 refine⟨S,rho,Z.Fh hC id trivial (by rw[hb];trivial) _ (fun e2 h=>by rw[hb];exact h) w rfl rfl rfl rfl (fun _ _=>rfl) (fun T=>?_) (fun g h=>?_)⟩
 ·refine⟨hR.re (by rw[sQ,aQ]) (fun p q O I D=>?_) (fun p q O m x x2 v I D W J hcell N=>?_),⟨fun g p m v b L c2 R=>hS.top g p m v b L (gU _ _ _ _ _ L c2 R) R,fun g p m p' m' v v' b L c2 R c4 c5=>hS.dis g p m p' m' v v' b L (gU _ _ _ _ _ L c2 c4) (gU _ _ _ _ _ L R c5) c4 c5⟩⟩
  ·rw[sQ]at D;rcases hZ D with⟨rfl,rfl,_⟩ | ⟨_,D⟩
   ·rw[Y]at I;injection I with I;rw[<-I,aQ]
   rw[I]at D;injection D with D;rw[D]
  have zM:uT S w A.C.P cX rho s.h x v->x2=x->uT S w A.C.P cX rho (a8 s.h id (.aw e pT)) x2 v:=fun N Zx=>by
   rw[Zx];cases x with
   | av y=>exact bu.de T N
   | row e2 QY=>exact N
  rw[sQ]at D;rcases hZ D with⟨rfl,rfl,_⟩ | ⟨_,D⟩
  ·rw[Y]at I;injection I with I;subst I;rcases hZ J with⟨rfl,rfl,_⟩ | ⟨_,J⟩
   ·rw[hj]at W;injection W with W;subst W;have N:bu S w A.C.P cX rho s.h .nl v:=N;have:v=.slice none 0 0:=by cases N;rfl
    rw[this];exact⟨info,[],h1,by omega,⟨by simp,.inl ⟨rfl,rfl⟩⟩,by simp,by simp,by simp⟩
   rw[W]at J;injection J with J;exact zM N J.symm
  rw[I]at D;injection D with D;subst D;rw[W]at J;injection J with J;exact zM N J.symm
 rw[eh]at h;rw[hb,eh];rcases h with h | ⟨g',k,p,v,L,c2,R⟩
 ·exact .inl h
 exact .inr ⟨g',k,p,v,L,gU _ _ _ _ _ L c2 R,R⟩
theorem SU.map{l:List α}{f:α->List HX}{g:α->List PV}(h:∀x∈l,(g x).length=(f x).length/\∀(j:Nat) u v,(f x)[j]?=some u->(g x)[j]?=some v->Yc u v):SU (l.map f) (l.map g):=
 ⟨by simp,fun a r q D z=>by
  rw[aD]at D z;obtain⟨x,I,rfl⟩:=qI.1 D;rw[I]at z;injection z with z;subst z;exact h x (aj I)⟩
theorem aA.QZ(hC:bP A.C)(s:AS)(id:Nat)(ps:List (List PV))(hb:s.h id=.aw e es)(L:SU es ps):aA A s ⟨s.t,a8 s.h id (.row e ps)⟩:=by
 intro S rho a w z;have hh:=z.hp id trivial;rw[hb]at hh;obtain⟨hR,hS⟩:=hh;have W:(s.h id).live:=by rw[hb];trivial
 obtain⟨I,hI⟩:∃I:Nat->Prop,I=fun b=>∃g k j u,cF (rho id)=some g/\dT w es g k j u/\cF u=some b:=⟨_,rfl⟩;have N:∀b,I b->hasB w (s.h id) (rho id) b:=fun b h=>by rw[hI]at h;rw[hb,eh];exact .inr h
 have Zz:∀b,I b->cF (rho id)≠some b:=fun b h J=>by
  rw[hI]at h;obtain⟨g,k,j,u,U,h2,h3⟩:=h;rw[U]at J;injection J with J;exact hS.top g k j u b U h2 h3 J.symm
 have T:ng S (fun b=>S b\/I b) w w cX cX rho rho s.h (a8 s.h id (.row e ps)):=by
  refine⟨fun b h=>.inl h,fun _ _=>rfl,fun j D=>⟨?_,fun hl=>⟨hl,rfl⟩⟩,fun j e' D=>?_⟩
  ·rcases b6 s.h id (.row e ps) j with⟨rfl,h⟩ | ⟨_,h⟩
   ·rw[hb];trivial
   rw[h]at D;exact D
  rcases b6 s.h id (.row e ps) j with⟨rfl,h⟩ | ⟨_,h⟩
  ·rw[h]at D;rw[hb];exact D
  rw[h]at D;exact D
 have Y:∀j,((a8 s.h id (.row e ps)) j).live->(s.h j).live:=by
  intro j D;rcases b6 s.h id (.row e ps) j with⟨rfl,h⟩ | ⟨U,h⟩
  ·exact W
  rw[h]at D;exact D
 have back:∀j g,hasB w (a8 s.h id (.row e ps) j) (rho j) g->hasB w (s.h j) (rho j) g:=fun j g h=>by
  rcases b6 s.h id (.row e ps) j with⟨rfl,h'⟩ | ⟨U,h'⟩
  ·rw[h']at h;exact .inl (aI rfl h)
  rw[h']at h;exact h
 exact⟨fun b=>S b\/I b,rho,
 {tm:=fun j D=>(z.tm j D).de T
  sz:=z.sz,df:=z.df,nb:=z.nb,pn:=z.pn
  ev:=hC.env _ _ _ _ z.ev (fun b h=>.inl h) (fun _ _=>rfl) (aG _)
  s0:=fun b h=>.inl (z.s0 b h)
  st:=fun b h=>h.elim (z.st b) fun h=>(z.lv id b trivial W (N b h)).1
  sb:=fun b h=>h.elim (z.sb b) fun h=>.inr (z.lv id b trivial W (N b h)).2.2
  hp:=fun j D=>by
   rcases b6 s.h id (.row e ps) j with⟨rfl,h⟩ | ⟨U,h⟩
   ·show fD _ _ _ _ _ _ _ (a8 s.h j (.row e ps) j);rw[h];refine hR.re L.len (fun p q q2 V z2=>(L.row p q q2 V z2).1) (fun p q q2 m x x2 v V z2 z3 z4 O R=>?_);have:=(L.row p q q2 V z2).2 m x x2 z3 z4;cases this with
    | p x=>exact (bu.eY R).mono (fun b h=>.inl h) (fun _ _=>rfl)
    | nl=>
     have R:bu S w A.C.P cX rho s.h .nl v:=R;cases R;exact .nil _ _
    | row e' xs=>
     have R:aH A.C.P w (aO S w) e' xs v:=R;refine aH.Hr R (fun b h=>.inl h) fun b hb'=>.inr ?_;rw[hI];obtain⟨g,u,g1,g2,_⟩:=hR.Hl V z3;obtain⟨q',_,_,Z,_,c2⟩:=hG.1 g2;rw[V]at Z;injection Z with Z;subst Z;have:=po (O g g1) c2;subst this;exact⟨g,p,m,v,g1,g2,hb'⟩
   show fD _ _ _ _ _ _ _ (a8 s.h id (.row e ps) j);rw[h];exact (z.hp j D).de T (fun _ _ _=>rfl) (fun _=>rfl)
  dj:=fun i j g hi D li lj fU hgj=>z.dj i j g hi D (Y i li) (Y j lj) (back i g fU) (back j g hgj)
  lv:=fun i g hi li J=>by
   obtain⟨h3,h4,h5⟩:=z.lv i g hi (Y i li) (back i g J);refine⟨h3,fun h=>h.elim h4 fun h=>?_,h5⟩;have:=z.dj i id g hi trivial (Y i li) W (back i g J) (N g h);subst this;have J:hasB w (a8 s.h i (.row e ps) i) (rho i) g:=J;rw[aF]at J;exact Zz g h (aI rfl J)
  fr:=z.fr }⟩
theorem aA.ZA(hC:bP A.C)(s:AS)(id j:Nat)(cs:List AV)(hb:s.h id=.box cs)(I:cs[j]?=some .nl):aA A s ⟨s.t,a8 s.h id (.box (cs.set j (.p (.im (.slice none 0 0)))))⟩:=by
 intro S rho a w z;refine⟨S,rho,z.write hC id trivial (by rw[hb];trivial) _ (fun _ h=>by cases h) w rfl rfl rfl rfl (fun _ _=>rfl) fun T=>?_⟩;have J:=z.hp id trivial;rw[hb]at J;obtain⟨g,U,c,V,W,Y,L⟩:=J;refine⟨g,U,c,V,W,by rw[Y,aQ],fun q x u hi N=>?_⟩;by_cases O:q=j
 ·subst O;rw[dZ (aC I)]at hi;injection hi with hi;subst hi;obtain⟨R,D⟩:=L q _ u I N;have:u=.slice none 0 0:=by cases D;rfl
  rw[this];exact⟨rfl,.p _ _ (.im _)⟩
 rw[gC (fun e=>O e.symm)]at hi;obtain⟨R,D⟩:=L q x u hi N;exact⟨R,D.de T⟩
end Go.AM
namespace Go.AM
open Go.RowKit
theorem ot{C:Ctx}{o:Oper}{rho:Operand->AV}{h:Nat->AB}{K K':KK}(hk:∀v e n,K v e n->K' v e n)(u:cc C o rho h K):cc C o rho h K':=by
 obtain⟨v,e,n,z,D⟩:=tH (fun _=>.inr rfl) u;exact D _ (hk _ _ _ z)
variable {K':AS->Prop} {s:AS}
theorem KL{C:Ctx}{o:Oper}{K:AS->Prop}(hk:∀s,K s->K' s)(u:BG C o K s):BG C o K' s:=by
 unfold BG at u ⊢;split at u
 ·exact ot (fun v e n h=>hk _ h) u
 split at u
 ·split at u
  ·split at u
   ·split at u<;>exact hk _ u
   ·split at u<;>exact hk _ u
   exact hk _ u
  exact hk _ u
 ·unfold agT at u ⊢;split at u
  ·split at u
   ·exact⟨fun h=>hk _ (u.1 h),fun i p z D I=>hk _ (u.2 i p z D I)⟩
   exact u.elim
  exact u.elim
 refine ot (fun v e n h=>?_) u;cases n with
 | none=>exact hk _ h
 | some b=>exact h
theorem yP{C:Ctx}{o:Oper}{K:AS->Prop}(hk:∀s,K s->K' s)(u:step C o K s):step C o K' s:=by
 unfold step at u ⊢;split at u
 ·exact⟨hk _ u.1,hk _ u.2⟩
 exact KL hk u
theorem rj{b:Bool}{p q u z:Prop}(D:p->u)(I:q->z)(h:sd b p q):sd b u z:=by
 cases b<;>simp only[sd]at h ⊢
 ·exact I h
 exact D h
theorem Od{C:Ctx}{all:List Oper}{K:AS->Prop}(hk:∀s,K s->K' s):∀(l:List Oper) (s:AS),sv C all l K s->sv C all l K' s:=by
 intro l
 induction l with
 | nil=>intro s h;exact hk _ h
 | cons o l ih=>
  intro s h;unfold sv at h ⊢;split at h
  ·exact yP ih h
  split at h
  ·exact h.elim
  split at h
  ·exact h.elim
  split at h
  ·rename_i want _ _ _ _ _ _ _;refine rj (fun h=>?_) (fun h=>?_) h
   ·split at h
    ·exact yP ih h
    exact ih _ h
   split at h
   ·exact yP ih h
   exact ih _ h
  ·exact ih _ h
  exact h.elim
theorem vC{C:Ctx}{ap f:Bool}{X:List Nat}{o:Oper}{K:AS->Prop}(hk:∀s,K s->K' s)(u:uZ C ap X f o K s):uZ C ap X f o K' s:=by
 unfold uZ at u ⊢;split at u
 ·refine ot (fun v e n h=>?_) u;split at h
  ·exact h
  split at h
  ·split at h
   ·exact hk _ h
   exact h
  split at h
  ·exact hk _ h
  exact h
 exact u
theorem Oe{C:Ctx}{ap:Bool}{X:List Nat}{all:List Oper}{K:AS->Prop}(hk:∀s,K s->K' s):∀(l:List Oper) (u:List Bool) (s:AS),rh C ap X all u l K s->rh C ap X all u l K' s:=by
 intro l
 induction l with
 | nil=>intro u s h;cases u<;>exact hk _ h
 | cons o l ih=>
  intro u s h;cases u with
  | nil=>exact h
  | cons f u=>
  unfold rh at h ⊢;split at h
  ·exact vC (ih u) h
  split at h
  ·exact h.elim
  split at h
  ·exact h.elim
  split at h
  ·refine rj (fun h=>?_) (fun h=>?_) h
   ·split at h
    ·exact vC (ih u) h
    exact ih u _ h
   split at h
   ·exact vC (ih u) h
   exact ih u _ h
  ·exact ih u _ h
  exact h.elim
theorem yQ{f u:AS->Prop}{K K':Exit->AS->Prop}(z:∀s,f s->u s)(hk:∀e s,K e s->K' e s):∀e s,qi f K e s->qi u K' e s:=by
 intro e s h;cases e<;>first | exact z _ h | exact hk _ _ h
theorem BX{id:Nat}{K K':Exit->AS->Prop}(hk:∀e s,K e s->K' e s):∀e s,Er id K e s->Er id K' e s:=by
 intro e s h;cases e<;>first | exact hk _ _ h | exact rj (hk _ _) (hk _ _) h
variable {A:rZ}
theorem sR:∀(c:Code) (K K':Exit->AS->Prop) (s:AS),(∀e s,K e s->K' e s)->Dm A c K s->Dm A c K' s:=by
 intro c
 induction c with
 | skip=>intro K K' s hk h;exact hk _ _ h
 | region id ops draw=>
  intro K K' s hk h;cases draw with
  | false=>exact Od (hk _) _ _ h
  | true=>obtain⟨X,h⟩:=h;exact⟨X,Oe (fun _ h=>hk _ _ h) _ _ _ h⟩
 | seq a b u z=>intro K K' s hk h;exact u _ _ _ (yQ (fun s h=>by obtain⟨D,J,L⟩:=h;exact⟨D,J,z _ _ _ hk L⟩) hk) h
 | cond c a b u z=>
  intro K K' s hk h;simp only[Dm]at h ⊢;split at h
  ·exact rj (u _ _ _ hk) (z _ _ _ hk) h
  exact h
 | block id c ih=>intro K K' s hk h;exact ih _ _ _ (BX hk) h
 | loop c ih=>
  intro K K' s hk h;obtain⟨α,I,m,N,O⟩:=h;exact⟨α,I,m,N,fun x s hi=>ih _ _ _ (yQ (fun _ h=>h) hk) (O x s hi)⟩
 | exit id=>intro K K' s hk h;exact hk _ _ h
 | ret=>intro K K' s hk h;exact hk _ _ h
 | rangeFunc=>intro K K' s _ h;exact h.elim
 | scope=>intro K K' s _ h;exact h.elim
 | label=>intro K K' s _ h;exact h.elim
 | goto=>intro K K' s _ h;exact h.elim
 | refuse=>intro K K' s _ h;exact h.elim
def zN{α:Type}(R:α->Prop)(ts:α->List (Nat×AV))(hs:α->List (Nat×AB))(s:AS):Prop:=∃y,R y/\oT (ts y) s.t/\oT (hs y) s.h
variable {α:Type}
theorem zN.go{R:α->Prop}{u:α->List (Nat×AV)}{z:α->List (Nat×AB)}{f:AS->Prop}(D:∀y,R y->∀t h,f ⟨ri (u y) t,ri (z y) h⟩)(h:zN R u z s):f s:=by
 obtain⟨y,I,J,L⟩:=h;have:=D y I s.t s.h
 rwa [wD _ _ J,wD _ _ L]at this
theorem cut{c:Code}{f:AS->Prop}{K:Exit->AS->Prop}(R:α->Prop)(u:α->List (Nat×AV))(z:α->List (Nat×AB))
  (D:∀y,R y->∀t h,f ⟨ri (u y) t,ri (z y) h⟩) (I:Dm A c (qi (zN R u z) K) s):Dm A c (qi f K) s:=
 sR c _ _ s (yQ (fun _ h=>h.go D) fun _ _ h=>h) I
theorem KM{R:α->Prop}{u:α->List (Nat×AV)}{z:α->List (Nat×AB)}{K:Exit->AS->Prop}(D:∀y,R y->∀t h,K .normal ⟨ri (u y) t,ri (z y) h⟩):∀e s,qi (zN R u z) K e s->K e s:=by
 intro e s h;cases e<;>first | exact h | exact zN.go D h
theorem acA{c:Code}{id:Nat}{K:Exit->AS->Prop}(R:α->Prop)(u:α->List (Nat×AV))(z:α->List (Nat×AB))
  (D:∀y,R y->∀t h,K .normal ⟨ri (u y) t,ri (z y) h⟩) (I:Dm A c (Er id (qi (zN R u z) K)) s):Dm A c (Er id K) s:=
 sR c _ _ s (BX (KM D)) I
end Go.AM
namespace Go.AM
open Go.RowKit
def Of(d:Nat)(t:Nat->AV)(j:Nat):AV:=sc d (t j)
def H8(d:Nat)(h:Nat->AB):Nat->AB:=a8 (fun k=>zF d (h k)) d .none
def rnT(i d:Nat)(t:Nat->AV)(j:Nat):AV:=rn i d (t j)
def rnH(i d:Nat)(h:Nat->AB)(j:Nat):AB:=match cG j d with
 | true=>Qm i d (h i)
 | false=>match cG j i with
  | true=>.none
  | false=>Qm i d (h j)
def Mp(o:Oper):Bool:=match o.op with
 | .assign _=>false
 | _=>true
def FM:AB->Bool
 | .row _ _=>true
 | .aw _ _=>true
 | _=>false
abbrev TP:=(Nat->AV)->(Nat->AB)->Prop
def SG(G:TP)(K:AS->Prop):Prop:=∀t h,G t h->K ⟨t,h⟩
def ptW(G:TP)(t:Nat->AV)(h:Nat->AB)(d:Nat):AV->Prop
 | .p x=>G (a8 t d (.p x)) h
 | .nl=>G (a8 t d .nl) h
 | .ow i=>G (a8 t d (.ow i)) h
 | .rp i j k=>G (a8 t d (.rp i j k)) h
 | .bx i j=>G (a8 t d (.bx i j)) h
 | .vw i j k=>G (a8 t d (.vw i j k)) h
 | .fn f c=>G (a8 t d (.fn f c)) h
 | .tu x=>G (a8 t d (.tu x)) h
 | .st x=>G (a8 t d (.st x)) h
 | .junk=>G (a8 t d .junk) h
def Mq(G:TP)(t:Nat->AV)(d:Option Tmp)(v:AV):List (Nat×AB)->(Nat->AB)->Prop
 | (i,b)::r,h=>Mq G t d v r (a8 h i b)
 | [],h=>match d with
  | some d=>ptW G t h d v
  | none=>G t h
def Q0(d:Nat):AV->AV
 | .ow i=>match cG i d with
  | true=>.ow d
  | false=>.ow i
 | .bx i j=>match cG i d with
  | true=>.bx d j
  | false=>.bx i j
 | v=>v
theorem afc(d:Nat)(v:AV):Q0 d v=v:=by
 unfold Q0;split
 ·split
  ·rename_i h;rw[bz.1 h]
  rfl
 ·split
  ·rename_i h;rw[bz.1 h]
  rfl
 rfl
def kqW(G:TP)(d:Option Tmp)(t:Nat->AV)(h:Nat->AB):KK:=fun v e n=>match n with
 | none=>Mq G t d v e h
 | some _=>False
def knW(G:TP)(d:Option Tmp)(dd:Nat)(t:Nat->AV)(h:Nat->AB):KK:=fun v e n=>match n with
 | none=>match vo dd e with
  | true=>Mq G t d v e h
  | false=>False
 | some b=>Mq G t d (Q0 dd v) e (a8 h dd b)
def asW(G:TP)(t:Nat->AV)(h:Nat->AB)(d:Nat):AV->Prop
 | .ow i=>match FM (h i) with
  | false=>G (a8 t d (.ow i)) h
  | true=>match cG i d with
   | true=>G (a8 t d (.ow i)) h
   | false=>G (a8 (rnT i d t) d (.ow d)) (rnH i d h)
 | v=>ptW G t h d v
def ahJ(G:TP)(d:Option Tmp)(t:Nat->AV)(h:Nat->AB):AV->Prop
 | .bx id 0=>match h id with
  | .iter mk es k _=>(k=0->Mq G t d (.tu [.p (.im (.bool false))]) [] h)/\∀(i:Nat) (p:Value×Value) (k':Nat),es[i]?=some p->k' < k->Mq G t d (.tu [.p (.im (.bool true)),.p (.im p.1),.p (.im p.2)]) [] (a8 h id (.iter mk es k' (some p)))
  | _=>False
 | _=>False
def Q1(C:Ctx)(o:Oper)(G:TP)(t:Nat->AV)(h:Nat->AB):Prop:=match TB C o t with
 | true=>Mq G t o.dst (.p (.im (.bool true))) [] h/\Mq G t o.dst (.p (.im (.bool false))) [] h
 | false=>match sM o.op with
  | true=>match o.dst with
   | some d=>cc C o (ev (Of d t)) (H8 d h) (knW G (some d) d (Of d t) (H8 d h))
   | none=>cc C o (ev (Of 0 t)) (H8 0 h) (knW G none 0 (Of 0 t) (H8 0 h))
  | false=>match o.op,o.dst with
   | .assign x,some d=>asW G t h d (ev t x)
   | .next x false,d=>ahJ G d t h (ev t x)
   | _,d=>cc C o (ev t) h (kqW G d t h)
def FO(all:List Oper)(o:Oper)(G1 G0:TP)(t:Nat->AV)(h:Nat->AB):Prop:=match o.guard with
 | none=>G1 t h
 | some (g,want)=>match all[g]? with
  | none=>False
  | some og=>match og.dst with
   | none=>False
   | some tg=>match t tg with
    | .p (.im (.bool b))=>@Bool.rec (fun _=>Prop)
     (match want with
      | false=>G1 (a8 t tg (kH false)) h
      | true=>G0 (a8 t tg (kH false)) h)
     (match want with
      | true=>G1 (a8 t tg (kH true)) h
      | false=>G0 (a8 t tg (kH true)) h) b
    | .p (.im (.tuple _))=>G0 t h
    | _=>False
def Og(C:Ctx)(all:List Oper):List Oper->TP->TP
 | [],G,t,h=>G t h
 | o::r,G,t,h=>FO all o (Q1 C o (Og C all r G)) (fun t h=>Mq (Og C all r G) t o.dst uO [] h) t h
section
variable {G:TP} {K:AS->Prop} {t:Nat->AV} {h:Nat->AB} {d:Tmp} {C:Ctx} {o:Oper}
theorem Mr(H:SG G K){v:AV}(q:ptW G t h d v):K ⟨a8 t d v,h⟩:=by cases v<;>exact H _ _ q
theorem gJ(H:SG G K){d:Option Tmp}{v:AV}:∀(e:List (Nat×AB)) {h:Nat->AB},Mq G t d v e h->K ⟨fE t d v,app h e⟩
 | (i,b)::r,h,q=>gJ H r (h:=a8 h i b) q
 | [],h,q=>by cases d with
  | none=>exact H _ _ q
  | some d=>exact Mr H q
theorem Et(d:Nat)(h:Nat->AB):H8 d h d=.none:=by unfold H8;rw[aF]
theorem Ms(H:SG G K){d:Option Tmp}{u:Nat}{v:AV}{e:List (Nat×AB)}{n:Option AB}(z:h u=.none)(q:knW G d u t h v e n):K ⟨fE t d v,match n with
  | none=>a8 (app h e) u .none
  | some b=>app (a8 h u b) e⟩:=by
 unfold knW at q;cases n with
 | none=>
  simp only at q ⊢;cases hn:vo u e with
  | false=>rw[hn]at q;exact q.elim
  | true=>
   rw[hn]at q;have:a8 (app h e) u .none=app h e:=kD _ _ _ ((oa (h:=h) hn).trans z);rw[this];exact gJ H e q
 | some b=>rw[afc]at q;exact gJ H e q
theorem Eu(H:SG G K)(q:Q1 C o G t h):step C o K ⟨t,h⟩:=by
 unfold step;unfold Q1 at q;cases hn:TB C o t with
 | true=>
  simp only[hn]at q ⊢;exact⟨gJ H [] q.1,gJ H [] q.2⟩
 | false=>
  simp only[hn]at q ⊢;unfold BG;cases hm:sM o.op with
  | true=>
   rw[hm]at q;simp only at q ⊢;cases z:o.dst with
   | some d=>
    rw[z]at q;exact ot (fun v e n hk=>by
     have:=Ms H (Et _ _) hk;cases n<;>exact this) q
   | none=>
    rw[z]at q;exact ot (fun v e n hk=>by
     have:=Ms H (Et _ _) hk;cases n<;>exact this) q
  | false=>
   rw[hm]at q;simp only at q ⊢;split
   ·rename_i x d u z;rw[u,z]at q;simp only at q;unfold asW at q;split
    ·rename_i i hi;rw[hi]at q;simp only at q;cases hb:h i<;>rw[hb]at q<;>simp only[FM]at q ⊢<;>first | exact H _ _ q | (cases L:cG i d<;>rw[L]at q<;>exact H _ _ q)
    rename_i D;split at q
    ·rename_i i hi;exact absurd hi (D i)
    exact Mr H q
   ·rename_i x u;rw[u]at q;have q:ahJ G o.dst t h (ev t x):=q;unfold agT;unfold ahJ at q;split at q
    ·rename_i id hid;simp only[hid];split at q
     ·rename_i mk es k c I;simp only[I];exact⟨fun N=>gJ H [] (q.1 N),fun i p O R U=>gJ H [] (q.2 i p O R U)⟩
     exact q.elim
    exact q.elim
   rename_i J D;have hk:cc C o (ev t) h (kqW G o.dst t h):=by
    split at q
    ·rename_i x d u z;exact absurd z (D x d u)
    ·rename_i x u;exact absurd u (J x)
    exact q
   exact ot (fun v e n hk=>by cases n<;>first | exact gJ H e hk | exact hk.elim) hk
theorem H9{all:List Oper}(H:SG G K):∀(l:List Oper) {t:Nat->AV} {h:Nat->AB},Og C all l G t h->sv C all l K ⟨t,h⟩
 | [],t,h,q=>H _ _ q
 | o::r,t,h,q=>by
  have ih:SG (Og C all r G) (sv C all r K):=fun _ _ q=>H9 H r q;unfold Og FO at q;unfold sv;split at q
  ·rename_i z;(try simp only[z]);exact Eu ih q
  rename_i g u z
  (try simp only[z])
  split at q
  ·exact q.elim
  rename_i og I
  (try simp only[I])
  split at q
  ·exact q.elim
  rename_i tg J
  (try simp only[J])
  split at q
  ·rename_i b D
   (try simp only[D])
   cases b<;>cases u<;>first | exact Eu ih q | exact gJ ih [] q
  ·rename_i xs D
   (try simp only[D])
   exact gJ ih [] q
  exact q.elim
end
def kdW(C:Ctx)(ap:Bool)(X:List Nat)(f:Bool)(o:Oper)(G:TP)(t:Nat->AV)(h:Nat->AB):KK:=fun v e n=>match vz o.op n o.dst with
 | false=>False
 | true=>match e with
  | []=>match o.dst with
   | some d=>Mq G t (some d) (Q0 d v) [] (sD h d n)
   | none=>Mq G t none v [] (sD h 0 n)
  | p::e=>match Nat.beq (cls C ap o.op) 3&&(jD h (p::e)&&(ap||l7 h (p::e))&&S0 X f h (p::e)) with
   | false=>False
   | true=>match n with
    | none=>Mq G t o.dst v (p::e) h
    | some b=>match o.dst with
     | some d=>Mq G t (some d) (Q0 d v) ((p::e)++[(d,b)]) h
     | none=>Mq G t none v ((p::e)++[(0,b)]) h
def Ev(C:Ctx)(ap:Bool)(X:List Nat)(all:List Oper):List Bool->List Oper->TP->TP
 | _,[],G,t,h=>G t h
 | [],_::_,_,_,_=>False
 | f::fl,o::r,G,t,h=>FO all o (fun t h=>match BL C ap X f o (ev t) with
   | true=>cc C o (ev t) h (kdW C ap X f o (Ev C ap X all fl r G) t h)
   | false=>False) (fun t h=>Mq (Ev C ap X all fl r G) t o.dst uO [] h) t h
def Oh:List Oper->TP->TP
 | [],G,t,h=>G t h
 | o::r,G,t,h=>match sM o.op with
  | true=>match o.dst with
   | some d=>Oh r G (Of d t) (H8 d h)
   | none=>Oh r G (Of 0 t) (H8 0 h)
  | false=>Oh r G t h
def zO:List Oper->TP->TP
 | [],G,t,h=>G t h
 | o::r,G,t,h=>match Mp o with
  | true=>zO r G t h
  | false=>match o.dst with
   | none=>False
   | some d=>match t d with
    | .ow i=>match FM (h i) with
     | false=>zO r G t h
     | true=>match cG i d with
      | true=>zO r G t h
      | false=>zO r G (rnT i d t) (rnH i d h)
    | _=>zO r G t h
theorem BY(d:Nat)(b:AB):∀(e:List (Nat×AB)) (h:Nat->AB),app h (e++[(d,b)])=a8 (app h e) d b
 | [],h=>rfl
 | (i,x)::r,h=>BY d b r (a8 h i x)
section
variable {C:Ctx} {all:List Oper} {G:TP} {K:AS->Prop} {o:Oper} {t:Nat->AV} {h:Nat->AB} {ap:Bool} {X:List Nat} {f:Bool}
theorem TW(H:SG G K){v:AV}{e:List (Nat×AB)}{n:Option AB}(q:kdW C ap X f o G t h v e n):match vz o.op n o.dst with
  | false=>False
  | true=>match Nat.beq (cls C ap o.op) 3 with
   | true=>match jD h e&&(ap||l7 h e)&&S0 X f h e with
    | true=>K ⟨fE t o.dst v,sD (app h e) (o.dst.getD 0) n⟩
    | false=>False
   | false=>match e with
    | []=>K ⟨fE t o.dst v,sD h (o.dst.getD 0) n⟩
    | _=>False:=by
 unfold kdW at q;cases hn:vz o.op n o.dst with
 | false=>rw[hn]at q;exact q.elim
 | true=>
  rw[hn]at q;simp only at q ⊢;cases e with
  | nil=>
   have:K ⟨fE t o.dst v,sD h (o.dst.getD 0) n⟩:=by
    cases u:o.dst with
    | some d=>rw[u]at q;simp only[afc]at q;exact gJ H [] q
    | none=>rw[u]at q;exact gJ H [] q
   simp only[jD,l7,Mi,gF,qJ];split<;>exact this
  | cons p e=>
   simp only at q;cases h1:Nat.beq (cls C ap o.op) 3 with
   | false=>rw[h1]at q;exact q.elim
   | true=>
    rw[h1]at q;simp only[tG]at q ⊢;cases h2:jD h (p::e)&&(ap||l7 h (p::e))&&S0 X f h (p::e) with
    | false=>rw[h2]at q;exact q.elim
    | true=>
     rw[h2]at q;simp only at q ⊢;cases n with
     | none=>exact gJ H (p::e) q
     | some b=>
      cases u:o.dst with
      | some d=>
       rw[u]at q;simp only[afc]at q;have:=gJ H _ q;rw[BY]at this;exact this
      | none=>
       rw[u]at q;have:=gJ H _ q;rw[BY]at this;exact this
theorem BZ(H:SG G K) (q:match BL C ap X f o (ev t) with
   | true=>cc C o (ev t) h (kdW C ap X f o G t h)
   | false=>False):uZ C ap X f o K ⟨t,h⟩:=by
 unfold uZ;split at q
 ·rename_i hl;simp only[hl];exact ot (fun v e n hk=>by
   have:=TW H hk;unfold vz at this ⊢;cases n<;>cases e<;>exact this) q
 exact q.elim
theorem Ew(H:SG G K):∀(u:List Bool) (l:List Oper) {t:Nat->AV} {h:Nat->AB},Ev C ap X all u l G t h->rh C ap X all u l K ⟨t,h⟩
 | u,[],t,h,q=>by cases u<;>exact H _ _ q
 | [],_::_,_,_,q=>q.elim
 | f::u,o::r,t,h,q=>by
  have ih:SG (Ev C ap X all u r G) (rh C ap X all u r K):=fun _ _ q=>Ew H u r q;unfold Ev FO at q;unfold rh;split at q
  ·rename_i D;(try simp only[D]);exact BZ ih q
  rename_i g z D
  (try simp only[D])
  split at q
  ·exact q.elim
  rename_i og J
  (try simp only[J])
  split at q
  ·exact q.elim
  rename_i tg L
  (try simp only[L])
  split at q
  ·rename_i b I
   (try simp only[I])
   cases b<;>cases z<;>first | exact BZ ih q | exact gJ ih [] q
  ·rename_i xs I
   (try simp only[I])
   exact gJ ih [] q
  exact q.elim
theorem wF(H:SG G K):∀(l:List Oper) {t:Nat->AV} {h:Nat->AB},Oh l G t h->K (BQ l ⟨t,h⟩)
 | [],_,_,q=>H _ _ q
 | o::r,t,h,q=>by
  unfold Oh at q;unfold BQ;cases hm:sM o.op with
  | true=>
   rw[hm]at q;cases u:o.dst with
   | some d=>rw[u]at q;exact wF H r q
   | none=>rw[u]at q;exact wF H r q
  | false=>rw[hm]at q;exact wF H r q
theorem nS(H:SG G K):∀(l:List Oper) {t:Nat->AV} {h:Nat->AB},zO l G t h->K (Ep l ⟨t,h⟩)
 | [],_,_,q=>H _ _ q
 | o::r,t,h,q=>by
  unfold zO at q;show K (Ep r (BR o _));unfold BR;cases hm:Mp o with
  | true=>
   rw[hm]at q;have:∀x,o.op≠.assign x:=fun x u=>by rw[Mp,u]at hm;cases hm
   split
   ·rename_i x d u _;exact absurd u (this _)
   exact nS H r q
  | false=>
   rw[hm]at q;simp only at q;split at q
   ·exact q.elim
   rename_i d I;have z:∃x,o.op=.assign x:=by
    unfold Mp at hm;split at hm
    ·rename_i x u;exact⟨x,u⟩
    cases hm
   obtain⟨x,z⟩:=z;rw[z,I];simp only;split at q
   ·rename_i i D
    (try simp only[D])
    cases hb:h i<;>rw[hb]at q<;>simp only[FM]at q ⊢<;>first
     | exact nS H r q
     | (cases J:cG i d<;>rw[J]at q<;>exact nS H r q)
   rename_i L
   first
    | exact nS H r q
    | (
      split
      ·rename_i i D;exact absurd D (L i)
      exact nS H r q)
end
def KN:Code->Option Nat
 | .seq a _=>KN a
 | .region i _ _=>some i
 | .block _ c=>KN c
 | .cond _ x y=>match KN x with
  | some i=>some i
  | none=>KN y
 | .loop c=>KN c
 | _=>none
def Oi(k:Nat):List Nat->Bool
 | []=>false
 | i::r=>match cG i k with
  | true=>true
  | false=>Oi k r
def ZB(l:List Nat):Option Nat->Bool
 | some k=>Oi k l
 | none=>false
def Q2(f:TP)(K:Exit->TP):Exit->TP
 | .normal=>f
 | .exit i=>K (.exit i)
 | .ret=>K .ret
 | e=>K e
def TX(id:Nat)(K:Exit->TP):Exit->TP
 | .exit i=>fun t h=>match cG i id with
  | true=>K .normal t h
  | false=>K (.exit i) t h
 | .normal=>K .normal
 | .ret=>K .ret
 | e=>K e
structure Hint where
 M:List Nat
 B:List Nat
 X:List (Nat×List Nat)
 K:List Nat
 F:List (Nat×List Bool)
 S:List Nat
def TY{α:Type}(d:α)(k:Nat):List (Nat×α)->α
 | []=>d
 | (i,x)::r=>match cG i k with
  | true=>x
  | false=>TY d k r
def ZC:List Oper->List Bool
 | []=>[]
 | _::r=>true::ZC r
def ZD(Q:Hint)(id:Nat)(l:List Oper):List Bool:=TY (ZC l) id Q.F
def ou(Q:Hint)(C:Ctx):Code->Bool
 | .region id ops draw=>!draw||(decide ((ops.toList.any fun o=>lF C o.op)=Oi id Q.K)&&decide (kK C (Oi id Q.K) ops=ZD Q id ops.toList))
 | .seq a b=>ou Q C a&&ou Q C b
 | .cond _ a b=>ou Q C a&&ou Q C b
 | .block _ c=>ou Q C c
 | .loop c=>ou Q C c
 | _=>true
structure LW(Q:Hint)(A:rZ)(c:Code)(K:Exit->TP)(t:Nat->AV)(h:Nat->AB):Prop where
 out:ou Q A.C c=true->Dm A (.loop c) (fun e s=>K e s.t s.h) ⟨t,h⟩
structure SW(Q:Hint)(A:rZ)(a b:Code)(K:Exit->TP)(t:Nat->AV)(h:Nat->AB):Prop where
 out:ou Q A.C a=true->ou Q A.C b=true->Dm A (.seq a b) (fun e s=>K e s.t s.h) ⟨t,h⟩
structure BW(Q:Hint)(A:rZ)(c:Code)(id:Nat)(K:Exit->TP)(t:Nat->AV)(h:Nat->AB):Prop where
 out:ou Q A.C c=true->Dm A (.block id c) (fun e s=>K e s.t s.h) ⟨t,h⟩
def jZ(Q:Hint)(A:rZ):Code->(Exit->TP)->TP
 | .skip,K,t,h=>K .normal t h
 | .region id ops draw,K,t,h=>match draw with
  | false=>Og A.C ops.toList ops.toList (K .normal) t h
  | true=>Oh ops.toList (Ev A.C (Oi id Q.K) (TY [] id Q.X) ops.toList (ZD Q id ops.toList) ops.toList (zO ops.toList (K .normal))) t h
 | .seq a b,K,t,h=>match ZB Q.S (KN b),ZB Q.M (KN b) with
  | true,_=>SW Q A a b K t h
  | false,false=>jZ Q A a (Q2 (jZ Q A b K) K) t h
  | false,true=>jZ Q A a (Q2 (fun t h=>∃oN,aA A ⟨t,h⟩ oN/\jZ Q A b K oN.t oN.h) K) t h
 | .cond c a b,K,t,h=>match ev t c with
  | .p (.im (.bool x))=>@Bool.rec (fun _=>Prop) (jZ Q A b K t h) (jZ Q A a K t h) x
  | _=>False
 | .block id c,K,t,h=>match Oi id Q.B with
  | false=>jZ Q A c (TX id K) t h
  | true=>BW Q A c id K t h
 | .loop c,K,t,h=>LW Q A c K t h
 | .exit id,K,t,h=>K (.exit id) t h
 | .ret,K,t,h=>K .ret t h
 | _,_,_,_=>False
variable {Q:Hint} {A:rZ}
theorem qj:∀(c:Code) {G:Exit->TP} {K:Exit->AS->Prop} {t:Nat->AV} {h:Nat->AB},ou Q A.C c=true->(∀e,SG (G e) (K e))->jZ Q A c G t h->Dm A c K ⟨t,h⟩:=by
 intro c
 induction c with
 | skip=>intro G K t h u H q;exact H _ _ _ q
 | region id ops draw=>
  intro G K t h u H q;cases draw with
  | false=>exact H9 (H .normal) _ q
  | true=>
   simp only[ou,ir,ph,aJ,fV]at u;refine⟨TY [] id Q.X,?_⟩;rw[u.1,u.2];exact wF (fun _ _ q=>Ew (fun _ _ q=>nS (H .normal) _ q) _ _ q) _ q
 | seq a b z D=>
  intro G K t h u H q;simp only[ou,aJ]at u;unfold jZ at q;split at q
  ·exact sR (.seq a b) _ _ _ (fun e s q=>H e _ _ q) (q.out u.1 u.2)
  ·refine z u.1 (fun e t h q=>?_) q;cases e with
   | normal=>exact⟨_,aA.refl _ _,D u.2 H q⟩
   | _=>exact H _ _ _ q
  refine z u.1 (fun e t h q=>?_) q;cases e with
  | normal=>
   obtain⟨I,hl,q⟩:=q;exact⟨I,hl,D u.2 H q⟩
  | _=>exact H _ _ _ q
 | cond c a b z D=>
  intro G K t h u H q;simp only[ou,aJ]at u;unfold jZ at q;unfold Dm;split at q
  ·rename_i x J;simp only[J];cases x
   ·exact D u.2 H q
   exact z u.1 H q
  exact q.elim
 | block id c ih=>
  intro G K t h u H q;unfold jZ at q;split at q
  ·refine ih u (fun e t h q=>?_) q;cases e with
   | exit i=>
    show sd (cG i id) _ _;simp only[TX]at q;cases hb:cG i id<;>rw[hb]at q<;>exact H _ _ _ q
   | _=>exact H _ _ _ q
  exact sR (.block id c) _ _ _ (fun e s q=>H e _ _ q) (q.out u)
 | loop c ih=>intro G K t h u H q;exact sR (.loop c) _ _ _ (fun e s q=>H e _ _ q) (q.out u)
 | exit id=>intro G K t h u H q;exact H _ _ _ q
 | ret=>intro G K t h u H q;exact H _ _ _ q
 | rangeFunc=>intro G K t h u H q;exact q.elim
 | scope=>intro G K t h u H q;exact q.elim
 | label=>intro G K t h u H q;exact q.elim
 | goto=>intro G K t h u H q;exact q.elim
 | refuse=>intro G K t h u H q;exact q.elim
variable {α:Type}
theorem aP{c:Code}{K:Exit->TP}{t:Nat->AV}{h:Nat->AB}(R:α->Prop)(z:α->List (Nat×AV))(D:α->List (Nat×AB))(m:α->Nat)(x0:α)(s0:AS)(J:aA A ⟨t,h⟩ s0)(L:R x0)(N:oT (z x0) s0.t)(O:oT (D x0) s0.h)
  (u:∀x,R x->∀t h,jZ Q A c (Q2 (fun t h=>∃y I,aA A ⟨t,h⟩ I/\R y/\m y<m x/\oT (z y) I.t/\oT (D y) I.h) K) (ri (z x) t) (ri (D x) h)):LW Q A c K t h:=
 ⟨fun U=>TN R z D m x0 s0 J L N O fun x V t h=>qj c U (fun e t h q=>by cases e<;>exact q) (u x V t h)⟩
theorem Ak{c:Code}{id:Nat}{K:Exit->TP}{t:Nat->AV}{h:Nat->AB}(R:α->Prop)(u:α->List (Nat×AV))(z:α->List (Nat×AB))
  (D:∀y,R y->∀t h,K .normal (ri (u y) t) (ri (z y) h)) (I:jZ Q A c (TX id (Q2 (fun t h=>∃y,R y/\oT (u y) t/\oT (z y) h) K)) t h):BW Q A c id K t h:=
 ⟨fun J=>acA R u z D (qj c J (K:=Er id (qi (zN R u z) fun e s=>K e s.t s.h)) (fun e t h q=>by
  cases e with
  | exit i=>
   show sd (cG i id) _ _;simp only[TX]at q;cases hb:cG i id<;>rw[hb]at q<;>exact q
  | _=>exact q) I)⟩
theorem ZE{a b:Code}{K:Exit->TP}{t:Nat->AV}{h:Nat->AB}(R:α->Prop)(u:α->List (Nat×AV))(z:α->List (Nat×AB))
  (D:∀y,R y->∀t h,jZ Q A b K (ri (u y) t) (ri (z y) h)) (I:jZ Q A a (Q2 (fun t h=>∃y,R y/\oT (u y) t/\oT (z y) h) K) t h):SW Q A a b K t h:=
 ⟨fun J hb=>cut R u z (fun y L t h=>⟨_,aA.refl _ _,qj b hb (fun _ _ _ q=>q) (D y L t h)⟩) (qj a J (K:=qi (zN R u z) fun e s=>K e s.t s.h) (fun e t h q=>by cases e<;>exact q) I)⟩
theorem abA{G:TP}{t:Nat->AV}{h:Nat->AB}{u:AS}(hl:aA A ⟨t,h⟩ u)(q:G u.t u.h):∃z,aA A ⟨t,h⟩ z/\G z.t z.h:=⟨u,hl,q⟩
theorem W1{G:TP}{t:Nat->AV}{h:Nat->AB}(d:Nat){y:PV}{fz:List (Nat×AB)}(hC:bP A.C)(D:AM.iT h (t d) fun I u=>I=y/\u=fz)(q:G (a8 t d (.p y)) (app h fz)):∃z,aA A ⟨t,h⟩ z/\G z.t z.h:=⟨_,aA.iT hC ⟨t,h⟩ d D,q⟩
theorem zB:(∀(p:Prop) [Decidable p],(decide p=true)=p)/\(∀(p:Prop) [Decidable p],(decide p=false)=¬p)/\(∀(α:Type) [_root_.LE α] (a b:α),(a>=b)=(b<=a))/\(∀(α:Type) [_root_.LT α] (a b:α),(a>b)=(b<a))/\(∀b:Bool,((!b)=true)=(b=false))/\(∀b:Bool,((!b)=false)=(b=true)):=
 ⟨fun p _=>by simp,fun p _=>by simp,fun _ _ _ _=>rfl,fun _ _ _ _=>rfl,fun b=>by simp,fun b=>by simp⟩
class W2(b:Bool)(p q:outParam Prop):Prop where
 yes:b=true->p
 no:b=false->q
instance (priority:=10) acC {b:Bool}:W2 b (b=true) (b=false):=⟨id,id⟩
instance ae7{p:Prop}[Decidable p]:W2 (decide p) p (¬p):=⟨iY,of_decide_eq_false⟩
instance adU{α:Type}[_root_.LE α]{a b:α}[Decidable (a>=b)]:W2 (decide (a>=b)) (b<=a) (¬b<=a):=⟨iY,of_decide_eq_false⟩
instance adV{α:Type}[_root_.LT α]{a b:α}[Decidable (a>b)]:W2 (decide (a>b)) (b<a) (¬b<a):=⟨iY,of_decide_eq_false⟩
instance ae8{b:Bool}{p q:Prop}[i:W2 b p q]:W2 (!b) q p:=⟨fun h=>i.no (by simpa using h),fun h=>i.yes (by simpa using h)⟩
theorem Z{α:Sort _}{a:α}:a=a:=rfl
theorem Y:True:=trivial
theorem wO{p q:Prop}(h:p/\q):p/\q:=h
theorem iW{b:Bool}{P Q p q:Prop}[k:W2 b p q](f:p->P)(g:q->Q):@Bool.rec (fun _=>Prop) Q P b:=by
 cases b
 ·exact g (k.no rfl)
 exact f (k.yes rfl)
structure Oj where
 w0:World
 mv:Nat->Prop
 s0:Nat->Prop
 n:Nat
 pin:Nat->Value
def Ol (Q : Hint) (C : Ctx) (fn : Func) (c : Code) (k : Nat) : Bool := !(fn.name == "runtime.NumGoroutine") && (Nat.ble (k + (fn.ntmps - k)) 100000 && (mM C (k + (fn.ntmps - k)) c && ou Q C c))
variable {fn:Func} {args:List Arg} {fin:List Fin}
theorem fWG(Q:Hint){C:Ctx}(hC:bP C){f:FuncId}{c:Code}{r:AR}(N:C.P.funcs[f]?=some fn)(hb:fn.body=some c)(hk:Ol Q C fn c args.length=true)
  (K:Oj->Exit->TP) (O:∀p e t h,K p e t h->∃u,aA ⟨C,p.w0,p.mv,p.s0,p.n,p.pin⟩ ⟨t,h⟩ u/\Kn C fn.results.toList args r fin e u)
  (h:∀p:Oj,∃z,aA ⟨C,p.w0,p.mv,p.s0,p.n,p.pin⟩ ⟨wv args,pe args⟩ z/\jZ Q ⟨C,p.w0,p.mv,p.s0,p.n,p.pin⟩ c (K p) z.t z.h):ai C f args r fin:=by
 simp only[Ol,aJ,Fq,Nat.ble_eq]at hk;refine WG hC N hb hk.1 (by omega) fun A R D S rho a w I=>?_;obtain⟨_,w0,mv,s0,n,pin⟩:=A;subst R;obtain⟨z,hl,U⟩:=h ⟨w0,mv,s0,n,pin⟩;obtain⟨S',rho',V⟩:=hl S rho a w I;have:=N_ hC c (fun e s=>∃u,aA ⟨_,w0,mv,s0,n,pin⟩ s u/\Kn _ fn.results.toList args r fin e u) z (by show mM _ _ c=true;rw[D];exact hk.2.2.1) (qj c hk.2.2.2 (fun e t h q=>O _ e t h q) U) S' rho' a w V;refine wp_mono this fun e W w' Y=>?_;obtain⟨Z,WR,s3,fu,s4,J,hk⟩:=Y;obtain⟨S5,L,NN⟩:=J Z WR W w' fu;exact⟨S5,L,s4,NN,hk⟩
theorem ZF(Q:Hint){C:Ctx}(hC:bP C){f:FuncId}{c:Code}{r:AR}(D:C.P.funcs[f]?=some fn)(hb:fn.body=some c)(hk:Ol Q C fn c args.length=true)
  (h:∀p:Oj,∃u,aA ⟨C,p.w0,p.mv,p.s0,p.n,p.pin⟩ ⟨wv args,pe args⟩ u/\jZ Q ⟨C,p.w0,p.mv,p.s0,p.n,p.pin⟩ c (fun e t h=>∃z,aA ⟨C,p.w0,p.mv,p.s0,p.n,p.pin⟩ ⟨t,h⟩ z/\Kn C fn.results.toList args r fin e z) u.t u.h):ai C f args r fin:=
 fWG Q hC D hb hk _ (fun _ _ _ _ q=>q) h
theorem ZG(Q:Hint){C:Ctx}(hC:bP C){f:FuncId}{c:Code}{r:AR}(z:C.P.funcs[f]?=some fn)(hb:fn.body=some c)(hk:Ol Q C fn c args.length=true)
  (h:∀p:Oj,∃u,aA ⟨C,p.w0,p.mv,p.s0,p.n,p.pin⟩ ⟨wv args,pe args⟩ u/\jZ Q ⟨C,p.w0,p.mv,p.s0,p.n,p.pin⟩ c (fun e t h=>Kn C fn.results.toList args r fin e ⟨t,h⟩) u.t u.h):ai C f args r fin:=
 fWG Q hC z hb hk _ (fun _ _ _ _ q=>⟨_,aA.refl _ _,q⟩) h
theorem FP(Q:Hint){C:Ctx}(hC:bP C){f:FuncId}{c:Code}{r:AR}(u:C.P.funcs[f]?=some fn)(hb:fn.body=some c)(hk:Ol Q C fn c args.length=true)
  (h:∀p:Oj,jZ Q ⟨C,p.w0,p.mv,p.s0,p.n,p.pin⟩ c (fun e t h=>Kn C fn.results.toList args r fin e ⟨t,h⟩) (wv args) (pe args)):ai C f args r fin:=
 ZG Q hC u hb hk fun p=>⟨_,aA.refl _ _,h p⟩
theorem fW{C:Ctx}(hC:bP C){f:FuncId}{c:Code}{r:AR}(u:C.P.funcs[f]?=some fn)(hb:fn.body=some c)(hk:Ol ⟨[],[],[],[],[],[]⟩ C fn c args.length=true)
  (h:∀p:Oj,jZ ⟨[],[],[],[],[],[]⟩ ⟨C,p.w0,p.mv,p.s0,p.n,p.pin⟩ c (fun e t h=>Kn C fn.results.toList args r fin e ⟨t,h⟩) (wv args) (pe args)):ai C f args r fin:=FP _ hC u hb hk h
end Go.AM
namespace Go.AM
open Go.RowKit
def AW (C : Ctx) (f : FuncId) : Prop := ∃ fn : Func, C.P.funcs[f]? = some fn ∧ (fn.name == "runtime.NumGoroutine") = false ∧ fn.body.isNone = false
theorem AX{S:Nat->Prop}{w:World}{P:Program}{u:List Value}{vs:Array Value}(hl:(u.map fun a=>Arg.pv (.im a)).length=vs.size)(D:∀(j:Nat) x v,(u.map fun a=>Arg.pv (.im a))[j]?=some x->vs[j]?=some v->JP S w P x v):vs=u.toArray:=by
 apply E4;apply kz;intro i;by_cases hi:i<u.length
 ·have I:(u.map fun a=>Arg.pv (.im a))[i]?=some (.pv (.im u[i])):=by rw[aD,oX hi];rfl
  have z:i<vs.size:=by rw[<-hl];simpa using hi
  have J:=D i _ vs[i] I (cC z);have L:vs[i]=u[i]:=by
   have:aO S w (.im u[i]) vs[i]:=J;generalize vs[i]=v at this;cases this;rfl
  rw[kC,cC z,L];simp[hi]
 rw[iR (by simpa [<-hl] using hi)];rw[iR (by simpa using hi)]
theorem FQ{S:Nat->Prop}{w:World}{P:Program}:∀l:List Value,w9 S w P (l.map fun a=>Arg.pv (.im a)) [] l:=by
 intro l
 induction l with
 | nil=>trivial
 | cons a l ih=>exact ih
theorem wG{w:World}:∀(l:List Value) (i g:Nat),¬dA w (l.map fun a=>Arg.pv (.im a)) [] l i g:=by
 intro l
 induction l with
 | nil=>exact fun i g h=>h
 | cons a l ih=>
  intro i g h;cases i with
  | zero=>exact h
  | succ i=>exact ih i g h
theorem H_{w w':World}(l:List Value):v7 w w' (l.map fun a=>Arg.pv (.im a)) [] l.toArray:=⟨fun i g h=>(wG l i g h).elim,fun i j g h=>(wG l i g h).elim⟩
theorem tO{C:Ctx}{f:FuncId}(z:List Value)(r:Value)(D:AW C f)(h:∀S w,C.E S w->(∀b,S b->b<w.heap.size)->Calls C.P f z.toArray w fun e w'=>e=.returned r/\Below w.heap.size w w'):
  ai C f (z.map fun a=>.pv (.im a)) (.p (.im r)) []:=by
 refine⟨D,fun S w vs I hS hl J _=>?_⟩;have L:=AX hl J;subst L;exact (h S w I hS).mono fun e w' ⟨N,hb⟩=>⟨r,S,N,⟨hb.os,hb.tape,hb.output,hb.size,fun k hk _=>hb.block k hk⟩,fun _ h=>h,fun b u=>cB (hS b u) hb.size,fun b u=>.inl u,.im r,FQ z,H_ z,fun g h=>by cases h⟩
theorem Ia{C:Ctx}(hC:bP C){f:FuncId}(J:List Value)(e:TypeId)(xs:List Value)(N:TI)(V:C.T e=some N)(u:N.size=1)(W:∀v∈xs,v.oneCell'=true)(hlen:xs.length<=maxLen)(Y:AW C f)
  (h:∀S w,C.E S w->(∀b,S b->b<w.heap.size)->Calls C.P f J.toArray w fun e' w'=>e'=.returned (.slice (some ⟨w.heap.size,0,none⟩) xs.length xs.length)/\w'=w.alloc (.cells xs.toArray e)):
  ai C f (J.map fun a=>.pv (.im a)) (.own e (xs.map fun v=>[.im v])) []:=by
 refine⟨Y,fun S w vs Z hS hl O _=>?_⟩;have PY:=AX hl O;subst PY;obtain⟨info,z,h1,L,_⟩:=hC.jw e N V;refine (h S w Z hS).mono fun e' w' ⟨he,hw⟩=>?_;subst hw;have Ec:(w.alloc (.cells xs.toArray e)).heap[w.heap.size]?=some (.cells xs.toArray e (0,0)):=by unfold World.alloc;exact Array.getElem?_push_size
 have afa:(w.alloc (.cells xs.toArray e)).heap.size=w.heap.size+1:=Array.size_push ..;have hb:Below w.heap.size w (w.alloc (.cells xs.toArray e)):=(Mt _ _).alloc (aG _) _;refine⟨_,S,he,⟨hb.os,hb.tape,hb.output,hb.size,fun k hk _=>hb.block k hk⟩,fun _ h=>h,fun b I=>cB (hS b I) hb.size,fun b I=>.inl I,⟨⟨info,xs,h1,by omega,⟨?_,.inr ⟨w.heap.size,xs.length,xs.toArray,?_,ak _,Ec,?_,hlen,?_,?_⟩⟩,?_,W,?_⟩,?_⟩,FQ J,H_ J,?_⟩
 ·simp[L,u]
 ·simp
 ·simp
 ·simp[L,u]
 ·simp[L,u]
 ·intro r O;obtain⟨v,_,rfl⟩:=aZ.1 O;simp[L,u]
 ·intro a r j x U R;rw[aD]at U;obtain⟨v,hv,rfl⟩:=qI.1 U;cases j with
  | zero=>
   simp at R;subst R;exact⟨v,by rw[L,u,jQ,tz];exact hv,.im v⟩
  | succ j=>simp at R
 ·intro g D hs;injection D with D;have D:w.heap.size=g:=D;have:=hS g hs;omega
 intro g _ D;have D:=aI rfl D;injection D with D;have D:w.heap.size=g:=D;exact⟨by omega,.inl (by omega),fun i=>wG J i g⟩
end Go.AM
