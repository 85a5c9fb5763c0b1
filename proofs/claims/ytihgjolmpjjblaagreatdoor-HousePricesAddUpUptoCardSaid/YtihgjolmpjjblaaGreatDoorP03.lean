/- Part 3 of the proof of HousePricesAddUp. -/
import Derived.Test.YtihgjolmpjjblaaGreatDoorP02
import Derived.WideKeyRuns
set_option linter.unusedVariables false
set_option linter.unusedSimpArgs false
set_option maxRecDepth 100000
set_option maxHeartbeats 8000000
namespace Go
abbrev gF:=@Bool.or_eq_true
abbrev iq:=@Bool.false_or
abbrev gG:=@List.mem_range
abbrev lY:=@Bool.not_true
abbrev ee:=@List.any_eq_true
abbrev lZ:=@List.map_congr_left
abbrev ph:=@Bool.or_false
abbrev wx:=@Classical.byContradiction
abbrev ir:=@List.mem_append_left
abbrev wy:=@List.mem_filterMap
abbrev qY:=@List.mem_append_right
abbrev wz:=@List.filter_cons
abbrev qZ:=@List.mem_filter
abbrev q_:=@List.flatMap_cons
abbrev bB:=@List.map_append
abbrev tJ:=@List.mem_flatMap
abbrev kJ:=@List.length_filter_le
abbrev AP:=@Bool.false_eq_true
abbrev l5:=@of_decide_eq_true
abbrev l6:=@Array.size_push
end Go
namespace Go.AM
open Go.RowKit
def isApp:Op->Bool
 | .call c=>match c.callee with
  | .builtin .append=>true
  | _=>false
 | _=>false
def Qw(m:Nat->Bool):Nat->Bool
 | 0=>false
 | n+1=>m n||Qw m n
def lF(C:Ctx)(o:Op):Bool:=isApp o||match o with
 | .call c=>match c.callee with
  | .value (.func f)=>Qw (C.md f) 8||C.bl f
  | .value (.tmp _)=>true
  | _=>false
 | _=>false
def cls(C:Ctx)(ap:Bool):Op->Nat
 | .move _=>0
 | .assign _=>0
 | .pick _ _ _=>0
 | .binOp _ _ _ _ _=>0
 | .unOp _ _ _=>0
 | .convert _ _ _=>0
 | .extract _ _=>0
 | .index _ _ _=>0
 | .field _ _ _=>0
 | .makeFunc _ _ _=>0
 | .fieldAddr _ _ _=>match ap with
  | true=>2
  | false=>1
 | .nilCheck _=>match ap with
  | true=>2
  | false=>1
 | .store _ _ _=>3
 | .mapUpdate _ _ _ _=>3
 | .call c=>match c.callee with
  | .builtin .append=>3
  | .builtin .clear=>3
  | .builtin .min=>0
  | .builtin .max=>0
  | .value (.func f)=>match Qw (C.md f) 8||C.bl f with
   | true=>3
   | false=>2
  | .value (.tmp _)=>3
  | _=>2
 | _=>2
def Qx:AB->AB->Bool
 | .row e _,.row e' _=>cG e e'
 | .box _,.box _=>true
 | .map _ _,.map _ _=>true
 | _,_=>false
def Qy:AB->Bool
 | .none=>false
 | _=>true
def jD(h:Nat->AB):List (Nat×AB)->Bool
 | []=>true
 | (i,_)::r=>Qy (h i)&&jD h r
def l7(h:Nat->AB):List (Nat×AB)->Bool
 | []=>true
 | (i,b)::r=>Qx (h i) b&&l7 h r
def vz(op:Op):Option AB->Option Tmp->Bool
 | none,_=>true
 | some _,some _=>sM op
 | some _,none=>false
def yG:AV->Bool
 | .p _=>true
 | _=>false
def yH(o:Oper)(rho:Operand->AV):Bool:=match o.op with
 | .load _ a=>yG (rho a)
 | .indexAddr _ x _=>yG (rho x)
 | .slice _ x _ _ none=>yG (rho x)
 | .build _ ps=>ps.toList.all fun p=>yG (rho p.2)
 | .call c=>match c.callee,c.args.toList with
  | .builtin .len,[x]=>yG (rho x)
  | _,_=>false
 | .fieldAddr _ x _=>yG (rho x)
 | .nilCheck x=>yG (rho x)
 | _=>false
def DA:List Nat->Nat->Bool
 | [],_=>false
 | i::r,k=>match cG i k with
  | true=>true
  | false=>DA r k
def Zd(X:List Nat):AV->Bool
 | .ow id=>DA X id
 | .rp id _ _=>DA X id
 | .bx id _=>DA X id
 | _=>false
def sN(X:List Nat)(o:Oper)(rho:Operand->AV):Bool:=match o.op with
 | .load _ a=>Zd X (rho a)
 | .indexAddr _ x _=>Zd X (rho x)
 | .lookup _ x _ _=>Zd X (rho x)
 | .call c=>match c.callee,c.args.toList with
  | .builtin .len,[x]=>Zd X (rho x)
  | _,_=>false
 | _=>false
def yI(X:List Nat)(o:Oper)(rho:Operand->AV):Bool:=match o.op with
 | .makeSlice _ _ _=>DA X (o.dst.getD 0)
 | .buildSlice _ _ ps=>DA X (o.dst.getD 0)&&ps.toList.all fun p=>yG (rho p.2)
 | _=>false
def sO(X:List Nat)(o:Oper)(rho:Operand->AV):Bool:=sN X o rho||yI X o rho
def Yl(X:List Nat):List (Nat×AB)->Bool
 | []=>true
 | (i,_)::r=>match DA X i with
  | true=>false
  | false=>Yl X r
def kc:AB->Nat
 | .box _=>1
 | .nd _=>1
 | .row _ _=>2
 | .aw _ _=>2
 | _=>0
def wA(X:List Nat)(h:Nat->AB):List (Nat×AB)->Bool
 | []=>true
 | (i,b)::r=>match DA X (i+1000000) with
  | true=>Nat.beq (kc b) (kc (h i))&&(!Nat.beq (kc (h i)) 0&&wA X h r)
  | false=>wA X h r
def S0(X:List Nat)(f:Bool)(h:Nat->AB)(e:List (Nat×AB)):Bool:=(f||Yl X e)&&wA X h e
theorem Mi(X:List Nat)(f:Bool)(h:Nat->AB):S0 X f h []=true:=by simp[S0,Yl,wA]
def thV(X:List Nat):AV->Bool
 | .bx id _=>DA X (id+1000000)
 | .rp id _ _=>DA X (id+1000000)
 | _=>false
def yJ(X:List Nat)(o:Oper)(rho:Operand->AV):Bool:=match o.op with
 | .fieldAddr _ x _=>thV X (rho x)
 | .nilCheck x=>thV X (rho x)
 | _=>false
def BL(C:Ctx)(ap:Bool)(X:List Nat)(f:Bool)(o:Oper)(rho:Operand->AV):Bool:=f||yH o rho||sO X o rho||yJ X o rho||Nat.beq (cls C ap o.op) 3
def Qz(C:Ctx)(ap:Bool)(X:List Nat)(f:Bool)(o:Oper)(K:AS->Prop)(s:AS):Prop:=
 cc C o (ev s.t) s.h fun v eff new=>match vz o.op new o.dst with
  | false=>False
  | true=>match Nat.beq (cls C ap o.op) 3 with
   | true=>match jD s.h eff&&(ap||l7 s.h eff)&&S0 X f s.h eff with
    | true=>K ⟨fE s.t o.dst v,sD (app s.h eff) (o.dst.getD 0) new⟩
    | false=>False
   | false=>match eff with
    | []=>K ⟨fE s.t o.dst v,sD s.h (o.dst.getD 0) new⟩
    | _=>False
def uZ(C:Ctx)(ap:Bool)(X:List Nat)(f:Bool)(o:Oper)(K:AS->Prop)(s:AS):Prop:=match BL C ap X f o (ev s.t) with
 | true=>Qz C ap X f o K s
 | false=>False
def rh(C:Ctx)(ap:Bool)(X:List Nat)(all:List Oper):List Bool->List Oper->(AS->Prop)->AS->Prop
 | _,[],K,s=>K s
 | [],_::_,_,_=>False
 | f::fl,o::r,K,s=>match o.guard with
  | none=>uZ C ap X f o (rh C ap X all fl r K) s
  | some (g,want)=>match all[g]? with
   | none=>False
   | some og=>match og.dst with
    | none=>False
    | some tg=>match s.t tg with
     | .p (.im (.bool b))=>sd b
       (match want with
        | true=>uZ C ap X f o (rh C ap X all fl r K) ⟨bd s.t tg (kH true),s.h⟩
        | false=>rh C ap X all fl r K ⟨fE (bd s.t tg (kH true)) o.dst uO,s.h⟩)
       (match want with
        | false=>uZ C ap X f o (rh C ap X all fl r K) ⟨bd s.t tg (kH false),s.h⟩
        | true=>rh C ap X all fl r K ⟨fE (bd s.t tg (kH false)) o.dst uO,s.h⟩)
     | .p (.im (.tuple _))=>rh C ap X all fl r K ⟨fE s.t o.dst uO,s.h⟩
     | _=>False
structure RR where
 run:Bool
 v:AV
 eff:List (Nat×AB)
 new:Option AB
structure DStep(C:Ctx)(ap:Bool)(all:List Oper)(o:Oper)(s:AS)(r:RR)(s':AS):Prop where
 guard:match o.guard with
  | none=>r.run=true
  | some (g,want)=>∃og tg b,all[g]?=some og/\og.dst=some tg/\s.t tg=.p (.im b)/\r.run=Y7 b want
 ran:r.run=true->cc C o (ev s.t) s.h fun v e n=>v=r.v/\e=r.eff/\n=r.new
 not:r.run=false->r.v=uO/\r.eff=[]/\r.new=none
 next:s'=⟨fE s.t o.dst r.v,sD (app s.h r.eff) (o.dst.getD 0) r.new⟩
 there:jD s.h r.eff=true
 kind:ap=false->l7 s.h r.eff=true
 quiet:cls C ap o.op≠3->r.eff=[]
 ndst:vz o.op r.new o.dst=true
variable {ap:Bool}
theorem N5{C:Ctx}{f:Bool}{X:List Nat}{o:Oper}{K:AS->Prop}{s:AS}(h:Qz C ap X f o K s):∃v eff new,(cc C o (ev s.t) s.h fun J e' N=>J=v/\e'=eff/\N=new)/\jD s.h eff=true/\(ap=false->l7 s.h eff=true)/\(cls C ap o.op≠3->eff=[])/\vz o.op new o.dst=true/\S0 X f s.h eff=true/\K ⟨fE s.t o.dst v,sD (app s.h eff) (o.dst.getD 0) new⟩:=by
 obtain⟨v,eff,new,z,O⟩:=tH (fun _=>.inr rfl) h;refine⟨v,eff,new,O _ ⟨rfl,rfl,rfl⟩,?_⟩;split at z
 ·exact z.elim
 rename_i I;split at z
 ·rename_i D;have D:cls C ap o.op=3:=cY D;split at z
  ·rename_i hk;have R:S0 X f s.h eff=true:=(aJ _ _▸hk).2;simp only[aJ,gF]at hk;exact⟨hk.1.1,fun e=>hk.1.2.resolve_left (by rw[e];decide),fun h=>absurd D h,I,R,z⟩
  exact z.elim
 split at z
 ·exact⟨rfl,fun _=>rfl,fun _=>rfl,I,Mi _ _ _,z⟩
 exact z.elim
def BM(C:Ctx)(ap:Bool)(X:List Nat)(fl:List Bool)(o:Oper)(s:AS)(r:RR)(i:Nat):Prop:=r.run=true->(fl[i]?=some true\/yH o (ev s.t)=true\/sO X o (ev s.t)=true\/yJ X o (ev s.t)=true\/cls C ap o.op=3)/\(fl[i]?=some true\/Yl X r.eff=true)/\wA X s.h r.eff=true
theorem QA{C:Ctx}{X:List Nat}{all:List Oper}{K:AS->Prop}:∀(l:List Oper) (D:List Bool) (s:AS),rh C ap X all D l K s->∃(st:Nat->AS) (r:Nat->RR),st 0=s/\K (st l.length)/\∀(i:Nat) o,l[i]?=some o->DStep C ap all o (st i) (r i) (st (i+1))/\BM C ap X D o (st i) (r i) i:=by
 intro l
 induction l with
 | nil=>intro D s h;exact⟨fun _=>s,fun _=>⟨false,.junk,[],none⟩,rfl,by cases D<;>exact h,by simp⟩
 | cons o l ih=>
  intro D s h;cases D with
  | nil=>exact h.elim
  | cons f D=>
  have ext:∀(r:RR) (V:AS),DStep C ap all o s r V->(r.run=true->BL C ap X f o (ev s.t)=true/\S0 X f s.h r.eff=true)->rh C ap X all D l K V->∃(st:Nat->AS) (r:Nat->RR),st 0=s/\K (st (o::l).length)/\∀(i:Nat) o',(o::l)[i]?=some o'->DStep C ap all o' (st i) (r i) (st (i+1))/\BM C ap X (f::D) o' (st i) (r i) i:=by
   intro r0 V hd hf hk;obtain⟨st,r,h1,h2,h3⟩:=ih D V hk;refine⟨fun i=>match i with | 0=>s | i+1=>st i,fun i=>match i with | 0=>r0 | i+1=>r i,rfl,h2,fun i o' hi=>?_⟩;cases i with
   | zero=>
    simp at hi;subst hi;refine⟨?_,fun hr=>?_⟩
    ·show DStep C ap all o s r0 (st 0);rw[h1];exact hd
    obtain⟨W,R⟩:=hf hr;simp only[S0,aJ]at R;obtain⟨R,q3⟩:=R;exact⟨by cases f with
     | true=>exact .inl rfl
     | false=>simp only[BL,iq,gF]at W;exact .inr (by rcases W with ((h | h) | h) | h;exact .inl h;exact .inr (.inl h);exact .inr (.inr (.inl h));exact .inr (.inr (.inr (cY h)))),by cases f with
     | true=>exact .inl rfl
     | false=>exact .inr R,q3⟩
   | succ i=>
    obtain⟨W,R⟩:=h3 i o' (by simpa using hi);exact⟨W,fun hr=>R hr⟩
  have I:(match o.guard with
    | none=>true=true
    | some (g,z)=>∃O J b,all[g]?=some O/\O.dst=some J/\s.t J=.p (.im b)/\true=Y7 b z)->uZ C ap X f o (rh C ap X all D l K) s->∃(st:Nat->AS) (r:Nat->RR),st 0=s/\K (st (o::l).length)/\∀(i:Nat) o',(o::l)[i]?=some o'->DStep C ap all o' (st i) (r i) (st (i+1))/\BM C ap X (f::D) o' (st i) (r i) i:=by
   intro N U;unfold uZ at U;split at U
   case h_2=>exact U.elim
   rename_i hf;obtain⟨v,eff,new,k1,k2,k3,k4,k6,k7,k5⟩:=N5 U;exact ext ⟨true,v,eff,new⟩ _ ⟨N,fun _=>k1,(fun h=>by cases h),rfl,k2,k3,k4,k6⟩ (fun _=>⟨hf,k7⟩) k5
  unfold rh at h;split at h
  ·rename_i N;exact I (by rw[N]) h
  rename_i g z N;split at h
  ·exact h.elim
  rename_i O Y;split at h
  ·exact h.elim
  rename_i J Z;split at h
  ·rename_i b hb;have wu:∀b',b=b'->bd s.t J (kH b')=s.t:=fun b' e=>kD _ _ _ (by rw[hb,e];rfl);have Vu:rh C ap X all D l K ⟨fE s.t o.dst uO,s.h⟩->(false=(b==z))->∃(st:Nat->AS) (r:Nat->RR),st 0=s/\K (st (o::l).length)/\∀(i:Nat) o',(o::l)[i]?=some o'->DStep C ap all o' (st i) (r i) (st (i+1))/\BM C ap X (f::D) o' (st i) (r i) i:=fun U he=>
    ext ⟨false,uO,[],none⟩ _ ⟨by rw[N];exact⟨O,J,.bool b,Y,Z,hb,by rw[he];cases b<;>cases z<;>rfl⟩,fun h=>(by cases h),fun _=>⟨rfl,rfl,rfl⟩,rfl,rfl,fun _=>rfl,fun _=>rfl,rfl⟩ (fun h=>by cases h) U
   cases b<;>cases z<;>simp only[sd]at h
   ·rw[wu false rfl]at h;exact I (by rw[N];exact⟨O,J,.bool false,Y,Z,hb,rfl⟩) h
   ·rw[wu false rfl]at h;exact Vu h rfl
   ·rw[wu true rfl]at h;exact Vu h rfl
   rw[wu true rfl]at h;exact I (by rw[N];exact⟨O,J,.bool true,Y,Z,hb,rfl⟩) h
  ·rename_i q hb;exact ext ⟨false,uO,[],none⟩ _ ⟨by rw[N];exact⟨O,J,.tuple q,Y,Z,hb,by cases z<;>rfl⟩,fun h=>(by cases h),fun _=>⟨rfl,rfl,rfl⟩,rfl,rfl,fun _=>rfl,fun _=>rfl,rfl⟩ (fun h=>by cases h) h
  exact h.elim
variable {rho:Operand->AV} {h':Nat->AB}
theorem WH{C:Ctx}{o:Oper}{h:Nat->AB}{K:KK}(z:cls C ap o.op=0)(D:cc C o rho h K):cc C o rho h' K:=by
 cases I:o.op<;>rw[I]at z<;>try (simp only[cc,I]at D ⊢;exact D)
 all_goals try (cases z;done)
 case makeFunc fn first cap=>
  cases fn with
  | func f=>simp only[cc,I]at D ⊢;exact D
  | _=>simp only[cc,I]at D
 case fieldAddr=>cases ap<;>cases z
 case nilCheck=>cases ap<;>cases z
 case call c=>
  simp only[cc,I]at D ⊢;simp only[cls]at z;split at z
  ·cases z
  ·cases z
  ·rename_i J;simp only[J,fc,fZ]at D ⊢;exact D
  ·rename_i J;simp only[J,fc,fZ]at D ⊢;exact D
  ·split at z<;>cases z
  ·cases z
  cases z
theorem WI{C:Ctx}{o:Oper}{h:Nat->AB}{K:KK}(J:cls C ap o.op=1)(N:∀id,(h id).there->((h' id).there/\(∀e es,h id=.row e es->∃O,h' id=.row e O)/\(∀cs,h id=.box cs->∃R,h' id=.box R)/\(∀cs,h id=.nd cs->∃R,h' id=.nd R)/\(∀e es,h id=.aw e es->∃O,h' id=.aw e O)))(z:cc C o rho h K):cc C o rho h' K:=by
 cases U:o.op<;>rw[U]at J<;>try (cases J;done)
 case call c=>
  exfalso;simp only[cls]at J;split at J<;>first | cases J | (split at J<;>cases J)
 case fieldAddr t x f=>
  simp only[cc,U]at z ⊢;split at z
  ·split at z
   ·split at z
    ·exact z
    ·rename_i id o' V;split at z
     ·exact z.elim
     rename_i W;have Y:(h id).there:=by cases h1:h id<;>first | trivial | exact absurd h1 (by simpa using W)
     have:=(N id Y).1;split
     ·rename_i I;rw[I]at this;exact this.elim
     exact z
    ·rename_i id i o' V;split at z
     ·rename_i e es D;obtain⟨O,I⟩:=(N id (by rw[D];trivial)).2.1 e es D;simp only[I];exact z
     ·rename_i e es D;obtain⟨O,I⟩:=(N id (by rw[D];trivial)).2.2.2.2 e es D;simp only[I];exact z
     exact z.elim
    exact z
   exact z
  exact z
 case nilCheck x=>
  simp only[cc,U]at z ⊢;split at z
  ·exact z
  ·rename_i id off V;split at z
   ·rename_i cs D;obtain⟨R,I⟩:=(N id (by rw[D];trivial)).2.2.1 cs D;simp only[I];exact z
   ·rename_i cs D;obtain⟨R,I⟩:=(N id (by rw[D];trivial)).2.2.2.1 cs D;simp only[I];exact z
   exact z.elim
  ·rename_i id i off V;split at z
   ·rename_i e es D;obtain⟨O,I⟩:=(N id (by rw[D];trivial)).2.1 e es D;simp only[I];exact z
   ·rename_i e es D;obtain⟨O,I⟩:=(N id (by rw[D];trivial)).2.2.2.2 e es D;simp only[I];exact z
   exact z.elim
  exact z
def yK(ops:Array Oper)(o:Oper)(d:Tmp):Bool:=(o.looksAt ops).contains d
def Kr(C:Ctx)(ap:Bool)(ops:Array Oper)(b:Array Nat)(i j:Nat)(oi oj:Oper):Bool:=
 (match oi.dst,oj.dst with
  | some x,some y=>!cG x y
  | _,_=>true) &&
 (match oj.dst with
  | some d=>!yK ops oi d||(b.getD j 0).testBit i
  | none=>true) &&
 (match oi.dst with
  | some d=>!yK ops oj d||(b.getD j 0).testBit i
  | none=>true) &&
 (if cls C ap oj.op=3 then (if cls C ap oi.op=3 then (b.getD j 0).testBit i else true) else true)
def Ze(ops:Array Oper)(b:Array Nat)(C:Ctx)(ap:Bool)(c i:Nat):Bool:=(List.range ops.size).all fun k=>match ops[k]? with
  | none=>true
  | some ok=>!cG (cls C ap ok.op) c||(if k<i then (b.getD i 0).testBit k else if i<k then (b.getD k 0).testBit i else true)
def TF:Op->Bool
 | .fieldAddr _ _ _=>true
 | .nilCheck _=>true
 | _=>false
def ab9(ops:Array Oper)(b:Array Nat)(C:Ctx)(ap:Bool)(i:Nat):Bool:=(List.range ops.size).all fun k=>match ops[k]? with
  | none=>true
  | some ok=>(TF ok.op||!cG (cls C ap ok.op) 2)||(if k<i then (b.getD i 0).testBit k else if i<k then (b.getD k 0).testBit i else true)
def Fy(C:Ctx)(ap:Bool)(ops:Array Oper)(b:Array Nat)(i:Nat)(oi:Oper):Bool:=
 match cls C ap oi.op with
 | 2=>Ze ops b C ap 3 i
 | 3=>ab9 ops b C ap i
 | _=>true
def kK(C:Ctx)(ap:Bool)(ops:Array Oper):List Bool:=
 let b:=Region.before ops
 (List.range ops.size).map fun i=>match ops[i]? with
  | some oi=>Fy C ap ops b i oi
  | none=>true
variable {ops:Array Oper} {oi:Oper}
theorem QB{C:Ctx}{i:Nat}{c:Nat}(hi:ops[i]?=some oi)(h:Ze ops (Region.before ops) C ap c i=true):
  ∀(k:Nat) ok,ops[k]?=some ok->cls C ap ok.op=c->(k<i->((Region.before ops).getD i 0).testBit k=true)/\(i<k->((Region.before ops).getD k 0).testBit i=true):=by
 intro k ok hk z;have nQ:=(cL.1 hi).1;have J:=(cL.1 hk).1;have D:=dY.1 h k (gG.2 J);simp only[hk,bz.2 z,lY,iq]at D;refine⟨fun I=>?_,fun I=>?_⟩
 ·rwa [ae I]at D
 rwa [aa (by omega),ae I]at D
theorem HT{C:Ctx}{i:Nat}(hi:ops[i]?=some oi)(h:(kK C ap ops)[i]?=some true):Fy C ap ops (Region.before ops) i oi=true:=by
 have z:=(cL.1 hi).1;simpa only[kK,aD,fX z,fB,hi,Option.some.injEq] using h
theorem yL{C:Ctx}{i:Nat}(hi:ops[i]?=some oi)(h:(kK C ap ops)[i]?=some true)(D:cls C ap oi.op=2):
  ∀(k:Nat) ok,ops[k]?=some ok->cls C ap ok.op=3->(k<i->((Region.before ops).getD i 0).testBit k=true)/\(i<k->((Region.before ops).getD k 0).testBit i=true):=by
 have z:=HT hi h;simp only[Fy,D]at z;exact QB hi z
theorem BN{C:Ctx}{i:Nat}(hi:ops[i]?=some oi)(h:(kK C ap ops)[i]?=some true)(N:cls C ap oi.op=3):
  ∀(k:Nat) ok,ops[k]?=some ok->cls C ap ok.op=2->TF ok.op=false->(k<i->((Region.before ops).getD i 0).testBit k=true)/\(i<k->((Region.before ops).getD k 0).testBit i=true):=by
 have z:=HT hi h;simp only[Fy,N]at z;intro k ok hk D I;have nQ:=(cL.1 hi).1;have O:=(cL.1 hk).1;have z:=dY.1 z k (gG.2 O);simp only[hk,I,bz.2 D,lY,iq]at z;refine⟨fun J=>?_,fun J=>?_⟩
 ·rwa [ae J]at z
 rwa [aa (by omega),ae J]at z
theorem Mj{X:List Nat}{o:Oper}(h:sO X o rho=true):TF o.op=false:=by
 unfold sO sN yI at h;cases e:o.op<;>rw[e]at h<;>first | rfl | cases h
theorem HU{X:List Nat}:∀{eff:List (Nat×AB)},Yl X eff=true->∀p∈eff,DA X p.1=false:=by
 intro eff
 induction eff with
 | nil=>intro _ p hp;cases hp
 | cons x r ih=>
  intro h p hp;unfold Yl at h;split at h
  ·cases h
  rename_i z;rcases aq.1 hp with e | e
  ·rw[e];exact z
  exact ih h p e
theorem fH{a:AV}(h:yG a=true):∃x,a=.p x:=by cases a<;>first | exact⟨_,rfl⟩ | cases h
variable {fs:List (Nat×Nat×Bool)}
theorem QC{h:Nat->AB}:∀(ps:List (Nat×Operand)) (cs:List PV) (K:List PV->List (Nat×AB)->Prop),(ps.all fun p=>yG (rho p.2))=true->lA h fs rho ps cs K->lA h' fs rho ps cs K:=by
 intro ps
 induction ps with
 | nil=>intro cs K _ z;exact z
 | cons p ps ih=>
  intro cs K hp z;obtain⟨i,x⟩:=p;simp only[vZ,aJ]at hp;obtain⟨y,D⟩:=fH hp.1;simp only[lA]at z ⊢;split at z
  ·rw[D]at z ⊢;simp only[iT,nZ]at z ⊢;revert z;cases vn y with
   | none=>exact id
   | some ys=>
    simp only;cases Dk ys.length _&&LP _ cs.length with
    | false=>exact id
    | true=>intro z;exact ih _ _ hp.2 z
  exact z.elim
theorem QD{h:Nat->AB}:∀(ps:List (Nat×Operand)) (cs:List AV) (K:List AV->Prop),(ps.all fun p=>yG (rho p.2))=true->mU h fs rho ps cs K->mU h' fs rho ps cs K:=by
 intro ps
 induction ps with
 | nil=>intro cs K _ z;exact z
 | cons p ps ih=>
  intro cs K hp z;obtain⟨i,x⟩:=p;simp only[vZ,aJ]at hp;obtain⟨y,D⟩:=fH hp.1;unfold mU at z ⊢;split at z
  ·rename_i I;split at z
   ·rename_i J;have e:yu h' (rho x)=yu h (rho x):=by rw[D];cases y<;>rfl
    simp only[I,e,J];exact ih _ _ hp.2 z
   exact z.elim
  exact z.elim
theorem Ks{h:Nat->AB}{Q:Prop}:∀(ps:List (Nat×Operand)) (cs:List PV) (K:List PV->List (Nat×AB)->Prop),(∀a b,K a b->Q)->lA h fs rho ps cs K->Q:=by
 intro ps
 induction ps with
 | nil=>intro cs K hk z;exact hk _ _ z
 | cons p ps ih=>
  intro cs K hk z;obtain⟨i,x⟩:=p;simp only[lA]at z;split at z
  ·obtain⟨y,fz,D,_⟩:=jB (fun _=>.inr rfl) z;split at D
   ·split at D
    ·exact ih _ _ (fun a b h=>hk _ _ h) D
    exact D.elim
   exact D.elim
  exact z.elim
theorem WJ{C:Ctx}{o:Oper}{h:Nat->AB}{K:KK}(hp:yH o rho=true)(z:cc C o rho h K):cc C o rho h' K:=by
 unfold yH at hp;split at hp
 ·rename_i t a D;obtain⟨x,I⟩:=fH hp;simp only[cc,D]at z ⊢;rw[I]at z ⊢;cases x<;>exact z
 ·rename_i t x ix D;obtain⟨y,I⟩:=fH hp;simp only[cc,D]at z ⊢;rw[I]at z ⊢;cases y<;>exact z
 ·rename_i t x lo hi D;obtain⟨y,I⟩:=fH hp;simp only[cc,D]at z ⊢;rw[I]at z ⊢;have z:g_ C rho h t x lo hi K:=z;show g_ C rho h' t x lo hi K;simp only[g_]at z ⊢;rw[I]at z ⊢;exact z
 ·rename_i t ps D;simp only[cc,D]at z ⊢;split at z
  ·split at z
   ·exact QC _ _ _ hp z
   exact QD _ _ _ hp z
  exact z.elim
 ·rename_i c D;split at hp
  ·rename_i x O N;obtain⟨y,I⟩:=fH hp;simp only[cc,D,O,N,fc,fZ]at z ⊢;split at z
   ·rename_i J R;simp only[N,R]at *;injection J with J _;subst J;rw[I]at z ⊢;cases y<;>exact z
   exact z.elim
  cases hp
 ·rename_i t x f D;obtain⟨y,I⟩:=fH hp;simp only[cc,D]at z ⊢;rw[I]at z ⊢;cases y<;>exact z
 ·rename_i x D;obtain⟨y,I⟩:=fH hp;simp only[cc,D]at z ⊢;rw[I]at z ⊢;cases y<;>exact z
 cases hp
variable {e:List (Nat×AB)}
theorem Kt{C:Ctx}{o:Oper}{h:Nat->AB}{v:AV}{n:Option AB}(hp:yH o rho=true)(D:cc C o rho h fun R e' U=>R=v/\e'=e/\U=n):n=none:=by
 have O:∀(x:AV) (K:List (List PV)->Prop) (Q:Prop),(∀es,K es->Q)->iE h x K->Q:=by
  intro x K Q hk D;unfold iE at D
  repeat' (split at D)
  all_goals first | exact D.elim | exact hk _ D
 unfold yH at hp;split at hp
 ·rename_i t a J;obtain⟨x,N⟩:=fH hp;simp only[cc,J]at D;split at D
  ·exact D.elim
  rw[N]at D;split at D
  ·split at D
   ·split at D
    ·exact D.2.2.symm
    exact D.elim
   split at D
   ·exact D.2.2.symm
   exact D.elim
  ·rename_i I;cases I
  ·rename_i I;cases I
  exact D.elim
 ·rename_i t x ix J;obtain⟨y,N⟩:=fH hp;simp only[cc,J]at D;split at D
  ·split at D
   ·exact D.elim
   rw[N]at D;split at D
   ·obtain⟨r,_,D⟩:=D;split at D
    ·exact D.2.2.symm
    exact D.elim
   all_goals first | exact D.elim | (rename_i I;cases I;done) | (rename_i I _;cases I;done) | (rename_i I _ _;cases I;done)
  exact D.elim
 ·rename_i t x lo hi J;obtain⟨y,N⟩:=fH hp;simp only[cc,J]at D;rw[N]at D;have D:g_ C rho h t x lo hi _:=D;simp only[g_]at D;split at D
  ·rw[N]at D;split at D
   ·split at D
    ·exact D.2.2.2.symm
    exact D.elim
   exact D.elim
  ·split at D
   ·exact D.elim
   obtain⟨z,fz,D,_⟩:=jB (fun _=>.inr rfl) D;split at D
   ·split at D
    ·exact D.2.2.2.symm
    exact D.elim
   exact D.elim
  exact D.elim
 ·rename_i t ps J;simp only[cc,J]at D;split at D
  ·split at D
   ·exact Ks _ _ _ (fun _ _ h=>h.2.2.symm) D
   obtain⟨z,I,_⟩:=Eg (fun _=>.inr rfl) D;exact I.2.2.symm
  exact D.elim
 ·rename_i c J;split at hp
  ·rename_i x V W;simp only[cc,J,V,W,fc,fZ]at D;split at D
   ·split at D
    ·split at D
     ·exact D.2.2.symm
     exact D.elim
    ·split at D
     ·exact D.2.2.symm
     exact O _ _ _ (fun _ h=>h.2.2.symm) D
    ·split at D
     ·split at D
      ·exact D.2.2.symm
      exact D.elim
     exact D.elim
    exact D.elim
   exact D.elim
  cases hp
 ·rename_i t x f J;obtain⟨y,N⟩:=fH hp;simp only[cc,J]at D;rw[N]at D
  repeat' (split at D)
  all_goals first | exact D.elim | exact D.2.2.symm | (rename_i I;cases I)
 ·rename_i x J;obtain⟨y,N⟩:=fH hp;simp only[cc,J]at D;rw[N]at D
  repeat' (split at D)
  all_goals first | exact D.elim | exact D.2.2.symm | (rename_i I;cases I)
 cases hp
theorem TG{C:Ctx}{o:Oper}{X:List Nat}{h:Nat->AB}{K:KK}(R:∀id,DA X id=true->h id=.none\/h' id=h id)(hp:sN X o rho=true)(D:cc C o rho h K):cc C o rho h' K:=by
 have N:∀{a:AV},Zd X a=true->(∃id,a=.ow id/\(h id=.none\/h' id=h id))\/(∃id i off,a=.rp id i off/\(h id=.none\/h' id=h id))\/∃id off,a=.bx id off/\(h id=.none\/h' id=h id):=by
  intro a O;cases a with
  | ow id=>exact .inl ⟨id,rfl,R id O⟩
  | rp id i off=>exact .inr (.inl ⟨id,i,off,rfl,R id O⟩)
  | bx id off=>exact .inr (.inr ⟨id,off,rfl,R id O⟩)
  | _=>cases O
 unfold sN at hp;split at hp
 ·rename_i t a I;simp only[cc,I]at D ⊢;cases J:C.T t with
  | none=>simp only[J]at D
  | some ti=>
   simp only[J]at D ⊢;rcases N hp with⟨id,e,z⟩ | ⟨id,i,off,e,z⟩ | ⟨id,off,e,z⟩<;>simp only[e]at D ⊢<;>rcases z with z | z<;>first | (simp only[z]at D;done) | (rw[z];exact D)
 ·rename_i t x W I;simp only[cc,I]at D ⊢;split at D
  case h_2=>exact D.elim
  rename_i e size bytes zero eq k i J PN;cases V:C.T e with
  | none=>simp only[V]at D
  | some te=>
   simp only[V]at D ⊢;rcases N hp with⟨id,e,z⟩ | ⟨id,i,off,e,z⟩ | ⟨id,off,e,z⟩<;>simp only[e]at D ⊢<;>rcases z with z | z<;>first | (simp only[z]at D;done) | (rw[z];exact D)
 ·rename_i t x W ck I;simp only[cc,I]at D ⊢;rcases N hp with⟨id,e,z⟩ | ⟨id,i,off,e,z⟩ | ⟨id,off,e,z⟩<;>simp only[e]at D ⊢
  ·rcases z with z | z
   ·simp only[z]at D
    repeat' (split at D)
    all_goals exact D.elim
   rw[z];exact D
  ·exact D
  exact D
 ·rename_i c I;split at hp
  ·rename_i x Y O;simp only[cc,I,Y,O,fc,fZ]at D ⊢;split at D
   case h_2=>exact D.elim
   rename_i x' t U ht;injection U with U _;subst U;split at D
   ·rcases N hp with⟨id,e,z⟩ | ⟨id,i,off,e,z⟩ | ⟨id,off,e,z⟩<;>simp only[e]at D
   ·rename_i J;rcases N hp with⟨id,e,z⟩ | ⟨id,i,off,e,z⟩ | ⟨id,off,e,z⟩<;>simp only[J,e,hlen,iE]at D ⊢;rcases z with z | z
    ·simp only[z]at D
    rw[z];exact D
   ·rename_i J;rcases N hp with⟨id,e,z⟩ | ⟨id,i,off,e,z⟩ | ⟨id,off,e,z⟩<;>simp only[J,e]at D ⊢;rcases z with z | z
    ·simp only[z]at D
    rw[z];exact D
   exact D.elim
  cases hp
 cases hp
theorem HV{C:Ctx}{o:Oper}{X:List Nat}{h:Nat->AB}{v:AV}{n:Option AB}(hp:sN X o rho=true)(z:cc C o rho h fun N e' O=>N=v/\e'=e/\O=n):n=none:=by
 have J:∀(x:AV) (K:List (List PV)->Prop) (Q:Prop),(∀es,K es->Q)->iE h x K->Q:=by
  intro x K Q hk z;unfold iE at z
  repeat' (split at z)
  all_goals first | exact z.elim | exact hk _ z
 unfold sN at hp;split at hp
 ·rename_i D;simp only[cc,D]at z
  repeat' (split at z)
  all_goals first | exact z.elim | exact z.2.2.symm | (exfalso;obtain⟨r,I,z⟩:=z;exact z) | (rcases z with⟨r,I,z⟩;first | exact z.2.2.symm | (split at z<;>first | exact z.elim | exact z.2.2.symm))
 ·rename_i D;simp only[cc,D]at z
  repeat' (split at z)
  all_goals first | exact z.elim | exact z.2.2.symm | exact z.2.2.2.symm | (obtain⟨r,I,z⟩:=z;split at z<;>first | exact z.elim | exact z.2.2.symm)
 ·rename_i D;simp only[cc,D]at z
  repeat' (split at z)
  all_goals first | exact z.elim | (obtain⟨r,I,z⟩:=z;exact z.2.2.symm) | (obtain⟨r,I,z⟩:=z;split at z<;>exact z.2.2.symm)
 ·rename_i c D;split at hp
  ·rename_i x R U;simp only[cc,D,R,U,fc,fZ]at z;split at z
   ·split at z
    ·split at z
     ·exact z.2.2.symm
     exact z.elim
    ·split at z
     ·exact z.2.2.symm
     exact J _ _ _ (fun _ h=>h.2.2.symm) z
    ·split at z
     ·split at z
      ·exact z.2.2.symm
      exact z.elim
     exact z.elim
    exact z.elim
   exact z.elim
  cases hp
 cases hp
theorem WL{C:Ctx}{o:Oper}{X:List Nat}{h:Nat->AB}{K:KK}(O:∀id,DA X id=true->h id=.none\/h' id=h id)(hp:sO X o rho=true)(z:cc C o rho h K):cc C o rho h' K:=by
 unfold sO at hp;rcases (gF _ _▸hp:sN X o rho=true\/yI X o rho=true) with hp | hp
 ·exact TG O hp z
 unfold yI at hp;split at hp
 ·rename_i t n c I;simp only[cc,I]at z ⊢;exact z
 ·rename_i t n ps I;simp only[aJ]at hp;have J:∀p∈ps.toList,yG (rho p.2)=true:=dY.1 hp.2;have D:∀(b:Bool) (size:Nat) (l:List (Nat×Operand)) (es:List (List PV)) (K:List (List PV)->List (Nat×AB)->Prop),(∀p∈l,yG (rho p.2)=true)->iD b h size rho l es K->iD b h' size rho l es K:=by
   intro b size l
   induction l with
   | nil=>intro es K _ h;exact h
   | cons p r ih=>
    intro es K hl hk;obtain⟨i,x⟩:=p;obtain⟨y,N⟩:=fH (hl _ bW);simp only at N;simp only[iD,N]at hk ⊢;have e:∀(h:Nat->AB) (Q:PV->List (Nat×AB)->Prop),zy b h (.p y) Q=Q y []:=fun h Q=>by cases b<;>rfl
    rw[e]at hk ⊢;revert hk;split
    ·intro hk;revert hk;split
     ·intro hk;exact ih _ _ (fun p hp=>hl p (cD _ hp)) hk
     exact fun hk=>hk
    exact fun hk=>hk
  simp only[cc,I]at z ⊢;revert z;split
  ·split
   ·split
    ·split
     ·exact D _ _ _ _ _ J
     exact D _ _ _ _ _ J
    exact fun z=>z
   exact fun z=>z
  exact fun z=>z
 cases hp
theorem Ku{C:Ctx}{o:Oper}{X:List Nat}{h:Nat->AB}{v:AV}{n:Option AB}(hp:sO X o rho=true)(z:cc C o rho h fun D e' I=>D=v/\e'=e/\I=n):n=none\/DA X (o.dst.getD 0)=true:=by
 unfold sO at hp;rcases (gF _ _▸hp:sN X o rho=true\/yI X o rho=true) with hp | hp
 ·exact .inl (HV hp z)
 unfold yI at hp;split at hp
 ·exact .inr hp
 ·simp only[aJ]at hp;exact .inr hp.1
 cases hp
theorem WM{C:Ctx}{o:Oper}{X:List Nat}{h:Nat->AB}{K:KK}(U:∀id,DA X (id+1000000)=true->h id≠.none->(kc (h' id)=kc (h id)/\kc (h id)≠0)\/h' id=h id)(hp:yJ X o rho=true)(z:cc C o rho h K):cc C o rho h' K:=by
 have W:∀{a:AV},thV X a=true->(∃id off,a=.bx id off/\DA X (id+1000000)=true)\/∃id i off,a=.rp id i off/\DA X (id+1000000)=true:=fun {a} ha=>by
  cases a with
  | bx id off=>exact .inl ⟨id,off,rfl,ha⟩
  | rp id i off=>exact .inr ⟨id,i,off,rfl,ha⟩
  | _=>cases ha
 unfold yJ at hp;split at hp
 ·rename_i t x f V;simp only[cc,V]at z ⊢;split at z
  case h_2=>exact z.elim
  rename_i hT;split at z
  case h_2=>exact z.elim
  rcases W hp with⟨id,off,e,hi⟩ | ⟨id,i,off,e,hi⟩<;>simp only[e]at z ⊢
  ·have J:h id≠.none:=fun N=>by rw[N]at z;exact z
   rcases U id hi J with⟨D,I⟩ | I
   ·cases O:h id<;>rw[O]at D I z<;>first | exact z.elim | exact absurd rfl I | (cases R:h' id<;>rw[R]at D<;>first | exact z | (exfalso;revert D;decide) | cases D)
   rw[I];exact z
  have J:h id≠.none:=fun N=>by rw[N]at z;exact z
  rcases U id hi J with⟨D,I⟩ | I
  ·cases O:h id<;>rw[O]at D I z<;>first | exact z.elim | exact absurd rfl I | (cases R:h' id<;>rw[R]at D<;>first | exact z | (exfalso;revert D;decide) | cases D)
  rw[I];exact z
 ·rename_i x V;simp only[cc,V]at z ⊢;rcases W hp with⟨id,off,e,hi⟩ | ⟨id,i,off,e,hi⟩<;>simp only[e]at z ⊢
  ·have J:h id≠.none:=fun N=>by rw[N]at z;exact z
   rcases U id hi J with⟨D,I⟩ | I
   ·cases O:h id<;>rw[O]at D I z<;>first | exact z.elim | exact absurd rfl I | (cases R:h' id<;>rw[R]at D<;>first | exact z | (exfalso;revert D;decide) | cases D)
   rw[I];exact z
  have J:h id≠.none:=fun N=>by rw[N]at z;exact z
  rcases U id hi J with⟨D,I⟩ | I
  ·cases O:h id<;>rw[O]at D I z<;>first | exact z.elim | exact absurd rfl I | (cases R:h' id<;>rw[R]at D<;>first | exact z | (exfalso;revert D;decide) | cases D)
  rw[I];exact z
 cases hp
theorem Kw{C:Ctx}{o:Oper}{X:List Nat}{h:Nat->AB}{v:AV}{n:Option AB}(hp:yJ X o rho=true)(z:cc C o rho h fun I e' J=>I=v/\e'=e/\J=n):n=none:=by
 unfold yJ at hp;split at hp
 ·rename_i D;simp only[cc,D]at z
  repeat' (split at z)
  all_goals first | exact z.elim | exact z.2.2.symm
 ·rename_i D;simp only[cc,D]at z
  repeat' (split at z)
  all_goals first | exact z.elim | exact z.2.2.symm
 cases hp
def Kx(ops:Array Oper)(o:Oper):Bool:=match o.dst with
 | some d=>!yK ops o d
 | none=>true
def Ky(ops:Array Oper)(b:Array Nat):Bool:=
 (List.range ops.size).all fun j=>(match ops[j]? with
  | some oj=>(oj.after.toList.all fun e=>!Region.binds .any e||Nat.blt e.on j)&&(List.range j).all fun i=>!(b.getD j 0).testBit i||(oj.after.toList.any fun e=>Region.binds .any e&&(cG e.on i||(Nat.blt i e.on&&(b.getD e.on 0).testBit i)))
  | none=>true)
def oo(C:Ctx)(ops:Array Oper):Bool:=
 let ap:=ops.toList.any fun o=>lF C o.op;let b:=Region.before ops
 Ky ops b&&(List.range ops.size).all fun j=>match ops[j]? with
  | some oj=>Kx ops oj&&(List.range j).all fun i=>match ops[i]? with
   | some oi=>Kr C ap ops b i j oi oj
   | none=>true
  | none=>true
def Kz(ops:Array Oper)(E:Nat->Bool):Prop:=∀(j:Nat) oj,ops[j]?=some oj->E j=true->∀e∈oj.after,Region.binds .any e=true->E e.on=true
theorem El{b:Array Nat}(h:Ky ops b=true):(∀(j:Nat) z,ops[j]?=some z->∀e∈z.after,Region.binds .any e=true->e.on<j)/\
  ∀(E:Nat->Bool),Kz ops E->∀(j:Nat) z,ops[j]?=some z->(∀e∈z.after,Region.binds .any e=true->E e.on=true)->∀i,i<j->(b.getD j 0).testBit i=true->E i=true:=by
 have O:∀(j:Nat) z,ops[j]?=some z->(∀e∈z.after,Region.binds .any e=true->e.on<j)/\∀i,i<j->(b.getD j 0).testBit i=true->∃e∈z.after,Region.binds .any e=true/\(e.on=i\/(i<e.on/\(b.getD e.on 0).testBit i=true)):=by
  intro j z J;have R:=dY.1 h j (gG.2 (cL.1 J).1);simp only[J,aJ]at R;refine⟨fun e N hb=>?_,fun i hi U=>?_⟩
  ·have D:=dY.1 R.1 e (cJ.2 N);rw[hb]at D;simp only[lY,iq]at D;exact jK D
  have D:=dY.1 R.2 i (gG.2 hi);rw[U]at D;simp only[lY,iq]at D;obtain⟨e,N,V⟩:=ee.1 D;simp only[aJ,gF]at V;exact⟨e,cJ.1 N,V.1,V.2.imp bz.1 fun h=>⟨jK h.1,h.2⟩⟩
 refine⟨fun j z J=>(O j z J).1,fun E hE j=>?_⟩
 induction j using Nat.strongRecOn with
 | _ j ih=>
  intro z J Z i hi U;obtain⟨e,N,hb,D⟩:=(O j z J).2 i hi U;rcases D with D | D
  ·rw[<-D];exact Z e N hb
  have eX:=(O j z J).1 e N hb;have W:=Z e N hb;cases I:ops[e.on]? with
  | none=>
   have:e.on<ops.size:=Nat.lt_trans eX (cL.1 J).1;rw[cC this]at I;cases I
  | some oe=>exact ih e.on eX oe I (fun e' TH Y=>hE e.on oe I W e' TH Y) i D.1 D.2
variable {rho':Operand->AV}
theorem HY{h:Nat->AB}:∀{ps:List (Nat×Operand)} {cs:List PV},(∀p∈ps,rho p.2=rho' p.2)->lA h fs rho ps cs=lA h fs rho' ps cs:=by
 intro ps
 induction ps with
 | nil=>intro cs _;rfl
 | cons p ps ih=>
  intro cs hp;obtain⟨i,x⟩:=p;funext K;have e:=hp (i,x) (by simp);simp only at e;simp only[lA,e];have:∀cs,lA h fs rho ps cs=lA h fs rho' ps cs:=fun cs=>ih (fun p z=>hp p (by simp[z]));simp only[this]
theorem HZ{h:Nat->AB}:∀{ps:List (Nat×Operand)} {cs:List AV},(∀p∈ps,rho p.2=rho' p.2)->mU h fs rho ps cs=mU h fs rho' ps cs:=by
 intro ps
 induction ps with
 | nil=>intro cs _;rfl
 | cons p ps ih=>
  intro cs hp;obtain⟨i,x⟩:=p;funext K;have e:=hp (i,x) (by simp);simp only at e;simp only[mU,e];have:∀cs,mU h fs rho ps cs=mU h fs rho' ps cs:=fun cs=>ih (fun p z=>hp p (by simp[z]));simp only[this]
theorem wB{b:Bool}{h:Nat->AB}{size:Nat}:∀{ps:List (Nat×Operand)} {cs:List (List PV)},(∀p∈ps,rho p.2=rho' p.2)->iD b h size rho ps cs=iD b h size rho' ps cs:=by
 intro ps
 induction ps with
 | nil=>intro cs _;rfl
 | cons p ps ih=>
  intro cs hp;obtain⟨i,x⟩:=p;funext K;have e:=hp (i,x) (by simp);simp only at e;simp only[iD,e];have:∀cs,iD b h size rho ps cs=iD b h size rho' ps cs:=fun cs=>ih (fun p z=>hp p (by simp[z]));simp only[this]
theorem tK{C:Ctx}{o:Oper}{rho rho':Operand->AV}{h:Nat->AB}{K:KK}(D:∀x∈o.op.operands,rho x=rho' x)(z:cc C o rho h K):cc C o rho' h K:=by
 cases aL:o.op<;>simp only[aL,Op.operands]at D<;>simp only[cc,aL]at z ⊢<;>try exact z
 case move x=>rw[<-D x (by simp)];exact z
 case assign x=>rw[<-D x (by simp)];exact z
 case pick c a b=>rw[<-D c (by simp),<-D a (by simp),<-D b (by simp)];exact z
 case box e x=>rw[<-D x (by simp)];exact z
 case build t ps=>
  split at z
  ·rename_i fs _ _ _ _ hT;split at z
   ·rename_i J;rw[<-HY (rho:=rho) (rho':=rho') (fun p hp=>D p.2 (by simp;exact⟨p.1,cJ.1 hp⟩))];exact z
   rename_i J;rw[<-HZ (rho:=rho) (rho':=rho') (fun p hp=>D p.2 (by simp;exact⟨p.1,cJ.1 hp⟩))];exact z
  exact z
 case buildSlice t n ps=>
  split at z
  ·split at z
   ·split at z
    ·split at z
     ·rw[<-wB (rho:=rho) (rho':=rho') (fun p hp=>D p.2 (by simp;exact⟨p.1,cJ.1 hp⟩))];exact z
     rw[<-wB (rho:=rho) (rho':=rho') (fun p hp=>D p.2 (by simp;exact⟨p.1,cJ.1 hp⟩))];exact z
    exact z
   exact z
  exact z
 case load t x=>rw[<-D x (by simp)];exact z
 case store t x y=>rw[<-D x (by simp),<-D y (by simp)];exact z
 case nilCheck x=>rw[<-D x (by simp)];exact z
 case binOp op t x y t'=>rw[<-D x (by simp),<-D y (by simp)];exact z
 case unOp op t x=>rw[<-D x (by simp)];exact z
 case convert s d x=>rw[<-D x (by simp)];exact z
 case makeFunc fn first cap=>
  cases fn with
  | func f=>
   have:cap.toList.map rho=cap.toList.map rho':=lZ fun x W=>D x (by simp[cJ.1 W]);simp only[this]at z;exact z
  | _=>exact z
 case makeSlice t x y=>rw[<-D x (by simp),<-D y (by simp)];exact z
 case slice t x lo hi mx=>
  cases mx with
  | some m=>exact z
  | none=>
   have e0:=D x (by simp);have U:∀y,lo=some y->rho y=rho' y:=fun y Y=>D y (by simp[Y]);have V:∀y,hi=some y->rho y=rho' y:=fun y Y=>D y (by simp[Y]);have hs:g_ C rho h t x lo hi K=g_ C rho' h t x lo hi K:=by
    unfold g_;rw[e0];cases lo<;>cases hi<;>simp only[Option.some.injEq,forall_eq',forall_eq,reduceCtorEq,false_implies,implies_true]at U V<;>simp only[U,V]
   have hv:∀id e' es,v_ C rho t lo hi id e' es K=v_ C rho' t lo hi id e' es K:=fun id e' es=>by
    unfold v_;cases lo<;>cases hi<;>simp only[Option.some.injEq,forall_eq',forall_eq,reduceCtorEq,false_implies,implies_true]at U V<;>simp only[U,V]
   simp only at z ⊢;simp only[<-e0,<-hs,<-hv];exact z
 case makeMap t r=>cases r<;>exact z
 case lookup t x i ck=>rw[<-D x (by simp),<-D i (by simp)];exact z
 case mapUpdate t x i y=>rw[<-D x (by simp),<-D i (by simp),<-D y (by simp)];exact z
 case fieldAddr t x f=>rw[<-D x (by simp)];exact z
 case field t x f=>rw[<-D x (by simp)];exact z
 case indexAddr t x y=>rw[<-D x (by simp),<-D y (by simp)];exact z
 case index t x y=>rw[<-D x (by simp),<-D y (by simp)];exact z
 case extract x i=>rw[<-D x (by simp)];exact z
 case call c=>
  have W:c.args.toList.map rho=c.args.toList.map rho':=lZ fun x Z=>D x (by simp[Call.operands,cJ.1 Z]);have I:∀x∈c.args.toList,rho x=rho' x:=fun x Z=>D x (by simp[Call.operands,cJ.1 Z]);split at z
  ·split at z
   ·rename_i J R;simp only[J,R]at *;rw[<-I _ (by simp)];exact z
   exact z
  ·split at z
   ·rename_i J R;simp only[J,R]at *;rw[<-I _ (by simp)];exact z
   exact z
  ·split at z
   ·rename_i J;simp only[J]at *;rw[<-I _ (by simp),<-I _ (by simp)];exact z
   exact z
  ·split at z
   ·rename_i J;simp only[J]at *;rw[<-I _ (by simp),<-I _ (by simp)];exact z
   ·rename_i J;simp only[J]at *;rw[<-I _ (by simp),<-I _ (by simp),<-I _ (by simp)];exact z
   ·rename_i J;simp only[J]at *;rw[<-I _ (by simp),<-I _ (by simp),<-I _ (by simp),<-I _ (by simp),<-I _ (by simp)];exact z
   exact z
  ·split at z
   ·rename_i J R;simp only[J,R]at *;rw[<-I _ (by simp),<-I _ (by simp)];exact z
   exact z
  ·rename_i g N;have Yh:c.callee=.value g:=by
    cases O:c.callee with
    | value g'=>rw[O]at N;simp only[fc]at N;injection N with N;rw[N]
    | invoke r m=>rw[O]at N;cases N
    | builtin b=>rw[O]at N;cases b<;>cases N
   have hg:=D g (by simp[Call.operands,Yh]);rw[<-hg,<-W];exact z
  exact z
end Go.AM
namespace Go.AM
open Go.RowKit
theorem yM{h h':Nat->AB}{id:Nat}:∀(fe:List (Nat×AB)) ,h id=h' id->app h fe id=app h' fe id:=by
 intro fe
 induction fe generalizing h h' with
 | nil=>intro e;exact e
 | cons x fe ih=>
  intro e;refine ih ?_;by_cases z:id=x.1
  ·rw[z,aF,aF]
  rw[bg _ _ z,bg _ _ z];exact e
theorem l8{h:Nat->AB}:∀{fe:List (Nat×AB)},jD h fe=true->∀p∈fe,(h p.1).there:=by
 intro fe
 induction fe with
 | nil=>intro _ p hp;cases hp
 | cons x fe ih=>
  intro z p hp;simp only[jD,aJ]at z;rcases aq.1 hp with e | e
  ·subst e;have:=z.1;cases hx:h p.1<;>rw[hx]at this<;>first | trivial | (simp[Qy]at this)
  exact ih z.2 p e
def Hn(B:Nat->AB)(r:Nat->RR)(E:Nat->Bool):Nat->Nat->AB
 | 0=>B
 | i+1=>match E i with
  | true=>app (Hn B r E i) (r i).eff
  | false=>Hn B r E i
theorem Vv{B:Nat->AB}{r:Nat->RR}{E:Nat->Bool}(i:Nat):∀(m:Nat),(∀k,k<m->(E k=true↔k<i)\/(r k).eff=[])->i<=m->Hn B r E m=Hn B r (fun _=>true) i:=by
 have z:∀m,m<=i->(∀k,k<m->(E k=true↔k<i)\/(r k).eff=[])->Hn B r E m=Hn B r (fun _=>true) m:=by
  intro m
  induction m with
  | zero=>intro _ _;rfl
  | succ m ih=>
   intro hm hk;have D:=ih (by omega) (fun k I=>hk k (by omega));simp only[Hn];rw[D];rcases hk m (by omega) with h | h
   ·rw[h.2 (by omega)]
   rw[h];cases E m<;>rfl
 intro m
 induction m with
 | zero=>
      intro _ hi;have:i=0:=by omega
      subst this;rfl
 | succ m ih=>
  intro hk hi;by_cases e:i=m+1
  ·subst e;exact z (m+1) (aG _) hk
  have D:=ih (fun k I=>hk k (by omega)) (by omega);rw[<-D];simp only[Hn];rcases hk m (by omega) with h | h
  ·have:E m=false:=by rw[cu];intro J;have:=h.1 J;omega
   rw[this]
  rw[h];cases E m<;>rfl
theorem WN{B:Nat->AB}{r:Nat->RR}{E:Nat->Bool}{i:Nat}(hi:E i=false):∀(m:Nat),(∀k,i<k->k<m->E k=true->(r k).eff=[])->i<m->Hn B r (fun k=>E k||cG k i) m=app (Hn B r E m) (r i).eff:=by
 have z:∀m,m<=i->Hn B r (fun k=>E k||cG k i) m=Hn B r E m:=by
  intro m
  induction m with
  | zero=>intro _;rfl
  | succ m ih=>
   intro hm;have:cG m i=false:=by rw[cu];intro h;have:=bz.1 h;omega
   simp only[Hn,this,ph];rw[ih (by omega)]
 intro m
 induction m with
 | zero=>intro _ h;omega
 | succ m ih=>
  intro hk eX;by_cases e:m=i
  ·subst e;simp only[Hn,hi,bz.2 rfl,wj];rw[z m (aG _)]
  have D:=ih (fun k D h2=>hk k D (by omega)) (by omega);have:cG m i=false:=by rw[cu];intro h;exact e (bz.1 h)
  simp only[Hn,this,ph];rw[D];cases I:E m with
  | false=>rfl
  | true=>rw[hk m (by omega) (by omega) I];rfl
theorem QE(C:Ctx)(ap:Bool)(op:Op):cls C ap op<=3:=by
 unfold cls;split<;>first | decide | skip
 all_goals (cases ap<;>first | decide | skip)
 all_goals (split<;>first | decide | skip)
 all_goals (split<;>decide)
theorem QF(C:Ctx)(op:Op):cls C true op≠1:=by
 unfold cls;split<;>first | decide | skip
 all_goals (split<;>first | decide | skip)
 all_goals (split<;>decide)
theorem N6{C:Ctx}{ap:Bool}{o:Oper}{rho:Operand->AV}{h:Nat->AB}{K:KK}(I:cls C ap o.op<=1)(z:cc C o rho h K):∃v e,K v e none:=by
 cases J:o.op<;>rw[J]at I<;>simp only[cc,J]at z
 case move x=>exact⟨_,_,z⟩
 case assign x=>exact⟨_,_,z⟩
 case pick c a b=>
  split at z
  ·split at z<;>exact⟨_,_,z⟩
  exact z.elim
 case binOp op t x y t'=>
  split at z
  ·obtain⟨v,D,_⟩:=HD z;exact⟨_,_,D⟩
  ·obtain⟨v,D,_⟩:=HA z;exact⟨_,_,D⟩
  exact z.elim
 case unOp op t x=>
  split at z
  ·exact⟨_,_,z⟩
  ·obtain⟨v,D,_⟩:=qg z;exact⟨_,_,D⟩
  exact z.elim
 case convert s d x=>
  split at z
  ·obtain⟨v,D,_⟩:=qg z;exact⟨_,_,D⟩
  ·exact⟨_,_,z⟩
  ·exact⟨_,_,z⟩
  exact z.elim
 case extract x i=>
  split at z
  ·split at z
   ·exact⟨_,_,z⟩
   exact z.elim
  exact z.elim
 case index t x y=>
  split at z
  ·obtain⟨b,_,z⟩:=z;exact⟨_,_,z⟩
  exact z.elim
 case field t x f=>
  split at z
  ·split at z
   ·split at z
    ·split at z
     ·exact⟨_,_,z⟩
     exact z.elim
    split at z
    ·exact⟨_,_,z⟩
    exact z.elim
   exact z.elim
  exact z.elim
 case makeFunc fn first cap=>
  cases fn with
  | func f=>
   simp only at z;split at z
   ·exact⟨_,_,z⟩
   exact z.elim
  | _=>exact z.elim
 case fieldAddr t x f=>
  split at z
  ·split at z
   ·split at z
    ·exact⟨_,_,z⟩
    ·split at z
     ·exact z.elim
     exact⟨_,_,z⟩
    ·split at z
     ·exact⟨_,_,z⟩
     ·exact⟨_,_,z⟩
     exact z.elim
    exact z.elim
   exact z.elim
  exact z.elim
 case nilCheck x=>
  split at z
  ·exact⟨_,_,z⟩
  ·split at z
   ·exact⟨_,_,z⟩
   ·exact⟨_,_,z⟩
   exact z.elim
  ·split at z
   ·exact⟨_,_,z⟩
   ·exact⟨_,_,z⟩
   exact z.elim
  exact z.elim
 case call c=>
  simp only[cls]at I;split at I
  ·exact absurd I (by decide)
  ·exact absurd I (by decide)
  ·rename_i D;simp only[D,fc,fZ]at z;split at z
   ·split at z
    ·exact⟨_,_,z⟩
    exact z.elim
   exact z.elim
  ·rename_i D;simp only[D,fc,fZ]at z;split at z
   ·split at z
    ·exact⟨_,_,z⟩
    exact z.elim
   ·split at z
    ·exact⟨_,_,z⟩
    exact z.elim
   ·split at z
    ·exact⟨_,_,z⟩
    exact z.elim
   exact z.elim
  ·split at I<;>exact absurd I (by decide)
  ·exact absurd I (by decide)
  exact absurd I (by decide)
 all_goals exact absurd I (by simp[cls])
theorem TJ{C:Ctx}{ap:Bool}{o:Oper}{rho:Operand->AV}{h:Nat->AB}{v:AV}{e:List (Nat×AB)}{n:Option AB}{b:AB}(D:cc C o rho h fun I e' J=>I=v/\e'=e/\J=n)(z:some b=n):cls C ap o.op=3\/cls C ap o.op=2:=by
 have hle:=QE C ap o.op;by_cases N:cls C ap o.op<=1
 ·obtain⟨_,_,_,_,O⟩:=N6 N D;rw[<-O]at z;cases z
 omega
section
variable {C:Ctx} {ops:Array Oper} {st:Nat->AS} {r:Nat->RR} {ap:Bool} {X:List Nat}
theorem Zf{B:Nat->AB}{r:Nat->RR}{E:Nat->Bool}{d:Nat}(i:Nat):∀(m:Nat),(∀k,k<m->(E k=true↔k<i)\/∀p∈(r k).eff,p.1≠d)->i<=m->Hn B r E m d=Hn B r (fun _=>true) i d:=by
 have D:∀m,m<=i->(∀k,k<m->(E k=true↔k<i)\/∀p∈(r k).eff,p.1≠d)->Hn B r E m d=Hn B r (fun _=>true) m d:=by
  intro m
  induction m with
  | zero=>intro _ _;rfl
  | succ m ih=>
   intro hm hk;have z:=ih (by omega) (fun k I=>hk k (by omega));simp only[Hn];rcases hk m (by omega) with h | h
   ·rw[h.2 (by omega)];exact yM _ z
   cases E m with
   | true=>exact yM _ z
   | false=>exact z.trans (jO h).symm
 intro m
 induction m with
 | zero=>
      intro _ hi;have:i=0:=by omega
      subst this;rfl
 | succ m ih=>
  intro hk hi;by_cases e:i=m+1
  ·subst e;exact D (m+1) (aG _) hk
  have z:=ih (fun k I=>hk k (by omega)) (by omega);rw[<-z];simp only[Hn];rcases hk m (by omega) with h | h
  ·have:E m=false:=by rw[cu];intro J;have:=h.1 J;omega
   rw[this]
  cases E m with
  | true=>exact jO h
  | false=>rfl
structure acb(C:Ctx)(ap:Bool)(ops:Array Oper)(i j:Nat)(oi oj:Oper):Prop where
 dst:∀x,oi.dst=some x->oj.dst≠some x
 war:∀d,oj.dst=some d->d∈oi.looksAt ops->((Region.before ops).getD j 0).testBit i=true
 raw:∀d,oi.dst=some d->d∈oj.looksAt ops->((Region.before ops).getD j 0).testBit i=true
 w3:cls C ap oj.op=3->cls C ap oi.op=3->((Region.before ops).getD j 0).testBit i=true
theorem nR(N:oo C ops=true):Ky ops (Region.before ops)=true/\(∀(j:Nat) z,ops[j]?=some z->∀d,z.dst=some d->d ∉ z.looksAt ops)/\
  ∀(i j:Nat) oi z,i<j->ops[i]?=some oi->ops[j]?=some z->acb C (ops.toList.any fun o=>lF C o.op) ops i j oi z:=by
 simp only[oo,aJ]at N;obtain⟨h1,h2⟩:=N;have Y:∀(j:Nat) z,ops[j]?=some z->Kx ops z=true/\∀(i:Nat) oi,i<j->ops[i]?=some oi->Kr C (ops.toList.any fun o=>lF C o.op) ops (Region.before ops) i j oi z=true:=by
  intro j z I;have J:=dY.1 h2 j (gG.2 (cL.1 I).1);simp only[I,aJ]at J;refine⟨J.1,fun i oi hi D=>?_⟩;have Z:=dY.1 J.2 i (gG.2 hi);simp only[D]at Z;exact Z
 refine⟨h1,fun j z I d O=>?_,fun i j oi z Ma D I=>?_⟩
 ·have:=(Y j z I).1;simp only[Kx,O,yK]at this;simpa using this
 have J:=(Y j z I).2 i oi Ma D;simp only[Kr,aJ]at J;obtain⟨⟨⟨p1,R⟩,U⟩,p4⟩:=J;refine⟨fun x hx hy=>?_,fun d O V=>?_,fun d O V=>?_,fun hc hi=>?_⟩
 ·simp only[hx,hy,bz.2 rfl,lY]at p1;cases p1
 ·simp only[O,yK]at R;have W:(oi.looksAt ops).contains d=true:=by simpa using V
  rw[W]at R;simpa using R
 ·simp only[O,yK]at U;have W:(z.looksAt ops).contains d=true:=by simpa using V
  rw[W]at U;simpa using U
 rw[ae hc,ae hi]at p4;exact p4
theorem KB(z:oo C ops=true)(H:∀(i:Nat) o,ops[i]?=some o->DStep C ap ops.toList o (st i) (r i) (st (i+1))){i:Nat}{o:Oper}(D:ops[i]?=some o){d:Tmp}(I:o.dst=some d):∀k,i+1<=k->k<=ops.size->(st k).t d=(r i).v:=by
 obtain⟨_,hs,hp⟩:=nR z;intro k
 induction k with
 | zero=>intro h;omega
 | succ k ih=>
  intro Ym hk;by_cases e:i=k
  ·subst e;rw[(H i o D).next,I];exact aF _ _ _
  have J:=ih (by omega) (by omega);have N:ops[k]?=some ops[k]:=cC (by omega);rw[(H k _ N).next];show fE (st k).t _ _ d=_;have O:=(hp i k o _ (by omega) D N).dst d I;cases R:ops[k].dst with
  | none=>exact J
  | some d'=>rw[fE,bg _ _ (fun e=>O (by rw[R,e]))];exact J
theorem Fz(H:∀(i:Nat) o,ops[i]?=some o->DStep C ap ops.toList o (st i) (r i) (st (i+1))){x:Nat}(D:∀(k:Nat) o,ops[k]?=some o->o.dst≠some x):∀k,k<=ops.size->(st k).t x=(st 0).t x:=by
 intro k
 induction k with
 | zero=>intro _;rfl
 | succ k ih=>
  intro hk;have z:ops[k]?=some ops[k]:=cC (by omega);rw[(H k _ z).next];show fE (st k).t _ _ x=_;cases I:ops[k].dst with
  | none=>exact ih (by omega)
  | some d'=>rw[fE,bg _ _ (fun e=>D k _ z (by rw[I,e]))];exact ih (by omega)
theorem N7(z:oo C ops=true)(H:∀(i:Nat) o,ops[i]?=some o->DStep C ap ops.toList o (st i) (r i) (st (i+1))){j:Nat}{o:Oper}(D:ops[j]?=some o){d:Tmp}(J:o.dst=some d):∀k,k<=j->(st k).t d=(st 0).t d:=by
 obtain⟨_,hs,hp⟩:=nR z;have hj:=(cL.1 D).1;intro k
 induction k with
 | zero=>intro _;rfl
 | succ k ih=>
  intro hk;have I:ops[k]?=some ops[k]:=cC (by omega);rw[(H k _ I).next];show fE (st k).t _ _ d=_;cases N:ops[k].dst with
  | none=>exact ih (by omega)
  | some O=>rw[fE,bg _ _ (fun e=>(hp k j _ o (by omega) I D).dst O N (by rw[J,e]))];exact ih (by omega)
def N8(ops:Array Oper)(r:Nat->RR)(k d:Nat)(b:AB):Prop:=∃o,ops[k]?=some o/\o.dst=some d/\(r k).new=some b
def ku(ops:Array Oper)(r:Nat->RR)(i d:Nat):Prop:=∃k b,i<=k/\N8 ops r k d b
theorem vA(hok:oo C ops=true)(H:∀(i:Nat) o,ops[i]?=some o->DStep C ap ops.toList o (st i) (r i) (st (i+1))){B:Nat->AB}(N9:∀k d b,N8 ops r k d b->B d=b)(Em:∀d,¬ku ops r 0 d->B d=(st 0).h d)(h0:∀d,ku ops r 0 d->(st 0).h d=.none):
  ∀i,i<=ops.size->∀d,(ku ops r i d->(st i).h d=.none/\Hn B r (fun _=>true) i d=B d)/\(¬ku ops r i d->(st i).h d=Hn B r (fun _=>true) i d):=by
 obtain⟨_,hs,hp⟩:=nR hok;intro i
 induction i with
 | zero=>intro _ d;exact⟨fun h=>⟨h0 d h,rfl⟩,fun h=>(Em d h).symm⟩
 | succ i ih=>
  intro hi d;have ih:=ih (by omega);have W:ops[i]?=some ops[i]:=cC (by omega);have D:=H i _ W;have hth:=l8 D.there;have N:Hn B r (fun _=>true) (i+1)=app (Hn B r (fun _=>true) i) (r i).eff:=rfl;have wh:(st (i+1)).h=sD (app (st i).h (r i).eff) (ops[i].dst.getD 0) (r i).new:=by rw[D.next]
  have out:ku ops r i d->∀p∈(r i).eff,p.1≠d:=fun R p Vw e=>by
   have z:=hth p Vw;rw[e,((ih d).1 R).1]at z;exact z
  have Zg:∀b,(r i).new=some b->∃I,ops[i].dst=some I:=fun b hb=>by
   have:=D.ndst;rw[hb]at this;cases hd:ops[i].dst with
   | none=>rw[hd]at this;cases this
   | some I=>exact⟨I,rfl⟩
  refine⟨fun R=>?_,fun R=>?_⟩
  ·have J:ku ops r i d:=by obtain⟨k,b,z,U⟩:=R;exact⟨k,b,by omega,U⟩
   obtain⟨z,U⟩:=(ih d).1 J;refine⟨?_,by rw[N,jO (out J)];exact U⟩;rw[wh];cases hn:(r i).new with
   | none=>show app _ _ d=_;rw[jO (out J)];exact z
   | some b=>
    obtain⟨I,Y⟩:=Zg b hn;rw[Y];show bd _ I b d=_;have cO:d≠I:=fun e=>by
     obtain⟨k,b',h3,o',O,Z,h6⟩:=R;exact (hp i k _ o' (by omega) W O).dst I Y (by rw[Z,e])
    rw[bg _ _ cO,jO (out J)];exact z
  by_cases V:∃b,N8 ops r i d b
  ·obtain⟨b,V⟩:=V;have J:ku ops r i d:=⟨i,b,aG _,V⟩;obtain⟨o',O,Z,h6⟩:=V;rw[W]at O;injection O with O;rw[wh,N,jO (out J),((ih d).1 J).2,h6,O,Z,N9 i d b ⟨o',by rw[W,O],Z,h6⟩];exact aF _ _ _
  have J:¬ku ops r i d:=fun ⟨k,b,z,U⟩=>by
   by_cases e:k=i
   ·subst e;exact V ⟨b,U⟩
   exact R ⟨k,b,by omega,U⟩
  have z:=(ih d).2 J;rw[wh,N,<-yM (r i).eff z];cases hn:(r i).new with
  | none=>rfl
  | some b=>
   obtain⟨I,Y⟩:=Zg b hn;rw[Y];show bd _ I b d=_;rw[bg _ _ (fun e=>V ⟨b,_,W,by rw[Y,e],hn⟩)]
def KC(b b':AB):Prop:=b'=b\/(∃e es dv,b=.row e es/\b'=.row e dv)\/(∃cs oM,b=.box cs/\b'=.box oM)\/(∃mk es mk' dv,b=.map mk es/\b'=.map mk' dv)
theorem KC.trans{a b c:AB}(h:KC a b)(k:KC b c):KC a c:=by
 rcases h with rfl | ⟨e,es,J,rfl,rfl⟩ | ⟨cs,N,rfl,rfl⟩ | ⟨m,es,m',J,rfl,rfl⟩
 ·exact k
 ·rcases k with rfl | ⟨e',fs,I,z,rfl⟩ | ⟨cs,N,z,rfl⟩ | ⟨_,_,_,_,z,rfl⟩
  ·exact .inr (.inl ⟨_,_,_,rfl,rfl⟩)
  ·injection z with z h2;subst z;exact .inr (.inl ⟨_,_,_,rfl,rfl⟩)
  ·cases z
  cases z
 ·rcases k with rfl | ⟨e',fs,I,z,rfl⟩ | ⟨ds,D,z,rfl⟩ | ⟨_,_,_,_,z,rfl⟩
  ·exact .inr (.inr (.inl ⟨_,_,rfl,rfl⟩))
  ·cases z
  ·exact .inr (.inr (.inl ⟨_,_,rfl,rfl⟩))
  cases z
 rcases k with rfl | ⟨e',fs,I,z,rfl⟩ | ⟨ds,D,z,rfl⟩ | ⟨_,_,_,_,z,rfl⟩
 ·exact .inr (.inr (.inr ⟨_,_,_,_,rfl,rfl⟩))
 ·cases z
 ·cases z
 exact .inr (.inr (.inr ⟨_,_,_,_,rfl,rfl⟩))
theorem QH{b z:AB}(h:Qx b z=true):KC b z:=by
 cases b<;>cases z<;>first | (simp[Qx]at h;done) | skip
 ·have:=bz.1 h;subst this;exact .inr (.inl ⟨_,_,_,rfl,rfl⟩)
 ·exact .inr (.inr (.inl ⟨_,_,rfl,rfl⟩))
 exact .inr (.inr (.inr ⟨_,_,_,_,rfl,rfl⟩))
theorem wC{h:Nat->AB}:∀{fe:List (Nat×AB)},l7 h fe=true->∀p∈fe,KC (h p.1) p.2:=by
 intro fe
 induction fe with
 | nil=>intro _ p hp;cases hp
 | cons x fe ih=>
  intro z p hp;simp only[l7,aJ]at z;rcases aq.1 hp with e | e
  ·subst e;exact QH z.1
  exact ih z.2 p e
theorem BO(U:oo C ops=true)(H:∀(i:Nat) o,ops[i]?=some o->DStep C ap ops.toList o (st i) (r i) (st (i+1)))(W:ap=false){B:Nat->AB}(Y:∀k d b,N8 ops r k d b->B d=b)(Z:∀d,¬ku ops r 0 d->B d=(st 0).h d)(h0:∀d,ku ops r 0 d->(st 0).h d=.none)(E:Nat->Bool):
  ∀m,m<=ops.size->∀d,KC (B d) (Hn B r E m d):=by
 have R:=vA U H Y Z h0;have z:∀m,m<=ops.size->∀d,KC (B d) (Hn B r (fun _=>true) m d):=by
  intro m
  induction m with
  | zero=>intro _ d;exact .inl rfl
  | succ m ih=>
   intro hm d;have V:ops[m]?=some ops[m]:=cC (by omega);have D:=H m _ V;show KC (B d) (app (Hn B r (fun _=>true) m) (r m).eff d);rcases fx (r m).eff (Hn B r (fun _=>true) m) d with⟨b,N,I⟩ | ⟨_,I⟩
   ·rw[I];have hk:=wC (D.kind W) _ N;have O:=l8 D.there _ N;have J:¬ku ops r m d:=fun hp=>by rw[((R m (by omega) d).1 hp).1]at O;exact O
    rw[(R m (by omega) d).2 J]at hk;exact (ih (by omega) d).trans hk
   rw[I];exact ih (by omega) d
 intro m
 induction m with
 | zero=>intro _ d;exact .inl rfl
 | succ m ih=>
  intro hm d;have V:ops[m]?=some ops[m]:=cC (by omega);have D:=H m _ V;simp only[Hn];cases E m with
  | false=>exact ih (by omega) d
  | true=>
   show KC (B d) (app (Hn B r E m) (r m).eff d);rcases fx (r m).eff (Hn B r E m) d with⟨b,N,I⟩ | ⟨_,I⟩
   ·rw[I];have hk:=wC (D.kind W) _ N;have O:=l8 D.there _ N;have J:¬ku ops r m d:=fun hp=>by rw[((R m (by omega) d).1 hp).1]at O;exact O
    rw[(R m (by omega) d).2 J]at hk;exact (z m (by omega) d).trans hk
   rw[I];exact ih (by omega) d
def VE(ops:Array Oper)(E:Nat->Bool)(x:Nat):Prop:=∀(k:Nat) o,ops[k]?=some o->o.dst=some x->E k=true
open Classical in
noncomputable def TE(ops:Array Oper)(st:Nat->AS)(E:Nat->Bool)(x:Nat):AV:=if VE ops E x then (st ops.size).t x else (st 0).t x
def LE(ops:Array Oper)(r:Nat->RR)(E:Nat->Bool)(d:Nat):Prop:=∀k b,N8 ops r k d b->E k=true
variable {id:Nat}
theorem QI{h:Nat->AB}{c:Nat}:∀{eff:List (Nat×AB)},(∀p∈eff,p.1=id->kc p.2=c)->kc (h id)=c->kc (app h eff id)=c:=by
 intro eff
 induction eff generalizing h with
 | nil=>intro _ z;exact z
 | cons p r ih=>
  intro D z;obtain⟨q,b⟩:=p;refine ih (h:=bd h q b) (fun p hp e=>D p (cD _ hp) e) ?_;by_cases e:id=q
  ·subst e;rw[aF];exact D _ bW rfl
  rw[bg _ _ e];exact z
theorem KD{X:List Nat}{h:Nat->AB}(hid:DA X (id+1000000)=true):∀{eff:List (Nat×AB)},wA X h eff=true->∀p∈eff,p.1=id->kc p.2=kc (h id)/\kc (h id)≠0:=by
 intro eff
 induction eff with
 | nil=>intro _ p hp;cases hp
 | cons q r ih=>
  intro hk p hp e;obtain⟨i,b⟩:=q;unfold wA at hk;split at hk
  ·rename_i hi;simp only[aJ,qS]at hk;obtain⟨D,z,I⟩:=hk;rcases aq.1 hp with rfl | hp
   ·simp only at e;subst e;exact⟨cY D,fun J=>by rw[J]at z;cases z⟩
   exact ih I p hp e
  rename_i hi;rcases aq.1 hp with rfl | hp
  ·simp only at e;subst e;rw[hid]at hi;cases hi
  exact ih hk p hp e
theorem QJ{X:List Nat}(hok:oo C ops=true)(H:∀(i:Nat) o,ops[i]?=some o->DStep C ap ops.toList o (st i) (r i) (st (i+1)))(QK:∀k,k<ops.size->wA X (st k).h (r k).eff=true){B:Nat->AB}(O:∀i,i<=ops.size->∀d,(ku ops r i d->(st i).h d=.none/\Hn B r (fun _=>true) i d=B d)/\(¬ku ops r i d->(st i).h d=Hn B r (fun _=>true) i d))(E:Nat->Bool){i:Nat}(hid:DA X (id+1000000)=true)(hi:i<=ops.size)(R:(st i).h id≠.none):
  (kc (Hn B r E ops.size id)=kc ((st i).h id)/\kc ((st i).h id)≠0)\/Hn B r E ops.size id=(st i).h id:=by
 have D:∀k,k<=ops.size->(st k).h id≠.none->(st k).h id=Hn B r (fun _=>true) k id:=fun k hk h=>by
  by_cases hp:ku ops r k id
  ·exact absurd ((O k hk id).1 hp).1 h
  exact (O k hk id).2 hp
 have J:∀{b:AB},kc b≠0->b≠.none:=fun hb e=>by rw[e]at hb;exact hb rfl
 have z:∀m,m<ops.size->∀p∈(r m).eff,p.1=id->kc p.2=kc (Hn B r (fun _=>true) m id)/\kc (Hn B r (fun _=>true) m id)≠0:=fun m I p hp e=>by
  obtain⟨U,N⟩:=KD hid (QK m I) p hp e;rw[D m (by omega) (J N)]at U N;exact⟨U,N⟩
 by_cases V:∃k,k<ops.size/\∃p∈(r k).eff,p.1=id
 ·left;have same:∀m,m<=ops.size->kc (Hn B r (fun _=>true) m id)=kc (B id):=by
   intro m
   induction m with
   | zero=>intro _;rfl
   | succ m ih=>
    intro I;have:=ih (by omega);show kc (app (Hn B r (fun _=>true) m) (r m).eff id)=_;exact QI (fun p hp e=>(z m (by omega) p hp e).1.trans this) this
  have any:∀m,m<=ops.size->kc (Hn B r E m id)=kc (B id):=by
   intro m
   induction m with
   | zero=>intro _;rfl
   | succ m ih=>
    intro I;simp only[Hn];cases E m with
    | false=>exact ih (by omega)
    | true=>exact QI (fun p hp e=>(z m (by omega) p hp e).1.trans (same m (by omega))) (ih (by omega))
  obtain⟨k,hk,p,hp,e⟩:=V;have W:=(z k hk p hp e).2;rw[same k (by omega)]at W;have Y:kc ((st i).h id)=kc (B id):=by rw[D i hi R];exact same i hi
  exact⟨by rw[any _ (aG _),Y],by rw[Y];exact W⟩
 right;have Z:∀(F:Nat->Bool) m,m<=ops.size->Hn B r F m id=B id:=by
  intro F m
  induction m with
  | zero=>intro _;rfl
  | succ m ih=>
   intro I;simp only[Hn];cases F m with
   | false=>exact ih (by omega)
   | true=>
    show app (Hn B r F m) (r m).eff id=_;rw[jO fun p Yj e=>V ⟨m,by omega,p,Yj,e⟩];exact ih (by omega)
 rw[Z E _ (aG _),D i hi R,Z _ i hi]
theorem TK{A:rZ}(hC:bP A.C)(Yn:ap=ops.toList.any fun o=>lF A.C o.op)(V:oo A.C ops=true)(hd:∀o∈ops.toList,mL o A.n)(H:∀(i:Nat) o,ops[i]?=some o->DStep A.C ap ops.toList o (st i) (r i) (st (i+1)))(G:∀(i:Nat) o,ops[i]?=some o->BM A.C ap X (kK A.C ap ops) o (st i) (r i) i){B:Nat->AB}(N9:∀k d b,N8 ops r k d b->B d=b)(Em:∀d,¬ku ops r 0 d->B d=(st 0).h d)(h0:∀d,ku ops r 0 d->(st 0).h d=.none)
  {E:Nat->Bool} (hE:Kz ops E) {i:Nat} {o:Oper} (I:ops[i]?=some o) (hi:E i=false) (jz:∀e∈o.after,Region.binds .any e=true->E e.on=true) {S:Nat->Prop} {rho:Nat->Value} {a:Act} {w:World} (sim:cn A cX (LE ops r E) S rho ⟨TE ops st E,Hn B r E ops.size⟩ a w)
  {Q:Exit->Act->World->Prop} {next:Act->World->Prop} (hnext:∀S' rho' a' w',cn A cX (LE ops r fun k=>E k||cG k i) S' rho' ⟨TE ops st (fun k=>E k||cG k i),Hn B r (fun k=>E k||cG k i) ops.size⟩ a' w'->next a' w'):wpOp A.C.P ops Q i next a w:=by
 obtain⟨QL,hs,hp⟩:=nR V;rw[<-Yn]at hp;obtain⟨Vx,Zh⟩:=El QL;have nQ:i<ops.size:=(cL.1 I).1;have hh:=vA V H N9 Em h0;have D:=H i o I;have Y8:mL o A.n:=hd o (aj (by simpa using I));have bits:∀k,k<i->((Region.before ops).getD i 0).testBit k=true->E k=true:=Zh E hE i o I jz;have later:∀(k:Nat) ok,ops[k]?=some ok->i<k->((Region.before ops).getD k 0).testBit i=true->E k=false:=by
  intro k ok hk Ym acj;rw[cu];intro Y;have:=Zh E hE k ok hk (fun e he hb=>hE k ok hk Y e he hb) i Ym acj;rw[hi]at this;cases this
 have En:∀x,x∈o.looksAt ops->TE ops st E x=(st i).t x:=by
  intro x Z;unfold TE;split
  ·rename_i hv;by_cases hw:∃(k:Nat) (ok:Oper),ops[k]?=some ok/\ok.dst=some x
   ·obtain⟨k,ok,hk,W⟩:=hw;have HR:=(cL.1 hk).1;rcases il k i with h | h | h
    ·rw[KB V H hk W ops.size (by omega) (aG _),KB V H hk W i (by omega) (by omega)]
    ·subst h;rw[I]at hk;injection hk with hk;subst hk;exact absurd Z (hs k o I x W)
    have N:=later k ok hk h ((hp i k o ok h I hk).war x W Z);rw[hv k ok hk W]at N;cases N
   have R:∀(k:Nat) o,ops[k]?=some o->o.dst≠some x:=fun k o hk e=>hw ⟨k,o,hk,e⟩;rw[Fz H R ops.size (aG _),Fz H R i (by omega)]
  rename_i hv;have hex:∃(k:Nat) (ok:Oper),ops[k]?=some ok/\ok.dst=some x/\E k=false:=wx fun hn=>hv fun k ok hk W=>by
   cases hE':E k with
   | true=>rfl
   | false=>exact absurd ⟨k,ok,hk,W,hE'⟩ hn
  obtain⟨k,ok,hk,W,Y⟩:=hex;rcases il k i with h | h | h
  ·have:=bits k h ((hp k i ok o h hk I).raw x W Z);rw[Y]at this;cases this
  ·subst h;rw[I]at hk;injection hk with hk;subst hk;exact absurd Z (hs k o I x W)
  exact (N7 V H hk W i (by omega)).symm
 have Vy:(cls A.C ap o.op=3\/(cls A.C ap o.op=2/\(kK A.C ap ops)[i]?=some true))->∀k,i<k->k<ops.size->E k=true->(r k).eff=[]:=by
  intro hc k Ym HR Y;have hk:ops[k]?=some ops[k]:=cC HR;by_cases J:cls A.C ap ops[k].op=3
  ·have:=later k _ hk Ym (by
    rcases hc with hc | ⟨hc,hf⟩
    ·exact (hp i k o _ Ym I hk).w3 J hc
    exact (yL I hf hc k _ hk J).2 Ym)
   rw[Y]at this;cases this
  exact (H k _ hk).quiet J
 have QM:∀k,k<ops.size->(r k).eff≠[]->cls A.C ap (ops[k]?.getD o).op=3:=by
  intro k hk R;have AI:ops[k]?=some ops[k]:=cC hk;rw[AI];by_cases J:cls A.C ap ops[k].op=3
  ·exact J
  exact absurd ((H k _ AI).quiet J) R
 have QN:(cls A.C ap o.op=3\/(cls A.C ap o.op=2/\(kK A.C ap ops)[i]?=some true))->Hn B r E ops.size=Hn B r (fun _=>true) i:=by
  intro hc;refine Vv i ops.size (fun k HR=>?_) (by omega);have hk:ops[k]?=some ops[k]:=cC HR;by_cases R:(r k).eff=[]
  ·exact .inr R
  have J:=QM k HR R;rw[hk]at J;have J:cls A.C ap ops[k].op=3:=J;refine .inl ⟨fun Y=>?_,fun eX=>?_⟩
  ·rcases il k i with h | h | h
   ·exact h
   ·subst h;rw[hi]at Y;cases Y
   exact absurd (Vy hc k h HR Y) R
  rcases hc with hc | ⟨hc,hf⟩
  ·exact bits k eX ((hp k i _ o eX hk I).w3 hc J)
  exact bits k eX ((yL I hf hc k _ hk J).1 eX)
 have ack:cls A.C ap o.op=2->TF o.op=false->∀id,DA X id=true->Hn B r E ops.size id=Hn B r (fun _=>true) i id:=fun hc hth id hid=>by
  refine Zf i ops.size (fun k HR=>?_) (by omega);have hk:ops[k]?=some ops[k]:=cC HR;by_cases R:∀p∈(r k).eff,p.1≠id
  ·exact .inr R
  have NG:(r k).eff≠[]:=fun e=>R (by rw[e];simp);have J:cls A.C ap ops[k].op=3:=by have:=QM k HR NG;rw[hk]at this;exact this
  have hrk:(r k).run=true:=by
   cases hr:(r k).run with
   | true=>rfl
   | false=>exact absurd ((H k _ hk).not hr).2.1 NG
  have hf:(kK A.C ap ops)[k]?=some true:=by
   rcases (G k _ hk hrk).2.1 with h | h
   ·exact h
   exact absurd (fun p hp e=>by have:=HU h p hp;rw[e,hid]at this;cases this) R
  have ord:=BN hk hf J i o I hc hth;refine .inl ⟨fun Y=>?_,fun eX=>?_⟩
  ·rcases il k i with h | h | h
   ·exact h
   ·subst h;rw[hi]at Y;cases Y
   have:=later k _ hk h (ord.1 h);rw[Y]at this;cases this
  exact bits k eX (ord.2 eX)
 have ext:∀id,(st i).h id=.none\/Hn B r (fun _=>true) i id=(st i).h id:=by
  intro id;by_cases DB:ku ops r i id
  ·exact .inl ((hh i (by omega) id).1 DB).1
  exact .inr ((hh i (by omega) id).2 DB).symm
 have opE:(r i).run=true->cc A.C o (ev (TE ops st E)) (Hn B r E ops.size) fun v e n=>v=(r i).v/\e=(r i).eff/\n=(r i).new:=by
  intro z;have N:=D.ran z;have h2:cc A.C o (ev (TE ops st E)) (st i).h fun v e n=>v=(r i).v/\e=(r i).eff/\n=(r i).new:=by
   refine tK (fun x Z=>?_) N;cases x with
   | tmp t=>
    exact (En t (ir _ (wy.2 ⟨.tmp t,by simpa using Z,rfl⟩))).symm
   | const v=>rfl
   | global g=>rfl
   | func f=>rfl
  have four:cls A.C ap o.op=0\/cls A.C ap o.op=1\/cls A.C ap o.op=2\/cls A.C ap o.op=3:=by
   have:=QE A.C ap o.op;omega
  rcases four with h | h | h | h
  ·exact WH h h2
  ·have Zi:ap=false:=by
    cases acn:ap with
    | false=>rfl
    | true=>
     rw[acn]at h;exact absurd h (QF A.C o.op)
   refine WI h (fun id ht=>?_) h2;have Vz:=BO V H Zi N9 Em h0 E ops.size (aG _) id;have Zj:=BO V H Zi N9 Em h0 (fun _=>true) i (by omega) id;have heq:(st i).h id=Hn B r (fun _=>true) i id:=by
    rcases ext id with e | e
    ·rw[e]at ht;exact ht.elim
    exact e.symm
   rw[<-heq]at Zj;rcases Zj with e | ⟨e,es,dv,e1,e2⟩ | ⟨cs,oM,e1,e2⟩ | ⟨m,es,m',dv,e1,e2⟩
   ·rw[<-e]at Vz;rcases Vz with f | ⟨f,fs,WO,O,f2⟩ | ⟨cs,oM,O,f2⟩ | ⟨m,es,m',dv,O,f2⟩
    ·rw[f];exact⟨ht,fun e es h=>⟨es,h⟩,fun cs h=>⟨cs,h⟩,fun cs h=>⟨cs,h⟩,fun e es h=>⟨es,h⟩⟩
    ·rw[O,f2];exact⟨trivial,fun e es h=>(by injection h with N h2;subst N;exact⟨WO,rfl⟩),fun cs h=>(by cases h),fun cs h=>(by cases h),fun _ _ h=>by cases h⟩
    ·rw[O,f2];exact⟨trivial,fun e es h=>by (cases h),fun cs h=>⟨oM,rfl⟩,fun cs h=>(by cases h),fun _ _ h=>by cases h⟩
    rw[O,f2];exact⟨trivial,fun e es h=>by (cases h),fun cs h=>by (cases h),fun cs h=>(by cases h),fun _ _ h=>by cases h⟩
   ·rw[e1]at Vz;rw[e2];rcases Vz with f | ⟨f,fs,WO,O,f2⟩ | ⟨cs,oM,O,f2⟩ | ⟨m,es,m',dv,O,f2⟩
    ·rw[f];exact⟨trivial,fun e es h=>(by injection h with N h2;subst N;exact⟨_,rfl⟩),fun cs h=>by (cases h),fun cs h=>(by cases h),fun _ _ h=>by cases h⟩
    ·injection O with O _;subst O;rw[f2];exact⟨trivial,fun e es h=>(by injection h with N h2;subst N;exact⟨_,rfl⟩),fun cs h=>by (cases h),fun cs h=>(by cases h),fun _ _ h=>by cases h⟩
    ·cases O
    cases O
   ·rw[e1]at Vz;rw[e2];rcases Vz with f | ⟨f,fs,WO,O,f2⟩ | ⟨ds,ds',O,f2⟩ | ⟨m,es,m',dv,O,f2⟩
    ·rw[f];exact⟨trivial,fun e es h=>by (cases h),fun cs h=>⟨_,rfl⟩,fun cs h=>(by cases h),fun _ _ h=>by cases h⟩
    ·cases O
    ·rw[f2];exact⟨trivial,fun e es h=>by (cases h),fun cs h=>⟨_,rfl⟩,fun cs h=>(by cases h),fun _ _ h=>by cases h⟩
    cases O
   rw[e1]at Vz;rw[e2];rcases Vz with f | ⟨f,fs,WO,O,f2⟩ | ⟨ds,ds',O,f2⟩ | ⟨m,es,m',dv,O,f2⟩
   ·rw[f];exact⟨trivial,fun e es h=>by (cases h),fun cs h=>by (cases h),fun cs h=>(by cases h),fun _ _ h=>by cases h⟩
   ·cases O
   ·cases O
   rw[f2];exact⟨trivial,fun e es h=>by (cases h),fun cs h=>by (cases h),fun cs h=>(by cases h),fun _ _ h=>by cases h⟩
  ·rcases (G i o I z).1 with hf | hpv | hfp | hth | J
   case inr.inr.inr.inr=>rw[h]at J;cases J
   case inr.inr.inr.inl=>
    have QK:∀k,k<ops.size->wA X (st k).h (r k).eff=true:=fun k HR=>by
     have hk:ops[k]?=some ops[k]:=cC HR;cases hr:(r k).run with
     | true=>exact (G k _ hk hr).2.2
     | false=>rw[((H k _ hk).not hr).2.1];rfl
    refine tK (fun x Z=>?_) (WM (h':=Hn B r E ops.size) (fun id hid R=>QJ V H QK hh E hid (by omega) R) hth N);cases x with
    | tmp t=>
     exact (En t (ir _ (wy.2 ⟨.tmp t,by simpa using Z,rfl⟩))).symm
    | const v=>rfl
    | global g=>rfl
    | func f=>rfl
   case inr.inr.inl=>
    refine tK (fun x Z=>?_) (WL (h':=Hn B r E ops.size) (fun id hid=>?_) hfp N)
    ·cases x with
     | tmp t=>
      exact (En t (ir _ (wy.2 ⟨.tmp t,by simpa using Z,rfl⟩))).symm
     | const v=>rfl
     | global g=>rfl
     | func f=>rfl
    rw[ack h (Mj hfp) id hid];exact ext id
   case inr.inl=>
    refine tK (fun x Z=>?_) (WJ hpv N);cases x with
    | tmp t=>
     exact (En t (ir _ (wy.2 ⟨.tmp t,by simpa using Z,rfl⟩))).symm
    | const v=>rfl
    | global g=>rfl
    | func f=>rfl
   rw[QN (.inr ⟨h,hf⟩)];obtain⟨v,e,n,⟨rfl,rfl,rfl⟩,h4⟩:=tH ext h2;exact h4 _ ⟨rfl,rfl,rfl⟩
  rw[QN (.inl h)];obtain⟨v,e,n,⟨rfl,rfl,rfl⟩,h4⟩:=tH ext h2;exact h4 _ ⟨rfl,rfl,rfl⟩
 have VA:∀x,o.dst≠some x->(VE ops (fun k=>E k||cG k i) x↔VE ops E x):=by
  intro x Z;refine⟨fun hv k ok hk W=>?_,fun hv k ok hk W=>by simp[hv k ok hk W]⟩;have:=hv k ok hk W;simp only[gF]at this;rcases this with h | h
  ·exact h
  have:=bz.1 h;subst this;rw[I]at hk;injection hk with hk;subst hk;exact absurd W Z
 have Zk:∀v,v=(r i).v->fE (TE ops st E) o.dst v=TE ops st (fun k=>E k||cG k i):=by
  intro v hv;funext x;have other:o.dst≠some x->TE ops st E x=TE ops st (fun k=>E k||cG k i) x:=fun Z=>by
   unfold TE;by_cases hvx:VE ops E x
   ·rw[ae hvx,ae ((VA x Z).2 hvx)]
   rw[aa hvx,aa fun h=>hvx ((VA x Z).1 h)]
  cases nm:o.dst with
  | none=>exact other (by rw[nm];intro h;cases h)
  | some d=>
   show bd _ _ _ _=_;by_cases e:x=d
   ·subst e;rw[aF];unfold TE;rw[ae,KB V H I nm ops.size (by omega) (aG _),hv];intro k ok hk W;have:k=i:=by
     rcases il k i with h5 | h5 | h5
     ·exact absurd nm ((hp k i ok o h5 hk I).dst x W)
     ·exact h5
     exact absurd W ((hp i k o ok h5 I hk).dst x nm)
    simp[this,bz.2]
   rw[bg _ _ e];exact other fun h=>e (by rw[nm]at h;injection h with h;exact h.symm)
 unfold wpOp;simp only[I];by_cases z:(r i).run=true
 ·have BH:Region.wanted o (yielded ops a.tmps)=true:=by
   have hg:=D.guard;unfold Region.wanted;split at hg
   ·rename_i h;rw[h]
   rename_i g want h;rw[h];obtain⟨og,tg,b,k1,k2,k3,k4⟩:=hg;have QO:tg∈o.looksAt ops:=qY _ (by rw[h];simp[show ops[g]?=some og by simpa using k1,k2]);have:=qU sim (ops:=ops) (g:=g) (by simpa using k1) k2 trivial (by show TE ops st E tg=_;rw[En tg QO];exact k3);simp only[this];rw[z]at k4;exact k4.symm
  rw[ae BH];refine .inl (Ql A o _ _ _ _ _ _ _ _ next Q hC sim (fun _ _=>trivial) Y8 (opE z) (fun v eff b hk=>?_) fun v eff new S' rho' a' w' hk cv=>?_)
  ·obtain⟨_,_,Yo⟩:=hk;obtain⟨d,nm⟩:∃d,o.dst=some d:=by
    have:=D.ndst;rw[<-Yo]at this;cases Ei:o.dst with
    | none=>rw[Ei]at this;cases this
    | some d=>exact⟨d,rfl⟩
   have U:N8 ops r i d b:=⟨o,I,nm,Yo.symm⟩;rw[nm];refine⟨fun hL=>(by have:=hL i b U;rw[hi]at this;cases this),?_⟩;show Hn B r E ops.size d=b;have DB:ku ops r i d:=⟨i,b,aG _,U⟩;have R:∀k,k<ops.size->E k=true->∀p∈(r k).eff,p.1≠d:=by
    intro k HR Y p Vw e;have hk:ops[k]?=some ops[k]:=cC HR;have ht:=l8 (H k _ hk).there p Vw;rcases il k i with h | h | h
    ·have KE:ku ops r k d:=⟨i,b,by omega,U⟩;rw[e,((hh k (by omega) d).1 KE).1]at ht;exact ht
    ·subst h;rw[hi]at Y;cases Y
    have J:cls A.C ap ops[k].op=3:=by
     by_cases J:cls A.C ap ops[k].op=3
     ·exact J
     have:=(H k _ hk).quiet J;rw[this]at Vw;cases Vw
    have hmk:cls A.C ap o.op=3\/cls A.C ap o.op=2:=TJ (ap:=ap) (opE z) Yo;have:=later k _ hk h (by
     rcases hmk with hmk | hmk
     ·exact (hp i k o _ h I hk).w3 J hmk
     rcases (G i o I z).1 with hf | hpv | hfp | hth | h3'
     ·exact (yL I hf hmk k _ hk J).2 h
     ·have:=Kt hpv (D.ran z);rw[<-Yo]at this;cases this
     ·rcases Ku hfp (D.ran z) with Eb | hdX
      ·rw[<-Yo]at Eb;cases Eb
      rw[nm]at hdX;have hdX:DA X d=true:=hdX;have NG:(r k).eff≠[]:=fun e=>by rw[e]at Vw;cases Vw
      have hrk:(r k).run=true:=by
       cases hr:(r k).run with
       | true=>rfl
       | false=>exact absurd ((H k _ hk).not hr).2.1 NG
      have hf:(kK A.C ap ops)[k]?=some true:=by
       rcases (G k _ hk hrk).2.1 with h | h
       ·exact h
       have:=HU h p Vw;rw[e,hdX]at this;cases this
      exact (BN hk hf J i o I hmk (Mj hfp)).1 h
     ·have:=Kw hth (D.ran z);rw[<-Yo]at this;cases this
     rw[hmk]at h3';cases h3')
    rw[Y]at this;cases this
   have:∀m,m<=ops.size->Hn B r E m d=B d:=by
    intro m
    induction m with
    | zero=>intro _;rfl
    | succ m ih=>
     intro hm;simp only[Hn];cases hEm:E m with
     | false=>exact ih (by omega)
     | true=>
      show app (Hn B r E m) (r m).eff d=_;rw[jO (R m (by omega) hEm)];exact ih (by omega)
   rw[this ops.size (aG _),N9 i d b U]
  obtain⟨e1,e2,e3⟩:=hk;refine hnext S' rho' a' w' ?_;have hH:app (Hn B r E ops.size) eff=Hn B r (fun k=>E k||cG k i) ops.size:=by
   rw[e2];by_cases R:(r i).eff=[]
   ·rw[R];show Hn B r E ops.size=_;have:∀m,Hn B r (fun k=>E k||cG k i) m=Hn B r E m:=by
     intro m
     induction m with
     | zero=>rfl
     | succ m ih=>
      simp only[Hn];rw[ih];by_cases e:m=i
      ·subst e;rw[hi,bz.2 rfl,R];rfl
      have:cG m i=false:=by rw[cu];intro h;exact e (bz.1 h)
      rw[this,ph]
    exact (this _).symm
   have J:cls A.C ap o.op=3:=by
    by_cases J:cls A.C ap o.op=3
    ·exact J
    exact absurd (D.quiet J) R
   exact (WN hi ops.size (Vy (.inl J)) nQ).symm
  have bH:=cv;rw[Zk v e1]at bH;have fu:cn A (yy cX o.dst) (Br (LE ops r E) new (o.dst.getD 0)) S' rho' ⟨TE ops st (fun k=>E k||cG k i),Hn B r (fun k=>E k||cG k i) ops.size⟩ a' w':=by rw[<-hH];exact bH
  refine fu.sL (fun _ _=>.inl trivial) fun d=>?_;cases QP:new with
  | none=>
   refine⟨fun h k b U=>?_,fun h k b U=>by simp[h k b U]⟩;have:=h k b U;simp only[gF]at this;rcases this with h | h
   ·exact h
   have:=bz.1 h;subst this;obtain⟨o',N,h2,h4⟩:=U;rw[<-e3,QP]at h4;cases h4
  | some b=>
   obtain⟨d',nm⟩:∃d,o.dst=some d:=by
    have:=D.ndst;rw[<-e3,QP]at this;cases Ei:o.dst with
    | none=>rw[Ei]at this;cases this
    | some d=>exact⟨d,rfl⟩
   rw[nm];show _↔(LE ops r E d\/d=d');refine⟨fun h=>?_,fun h k b' U=>?_⟩
   ·by_cases e:d=d'
    ·exact .inr e
    refine .inl fun k b' U=>?_;have:=h k b' U;simp only[gF]at this;rcases this with h | h
    ·exact h
    have:=bz.1 h;subst this;obtain⟨o',N,h2,h4⟩:=U;rw[I]at N;injection N with N;rw[<-N,nm]at h2;injection h2 with h2;exact absurd h2.symm e
   rcases h with h | h
   ·simp[h k b' U]
   obtain⟨o',N,h2,h4⟩:=U;have:k=i:=by
    rcases il k i with h5 | h5 | h5
    ·exact absurd (by rw[nm,h]) ((hp k i o' o h5 N I).dst d h2)
    ·exact h5
    exact absurd (by rw[h2,h]) ((hp i k o o' h5 I N).dst d' nm)
   simp[this,bz.2]
 have QQ:(r i).run=false:=by simpa using z
 obtain⟨n1,n2,n3⟩:=D.not QQ;have BH:Region.wanted o (yielded ops a.tmps)=false:=by
  have hg:=D.guard;unfold Region.wanted;split at hg
  ·rw[QQ]at hg;cases hg
  rename_i g want h;rw[h];obtain⟨og,tg,b,k1,k2,k3,k4⟩:=hg;have QO:tg∈o.looksAt ops:=qY _ (by rw[h];simp[show ops[g]?=some og by simpa using k1,k2]);have:=qU sim (ops:=ops) (g:=g) (by simpa using k1) k2 trivial (by show TE ops st E tg=_;rw[En tg QO];exact k3);simp only[this];rw[QQ]at k4;exact k4.symm
 rw[aa (by rw[BH];decide)];refine hnext S rho _ _ ?_;have bH:=sim.value o.dst Y8 uO undef (.p _ _ (.im _));rw[Zk uO n1.symm]at bH;have hH:Hn B r (fun k=>E k||cG k i) ops.size=Hn B r E ops.size:=by
  have:∀m,Hn B r (fun k=>E k||cG k i) m=Hn B r E m:=by
   intro m
   induction m with
   | zero=>rfl
   | succ m ih=>
    simp only[Hn];rw[ih];by_cases e:m=i
    ·subst e;rw[hi,bz.2 rfl,n2];rfl
    have:cG m i=false:=by rw[cu];intro h;exact e (bz.1 h)
    rw[this,ph]
  exact this _
 rw[hH];refine bH.sL (fun _ _=>.inl trivial) fun d=>⟨fun h k b U=>?_,fun h k b U=>by simp[h k b U]⟩;have:=h k b U;simp only[gF]at this;rcases this with h | h
 ·exact h
 have:=bz.1 h;subst this;obtain⟨o',N,h2,h4⟩:=U;rw[n3]at h4;cases h4
theorem filter_lt{p q:Nat->Bool}(D:∀x,q x=true->p x=true){i:Nat}(hp:p i=true)(I:q i=false):∀(l:List Nat),(l.filter q).length<=(l.filter p).length/\(i∈l->(l.filter q).length<(l.filter p).length):=by
 intro l
 induction l with
 | nil=>exact⟨aG _,fun h=>by cases h⟩
 | cons x l ih=>
  simp only[wz];refine⟨?_,fun h=>?_⟩
  ·cases z:q x with
   | true=>rw[D x z];simp;exact ih.1
   | false=>cases p x<;>simp<;>have:=ih.1<;>omega
  rcases aq.1 h with e | e
  ·subst e;rw[hp,I];simp;have:=ih.1;omega
  have:=ih.2 e;cases z:q x with
  | true=>rw[D x z];simp;exact this
  | false=>cases p x<;>simp<;>omega
theorem TL{A:rZ}(hC:bP A.C)(Yn:ap=ops.toList.any fun o=>lF A.C o.op)(O:oo A.C ops=true)(hd:∀o∈ops.toList,mL o A.n)(H:∀(i:Nat) o,ops[i]?=some o->DStep A.C ap ops.toList o (st i) (r i) (st (i+1)))(G:∀(i:Nat) o,ops[i]?=some o->BM A.C ap X (kK A.C ap ops) o (st i) (r i) i){B:Nat->AB}(N9:∀k d b,N8 ops r k d b->B d=b)(Em:∀d,¬ku ops r 0 d->B d=(st 0).h d)(h0:∀d,ku ops r 0 d->(st 0).h d=.none)
  {Q:Exit->Act->World->Prop} (hQ:∀S rho a w,cn A cX cX S rho (st ops.size) a w->Q .normal a w):
  ∀(D:Nat) (z:Array Bool) (S:Nat->Prop) (rho:Nat->Value) (a:Act) (w:World),z.size=ops.size->Kz ops (fun i=>z.getD i false)->((List.range ops.size).filter fun i=>!z.getD i false).length<=D ->
   cn A cX (LE ops r fun i=>z.getD i false) S rho ⟨TE ops st (fun i=>z.getD i false),Hn B r (fun i=>z.getD i false) ops.size⟩ a w->wpAny A.C.P .any ops Q D z a w:=by
 obtain⟨QL,hs,hp⟩:=nR O;obtain⟨Vx,_⟩:=El QL;have hh:=vA O H N9 Em h0;have fin:∀(z:Array Bool) (S:Nat->Prop) (rho:Nat->Value) (a:Act) (w:World),z.size=ops.size->Region.ready .any ops z=[]->cn A cX (LE ops r fun i=>z.getD i false) S rho ⟨TE ops st (fun i=>z.getD i false),Hn B r (fun i=>z.getD i false) ops.size⟩ a w->Q .normal a w:=by
  intro z S rho a w J R I;have all:∀i,i<ops.size->z.getD i false=true:=by
   intro i
   induction i using Nat.strongRecOn with
   | _ i ih=>
    intro hi;have N:ops[i]?=some ops[i]:=cC hi;cases hl:z.getD i false with
    | true=>rfl
    | false=>
     have:i∈Region.ready .any ops z:=mem_ready.2 ⟨getD_in (by omega) hl,_,N,fun e Z hb=>by
      have U:=Vx i _ N e Z hb;exact ih e.on U (by omega)⟩
     rw[R]at this;cases this
  refine hQ S rho a w ?_;have hH:Hn B r (fun i=>z.getD i false) ops.size=(st ops.size).h:=by
   rw[Vv ops.size ops.size (fun k hk=>.inl ⟨fun _=>hk,fun _=>all k hk⟩) (aG _)];funext d;refine ((hh ops.size (aG _) d).2 fun ⟨k,b,U,o,h2,_⟩=>?_).symm;have:=(cL.1 h2).1;omega
  have hT:TE ops st (fun i=>z.getD i false)=(st ops.size).t:=funext fun x=>ae fun k o hk _=>all k (cL.1 hk).1;rw[hH,hT]at I;refine I.sL (fun _ _=>trivial) fun d=>⟨fun _ k b hc=>?_,fun _=>trivial⟩;obtain⟨o,h2,_⟩:=hc;exact all k (cL.1 h2).1
 intro D
 induction D with
 | zero=>
  intro z S rho a w J jx Zl I;have R:Region.ready .any ops z=[]:=by
   rw[List.eq_nil_iff_forall_not_mem];intro i hi;obtain⟨U,o,N,_⟩:=mem_ready.1 hi;have eX:=(cL.1 N).1;have hm:i∈(List.range ops.size).filter fun i=>!z.getD i false:=qZ.2 ⟨gG.2 eX,by rw[getD_both U];rfl⟩;have:=cI (Nat.le_zero.1 Zl);rw[this]at hm;cases hm
  exact⟨R,fin z S rho a w J R I⟩
 | succ D ih=>
  intro z S rho a w J jx Zl I;refine⟨fun R=>fin z S rho a w J R I,fun i hi=>?_⟩;obtain⟨U,o,N,jz⟩:=mem_ready.1 hi;have eX:=(cL.1 N).1;have V:z.getD i false=false:=getD_both U;have qh:(fun k=>(z.setIfInBounds i true).getD k false)=fun k=>z.getD k false||cG k i:=by
   funext k;by_cases e:i=k
   ·subst e;rw[bz.2 rfl,wj];simp[J,eX]
   rw[getD_set_ne false e];have:cG k i=false:=by rw[cu];intro h;exact e (bz.1 h).symm
   rw[this,ph]
  refine TK hC Yn O hd H G N9 Em h0 (E:=fun i=>z.getD i false) jx N V jz I fun S' rho' a' w' cv=>?_;refine ih (z.setIfInBounds i true) S' rho' a' w' (by simp[J]) ?_ ?_ ?_
  ·rw[qh];intro j oj W Y e Z hb;simp only[gF]at Y ⊢;rcases Y with h | h
   ·exact .inl (jx j oj W h e Z hb)
   have:=bz.1 h;subst this;rw[N]at W;injection W with W;subst W;exact .inl (jz e Z hb)
  ·have VB:∀k,(z.setIfInBounds i true).getD k false=(z.getD k false||cG k i):=fun k=>congrFun qh k;have:=(filter_lt (p:=fun k=>!z.getD k false) (q:=fun k=>!(z.setIfInBounds i true).getD k false) (fun x hx=>by
    rw[VB x]at hx;cases hl:z.getD x false with
    | true=>rw[hl]at hx;cases hx
    | false=>rfl) (i:=i) (by rw[V];rfl) (by rw[VB i,bz.2 rfl,wj];rfl) (List.range ops.size)).2 (gG.2 eX)
   omega
  rw[qh];exact cv
end
def HX.iB:List HX->List AV
 | []=>[]
 | .av x::r=>x::HX.iB r
 | .row _ _::r=>HX.iB r
theorem HX.FB(f:AV->AV):∀(r:List HX),HX.iB (r.map (HX.dn f))=(HX.iB r).map f
 | []=>rfl
 | .av x::r=>by simp[HX.iB,HX.dn,HX.FB f r]
 | .row _ _::r=>by simp[HX.iB,HX.dn,HX.FB f r]
theorem HX.FC{x:AV}:∀{r:List HX},.av x∈r->x∈HX.iB r
 | .av y::r,h=>by
  rcases aq.1 h with h | h
  ·injection h with h;subst h;simp[HX.iB]
  simp[HX.iB,HX.FC h]
 | .row _ _::r,h=>by
  rcases aq.1 h with h | h
  ·cases h
  simp[HX.iB,HX.FC h]
def FD:AB->List AV
 | .box cs=>cs
 | .kr _ cs=>cs
 | .aw _ es=>es.flatMap HX.iB
 | _=>[]
theorem BP(d:Nat)(b:AB):FD (zF d b)=(FD b).map (sc d):=by
 cases b with
 | aw e es=>
  show (es.map fun r=>r.map (HX.dn (sc d))).flatMap HX.iB=(es.flatMap HX.iB).map (sc d)
  induction es with
  | nil=>rfl
  | cons r es ih=>simp only[eH,q_,bB,ih,HX.FB]
 | _=>rfl
def zI(d:Nat)(s:AS):Prop:=s.h d=.none/\(∀j,uY d (s.t j)=false)/\∀k,∀x∈FD (s.h k),uY d x=false
theorem QR(d:Nat)(x:AV):uY d (sc d x)=false:=by
 rw[Qn];split
 ·rfl
 assumption
theorem Mk{d z:Nat}{x:AV}(h:uY d x=false):uY d (sc z x)=false:=by
 rw[Qn];split
 ·rfl
 exact h
theorem Ml(d:Nat)(s:AS)(k:Nat):(k=d/\(jk d s).h k=.none)\/(k≠d/\(jk d s).h k=zF d (s.h k)):=by
 by_cases e:k=d
 ·subst e;exact .inl ⟨rfl,by show bd (fun z=>zF k (s.h z)) k AB.none k=_;rw[aF]⟩
 exact .inr ⟨e,by show bd (fun z=>zF d (s.h z)) d AB.none k=_;rw[bg _ _ e]⟩
theorem Eo(d:Nat)(s:AS):zI d (jk d s):=by
 refine⟨by rcases Ml d s d with⟨_,h⟩ | ⟨h,_⟩;exact h;exact absurd rfl h,fun j=>QR d _,fun k x z=>?_⟩;rcases Ml d s k with⟨_,h⟩ | ⟨_,h⟩
 ·rw[h]at z;cases z
 rw[h,BP]at z;obtain⟨y,_,rfl⟩:=aZ.1 z;exact QR d y
variable {s:AS}
theorem KG{d:Nat}(D:Nat)(I:zI d s):zI d (jk D s):=by
 obtain⟨J,N,O⟩:=I;refine⟨?_,fun j=>Mk (N j),fun k x z=>?_⟩
 ·rcases Ml D s d with⟨_,h⟩ | ⟨_,h⟩
  ·exact h
  rw[h,J];rfl
 rcases Ml D s k with⟨_,h⟩ | ⟨_,h⟩
 ·rw[h]at z;cases z
 rw[h,BP]at z;obtain⟨y,R,rfl⟩:=aZ.1 z;exact Mk (O k y R)
def BQ:List Oper->AS->AS
 | [],s=>s
 | o::r,s=>match sM o.op with
  | true=>BQ r (jk (o.dst.getD 0) s)
  | false=>BQ r s
theorem KH:∀(l:List Oper) (s:AS),(∀d,zI d s->zI d (BQ l s))/\∀o∈l,sM o.op=true->zI (o.dst.getD 0) (BQ l s):=by
 intro l
 induction l with
 | nil=>intro s;exact⟨fun _ h=>h,fun o h=>by cases h⟩
 | cons o l ih=>
  intro s;unfold BQ;split
  ·rename_i D;refine⟨fun d I=>(ih _).1 d (KG _ I),fun o' J z=>?_⟩;rcases aq.1 J with e | e
   ·subst e;exact (ih _).1 _ (Eo _ _)
   exact (ih _).2 o' e z
  rename_i D;refine⟨fun d I=>(ih _).1 d I,fun o' J z=>?_⟩;rcases aq.1 J with e | e
  ·subst e;rw[z]at D;cases D
  exact (ih _).2 o' e z
variable {A:rZ} {rho:Nat->Value}
theorem cn.jk{S:Nat->Prop}{a:Act}{w:World}(z:cn A cX cX S rho s a w)(d:Nat):cn A cX cX S rho (jk d s) a w:=by
 have D:=z.free d .none;have I:(AM.jk d s).h d=.none:=(Eo d s).1;rw[kD _ _ _ I]at D;exact D.Mh d I
theorem cn.pre{S:Nat->Prop}{a:Act}{w:World}:∀(l:List Oper) (s:AS),cn A cX cX S rho s a w->cn A cX cX S rho (BQ l s) a w:=by
 intro l
 induction l with
 | nil=>intro s z;exact z
 | cons o l ih=>
  intro s z;unfold BQ;split
  ·exact ih _ (z.jk _)
  exact ih _ z
def BR(o:Oper)(s:AS):AS:=match o.op,o.dst with
 | .assign _,some d=>match s.t d with
  | .ow i=>match s.h i with
   | .row _ _=>match cG i d with
    | true=>s
    | false=>oS i d s
   | .aw _ _=>match cG i d with
    | true=>s
    | false=>oS i d s
   | _=>s
  | _=>s
 | _,_=>s
def Ep:List Oper->AS->AS
 | [],s=>s
 | o::r,s=>Ep r (BR o s)
theorem cn.post{S:Nat->Prop}{a:Act}{w:World}:∀(l:List Oper) (rho:Nat->Value) (s:AS),(∀o∈l,mL o A.n)->cn A cX cX S rho s a w->∃rho',cn A cX cX S rho' (Ep l s) a w:=by
 intro l
 induction l with
 | nil=>intro rho s _ z;exact⟨rho,z⟩
 | cons o l ih=>
  intro rho s I z;have N:∀o∈l,mL o A.n:=fun o' O=>I o' (by simp[O]);have:∃rho',cn A cX cX S rho' (BR o s) a w:=by
   unfold BR;split
   ·rename_i d _ J;split
    ·split
     ·split
      ·exact⟨rho,z⟩
      rename_i D;refine⟨_,z.rename _ d (fun e=>?_) (cB (I o (by simp) d J) z.nb)⟩;rw[bz.2 e]at D;cases D
     ·split
      ·exact⟨rho,z⟩
      rename_i D;refine⟨_,z.rename _ d (fun e=>?_) (cB (I o (by simp) d J) z.nb)⟩;rw[bz.2 e]at D;cases D
     exact⟨rho,z⟩
    exact⟨rho,z⟩
   exact⟨rho,z⟩
  obtain⟨rho',R⟩:=this;exact ih rho' _ N R
theorem vB{d:Nat}{c:AV}:∀{xs:List AV},c∈xs->uY d c=true->iF d xs=true:=by
 intro xs
 induction xs with
 | nil=>intro h;cases h
 | cons x xs ih=>
  intro h z;simp only[iF,gF];rcases aq.1 h with e | e
  ·subst e;exact .inl z
  exact .inr (ih e z)
theorem bu.loc{S:Nat->Prop}{w:World}{P:Program}{L':Nat->Prop}{h h':Nat->AB}{x:AV}{v:Value}(O:bu S w P cX rho h x v)(D:∀k,uY k x=true->h' k=h k/\L' k):bu S w P L' rho h' x v:=by
 induction O with
 | p x v O=>exact .p x v O
 | nl=>exact .nl
 | ow k v hv=>obtain⟨I,J⟩:=D k (by simp only[uY];exact bz.2 rfl);exact .ow k v fun R=>⟨J,(hv (by rw[<-I];exact R)).2⟩
 | rp k a b v hv=>obtain⟨I,J⟩:=D k (by simp only[uY];exact bz.2 rfl);exact .rp k a b v fun e U=>⟨J,(hv e (by rw[<-I];exact U)).2⟩
 | bx k a v hv=>obtain⟨I,J⟩:=D k (by simp only[uY];exact bz.2 rfl);exact .bx k a v fun R=>⟨J,(hv (by rw[<-I];exact R)).2⟩
 | vw k a b v hv=>obtain⟨I,J⟩:=D k (by simp only[uY];exact bz.2 rfl);exact .vw k a b v fun e U=>⟨J,(hv e (by rw[<-I];exact U)).2⟩
 | fn f cap vs hl hc ih=>exact .fn f cap vs hl fun j c u z N=>ih j c u z N fun k hk=>D k (vB (aj z) hk)
 | tu xs vs hl hc ih=>exact .tu xs vs hl fun j c u z N=>ih j c u z N fun k hk=>D k (vB (aj z) hk)
 | st xs vs hl h0 hc ih=>exact .st xs vs hl h0 fun j c u z N=>ih j c u z N fun k hk=>D k (vB (aj z) hk)
 | junk v=>exact .junk v
theorem WQ(hC:bP A.C){id:Nat}{ops:Array Oper}{K:Exit->AS->Prop}(hok:oo A.C ops=true)(hd:∀o∈ops.toList,mL o A.n)
  (h:∃X,rh A.C (ops.toList.any fun o=>lF A.C o.op) X ops.toList (kK A.C (ops.toList.any fun o=>lF A.C o.op) ops) ops.toList (fun s'=>K .normal (Ep ops.toList s')) (BQ ops.toList s)):W A (.region id ops true) K s:=by
 intro S rho a w sim;have D:=(sim.grow hC w.drew ⟨rfl,rfl,rfl,aG _,fun _ _ _=>rfl⟩).pre ops.toList s;obtain⟨X,h⟩:=h;obtain⟨st,r,h1,h2,h3⟩:=QA ops.toList _ _ h;have hsz:ops.toList.length=ops.size:=by simp
 rw[hsz]at h2;have H:∀(i:Nat) o,ops[i]?=some o->DStep A.C (ops.toList.any fun o=>lF A.C o.op) ops.toList o (st i) (r i) (st (i+1)):=fun i o ho=>(h3 i o (by simpa using ho)).1;have G:∀(i:Nat) o,ops[i]?=some o->BM A.C (ops.toList.any fun o=>lF A.C o.op) X (kK A.C (ops.toList.any fun o=>lF A.C o.op) ops) o (st i) (r i) i:=fun i o ho=>(h3 i o (by simpa using ho)).2;have nr:∀k d b,N8 ops r k d b->zI d (st 0):=fun k d b ⟨o,ho,nm,hb⟩=>by
  have SZ:=(H k o ho).ndst;rw[hb,nm]at SZ;rw[h1];have:=(KH ops.toList s).2 o (aj (by simpa using ho)) SZ;rw[nm]at this;exact this
 have QS:∀d,ku ops r 0 d->zI d (st 0):=fun d ⟨k,b,_,J⟩=>nr k d b J;have acq:∀d,Decidable (∃b k,N8 ops r k d b):=fun d=>Classical.propDecidable _;obtain⟨B,hB⟩:∃B:Nat->AB,B=fun d=>@dite _ (∃b k,N8 ops r k d b) (acq d) (fun h=>Classical.choose h) (fun _=>(st 0).h d):=⟨_,rfl⟩;obtain⟨_,_,hp⟩:=nR hok;have N9:∀k d b,N8 ops r k d b->B d=b:=by
  intro k d b J;have Y:∃b k,N8 ops r k d b:=⟨b,k,J⟩;rw[hB];simp only;rw[dif_pos Y];obtain⟨k',Yh⟩:=Fq Y;generalize Classical.choose Y=b' at Yh;obtain⟨o,e1,e2,e3⟩:=J;obtain⟨o',f1,f2,f3⟩:=Yh;have:k=k':=by
   rcases il k k' with h | h | h
   ·exact absurd f2 ((hp k k' o o' h e1 f1).dst d e2)
   ·exact h
   exact absurd e2 ((hp k' k o' o h f1 e1).dst d f2)
  subst this;rw[e3]at f3;injection f3 with f3;exact f3.symm
 have N:∀d,¬ku ops r 0 d->B d=(st 0).h d:=by
  intro d U;rw[hB];simp only;rw[dif_neg fun ⟨b,k,J⟩=>U ⟨k,b,ak _,J⟩]
 have O:∀d,¬ku ops r 0 d->LE ops r (fun _=>false) d:=fun d U k b J=>absurd ⟨k,b,ak _,J⟩ U;have TM:∀d,LE ops r (fun _=>false) d->¬ku ops r 0 d:=fun d hl ⟨k,b,_,J⟩=>by cases hl k b J
 rw[<-h1]at D;have acr:cn A cX (LE ops r fun _=>false) S rho ⟨TE ops st (fun _=>false),B⟩ a w.drew:=
  {tm:=fun j _=>by
    have ht:TE ops st (fun _=>false) j=(st 0).t j:=by
     unfold TE;split
     ·rename_i hv;exact Fz H (fun k o hk e=>by cases hv k o hk e) ops.size (aG _)
     rfl
    show bu _ _ _ _ _ _ (TE ops st (fun _=>false) j) _;rw[ht];refine (D.tm j trivial).loc fun k hk=>?_;have U:¬ku ops r 0 k:=fun R=>by rw[(QS k R).2.1 j]at hk;cases hk
    exact⟨N k U,O k U⟩
   sz:=D.sz,df:=D.df,nb:=D.nb,pn:=D.pn,ev:=D.ev,s0:=D.s0,st:=D.st,sb:=D.sb
   hp:=fun k hk=>by
    have U:=TM k hk;show fD _ _ _ _ _ _ _ (B k);rw[N k U];have z:=D.hp k trivial;cases hb:(st 0).h k with
    | none=>trivial
    | row e es=>rw[hb]at z;exact z
    | lz es=>rw[hb]at z;exact z
    | nd es=>rw[hb]at z;exact z
    | map mk es=>rw[hb]at z;exact z
    | box cs=>
     rw[hb]at z;obtain⟨g,ty,c,k1,k2,k3,Z⟩:=z;refine⟨g,ty,c,k1,k2,k3,fun j x u I hu=>⟨(Z j x u I hu).1,(Z j x u I hu).2.loc fun i hi=>?_⟩⟩;have V:¬ku ops r 0 i:=fun R=>by rw[(QS i R).2.2 k x (by rw[hb];exact aj I)]at hi;cases hi
     exact⟨N i V,O i V⟩
    | kr ty cs=>
     rw[hb]at z;obtain⟨g,c,k1,k2,k3,Z⟩:=z;refine⟨g,c,k1,k2,k3,fun j x u I hu=>⟨(Z j x u I hu).1,(Z j x u I hu).2.loc fun i hi=>?_⟩⟩;have V:¬ku ops r 0 i:=fun R=>by rw[(QS i R).2.2 k x (by rw[hb];exact aj I)]at hi;cases hi
     exact⟨N i V,O i V⟩
    | aU cs=>rw[hb]at z;exact z
    | aw e es=>
     rw[hb]at z;obtain⟨⟨i0,xs,k1,k2,k3,Z,k5,k6⟩,hS⟩:=z;refine⟨⟨i0,xs,k1,k2,k3,Z,k5,fun a' r j x ha I=>?_⟩,hS⟩;obtain⟨u,hu,hr⟩:=k6 a' r j x ha I;refine⟨u,hu,?_⟩;cases x with
     | row e' dv=>exact hr
     | av x=>
      refine bu.loc hr fun i hi=>?_;have V:¬ku ops _ 0 i:=fun R=>by rw[(QS i R).2.2 k x (by rw[hb];exact tJ.2 ⟨r,aj ha,HX.FC (aj I)⟩)]at hi;cases hi
      exact⟨N i V,O i V⟩
   dj:=fun i j g hi I li lj fU lE=>by
    have qa:(B i).live:=li;have Y6:(B j).live:=lj;have fU:hasB _ (B i) (rho i) g:=fU;have lE:hasB _ (B j) (rho j) g:=lE;rw[N i (TM i hi)]at qa fU;rw[N j (TM j I)]at Y6 lE;exact D.dj i j g trivial trivial qa Y6 fU lE
   lv:=fun i g hi li hg=>by
    have qa:(B i).live:=li;have hg:hasB _ (B i) (rho i) g:=hg;rw[N i (TM i hi)]at qa hg;exact D.lv i g trivial qa hg
   fr:=D.fr }
 refine wp_region_any hC.any ?_;have hE0:(fun i=>(Array.replicate ops.size false).getD i false)=fun _=>false:=by
  funext i;exact getD_replicate_false _ _
 refine TL hC rfl hok hd H G N9 N (fun d R=>(QS d R).1) (fun S' rho' a' w' cv=>?_) ops.size (Array.replicate ops.size false) S rho a w.drew (by simp) ?_ ?_ ?_
 ·obtain⟨WR,bH⟩:=cv.post ops.toList rho' (st ops.size) hd;exact⟨S',WR,_,bH,h2⟩
 ·rw[hE0];intro j oj _ h;cases h
 ·have:((List.range ops.size).filter fun i=>!(Array.replicate ops.size false).getD i false).length<=(List.range ops.size).length:=kJ _ _;simpa using this
 rw[hE0];have:∀m,Hn B r (fun _=>false) m=B:=by
  intro m
  induction m with
  | zero=>rfl
  | succ m ih=>exact ih
 rw[this];exact acr
end Go.AM
namespace Go.AM
open Go.RowKit
def QT(n:Nat)(o:Oper):Bool:=match o.dst with
 | some d=>Nat.blt d n
 | none=>true
def mM(C:Ctx)(n:Nat):Code->Bool
 | .region _ ops draw=>ops.toList.all (QT n)&&(!draw||oo C ops)
 | .seq a b=>mM C n a&&mM C n b
 | .cond _ a b=>mM C n a&&mM C n b
 | .block _ c=>mM C n c
 | .loop c=>mM C n c
 | _=>true
def qi(f:AS->Prop)(K:Exit->AS->Prop):Exit->AS->Prop
 | .normal,s=>f s
 | e,s=>K e s
def Er(id:Nat)(K:Exit->AS->Prop):Exit->AS->Prop
 | .exit i,s=>sd (cG i id) (K .normal s) (K (.exit i) s)
 | e,s=>K e s
def Dm(A:rZ):Code->(Exit->AS->Prop)->AS->Prop
 | .skip,K,s=>K .normal s
 | .region _ ops draw,K,s=>match draw with
  | false=>sv A.C ops.toList ops.toList (K .normal) s
  | true=>∃X,rh A.C (ops.toList.any fun o=>lF A.C o.op) X ops.toList (kK A.C (ops.toList.any fun o=>lF A.C o.op) ops) ops.toList (fun s'=>K .normal (Ep ops.toList s')) (BQ ops.toList s)
 | .seq a b,K,s=>Dm A a (qi (fun s'=>∃oN,aA A s' oN/\Dm A b K oN) K) s
 | .cond c a b,K,s=>match ev s.t c with
  | .p (.im (.bool t))=>sd t (Dm A a K s) (Dm A b K s)
  | _=>False
 | .block id c,K,s=>Dm A c (Er id K) s
 | .loop c,K,s=>∃(α:Type) (I:α->AS->Prop) (m:α->Nat),(∃x s',aA A s s'/\I x s')/\∀x s,I x s->Dm A c (qi (fun s'=>∃y oN,aA A s' oN/\I y oN/\m y<m x) K) s
 | .exit id,K,s=>K (.exit id) s
 | .ret,K,s=>K .ret s
 | _,_,_=>False
theorem Mm{n:Nat}{ops:Array Oper}(h:ops.toList.all (QT n)=true):∀o∈ops.toList,mL o n:=by
 intro o z d D;have:=dY.1 h o z;unfold QT at this;rw[D]at this;exact jK this
theorem N_{A:rZ}(hC:bP A.C):∀(c:Code) (K:Exit->AS->Prop) (s:AS),mM A.C A.n c=true->Dm A c K s->W A c K s:=by
 intro c
 induction c with
 | skip=>intro K s _ h S rho a w D;exact wp_skip ⟨S,rho,s,D,h⟩
 | region id ops draw=>
  intro K s z h;simp only[mM,aJ]at z;cases draw with
  | false=>exact Qq hC (Mm z.1) h
  | true=>exact WQ hC (by simpa using z.2) (Mm z.1) h
 | seq a b J N=>
  intro K s z h;simp only[mM,aJ]at z;refine Y9 ?_;refine Kj (J _ s z.1 h) fun e R hk=>?_;cases e with
  | normal=>
   obtain⟨U,O,hk⟩:=hk;exact fun S rho a w D=>by
    obtain⟨S',rho',V⟩:=O S rho a w D;exact N K U z.2 hk S' rho' a w V
  | exit id=>exact hk
  | goto l=>exact hk
  | ret=>exact hk
  | panic c=>exact hk
  | outgrown=>exact hk
 | cond c a b J N=>
  intro K s z h;simp only[mM,aJ]at z;simp only[Dm]at h;split at h
  ·rename_i t Y;refine WC Y (fun e=>J K s z.1 ?_) (fun e=>N K s z.2 ?_)
   ·rw[e]at h;exact h
   rw[e]at h;exact h
  exact h.elim
 | block id c ih=>
  intro K s z h;exact TC (Kj (ih _ s z h) fun e R hk=>by cases e<;>exact hk)
 | loop c ih=>
  intro K s z h;obtain⟨α,I,m,Z,hr⟩:=h;refine WD I m Z fun x s hi=>?_;exact Kj (ih _ s z (hr x s hi)) fun e R hk=>by cases e<;>exact hk
 | exit id=>intro K s _ h S rho a w D;exact wp_exit ⟨S,rho,s,D,h⟩
 | ret=>intro K s _ h S rho a w D;exact wp_ret ⟨S,rho,s,D,h⟩
 | rangeFunc=>intro K s _ h;exact h.elim
 | scope=>intro K s _ h;exact h.elim
 | label=>intro K s _ h;exact h.elim
 | goto=>intro K s _ h;exact h.elim
 | refuse=>intro K s _ h;exact h.elim
def ri{α:Type}:List (Nat×α)->(Nat->α)->Nat->α
 | [],t=>t
 | (i,v)::r,t=>bd (ri r t) i v
def oT{α:Type}:List (Nat×α)->(Nat->α)->Prop
 | [],_=>True
 | (i,v)::r,t=>t i=v/\oT r t
theorem wD{α:Type}:∀(l:List (Nat×α)) (t:Nat->α),oT l t->ri l t=t:=by
 intro l
 induction l with
 | nil=>intro t _;rfl
 | cons p l ih=>
  intro t h;obtain⟨i,v⟩:=p;show bd (ri l t) i v=t;rw[ih t h.2];exact kD _ _ _ h.1
theorem TN{A:rZ}{c:Code}{K:Exit->AS->Prop}{s:AS}{α:Type}(R:α->Prop)(I:α->List (Nat×AV))(J:α->List (Nat×AB))(m:α->Nat)(x0:α)(s0:AS)(Z:aA A s s0)(hR:R x0)(ht:oT (I x0) s0.t)(hh:oT (J x0) s0.h)
  (D:∀x,R x->∀t h,Dm A c (qi (fun N=>∃y z,aA A N z/\R y/\m y<m x/\oT (I y) z.t/\oT (J y) z.h) K) ⟨ri (I x) t,ri (J x) h⟩):Dm A (.loop c) K s:=by
 refine⟨α,fun x s=>R x/\oT (I x) s.t/\oT (J x) s.h,m,⟨x0,s0,Z,hR,ht,hh⟩,fun x s ⟨h1,h2,h3⟩=>?_⟩;have:=D x h1 s.t s.h;rw[wD _ _ h2,wD _ _ h3]at this;have e:(qi (fun N=>∃y z,aA A N z/\R y/\m y<m x/\oT (I y) z.t/\oT (J y) z.h) K)=(qi (fun N=>∃y z,aA A N z/\(R y/\oT (I y) z.t/\oT (J y) z.h)/\m y<m x) K):=by
  funext e N;cases e<;>try rfl
  apply propext;constructor
  ·rintro⟨y,z,O,U,V,W,Y⟩;exact⟨y,z,O,⟨U,W,Y⟩,V⟩
  rintro⟨y,z,O,⟨U,W,Y⟩,V⟩;exact⟨y,z,O,U,V,W,Y⟩
 rw[<-e];exact this
end Go.AM
namespace Go.AM
open Go.RowKit
def zJ(l:List (Nat×TI))(t:TypeId):Option TI:=match l with
 | []=>none
 | (i,ti)::r=>match Nat.beq i t with
  | true=>some ti
  | false=>zJ r t
theorem tL{t:TypeId}{z:TI}:∀{l:List (Nat×TI)},zJ l t=some z->(t,z)∈l:=by
 intro l
 induction l with
 | nil=>intro h;cases h
 | cons p l ih=>
  intro h;obtain⟨i,ti'⟩:=p;unfold zJ at h;split at h
  ·rename_i e;have:=cY e;subst this;injection h with h;subst h;exact bW ..
  exact cD _ (ih h)
def QU:Value->Value->Bool
 | .int k n,.int k' n'=>kB k k'&&decide (n=n')
 | .bool b,.bool b'=>b==b'
 | .string s,.string s'=>s.data.toList==s'.data.toList
 | .slice none a b,.slice none a' b'=>Nat.beq a a'&&Nat.beq b b'
 | .pointer none,.pointer none=>true
 | .map none,.map none=>true
 | .nilFunc,.nilFunc=>true
 | .nilIface,.nilIface=>true
 | _,_=>false
theorem QV{v u:Value}(h:QU v u=true):v=u:=by
 unfold QU at h;split at h
 ·simp only[aJ,db]at h;rw[LY h.1,h.2]
 ·rw[eq_of_beq h]
 ·have:=eq_of_beq h;congr 1;exact ByteArray.ext (qI this)
 ·simp only[aJ]at h;rw[cY h.1,cY h.2]
 ·rfl
 ·rfl
 ·rfl
 ·rfl
 cases h
def FE:List Value->List Value->Bool
 | [],[]=>true
 | v::r,u::s=>QU v u&&FE r s
 | _,_=>false
theorem Oa:∀{a b:List Value},FE a b=true->a=b:=by
 intro a
 induction a with
 | nil=>intro b h;cases b with | nil=>rfl | cons=>cases h
 | cons v r ih=>
  intro b h;cases b with
  | nil=>cases h
  | cons u s=>
   simp only[FE,aJ]at h;rw[QV h.1,ih h.2]
def Zm:TypeDesc->Bool
 | .struct _ | .array _ _=>true
 | _=>false
def AQ(P:Program):List (Nat×Nat×Bool)->List Field->Bool
 | [],[]=>true
 | f::r,g::s=>Nat.beq f.1 g.offset&&!Nat.beq f.2.1 0&&(match P.info? g.type with
  | some i=>Nat.beq i.size f.2.1
  | none=>false)&&(match P.underlying g.type with
  | some d=>Zm d==f.2.2
  | none=>false)&&AQ P r s
 | _,_=>false
def udB(P:Program)(t:TypeId)(ti:TI):Bool:=match ti.ud,P.underlying t with
 | .sc,some .bool=>true
 | .sc,some d=>!Zm d&&!ti.eq
 | .int k,some (.int k')=>kB k k'
 | .st fs,some (.struct gs)=>AQ P fs gs.toList
 | .sl e,some (.slice e')=>Nat.beq e e'
 | .mp k e,some (.map k' e')=>Nat.beq k k'&&Nat.beq e e'
 | .str,some .string=>true
 | _,_=>false
def tiB(P:Program)(p:Nat×TI):Bool:=match P.info? p.1 with
 | some info=>Nat.beq info.size p.2.size&&Nat.beq info.bytes p.2.bytes&&(match info.zero with
  | some z=>FE z.cells.toList p.2.zero
  | none=>false)&&Nat.beq p.2.zero.length p.2.size&&p.2.zero.all Value.oneCell'&&udB P p.1 p.2
 | none=>false
theorem FF{P:Program}:∀{fs:List (Nat×Nat×Bool)} {gs:List Field},AQ P fs gs=true->fs.length=gs.length/\∀(i:Nat) f g,fs[i]?=some f->gs[i]?=some g->f.1=g.offset/\f.2.1≠0/\(∃N,P.info? g.type=some N/\N.size=f.2.1)/\
  (∃d,P.underlying g.type=some d/\f.2.2=(match d with | .struct _ | .array _ _=>true | _=>false)):=by
 intro fs
 induction fs with
 | nil=>intro gs h;cases gs with | nil=>exact⟨rfl,by simp⟩ | cons=>cases h
 | cons f r ih=>
  intro gs h;cases gs with
  | nil=>cases h
  | cons g s=>
   simp only[AQ,aJ]at h;obtain⟨⟨⟨⟨R,O⟩,z⟩,D⟩,U⟩:=h;obtain⟨V,W⟩:=ih U;refine⟨by simp[V],fun i Y Z I J=>?_⟩;cases i with
   | succ i=>exact W i Y Z (by simpa using I) (by simpa using J)
   | zero=>
    simp at I J;subst I J;refine⟨cY R,(fun e=>by rw[e]at O;cases O),?_,?_⟩
    ·split at z
     ·rename_i i hi;exact⟨i,hi,cY z⟩
     cases z
    split at D
    ·rename_i d hd;refine⟨d,hd,?_⟩;rw[<-eq_of_beq D];cases d<;>rfl
    cases D
theorem WS{P:Program}{t:TypeId}{O:TI}(h:tiB P (t,O)=true):qc P t O:=by
 unfold tiB at h;split at h
 ·rename_i info hi;simp only[aJ]at h;obtain⟨⟨⟨⟨⟨R,U⟩,N⟩,V⟩,W⟩,I⟩:=h;split at N
  ·rename_i z Y;refine⟨info,z,hi,cY R,cY U,Y,?_,cY V,fun v Z=>dY.1 W v Z,?_⟩
   ·rw[<-Oa N]
   simp only[udB]at I;split at I
   ·rename_i J D;rw[J];exact⟨⟨_,D,trivial⟩,fun _=>D⟩
   ·rename_i d cO J D;rw[J];simp only[aJ]at I;refine⟨⟨d,D,?_⟩,fun e=>?_⟩
    ·cases d<;>first | trivial | (cases I.1;done)
    rw[e]at I;cases I.2
   ·rename_i J D;rw[J,D,LY I]
   ·rename_i fs gs J D;rw[J];obtain⟨h9,YS⟩:=FF I;exact⟨gs,D,by simpa using h9,fun i f g hf hg=>YS i f g hf (by simpa using hg)⟩
   ·rename_i J D;rw[J,D,cY I]
   ·rename_i J D;simp only[aJ]at I;rw[J,D,cY I.1,cY I.2]
   ·rename_i J D;rw[J,D]
   cases I
  cases N
 cases h
def zsB(P:Program)(p:Nat×TI):Bool:=match P.info? p.1 with
 | some info=>match info.zero with
  | some z=>PG z==p.2.ud.agg
  | none=>false
 | none=>false
theorem Zn{P:Program}{l:List (Nat×TI)}(h:l.all (zsB P)=true):∀t D,zJ l t=some D->JR P t D:=fun t D I=>by
 have:=dY.1 h _ (tL I);unfold zsB at this;split at this
 ·rename_i info hi;split at this
  ·rename_i z J;exact⟨info,z,hi,J,eq_of_beq this⟩
  cases this
 cases this
theorem WT{P:Program}{l:List (Nat×TI)}(h:l.all (tiB P)=true):∀t z,zJ l t=some z->qc P t z:=fun _ _ D=>WS (dY.1 h _ (tL D))
def S4:Option TypeDesc->Value->Bool
 | some (.int _),.int _ _=>true
 | some .string,.string _=>true
 | some .bool,.bool _=>true
 | _,_=>false
def oq(P:Program):Nat->List Field->List Value->Bool
 | _,[],[]=>true
 | i, g :: r, z :: s => S4 (P.underlying g.type) z && Nat.beq g.offset i && g.name != "_" && oq P (i + 1) r s
 | _,_,_=>false
def BS(P:Program):Nat->List Field->List Value->Bool
 | _,[],[]=>true
 | _,[],_::_=>false
 | i, g :: r, zs => g.name != "_" && Nat.beq g.offset i && match P.underlying g.type with
  | some (.struct hs)=>(match P.info? g.type with
   | some inf=>Nat.beq inf.size hs.size
   | none=>false)&&!P.stoodInHeld g.type&&oq P 0 hs.toList (zs.take hs.size)&&BS P (i+hs.size) r (zs.drop hs.size)
  | _=>match zs with
   | z::s=>S4 (P.underlying g.type) z&&BS P (i+1) r s
   | []=>false
def WU(P:Program)(p:Nat×TI):Bool:=match p.2.eq,p.2.ud with
 | true,.st _=>(match P.underlying p.1 with
  | some (.struct gs)=>BS P 0 gs.toList p.2.zero&&Nat.beq p.2.zero.length p.2.size
  | _=>false)&&!P.stoodInHeld p.1&&!P.eqGuardType P.depth p.1
 | _,_=>true
theorem mq{P:Program}{w:World}{t:TypeId}{z:Value}(h:S4 (P.underlying t) z=true){xs:Array Value}{i:Nat}{v:Value}(D:xs[i]?=some v):(part t xs i).run P w=.ok v w:=by
 have:(isAgg t).run P w=.ok false w:=by
  rw[Go.isAgg,bT];unfold S4 at h;split at h<;>first
   | (rename_i I;rw[run_underlying I];rfl)
   | cases h
 simp[part,this,D]
theorem FG{a b:ByteArray}(h:a.toList=b.toList):a=b:=by
 rw[ByteArray.toList_eq,ByteArray.toList_eq]at h;obtain⟨⟨x⟩⟩:=a;obtain⟨⟨y⟩⟩:=b;simpa using h
theorem TO{o:Option TypeDesc}{k:IntKind}{n:Int}(h:S4 o (.int k n)=true):∃j,o=some (.int j):=by
 cases o with
 | none=>cases h
 | some d=>cases d<;>first | exact⟨_,rfl⟩ | cases h
theorem TQ{o:Option TypeDesc}{x:ByteArray}(h:S4 o (.string x)=true):o=some .string:=by
 cases o with
 | none=>cases h
 | some d=>cases d<;>first | rfl | cases h
theorem QW{o:Option TypeDesc}{x:Bool}(h:S4 o (.bool x)=true):o=some .bool:=by
 cases o with
 | none=>cases h
 | some d=>cases d<;>first | rfl | cases h
theorem wE{P:Program}{t:TypeId}{z:Value}{zs:List Value}{x:PV}{a b:List PV}{r:Bool}(hk:S4 (P.underlying t) z=true)(h:bU (z::zs) (x::a) b=some r):∃u v s c N,x=.im u/\b=.im v::s/\bU zs a s=some N/\r=(c&&N)/\∀d w,(Op.equalIn (d+1) t u v).run P w=.ok c w:=by
 cases b with
 | nil=>cases z<;>cases x<;>simp[bU]at h
 | cons y b=>
  unfold bU at h;split at h
  ·rename_i D I J;cases D
  ·rename_i D I J;injection D with D O;injection I with I R;injection J with J h3';subst D O I R J h3';split at h
   ·rename_i Y;have:=LY Y;subst this;obtain⟨N,U,V⟩:=aV.1 h;obtain⟨j,W⟩:=TO hk;refine⟨_,_,_,_,N,rfl,rfl,U,V.symm,fun d w=>?_⟩;rw[run_equalIn_int (P:=P) w d t _ j _ _ W];congr 1
   cases h
  ·rename_i D I J;injection D with D O;injection I with I R;injection J with J h3';subst D O I R J h3';obtain⟨N,U,V⟩:=aV.1 h;have W:=TQ hk;refine⟨_,_,_,_,N,rfl,rfl,U,V.symm,fun d w=>?_⟩;rw[run_equalIn_string (P:=P) w d t _ _ W];congr 1;rw[fV,beq_iff_eq,decide_eq_true_iff];exact⟨fun e=>FG e,fun e=>by rw[e]⟩
  ·rename_i D I J;injection D with D O;injection I with I R;injection J with J h3';subst D O I R J h3';obtain⟨N,U,V⟩:=aV.1 h;have W:=QW hk;refine⟨_,_,_,_,N,rfl,rfl,U,V.symm,fun d w=>?_⟩;rw[run_equalIn_bool' (P:=P) w d t _ _ W];congr 1
  cases h
theorem u3{P:Program}{w:World}(d:Nat)(xs ys:Array Value):∀(gs:List Field) (zs:List Value) (i:Nat) (a b:List PV) (r:Bool),oq P i gs zs=true->gs.length=a.length->(∀(j:Nat) x,a[j]?=some x->∃v,xs[i+j]?=some v/\x=.im v)->(∀(j:Nat) x,b[j]?=some x->∃v,ys[i+j]?=some v/\x=.im v)->bU zs a b=some r ->
  (Op.eqFields (d+1) xs ys gs).run P w=.ok r w:=by
 intro gs
 induction gs with
 | nil=>
  intro zs i a b r hi hl _ _ he;have:a=[]:=cI hl.symm;subst this;cases zs with
  | nil=>cases b with
   | nil=>simp[bU]at he;subst he;rfl
   | cons y b=>simp[bU]at he
  | cons z zs=>simp[oq]at hi
 | cons g gs ih=>
  intro zs i a b r hi hl ha hb he;cases a with
  | nil=>simp at hl
  | cons x a=>cases zs with
   | nil=>simp[oq]at hi
   | cons z zs=>
    simp only[oq,aJ]at hi;obtain⟨⟨⟨h1,h2⟩,h3⟩,h4⟩:=hi;have h2:=cY h2
    have zH : g.name ≠ "_" := by simpa using h3
    obtain⟨u,v,s1,c,r',rfl,rfl,yz,rfl,p3⟩:=wE h1 he;obtain⟨v',hv,WV⟩:=ha 0 _ rfl;obtain⟨u',sB,WW⟩:=hb 0 _ rfl;injection WV with WV;injection WW with WW;subst WV WW;have p1:=mq (w:=w) h1 (xs:=xs) (i:=g.offset) (by rw[h2];simpa using hv);have p2:=mq (w:=w) h1 (xs:=ys) (i:=g.offset) (by rw[h2];simpa using sB);have rest:=ih zs (i+1) a s1 r' h4 (by simpa using hl) (fun j x hx=>by obtain⟨v,q1,q2⟩:=ha (j+1) x (by simpa using hx);exact⟨v,by rw[<-q1];congr 1;omega,q2⟩) (fun j x hx=>by obtain⟨v,q1,q2⟩:=hb (j+1) x (by simpa using hx);exact⟨v,by rw[<-q1];congr 1;omega,q2⟩) yz;simp only[Op.eqFields,ae zH,bT,p1,p2,p3,dt];cases c with
    | true=>
     simp only[lY,AP,if_false,nk];exact rest
    | false=>simp
theorem FH{z:Value}{zs:List Value}{a b:List PV}{r:Bool}(h:bU (z::zs) a b=some r):∃x a' y b' c N,a=x::a'/\b=y::b'/\bU zs a' b'=some N/\r=(c&&N)/\∀O R U V,bU O R U=some V->bU (z::O) (x::R) (y::U)=some (c&&V):=by
 cases a with
 | nil=>cases z<;>simp[bU]at h
 | cons x a=>cases b with
  | nil=>cases z<;>cases x<;>simp[bU]at h
  | cons y b=>
   unfold bU at h;split at h
   ·rename_i D _ _;cases D
   ·rename_i D I J;injection D with D W;injection I with I Y;injection J with J h3';subst D W I Y J h3';split at h
    ·rename_i JW;obtain⟨N,Z,q2⟩:=aV.1 h;exact⟨_,_,_,_,_,N,rfl,rfl,Z,q2.symm,fun O R U V Zs=>by simp only[bU,JW,Zs,fB]⟩
    cases h
   ·rename_i D I J;injection D with D W;injection I with I Y;injection J with J h3';subst D W I Y J h3';obtain⟨N,Z,q2⟩:=aV.1 h;exact⟨_,_,_,_,_,N,rfl,rfl,Z,q2.symm,fun O R U V Zs=>by simp only[bU,Zs,fB]⟩
   ·rename_i D I J;injection D with D W;injection I with I Y;injection J with J h3';subst D W I Y J h3';obtain⟨N,Z,q2⟩:=aV.1 h;exact⟨_,_,_,_,_,N,rfl,rfl,Z,q2.symm,fun O R U V Zs=>by simp only[bU,Zs,fB]⟩
   cases h
theorem zK:∀{D I:List Value} {a b:List PV} {r:Bool},bU (D++I) a b=some r->∃J O N R U V,a=J++O/\b=N++R/\J.length=D.length/\N.length=D.length/\bU D J N=some U/\bU I O R=some V/\r=(U&&V)
 | [],I,a,b,r,h=>⟨[],a,[],b,true,r,rfl,rfl,rfl,rfl,rfl,h,rfl⟩
 | z::D,I,a,b,r,h=>by
  obtain⟨x,a',y,b',c,r',rfl,rfl,W,rfl,Y⟩:=FH (zs:=D++I) h;obtain⟨J,O,N,R,U,V,rfl,rfl,l1,l2,Z,k2,rfl⟩:=zK W;exact⟨x::J,O,y::N,R,c&&U,V,rfl,rfl,by simp[l1],by simp[l2],Y _ _ _ _ Z,k2,(Bool.and_assoc _ _ _).symm⟩
theorem yN{P:Program}:∀{gs:List Field} {z:List Value} {i:Nat},oq P i gs z=true->gs.length=z.length
 | [],[],_,_=>rfl
 | [],_::_,_,h=>by simp[oq]at h
 | _::_,[],_,h=>by simp[oq]at h
 | g::gs,c::z,i,h=>by
  simp only[oq,aJ]at h;simp[yN h.2]
theorem FI{P:Program}{w:World}(d:Nat)(xs ys:Array Value):∀(gs:List Field) (zs:List Value) (i:Nat) (a b:List PV) (r:Bool),BS P i gs zs=true->(∀(j:Nat) x,a[j]?=some x->∃v,xs[i+j]?=some v/\x=.im v)->(∀(j:Nat) x,b[j]?=some x->∃v,ys[i+j]?=some v/\x=.im v)->bU zs a b=some r ->
  (Op.eqFields (d+3) xs ys gs).run P w=.ok r w:=by
 intro gs
 induction gs with
 | nil=>
  intro zs i a b r hi _ _ he;cases zs with
  | nil=>
   cases a with
   | nil=>cases b with
    | nil=>simp[bU]at he;subst he;rfl
    | cons y b=>simp[bU]at he
   | cons x a=>simp[bU]at he
  | cons z zs=>simp[BS]at hi
 | cons g gs ih=>
  intro zs i a b r hi ha hb he;unfold BS at hi;simp only[aJ]at hi;obtain⟨⟨h3,h2⟩,hi⟩:=hi;have h2:=cY h2
  have zH : g.name ≠ "_" := by simpa using h3
  split at hi
  ·rename_i hs vt;simp only[aJ]at hi;obtain⟨⟨⟨h5,h6⟩,h7⟩,h8⟩:=hi;have h6:P.stoodInHeld g.type=false:=by simpa using h6
   split at h5
   ·rename_i inf acu;have h5:=cY h5;have hl:=yN h7;rw[lV]at hl;rw[<-o6 hs.size zs]at he;obtain⟨a1,a2,b1,b2,r1,r2,rfl,rfl,l1,l2,k1,k2,rfl⟩:=zK he;rw[<-hl]at l1 l2;have cut:∀(us:Array Value) (c1 c2:List PV),c1.length=hs.size->(∀(j:Nat) x,(c1++c2)[j]?=some x->∃v,us[i+j]?=some v/\x=.im v)->(part g.type us g.offset).run P w=.ok (.agg (us.extract i (i+hs.size))) w/\(∀(j:Nat) x,c1[j]?=some x->∃v,(us.extract i (i+hs.size))[0+j]?=some v/\x=.im v)/\∀(j:Nat) x,c2[j]?=some x->∃v,us[i+hs.size+j]?=some v/\x=.im v:=by
     intro us c1 c2 hc hu;refine⟨?_,fun j x hx=>?_,fun j x hx=>?_⟩
     ·have e1:(isAgg g.type).run P w=.ok true w:=by
       rw[Go.isAgg,bT,run_underlying vt];rfl
      have e2:(sizeOf g.type).run P w=.ok hs.size w:=by
       simp[Go.sizeOf,typeInfo,acu,h5]
      simp[part,e1,e2,h2]
     ·have hj:j<hs.size:=by rw[<-hc];exact aC hx
      obtain⟨v,q1,q2⟩:=hu j x (by rw[dN (by omega)];exact hx);exact⟨v,by rw[Array.getElem?_extract,ae (by have:=(cL.1 q1).1;omega),bp];exact q1,q2⟩
     obtain⟨v,q1,q2⟩:=hu (hs.size+j) x (by rw[du (by omega),<-hx];congr 1;omega);exact⟨v,by rw[<-q1];congr 1;omega,q2⟩
    obtain⟨p1,m1,n1⟩:=cut xs a1 a2 l1 ha;obtain⟨p2,m2,n2⟩:=cut ys b1 b2 l2 hb;have hf:P.fieldsOf g.type=hs:=by simp[Program.fieldsOf,vt]
    have p3:(Op.equalIn (d+3) g.type (.agg (xs.extract i (i+hs.size))) (.agg (ys.extract i (i+hs.size)))).run P w=.ok r1 w:=by
     rw[run_equalIn_struct w (d+2) g.type _ _ (by rw[hf];exact vt) h6,hf];exact u3 (d+1) _ _ hs.toList _ 0 a1 b1 r1 h7 (by rw[lV,l1]) m1 m2 k1
    have rest:=ih (zs.drop hs.size) (i+hs.size) a2 b2 r2 h8 n1 n2 k2;simp only[Op.eqFields,ae zH,bT,p1,p2,p3,dt];cases r1 with
    | true=>
     simp only[lY,AP,if_false,nk];exact rest
    | false=>simp
   cases h5
  split at hi
  ·rename_i z zs;simp only[aJ]at hi;obtain⟨h1,h4⟩:=hi;cases a with
   | nil=>cases z<;>simp[bU]at he
   | cons x a=>
    obtain⟨u,v,s1,c,r',rfl,rfl,yz,rfl,p3⟩:=wE h1 he;obtain⟨v',hv,WV⟩:=ha 0 _ rfl;obtain⟨u',sB,WW⟩:=hb 0 _ rfl;injection WV with WV;injection WW with WW;subst WV WW;have p1:=mq (w:=w) h1 (xs:=xs) (i:=g.offset) (by rw[h2];simpa using hv);have p2:=mq (w:=w) h1 (xs:=ys) (i:=g.offset) (by rw[h2];simpa using sB);have rest:=ih zs (i+1) a s1 r' h4 (fun j x hx=>by obtain⟨v,q1,q2⟩:=ha (j+1) x (by simpa using hx);exact⟨v,by rw[<-q1];congr 1;omega,q2⟩) (fun j x hx=>by obtain⟨v,q1,q2⟩:=hb (j+1) x (by simpa using hx);exact⟨v,by rw[<-q1];congr 1;omega,q2⟩) yz;simp only[Op.eqFields,ae zH,bT,p1,p2,p3,dt];cases c with
    | true=>
     simp only[lY,AP,if_false,nk];exact rest
    | false=>simp
  cases hi
variable {gs:Array Field}
theorem Ob{P:Program}{t:TypeId}{zs:List Value}(D:P.underlying t=some (.struct gs))(O:P.stoodInHeld t=false)(R:BS P 0 gs.toList zs=true){a b:List PV}{r:Bool}(U:bU zs a b=some r)(xs ys:Array Value)(w:World)
  (V:∀(i:Nat) x v,a[i]?=some x->xs[i]?=some v->x=.im v) (hb:∀(i:Nat) x v,b[i]?=some x->ys[i]?=some v->x=.im v) (W:a.length=xs.size) (Y:b.length=ys.size):(Op.equal t (.agg xs) (.agg ys)).run P w=.ok r w:=by
 have I:P.fieldsOf t=gs:=by simp[Program.fieldsOf,D]
 have z:∀(l:List PV) (zs:Array Value),l.length=zs.size->(∀(i:Nat) x v,l[i]?=some x->zs[i]?=some v->x=.im v)->∀(j:Nat) x,l[j]?=some x->∃v,zs[0+j]?=some v/\x=.im v:=by
  intro l zs hl Z j x J;obtain⟨v,N⟩:=lD hl (aC J);exact⟨v,by rw[bp];exact N,Z j x v J N⟩
 have key:=FI (P:=P) (w:=w) 9996 xs ys gs.toList zs 0 a b r R (z a xs W V) (z b ys Y hb) U;show (Op.equalIn (9999+1) t (.agg xs) (.agg ys)).run P w=_;rw[run_equalIn_struct w 9999 t xs ys (by rw[I];exact D) O,I];exact key
theorem H4{P:Program}{t:TypeId}{zs:List Value}(D:P.underlying t=some (.struct gs))(O:P.stoodInHeld t=false)(R:oq P 0 gs.toList zs=true){a b:List PV}{r:Bool}(U:bU zs a b=some r)(xs ys:Array Value)(w:World)
  (V:∀(i:Nat) x v,a[i]?=some x->xs[i]?=some v->x=.im v) (hb:∀(i:Nat) x v,b[i]?=some x->ys[i]?=some v->x=.im v) (W:a.length=xs.size) (Y:b.length=ys.size) (hsz:gs.size=a.length):(Op.equal t (.agg xs) (.agg ys)).run P w=.ok r w:=by
 have I:P.fieldsOf t=gs:=by simp[Program.fieldsOf,D]
 have z:∀(l:List PV) (zs:Array Value),l.length=zs.size->(∀(i:Nat) x v,l[i]?=some x->zs[i]?=some v->x=.im v)->∀(j:Nat) x,l[j]?=some x->∃v,zs[0+j]?=some v/\x=.im v:=by
  intro l zs hl Z j x J;obtain⟨v,N⟩:=lD hl (aC J);exact⟨v,by rw[bp];exact N,Z j x v J N⟩
 have key:=u3 (P:=P) (w:=w) 9998 xs ys gs.toList zs 0 a b r R (by simp;omega) (z a xs W V) (z b ys Y hb) U;show (Op.equalIn (9999+1) t (.agg xs) (.agg ys)).run P w=_;rw[run_equalIn_struct w 9999 t xs ys (by rw[I];exact D) O,I];exact key
theorem WX{P:Program}{l:List (Nat×TI)}(h:l.all (WU P)=true):∀t z op a b r,zJ l t=some z->z.eq=true->(∃fs,z.ud=.st fs)->bU z.zero a b=some r->∀(xs ys:Array Value) w,(∀(i:Nat) x v,a[i]?=some x->xs[i]?=some v->x=.im v)->(∀(i:Nat) x v,b[i]?=some x->ys[i]?=some v->x=.im v)->
  a.length=xs.size->b.length=ys.size->z.size=a.length->(op=.eql\/op=.neq)->∀(x y:Operand),(do eqGuard op t x y (.agg xs) (.agg ys);binOp op t (.agg xs) (.agg ys):Sem Value).run P w=.ok (.bool (if op=.eql then r else !r)) w:=by
 intro t z op a b r U V ⟨fs,J⟩ W xs ys w ha hb Y Z hsz R x y;have:=dY.1 h _ (tL U);unfold WU at this;simp only[V,J,aJ]at this;obtain⟨⟨I,N⟩,O⟩:=this;have N:P.stoodInHeld t=false:=by simpa using N
 have O:P.eqGuardType P.depth t=false:=by simpa using O
 split at I
 ·rename_i gs vt;simp only[aJ]at I;obtain⟨h4,_⟩:=I;have D:=Ob vt N h4 W xs ys w ha hb Y Z;have WY:(eqGuard op t x y (.agg xs) (.agg ys)).run P w=.ok () w:=by
   rcases R with rfl | rfl<;>simp[eqGuard,O]
  rw[bT,WY,dt];rcases R with rfl | rfl
  ·simp[binOp,D]
  simp[binOp,D]
 cases I
def WZ(P:Program)(p:Nat×TI):Bool:=match Dr p.2 with
 | some (.st _)=>(match P.underlying p.1 with
  | some (.struct gs)=>oq P 0 gs.toList p.2.zero
  | _=>false)&&!P.stoodInHeld p.1
 | _=>true
theorem TR:∀{z:List Value} {sh:List Nat} {a b:List Value},E_ z=some sh->nc sh a->nc sh b->bU z (a.map .im) (b.map .im)=some (Hj a b):=by
 intro z
 induction z with
 | nil=>
  intro sh a b h D hb;injection h with h;subst h;cases a<;>cases b<;>first
   | rfl
   | exact D.elim
   | exact hb.elim
 | cons c z ih=>
  intro sh a b h D hb;unfold E_ at h;split at h
  ·rename_i I;cases I
  all_goals first
   | (
     rename_i I;injection I with I O;subst I O;obtain⟨s,R,rfl⟩:=aV.1 h;cases a with
     | nil=>exact D.elim
     | cons x a=>cases b with
      | nil=>exact hb.elim
      | cons y b=>
       have J:=D.1;have N:=hb.1;cases x<;>first | (exact J.elim) | skip
       cases y<;>first | (exact N.elim) | skip
       have:=ih R D.2 hb.2
       first
        | (simp only[eH,bU,this,fB,Hj,Nn];done)
        | (
         have U:_=IntKind.i64:=J;have V:_=IntKind.i64:=N;subst U V;simp only[eH,bU,this,fB,Hj,Nn,kB];done))
   | cases h
theorem pj:∀{sh:List Nat} {a:List Value},nc sh a->a.length=sh.length
 | [],[],_=>rfl
 | [],_::_,h=>h.elim
 | _::_,[],h=>h.elim
 | _::_,_::_,h=>by simp[pj h.2]
theorem QX:∀{z:List Value} {sh:List Nat},E_ z=some sh->z.length=sh.length:=by
 intro z
 induction z with
 | nil=>intro sh h;injection h with h;subst h;rfl
 | cons c z ih=>
  intro sh h;unfold E_ at h;split at h
  ·rename_i D;cases D
  all_goals first
   | (
     rename_i D;injection D with D I;subst D I;obtain⟨s,J,rfl⟩:=aV.1 h;simp[ih J];done)
   | cases h
theorem H5{P:Program}{t:TypeId}{z:Value}(h:S4 (P.underlying t) z=true)(e:Bool)(n:Nat)(w:World)(v:Value):(Instr.checkKey e (n+1) t v).run P w=.ok () w:=by
 unfold S4 at h;split at h
 all_goals first
  | (rename_i D;cases v<;>simp[Instr.checkKey,run_underlying D];done)
  | cases h
theorem FJ{P:Program}(e:Bool)(n:Nat)(w:World)(xs:Array Value):∀(gs:List Field) (zs:List Value) (i:Nat),oq P i gs zs=true->(∀j,j<gs.length->∃v,xs[i+j]?=some v)->(forIn gs PUnit.unit fun f _=>(do
   if f.name ≠ "_" then Instr.checkKey e (n + 1) f.type (← part f.type xs f.offset)
   pure (ForInStep.yield PUnit.unit):Sem (ForInStep PUnit))).run P w=.ok PUnit.unit w:=by
 intro gs
 induction gs with
 | nil=>intro zs i _ _;rfl
 | cons g gs ih=>
  intro zs i hi hx;cases zs with
  | nil=>simp[oq]at hi
  | cons z zs=>
   simp only[oq,aJ]at hi;obtain⟨⟨⟨h1,h2⟩,h3⟩,h4⟩:=hi;have h2:=cY h2
   have zH : g.name ≠ "_" := by simpa using h3
   obtain⟨v,hv⟩:=hx 0 (by simp);have p1:=mq (w:=w) h1 (xs:=xs) (i:=g.offset) (by rw[h2];simpa using hv);have rest:=ih zs (i+1) h4 fun j hj=>by obtain⟨v,q⟩:=hx (j+1) (by simpa using hj);exact⟨v,by rw[<-q];congr 1;omega⟩
   simp only[List.forIn_cons,ae zH,bT,p1,H5 h1,dt,fY];exact rest
theorem FK{P:Program}{kt:TypeId}(vt:P.underlying kt=some (.struct gs))(e:Bool)(n:Nat)(w:World)(xs:Array Value):(Instr.checkKey e (n+1) kt (.agg xs)).run P w=((forIn gs.toList PUnit.unit fun f _=>(do
   if f.name ≠ "_" then Instr.checkKey e n f.type (← part f.type xs f.offset)
   pure (ForInStep.yield PUnit.unit):Sem (ForInStep PUnit))).run P w).andThen fun _ w'=>.ok () w':=by
 simp only[Instr.checkKey,bT,run_underlying vt,dt,<-Array.forIn_toList];rfl
theorem TS{P:Program}{l:List (Nat×TI)}(h:l.all (WZ P)=true):∀D I sh,zJ l D=some I->Dr I=some (.st sh)->PH P D (.st sh):=by
 intro D I sh ht z;have:=dY.1 h _ (tL ht);unfold WZ at this;simp only[z,aJ]at this;obtain⟨J,U⟩:=this;have U:P.stoodInHeld D=false:=by simpa using U
 have N:E_ I.zero=some sh:=by
  unfold Dr at z;split at z<;>first
   | (cases z;done)
   | skip
  all_goals (split at z)
  all_goals first
   | (cases z;done)
   | (obtain⟨s,hs,e⟩:=aV.1 z;injection e with e;subst e;exact hs)
 split at J
 ·rename_i gs V;have hlen:gs.size=sh.length:=by have:=yN J;rw[QX N]at this;simpa using this
  refine⟨fun e k w hk=>?_,fun k w O hk Y=>?_⟩
  ·cases k<;>first | (exact hk.elim) | skip
   rename_i xs;have hl:=pj (sh:=sh) hk;have hl:xs.size=sh.length:=by simpa using hl
   have:=FJ e 9998 w xs gs.toList I.zero 0 J fun j hj=>⟨xs[j]'(by simp at hj;omega),by rw[bp];exact cC _⟩;exact (FK V e 9999 w xs).trans (by rw[this];rfl)
  rw[run_findKey_eq w (by rw[V]) k O];show (Instr.findAsking D k O 0).run P w=.ok (uU k O 0) w;generalize 0=i
  induction O generalizing i with
  | nil=>rfl
  | cons m O ih=>
   have W:=Y m bW;cases k<;>first | (exact hk.elim) | skip
   rename_i xs;obtain⟨mk,mv,mb⟩:=m;cases mk<;>first | (exact W.elim) | skip
   rename_i ys;have hlx:xs.size=sh.length:=by simpa using pj (sh:=sh) hk
   have hly:ys.size=sh.length:=by simpa using pj (sh:=sh) W
   have Z:∀(zs:Array Value) (i:Nat) x v,(zs.toList.map PV.im)[i]?=some x->zs[i]?=some v->x=.im v:=fun zs i x v R q2=>by
    rw[aD,kC,q2]at R;injection R with R;exact R.symm
   have:=H4 V U J (TR (sh:=sh) N hk W) xs ys w (Z xs) (Z ys) (by simp) (by simp) (by simp;omega);unfold Instr.findAsking uU;simp only[bT,this,dt,Dj];cases Hj xs.toList ys.toList with
   | true=>rfl
   | false=>exact ih (fun x hx=>Y x (cD _ hx)) _
 cases J
end Go.AM
namespace Go.AM
open Go.RowKit
variable {A:rZ}
theorem aA.eK(hC:bP A.C)(s:AS)(d:Nat)(e:TypeId)(I:TI)(O:d<100000)(R:s.t d=.nl)(U:A.C.T e=some I)(hpos:0<I.size):
  aA A s ⟨bd (jk d s).t d (.ow d),bd (jk d s).h d (.row e [])⟩:=by
 intro S rho a w D;have V:a.tmps.getD d undef=.slice none 0 0:=by
  have:=D.tm d trivial;rw[R]at this;generalize a.tmps.getD d undef=v at this;cases this;rfl
 have W:=D.free d (.row e []);obtain⟨info,z,Y,h2,h3,h4,h5,h6,h7,h8⟩:=hC.jw e I U;have Z:=W.new hC d (.row e []) O (fun h=>h rfl) (aF _ _ _) w rfl rfl rfl (aG _) (fun _=>False) (fun _ _ _=>rfl) (fun _ h=>h.elim) (.slice none 0 0) (fun g hg=>by cases hg) fun T=>by
  show aH _ _ _ _ _ (bd rho d _ d);rw[aF];exact⟨info,[],Y,by omega,⟨by simp,.inl ⟨rfl,rfl⟩⟩,by simp,by simp,by simp⟩
 have J:cn A cX cX S (bd rho d (.slice none 0 0)) ⟨(jk d s).t,bd (jk d s).h d (.row e [])⟩ a w:=Z.sL (fun _ _=>trivial) (fun k=>⟨fun _=>by by_cases e:k=d;exact .inr e;exact .inl e,fun _=>trivial⟩);refine⟨S,_,{ J with tm:=fun j _=>?_ }⟩;by_cases N:j=d
 ·subst N;show bu _ _ _ _ _ _ (bd _ _ _ _) _;rw[aF];exact .ow j _ fun _=>⟨trivial,by rw[aF];exact V⟩
 show bu _ _ _ _ _ _ (bd _ _ _ _) _;rw[bg _ _ N];exact J.tm j trivial
theorem aA.iT(hC:bP A.C)(s:AS)(d:Nat){y:PV}{fz:List (Nat×AB)}(h:AM.iT s.h (s.t d) fun D I=>D=y/\I=fz):aA A s ⟨bd s.t d (.p y),app s.h fz⟩:=by
 intro S rho a w z;obtain⟨D,I,S',⟨rfl,rfl⟩,J,hp,hS,hF,_⟩:=jA hC z (h:=s.h) (fun _=>.inl rfl) (z.tm d trivial) h;refine⟨S',rho,{ J with tm:=fun j _=>?_ }⟩;by_cases N:j=d
 ·subst N;show bu _ _ _ _ _ _ (bd _ _ _ _) _;rw[aF];exact .p _ _ hp
 show bu _ _ _ _ _ _ (bd _ _ _ _) _;rw[bg _ _ N];exact J.tm j trivial
theorem aA.nil(hC:bP A.C)(s:AS)(d:Nat)(h:s.t d=.nl):aA A s ⟨bd s.t d (.p (.sl [])),s.h⟩:=aA.iT hC s d (y:=.sl []) (fz:=[]) (by rw[h];exact⟨rfl,rfl⟩)
theorem aA.own(hC:bP A.C)(s:AS)(d:Nat){id:Nat}{e:TypeId}{es:List (List PV)}(h:s.t d=.ow id)(z:s.h id=.row e es):aA A s ⟨bd s.t d (.p (.sl es)),bd s.h id (.lz es)⟩:=aA.iT hC s d (y:=.sl es) (fz:=[(id,.lz es)]) (by rw[h];simp only[AM.iT,AM.nZ];rw[z];exact⟨rfl,rfl⟩)
theorem aA.N0(s:AS)(i d:Nat)(hid:i≠d)(D:d<100000):aA A s (oS i d s):=fun S _ _ _ z=>⟨S,_,z.rename i d hid D⟩
theorem aA.gH(hC:bP A.C)(s:AS)(id j d:Nat)(e:TypeId)(I:TI)(cs:List AV)(Z:d<100000)(hid:id≠d)(hb:s.h id=.box cs)(hn:cs[j]?=some .nl)(hT:A.C.T e=some I)(hpos:0<I.size):
  aA A s ⟨(jk d s).t,bd (bd (jk d s).h d (.row e [])) id (.box ((cs.map (sc d)).set j (.ow d)))⟩:=by
 intro S rho a w J;have vy:=J.free d (.row e []);obtain⟨info,z,h1,h2,h3,h4,h5,h6,h7,h8⟩:=hC.jw e I hT;have bH:=vy.new hC d (.row e []) Z (fun h=>h rfl) (aF _ _ _) w rfl rfl rfl (aG _) (fun _=>False) (fun _ _ _=>rfl) (fun _ h=>h.elim) (.slice none 0 0) (fun g hg=>by cases hg) fun T=>by
  show aH _ _ _ _ _ (bd rho d _ d);rw[aF];exact⟨info,[],h1,by omega,⟨by simp,.inl ⟨rfl,rfl⟩⟩,by simp,by simp,by simp⟩
 have R:cn A cX cX S (bd rho d (.slice none 0 0)) ⟨(jk d s).t,bd (jk d s).h d (.row e [])⟩ a w:=bH.sL (fun _ _=>trivial) (fun k=>⟨fun _=>by by_cases e:k=d;exact .inr e;exact .inl e,fun _=>trivial⟩);have aU:(bd (jk d s).h d (.row e [])) id=.box (cs.map (sc d)):=by
  rw[bg _ _ hid];show bd (fun k=>zF d (s.h k)) d .none id=_;rw[bg _ _ hid,hb];rfl
 refine⟨S,_,R.write hC id trivial (by show ((bd (jk d s).h d (.row e [])) id).live;rw[aU];trivial) _ (fun _ h=>by cases h) w rfl rfl rfl rfl (fun _ _=>rfl) fun T=>?_⟩;have D:=R.hp id trivial;have D:fD S w A.C.P cX (bd rho d (.slice none 0 0)) (bd (jk d s).h d (.row e [])) id ((bd (jk d s).h d (.row e [])) id):=D;rw[aU]at D;obtain⟨g,ty,c,k1,k2,k3,U⟩:=D;refine⟨g,ty,c,k1,k2,by rw[k3,aQ],fun i x u hi V=>?_⟩;by_cases W:i=j
 ·subst W;have Y:(cs.map (sc d))[i]?=some .nl:=by rw[aD,hn];rfl
  rw[dZ (aC Y)]at hi;injection hi with hi;subst hi;obtain⟨N,O⟩:=U i _ u Y V;refine⟨N,.ow d u fun _=>⟨trivial,?_⟩⟩;rw[aF];cases O;rfl
 rw[gC (fun e=>W e.symm)]at hi;obtain⟨N,O⟩:=U i x u hi V;exact⟨N,O.de T⟩
theorem aA.gI(hC:bP A.C)(s:AS)(id j i:Nat)(e:TypeId)(es:List (List PV))(cs:List AV)(hid:id≠i)(hb:s.h id=.box cs)(R:cs[j]?=some (.ow i))(Y:s.h i=.row e es):
  aA A s ⟨s.t,bd (bd s.h i (.lz es)) id (.box (cs.set j (.p (.sl es))))⟩:=by
 intro S rho a w I;have J:=I.D6 hC i trivial Y;have aU:(bd s.h i (.lz es)) id=.box cs:=by rw[bg _ _ hid];exact hb
 refine⟨_,_,J.write hC id trivial (by show ((bd s.h i (.lz es)) id).live;rw[aU];trivial) _ (fun _ h=>by cases h) w rfl rfl rfl rfl (fun _ _=>rfl) fun T=>?_⟩;have z:=J.hp id trivial;have z:fD _ w A.C.P cX rho (bd s.h i (.lz es)) id ((bd s.h i (.lz es)) id):=z;rw[aU]at z;have D:=J.hp i trivial;have D:fD _ w A.C.P cX rho (bd s.h i (.lz es)) i ((bd s.h i (.lz es)) i):=D;rw[aF]at D;obtain⟨g,Z,c,k1,k2,k3,U⟩:=z;refine⟨g,Z,c,k1,k2,by rw[k3,aQ],fun q x u hi V=>?_⟩;by_cases W:q=j
 ·subst W;rw[dZ (aC R)]at hi;injection hi with hi;subst hi;obtain⟨N,O⟩:=U q _ u R V;refine⟨N,.p _ _ ?_⟩;rw[(O.cZ (by rw[aF];trivial)).2];exact D
 rw[gC (fun e=>W e.symm)]at hi;obtain⟨N,O⟩:=U q x u hi V;exact⟨N,O.de T⟩
end Go.AM
namespace Go.AM
open Go.RowKit
def sf:List Nat->List (Nat×AB)
 | []=>[]
 | n::r=>(n,.none)::sf r
theorem Es{h:Nat->AB}:∀{l:List Nat} (k:Nat),app h (sf l) k=if k∈l then .none else h k
 | [],k=>by simp[sf,app]
 | n::l,k=>by
  show app (bd h n .none) (sf l) k=_;rw[Es (l:=l) k];by_cases z:k∈l
  ·simp[z]
  by_cases D:k=n
  ·subst D;simp[z,aF]
  simp[z,D,bg]
variable {A:rZ}
theorem aA.pack(hC:bP A.C)(s:AS)(id:Nat){bs:List AV}{cs:List HC}(hb:s.h id=.box bs)(W:ed (bO bs)=true)(hp:zG s.h bs cs):aA A s ⟨s.t,bd (app s.h (sf (bO bs))) id (.aU cs)⟩:=by
 intro S rho a w z;obtain⟨g,Y,c,Z,k2,k3⟩:=BI z (id:=id) trivial hb W hp;have bY:(s.h id).live:=by rw[hb];trivial
 have at':∀j,(j=id/\bd (app s.h (sf (bO bs))) id (.aU cs) j=.aU cs)\/(j≠id/\j∈bO bs/\bd (app s.h (sf (bO bs))) id (.aU cs) j=.none)\/(j≠id/\¬j∈bO bs/\bd (app s.h (sf (bO bs))) id (.aU cs) j=s.h j):=fun j=>by
  by_cases e:j=id
  ·subst e;exact .inl ⟨rfl,aF _ _ _⟩
  rw[bg _ _ e,Es];by_cases h:j∈bO bs
  ·exact .inr (.inl ⟨e,h,ae h⟩)
  exact .inr (.inr ⟨e,h,aa h⟩)
 have T:ng S S w w cX cX rho rho s.h (bd (app s.h (sf (bO bs))) id (.aU cs)):=⟨fun _ h=>h,fun _ _=>rfl,fun j D=>⟨by
   rcases at' j with⟨rfl,_⟩ | ⟨_,_,h⟩ | ⟨_,_,h⟩
   ·rw[hb];trivial
   ·rw[h]at D;exact D.elim
   ·rw[h]at D;exact D,fun _=>⟨trivial,rfl⟩⟩,fun j e D=>by
   rcases at' j with⟨_,h⟩ | ⟨_,_,h⟩ | ⟨_,_,h⟩
   ·rw[h]at D;cases D
   ·rw[h]at D;cases D
   rw[h]at D;exact D⟩
 have I:∀j g,(bd (app s.h (sf (bO bs))) id (.aU cs) j).live->hasB w (bd (app s.h (sf (bO bs))) id (.aU cs) j) (rho j) g->∃k,(s.h k).live/\hasB w (s.h k) (rho k) g/\((j=id/\(k=id\/k∈bO bs))\/(j=k/\j≠id/\¬j∈bO bs)):=fun j g hl O=>by
  rcases at' j with⟨rfl,h⟩ | ⟨_,_,h⟩ | ⟨R,h2,h⟩
  ·rw[h]at O;rcases k3 g O with h | ⟨n,R,_,h3,h4⟩
   ·exact⟨j,bY,.inl h,.inl ⟨rfl,.inl rfl⟩⟩
   exact⟨n,h3,.inl h4,.inl ⟨rfl,.inr R⟩⟩
  ·rw[h]at hl;exact hl.elim
  rw[h]at hl O;exact⟨j,hl,O,.inr ⟨rfl,R,h2⟩⟩
 exact⟨S,rho,
 {tm:=fun j D=>(z.tm j D).de T
  sz:=z.sz,df:=z.df,nb:=z.nb,pn:=z.pn,ev:=z.ev,s0:=z.s0,st:=z.st,sb:=z.sb
  hp:=fun j _=>by
   show fD _ _ _ _ _ _ _ (bd (app s.h (sf (bO bs))) id (.aU cs) j);rcases at' j with⟨rfl,h⟩ | ⟨_,_,h⟩ | ⟨_,_,h⟩
   ·rw[h];exact⟨g,Y,c,Z,k2⟩
   ·rw[h];trivial
   rw[h];exact (z.hp j trivial).de T (fun _ _ _=>rfl) (fun _=>rfl)
  dj:=fun i j g _ _ U lj hi D=>by
   obtain⟨k,l1,V,J⟩:=I i g U hi;obtain⟨m,l2,o2,N⟩:=I j g lj D;have:=z.dj k m g trivial trivial l1 l2 V o2;subst this;rcases J with⟨rfl,J⟩ | ⟨rfl,J,c3⟩<;>rcases N with⟨rfl,N⟩ | ⟨rfl,N,c4⟩
   ·rfl
   ·rcases J with J | J
    ·exact (N J).elim
    exact (c4 J).elim
   ·rcases N with N | N
    ·exact (J N).elim
    exact (c3 N).elim
   rfl
  lv:=fun i g _ U hi=>by
   obtain⟨k,l1,V,_⟩:=I i g U hi;exact z.lv k g trivial l1 V
  fr:=z.fr }⟩
def tM:List HC->List Nat->List AV
 | [],_=>[]
 | .p x::r,ns=>.p x::tM r ns
 | .row _ _::r,n::ns=>.ow n::tM r ns
 | .row _ _::r,[]=>.junk::tM r []
def DE:List HC->List Nat->List (Nat×AB)
 | [],_=>[]
 | .p _::r,ns=>DE r ns
 | .row e es::r,n::ns=>(n,.row e es)::DE r ns
 | .row _ _::_,[]=>[]
def rowsOf:List HC->Nat
 | []=>0
 | .p _::r=>rowsOf r
 | .row _ _::r=>rowsOf r+1
def l9:List (Nat×AB)->AS->AS
 | [],s=>s
 | (d,b)::r,s=>l9 r ⟨(jk d s).t,bd (jk d s).h d b⟩
theorem yO:∀{cs:List HC} {ns:List Nat},rowsOf cs=ns.length->(DE cs ns).map (·.1)=ns
 | [],ns,h=>by cases ns with | nil=>rfl | cons n ns=>simp[rowsOf]at h
 | .p x::cs,ns,h=>by show (DE cs ns).map _=_;exact yO h
 | .row e es::cs,[],h=>by simp[rowsOf]at h
 | .row e es::cs,n::ns,h=>by
  simp only[rowsOf,bN,AK]at h;simp[DE,yO h]
theorem Mn:∀{cs:List HC} {ns:List Nat} {n:Nat} {b:AB},(n,b)∈DE cs ns->∃(j:Nat) (e:TypeId) (es:List (List PV)),cs[j]?=some (.row e es)/\b=.row e es/\(tM cs ns)[j]?=some (.ow n)
 | [],ns,n,b,h=>by cases h
 | .p x::cs,ns,n,b,h=>by
  obtain⟨j,e,es,z,D,I⟩:=Mn (cs:=cs) (ns:=ns) h;exact⟨j+1,e,es,z,D,I⟩
 | .row e es::cs,[],n,b,h=>by cases h
 | .row e es::cs,m::ns,n,b,h=>by
  rcases aq.1 h with h | h
  ·injection h with z D;subst z D;exact⟨0,e,es,rfl,rfl,rfl⟩
  obtain⟨j,e,es,z,D,I⟩:=Mn (cs:=cs) (ns:=ns) h;exact⟨j+1,e,es,z,D,I⟩
theorem FL:∀{cs:List HC} {ns:List Nat} {j:Nat} {x:AV},rowsOf cs=ns.length->(tM cs ns)[j]?=some x->(∃z,cs[j]?=some (.p z)/\x=.p z)\/∃n e es,cs[j]?=some (.row e es)/\x=.ow n/\(n,.row e es)∈DE cs ns
 | [],ns,j,x,_,h=>by simp[tM]at h
 | .p y::cs,ns,0,x,_,h=>by simp[tM]at h;exact .inl ⟨y,rfl,h.symm⟩
 | .p y::cs,ns,j+1,x,hl,h=>by
  have:=FL (cs:=cs) (ns:=ns) (j:=j) hl (by simpa [tM] using h);exact this
 | .row e es::cs,[],j,x,hl,_=>by simp[rowsOf]at hl
 | .row e es::cs,n::ns,0,x,_,h=>by simp[tM]at h;exact .inr ⟨n,e,es,rfl,h.symm,by simp[DE]⟩
 | .row e es::cs,n::ns,j+1,x,hl,h=>by
  simp only[rowsOf,bN,AK]at hl;rcases FL (cs:=cs) (ns:=ns) (j:=j) hl (by simpa [tM] using h) with h | ⟨m,e',D,I,J,N⟩
  ·exact .inl h
  exact .inr ⟨m,e',D,I,J,by simp[DE,N]⟩
theorem AT:∀{cs:List HC} {ns:List Nat},(tM cs ns).length=cs.length
 | [],_=>rfl
 | .p x::cs,ns=>by simp[tM,AT (cs:=cs)]
 | .row e es::cs,[]=>by simp[tM,AT (cs:=cs)]
 | .row e es::cs,n::ns=>by simp[tM,AT (cs:=cs)]
theorem zL{S:Nat->Prop}{rho:Nat->Value}{a:Act}{w:World}:∀(l:List (Nat×AB)) (L:Nat->Prop) (s:AS),cn A cX L S rho s a w->cn A cX (fun k=>L k/\∀p∈l,p.1≠k) S rho (l9 l s) a w
 | [],L,s,sim=>sim.sL (fun _ h=>h) (fun i=>⟨fun h=>h.1,fun h=>⟨h,by simp⟩⟩)
 | (d,b)::l,L,s,sim=>(zL l _ _ (sim.Vp d b)).sL (fun _ h=>h) (fun i=>⟨fun ⟨D,z⟩=>⟨⟨D,fun e=>z (d,b) (by simp) e.symm⟩,fun p hp=>z p (by simp[hp])⟩,fun ⟨⟨D,z⟩,h3⟩=>⟨D,fun p hp=>by
   rcases aq.1 hp with h | h
   ·subst h;exact fun e=>z e.symm
   exact h3 p h⟩⟩)
theorem sP:∀(l:List (Nat×AB)) (s:AS) (k:Nat),(∀p∈l,p.1≠k)->(∀d,zF d (s.h k)=s.h k)->(l9 l s).h k=s.h k
 | [],s,k,_,_=>rfl
 | (d,b)::l,s,k,h,z=>by
  have hk:k≠d:=fun e=>h (d,b) (by simp) e.symm;have D:bd (jk d s).h d b k=s.h k:=by
   rw[bg _ _ hk];show bd (fun k=>zF d (s.h k)) d .none k=_;rw[bg _ _ hk];exact z d
  show (l9 l ⟨(jk d s).t,bd (jk d s).h d b⟩).h k=_;rw[sP l _ k (fun p hp=>h p (by simp[hp])) (fun I=>by show zF I (bd (jk d s).h d b k)=bd (jk d s).h d b k;rw[D];exact z I)];exact D
theorem BU:∀(l:List (Nat×AB)) (s:AS) (k:Nat) (b:AB),(l.map (·.1)).Nodup->(∀d,zF d b=b)->(k,b)∈l->(l9 l s).h k=b
 | [],s,k,b,_,_,h=>by cases h
 | (d,D)::l,s,k,b,hn,hb,h=>by
  simp only[eH,nj]at hn;show (l9 l ⟨(jk d s).t,bd (jk d s).h d D⟩).h k=_;rcases aq.1 h with h | h
  ·injection h with h1 h2;subst h1 h2;rw[sP l _ k (fun p hp e=>hn.1 (aZ.2 ⟨p,hp,e⟩)) (fun z=>by show zF z (bd (jk k s).h k b k)=bd (jk k s).h k b k;rw[aF];exact hb z)];exact aF _ _ _
  exact BU l _ k b hn.2 hb h
theorem sg:∀{l:List Nat},ed l=true->l.Nodup
 | [],_=>by simp
 | n::l,h=>by
  simp[ed]at h;refine nj.2 ⟨fun z=>?_,sg h.2.2⟩;rw[oh.2 z]at h;cases h.1
theorem aA.open(hC:bP A.C)(s:AS)(id:Nat)(ns:List Nat){cs:List HC}(hb:s.h id=.aU cs)(hl:rowsOf cs=ns.length)(hg:ed ns=true)(hid:HJ id ns=false):
  aA A s ⟨(l9 (DE cs ns) s).t,bd (l9 (DE cs ns) s).h id (.box (tM cs ns))⟩:=by
 intro S rho a w sw;have hnm:=yO hl;have SZ:((DE cs ns).map (·.1)).Nodup:=by rw[hnm];exact sg hg
 have nQ:∀n,n∈ns↔∃b,(n,b)∈DE cs ns:=fun n=>by rw[show (n∈ns)=(n∈(DE cs ns).map (·.1)) by rw[hnm]];simp
 have Z:¬id∈ns:=fun h=>by rw[oh.2 h]at hid;cases hid
 have I:=zL (DE cs ns) cX s sw;have I:cn A cX (fun k=>¬k∈ns) S rho (l9 (DE cs ns) s) a w:=I.sL (fun _ h=>h) (fun i=>⟨fun h=>⟨trivial,fun p hp e=>h (by rw[nQ,<-e];exact⟨p.2,hp⟩)⟩,fun ⟨_,h⟩ R=>by obtain⟨b,U⟩:=(nQ i).1 R;exact h _ U rfl⟩);obtain⟨J,Ny⟩:∃J,J=l9 (DE cs ns) s:=⟨_,rfl⟩;have BV:J.h id=.aU cs:=by
  rw[Ny,sP _ _ id (fun p hp e=>Z (by rw[nQ,<-e];exact⟨p.2,hp⟩)) (fun d=>by rw[hb];rfl),hb]
 have Zu:∀n b,(n,b)∈DE cs ns->J.h n=b:=fun n b R=>by
  obtain⟨j,e,es,_,rfl,_⟩:=Mn R;rw[Ny];exact BU _ _ n _ SZ (fun d=>rfl) R
 rw[<-Ny]at I ⊢;have hh:=I.hp id Z;rw[BV]at hh;obtain⟨g,ty,c,k1,V⟩:=hh;have N2:cF (rho id)=some g:=by rw[k1];rfl
 have bY:(J.h id).live:=by rw[BV];trivial
 have place:∀n,n∈ns->∃(j:Nat) (e:TypeId) (es:List (List PV)) (u:Value),cs[j]?=some (.row e es)/\(tM cs ns)[j]?=some (.ow n)/\c[j]?=some u/\J.h n=.row e es/\(n,AB.row e es)∈DE cs ns:=fun n R=>by
  obtain⟨b,U⟩:=(nQ n).1 R;obtain⟨j,e,es,O,rfl,h3⟩:=Mn U;obtain⟨u,Y⟩:=lD V.sz.symm (aC O);exact⟨j,e,es,u,O,h3,Y,Zu n _ U,U⟩
 obtain⟨F,hF⟩:∃F:Nat->Value,∀n,n∈ns->∃(j:Nat) (e:TypeId) (es:List (List PV)),cs[j]?=some (.row e es)/\(tM cs ns)[j]?=some (.ow n)/\c[j]?=some (F n)/\J.h n=.row e es/\(n,AB.row e es)∈DE cs ns:=by
  have ex:∀n,∃u:Value,n∈ns->∃(j:Nat) (e:TypeId) (es:List (List PV)),cs[j]?=some (.row e es)/\(tM cs ns)[j]?=some (.ow n)/\c[j]?=some u/\J.h n=.row e es/\(n,AB.row e es)∈DE cs ns:=fun n=>by
   by_cases R:n∈ns
   ·obtain⟨j,e,es,u,h⟩:=place n R;exact⟨u,fun _=>⟨j,e,es,h⟩⟩
   exact⟨undef,fun h=>(R h).elim⟩
  exact⟨fun n=>(ex n).choose,fun n=>(ex n).choose_spec⟩
 have TU:∀{cs:List HC} {ns:List Nat} {i j n:Nat},rowsOf cs=ns.length->ed ns=true->(tM cs ns)[i]?=some (.ow n)->(tM cs ns)[j]?=some (.ow n)->i=j:=by
  intro cs ns i j n hl hg O h2;have VC:∀{cs:List HC} {ns:List Nat},rowsOf cs=ns.length->bO (tM cs ns)=ns:=by
   intro cs
   induction cs with
   | nil=>intro ns h;cases ns with | nil=>rfl | cons n ns=>simp[rowsOf]at h
   | cons x cs ih=>
    intro ns h;cases x with
    | p x=>exact ih h
    | row e es=>
     cases ns with
     | nil=>simp[rowsOf]at h
     | cons n ns=>
      simp only[rowsOf,bN,AK]at h;show n::bO (tM cs ns)=_;rw[ih h]
  exact qV (by rw[VC hl];exact hg) O h2
 obtain⟨rho',VD⟩:∃rho':Nat->Value,rho'=fun k=>if k∈ns then F k else rho k:=⟨_,rfl⟩;have Yp:∀k,k∈ns->rho' k=F k:=fun k hk=>by rw[VD];exact ae hk
 have KI:∀k,¬k∈ns->rho' k=rho k:=fun k hk=>by rw[VD];exact aa hk
 have Zv:∀k,(k=id/\bd J.h id (.box (tM cs ns)) k=.box (tM cs ns))\/(k≠id/\bd J.h id (.box (tM cs ns)) k=J.h k):=fun k=>by
  by_cases e:k=id
  ·subst e;exact .inl ⟨rfl,aF _ _ _⟩
  exact .inr ⟨e,bg _ _ e⟩
 have T:ng S S w w (fun k=>¬k∈ns) cX rho rho' J.h (bd J.h id (.box (tM cs ns))):=⟨fun _ h=>h,fun _ _=>rfl,fun j D=>⟨by
   rcases Zv j with⟨rfl,h⟩ | ⟨_,h⟩
   ·rw[BV];trivial
   ·rw[h]at D;exact D,fun hn=>⟨trivial,KI j hn⟩⟩,fun j e D=>by
   rcases Zv j with⟨_,h⟩ | ⟨_,h⟩
   ·rw[h]at D;cases D
   rw[h]at D;exact D⟩
 have N:∀j k,(bd J.h id (.box (tM cs ns)) j).live->hasB w (bd J.h id (.box (tM cs ns)) j) (rho' j) k->∃o,¬o∈ns/\(J.h o).live/\hasB w (J.h o) (rho o) k/\(if j∈ns then o=id else o=j):=fun j k hl ho=>by
  by_cases D:j∈ns
  ·obtain⟨i,e,es,O,h2,h3,h4,h5⟩:=hF j D;have hji:j≠id:=fun e=>Z (e▸D);rw[bg _ _ hji,h4,Yp j D]at ho;refine⟨id,Z,bY,?_,by rw[ae D]⟩;rw[BV];exact .inr <| .inl ⟨cs,g,rfl,N2,c,ty,_,i,_,F j,V.hp,O,trivial,h3,aI rfl ho⟩
  rw[KI j D]at ho;rcases Zv j with⟨rfl,h⟩ | ⟨_,h⟩
  ·rw[h]at ho;exact⟨j,D,bY,.inl (aI rfl ho),by rw[aa D]⟩
  rw[h]at hl ho;exact⟨j,D,hl,ho,by rw[aa D]⟩
 exact⟨S,rho',
 {tm:=fun j D=>(I.tm j D).de T
  sz:=I.sz,df:=I.df,nb:=I.nb
  pn:=fun k hk=>by rw[KI k fun h=>by have:=qW hg h;omega];exact I.pn k hk
  ev:=I.ev,s0:=I.s0,st:=I.st,sb:=I.sb
  hp:=fun j _=>by
   show fD _ _ _ _ _ _ _ (bd J.h id (.box (tM cs ns)) j);rcases Zv j with⟨rfl,h⟩ | ⟨cO,h⟩
   ·rw[h];refine⟨g,ty,c,by rw[KI j Z];exact k1,V.hp,by rw[AT];exact V.sz,fun i x u hi Y=>?_⟩;rcases FL hl hi with⟨z,O,rfl⟩ | ⟨n,e,es,O,rfl,h3⟩
    ·exact⟨(V.cell i _ u O Y).1,.p _ _ (V.cell i _ u O Y).2⟩
    refine⟨(V.cell i _ u O Y).1,.ow n u fun _=>⟨trivial,?_⟩⟩;have R:n∈ns:=(nQ n).2 ⟨_,h3⟩;obtain⟨i',e',dv,q1,q2,q3,q4,q5⟩:=hF n R;have:=TU hl hg q2 hi;subst this;rw[Yp n R];rw[q3]at Y;injection Y with Y;exact Y.symm
   rw[h];by_cases D:j∈ns
   ·obtain⟨i,e,es,O,h2,h3,h4,h5⟩:=hF j D;rw[h4];show aH _ _ _ _ _ (rho' j);rw[Yp j D];exact (V.cell i _ _ O h3).2
   exact (I.hp j D).de T (fun _ _ _=>rfl) (fun _=>KI j D)
  dj:=fun i j k _ _ li lj hi D=>by
   obtain⟨o,o1,o2,o3,o4⟩:=N i k li hi;obtain⟨p,p1,p2,p3,p4⟩:=N j k lj D;have:=I.dj o p k o1 p1 o2 p2 o3 p3;subst this;by_cases ei:i∈ns
   ·rw[ae ei]at o4;subst o4;have hi:hasB w (bd J.h o (.box (tM cs ns)) i) (rho' i) k:=hi;obtain⟨i1,e1,es1,q1,q2,q3,q4,q5⟩:=hF i ei;have hib:cF (F i)=some k:=by
     rw[bg _ _ (fun e=>Z (by rw[<-e];exact ei)),q4,Yp i ei]at hi;exact aI rfl hi
    by_cases W:j∈ns
    ·have D:hasB w (bd J.h o (.box (tM cs ns)) j) (rho' j) k:=D;obtain⟨j1,e2,pT,r1,r2,r3,r4,r5⟩:=hF j W;have hjb:cF (F j)=some k:=by
      rw[bg _ _ (fun e=>Z (by rw[<-e];exact W)),r4,Yp j W]at D;exact aI rfl D
     have:=V.dis i1 j1 _ _ _ _ k q1 r1 q3 r3 trivial trivial hib hjb;subst this;rw[q2]at r2;injection r2 with r2;injection r2
    rw[aa W]at p4;subst p4;exfalso;have D:hasB w (bd J.h o (.box (tM cs ns)) o) (rho' o) k:=D;rw[aF,KI o W]at D;have D:=aI rfl D;rw[N2]at D;injection D with D;exact V.top i1 _ _ k q1 q3 trivial hib D.symm
   rw[aa ei]at o4;by_cases W:j∈ns
   ·rw[ae W]at p4;subst o4;subst p4;exfalso;have hi:hasB w (bd J.h o (.box (tM cs ns)) o) (rho' o) k:=hi;have D:hasB w (bd J.h o (.box (tM cs ns)) j) (rho' j) k:=D;obtain⟨j1,e2,pT,r1,r2,r3,r4,r5⟩:=hF j W;have hjb:cF (F j)=some k:=by
     rw[bg _ _ (fun e=>Z (by rw[<-e];exact W)),r4,Yp j W]at D;exact aI rfl D
    rw[aF,KI o ei]at hi;have hi:=aI rfl hi;rw[N2]at hi;injection hi with hi;exact V.top j1 _ _ k r1 r3 trivial hjb hi.symm
   rw[aa W]at p4;exact o4.symm.trans p4
  lv:=fun i k _ li hi=>by
   obtain⟨o,o1,o2,o3,_⟩:=N i k li hi;exact I.lv o k o1 o2 o3
  fr:=I.fr }⟩
end Go.AM
namespace Go.AM
open Go.RowKit
def cellAt(w:World)(g p:Nat)(u:Value):Prop:=∃(c:Array Value) (ty:TypeId) (m:Nat×Nat),w.heap[g]?=some (.cells c ty m)/\c[p]?=some u
theorem po{w:World}{g p:Nat}{u v:Value}(h:cellAt w g p u)(k:cellAt w g p v):u=v:=by
 obtain⟨c,ty,m,I,J⟩:=h;obtain⟨c',ty',m',z,D⟩:=k;rw[I]at z;injection z with z;injection z with z;subst z;rw[J]at D;injection D
variable {es:List (List HX)}
theorem en{w:World}{g a j:Nat}{u:Value}:dT w es g a j u↔∃r e xs,es[a]?=some r/\r[j]?=some (.row e xs)/\cellAt w g (a*r.length+j) u:=
 ⟨fun ⟨r,e,xs,c,z,m,D,I,J,N⟩=>⟨r,e,xs,D,I,c,z,m,J,N⟩,fun ⟨r,e,xs,D,I,c,z,m,J,N⟩=>⟨r,e,xs,c,z,m,D,I,J,N⟩⟩
variable {α:Type} {e:TypeId}
theorem aH.re{β:Type}{P:Program}{w:World}{R:α->Value->Prop}{W:β->Value->Prop}{es:List (List α)}{J:List (List β)}{v:Value}(h:aH P w R e es v)(hl:J.length=es.length)
  (hk:∀(a:Nat) r z,es[a]?=some r->J[a]?=some z->z.length=r.length)
  (hc:∀(a:Nat) r z (j:Nat) x O u,es[a]?=some r->J[a]?=some z->r[j]?=some x->z[j]?=some O->(∀g,cF v=some g->cellAt w g (a*r.length+j) u)->R x u->W O u):aH P w W e J v:=by
 obtain⟨i,xs,h1,h2,Y,Z,h5,h6⟩:=h;have old:∀{a:Nat} {z:List β},J[a]?=some z->∃r,es[a]?=some r:=fun {a z} D=>⟨_,aW (by rw[<-hl];exact aC D)⟩;refine⟨i,xs,h1,h2,by rw[hl];exact Y,fun z oP=>?_,h5,fun a z j O D hj=>?_⟩
 ·obtain⟨a,D⟩:=ca.1 oP;obtain⟨r,I⟩:=old D;rw[hk a r z I D];exact Z r (aj I)
 obtain⟨r,I⟩:=old D;have hlen:=hk a r z I D;obtain⟨x,hx⟩:∃x,r[j]?=some x:=⟨_,aW (by rw[<-hlen];exact aC hj)⟩;obtain⟨u,N,Du⟩:=h6 a r j x I hx;refine⟨u,N,hc a r z j x O u I D hx hj (fun g U=>?_) Du⟩;have Ah:=Z r (aj I);rcases Y.2 with⟨hn,_⟩ | ⟨g',cap,V,hv,_,Hc,k1,k2,k3,k4⟩
 ·rw[hn]at U;cases U
 rw[hv]at U;obtain rfl:=jY.1 U;refine⟨V,_,_,Hc,?_⟩;rw[Ah];rw[<-k4,dM]at N;split at N
 ·simpa using N
 cases N
variable {A:rZ}
theorem aA.toH(hC:bP A.C)(s:AS)(id:Nat){es:List (List PV)}(hb:s.h id=.row e es):aA A s ⟨s.t,bd s.h id (.aw e (es.map uN))⟩:=by
 intro S rho a w J;have R:∀g k j u,¬dT w (es.map uN) g k j u:=fun g k j u h=>by
  obtain⟨r,e',uV,I,D,_⟩:=en.1 h;rw[aD]at I;obtain⟨q,_,rfl⟩:=aV.1 I;rw[uN,aD]at D;obtain⟨z,_,U⟩:=aV.1 D;cases U
 have N:=J.hp id trivial;rw[hb]at N;have N:aH A.C.P w (aO S w) e es (rho id):=N;refine⟨S,rho,J.Fh hC id trivial (by rw[hb];trivial) _ (fun e' h=>by rw[hb];exact h) w rfl rfl rfl rfl (fun _ _=>rfl) (fun T=>?_) (fun g h=>?_)⟩
 ·refine⟨N.re (by simp) (fun k r V I D=>?_) (fun k r V j x x2 u I D W O _ Y=>?_),⟨fun g k j u b _ h=>absurd h (R _ _ _ _),fun g k j k' j' u u' b _ h=>absurd h (R _ _ _ _)⟩⟩
  ·rw[aD,I]at D;injection D with D;rw[<-D,uN,au]
  rw[aD,I]at D;injection D with D;rw[<-D,uN,aD,W]at O;injection O with O;rw[<-O];exact AG Y
 rw[eh]at h;rcases h with h | ⟨g',k,j,u,_,h,_⟩
 ·exact .inl h
 exact absurd h (R _ _ _ _)
def Mo:HX->Prop
 | .av (.p _)=>True
 | .av .nl=>True
 | .row _ _=>True
 | _=>False
def AU(es:List (List HX)):Prop:=∀r∈es,∀x∈r,Mo x
theorem Oc(h:AU es)(d:Nat):(es.map fun r=>r.map (HX.dn (sc d)))=es:=by
 conv=>rhs;rw[<-List.map_id es]
 refine lZ fun r z=>?_;show r.map _=r
 conv=>rhs;rw[<-List.map_id r]
 refine lZ fun x D=>?_;have:=h r z x D;cases x with
 | row e es=>rfl
 | av y=>cases y<;>first | rfl | exact this.elim
theorem hZ{l:List α}{i a:Nat}{x y:α}(h:(l.set i x)[a]?=some y):(a=i/\y=x/\i<l.length)\/(a≠i/\l[a]?=some y):=by
 by_cases e:a=i
 ·subst e;have hl:=aC h;rw[aQ]at hl;rw[dZ hl]at h;injection h with h;exact .inl ⟨rfl,h.symm,hl⟩
 rw[gC (fun e'=>e e'.symm)]at h;exact .inr ⟨e,h⟩
variable {e':TypeId}
theorem aA.tN(hC:bP A.C)(s:AS)(id i j d:Nat){r:List HX}{xs:List (List PV)}(hd:d<100000)(hid:id≠d)(hb:s.h id=.aw e es)(hs:AU es)(hr:es[i]?=some r)(hj:r[j]?=some (.row e' xs)):
  aA A s ⟨(jk d s).t,bd (bd (jk d s).h d (.row e' xs)) id (.aw e (es.set i (r.set j (.av (.ow d)))))⟩:=by
 intro S rho a w sw;have z:=sw.free d (.row e' xs);obtain⟨D,hh1⟩:∃D,D=bd (jk d s).h d (.row e' xs):=⟨_,rfl⟩;have BV:D id=.aw e es:=by
  rw[hh1,bg _ _ hid];show bd (fun k=>zF d (s.h k)) d .none id=_;rw[bg _ _ hid,hb];show AB.aw e _=_;rw[Oc hs]
 have hd1:D d=.row e' xs:=by rw[hh1,aF]
 rw[<-hh1]at z ⊢;obtain⟨O,sQ⟩:∃O,O=es.set i (r.set j (.av (.ow d))):=⟨_,rfl⟩;rw[<-sQ];have hh:=z.hp id hid;have hh:fD S w A.C.P (fun k=>k≠d) rho D id (D id):=hh;rw[BV]at hh;obtain⟨hR,hS⟩:=hh;obtain⟨g,u,hg,Zw,Du⟩:=hR.Hl hr hj;have Du:aH A.C.P w (aO S w) e' xs u:=Du;have bY:(D id).live:=by rw[BV];trivial
 have gU:∀U k p v,dT w O U k p v->dT w es U k p v/\¬(k=i/\p=j):=by
  intro U k p v hc;obtain⟨q,e2,QY,q1,q2,q3⟩:=en.1 hc;rw[sQ]at q1;rcases hZ q1 with⟨rfl,rfl,_⟩ | ⟨hk,q1⟩
  ·rcases hZ q2 with⟨_,hx,_⟩ | ⟨hp,q2⟩
   ·cases hx
   exact⟨en.2 ⟨r,e2,QY,hr,q2,by rw[aQ]at q3;exact q3⟩,fun h=>hp h.2⟩
  exact⟨en.2 ⟨q,e2,QY,q1,q2,q3⟩,fun h=>hk h.1⟩
 have hown:∀b,cF u=some b->hasB w (D id) (rho id) b:=fun b h=>by rw[BV,eh];exact .inr ⟨g,i,j,u,hg,Zw,h⟩
 obtain⟨rho',ni⟩:∃rho',rho'=bd rho d u:=⟨_,rfl⟩;have rd:rho' d=u:=by rw[ni,aF]
 have ro:∀k,k≠d->rho' k=rho k:=fun k h=>by rw[ni,bg _ _ h]
 have T:ng S S w w (fun k=>k≠d) cX rho rho' D (bd D id (.aw e O)):=⟨fun _ h=>h,fun _ _=>rfl,fun k hk=>⟨by
   rcases br D id (.aw e O) k with⟨rfl,h⟩ | ⟨_,h⟩
   ·rw[BV];trivial
   ·rw[h]at hk;exact hk,fun h=>⟨trivial,ro k h⟩⟩,fun k e2 hk=>by
   rcases br D id (.aw e O) k with⟨rfl,h⟩ | ⟨_,h⟩
   ·rw[h]at hk;rw[BV];exact hk
   rw[h]at hk;exact hk⟩
 have J:∀k b,(bd D id (.aw e O) k).live->hasB w (bd D id (.aw e O) k) (rho' k) b->∃o,o≠d/\(D o).live/\hasB w (D o) (rho o) b/\(if k=d then o=id/\cF u=some b else o=k/\(k=id->cF u≠some b)):=by
  intro k b hl I;by_cases hk:k=d
  ·subst hk;rw[bg _ _ (fun e=>hid e.symm),hd1,rd]at I;have I:=aI rfl I;exact⟨id,hid,bY,hown b I,by rw[ae rfl];exact⟨rfl,I⟩⟩
  rcases br D id (.aw e O) k with⟨rfl,h⟩ | ⟨cO,h⟩
  ·rw[h,ro k hk]at I;rw[eh]at I;refine⟨k,hk,bY,?_,?_⟩
   ·rw[BV,eh];rcases I with I | ⟨U,k',p,v,V,o2,o3⟩
    ·exact .inl I
    exact .inr ⟨U,k',p,v,V,(gU _ _ _ _ o2).1,o3⟩
   rw[aa hk];refine⟨rfl,fun _ hub=>?_⟩;rcases I with I | ⟨U,k',p,v,V,o2,o3⟩
   ·rw[hg]at I;injection I with I;exact hS.top g i j u b hg Zw hub I.symm
   rw[hg]at V;injection V with V;subst V;obtain⟨W,c2⟩:=gU _ _ _ _ o2;exact c2 (hS.dis g k' p i j v u b hg W Zw o3 hub)
  rw[h,ro k hk]at I;rw[h]at hl;exact⟨k,hk,hl,I,by rw[aa hk];exact⟨rfl,fun e=>absurd e cO⟩⟩
 exact⟨S,rho',
 {tm:=fun k hk=>(z.tm k hk).de T
  sz:=z.sz,df:=z.df,nb:=z.nb
  pn:=fun k hk=>by rw[ro k (by omega)];exact z.pn k hk
  ev:=z.ev,s0:=z.s0,st:=z.st,sb:=z.sb
  hp:=fun k _=>by
   show fD _ _ _ _ _ _ _ (bd D id (.aw e O) k);by_cases hk:k=d
   ·subst hk;rw[bg _ _ (fun e=>hid e.symm),hd1];show aH _ _ _ _ _ (rho' k);rw[rd];exact Du
   rcases br D id (.aw e O) k with⟨rfl,h⟩ | ⟨cO,h⟩
   ·rw[h];show aH _ _ _ _ _ (rho' k)/\yt _ _ (rho' k);rw[ro k hk];refine⟨hR.re (by rw[sQ,aQ]) (fun p q q2 R N=>?_) (fun p q q2 m x x2 v R N z3 Y hcell hx=>?_),⟨fun U p m v b W c2 c3=>hS.top U p m v b W (gU _ _ _ _ c2).1 c3,fun U p m p' m' v v' b W c2 c3 c4 c5=>hS.dis U p m p' m' v v' b W (gU _ _ _ _ c2).1 (gU _ _ _ _ c3).1 c4 c5⟩⟩
    ·rw[sQ]at N;rcases hZ N with⟨rfl,rfl,_⟩ | ⟨_,N⟩
     ·rw[hr]at R;injection R with R;rw[<-R,aQ]
     rw[R]at N;injection N with N;rw[N]
    have zM:uT S w A.C.P (fun k=>k≠d) rho D x v->x2=x->uT S w A.C.P cX rho' (bd D k (.aw e O)) x2 v:=fun hx Zx=>by
     rw[Zx];cases x with
     | av y=>exact bu.de T hx
     | row e2 QY=>exact hx
    rw[sQ]at N;rcases hZ N with⟨rfl,rfl,_⟩ | ⟨_,N⟩
    ·rw[hr]at R;injection R with R;subst R;rcases hZ Y with⟨rfl,rfl,_⟩ | ⟨_,Y⟩
     ·obtain⟨q',_,_,W,_,c2⟩:=en.1 Zw;rw[hr]at W;injection W with W;subst W;have:=po (hcell g hg) c2;subst this;exact .ow d _ fun _=>⟨trivial,rd.symm⟩
     rw[z3]at Y;injection Y with Y;exact zM hx Y.symm
    rw[R]at N;injection N with N;subst N;rw[z3]at Y;injection Y with Y;exact zM hx Y.symm
   rw[h];exact (z.hp k hk).de T (fun _ _ _=>rfl) (fun _=>ro k hk)
  dj:=fun k m b _ _ lk lm hk hm=>by
   obtain⟨o,V,o2,o3,Z⟩:=J k b lk hk;obtain⟨p,p1,p2,p3,p4⟩:=J m b lm hm;have:=z.dj o p b V p1 o2 p2 o3 p3;subst this;by_cases ek:k=d<;>by_cases em:m=d
   ·rw[ek,em]
   ·rw[ae ek]at Z;rw[aa em]at p4;exact absurd Z.2 (p4.2 (p4.1.symm.trans Z.1))
   ·rw[aa ek]at Z;rw[ae em]at p4;exact absurd p4.2 (Z.2 (Z.1.symm.trans p4.1))
   rw[aa ek]at Z;rw[aa em]at p4;exact Z.1.symm.trans p4.1
  lv:=fun k b _ lk hk=>by
   obtain⟨o,V,o2,o3,_⟩:=J k b lk hk;exact z.lv o b V o2 o3
  fr:=z.fr }⟩
theorem aA.H7(hC:bP A.C)(s:AS)(id i j d:Nat){r:List HX}{xs:List (List PV)}(hid:id≠d)(hb:s.h id=.aw e es)(TV:s.h d=.row e' xs)(hr:es[i]?=some r)(hj:r[j]?=some (.av (.ow d))):
  aA A s ⟨s.t,bd (bd s.h d .none) id (.aw e (es.set i (r.set j (.row e' xs))))⟩:=by
 intro S rho a w z;obtain⟨J,sQ⟩:∃J,J=es.set i (r.set j (.row e' xs)):=⟨_,rfl⟩;rw[<-sQ];have hh:=z.hp id trivial;rw[hb]at hh;obtain⟨hR,hS⟩:=hh;have bY:(s.h id).live:=by rw[hb];trivial
 have hdl:(s.h d).live:=by rw[TV];trivial
 have J_:=z.hp d trivial;rw[TV]at J_;have J_:aH A.C.P w (aO S w) e' xs (rho d):=J_;have up:∀k,(k=id/\bd (bd s.h d .none) id (.aw e J) k=.aw e J)\/(k=d/\k≠id/\bd (bd s.h d .none) id (.aw e J) k=.none)\/(k≠d/\k≠id/\bd (bd s.h d .none) id (.aw e J) k=s.h k):=fun k=>by
  by_cases U:k=id
  ·subst U;exact .inl ⟨rfl,aF _ _ _⟩
  by_cases h2:k=d
  ·subst h2;exact .inr (.inl ⟨rfl,U,by rw[bg _ _ U,aF]⟩)
  exact .inr (.inr ⟨h2,U,by rw[bg _ _ U,bg _ _ h2]⟩)
 have T:ng S S w w cX cX rho rho s.h (bd (bd s.h d .none) id (.aw e J)):=⟨fun _ h=>h,fun _ _=>rfl,fun k hk=>⟨by
   rcases up k with⟨rfl,h⟩ | ⟨_,_,h⟩ | ⟨_,_,h⟩
   ·rw[hb];trivial
   ·rw[h]at hk;exact hk.elim
   ·rw[h]at hk;exact hk,fun h=>⟨trivial,rfl⟩⟩,fun k e2 hk=>by
   rcases up k with⟨rfl,h⟩ | ⟨_,_,h⟩ | ⟨_,_,h⟩
   ·rw[h]at hk;rw[hb];exact hk
   ·rw[h]at hk;cases hk
   rw[h]at hk;exact hk⟩
 have hval:∀g u,cF (rho id)=some g->cellAt w g (i*r.length+j) u->u=rho d:=fun g u hg hu=>by
  obtain⟨i0,ws,V,q2,Z,q4,q5,q6⟩:=hR;obtain⟨u2,p1,p2⟩:=q6 i r j _ hr hj;have p2:bu S w A.C.P cX rho s.h (.ow d) u2:=p2;have:=(p2.cZ (by rw[TV];trivial)).2;rw[<-this];have Ah:=q4 r (aj hr);rcases Z.2 with⟨hn,_⟩ | ⟨g',cap,cur,hv,_,Hc,k1,k2,k3,k4⟩
  ·rw[hn]at hg;cases hg
  rw[hv]at hg;obtain rfl:=jY.1 hg;refine po hu ⟨cur,_,_,Hc,?_⟩;rw[Ah];rw[<-k4,dM]at p1;split at p1
  ·simpa using p1
  cases p1
 have gU:∀g k p v,cF (rho id)=some g->dT w J g k p v->(dT w es g k p v/\¬(k=i/\p=j))\/(k=i/\p=j/\v=rho d):=by
  intro g k p v hg hc;obtain⟨q,e2,QY,V,q2,Z⟩:=en.1 hc;rw[sQ]at V;rcases hZ V with⟨rfl,rfl,_⟩ | ⟨hk,V⟩
  ·rw[aQ]at Z;rcases hZ q2 with⟨rfl,_,_⟩ | ⟨hp,q2⟩
   ·exact .inr ⟨rfl,rfl,hval g v hg Z⟩
   exact .inl ⟨en.2 ⟨r,e2,QY,hr,q2,Z⟩,fun h=>hp h.2⟩
  exact .inl ⟨en.2 ⟨q,e2,QY,V,q2,Z⟩,fun h=>hk h.1⟩
 have N:∀g k p v b,cF (rho id)=some g->dT w es g k p v->cF v=some b->cF (rho d)≠some b:=fun g k p v b U h2 h3 h4=>
  hid (z.dj id d b trivial trivial bY hdl (by rw[hb,eh];exact .inr ⟨g,k,p,v,U,h2,h3⟩) (.inl h4))
 have D:∀k b,(bd (bd s.h d .none) id (.aw e J) k).live->hasB w (bd (bd s.h d .none) id (.aw e J) k) (rho k) b->∃o,(s.h o).live/\hasB w (s.h o) (rho o) b/\(o=k/\k≠d\/o=d/\k=id):=by
  intro k b hl ho;rcases up k with⟨rfl,h⟩ | ⟨_,_,h⟩ | ⟨U,_,h⟩
  ·rw[h,eh]at ho;rcases ho with ho | ⟨g,k',p,v,o1,o2,o3⟩
   ·exact⟨k,bY,.inl ho,.inl ⟨rfl,hid⟩⟩
   rcases gU _ _ _ _ o1 o2 with⟨O,_⟩ | ⟨_,_,rfl⟩
   ·exact⟨k,bY,by rw[hb,eh];exact .inr ⟨g,k',p,v,o1,O,o3⟩,.inl ⟨rfl,hid⟩⟩
   exact⟨d,hdl,.inl o3,.inr ⟨rfl,rfl⟩⟩
  ·rw[h]at hl;exact hl.elim
  rw[h]at hl ho;exact⟨k,hl,ho,.inl ⟨rfl,U⟩⟩
 exact⟨S,rho,
 {tm:=fun k hk=>(z.tm k hk).de T
  sz:=z.sz,df:=z.df,nb:=z.nb,pn:=z.pn
  ev:=z.ev,s0:=z.s0,st:=z.st,sb:=z.sb
  hp:=fun k _=>by
   show fD _ _ _ _ _ _ _ (bd (bd s.h d .none) id (.aw e J) k);rcases up k with⟨rfl,h⟩ | ⟨_,_,h⟩ | ⟨U,cO,h⟩
   ·rw[h];refine⟨hR.re (by rw[sQ,aQ]) (fun p q q2 R I=>?_) (fun p q q2 m x x2 v R I z3 W hcell Y=>?_),⟨fun g p m v b O c2 c3=>?_,fun g p m p' m' v v' b O c2 c3 c4 c5=>?_⟩⟩
    ·rw[sQ]at I;rcases hZ I with⟨rfl,rfl,_⟩ | ⟨_,I⟩
     ·rw[hr]at R;injection R with R;rw[<-R,aQ]
     rw[R]at I;injection I with I;rw[I]
    ·have zM:uT S w A.C.P cX rho s.h x v->x2=x->uT S w A.C.P cX rho (bd (bd s.h d .none) k (.aw e J)) x2 v:=fun Y Zx=>by
      rw[Zx];cases x with
      | av y=>exact bu.de T Y
      | row e2 QY=>exact Y
     rw[sQ]at I;rcases hZ I with⟨rfl,rfl,_⟩ | ⟨_,I⟩
     ·rw[hr]at R;injection R with R;subst R;rcases hZ W with⟨rfl,rfl,_⟩ | ⟨_,W⟩
      ·have Y:uT S w A.C.P cX rho s.h x v:=Y;rw[hj]at z3;injection z3 with z3;subst z3;have Y:bu S w A.C.P cX rho s.h (.ow d) v:=Y;show aH A.C.P w (aO S w) e' xs v;rw[(Y.cZ (by rw[TV];trivial)).2];exact J_
      rw[z3]at W;injection W with W;exact zM Y W.symm
     rw[R]at I;injection I with I;subst I;rw[z3]at W;injection W with W;exact zM Y W.symm
    ·rcases gU _ _ _ _ O c2 with⟨V,_⟩ | ⟨_,_,rfl⟩
     ·exact hS.top g p m v b O V c3
     intro Zy;subst Zy;exact hid (z.dj k d b trivial trivial bY hdl (.inl O) (.inl c3))
    rcases gU _ _ _ _ O c2 with⟨V,q2⟩ | ⟨rfl,rfl,rfl⟩<;>rcases gU _ _ _ _ O c3 with⟨Z,q4⟩ | ⟨rfl,rfl,rfl⟩
    ·exact hS.dis g p m p' m' v v' b O V Z c4 c5
    ·exact absurd c5 (N g p m v b O V c4)
    ·exact absurd c4 (N g p' m' v' b O Z c5)
    exact⟨rfl,rfl⟩
   ·rw[h];trivial
   rw[h];exact (z.hp k trivial).de T (fun _ _ _=>rfl) (fun _=>rfl)
  dj:=fun k m b _ _ lk lm hk hm=>by
   obtain⟨o,o1,o2,o3⟩:=D k b lk hk;obtain⟨p,p1,p2,p3⟩:=D m b lm hm;have:=z.dj o p b trivial trivial o1 p1 o2 p2;subst this;rcases o3 with⟨rfl,o3⟩ | ⟨rfl,o3⟩<;>rcases p3 with⟨rfl,p3⟩ | ⟨h,p3⟩
   ·rfl
   ·exact absurd h o3
   ·exact absurd rfl p3
   rw[o3,p3]
  lv:=fun k b _ lk hk=>by
   obtain⟨o,o1,o2,_⟩:=D k b lk hk;exact z.lv o b trivial o1 o2
  fr:=z.fr }⟩
theorem aA.W0(hC:bP A.C)(s:AS)(id i j:Nat){r:List HX}{ti:TI}(hb:s.h id=.aw e es)(Z:es[i]?=some r)(hj:r[j]?=some (.av .nl))(hT:A.C.T e'=some ti)(hpos:0<ti.size):
  aA A s ⟨s.t,bd s.h id (.aw e (es.set i (r.set j (.row e' []))))⟩:=by
 intro S rho a w sim;obtain⟨pT,sQ⟩:∃pT,pT=es.set i (r.set j (.row e' [])):=⟨_,rfl⟩;rw[<-sQ];have hh:=sim.hp id trivial;rw[hb]at hh;obtain⟨hR,hS⟩:=hh;obtain⟨info,z,h1,h2,_⟩:=hC.jw e' ti hT;have hval:∀g u,cF (rho id)=some g->cellAt w g (i*r.length+j) u->u=.slice none 0 0:=fun g u V hu=>by
  obtain⟨i0,ws,q1,R,W,q4,q5,q6⟩:=hR;obtain⟨u2,p1,p2⟩:=q6 i r j _ Z hj;have p2:bu S w A.C.P cX rho s.h .nl u2:=p2;have:u2=.slice none 0 0:=by cases p2;rfl
  rw[<-this];have Ah:=q4 r (aj Z);rcases W.2 with⟨hn,_⟩ | ⟨g',cap,cur,hv,_,Hc,k1,k2,k3,k4⟩
  ·rw[hn]at V;cases V
  rw[hv]at V;obtain rfl:=jY.1 V;refine po hu ⟨cur,_,_,Hc,?_⟩;rw[Ah];rw[<-k4,dM]at p1;split at p1
  ·simpa using p1
  cases p1
 have gU:∀g k p v b,cF (rho id)=some g->dT w pT g k p v->cF v=some b->dT w es g k p v:=by
  intro g k p v b V hc hv;obtain⟨q,e2,QY,q1,R,W⟩:=en.1 hc;rw[sQ]at q1;rcases hZ q1 with⟨rfl,rfl,_⟩ | ⟨hk,q1⟩
  ·rw[aQ]at W;rcases hZ R with⟨rfl,_,_⟩ | ⟨hp,R⟩
   ·rw[hval g v V W]at hv;cases hv
   exact en.2 ⟨r,e2,QY,Z,R,W⟩
  exact en.2 ⟨q,e2,QY,q1,R,W⟩
 refine⟨S,rho,sim.Fh hC id trivial (by rw[hb];trivial) _ (fun e2 h=>by rw[hb];exact h) w rfl rfl rfl rfl (fun _ _=>rfl) (fun T=>?_) (fun g h=>?_)⟩
 ·refine⟨hR.re (by rw[sQ,aQ]) (fun p q R I D=>?_) (fun p q R m x x2 v I D Y J hcell O=>?_),⟨fun g p m v b N c2 U=>hS.top g p m v b N (gU _ _ _ _ _ N c2 U) U,fun g p m p' m' v v' b N c2 U c4 c5=>hS.dis g p m p' m' v v' b N (gU _ _ _ _ _ N c2 c4) (gU _ _ _ _ _ N U c5) c4 c5⟩⟩
  ·rw[sQ]at D;rcases hZ D with⟨rfl,rfl,_⟩ | ⟨_,D⟩
   ·rw[Z]at I;injection I with I;rw[<-I,aQ]
   rw[I]at D;injection D with D;rw[D]
  have zM:uT S w A.C.P cX rho s.h x v->x2=x->uT S w A.C.P cX rho (bd s.h id (.aw e pT)) x2 v:=fun O Zx=>by
   rw[Zx];cases x with
   | av y=>exact bu.de T O
   | row e2 QY=>exact O
  rw[sQ]at D;rcases hZ D with⟨rfl,rfl,_⟩ | ⟨_,D⟩
  ·rw[Z]at I;injection I with I;subst I;rcases hZ J with⟨rfl,rfl,_⟩ | ⟨_,J⟩
   ·rw[hj]at Y;injection Y with Y;subst Y;have O:bu S w A.C.P cX rho s.h .nl v:=O;have:v=.slice none 0 0:=by cases O;rfl
    rw[this];exact⟨info,[],h1,by omega,⟨by simp,.inl ⟨rfl,rfl⟩⟩,by simp,by simp,by simp⟩
   rw[Y]at J;injection J with J;exact zM O J.symm
  rw[I]at D;injection D with D;subst D;rw[Y]at J;injection J with J;exact zM O J.symm
 rw[eh]at h;rw[hb,eh];rcases h with h | ⟨g',k,p,v,N,c2,U⟩
 ·exact .inl h
 exact .inr ⟨g',k,p,v,N,gU _ _ _ _ _ N c2 U,U⟩
theorem SU.map{l:List α}{f:α->List HX}{g:α->List PV}(h:∀x∈l,(g x).length=(f x).length/\∀(j:Nat) u v,(f x)[j]?=some u->(g x)[j]?=some v->Yc u v):SU (l.map f) (l.map g):=
 ⟨by simp,fun a r q D z=>by
  rw[aD]at D z;obtain⟨x,I,rfl⟩:=aV.1 D;rw[I]at z;injection z with z;subst z;exact h x (aj I)⟩
theorem aA.QZ(hC:bP A.C)(s:AS)(id:Nat)(ps:List (List PV))(hb:s.h id=.aw e es)(N:SU es ps):aA A s ⟨s.t,bd s.h id (.row e ps)⟩:=by
 intro S rho a w z;have hh:=z.hp id trivial;rw[hb]at hh;obtain⟨hR,hS⟩:=hh;have Y:(s.h id).live:=by rw[hb];trivial
 obtain⟨I,hI⟩:∃I:Nat->Prop,I=fun b=>∃g k j u,cF (rho id)=some g/\dT w es g k j u/\cF u=some b:=⟨_,rfl⟩;have O:∀b,I b->hasB w (s.h id) (rho id) b:=fun b h=>by rw[hI]at h;rw[hb,eh];exact .inr h
 have Zz:∀b,I b->cF (rho id)≠some b:=fun b h J=>by
  rw[hI]at h;obtain⟨g,k,j,u,V,h2,h3⟩:=h;rw[V]at J;injection J with J;exact hS.top g k j u b V h2 h3 J.symm
 have T:ng S (fun b=>S b\/I b) w w cX cX rho rho s.h (bd s.h id (.row e ps)):=by
  refine⟨fun b h=>.inl h,fun _ _=>rfl,fun j D=>⟨?_,fun hl=>⟨hl,rfl⟩⟩,fun j e' D=>?_⟩
  ·rcases br s.h id (.row e ps) j with⟨rfl,h⟩ | ⟨_,h⟩
   ·rw[hb];trivial
   rw[h]at D;exact D
  rcases br s.h id (.row e ps) j with⟨rfl,h⟩ | ⟨_,h⟩
  ·rw[h]at D;rw[hb];exact D
  rw[h]at D;exact D
 have Z:∀j,((bd s.h id (.row e ps)) j).live->(s.h j).live:=by
  intro j D;rcases br s.h id (.row e ps) j with⟨rfl,h⟩ | ⟨V,h⟩
  ·exact Y
  rw[h]at D;exact D
 have back:∀j g,hasB w (bd s.h id (.row e ps) j) (rho j) g->hasB w (s.h j) (rho j) g:=fun j g h=>by
  rcases br s.h id (.row e ps) j with⟨rfl,h'⟩ | ⟨V,h'⟩
  ·rw[h']at h;exact .inl (aI rfl h)
  rw[h']at h;exact h
 exact⟨fun b=>S b\/I b,rho,
 {tm:=fun j D=>(z.tm j D).de T
  sz:=z.sz,df:=z.df,nb:=z.nb,pn:=z.pn
  ev:=hC.env _ _ _ _ z.ev (fun b h=>.inl h) (fun _ _=>rfl) (aG _)
  s0:=fun b h=>.inl (z.s0 b h)
  st:=fun b h=>h.elim (z.st b) fun h=>(z.lv id b trivial Y (O b h)).1
  sb:=fun b h=>h.elim (z.sb b) fun h=>.inr (z.lv id b trivial Y (O b h)).2.2
  hp:=fun j D=>by
   rcases br s.h id (.row e ps) j with⟨rfl,h⟩ | ⟨V,h⟩
   ·show fD _ _ _ _ _ _ _ (bd s.h j (.row e ps) j);rw[h];refine hR.re N.len (fun p q q2 W z2=>(N.row p q q2 W z2).1) (fun p q q2 m x x2 v W z2 z3 z4 R U=>?_);have:=(N.row p q q2 W z2).2 m x x2 z3 z4;cases this with
    | p x=>exact (bu.eY U).mono (fun b h=>.inl h) (fun _ _=>rfl)
    | nl=>
     have U:bu S w A.C.P cX rho s.h .nl v:=U;cases U;exact .nil _ _
    | row e' xs=>
     have U:aH A.C.P w (aO S w) e' xs v:=U;refine aH.Hr U (fun b h=>.inl h) fun b hb'=>.inr ?_;rw[hI];obtain⟨g,u,g1,g2,_⟩:=hR.Hl W z3;obtain⟨q',_,_,c1,_,c2⟩:=en.1 g2;rw[W]at c1;injection c1 with c1;subst c1;have:=po (R g g1) c2;subst this;exact⟨g,p,m,v,g1,g2,hb'⟩
   show fD _ _ _ _ _ _ _ (bd s.h id (.row e ps) j);rw[h];exact (z.hp j D).de T (fun _ _ _=>rfl) (fun _=>rfl)
  dj:=fun i j g hi D li lj fU lE=>z.dj i j g hi D (Z i li) (Z j lj) (back i g fU) (back j g lE)
  lv:=fun i g hi li J=>by
   obtain⟨h3,h4,h5⟩:=z.lv i g hi (Z i li) (back i g J);refine⟨h3,fun h=>h.elim h4 fun h=>?_,h5⟩;have:=z.dj i id g hi trivial (Z i li) Y (back i g J) (O g h);subst this;have J:hasB w (bd s.h i (.row e ps) i) (rho i) g:=J;rw[aF]at J;exact Zz g h (aI rfl J)
  fr:=z.fr }⟩
theorem aA.ZA(hC:bP A.C)(s:AS)(id j:Nat)(cs:List AV)(hb:s.h id=.box cs)(I:cs[j]?=some .nl):aA A s ⟨s.t,bd s.h id (.box (cs.set j (.p (.im (.slice none 0 0)))))⟩:=by
 intro S rho a w z;refine⟨S,rho,z.write hC id trivial (by rw[hb];trivial) _ (fun _ h=>by cases h) w rfl rfl rfl rfl (fun _ _=>rfl) fun T=>?_⟩;have J:=z.hp id trivial;rw[hb]at J;obtain⟨g,V,c,W,Y,Z,N⟩:=J;refine⟨g,V,c,W,Y,by rw[Z,aQ],fun q x u hi O=>?_⟩;by_cases R:q=j
 ·subst R;rw[dZ (aC I)]at hi;injection hi with hi;subst hi;obtain⟨U,D⟩:=N q _ u I O;have:u=.slice none 0 0:=by cases D;rfl
  rw[this];exact⟨rfl,.p _ _ (.im _)⟩
 rw[gC (fun e=>R e.symm)]at hi;obtain⟨U,D⟩:=N q x u hi O;exact⟨U,D.de T⟩
end Go.AM
namespace Go.AM
open Go.RowKit
theorem ot{C:Ctx}{o:Oper}{rho:Operand->AV}{h:Nat->AB}{K K':KK}(hk:∀v e n,K v e n->K' v e n)(z:cc C o rho h K):cc C o rho h K':=by
 obtain⟨v,e,n,D,I⟩:=tH (fun _=>.inr rfl) z;exact I _ (hk _ _ _ D)
variable {K':AS->Prop} {s:AS}
theorem KL{C:Ctx}{o:Oper}{K:AS->Prop}(hk:∀s,K s->K' s)(z:BG C o K s):BG C o K' s:=by
 unfold BG at z ⊢;split at z
 ·exact ot (fun v e n h=>hk _ h) z
 split at z
 ·split at z
  ·split at z
   ·split at z<;>exact hk _ z
   ·split at z<;>exact hk _ z
   exact hk _ z
  exact hk _ z
 refine ot (fun v e n h=>?_) z;cases n with
 | none=>exact hk _ h
 | some b=>exact h
theorem yP{C:Ctx}{o:Oper}{K:AS->Prop}(hk:∀s,K s->K' s)(z:step C o K s):step C o K' s:=by
 unfold step at z ⊢;split at z
 ·exact⟨hk _ z.1,hk _ z.2⟩
 exact KL hk z
theorem rj{b:Bool}{p q z D:Prop}(I:p->z)(J:q->D)(h:sd b p q):sd b z D:=by
 cases b<;>simp only[sd]at h ⊢
 ·exact J h
 exact I h
theorem Od{C:Ctx}{all:List Oper}{K:AS->Prop}(hk:∀s,K s->K' s):∀(l:List Oper) (s:AS),sv C all l K s->sv C all l K' s:=by
 intro l
 induction l with
 | nil=>intro s h;exact hk _ h
 | cons o l ih=>
  intro s h;unfold sv at h ⊢;split at h
  ·exact yP ih h
  split at h
  ·exact h.elim
  split at h
  ·exact h.elim
  split at h
  ·rename_i want _ _ _ _ _ _ _;refine rj (fun h=>?_) (fun h=>?_) h
   ·split at h
    ·exact yP ih h
    exact ih _ h
   split at h
   ·exact yP ih h
   exact ih _ h
  ·exact ih _ h
  exact h.elim
theorem vC{C:Ctx}{ap f:Bool}{X:List Nat}{o:Oper}{K:AS->Prop}(hk:∀s,K s->K' s)(z:uZ C ap X f o K s):uZ C ap X f o K' s:=by
 unfold uZ at z ⊢;split at z
 ·refine ot (fun v e n h=>?_) z;split at h
  ·exact h
  split at h
  ·split at h
   ·exact hk _ h
   exact h
  split at h
  ·exact hk _ h
  exact h
 exact z
theorem Oe{C:Ctx}{ap:Bool}{X:List Nat}{all:List Oper}{K:AS->Prop}(hk:∀s,K s->K' s):∀(l:List Oper) (z:List Bool) (s:AS),rh C ap X all z l K s->rh C ap X all z l K' s:=by
 intro l
 induction l with
 | nil=>intro z s h;cases z<;>exact hk _ h
 | cons o l ih=>
  intro z s h;cases z with
  | nil=>exact h
  | cons f z=>
  unfold rh at h ⊢;split at h
  ·exact vC (ih z) h
  split at h
  ·exact h.elim
  split at h
  ·exact h.elim
  split at h
  ·refine rj (fun h=>?_) (fun h=>?_) h
   ·split at h
    ·exact vC (ih z) h
    exact ih z _ h
   split at h
   ·exact vC (ih z) h
   exact ih z _ h
  ·exact ih z _ h
  exact h.elim
theorem yQ{f z:AS->Prop}{K K':Exit->AS->Prop}(D:∀s,f s->z s)(hk:∀e s,K e s->K' e s):∀e s,qi f K e s->qi z K' e s:=by
 intro e s h;cases e<;>first | exact D _ h | exact hk _ _ h
theorem BX{id:Nat}{K K':Exit->AS->Prop}(hk:∀e s,K e s->K' e s):∀e s,Er id K e s->Er id K' e s:=by
 intro e s h;cases e<;>first | exact hk _ _ h | exact rj (hk _ _) (hk _ _) h
variable {A:rZ}
theorem sR:∀(c:Code) (K K':Exit->AS->Prop) (s:AS),(∀e s,K e s->K' e s)->Dm A c K s->Dm A c K' s:=by
 intro c
 induction c with
 | skip=>intro K K' s hk h;exact hk _ _ h
 | region id ops draw=>
  intro K K' s hk h;cases draw with
  | false=>exact Od (hk _) _ _ h
  | true=>obtain⟨X,h⟩:=h;exact⟨X,Oe (fun _ h=>hk _ _ h) _ _ _ h⟩
 | seq a b z D=>intro K K' s hk h;exact z _ _ _ (yQ (fun s h=>by obtain⟨J,N,O⟩:=h;exact⟨J,N,D _ _ _ hk O⟩) hk) h
 | cond c a b z D=>
  intro K K' s hk h;simp only[Dm]at h ⊢;split at h
  ·exact rj (z _ _ _ hk) (D _ _ _ hk) h
  exact h
 | block id c ih=>intro K K' s hk h;exact ih _ _ _ (BX hk) h
 | loop c ih=>
  intro K K' s hk h;obtain⟨α,I,m,R,U⟩:=h;exact⟨α,I,m,R,fun x s hi=>ih _ _ _ (yQ (fun _ h=>h) hk) (U x s hi)⟩
 | exit id=>intro K K' s hk h;exact hk _ _ h
 | ret=>intro K K' s hk h;exact hk _ _ h
 | rangeFunc=>intro K K' s _ h;exact h.elim
 | scope=>intro K K' s _ h;exact h.elim
 | label=>intro K K' s _ h;exact h.elim
 | goto=>intro K K' s _ h;exact h.elim
 | refuse=>intro K K' s _ h;exact h.elim
def zN{α:Type}(R:α->Prop)(ts:α->List (Nat×AV))(hs:α->List (Nat×AB))(s:AS):Prop:=∃y,R y/\oT (ts y) s.t/\oT (hs y) s.h
variable {α:Type}
theorem zN.go{R:α->Prop}{z:α->List (Nat×AV)}{D:α->List (Nat×AB)}{f:AS->Prop}(I:∀y,R y->∀t h,f ⟨ri (z y) t,ri (D y) h⟩)(h:zN R z D s):f s:=by
 obtain⟨y,J,N,O⟩:=h;have:=I y J s.t s.h
 rwa [wD _ _ N,wD _ _ O]at this
theorem cut{c:Code}{f:AS->Prop}{K:Exit->AS->Prop}(R:α->Prop)(z:α->List (Nat×AV))(D:α->List (Nat×AB))
  (I:∀y,R y->∀t h,f ⟨ri (z y) t,ri (D y) h⟩) (J:Dm A c (qi (zN R z D) K) s):Dm A c (qi f K) s:=
 sR c _ _ s (yQ (fun _ h=>h.go I) fun _ _ h=>h) J
theorem KM{R:α->Prop}{z:α->List (Nat×AV)}{D:α->List (Nat×AB)}{K:Exit->AS->Prop}(I:∀y,R y->∀t h,K .normal ⟨ri (z y) t,ri (D y) h⟩):∀e s,qi (zN R z D) K e s->K e s:=by
 intro e s h;cases e<;>first | exact h | exact zN.go I h
theorem acA{c:Code}{id:Nat}{K:Exit->AS->Prop}(R:α->Prop)(z:α->List (Nat×AV))(D:α->List (Nat×AB))
  (I:∀y,R y->∀t h,K .normal ⟨ri (z y) t,ri (D y) h⟩) (J:Dm A c (Er id (qi (zN R z D) K)) s):Dm A c (Er id K) s:=
 sR c _ _ s (BX (KM I)) J
end Go.AM
namespace Go.AM
open Go.RowKit
def Of(d:Nat)(t:Nat->AV)(j:Nat):AV:=sc d (t j)
def H8(d:Nat)(h:Nat->AB):Nat->AB:=bd (fun k=>zF d (h k)) d .none
def rnT(i d:Nat)(t:Nat->AV)(j:Nat):AV:=rn i d (t j)
def rnH(i d:Nat)(h:Nat->AB)(j:Nat):AB:=match cG j d with
 | true=>Qm i d (h i)
 | false=>match cG j i with
  | true=>.none
  | false=>Qm i d (h j)
def Mp(o:Oper):Bool:=match o.op with
 | .assign _=>false
 | _=>true
def FM:AB->Bool
 | .row _ _=>true
 | .aw _ _=>true
 | _=>false
abbrev TP:=(Nat->AV)->(Nat->AB)->Prop
def SG(G:TP)(K:AS->Prop):Prop:=∀t h,G t h->K ⟨t,h⟩
def ptW(G:TP)(t:Nat->AV)(h:Nat->AB)(d:Nat):AV->Prop
 | .p x=>G (bd t d (.p x)) h
 | .nl=>G (bd t d .nl) h
 | .ow i=>G (bd t d (.ow i)) h
 | .rp i j k=>G (bd t d (.rp i j k)) h
 | .bx i j=>G (bd t d (.bx i j)) h
 | .vw i j k=>G (bd t d (.vw i j k)) h
 | .fn f c=>G (bd t d (.fn f c)) h
 | .tu x=>G (bd t d (.tu x)) h
 | .st x=>G (bd t d (.st x)) h
 | .junk=>G (bd t d .junk) h
def Mq(G:TP)(t:Nat->AV)(d:Option Tmp)(v:AV):List (Nat×AB)->(Nat->AB)->Prop
 | (i,b)::r,h=>Mq G t d v r (bd h i b)
 | [],h=>match d with
  | some d=>ptW G t h d v
  | none=>G t h
def Q0(d:Nat):AV->AV
 | .ow i=>match cG i d with
  | true=>.ow d
  | false=>.ow i
 | .bx i j=>match cG i d with
  | true=>.bx d j
  | false=>.bx i j
 | v=>v
theorem FN(d:Nat)(v:AV):Q0 d v=v:=by
 unfold Q0;split
 ·split
  ·rename_i h;rw[bz.1 h]
  rfl
 ·split
  ·rename_i h;rw[bz.1 h]
  rfl
 rfl
def kqW(G:TP)(d:Option Tmp)(t:Nat->AV)(h:Nat->AB):KK:=fun v e n=>match n with
 | none=>Mq G t d v e h
 | some _=>False
def knW(G:TP)(d:Option Tmp)(dd:Nat)(t:Nat->AV)(h:Nat->AB):KK:=fun v e n=>match n with
 | none=>match vo dd e with
  | true=>Mq G t d v e h
  | false=>False
 | some b=>Mq G t d (Q0 dd v) e (bd h dd b)
def asW(G:TP)(t:Nat->AV)(h:Nat->AB)(d:Nat):AV->Prop
 | .ow i=>match FM (h i) with
  | false=>G (bd t d (.ow i)) h
  | true=>match cG i d with
   | true=>G (bd t d (.ow i)) h
   | false=>G (bd (rnT i d t) d (.ow d)) (rnH i d h)
 | v=>ptW G t h d v
def Q1(C:Ctx)(o:Oper)(G:TP)(t:Nat->AV)(h:Nat->AB):Prop:=match TB C o t with
 | true=>Mq G t o.dst (.p (.im (.bool true))) [] h/\Mq G t o.dst (.p (.im (.bool false))) [] h
 | false=>match sM o.op with
  | true=>match o.dst with
   | some d=>cc C o (ev (Of d t)) (H8 d h) (knW G (some d) d (Of d t) (H8 d h))
   | none=>cc C o (ev (Of 0 t)) (H8 0 h) (knW G none 0 (Of 0 t) (H8 0 h))
  | false=>match o.op,o.dst with
   | .assign x,some d=>asW G t h d (ev t x)
   | _,d=>cc C o (ev t) h (kqW G d t h)
def FO(all:List Oper)(o:Oper)(G1 G0:TP)(t:Nat->AV)(h:Nat->AB):Prop:=match o.guard with
 | none=>G1 t h
 | some (g,want)=>match all[g]? with
  | none=>False
  | some og=>match og.dst with
   | none=>False
   | some tg=>match t tg with
    | .p (.im (.bool b))=>@Bool.rec (fun _=>Prop)
     (match want with
      | false=>G1 (bd t tg (kH false)) h
      | true=>G0 (bd t tg (kH false)) h)
     (match want with
      | true=>G1 (bd t tg (kH true)) h
      | false=>G0 (bd t tg (kH true)) h) b
    | .p (.im (.tuple _))=>G0 t h
    | _=>False
def Og(C:Ctx)(all:List Oper):List Oper->TP->TP
 | [],G,t,h=>G t h
 | o::r,G,t,h=>FO all o (Q1 C o (Og C all r G)) (fun t h=>Mq (Og C all r G) t o.dst uO [] h) t h
section
variable {G:TP} {K:AS->Prop} {t:Nat->AV} {h:Nat->AB} {d:Tmp} {C:Ctx} {o:Oper}
theorem Mr(H:SG G K){v:AV}(q:ptW G t h d v):K ⟨bd t d v,h⟩:=by cases v<;>exact H _ _ q
theorem gJ(H:SG G K){d:Option Tmp}{v:AV}:∀(e:List (Nat×AB)) {h:Nat->AB},Mq G t d v e h->K ⟨fE t d v,app h e⟩
 | (i,b)::r,h,q=>gJ H r (h:=bd h i b) q
 | [],h,q=>by cases d with
  | none=>exact H _ _ q
  | some d=>exact Mr H q
theorem Et(d:Nat)(h:Nat->AB):H8 d h d=.none:=by unfold H8;rw[aF]
theorem Ms(H:SG G K){d:Option Tmp}{z:Nat}{v:AV}{e:List (Nat×AB)}{n:Option AB}(D:h z=.none)(q:knW G d z t h v e n):K ⟨fE t d v,match n with
  | none=>bd (app h e) z .none
  | some b=>app (bd h z b) e⟩:=by
 unfold knW at q;cases n with
 | none=>
  simp only at q ⊢;cases hn:vo z e with
  | false=>rw[hn]at q;exact q.elim
  | true=>
   rw[hn]at q;have:bd (app h e) z .none=app h e:=kD _ _ _ ((oa (h:=h) hn).trans D);rw[this];exact gJ H e q
 | some b=>rw[FN]at q;exact gJ H e q
theorem Eu(H:SG G K)(q:Q1 C o G t h):step C o K ⟨t,h⟩:=by
 unfold step;unfold Q1 at q;cases hn:TB C o t with
 | true=>
  simp only[hn]at q ⊢;exact⟨gJ H [] q.1,gJ H [] q.2⟩
 | false=>
  simp only[hn]at q ⊢;unfold BG;cases hm:sM o.op with
  | true=>
   rw[hm]at q;simp only at q ⊢;cases z:o.dst with
   | some d=>
    rw[z]at q;exact ot (fun v e n hk=>by
     have:=Ms H (Et _ _) hk;cases n<;>exact this) q
   | none=>
    rw[z]at q;exact ot (fun v e n hk=>by
     have:=Ms H (Et _ _) hk;cases n<;>exact this) q
  | false=>
   rw[hm]at q;simp only at q ⊢;split
   ·rename_i x d D z;rw[D,z]at q;simp only at q;unfold asW at q;split
    ·rename_i i hi;rw[hi]at q;simp only at q;cases hb:h i<;>rw[hb]at q<;>simp only[FM]at q ⊢<;>first | exact H _ _ q | (cases J:cG i d<;>rw[J]at q<;>exact H _ _ q)
    rename_i I;split at q
    ·rename_i i hi;exact absurd hi (I i)
    exact Mr H q
   rename_i I;have hk:cc C o (ev t) h (kqW G o.dst t h):=by
    split at q
    ·rename_i x d D z;exact absurd z (I x d D)
    exact q
   exact ot (fun v e n hk=>by cases n<;>first | exact gJ H e hk | exact hk.elim) hk
theorem H9{all:List Oper}(H:SG G K):∀(l:List Oper) {t:Nat->AV} {h:Nat->AB},Og C all l G t h->sv C all l K ⟨t,h⟩
 | [],t,h,q=>H _ _ q
 | o::r,t,h,q=>by
  have ih:SG (Og C all r G) (sv C all r K):=fun _ _ q=>H9 H r q;unfold Og FO at q;unfold sv;split at q
  ·rename_i D;(try simp only[D]);exact Eu ih q
  rename_i g z D
  (try simp only[D])
  split at q
  ·exact q.elim
  rename_i og J
  (try simp only[J])
  split at q
  ·exact q.elim
  rename_i tg N
  (try simp only[N])
  split at q
  ·rename_i b I
   (try simp only[I])
   cases b<;>cases z<;>first | exact Eu ih q | exact gJ ih [] q
  ·rename_i xs I
   (try simp only[I])
   exact gJ ih [] q
  exact q.elim
end
def kdW(C:Ctx)(ap:Bool)(X:List Nat)(f:Bool)(o:Oper)(G:TP)(t:Nat->AV)(h:Nat->AB):KK:=fun v e n=>match vz o.op n o.dst with
 | false=>False
 | true=>match e with
  | []=>match o.dst with
   | some d=>Mq G t (some d) (Q0 d v) [] (sD h d n)
   | none=>Mq G t none v [] (sD h 0 n)
  | p::e=>match Nat.beq (cls C ap o.op) 3&&(jD h (p::e)&&(ap||l7 h (p::e))&&S0 X f h (p::e)) with
   | false=>False
   | true=>match n with
    | none=>Mq G t o.dst v (p::e) h
    | some b=>match o.dst with
     | some d=>Mq G t (some d) (Q0 d v) ((p::e)++[(d,b)]) h
     | none=>Mq G t none v ((p::e)++[(0,b)]) h
def Ev(C:Ctx)(ap:Bool)(X:List Nat)(all:List Oper):List Bool->List Oper->TP->TP
 | _,[],G,t,h=>G t h
 | [],_::_,_,_,_=>False
 | f::fl,o::r,G,t,h=>FO all o (fun t h=>match BL C ap X f o (ev t) with
   | true=>cc C o (ev t) h (kdW C ap X f o (Ev C ap X all fl r G) t h)
   | false=>False) (fun t h=>Mq (Ev C ap X all fl r G) t o.dst uO [] h) t h
def Oh:List Oper->TP->TP
 | [],G,t,h=>G t h
 | o::r,G,t,h=>match sM o.op with
  | true=>match o.dst with
   | some d=>Oh r G (Of d t) (H8 d h)
   | none=>Oh r G (Of 0 t) (H8 0 h)
  | false=>Oh r G t h
def zO:List Oper->TP->TP
 | [],G,t,h=>G t h
 | o::r,G,t,h=>match Mp o with
  | true=>zO r G t h
  | false=>match o.dst with
   | none=>False
   | some d=>match t d with
    | .ow i=>match FM (h i) with
     | false=>zO r G t h
     | true=>match cG i d with
      | true=>zO r G t h
      | false=>zO r G (rnT i d t) (rnH i d h)
    | _=>zO r G t h
theorem BY(d:Nat)(b:AB):∀(e:List (Nat×AB)) (h:Nat->AB),app h (e++[(d,b)])=bd (app h e) d b
 | [],h=>rfl
 | (i,x)::r,h=>BY d b r (bd h i x)
section
variable {C:Ctx} {all:List Oper} {G:TP} {K:AS->Prop} {o:Oper} {t:Nat->AV} {h:Nat->AB} {ap:Bool} {X:List Nat} {f:Bool}
theorem TW(H:SG G K){v:AV}{e:List (Nat×AB)}{n:Option AB}(q:kdW C ap X f o G t h v e n):match vz o.op n o.dst with
  | false=>False
  | true=>match Nat.beq (cls C ap o.op) 3 with
   | true=>match jD h e&&(ap||l7 h e)&&S0 X f h e with
    | true=>K ⟨fE t o.dst v,sD (app h e) (o.dst.getD 0) n⟩
    | false=>False
   | false=>match e with
    | []=>K ⟨fE t o.dst v,sD h (o.dst.getD 0) n⟩
    | _=>False:=by
 unfold kdW at q;cases hn:vz o.op n o.dst with
 | false=>rw[hn]at q;exact q.elim
 | true=>
  rw[hn]at q;simp only at q ⊢;cases e with
  | nil=>
   have:K ⟨fE t o.dst v,sD h (o.dst.getD 0) n⟩:=by
    cases z:o.dst with
    | some d=>rw[z]at q;simp only[FN]at q;exact gJ H [] q
    | none=>rw[z]at q;exact gJ H [] q
   simp only[jD,l7,Mi,wj,qJ];split<;>exact this
  | cons p e=>
   simp only at q;cases h1:Nat.beq (cls C ap o.op) 3 with
   | false=>rw[h1]at q;exact q.elim
   | true=>
    rw[h1]at q;simp only[nk]at q ⊢;cases h2:jD h (p::e)&&(ap||l7 h (p::e))&&S0 X f h (p::e) with
    | false=>rw[h2]at q;exact q.elim
    | true=>
     rw[h2]at q;simp only at q ⊢;cases n with
     | none=>exact gJ H (p::e) q
     | some b=>
      cases z:o.dst with
      | some d=>
       rw[z]at q;simp only[FN]at q;have:=gJ H _ q;rw[BY]at this;exact this
      | none=>
       rw[z]at q;have:=gJ H _ q;rw[BY]at this;exact this
theorem BZ(H:SG G K) (q:match BL C ap X f o (ev t) with
   | true=>cc C o (ev t) h (kdW C ap X f o G t h)
   | false=>False):uZ C ap X f o K ⟨t,h⟩:=by
 unfold uZ;split at q
 ·rename_i hl;simp only[hl];exact ot (fun v e n hk=>by
   have:=TW H hk;unfold vz at this ⊢;cases n<;>cases e<;>exact this) q
 exact q.elim
theorem Ew(H:SG G K):∀(z:List Bool) (l:List Oper) {t:Nat->AV} {h:Nat->AB},Ev C ap X all z l G t h->rh C ap X all z l K ⟨t,h⟩
 | z,[],t,h,q=>by cases z<;>exact H _ _ q
 | [],_::_,_,_,q=>q.elim
 | f::z,o::r,t,h,q=>by
  have ih:SG (Ev C ap X all z r G) (rh C ap X all z r K):=fun _ _ q=>Ew H z r q;unfold Ev FO at q;unfold rh;split at q
  ·rename_i I;(try simp only[I]);exact BZ ih q
  rename_i g D I
  (try simp only[I])
  split at q
  ·exact q.elim
  rename_i og N
  (try simp only[N])
  split at q
  ·exact q.elim
  rename_i tg O
  (try simp only[O])
  split at q
  ·rename_i b J
   (try simp only[J])
   cases b<;>cases D<;>first | exact BZ ih q | exact gJ ih [] q
  ·rename_i xs J
   (try simp only[J])
   exact gJ ih [] q
  exact q.elim
theorem wF(H:SG G K):∀(l:List Oper) {t:Nat->AV} {h:Nat->AB},Oh l G t h->K (BQ l ⟨t,h⟩)
 | [],_,_,q=>H _ _ q
 | o::r,t,h,q=>by
  unfold Oh at q;unfold BQ;cases hm:sM o.op with
  | true=>
   rw[hm]at q;cases z:o.dst with
   | some d=>rw[z]at q;exact wF H r q
   | none=>rw[z]at q;exact wF H r q
  | false=>rw[hm]at q;exact wF H r q
theorem nS(H:SG G K):∀(l:List Oper) {t:Nat->AV} {h:Nat->AB},zO l G t h->K (Ep l ⟨t,h⟩)
 | [],_,_,q=>H _ _ q
 | o::r,t,h,q=>by
  unfold zO at q;show K (Ep r (BR o _));unfold BR;cases hm:Mp o with
  | true=>
   rw[hm]at q;have:∀x,o.op≠.assign x:=fun x z=>by rw[Mp,z]at hm;cases hm
   split
   ·rename_i x d z _;exact absurd z (this _)
   exact nS H r q
  | false=>
   rw[hm]at q;simp only at q;split at q
   ·exact q.elim
   rename_i d J;have D:∃x,o.op=.assign x:=by
    unfold Mp at hm;split at hm
    ·rename_i x z;exact⟨x,z⟩
    cases hm
   obtain⟨x,D⟩:=D;rw[D,J];simp only;split at q
   ·rename_i i I
    (try simp only[I])
    cases hb:h i<;>rw[hb]at q<;>simp only[FM]at q ⊢<;>first
     | exact nS H r q
     | (cases N:cG i d<;>rw[N]at q<;>exact nS H r q)
   rename_i O
   first
    | exact nS H r q
    | (
      split
      ·rename_i i I;exact absurd I (O i)
      exact nS H r q)
end
def KN:Code->Option Nat
 | .seq a _=>KN a
 | .region i _ _=>some i
 | .block _ c=>KN c
 | .cond _ x y=>match KN x with
  | some i=>some i
  | none=>KN y
 | .loop c=>KN c
 | _=>none
def Oi(k:Nat):List Nat->Bool
 | []=>false
 | i::r=>match cG i k with
  | true=>true
  | false=>Oi k r
def ZB(l:List Nat):Option Nat->Bool
 | some k=>Oi k l
 | none=>false
def Q2(f:TP)(K:Exit->TP):Exit->TP
 | .normal=>f
 | .exit i=>K (.exit i)
 | .ret=>K .ret
 | e=>K e
def TX(id:Nat)(K:Exit->TP):Exit->TP
 | .exit i=>fun t h=>match cG i id with
  | true=>K .normal t h
  | false=>K (.exit i) t h
 | .normal=>K .normal
 | .ret=>K .ret
 | e=>K e
structure Hint where
 M:List Nat
 B:List Nat
 X:List (Nat×List Nat)
 K:List Nat
 F:List (Nat×List Bool)
 S:List Nat
def TY{α:Type}(d:α)(k:Nat):List (Nat×α)->α
 | []=>d
 | (i,x)::r=>match cG i k with
  | true=>x
  | false=>TY d k r
def ZC:List Oper->List Bool
 | []=>[]
 | _::r=>true::ZC r
def ZD(Q:Hint)(id:Nat)(l:List Oper):List Bool:=TY (ZC l) id Q.F
def ou(Q:Hint)(C:Ctx):Code->Bool
 | .region id ops draw=>!draw||(decide ((ops.toList.any fun o=>lF C o.op)=Oi id Q.K)&&decide (kK C (Oi id Q.K) ops=ZD Q id ops.toList))
 | .seq a b=>ou Q C a&&ou Q C b
 | .cond _ a b=>ou Q C a&&ou Q C b
 | .block _ c=>ou Q C c
 | .loop c=>ou Q C c
 | _=>true
structure LW(Q:Hint)(A:rZ)(c:Code)(K:Exit->TP)(t:Nat->AV)(h:Nat->AB):Prop where
 out:ou Q A.C c=true->Dm A (.loop c) (fun e s=>K e s.t s.h) ⟨t,h⟩
structure SW(Q:Hint)(A:rZ)(a b:Code)(K:Exit->TP)(t:Nat->AV)(h:Nat->AB):Prop where
 out:ou Q A.C a=true->ou Q A.C b=true->Dm A (.seq a b) (fun e s=>K e s.t s.h) ⟨t,h⟩
structure BW(Q:Hint)(A:rZ)(c:Code)(id:Nat)(K:Exit->TP)(t:Nat->AV)(h:Nat->AB):Prop where
 out:ou Q A.C c=true->Dm A (.block id c) (fun e s=>K e s.t s.h) ⟨t,h⟩
def jZ(Q:Hint)(A:rZ):Code->(Exit->TP)->TP
 | .skip,K,t,h=>K .normal t h
 | .region id ops draw,K,t,h=>match draw with
  | false=>Og A.C ops.toList ops.toList (K .normal) t h
  | true=>Oh ops.toList (Ev A.C (Oi id Q.K) (TY [] id Q.X) ops.toList (ZD Q id ops.toList) ops.toList (zO ops.toList (K .normal))) t h
 | .seq a b,K,t,h=>match ZB Q.S (KN b),ZB Q.M (KN b) with
  | true,_=>SW Q A a b K t h
  | false,false=>jZ Q A a (Q2 (jZ Q A b K) K) t h
  | false,true=>jZ Q A a (Q2 (fun t h=>∃oN,aA A ⟨t,h⟩ oN/\jZ Q A b K oN.t oN.h) K) t h
 | .cond c a b,K,t,h=>match ev t c with
  | .p (.im (.bool x))=>@Bool.rec (fun _=>Prop) (jZ Q A b K t h) (jZ Q A a K t h) x
  | _=>False
 | .block id c,K,t,h=>match Oi id Q.B with
  | false=>jZ Q A c (TX id K) t h
  | true=>BW Q A c id K t h
 | .loop c,K,t,h=>LW Q A c K t h
 | .exit id,K,t,h=>K (.exit id) t h
 | .ret,K,t,h=>K .ret t h
 | _,_,_,_=>False
variable {Q:Hint} {A:rZ}
theorem qj:∀(c:Code) {G:Exit->TP} {K:Exit->AS->Prop} {t:Nat->AV} {h:Nat->AB},ou Q A.C c=true->(∀e,SG (G e) (K e))->jZ Q A c G t h->Dm A c K ⟨t,h⟩:=by
 intro c
 induction c with
 | skip=>intro G K t h z H q;exact H _ _ _ q
 | region id ops draw=>
  intro G K t h z H q;cases draw with
  | false=>exact H9 (H .normal) _ q
  | true=>
   simp only[ou,lY,iq,aJ,db]at z;refine⟨TY [] id Q.X,?_⟩;rw[z.1,z.2];exact wF (fun _ _ q=>Ew (fun _ _ q=>nS (H .normal) _ q) _ _ q) _ q
 | seq a b D I=>
  intro G K t h z H q;simp only[ou,aJ]at z;unfold jZ at q;split at q
  ·exact sR (.seq a b) _ _ _ (fun e s q=>H e _ _ q) (q.out z.1 z.2)
  ·refine D z.1 (fun e t h q=>?_) q;cases e with
   | normal=>exact⟨_,aA.refl _ _,I z.2 H q⟩
   | _=>exact H _ _ _ q
  refine D z.1 (fun e t h q=>?_) q;cases e with
  | normal=>
   obtain⟨J,hl,q⟩:=q;exact⟨J,hl,I z.2 H q⟩
  | _=>exact H _ _ _ q
 | cond c a b D I=>
  intro G K t h z H q;simp only[ou,aJ]at z;unfold jZ at q;unfold Dm;split at q
  ·rename_i x N;simp only[N];cases x
   ·exact I z.2 H q
   exact D z.1 H q
  exact q.elim
 | block id c ih=>
  intro G K t h z H q;unfold jZ at q;split at q
  ·refine ih z (fun e t h q=>?_) q;cases e with
   | exit i=>
    show sd (cG i id) _ _;simp only[TX]at q;cases hb:cG i id<;>rw[hb]at q<;>exact H _ _ _ q
   | _=>exact H _ _ _ q
  exact sR (.block id c) _ _ _ (fun e s q=>H e _ _ q) (q.out z)
 | loop c ih=>intro G K t h z H q;exact sR (.loop c) _ _ _ (fun e s q=>H e _ _ q) (q.out z)
 | exit id=>intro G K t h z H q;exact H _ _ _ q
 | ret=>intro G K t h z H q;exact H _ _ _ q
 | rangeFunc=>intro G K t h z H q;exact q.elim
 | scope=>intro G K t h z H q;exact q.elim
 | label=>intro G K t h z H q;exact q.elim
 | goto=>intro G K t h z H q;exact q.elim
 | refuse=>intro G K t h z H q;exact q.elim
variable {α:Type}
theorem aP{c:Code}{K:Exit->TP}{t:Nat->AV}{h:Nat->AB}(R:α->Prop)(D:α->List (Nat×AV))(I:α->List (Nat×AB))(m:α->Nat)(x0:α)(s0:AS)(N:aA A ⟨t,h⟩ s0)(O:R x0)(U:oT (D x0) s0.t)(V:oT (I x0) s0.h)
  (z:∀x,R x->∀t h,jZ Q A c (Q2 (fun t h=>∃y J,aA A ⟨t,h⟩ J/\R y/\m y<m x/\oT (D y) J.t/\oT (I y) J.h) K) (ri (D x) t) (ri (I x) h)):LW Q A c K t h:=
 ⟨fun W=>TN R D I m x0 s0 N O U V fun x Y t h=>qj c W (fun e t h q=>by cases e<;>exact q) (z x Y t h)⟩
theorem Ak{c:Code}{id:Nat}{K:Exit->TP}{t:Nat->AV}{h:Nat->AB}(R:α->Prop)(z:α->List (Nat×AV))(D:α->List (Nat×AB))
  (I:∀y,R y->∀t h,K .normal (ri (z y) t) (ri (D y) h)) (J:jZ Q A c (TX id (Q2 (fun t h=>∃y,R y/\oT (z y) t/\oT (D y) h) K)) t h):BW Q A c id K t h:=
 ⟨fun N=>acA R z D I (qj c N (K:=Er id (qi (zN R z D) fun e s=>K e s.t s.h)) (fun e t h q=>by
  cases e with
  | exit i=>
   show sd (cG i id) _ _;simp only[TX]at q;cases hb:cG i id<;>rw[hb]at q<;>exact q
  | _=>exact q) J)⟩
theorem ZE{a b:Code}{K:Exit->TP}{t:Nat->AV}{h:Nat->AB}(R:α->Prop)(z:α->List (Nat×AV))(D:α->List (Nat×AB))
  (I:∀y,R y->∀t h,jZ Q A b K (ri (z y) t) (ri (D y) h)) (J:jZ Q A a (Q2 (fun t h=>∃y,R y/\oT (z y) t/\oT (D y) h) K) t h):SW Q A a b K t h:=
 ⟨fun N hb=>cut R z D (fun y O t h=>⟨_,aA.refl _ _,qj b hb (fun _ _ _ q=>q) (I y O t h)⟩) (qj a N (K:=qi (zN R z D) fun e s=>K e s.t s.h) (fun e t h q=>by cases e<;>exact q) J)⟩
theorem qk{G:TP}{t:Nat->AV}{h:Nat->AB}{z:AS}(hl:aA A ⟨t,h⟩ z)(q:G z.t z.h):∃D,aA A ⟨t,h⟩ D/\G D.t D.h:=⟨z,hl,q⟩
theorem W1{G:TP}{t:Nat->AV}{h:Nat->AB}(d:Nat){y:PV}{fz:List (Nat×AB)}(hC:bP A.C)(D:AM.iT h (t d) fun I J=>I=y/\J=fz)(q:G (bd t d (.p y)) (app h fz)):∃z,aA A ⟨t,h⟩ z/\G z.t z.h:=⟨_,aA.iT hC ⟨t,h⟩ d D,q⟩
theorem zB:(∀(p:Prop) [Decidable p],(decide p=true)=p)/\(∀(p:Prop) [Decidable p],(decide p=false)=¬p)/\(∀(α:Type) [_root_.LE α] (a b:α),(a>=b)=(b<=a))/\(∀(α:Type) [_root_.LT α] (a b:α),(a>b)=(b<a))/\(∀b:Bool,((!b)=true)=(b=false))/\(∀b:Bool,((!b)=false)=(b=true)):=
 ⟨fun p _=>by simp,fun p _=>by simp,fun _ _ _ _=>rfl,fun _ _ _ _=>rfl,fun b=>by simp,fun b=>by simp⟩
class W2(b:Bool)(p q:outParam Prop):Prop where
 yes:b=true->p
 no:b=false->q
instance (priority:=10) acC {b:Bool}:W2 b (b=true) (b=false):=⟨id,id⟩
instance ae7{p:Prop}[Decidable p]:W2 (decide p) p (¬p):=⟨l5,of_decide_eq_false⟩
instance adU{α:Type}[_root_.LE α]{a b:α}[Decidable (a>=b)]:W2 (decide (a>=b)) (b<=a) (¬b<=a):=⟨l5,of_decide_eq_false⟩
instance adV{α:Type}[_root_.LT α]{a b:α}[Decidable (a>b)]:W2 (decide (a>b)) (b<a) (¬b<a):=⟨l5,of_decide_eq_false⟩
instance ae8{b:Bool}{p q:Prop}[i:W2 b p q]:W2 (!b) q p:=⟨fun h=>i.no (by simpa using h),fun h=>i.yes (by simpa using h)⟩
theorem Z{α:Sort _}{a:α}:a=a:=rfl
theorem Y:True:=trivial
theorem wO{p q:Prop}(h:p/\q):p/\q:=h
theorem iW{b:Bool}{P Q p q:Prop}[k:W2 b p q](f:p->P)(g:q->Q):@Bool.rec (fun _=>Prop) Q P b:=by
 cases b
 ·exact g (k.no rfl)
 exact f (k.yes rfl)
structure Oj where
 w0:World
 mv:Nat->Prop
 s0:Nat->Prop
 n:Nat
 pin:Nat->Value
def Ol (Q : Hint) (C : Ctx) (fn : Func) (c : Code) (k : Nat) : Bool := !(fn.name == "runtime.NumGoroutine") && (Nat.ble (k + (fn.ntmps - k)) 100000 && (mM C (k + (fn.ntmps - k)) c && ou Q C c))
variable {fn:Func} {args:List Arg} {fin:List Fin}
theorem fWG(Q:Hint){C:Ctx}(hC:bP C){f:FuncId}{c:Code}{r:AR}(R:C.P.funcs[f]?=some fn)(hb:fn.body=some c)(hk:Ol Q C fn c args.length=true)
  (K:Oj->Exit->TP) (U:∀p e t h,K p e t h->∃z,aA ⟨C,p.w0,p.mv,p.s0,p.n,p.pin⟩ ⟨t,h⟩ z/\Kn C fn.results.toList args r fin e z)
  (h:∀p:Oj,∃D,aA ⟨C,p.w0,p.mv,p.s0,p.n,p.pin⟩ ⟨wv args,pe args⟩ D/\jZ Q ⟨C,p.w0,p.mv,p.s0,p.n,p.pin⟩ c (K p) D.t D.h):ai C f args r fin:=by
 simp only[Ol,aJ,qS,Nat.ble_eq]at hk;refine WG hC R hb hk.1 (by omega) fun A V I S rho a w J=>?_;obtain⟨_,w0,mv,s0,n,pin⟩:=A;subst V;obtain⟨D,hl,W⟩:=h ⟨w0,mv,s0,n,pin⟩;obtain⟨S',rho',Y⟩:=hl S rho a w J;have:=N_ hC c (fun e s=>∃z,aA ⟨_,w0,mv,s0,n,pin⟩ s z/\Kn _ fn.results.toList args r fin e z) D (by show mM _ _ c=true;rw[I];exact hk.2.2.1) (qj c hk.2.2.2 (fun e t h q=>U _ e t h q) W) S' rho' a w Y;refine wp_mono this fun e Z w' hq=>?_;obtain⟨S2,WR,s3,fu,s4,N,hk⟩:=hq;obtain⟨S5,O,NN⟩:=N S2 WR Z w' fu;exact⟨S5,O,s4,NN,hk⟩
theorem ZF(Q:Hint){C:Ctx}(hC:bP C){f:FuncId}{c:Code}{r:AR}(I:C.P.funcs[f]?=some fn)(hb:fn.body=some c)(hk:Ol Q C fn c args.length=true)
  (h:∀p:Oj,∃z,aA ⟨C,p.w0,p.mv,p.s0,p.n,p.pin⟩ ⟨wv args,pe args⟩ z/\jZ Q ⟨C,p.w0,p.mv,p.s0,p.n,p.pin⟩ c (fun e t h=>∃D,aA ⟨C,p.w0,p.mv,p.s0,p.n,p.pin⟩ ⟨t,h⟩ D/\Kn C fn.results.toList args r fin e D) z.t z.h):ai C f args r fin:=
 fWG Q hC I hb hk _ (fun _ _ _ _ q=>q) h
theorem ZG(Q:Hint){C:Ctx}(hC:bP C){f:FuncId}{c:Code}{r:AR}(D:C.P.funcs[f]?=some fn)(hb:fn.body=some c)(hk:Ol Q C fn c args.length=true)
  (h:∀p:Oj,∃z,aA ⟨C,p.w0,p.mv,p.s0,p.n,p.pin⟩ ⟨wv args,pe args⟩ z/\jZ Q ⟨C,p.w0,p.mv,p.s0,p.n,p.pin⟩ c (fun e t h=>Kn C fn.results.toList args r fin e ⟨t,h⟩) z.t z.h):ai C f args r fin:=
 fWG Q hC D hb hk _ (fun _ _ _ _ q=>⟨_,aA.refl _ _,q⟩) h
theorem FP(Q:Hint){C:Ctx}(hC:bP C){f:FuncId}{c:Code}{r:AR}(z:C.P.funcs[f]?=some fn)(hb:fn.body=some c)(hk:Ol Q C fn c args.length=true)
  (h:∀p:Oj,jZ Q ⟨C,p.w0,p.mv,p.s0,p.n,p.pin⟩ c (fun e t h=>Kn C fn.results.toList args r fin e ⟨t,h⟩) (wv args) (pe args)):ai C f args r fin:=
 ZG Q hC z hb hk fun p=>⟨_,aA.refl _ _,h p⟩
theorem fW{C:Ctx}(hC:bP C){f:FuncId}{c:Code}{r:AR}(z:C.P.funcs[f]?=some fn)(hb:fn.body=some c)(hk:Ol ⟨[],[],[],[],[],[]⟩ C fn c args.length=true)
  (h:∀p:Oj,jZ ⟨[],[],[],[],[],[]⟩ ⟨C,p.w0,p.mv,p.s0,p.n,p.pin⟩ c (fun e t h=>Kn C fn.results.toList args r fin e ⟨t,h⟩) (wv args) (pe args)):ai C f args r fin:=FP _ hC z hb hk h
end Go.AM
namespace Go.AM
open Go.RowKit
def AW (C : Ctx) (f : FuncId) : Prop := ∃ fn : Func, C.P.funcs[f]? = some fn ∧ (fn.name == "runtime.NumGoroutine") = false ∧ fn.body.isNone = false
theorem AX{S:Nat->Prop}{w:World}{P:Program}{z:List Value}{vs:Array Value}(hl:(z.map fun a=>Arg.pv (.im a)).length=vs.size)(I:∀(j:Nat) x v,(z.map fun a=>Arg.pv (.im a))[j]?=some x->vs[j]?=some v->JP S w P x v):vs=z.toArray:=by
 apply qI;apply kz;intro i;by_cases hi:i<z.length
 ·have J:(z.map fun a=>Arg.pv (.im a))[i]?=some (.pv (.im z[i])):=by rw[aD,aW hi];rfl
  have D:i<vs.size:=by rw[<-hl];simpa using hi
  have N:=I i _ vs[i] J (cC D);have O:vs[i]=z[i]:=by
   have:aO S w (.im z[i]) vs[i]:=N;generalize vs[i]=v at this;cases this;rfl
  rw[kC,cC D,O];simp[hi]
 rw[iR (by simpa [<-hl] using hi)];rw[iR (by simpa using hi)]
theorem FQ{S:Nat->Prop}{w:World}{P:Program}:∀l:List Value,fq S w P (l.map fun a=>Arg.pv (.im a)) [] l:=by
 intro l
 induction l with
 | nil=>trivial
 | cons a l ih=>exact ih
theorem wG{w:World}:∀(l:List Value) (i g:Nat),¬dA w (l.map fun a=>Arg.pv (.im a)) [] l i g:=by
 intro l
 induction l with
 | nil=>exact fun i g h=>h
 | cons a l ih=>
  intro i g h;cases i with
  | zero=>exact h
  | succ i=>exact ih i g h
theorem H_{w w':World}(l:List Value):v7 w w' (l.map fun a=>Arg.pv (.im a)) [] l.toArray:=⟨fun i g h=>(wG l i g h).elim,fun i j g h=>(wG l i g h).elim⟩
theorem tO{C:Ctx}{f:FuncId}(D:List Value)(r:Value)(I:AW C f)(h:∀S w,C.E S w->(∀b,S b->b<w.heap.size)->Calls C.P f D.toArray w fun e w'=>e=.returned r/\Below w.heap.size w w'):
  ai C f (D.map fun a=>.pv (.im a)) (.p (.im r)) []:=by
 refine⟨I,fun S w vs J hS hl N _=>?_⟩;have O:=AX hl N;subst O;exact (h S w J hS).mono fun e w' ⟨R,hb⟩=>⟨r,S,R,⟨hb.os,hb.tape,hb.output,hb.size,fun k hk _=>hb.block k hk⟩,fun _ h=>h,fun b z=>cB (hS b z) hb.size,fun b z=>.inl z,.im r,FQ D,H_ D,fun g h=>by cases h⟩
theorem Ia{C:Ctx}(hC:bP C){f:FuncId}(N:List Value)(e:TypeId)(xs:List Value)(R:TI)(Y:C.T e=some R)(D:R.size=1)(Z:∀v∈xs,v.oneCell'=true)(hlen:xs.length<=maxLen)(hf:AW C f)
  (h:∀S w,C.E S w->(∀b,S b->b<w.heap.size)->Calls C.P f N.toArray w fun e' w'=>e'=.returned (.slice (some ⟨w.heap.size,0,none⟩) xs.length xs.length)/\w'=w.alloc (.cells xs.toArray e)):
  ai C f (N.map fun a=>.pv (.im a)) (.own e (xs.map fun v=>[.im v])) []:=by
 refine⟨hf,fun S w vs hE hS hl U _=>?_⟩;have PY:=AX hl U;subst PY;obtain⟨info,z,h1,O,_⟩:=hC.jw e R Y;refine (h S w hE hS).mono fun e' w' ⟨he,hw⟩=>?_;subst hw;have Ec:(w.alloc (.cells xs.toArray e)).heap[w.heap.size]?=some (.cells xs.toArray e (0,0)):=by unfold World.alloc;exact Array.getElem?_push_size
 have afa:(w.alloc (.cells xs.toArray e)).heap.size=w.heap.size+1:=l6 ..;have hb:Below w.heap.size w (w.alloc (.cells xs.toArray e)):=(Below.refl _ _).alloc (aG _) _;refine⟨_,S,he,⟨hb.os,hb.tape,hb.output,hb.size,fun k hk _=>hb.block k hk⟩,fun _ h=>h,fun b J=>cB (hS b J) hb.size,fun b J=>.inl J,⟨⟨info,xs,h1,by omega,⟨?_,.inr ⟨w.heap.size,xs.length,xs.toArray,?_,ak _,Ec,?_,hlen,?_,?_⟩⟩,?_,Z,?_⟩,?_⟩,FQ N,H_ N,?_⟩
 ·simp[O,D]
 ·simp
 ·simp
 ·simp[O,D]
 ·simp[O,D]
 ·intro r U;obtain⟨v,_,rfl⟩:=aZ.1 U;simp[O,D]
 ·intro a r j x W V;rw[aD]at W;obtain⟨v,hv,rfl⟩:=aV.1 W;cases j with
  | zero=>
   simp at V;subst V;exact⟨v,by rw[O,D,Nat.mul_one,mY];exact hv,.im v⟩
  | succ j=>simp at V
 ·intro g I hs;injection I with I;have I:w.heap.size=g:=I;have:=hS g hs;omega
 intro g _ I;have I:=aI rfl I;injection I with I;have I:w.heap.size=g:=I;exact⟨by omega,.inl (by omega),fun i=>wG N i g⟩
end Go.AM
