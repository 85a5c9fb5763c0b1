/- Part 3 of the proof of HouseFlowsAreRight. -/
import Derived.Test.YtedjhhieekileaaGreatDoorR02
import Derived.WideKeyRuns
set_option linter.unusedVariables false
set_option linter.unusedSimpArgs false
set_option maxRecDepth 100000
set_option maxHeartbeats 8000000
namespace Go
abbrev fQ:=@Bool.false_or
abbrev fR:=@List.mem_range
abbrev vy:=@Bool.not_true
abbrev ia:=@List.any_eq_true
abbrev ou:=@List.map_congr_left
abbrev gC:=@Bool.or_false
abbrev qZ:=@List.mem_append_left
abbrev q8:=@List.mem_filterMap
abbrev kf:=@List.mem_append_right
abbrev dA:=@List.flatMap_cons
abbrev vz:=@List.map_map
abbrev q9:=@List.mem_flatMap
abbrev vA:=@List.getElem?_replicate
abbrev vB:=@List.set_append_right
abbrev l_:=@List.replicate_succ
abbrev ma:=@List.set_cons_zero
abbrev ov:=@of_decide_eq_true
abbrev fT:=@Array.size_push
end Go
namespace Go.AM
open Go.RowKit
def isApp:Op->Bool
 | .call c=>match c.callee with
  | .builtin .append=>true
  | _=>false
 | _=>false
def Eg(m:Nat->Bool):Nat->Bool
 | 0=>false
 | n+1=>m n||Eg m n
def gm(C:Ctx)(o:Op):Bool:=isApp o||match o with
 | .call c=>match c.callee with
  | .value (.func f)=>Eg (C.md f) 8||C.bl f
  | .value (.tmp _)=>true
  | _=>false
 | _=>false
def cls(C:Ctx)(ap:Bool):Op->Nat
 | .move _=>0
 | .assign _=>0
 | .pick _ _ _=>0
 | .binOp _ _ _ _ _=>0
 | .unOp _ _ _=>0
 | .convert _ _ _=>0
 | .extract _ _=>0
 | .index _ _ _=>0
 | .field _ _ _=>0
 | .makeFunc _ _ _=>0
 | .fieldAddr _ _ _=>match ap with
  | true=>2
  | false=>1
 | .nilCheck _=>match ap with
  | true=>2
  | false=>1
 | .store _ _ _=>3
 | .mapUpdate _ _ _ _=>3
 | .call c=>match c.callee with
  | .builtin .append=>3
  | .builtin .clear=>3
  | .builtin .min=>0
  | .builtin .max=>0
  | .value (.func f)=>match Eg (C.md f) 8||C.bl f with
   | true=>3
   | false=>2
  | .value (.tmp _)=>3
  | _=>2
 | _=>2
def Eh:AB->AB->Bool
 | .row e _,.row e' _=>bB e e'
 | .box _,.box _=>true
 | .map _ _,.map _ _=>true
 | _,_=>false
def Ei:AB->Bool
 | .none=>false
 | _=>true
def fb(h:Nat->AB):List (Nat×AB)->Bool
 | []=>true
 | (i,_)::r=>Ei (h i)&&fb h r
def gD(h:Nat->AB):List (Nat×AB)->Bool
 | []=>true
 | (i,b)::r=>Eh (h i) b&&gD h r
def nu(op:Op):Option AB->Option Tmp->Bool
 | none,_=>true
 | some _,some _=>ly op
 | some _,none=>false
def py:AV->Bool
 | .p _=>true
 | _=>false
def pz(o:Oper)(rho:Operand->AV):Bool:=match o.op with
 | .load _ a=>py (rho a)
 | .indexAddr _ x _=>py (rho x)
 | .slice _ x _ _ none=>py (rho x)
 | .build _ ps=>ps.toList.all fun p=>py (rho p.2)
 | .call c=>match c.callee,c.args.toList with
  | .builtin .len,[x]=>py (rho x)
  | _,_=>false
 | .fieldAddr _ x _=>py (rho x)
 | .nilCheck x=>py (rho x)
 | _=>false
def tx:List Nat->Nat->Bool
 | [],_=>false
 | i::r,k=>match bB i k with
  | true=>true
  | false=>tx r k
def LF(X:List Nat):AV->Bool
 | .ow id=>tx X id
 | .rp id _ _=>tx X id
 | .bx id _=>tx X id
 | _=>false
def lz(X:List Nat)(o:Oper)(rho:Operand->AV):Bool:=match o.op with
 | .load _ a=>LF X (rho a)
 | .indexAddr _ x _=>LF X (rho x)
 | .lookup _ x _ _=>LF X (rho x)
 | .call c=>match c.callee,c.args.toList with
  | .builtin .len,[x]=>LF X (rho x)
  | _,_=>false
 | _=>false
def pA(X:List Nat)(o:Oper)(rho:Operand->AV):Bool:=match o.op with
 | .makeSlice _ _ _=>tx X (o.dst.getD 0)
 | .buildSlice _ _ ps=>tx X (o.dst.getD 0)&&ps.toList.all fun p=>py (rho p.2)
 | _=>false
def lA(X:List Nat)(o:Oper)(rho:Operand->AV):Bool:=lz X o rho||pA X o rho
def Kt(X:List Nat):List (Nat×AB)->Bool
 | []=>true
 | (i,_)::r=>match tx X i with
  | true=>false
  | false=>Kt X r
def kc:AB->Nat
 | .box _=>1
 | .jt _=>1
 | .row _ _=>2
 | .ai _ _=>2
 | _=>0
def ox(X:List Nat)(h:Nat->AB):List (Nat×AB)->Bool
 | []=>true
 | (i,b)::r=>match tx X (i+1000000) with
  | true=>Nat.beq (kc b) (kc (h i))&&(!Nat.beq (kc (h i)) 0&&ox X h r)
  | false=>ox X h r
def FD(X:List Nat)(f:Bool)(h:Nat->AB)(e:List (Nat×AB)):Bool:=(f||Kt X e)&&ox X h e
theorem AT(X:List Nat)(f:Bool)(h:Nat->AB):FD X f h []=true:=by simp[FD,Kt,ox]
def Ou(X:List Nat):AV->Bool
 | .bx id _=>tx X (id+1000000)
 | .rp id _ _=>tx X (id+1000000)
 | _=>false
def pB(X:List Nat)(o:Oper)(rho:Operand->AV):Bool:=match o.op with
 | .fieldAddr _ x _=>Ou X (rho x)
 | .nilCheck x=>Ou X (rho x)
 | _=>false
def sd(C:Ctx)(ap:Bool)(X:List Nat)(f:Bool)(o:Oper)(rho:Operand->AV):Bool:=f||pz o rho||lA X o rho||pB X o rho||Nat.beq (cls C ap o.op) 3
def Ej(C:Ctx)(ap:Bool)(X:List Nat)(f:Bool)(o:Oper)(K:AS->Prop)(s:AS):Prop:=
 aZ C o (ev s.t) s.h fun v eff new=>match nu o.op new o.dst with
  | false=>False
  | true=>match Nat.beq (cls C ap o.op) 3 with
   | true=>match fb s.h eff&&(ap||gD s.h eff)&&FD X f s.h eff with
    | true=>K ⟨cU s.t o.dst v,jA (app s.h eff) (o.dst.getD 0) new⟩
    | false=>False
   | false=>match eff with
    | []=>K ⟨cU s.t o.dst v,jA s.h (o.dst.getD 0) new⟩
    | _=>False
def mT(C:Ctx)(ap:Bool)(X:List Nat)(f:Bool)(o:Oper)(K:AS->Prop)(s:AS):Prop:=match sd C ap X f o (ev s.t) with
 | true=>Ej C ap X f o K s
 | false=>False
def kg(C:Ctx)(ap:Bool)(X:List Nat)(all:List Oper):List Bool->List Oper->(AS->Prop)->AS->Prop
 | _,[],K,s=>K s
 | [],_::_,_,_=>False
 | f::fl,o::r,K,s=>match o.guard with
  | none=>mT C ap X f o (kg C ap X all fl r K) s
  | some (g,want)=>match all[g]? with
   | none=>False
   | some og=>match og.dst with
    | none=>False
    | some tg=>match s.t tg with
     | .p (.im (.bool b))=>kF b
       (match want with
        | true=>mT C ap X f o (kg C ap X all fl r K) ⟨ax s.t tg (fP true),s.h⟩
        | false=>kg C ap X all fl r K ⟨cU (ax s.t tg (fP true)) o.dst mK,s.h⟩)
       (match want with
        | false=>mT C ap X f o (kg C ap X all fl r K) ⟨ax s.t tg (fP false),s.h⟩
        | true=>kg C ap X all fl r K ⟨cU (ax s.t tg (fP false)) o.dst mK,s.h⟩)
     | .p (.im (.tuple _))=>kg C ap X all fl r K ⟨cU s.t o.dst mK,s.h⟩
     | _=>False
structure RR where
 run:Bool
 v:AV
 eff:List (Nat×AB)
 new:Option AB
structure DStep(C:Ctx)(ap:Bool)(all:List Oper)(o:Oper)(s:AS)(r:RR)(s':AS):Prop where
 guard:match o.guard with
  | none=>r.run=true
  | some (g,want)=>∃og tg b,all[g]?=some og/\og.dst=some tg/\s.t tg=.p (.im b)/\r.run=Lw b want
 ran:r.run=true->aZ C o (ev s.t) s.h fun v e n=>v=r.v/\e=r.eff/\n=r.new
 not:r.run=false->r.v=mK/\r.eff=[]/\r.new=none
 next:s'=⟨cU s.t o.dst r.v,jA (app s.h r.eff) (o.dst.getD 0) r.new⟩
 there:fb s.h r.eff=true
 kind:ap=false->gD s.h r.eff=true
 quiet:cls C ap o.op≠3->r.eff=[]
 ndst:nu o.op r.new o.dst=true
variable {ap:Bool}
theorem Cl{C:Ctx}{f:Bool}{X:List Nat}{o:Oper}{K:AS->Prop}{s:AS}(h:Ej C ap X f o K s):∃v eff new,(aZ C o (ev s.t) s.h fun I e' J=>I=v/\e'=eff/\J=new)/\fb s.h eff=true/\(ap=false->gD s.h eff=true)/\(cls C ap o.op≠3->eff=[])/\nu o.op new o.dst=true/\FD X f s.h eff=true/\K ⟨cU s.t o.dst v,jA (app s.h eff) (o.dst.getD 0) new⟩:=by
 obtain⟨v,eff,new,m,L⟩:=l6 (fun _=>.inr rfl) h;refine⟨v,eff,new,L _ ⟨rfl,rfl,rfl⟩,?_⟩;split at m
 ·exact m.elim
 rename_i D;split at m
 ·rename_i z;have z:cls C ap o.op=3:=bq z;split at m
  ·rename_i u;have N:FD X f s.h eff=true:=(aw _ _▸u).2;simp only[aw,qV]at u;exact⟨u.1.1,fun e=>u.1.2.resolve_left (by rw[e];decide),fun h=>absurd z h,D,N,m⟩
  exact m.elim
 split at m
 ·exact⟨rfl,fun _=>rfl,fun _=>rfl,D,AT _ _ _,m⟩
 exact m.elim
def se(C:Ctx)(ap:Bool)(X:List Nat)(fl:List Bool)(o:Oper)(s:AS)(r:RR)(i:Nat):Prop:=r.run=true->(fl[i]?=some true\/pz o (ev s.t)=true\/lA X o (ev s.t)=true\/pB X o (ev s.t)=true\/cls C ap o.op=3)/\(fl[i]?=some true\/Kt X r.eff=true)/\ox X s.h r.eff=true
theorem Ek{C:Ctx}{X:List Nat}{all:List Oper}{K:AS->Prop}:∀(l:List Oper) (u:List Bool) (s:AS),kg C ap X all u l K s->∃(st:Nat->AS) (r:Nat->RR),st 0=s/\K (st l.length)/\∀(i:Nat) o,l[i]?=some o->DStep C ap all o (st i) (r i) (st (i+1))/\se C ap X u o (st i) (r i) i:=by
 intro l
 induction l with
 | nil=>intro u s h;exact⟨fun _=>s,fun _=>⟨false,.junk,[],none⟩,rfl,by cases u<;>exact h,by simp⟩
 | cons o l ih=>
  intro u s h;cases u with
  | nil=>exact h.elim
  | cons f u=>
  have ext:∀(r:RR) (N:AS),DStep C ap all o s r N->(r.run=true->sd C ap X f o (ev s.t)=true/\FD X f s.h r.eff=true)->kg C ap X all u l K N->∃(st:Nat->AS) (r:Nat->RR),st 0=s/\K (st (o::l).length)/\∀(i:Nat) o',(o::l)[i]?=some o'->DStep C ap all o' (st i) (r i) (st (i+1))/\se C ap X (f::u) o' (st i) (r i) i:=by
   intro r0 N hd W hk;obtain⟨st,r,h1,h2,h3⟩:=ih u N hk;refine⟨fun i=>match i with | 0=>s | i+1=>st i,fun i=>match i with | 0=>r0 | i+1=>r i,rfl,h2,fun i o' Y=>?_⟩;cases i with
   | zero=>
    simp at Y;subst Y;refine⟨?_,fun Z=>?_⟩
    ·show DStep C ap all o s r0 (st 0);rw[h1];exact hd
    obtain⟨O,L⟩:=W Z;simp only[FD,aw]at L;obtain⟨L,q3⟩:=L;exact⟨by cases f with
     | true=>exact .inl rfl
     | false=>simp only[sd,fQ,qV]at O;exact .inr (by rcases O with ((h | h) | h) | h;exact .inl h;exact .inr (.inl h);exact .inr (.inr (.inl h));exact .inr (.inr (.inr (bq h)))),by cases f with
     | true=>exact .inl rfl
     | false=>exact .inr L,q3⟩
   | succ i=>
    obtain⟨O,L⟩:=h3 i o' (by simpa using Y);exact⟨O,fun Z=>L Z⟩
  have z:(match o.guard with
    | none=>true=true
    | some (g,m)=>∃J D b,all[g]?=some J/\J.dst=some D/\s.t D=.p (.im b)/\true=Lw b m)->mT C ap X f o (kg C ap X all u l K) s->∃(st:Nat->AS) (r:Nat->RR),st 0=s/\K (st (o::l).length)/\∀(i:Nat) o',(o::l)[i]?=some o'->DStep C ap all o' (st i) (r i) (st (i+1))/\se C ap X (f::u) o' (st i) (r i) i:=by
   intro I hs;unfold mT at hs;split at hs
   case h_2=>exact hs.elim
   rename_i W;obtain⟨v,eff,new,k1,k2,k3,k4,k6,k7,k5⟩:=Cl hs;exact ext ⟨true,v,eff,new⟩ _ ⟨I,fun _=>k1,(fun h=>by cases h),rfl,k2,k3,k4,k6⟩ (fun _=>⟨W,k7⟩) k5
  unfold kg at h;split at h
  ·rename_i I;exact z (by rw[I]) h
  rename_i g m I;split at h
  ·exact h.elim
  rename_i J R;split at h
  ·exact h.elim
  rename_i D U;split at h
  ·rename_i b hb;have V:∀b',b=b'->ax s.t D (fP b')=s.t:=fun b' e=>eX _ _ _ (by rw[hb,e];rfl);have HU:kg C ap X all u l K ⟨cU s.t o.dst mK,s.h⟩->(false=(b==m))->∃(st:Nat->AS) (r:Nat->RR),st 0=s/\K (st (o::l).length)/\∀(i:Nat) o',(o::l)[i]?=some o'->DStep C ap all o' (st i) (r i) (st (i+1))/\se C ap X (f::u) o' (st i) (r i) i:=fun hs he=>
    ext ⟨false,mK,[],none⟩ _ ⟨by rw[I];exact⟨J,D,.bool b,R,U,hb,by rw[he];cases b<;>cases m<;>rfl⟩,fun h=>(by cases h),fun _=>⟨rfl,rfl,rfl⟩,rfl,rfl,fun _=>rfl,fun _=>rfl,rfl⟩ (fun h=>by cases h) hs
   cases b<;>cases m<;>simp only[kF]at h
   ·rw[V false rfl]at h;exact z (by rw[I];exact⟨J,D,.bool false,R,U,hb,rfl⟩) h
   ·rw[V false rfl]at h;exact HU h rfl
   ·rw[V true rfl]at h;exact HU h rfl
   rw[V true rfl]at h;exact z (by rw[I];exact⟨J,D,.bool true,R,U,hb,rfl⟩) h
  ·rename_i q hb;exact ext ⟨false,mK,[],none⟩ _ ⟨by rw[I];exact⟨J,D,.tuple q,R,U,hb,by cases m<;>rfl⟩,fun h=>(by cases h),fun _=>⟨rfl,rfl,rfl⟩,rfl,rfl,fun _=>rfl,fun _=>rfl,rfl⟩ (fun h=>by cases h) h
  exact h.elim
variable {rho:Operand->AV} {h':Nat->AB}
theorem I5{C:Ctx}{o:Oper}{h:Nat->AB}{K:KK}(m:cls C ap o.op=0)(u:aZ C o rho h K):aZ C o rho h' K:=by
 cases z:o.op<;>rw[z]at m<;>try (simp only[aZ,z]at u ⊢;exact u)
 all_goals try (cases m;done)
 case makeFunc fn first cap=>
  cases fn with
  | func f=>simp only[aZ,z]at u ⊢;exact u
  | _=>simp only[aZ,z]at u
 case fieldAddr=>cases ap<;>cases m
 case nilCheck=>cases ap<;>cases m
 case call c=>
  simp only[aZ,z]at u ⊢;simp only[cls]at m;split at m
  ·cases m
  ·cases m
  ·rename_i D;simp only[D,dk,dK]at u ⊢;exact u
  ·rename_i D;simp only[D,dk,dK]at u ⊢;exact u
  ·split at m<;>cases m
  ·cases m
  cases m
theorem I6{C:Ctx}{o:Oper}{h:Nat->AB}{K:KK}(I:cls C ap o.op=1)(D:∀id,(h id).there->((h' id).there/\(∀e es,h id=.row e es->∃J,h' id=.row e J)/\(∀cs,h id=.box cs->∃L,h' id=.box L)/\(∀cs,h id=.jt cs->∃L,h' id=.jt L)/\(∀e es,h id=.ai e es->∃J,h' id=.ai e J)/\(∀N O a,h id=.cell N O a->∃W,h' id=.cell N O W)))(m:aZ C o rho h K):aZ C o rho h' K:=by
 cases U:o.op<;>rw[U]at I<;>try (cases I;done)
 case call c=>
  exfalso;simp only[cls]at I;split at I<;>first | cases I | (split at I<;>cases I)
 case fieldAddr t x f=>
  simp only[aZ,U]at m ⊢;split at m
  ·split at m
   ·split at m
    ·exact m
    ·rename_i id o' R;split at m
     ·exact m.elim
     rename_i Y;have Z:(h id).there:=by cases h1:h id<;>first | trivial | exact absurd h1 (by simpa using Y)
     have:=(D id Z).1;split
     ·rename_i z;rw[z]at this;exact this.elim
     exact m
    ·rename_i id i o' R;split at m
     ·rename_i e es u;obtain⟨J,z⟩:=(D id (by rw[u];trivial)).2.1 e es u;simp only[z];exact m
     ·rename_i e es u;obtain⟨J,z⟩:=(D id (by rw[u];trivial)).2.2.2.2.1 e es u;simp only[z];exact m
     exact m.elim
    exact m
   exact m
  exact m
 case nilCheck x=>
  simp only[aZ,U]at m ⊢;split at m
  ·exact m
  ·rename_i id V R;split at m
   ·rename_i cs u;obtain⟨L,z⟩:=(D id (by rw[u];trivial)).2.2.1 cs u;simp only[z];exact m
   ·rename_i cs u;obtain⟨L,z⟩:=(D id (by rw[u];trivial)).2.2.2.1 cs u;simp only[z];exact m
   exact m.elim
  ·rename_i id i V R;split at m
   ·rename_i e es u;obtain⟨J,z⟩:=(D id (by rw[u];trivial)).2.1 e es u;simp only[z];exact m
   ·rename_i e es u;obtain⟨J,z⟩:=(D id (by rw[u];trivial)).2.2.2.2.1 e es u;simp only[z];exact m
   exact m.elim
  ·rename_i id R;split at m
   ·rename_i N O a u;obtain⟨W,z⟩:=(D id (by rw[u];trivial)).2.2.2.2.2 N O a u;simp only[z];exact m
   exact m.elim
  exact m
def pC(ops:Array Oper)(o:Oper)(d:Tmp):Bool:=(o.looksAt ops).contains d
def zr(C:Ctx)(ap:Bool)(ops:Array Oper)(b:Array Nat)(i j:Nat)(oi oj:Oper):Bool:=
 (match oi.dst,oj.dst with
  | some x,some y=>!bB x y
  | _,_=>true) &&
 (match oj.dst with
  | some d=>!pC ops oi d||(b.getD j 0).testBit i
  | none=>true) &&
 (match oi.dst with
  | some d=>!pC ops oj d||(b.getD j 0).testBit i
  | none=>true) &&
 (if cls C ap oj.op=3 then (if cls C ap oi.op=3 then (b.getD j 0).testBit i else true) else true)
def LG(ops:Array Oper)(b:Array Nat)(C:Ctx)(ap:Bool)(c i:Nat):Bool:=(List.range ops.size).all fun k=>match ops[k]? with
  | none=>true
  | some ok=>!bB (cls C ap ok.op) c||(if k<i then (b.getD i 0).testBit k else if i<k then (b.getD k 0).testBit i else true)
def Gm:Op->Bool
 | .fieldAddr _ _ _=>true
 | .nilCheck _=>true
 | _=>false
def Ov(ops:Array Oper)(b:Array Nat)(C:Ctx)(ap:Bool)(i:Nat):Bool:=(List.range ops.size).all fun k=>match ops[k]? with
  | none=>true
  | some ok=>(Gm ok.op||!bB (cls C ap ok.op) 2)||(if k<i then (b.getD i 0).testBit k else if i<k then (b.getD k 0).testBit i else true)
def vC(C:Ctx)(ap:Bool)(ops:Array Oper)(b:Array Nat)(i:Nat)(oi:Oper):Bool:=
 match cls C ap oi.op with
 | 2=>LG ops b C ap 3 i
 | 3=>Ov ops b C ap i
 | _=>true
def fS(C:Ctx)(ap:Bool)(ops:Array Oper):List Bool:=
 let b:=Region.before ops
 (List.range ops.size).map fun i=>match ops[i]? with
  | some oi=>vC C ap ops b i oi
  | none=>true
variable {ops:Array Oper} {oi:Oper}
theorem El{C:Ctx}{i:Nat}{c:Nat}(D:ops[i]?=some oi)(h:LG ops (Region.before ops) C ap c i=true):
  ∀(k:Nat) ok,ops[k]?=some ok->cls C ap ok.op=c->(k<i->((Region.before ops).getD i 0).testBit k=true)/\(i<k->((Region.before ops).getD k 0).testBit i=true):=by
 intro k ok z I;have iR:=(nZ.1 D).1;have J:=(nZ.1 z).1;have m:=cC.1 h k (fR.2 J);simp only[z,aG.2 I,vy,fQ]at m;refine⟨fun u=>?_,fun u=>?_⟩
 ·rwa [ae u]at m
 rwa [af (by omega),ae u]at m
theorem xC{C:Ctx}{i:Nat}(m:ops[i]?=some oi)(h:(fS C ap ops)[i]?=some true):vC C ap ops (Region.before ops) i oi=true:=by
 have u:=(nZ.1 m).1;simpa only[fS,ao,fG u,eM,m,Option.some.injEq] using h
theorem pD{C:Ctx}{i:Nat}(m:ops[i]?=some oi)(h:(fS C ap ops)[i]?=some true)(z:cls C ap oi.op=2):
  ∀(k:Nat) ok,ops[k]?=some ok->cls C ap ok.op=3->(k<i->((Region.before ops).getD i 0).testBit k=true)/\(i<k->((Region.before ops).getD k 0).testBit i=true):=by
 have u:=xC m h;simp only[vC,z]at u;exact El m u
theorem sf{C:Ctx}{i:Nat}(D:ops[i]?=some oi)(h:(fS C ap ops)[i]?=some true)(J:cls C ap oi.op=3):
  ∀(k:Nat) ok,ops[k]?=some ok->cls C ap ok.op=2->Gm ok.op=false->(k<i->((Region.before ops).getD i 0).testBit k=true)/\(i<k->((Region.before ops).getD k 0).testBit i=true):=by
 have m:=xC D h;simp only[vC,J]at m;intro k ok I L u;have iR:=(nZ.1 D).1;have N:=(nZ.1 I).1;have m:=cC.1 m k (fR.2 N);simp only[I,u,aG.2 L,vy,fQ]at m;refine⟨fun z=>?_,fun z=>?_⟩
 ·rwa [ae z]at m
 rwa [af (by omega),ae z]at m
theorem AU{X:List Nat}{o:Oper}(h:lA X o rho=true):Gm o.op=false:=by
 unfold lA lz pA at h;cases e:o.op<;>rw[e]at h<;>first | rfl | cases h
theorem xD{X:List Nat}:∀{eff:List (Nat×AB)},Kt X eff=true->∀p∈eff,tx X p.1=false:=by
 intro eff
 induction eff with
 | nil=>intro _ p hp;cases hp
 | cons x r ih=>
  intro h p hp;unfold Kt at h;split at h
  ·cases h
  rename_i m;rcases fK.1 hp with e | e
  ·rw[e];exact m
  exact ih h p e
theorem da{a:AV}(h:py a=true):∃x,a=.p x:=by cases a<;>first | exact⟨_,rfl⟩ | cases h
variable {fs:List (Nat×Nat×Bool)}
theorem Em{h:Nat->AB}:∀(u:List (Nat×Operand)) (cs:List PV) (K:List PV->List (Nat×AB)->Prop),(u.all fun p=>py (rho p.2))=true->gd h fs rho u cs K->gd h' fs rho u cs K:=by
 intro u
 induction u with
 | nil=>intro cs K _ m;exact m
 | cons p u ih=>
  intro cs K hp m;obtain⟨i,x⟩:=p;simp only[qP,aw]at hp;obtain⟨y,z⟩:=da hp.1;simp only[gd]at m ⊢;split at m
  ·rw[z]at m ⊢;simp only[g_,iC]at m ⊢;revert m;cases mZ y with
   | none=>exact id
   | some ys=>
    simp only;cases o7 ys.length _&&yy _ cs.length with
    | false=>exact id
    | true=>intro m;exact ih _ _ hp.2 m
  exact m.elim
theorem En{h:Nat->AB}:∀(u:List (Nat×Operand)) (cs:List AV) (K:List AV->Prop),(u.all fun p=>py (rho p.2))=true->gf h fs rho u cs K->gf h' fs rho u cs K:=by
 intro u
 induction u with
 | nil=>intro cs K _ m;exact m
 | cons p u ih=>
  intro cs K hp m;obtain⟨i,x⟩:=p;simp only[qP,aw]at hp;obtain⟨y,I⟩:=da hp.1;unfold gf at m ⊢;split at m
  ·rename_i J;split at m
   ·rename_i ys z;split at m
    case h_2=>exact m.elim
    rename_i D;exact ih _ _ hp.2 m
   rename_i z;split at m
   ·rename_i D;have e:kL h' (rho x)=kL h (rho x):=by rw[I];cases y<;>rfl
    simp only[J,z,e,D];exact ih _ _ hp.2 m
   exact m.elim
  exact m.elim
theorem zt{h:Nat->AB}{Q:Prop}:∀(z:List (Nat×Operand)) (cs:List PV) (K:List PV->List (Nat×AB)->Prop),(∀a b,K a b->Q)->gd h fs rho z cs K->Q:=by
 intro z
 induction z with
 | nil=>intro cs K D m;exact D _ _ m
 | cons p z ih=>
  intro cs K D m;obtain⟨i,x⟩:=p;simp only[gd]at m;split at m
  ·obtain⟨y,fz,u,_⟩:=e9 (fun _=>.inr rfl) m;split at u
   ·split at u
    ·exact ih _ _ (fun a b h=>D _ _ h) u
    exact u.elim
   exact u.elim
  exact m.elim
theorem I7{C:Ctx}{o:Oper}{h:Nat->AB}{K:KK}(hp:pz o rho=true)(m:aZ C o rho h K):aZ C o rho h' K:=by
 unfold pz at hp;split at hp
 ·rename_i t a u;obtain⟨x,z⟩:=da hp;simp only[aZ,u]at m ⊢;rw[z]at m ⊢;cases x<;>exact m
 ·rename_i t x ix u;obtain⟨y,z⟩:=da hp;simp only[aZ,u]at m ⊢;rw[z]at m ⊢;cases y<;>exact m
 ·rename_i t x I J u;obtain⟨y,z⟩:=da hp;simp only[aZ,u]at m ⊢;rw[z]at m ⊢;have m:ef C rho h t x I J K:=m;show ef C rho h' t x I J K;simp only[ef]at m ⊢;rw[z]at m ⊢;exact m
 ·rename_i t ps u;simp only[aZ,u]at m ⊢;split at m
  ·split at m
   ·exact Em _ _ _ hp m
   exact En _ _ _ hp m
  exact m.elim
 ·rename_i c u;split at hp
  ·rename_i x N L;obtain⟨y,z⟩:=da hp;simp only[aZ,u,N,L,dk,dK]at m ⊢;split at m
   ·rename_i D O;simp only[L,O]at *;injection D with D _;subst D;rw[z]at m ⊢;cases y<;>exact m
   exact m.elim
  cases hp
 ·rename_i t x f u;obtain⟨y,z⟩:=da hp;simp only[aZ,u]at m ⊢;rw[z]at m ⊢;cases y<;>exact m
 ·rename_i x u;obtain⟨y,z⟩:=da hp;simp only[aZ,u]at m ⊢;rw[z]at m ⊢;cases y<;>exact m
 cases hp
variable {e:List (Nat×AB)}
theorem zu{C:Ctx}{o:Oper}{h:Nat->AB}{v:AV}{n:Option AB}(hp:pz o rho=true)(m:aZ C o rho h fun L e' N=>L=v/\e'=e/\N=n):n=none:=by
 have J:∀(x:AV) (K:List (List PV)->Prop) (Q:Prop),(∀es,K es->Q)->dV h x K->Q:=by
  intro x K Q O m;unfold dV at m
  repeat' (split at m)
  all_goals first | exact m.elim | exact O _ m
 unfold pz at hp;split at hp
 ·rename_i t a D;obtain⟨x,I⟩:=da hp;simp only[aZ,D]at m;split at m
  ·exact m.elim
  rw[I]at m;split at m
  ·split at m
   ·split at m
    ·exact m.2.2.symm
    exact m.elim
   split at m
   ·exact m.2.2.symm
   exact m.elim
  ·rename_i u;cases u
  ·rename_i u;cases u
  ·rename_i u;cases u
  exact m.elim
 ·rename_i t x ix D;obtain⟨y,I⟩:=da hp;simp only[aZ,D]at m;split at m
  ·split at m
   ·exact m.elim
   rw[I]at m;split at m
   ·obtain⟨r,_,m⟩:=m;split at m
    ·exact m.2.2.symm
    exact m.elim
   all_goals first | exact m.elim | (rename_i u;cases u;done) | (rename_i u _;cases u;done) | (rename_i u _ _;cases u;done)
  exact m.elim
 ·rename_i t x R U D;obtain⟨y,I⟩:=da hp;simp only[aZ,D]at m;rw[I]at m;have m:ef C rho h t x R U _:=m;simp only[ef]at m;split at m
  ·rw[I]at m;split at m
   ·split at m
    ·exact m.2.2.2.symm
    exact m.elim
   exact m.elim
  ·split at m
   ·exact m.elim
   obtain⟨z,fz,m,_⟩:=e9 (fun _=>.inr rfl) m;split at m
   ·split at m
    ·exact m.2.2.2.symm
    exact m.elim
   exact m.elim
  exact m.elim
 ·rename_i t ps D;simp only[aZ,D]at m;split at m
  ·split at m
   ·exact zt _ _ _ (fun _ _ h=>h.2.2.symm) m
   obtain⟨z,u,_⟩:=tU (fun _=>.inr rfl) m;exact u.2.2.symm
  exact m.elim
 ·rename_i c D;split at hp
  ·rename_i x V W;simp only[aZ,D,V,W,dk,dK]at m;split at m
   ·split at m
    ·split at m
     ·exact m.2.2.symm
     exact m.elim
    ·split at m
     ·exact m.2.2.symm
     exact J _ _ _ (fun _ h=>h.2.2.symm) m
    ·split at m
     ·split at m
      ·exact m.2.2.symm
      exact m.elim
     ·exact m.2.2.symm
     exact m.elim
    exact m.elim
   exact m.elim
  cases hp
 ·rename_i t x f D;obtain⟨y,I⟩:=da hp;simp only[aZ,D]at m;rw[I]at m
  repeat' (split at m)
  all_goals first | exact m.elim | exact m.2.2.symm | (rename_i u;cases u)
 ·rename_i x D;obtain⟨y,I⟩:=da hp;simp only[aZ,D]at m;rw[I]at m
  repeat' (split at m)
  all_goals first | exact m.elim | exact m.2.2.symm | (rename_i u;cases u)
 cases hp
theorem Gn{C:Ctx}{o:Oper}{X:List Nat}{h:Nat->AB}{K:KK}(N:∀id,tx X id=true->h id=.none\/h' id=h id)(hp:lz X o rho=true)(z:aZ C o rho h K):aZ C o rho h' K:=by
 have J:∀{a:AV},LF X a=true->(∃id,a=.ow id/\(h id=.none\/h' id=h id))\/(∃id i u,a=.rp id i u/\(h id=.none\/h' id=h id))\/∃id u,a=.bx id u/\(h id=.none\/h' id=h id):=by
  intro a L;cases a with
  | ow id=>exact .inl ⟨id,rfl,N id L⟩
  | rp id i u=>exact .inr (.inl ⟨id,i,u,rfl,N id L⟩)
  | bx id u=>exact .inr (.inr ⟨id,u,rfl,N id L⟩)
  | _=>cases L
 unfold lz at hp;split at hp
 ·rename_i t a D;simp only[aZ,D]at z ⊢;cases I:C.T t with
  | none=>simp only[I]at z
  | some ti=>
   simp only[I]at z ⊢;rcases J hp with⟨id,e,m⟩ | ⟨id,i,u,e,m⟩ | ⟨id,u,e,m⟩<;>simp only[e]at z ⊢<;>rcases m with m | m<;>first | (simp only[m]at z;done) | (rw[m];exact z)
 ·rename_i t x U D;simp only[aZ,D]at z ⊢;split at z
  case h_2=>exact z.elim
  rename_i e size bytes zero eq k i I C2;cases R:C.T e with
  | none=>simp only[R]at z
  | some te=>
   simp only[R]at z ⊢;rcases J hp with⟨id,e,m⟩ | ⟨id,i,u,e,m⟩ | ⟨id,u,e,m⟩<;>simp only[e]at z ⊢<;>rcases m with m | m<;>first | (simp only[m]at z;done) | (rw[m];exact z)
 ·rename_i t x U ck D;simp only[aZ,D]at z ⊢;rcases J hp with⟨id,e,m⟩ | ⟨id,i,u,e,m⟩ | ⟨id,u,e,m⟩<;>simp only[e]at z ⊢
  ·rcases m with m | m
   ·simp only[m]at z
    repeat' (split at z)
    all_goals exact z.elim
   rw[m];exact z
  ·exact z
  exact z
 ·rename_i c D;split at hp
  ·rename_i x V L;simp only[aZ,D,V,L,dk,dK]at z ⊢;split at z
   case h_2=>exact z.elim
   rename_i x' t O ht;injection O with O _;subst O;split at z
   ·rcases J hp with⟨id,e,m⟩ | ⟨id,i,u,e,m⟩ | ⟨id,u,e,m⟩<;>simp only[e]at z
   ·rename_i I;rcases J hp with⟨id,e,m⟩ | ⟨id,i,u,e,m⟩ | ⟨id,u,e,m⟩<;>simp only[I,e,hlen,dV]at z ⊢;rcases m with m | m
    ·simp only[m]at z
    rw[m];exact z
   ·rename_i I;rcases J hp with⟨id,e,m⟩ | ⟨id,i,u,e,m⟩ | ⟨id,u,e,m⟩<;>simp only[I,e]at z ⊢;rcases m with m | m
    ·simp only[m]at z
    rw[m];exact z
   exact z.elim
  cases hp
 cases hp
theorem xE{C:Ctx}{o:Oper}{X:List Nat}{h:Nat->AB}{v:AV}{n:Option AB}(hp:lz X o rho=true)(m:aZ C o rho h fun I e' J=>I=v/\e'=e/\J=n):n=none:=by
 have D:∀(x:AV) (K:List (List PV)->Prop) (Q:Prop),(∀es,K es->Q)->dV h x K->Q:=by
  intro x K Q L m;unfold dV at m
  repeat' (split at m)
  all_goals first | exact m.elim | exact L _ m
 unfold lz at hp;split at hp
 ·rename_i u;simp only[aZ,u]at m
  repeat' (split at m)
  all_goals first | exact m.elim | exact m.2.2.symm | (exfalso;obtain⟨r,z,m⟩:=m;exact m) | (rcases m with⟨r,z,m⟩;first | exact m.2.2.symm | (split at m<;>first | exact m.elim | exact m.2.2.symm))
 ·rename_i u;simp only[aZ,u]at m
  repeat' (split at m)
  all_goals first | exact m.elim | exact m.2.2.symm | exact m.2.2.2.symm | (obtain⟨r,z,m⟩:=m;split at m<;>first | exact m.elim | exact m.2.2.symm)
 ·rename_i u;simp only[aZ,u]at m
  repeat' (split at m)
  all_goals first | exact m.elim | (obtain⟨r,z,m⟩:=m;exact m.2.2.symm) | (obtain⟨r,z,m⟩:=m;split at m<;>exact m.2.2.symm)
 ·rename_i c u;split at hp
  ·rename_i x N O;simp only[aZ,u,N,O,dk,dK]at m;split at m
   ·split at m
    ·split at m
     ·exact m.2.2.symm
     exact m.elim
    ·split at m
     ·exact m.2.2.symm
     exact D _ _ _ (fun _ h=>h.2.2.symm) m
    ·split at m
     ·split at m
      ·exact m.2.2.symm
      exact m.elim
     ·exact m.2.2.symm
     exact m.elim
    exact m.elim
   exact m.elim
  cases hp
 cases hp
theorem I9{C:Ctx}{o:Oper}{X:List Nat}{h:Nat->AB}{K:KK}(N:∀id,tx X id=true->h id=.none\/h' id=h id)(hp:lA X o rho=true)(m:aZ C o rho h K):aZ C o rho h' K:=by
 unfold lA at hp;rcases (qV _ _▸hp:lz X o rho=true\/pA X o rho=true) with hp | hp
 ·exact Gn N hp m
 unfold pA at hp;split at hp
 ·rename_i t n c I;simp only[aZ,I]at m ⊢;exact m
 ·rename_i t n O I;simp only[aw]at hp;have J:∀p∈O.toList,py (rho p.2)=true:=cC.1 hp.2;have z:∀(b:Bool) (size:Nat) (l:List (Nat×Operand)) (es:List (List PV)) (K:List (List PV)->List (Nat×AB)->Prop),(∀p∈l,py (rho p.2)=true)->eC b h size rho l es K->eC b h' size rho l es K:=by
   intro b size l
   induction l with
   | nil=>intro es K _ h;exact h
   | cons p r ih=>
    intro es K hl u;obtain⟨i,x⟩:=p;obtain⟨y,D⟩:=da (hl _ aW);simp only at D;simp only[eC,D]at u ⊢;have e:∀(h:Nat->AB) (Q:PV->List (Nat×AB)->Prop),qa b h (.p y) Q=Q y []:=fun h Q=>by cases b<;>rfl
    rw[e]at u ⊢;revert u;split
    ·intro u;revert u;split
     ·intro u;exact ih _ _ (fun p hp=>hl p (cg _ hp)) u
     exact fun u=>u
    exact fun u=>u
  simp only[aZ,I]at m ⊢;revert m;split
  ·split
   ·split
    ·split
     ·split
      ·rename_i x L _;have R:=J (0,x) (by rw[L];exact aW);obtain⟨y,D⟩:=da R;have e:kL h' (rho x)=kL h (rho x):=by
        simp only at D;rw[D];cases y<;>rfl
       rw[e];exact fun m=>m
      exact fun m=>m
     split
     ·exact z _ _ _ _ _ J
     exact z _ _ _ _ _ J
    exact fun m=>m
   exact fun m=>m
  exact fun m=>m
 cases hp
theorem zv{C:Ctx}{o:Oper}{X:List Nat}{h:Nat->AB}{v:AV}{n:Option AB}(hp:lA X o rho=true)(m:aZ C o rho h fun u e' z=>u=v/\e'=e/\z=n):n=none\/tx X (o.dst.getD 0)=true:=by
 unfold lA at hp;rcases (qV _ _▸hp:lz X o rho=true\/pA X o rho=true) with hp | hp
 ·exact .inl (xE hp m)
 unfold pA at hp;split at hp
 ·exact .inr hp
 ·simp only[aw]at hp;exact .inr hp.1
 cases hp
theorem I_{C:Ctx}{o:Oper}{X:List Nat}{h:Nat->AB}{K:KK}(R:∀id,tx X (id+1000000)=true->h id≠.none->(kc (h' id)=kc (h id)/\kc (h id)≠0)\/h' id=h id)(hp:pB X o rho=true)(m:aZ C o rho h K):aZ C o rho h' K:=by
 have V:∀{a:AV},Ou X a=true->(∃id u,a=.bx id u/\tx X (id+1000000)=true)\/∃id i u,a=.rp id i u/\tx X (id+1000000)=true:=fun {a} ha=>by
  cases a with
  | bx id u=>exact .inl ⟨id,u,rfl,ha⟩
  | rp id i u=>exact .inr ⟨id,i,u,rfl,ha⟩
  | _=>cases ha
 unfold pB at hp;split at hp
 ·rename_i t x f U;simp only[aZ,U]at m ⊢;split at m
  case h_2=>exact m.elim
  rename_i hT;split at m
  case h_2=>exact m.elim
  rcases V hp with⟨id,u,e,I⟩ | ⟨id,i,u,e,I⟩<;>simp only[e]at m ⊢
  ·have J:h id≠.none:=fun L=>by rw[L]at m;exact m
   rcases R id I J with⟨z,D⟩ | D
   ·cases N:h id<;>rw[N]at z D m<;>first | exact m.elim | exact absurd rfl D | (cases O:h' id<;>rw[O]at z<;>first | exact m | (exfalso;revert z;decide) | cases z)
   rw[D];exact m
  have J:h id≠.none:=fun L=>by rw[L]at m;exact m
  rcases R id I J with⟨z,D⟩ | D
  ·cases N:h id<;>rw[N]at z D m<;>first | exact m.elim | exact absurd rfl D | (cases O:h' id<;>rw[O]at z<;>first | exact m | (exfalso;revert z;decide) | cases z)
  rw[D];exact m
 ·rename_i x U;simp only[aZ,U]at m ⊢;rcases V hp with⟨id,u,e,I⟩ | ⟨id,i,u,e,I⟩<;>simp only[e]at m ⊢
  ·have J:h id≠.none:=fun L=>by rw[L]at m;exact m
   rcases R id I J with⟨z,D⟩ | D
   ·cases N:h id<;>rw[N]at z D m<;>first | exact m.elim | exact absurd rfl D | (cases O:h' id<;>rw[O]at z<;>first | exact m | (exfalso;revert z;decide) | cases z)
   rw[D];exact m
  have J:h id≠.none:=fun L=>by rw[L]at m;exact m
  rcases R id I J with⟨z,D⟩ | D
  ·cases N:h id<;>rw[N]at z D m<;>first | exact m.elim | exact absurd rfl D | (cases O:h' id<;>rw[O]at z<;>first | exact m | (exfalso;revert z;decide) | cases z)
  rw[D];exact m
 cases hp
theorem zw{C:Ctx}{o:Oper}{X:List Nat}{h:Nat->AB}{v:AV}{n:Option AB}(hp:pB X o rho=true)(m:aZ C o rho h fun z e' D=>z=v/\e'=e/\D=n):n=none:=by
 unfold pB at hp;split at hp
 ·rename_i u;simp only[aZ,u]at m
  repeat' (split at m)
  all_goals first | exact m.elim | exact m.2.2.symm
 ·rename_i u;simp only[aZ,u]at m
  repeat' (split at m)
  all_goals first | exact m.elim | exact m.2.2.symm
 cases hp
def zx(ops:Array Oper)(o:Oper):Bool:=match o.dst with
 | some d=>!pC ops o d
 | none=>true
def zy(ops:Array Oper)(b:Array Nat):Bool:=
 (List.range ops.size).all fun j=>(match ops[j]? with
  | some oj=>(oj.after.toList.all fun e=>!Region.binds .any e||Nat.blt e.on j)&&(List.range j).all fun i=>!(b.getD j 0).testBit i||(oj.after.toList.any fun e=>Region.binds .any e&&(bB e.on i||(Nat.blt i e.on&&(b.getD e.on 0).testBit i)))
  | none=>true)
def iJ(C:Ctx)(ops:Array Oper):Bool:=
 let ap:=ops.toList.any fun o=>gm C o.op;let b:=Region.before ops
 zy ops b&&(List.range ops.size).all fun j=>match ops[j]? with
  | some oj=>zx ops oj&&(List.range j).all fun i=>match ops[i]? with
   | some oi=>zr C ap ops b i j oi oj
   | none=>true
  | none=>true
def zz(ops:Array Oper)(E:Nat->Bool):Prop:=∀(j:Nat) oj,ops[j]?=some oj->E j=true->∀e∈oj.after,Region.binds .any e=true->E e.on=true
theorem uc{b:Array Nat}(h:zy ops b=true):(∀(j:Nat) m,ops[j]?=some m->∀e∈m.after,Region.binds .any e=true->e.on<j)/\
  ∀(E:Nat->Bool),zz ops E->∀(j:Nat) m,ops[j]?=some m->(∀e∈m.after,Region.binds .any e=true->E e.on=true)->∀i,i<j->(b.getD j 0).testBit i=true->E i=true:=by
 have J:∀(j:Nat) m,ops[j]?=some m->(∀e∈m.after,Region.binds .any e=true->e.on<j)/\∀i,i<j->(b.getD j 0).testBit i=true->∃e∈m.after,Region.binds .any e=true/\(e.on=i\/(i<e.on/\(b.getD e.on 0).testBit i=true)):=by
  intro j m z;have L:=cC.1 h j (fR.2 (nZ.1 z).1);simp only[z,aw]at L;refine⟨fun e D hb=>?_,fun i N O=>?_⟩
  ·have u:=cC.1 L.1 e (bD.2 D);rw[hb]at u;simp only[vy,fQ]at u;exact dT u
  have u:=cC.1 L.2 i (fR.2 N);rw[O]at u;simp only[vy,fQ]at u;obtain⟨e,D,R⟩:=ia.1 u;simp only[aw,qV]at R;exact⟨e,bD.1 D,R.1,R.2.imp aG.1 fun h=>⟨dT h.1,h.2⟩⟩
 refine⟨fun j m z=>(J j m z).1,fun E Y j=>?_⟩
 induction j using Nat.strongRecOn with
 | _ j ih=>
  intro m z U i N O;obtain⟨e,D,hb,u⟩:=(J j m z).2 i N O;rcases u with u | u
  ·rw[<-u];exact U e D hb
  have V:=(J j m z).1 e D hb;have Z:=U e D hb;cases I:ops[e.on]? with
  | none=>
   have:e.on<ops.size:=Nat.lt_trans V (nZ.1 z).1;rw[bE this]at I;cases I
  | some W=>exact ih e.on V W I (fun e' Ox dM=>Y e.on W I Z e' Ox dM) i u.1 u.2
variable {rho':Operand->AV}
theorem xF{h:Nat->AB}:∀{m:List (Nat×Operand)} {cs:List PV},(∀p∈m,rho p.2=rho' p.2)->gd h fs rho m cs=gd h fs rho' m cs:=by
 intro m
 induction m with
 | nil=>intro cs _;rfl
 | cons p m ih=>
  intro cs hp;obtain⟨i,x⟩:=p;funext K;have e:=hp (i,x) (by simp);simp only at e;simp only[gd,e];have:∀cs,gd h fs rho m cs=gd h fs rho' m cs:=fun cs=>ih (fun p u=>hp p (by simp[u]));simp only[this]
theorem xG{h:Nat->AB}:∀{m:List (Nat×Operand)} {cs:List AV},(∀p∈m,rho p.2=rho' p.2)->gf h fs rho m cs=gf h fs rho' m cs:=by
 intro m
 induction m with
 | nil=>intro cs _;rfl
 | cons p m ih=>
  intro cs hp;obtain⟨i,x⟩:=p;funext K;have e:=hp (i,x) (by simp);simp only at e;simp only[gf,e];have:∀cs,gf h fs rho m cs=gf h fs rho' m cs:=fun cs=>ih (fun p u=>hp p (by simp[u]));simp only[this]
theorem oy{b:Bool}{h:Nat->AB}{size:Nat}:∀{m:List (Nat×Operand)} {cs:List (List PV)},(∀p∈m,rho p.2=rho' p.2)->eC b h size rho m cs=eC b h size rho' m cs:=by
 intro m
 induction m with
 | nil=>intro cs _;rfl
 | cons p m ih=>
  intro cs hp;obtain⟨i,x⟩:=p;funext K;have e:=hp (i,x) (by simp);simp only at e;simp only[eC,e];have:∀cs,eC b h size rho m cs=eC b h size rho' m cs:=fun cs=>ih (fun p u=>hp p (by simp[u]));simp only[this]
theorem me{C:Ctx}{o:Oper}{rho rho':Operand->AV}{h:Nat->AB}{K:KK}(z:∀x∈o.op.operands,rho x=rho' x)(u:aZ C o rho h K):aZ C o rho' h K:=by
 cases Z:o.op<;>simp only[Z,Op.operands]at z<;>simp only[aZ,Z]at u ⊢<;>try exact u
 case move x=>rw[<-z x (by simp)];exact u
 case assign x=>rw[<-z x (by simp)];exact u
 case pick c a b=>rw[<-z c (by simp),<-z a (by simp),<-z b (by simp)];exact u
 case box e x=>rw[<-z x (by simp)];exact u
 case build t ps=>
  split at u
  ·rename_i fs _ _ _ _ hT;split at u
   ·rename_i I;rw[<-xF (rho:=rho) (rho':=rho') (fun p hp=>z p.2 (by simp;exact⟨p.1,bD.1 hp⟩))];exact u
   rename_i I;rw[<-xG (rho:=rho) (rho':=rho') (fun p hp=>z p.2 (by simp;exact⟨p.1,bD.1 hp⟩))];exact u
  exact u
 case buildSlice t n ps=>
  split at u
  ·split at u
   ·split at u
    ·split at u
     ·split at u
      ·rename_i x R _;have e:=z x (by simp;exact⟨0,bD.1 (by rw[R];exact aW)⟩);rw[<-e];exact u
      exact u
     split at u
     ·rw[<-oy (rho:=rho) (rho':=rho') (fun p hp=>z p.2 (by simp;exact⟨p.1,bD.1 hp⟩))];exact u
     rw[<-oy (rho:=rho) (rho':=rho') (fun p hp=>z p.2 (by simp;exact⟨p.1,bD.1 hp⟩))];exact u
    exact u
   exact u
  exact u
 case load t x=>rw[<-z x (by simp)];exact u
 case store t x y=>rw[<-z x (by simp),<-z y (by simp)];exact u
 case nilCheck x=>rw[<-z x (by simp)];exact u
 case binOp op t x y t'=>rw[<-z x (by simp),<-z y (by simp)];exact u
 case unOp op t x=>rw[<-z x (by simp)];exact u
 case makeInterface t x=>rw[<-z x (by simp)];exact u
 case typeAssert x xt t ok=>
  cases ok with
  | true=>exact u
  | false=>simp only at u ⊢;rw[<-z x (by simp)];exact u
 case convert s d x=>rw[<-z x (by simp)];exact u
 case makeFunc fn first cap=>
  cases fn with
  | func f=>
   have:cap.toList.map rho=cap.toList.map rho':=ou fun x U=>z x (by simp[bD.1 U]);simp only[this]at u;exact u
  | _=>exact u
 case makeSlice t x y=>rw[<-z x (by simp),<-z y (by simp)];exact u
 case slice t x lo hi mx=>
  cases mx with
  | some m=>exact u
  | none=>
   have e0:=z x (by simp);have N:∀y,lo=some y->rho y=rho' y:=fun y V=>z y (by simp[V]);have O:∀y,hi=some y->rho y=rho' y:=fun y V=>z y (by simp[V]);have hs:ef C rho h t x lo hi K=ef C rho' h t x lo hi K:=by
    unfold ef;rw[e0];cases lo<;>cases hi<;>simp only[Option.some.injEq,forall_eq',forall_eq,reduceCtorEq,false_implies,implies_true]at N O<;>simp only[N,O]
   have hv:∀id e' es,nN C rho t lo hi id e' es K=nN C rho' t lo hi id e' es K:=fun id e' es=>by
    unfold nN;cases lo<;>cases hi<;>simp only[Option.some.injEq,forall_eq',forall_eq,reduceCtorEq,false_implies,implies_true]at N O<;>simp only[N,O]
   simp only at u ⊢;simp only[<-e0,<-hs,<-hv];exact u
 case makeMap t r=>cases r<;>exact u
 case lookup t x i ck=>rw[<-z x (by simp),<-z i (by simp)];exact u
 case mapUpdate t x i y=>rw[<-z x (by simp),<-z i (by simp),<-z y (by simp)];exact u
 case range t x=>rw[<-z x (by simp)];exact u
 case entry x=>rw[<-z x (by simp)];exact u
 case fieldAddr t x f=>rw[<-z x (by simp)];exact u
 case field t x f=>rw[<-z x (by simp)];exact u
 case indexAddr t x y=>rw[<-z x (by simp),<-z y (by simp)];exact u
 case index t x y=>rw[<-z x (by simp),<-z y (by simp)];exact u
 case extract x i=>rw[<-z x (by simp)];exact u
 case call c=>
  have U:c.args.toList.map rho=c.args.toList.map rho':=ou fun x W=>z x (by simp[Call.operands,bD.1 W]);have D:∀x∈c.args.toList,rho x=rho' x:=fun x W=>z x (by simp[Call.operands,bD.1 W]);split at u
  ·split at u
   ·rename_i I L;simp only[I,L]at *;rw[<-D _ (by simp)];exact u
   exact u
  ·split at u
   ·rename_i I L;simp only[I,L]at *;rw[<-D _ (by simp)];exact u
   exact u
  ·split at u
   ·rename_i I;simp only[I]at *;rw[<-D _ (by simp),<-D _ (by simp)];exact u
   exact u
  ·split at u
   ·rename_i I;simp only[I]at *;rw[<-D _ (by simp),<-D _ (by simp)];exact u
   ·rename_i I;simp only[I]at *;rw[<-D _ (by simp),<-D _ (by simp),<-D _ (by simp)];exact u
   ·rename_i I;simp only[I]at *;rw[<-D _ (by simp),<-D _ (by simp),<-D _ (by simp),<-D _ (by simp),<-D _ (by simp)];exact u
   exact u
  ·split at u
   ·rename_i I L;simp only[I,L]at *;rw[<-D _ (by simp),<-D _ (by simp)];exact u
   exact u
  ·rename_i g J;have Fx:c.callee=.value g:=by
    cases Y:c.callee with
    | value g'=>rw[Y]at J;simp only[dk]at J;injection J with J;rw[J]
    | invoke r m=>rw[Y]at J;cases J
    | builtin b=>rw[Y]at J;cases b<;>cases J
   have hg:=z g (by simp[Call.operands,Fx]);rw[<-hg,<-U];exact u
  exact u
end Go.AM
namespace Go.AM
open Go.RowKit
theorem pE{h h':Nat->AB}{id:Nat}:∀(fe:List (Nat×AB)) ,h id=h' id->app h fe id=app h' fe id:=by
 intro fe
 induction fe generalizing h h' with
 | nil=>intro e;exact e
 | cons x fe ih=>
  intro e;refine ih ?_;by_cases m:id=x.1
  ·rw[m,ak,ak]
  rw[au _ _ m,au _ _ m];exact e
theorem gE{h:Nat->AB}:∀{fe:List (Nat×AB)},fb h fe=true->∀p∈fe,(h p.1).there:=by
 intro fe
 induction fe with
 | nil=>intro _ p hp;cases hp
 | cons x fe ih=>
  intro m p hp;simp only[fb,aw]at m;rcases fK.1 hp with e | e
  ·subst e;have:=m.1;cases hx:h p.1<;>rw[hx]at this<;>first | trivial | (simp[Ei]at this)
  exact ih m.2 p e
def Hn(B:Nat->AB)(r:Nat->RR)(E:Nat->Bool):Nat->Nat->AB
 | 0=>B
 | i+1=>match E i with
  | true=>app (Hn B r E i) (r i).eff
  | false=>Hn B r E i
theorem HV{B:Nat->AB}{r:Nat->RR}{E:Nat->Bool}(i:Nat):∀(m:Nat),(∀k,k<m->(E k=true↔k<i)\/(r k).eff=[])->i<=m->Hn B r E m=Hn B r (fun _=>true) i:=by
 have z:∀m,m<=i->(∀k,k<m->(E k=true↔k<i)\/(r k).eff=[])->Hn B r E m=Hn B r (fun _=>true) m:=by
  intro m
  induction m with
  | zero=>intro _ _;rfl
  | succ m ih=>
   intro hm u;have D:=ih (by omega) (fun k I=>u k (by omega));simp only[Hn];rw[D];rcases u m (by omega) with h | h
   ·rw[h.2 (by omega)]
   rw[h];cases E m<;>rfl
 intro m
 induction m with
 | zero=>
      intro _ J;have:i=0:=by omega
      subst this;rfl
 | succ m ih=>
  intro u J;by_cases e:i=m+1
  ·subst e;exact z (m+1) (aC _) u
  have D:=ih (fun k I=>u k (by omega)) (by omega);rw[<-D];simp only[Hn];rcases u m (by omega) with h | h
  ·have:E m=false:=by rw[cr];intro L;have:=h.1 L;omega
   rw[this]
  rw[h];cases E m<;>rfl
theorem Ja{B:Nat->AB}{r:Nat->RR}{E:Nat->Bool}{i:Nat}(I:E i=false):∀(m:Nat),(∀k,i<k->k<m->E k=true->(r k).eff=[])->i<m->Hn B r (fun k=>E k||bB k i) m=app (Hn B r E m) (r i).eff:=by
 have u:∀m,m<=i->Hn B r (fun k=>E k||bB k i) m=Hn B r E m:=by
  intro m
  induction m with
  | zero=>intro _;rfl
  | succ m ih=>
   intro hm;have:bB m i=false:=by rw[cr];intro h;have:=aG.1 h;omega
   simp only[Hn,this,gC];rw[ih (by omega)]
 intro m
 induction m with
 | zero=>intro _ h;omega
 | succ m ih=>
  intro D dv;by_cases e:m=i
  ·subst e;simp only[Hn,I,aG.2 rfl,eP];rw[u m (aC _)]
  have z:=ih (fun k z h2=>D k z (by omega)) (by omega);have:bB m i=false:=by rw[cr];intro h;exact e (aG.1 h)
  simp only[Hn,this,gC];rw[z];cases J:E m with
  | false=>rfl
  | true=>rw[D m (by omega) (by omega) J];rfl
theorem Eo(C:Ctx)(ap:Bool)(op:Op):cls C ap op<=3:=by
 unfold cls;split<;>first | decide | skip
 all_goals (cases ap<;>first | decide | skip)
 all_goals (split<;>first | decide | skip)
 all_goals (split<;>decide)
theorem Ep(C:Ctx)(op:Op):cls C true op≠1:=by
 unfold cls;split<;>first | decide | skip
 all_goals (split<;>first | decide | skip)
 all_goals (split<;>decide)
theorem Cm{C:Ctx}{ap:Bool}{o:Oper}{rho:Operand->AV}{h:Nat->AB}{K:KK}(z:cls C ap o.op<=1)(m:aZ C o rho h K):∃v e,K v e none:=by
 cases D:o.op<;>rw[D]at z<;>simp only[aZ,D]at m
 case move x=>exact⟨_,_,m⟩
 case assign x=>exact⟨_,_,m⟩
 case pick c a b=>
  split at m
  ·split at m<;>exact⟨_,_,m⟩
  exact m.elim
 case binOp op t x y t'=>
  split at m
  ·obtain⟨v,u,_⟩:=xn m;exact⟨_,_,u⟩
  ·obtain⟨v,u,_⟩:=xm m;exact⟨_,_,u⟩
  exact m.elim
 case unOp op t x=>
  split at m
  ·exact⟨_,_,m⟩
  ·obtain⟨v,u,_⟩:=jD m;exact⟨_,_,u⟩
  exact m.elim
 case convert s d x=>
  split at m
  ·obtain⟨v,u,_⟩:=jD m;exact⟨_,_,u⟩
  ·exact⟨_,_,m⟩
  ·exact⟨_,_,m⟩
  exact m.elim
 case extract x i=>
  split at m
  ·split at m
   ·exact⟨_,_,m⟩
   exact m.elim
  exact m.elim
 case index t x y=>
  split at m
  ·obtain⟨b,_,m⟩:=m;exact⟨_,_,m⟩
  exact m.elim
 case field t x f=>
  split at m
  ·split at m
   ·split at m
    ·split at m
     ·exact⟨_,_,m⟩
     exact m.elim
    split at m
    ·exact⟨_,_,m⟩
    exact m.elim
   exact m.elim
  exact m.elim
 case makeFunc fn first cap=>
  cases fn with
  | func f=>
   simp only at m;split at m
   ·exact⟨_,_,m⟩
   exact m.elim
  | _=>exact m.elim
 case fieldAddr t x f=>
  split at m
  ·split at m
   ·split at m
    ·exact⟨_,_,m⟩
    ·split at m
     ·exact m.elim
     exact⟨_,_,m⟩
    ·split at m
     ·exact⟨_,_,m⟩
     ·exact⟨_,_,m⟩
     exact m.elim
    exact m.elim
   exact m.elim
  exact m.elim
 case nilCheck x=>
  split at m
  ·exact⟨_,_,m⟩
  ·split at m
   ·exact⟨_,_,m⟩
   ·exact⟨_,_,m⟩
   exact m.elim
  ·split at m
   ·exact⟨_,_,m⟩
   ·exact⟨_,_,m⟩
   exact m.elim
  ·split at m
   ·exact⟨_,_,m⟩
   exact m.elim
  exact m.elim
 case call c=>
  simp only[cls]at z;split at z
  ·exact absurd z (by decide)
  ·exact absurd z (by decide)
  ·rename_i u;simp only[u,dk,dK]at m;split at m
   ·split at m
    ·exact⟨_,_,m⟩
    exact m.elim
   exact m.elim
  ·rename_i u;simp only[u,dk,dK]at m;split at m
   ·split at m
    ·exact⟨_,_,m⟩
    exact m.elim
   ·split at m
    ·exact⟨_,_,m⟩
    exact m.elim
   ·split at m
    ·exact⟨_,_,m⟩
    exact m.elim
   exact m.elim
  ·split at z<;>exact absurd z (by decide)
  ·exact absurd z (by decide)
  exact absurd z (by decide)
 all_goals exact absurd z (by simp[cls])
theorem Gp{C:Ctx}{ap:Bool}{o:Oper}{rho:Operand->AV}{h:Nat->AB}{v:AV}{e:List (Nat×AB)}{n:Option AB}{b:AB}(u:aZ C o rho h fun z e' D=>z=v/\e'=e/\D=n)(m:some b=n):cls C ap o.op=3\/cls C ap o.op=2:=by
 have hle:=Eo C ap o.op;by_cases I:cls C ap o.op<=1
 ·obtain⟨_,_,_,_,J⟩:=Cm I u;rw[<-J]at m;cases m
 omega
section
variable {C:Ctx} {ops:Array Oper} {st:Nat->AS} {r:Nat->RR} {ap:Bool} {X:List Nat}
theorem LH{B:Nat->AB}{r:Nat->RR}{E:Nat->Bool}{d:Nat}(i:Nat):∀(m:Nat),(∀k,k<m->(E k=true↔k<i)\/∀p∈(r k).eff,p.1≠d)->i<=m->Hn B r E m d=Hn B r (fun _=>true) i d:=by
 have D:∀m,m<=i->(∀k,k<m->(E k=true↔k<i)\/∀p∈(r k).eff,p.1≠d)->Hn B r E m d=Hn B r (fun _=>true) m d:=by
  intro m
  induction m with
  | zero=>intro _ _;rfl
  | succ m ih=>
   intro hm u;have z:=ih (by omega) (fun k I=>u k (by omega));simp only[Hn];rcases u m (by omega) with h | h
   ·rw[h.2 (by omega)];exact pE _ z
   cases E m with
   | true=>exact pE _ z
   | false=>exact z.trans (fo h).symm
 intro m
 induction m with
 | zero=>
      intro _ J;have:i=0:=by omega
      subst this;rfl
 | succ m ih=>
  intro u J;by_cases e:i=m+1
  ·subst e;exact D (m+1) (aC _) u
  have z:=ih (fun k I=>u k (by omega)) (by omega);rw[<-z];simp only[Hn];rcases u m (by omega) with h | h
  ·have:E m=false:=by rw[cr];intro L;have:=h.1 L;omega
   rw[this]
  cases E m with
  | true=>exact fo h
  | false=>rfl
structure Oz(C:Ctx)(ap:Bool)(ops:Array Oper)(i j:Nat)(oi oj:Oper):Prop where
 dst:∀x,oi.dst=some x->oj.dst≠some x
 war:∀d,oj.dst=some d->d∈oi.looksAt ops->((Region.before ops).getD j 0).testBit i=true
 raw:∀d,oi.dst=some d->d∈oj.looksAt ops->((Region.before ops).getD j 0).testBit i=true
 w3:cls C ap oj.op=3->cls C ap oi.op=3->((Region.before ops).getD j 0).testBit i=true
theorem iw(D:iJ C ops=true):zy ops (Region.before ops)=true/\(∀(j:Nat) m,ops[j]?=some m->∀d,m.dst=some d->d ∉ m.looksAt ops)/\
  ∀(i j:Nat) oi m,i<j->ops[i]?=some oi->ops[j]?=some m->Oz C (ops.toList.any fun o=>gm C o.op) ops i j oi m:=by
 simp only[iJ,aw]at D;obtain⟨h1,h2⟩:=D;have V:∀(j:Nat) m,ops[j]?=some m->zx ops m=true/\∀(i:Nat) oi,i<j->ops[i]?=some oi->zr C (ops.toList.any fun o=>gm C o.op) ops (Region.before ops) i j oi m=true:=by
  intro j m u;have z:=cC.1 h2 j (fR.2 (nZ.1 u).1);simp only[u,aw]at z;refine⟨z.1,fun i oi J L=>?_⟩;have W:=cC.1 z.2 i (fR.2 J);simp only[L]at W;exact W
 refine⟨h1,fun j m u d I=>?_,fun i j oi m F8 L u=>?_⟩
 ·have:=(V j m u).1;simp only[zx,I,pC]at this;simpa using this
 have z:=(V j m u).2 i oi F8 L;simp only[zr,aw]at z;obtain⟨⟨⟨Y,N⟩,O⟩,Z⟩:=z;refine⟨fun x hx hy=>?_,fun d I R=>?_,fun d I R=>?_,fun hc J=>?_⟩
 ·simp only[hx,hy,aG.2 rfl,vy]at Y;cases Y
 ·simp only[I,pC]at N;have U:(oi.looksAt ops).contains d=true:=by simpa using R
  rw[U]at N;simpa using N
 ·simp only[I,pC]at O;have U:(m.looksAt ops).contains d=true:=by simpa using R
  rw[U]at O;simpa using O
 rw[ae hc,ae J]at Z;exact Z
theorem zC(m:iJ C ops=true)(H:∀(i:Nat) o,ops[i]?=some o->DStep C ap ops.toList o (st i) (r i) (st (i+1))){i:Nat}{o:Oper}(u:ops[i]?=some o){d:Tmp}(z:o.dst=some d):∀k,i+1<=k->k<=ops.size->(st k).t d=(r i).v:=by
 obtain⟨_,hs,hp⟩:=iw m;intro k
 induction k with
 | zero=>intro h;omega
 | succ k ih=>
  intro Ku hk;by_cases e:i=k
  ·subst e;rw[(H i o u).next,z];exact ak _ _ _
  have D:=ih (by omega) (by omega);have I:ops[k]?=some ops[k]:=bE (by omega);rw[(H k _ I).next];show cU (st k).t _ _ d=_;have J:=(hp i k o _ (by omega) u I).dst d z;cases L:ops[k].dst with
  | none=>exact D
  | some d'=>rw[cU,au _ _ (fun e=>J (by rw[L,e]))];exact D
theorem vD(H:∀(i:Nat) o,ops[i]?=some o->DStep C ap ops.toList o (st i) (r i) (st (i+1))){x:Nat}(u:∀(k:Nat) o,ops[k]?=some o->o.dst≠some x):∀k,k<=ops.size->(st k).t x=(st 0).t x:=by
 intro k
 induction k with
 | zero=>intro _;rfl
 | succ k ih=>
  intro hk;have m:ops[k]?=some ops[k]:=bE (by omega);rw[(H k _ m).next];show cU (st k).t _ _ x=_;cases z:ops[k].dst with
  | none=>exact ih (by omega)
  | some d'=>rw[cU,au _ _ (fun e=>u k _ m (by rw[z,e]))];exact ih (by omega)
theorem Cn(m:iJ C ops=true)(H:∀(i:Nat) o,ops[i]?=some o->DStep C ap ops.toList o (st i) (r i) (st (i+1))){j:Nat}{o:Oper}(u:ops[j]?=some o){d:Tmp}(D:o.dst=some d):∀k,k<=j->(st k).t d=(st 0).t d:=by
 obtain⟨_,hs,hp⟩:=iw m;have hj:=(nZ.1 u).1;intro k
 induction k with
 | zero=>intro _;rfl
 | succ k ih=>
  intro hk;have z:ops[k]?=some ops[k]:=bE (by omega);rw[(H k _ z).next];show cU (st k).t _ _ d=_;cases I:ops[k].dst with
  | none=>exact ih (by omega)
  | some J=>rw[cU,au _ _ (fun e=>(hp k j _ o (by omega) z u).dst J I (by rw[D,e]))];exact ih (by omega)
def Co(ops:Array Oper)(r:Nat->RR)(k d:Nat)(b:AB):Prop:=∃o,ops[k]?=some o/\o.dst=some d/\(r k).new=some b
def fc(ops:Array Oper)(r:Nat->RR)(i d:Nat):Prop:=∃k b,i<=k/\Co ops r k d b
theorem nv(V:iJ C ops=true)(H:∀(i:Nat) o,ops[i]?=some o->DStep C ap ops.toList o (st i) (r i) (st (i+1))){B:Nat->AB}(Cp:∀k d b,Co ops r k d b->B d=b)(s_:∀d,¬fc ops r 0 d->B d=(st 0).h d)(h0:∀d,fc ops r 0 d->(st 0).h d=.none):
  ∀i,i<=ops.size->∀d,(fc ops r i d->(st i).h d=.none/\Hn B r (fun _=>true) i d=B d)/\(¬fc ops r i d->(st i).h d=Hn B r (fun _=>true) i d):=by
 obtain⟨_,hs,hp⟩:=iw V;intro i
 induction i with
 | zero=>intro _ d;exact⟨fun h=>⟨h0 d h,rfl⟩,fun h=>(s_ d h).symm⟩
 | succ i ih=>
  intro hi d;have ih:=ih (by omega);have O:ops[i]?=some ops[i]:=bE (by omega);have D:=H i _ O;have W:=gE D.there;have Y:Hn B r (fun _=>true) (i+1)=app (Hn B r (fun _=>true) i) (r i).eff:=rfl;have Z:(st (i+1)).h=jA (app (st i).h (r i).eff) (ops[i].dst.getD 0) (r i).new:=by rw[D.next]
  have out:fc ops r i d->∀p∈(r i).eff,p.1≠d:=fun J p HW e=>by
   have m:=W p HW;rw[e,((ih d).1 J).1]at m;exact m
  have LI:∀b,(r i).new=some b->∃u,ops[i].dst=some u:=fun b hb=>by
   have:=D.ndst;rw[hb]at this;cases hd:ops[i].dst with
   | none=>rw[hd]at this;cases this
   | some u=>exact⟨u,rfl⟩
  refine⟨fun J=>?_,fun J=>?_⟩
  ·have z:fc ops r i d:=by obtain⟨k,b,m,L⟩:=J;exact⟨k,b,by omega,L⟩
   obtain⟨m,L⟩:=(ih d).1 z;refine⟨?_,by rw[Y,fo (out z)];exact L⟩;rw[Z];cases hn:(r i).new with
   | none=>show app _ _ d=_;rw[fo (out z)];exact m
   | some b=>
    obtain⟨u,R⟩:=LI b hn;rw[R];show ax _ u b d=_;have bO:d≠u:=fun e=>by
     obtain⟨k,b',h3,o',I,U,h6⟩:=J;exact (hp i k _ o' (by omega) O I).dst u R (by rw[U,e])
    rw[au _ _ bO,fo (out z)];exact m
  by_cases N:∃b,Co ops r i d b
  ·obtain⟨b,N⟩:=N;have z:fc ops r i d:=⟨i,b,aC _,N⟩;obtain⟨o',I,U,h6⟩:=N;rw[O]at I;injection I with I;rw[Z,Y,fo (out z),((ih d).1 z).2,h6,I,U,Cp i d b ⟨o',by rw[O,I],U,h6⟩];exact ak _ _ _
  have z:¬fc ops r i d:=fun ⟨k,b,m,L⟩=>by
   by_cases e:k=i
   ·subst e;exact N ⟨b,L⟩
   exact J ⟨k,b,by omega,L⟩
  have m:=(ih d).2 z;rw[Z,Y,<-pE (r i).eff m];cases hn:(r i).new with
  | none=>rfl
  | some b=>
   obtain⟨u,R⟩:=LI b hn;rw[R];show ax _ u b d=_;rw[au _ _ (fun e=>N ⟨b,_,O,by rw[R,e],hn⟩)]
def KC(b b':AB):Prop:=b'=b\/(∃e es bW,b=.row e es/\b'=.row e bW)\/(∃cs dB,b=.box cs/\b'=.box dB)\/(∃mk es mk' bW,b=.map mk es/\b'=.map mk' bW)
theorem KC.trans{a b c:AB}(h:KC a b)(k:KC b c):KC a c:=by
 rcases h with rfl | ⟨e,es,D,rfl,rfl⟩ | ⟨cs,I,rfl,rfl⟩ | ⟨m,es,m',D,rfl,rfl⟩
 ·exact k
 ·rcases k with rfl | ⟨e',fs,z,u,rfl⟩ | ⟨cs,I,u,rfl⟩ | ⟨_,_,_,_,u,rfl⟩
  ·exact .inr (.inl ⟨_,_,_,rfl,rfl⟩)
  ·injection u with u h2;subst u;exact .inr (.inl ⟨_,_,_,rfl,rfl⟩)
  ·cases u
  cases u
 ·rcases k with rfl | ⟨e',fs,z,u,rfl⟩ | ⟨ds,J,u,rfl⟩ | ⟨_,_,_,_,u,rfl⟩
  ·exact .inr (.inr (.inl ⟨_,_,rfl,rfl⟩))
  ·cases u
  ·exact .inr (.inr (.inl ⟨_,_,rfl,rfl⟩))
  cases u
 rcases k with rfl | ⟨e',fs,z,u,rfl⟩ | ⟨ds,J,u,rfl⟩ | ⟨_,_,_,_,u,rfl⟩
 ·exact .inr (.inr (.inr ⟨_,_,_,_,rfl,rfl⟩))
 ·cases u
 ·cases u
 exact .inr (.inr (.inr ⟨_,_,_,_,rfl,rfl⟩))
theorem Er{b b':AB}(h:Eh b b'=true):KC b b':=by
 cases b<;>cases b'<;>first | (simp[Eh]at h;done) | skip
 ·have:=aG.1 h;subst this;exact .inr (.inl ⟨_,_,_,rfl,rfl⟩)
 ·exact .inr (.inr (.inl ⟨_,_,rfl,rfl⟩))
 exact .inr (.inr (.inr ⟨_,_,_,_,rfl,rfl⟩))
theorem oz{h:Nat->AB}:∀{fe:List (Nat×AB)},gD h fe=true->∀p∈fe,KC (h p.1) p.2:=by
 intro fe
 induction fe with
 | nil=>intro _ p hp;cases hp
 | cons x fe ih=>
  intro m p hp;simp only[gD,aw]at m;rcases fK.1 hp with e | e
  ·subst e;exact Er m.1
  exact ih m.2 p e
theorem sg(O:iJ C ops=true)(H:∀(i:Nat) o,ops[i]?=some o->DStep C ap ops.toList o (st i) (r i) (st (i+1)))(V:ap=false){B:Nat->AB}(W:∀k d b,Co ops r k d b->B d=b)(Y:∀d,¬fc ops r 0 d->B d=(st 0).h d)(Z:∀d,fc ops r 0 d->(st 0).h d=.none)(E:Nat->Bool):
  ∀m,m<=ops.size->∀d,KC (B d) (Hn B r E m d):=by
 have N:=nv O H W Y Z;have u:∀m,m<=ops.size->∀d,KC (B d) (Hn B r (fun _=>true) m d):=by
  intro m
  induction m with
  | zero=>intro _ d;exact .inl rfl
  | succ m ih=>
   intro hm d;have R:ops[m]?=some ops[m]:=bE (by omega);have D:=H m _ R;show KC (B d) (app (Hn B r (fun _=>true) m) (r m).eff d);rcases dx (r m).eff (Hn B r (fun _=>true) m) d with⟨b,I,z⟩ | ⟨_,z⟩
   ·rw[z];have J:=oz (D.kind V) _ I;have L:=gE D.there _ I;have U:¬fc ops r m d:=fun hp=>by rw[((N m (by omega) d).1 hp).1]at L;exact L
    rw[(N m (by omega) d).2 U]at J;exact (ih (by omega) d).trans J
   rw[z];exact ih (by omega) d
 intro m
 induction m with
 | zero=>intro _ d;exact .inl rfl
 | succ m ih=>
  intro hm d;have R:ops[m]?=some ops[m]:=bE (by omega);have D:=H m _ R;simp only[Hn];cases E m with
  | false=>exact ih (by omega) d
  | true=>
   show KC (B d) (app (Hn B r E m) (r m).eff d);rcases dx (r m).eff (Hn B r E m) d with⟨b,I,z⟩ | ⟨_,z⟩
   ·rw[z];have J:=oz (D.kind V) _ I;have L:=gE D.there _ I;have U:¬fc ops r m d:=fun hp=>by rw[((N m (by omega) d).1 hp).1]at L;exact L
    rw[(N m (by omega) d).2 U]at J;exact (u m (by omega) d).trans J
   rw[z];exact ih (by omega) d
def VE(ops:Array Oper)(E:Nat->Bool)(x:Nat):Prop:=∀(k:Nat) o,ops[k]?=some o->o.dst=some x->E k=true
open Classical in
noncomputable def TE(ops:Array Oper)(st:Nat->AS)(E:Nat->Bool)(x:Nat):AV:=if VE ops E x then (st ops.size).t x else (st 0).t x
def LE(ops:Array Oper)(r:Nat->RR)(E:Nat->Bool)(d:Nat):Prop:=∀k b,Co ops r k d b->E k=true
variable {id:Nat}
theorem Es{h:Nat->AB}{c:Nat}:∀{eff:List (Nat×AB)},(∀p∈eff,p.1=id->kc p.2=c)->kc (h id)=c->kc (app h eff id)=c:=by
 intro eff
 induction eff generalizing h with
 | nil=>intro _ m;exact m
 | cons p r ih=>
  intro u m;obtain⟨q,b⟩:=p;refine ih (h:=ax h q b) (fun p hp e=>u p (cg _ hp) e) ?_;by_cases e:id=q
  ·subst e;rw[ak];exact u _ aW rfl
  rw[au _ _ e];exact m
theorem zD{X:List Nat}{h:Nat->AB}(hid:tx X (id+1000000)=true):∀{eff:List (Nat×AB)},ox X h eff=true->∀p∈eff,p.1=id->kc p.2=kc (h id)/\kc (h id)≠0:=by
 intro eff
 induction eff with
 | nil=>intro _ p hp;cases hp
 | cons q r ih=>
  intro m p hp e;obtain⟨i,b⟩:=q;unfold ox at m;split at m
  ·rename_i u;simp only[aw,vn]at m;obtain⟨D,z,I⟩:=m;rcases fK.1 hp with rfl | hp
   ·simp only at e;subst e;exact⟨bq D,fun J=>by rw[J]at z;cases z⟩
   exact ih I p hp e
  rename_i u;rcases fK.1 hp with rfl | hp
  ·simp only at e;subst e;rw[hid]at u;cases u
  exact ih m p hp e
theorem Et{X:List Nat}(hok:iJ C ops=true)(H:∀(i:Nat) o,ops[i]?=some o->DStep C ap ops.toList o (st i) (r i) (st (i+1)))(W:∀k,k<ops.size->ox X (st k).h (r k).eff=true){B:Nat->AB}(N:∀i,i<=ops.size->∀d,(fc ops r i d->(st i).h d=.none/\Hn B r (fun _=>true) i d=B d)/\(¬fc ops r i d->(st i).h d=Hn B r (fun _=>true) i d))(E:Nat->Bool){i:Nat}(hid:tx X (id+1000000)=true)(z:i<=ops.size)(O:(st i).h id≠.none):
  (kc (Hn B r E ops.size id)=kc ((st i).h id)/\kc ((st i).h id)≠0)\/Hn B r E ops.size id=(st i).h id:=by
 have J:∀k,k<=ops.size->(st k).h id≠.none->(st k).h id=Hn B r (fun _=>true) k id:=fun k D h=>by
  by_cases hp:fc ops r k id
  ·exact absurd ((N k D id).1 hp).1 h
  exact (N k D id).2 hp
 have Y:∀{b:AB},kc b≠0->b≠.none:=fun hb e=>by rw[e]at hb;exact hb rfl
 have u:∀m,m<ops.size->∀p∈(r m).eff,p.1=id->kc p.2=kc (Hn B r (fun _=>true) m id)/\kc (Hn B r (fun _=>true) m id)≠0:=fun m I p hp e=>by
  obtain⟨R,L⟩:=zD hid (W m I) p hp e;rw[J m (by omega) (Y L)]at R L;exact⟨R,L⟩
 by_cases U:∃k,k<ops.size/\∃p∈(r k).eff,p.1=id
 ·left;have same:∀m,m<=ops.size->kc (Hn B r (fun _=>true) m id)=kc (B id):=by
   intro m
   induction m with
   | zero=>intro _;rfl
   | succ m ih=>
    intro I;have:=ih (by omega);show kc (app (Hn B r (fun _=>true) m) (r m).eff id)=_;exact Es (fun p hp e=>(u m (by omega) p hp e).1.trans this) this
  have any:∀m,m<=ops.size->kc (Hn B r E m id)=kc (B id):=by
   intro m
   induction m with
   | zero=>intro _;rfl
   | succ m ih=>
    intro I;simp only[Hn];cases E m with
    | false=>exact ih (by omega)
    | true=>exact Es (fun p hp e=>(u m (by omega) p hp e).1.trans (same m (by omega))) (ih (by omega))
  obtain⟨k,D,p,hp,e⟩:=U;have V:=(u k D p hp e).2;rw[same k (by omega)]at V;have hs:kc ((st i).h id)=kc (B id):=by rw[J i z O];exact same i z
  exact⟨by rw[any _ (aC _),hs],by rw[hs];exact V⟩
 right;have un:∀(F:Nat->Bool) m,m<=ops.size->Hn B r F m id=B id:=by
  intro F m
  induction m with
  | zero=>intro _;rfl
  | succ m ih=>
   intro I;simp only[Hn];cases F m with
   | false=>exact ih (by omega)
   | true=>
    show app (Hn B r F m) (r m).eff id=_;rw[fo fun p Z e=>U ⟨m,by omega,p,Z,e⟩];exact ih (by omega)
 rw[un E _ (aC _),J i z O,un _ i z]
theorem Gs{A:jR}(hC:aL A.C)(Gr:ap=ops.toList.any fun o=>gm A.C o.op)(U:iJ A.C ops=true)(hd:∀o∈ops.toList,gP o A.n)(H:∀(i:Nat) o,ops[i]?=some o->DStep A.C ap ops.toList o (st i) (r i) (st (i+1)))(G:∀(i:Nat) o,ops[i]?=some o->se A.C ap X (fS A.C ap ops) o (st i) (r i) i){B:Nat->AB}(Cp:∀k d b,Co ops r k d b->B d=b)(s_:∀d,¬fc ops r 0 d->B d=(st 0).h d)(h0:∀d,fc ops r 0 d->(st 0).h d=.none)
  {E:Nat->Bool} (hE:zz ops E) {i:Nat} {o:Oper} (I:ops[i]?=some o) (hi:E i=false) (fI:∀e∈o.after,Region.binds .any e=true->E e.on=true) {S:Nat->Prop} {rho:Nat->Value} {a:Act} {w:World} (sim:aU A bk (LE ops r E) S rho ⟨TE ops st E,Hn B r E ops.size⟩ a w)
  {Q:Exit->Act->World->Prop} {next:Act->World->Prop} (hnext:∀S' rho' a' w',aU A bk (LE ops r fun k=>E k||bB k i) S' rho' ⟨TE ops st (fun k=>E k||bB k i),Hn B r (fun k=>E k||bB k i) ops.size⟩ a' w'->next a' w'):wpOp A.C.P ops Q i next a w:=by
 obtain⟨Ev,hs,hp⟩:=iw U;rw[<-Gr]at hp;obtain⟨HY,LJ⟩:=uc Ev;have iR:i<ops.size:=(nZ.1 I).1;have hh:=nv U H Cp s_ h0;have D:=H i o I;have Ly:gP o A.n:=hd o (aj (by simpa using I));have bits:∀k,k<i->((Region.before ops).getD i 0).testBit k=true->E k=true:=LJ E hE i o I fI;have later:∀(k:Nat) ok,ops[k]?=some ok->i<k->((Region.before ops).getD k 0).testBit i=true->E k=false:=by
  intro k ok u Ku OG;rw[cr];intro W;have:=LJ E hE k ok u (fun e he hb=>hE k ok u W e he hb) i Ku OG;rw[hi]at this;cases this
 have ue:∀x,x∈o.looksAt ops->TE ops st E x=(st i).t x:=by
  intro x Y;unfold TE;split
  ·rename_i hv;by_cases hw:∃(k:Nat) (ok:Oper),ops[k]?=some ok/\ok.dst=some x
   ·obtain⟨k,ok,u,V⟩:=hw;have wN:=(nZ.1 u).1;rcases vp k i with h | h | h
    ·rw[zC U H u V ops.size (by omega) (aC _),zC U H u V i (by omega) (by omega)]
    ·subst h;rw[I]at u;injection u with u;subst u;exact absurd Y (hs k o I x V)
    have L:=later k ok u h ((hp i k o ok h I u).war x V Y);rw[hv k ok u V]at L;cases L
   have O:∀(k:Nat) o,ops[k]?=some o->o.dst≠some x:=fun k o u e=>hw ⟨k,o,u,e⟩;rw[vD H O ops.size (aC _),vD H O i (by omega)]
  rename_i hv;have hex:∃(k:Nat) (ok:Oper),ops[k]?=some ok/\ok.dst=some x/\E k=false:=Classical.byContradiction fun hn=>hv fun k ok u V=>by
   cases RC:E k with
   | true=>rfl
   | false=>exact absurd ⟨k,ok,u,V,RC⟩ hn
  obtain⟨k,ok,u,V,W⟩:=hex;rcases vp k i with h | h | h
  ·have:=bits k h ((hp k i ok o h u I).raw x V Y);rw[W]at this;cases this
  ·subst h;rw[I]at u;injection u with u;subst u;exact absurd Y (hs k o I x V)
  exact (Cn U H u V i (by omega)).symm
 have HZ:(cls A.C ap o.op=3\/(cls A.C ap o.op=2/\(fS A.C ap ops)[i]?=some true))->∀k,i<k->k<ops.size->E k=true->(r k).eff=[]:=by
  intro hc k Ku wN W;have u:ops[k]?=some ops[k]:=bE wN;by_cases J:cls A.C ap ops[k].op=3
  ·have:=later k _ u Ku (by
    rcases hc with hc | ⟨hc,hf⟩
    ·exact (hp i k o _ Ku I u).w3 J hc
    exact (pD I hf hc k _ u J).2 Ku)
   rw[W]at this;cases this
  exact (H k _ u).quiet J
 have Ew:∀k,k<ops.size->(r k).eff≠[]->cls A.C ap (ops[k]?.getD o).op=3:=by
  intro k u O;have mF:ops[k]?=some ops[k]:=bE u;rw[mF];by_cases J:cls A.C ap ops[k].op=3
  ·exact J
  exact absurd ((H k _ mF).quiet J) O
 have Ex:(cls A.C ap o.op=3\/(cls A.C ap o.op=2/\(fS A.C ap ops)[i]?=some true))->Hn B r E ops.size=Hn B r (fun _=>true) i:=by
  intro hc;refine HV i ops.size (fun k wN=>?_) (by omega);have u:ops[k]?=some ops[k]:=bE wN;by_cases O:(r k).eff=[]
  ·exact .inr O
  have J:=Ew k wN O;rw[u]at J;have J:cls A.C ap ops[k].op=3:=J;refine .inl ⟨fun W=>?_,fun dv=>?_⟩
  ·rcases vp k i with h | h | h
   ·exact h
   ·subst h;rw[hi]at W;cases W
   exact absurd (HZ hc k h wN W) O
  rcases hc with hc | ⟨hc,hf⟩
  ·exact bits k dv ((hp k i _ o dv u I).w3 hc J)
  exact bits k dv ((pD I hf hc k _ u J).1 dv)
 have OH:cls A.C ap o.op=2->Gm o.op=false->∀id,tx X id=true->Hn B r E ops.size id=Hn B r (fun _=>true) i id:=fun hc hth id hid=>by
  refine LH i ops.size (fun k wN=>?_) (by omega);have u:ops[k]?=some ops[k]:=bE wN;by_cases O:∀p∈(r k).eff,p.1≠id
  ·exact .inr O
  have BV:(r k).eff≠[]:=fun e=>O (by rw[e];simp);have J:cls A.C ap ops[k].op=3:=by have:=Ew k wN BV;rw[u]at this;exact this
  have OI:(r k).run=true:=by
   cases hr:(r k).run with
   | true=>rfl
   | false=>exact absurd ((H k _ u).not hr).2.1 BV
  have hf:(fS A.C ap ops)[k]?=some true:=by
   rcases (G k _ u OI).2.1 with h | h
   ·exact h
   exact absurd (fun p hp e=>by have:=xD h p hp;rw[e,hid]at this;cases this) O
  have ord:=sf u hf J i o I hc hth;refine .inl ⟨fun W=>?_,fun dv=>?_⟩
  ·rcases vp k i with h | h | h
   ·exact h
   ·subst h;rw[hi]at W;cases W
   have:=later k _ u h (ord.1 h);rw[W]at this;cases this
  exact bits k dv (ord.2 dv)
 have ext:∀id,(st i).h id=.none\/Hn B r (fun _=>true) i id=(st i).h id:=by
  intro id;by_cases q_:fc ops r i id
  ·exact .inl ((hh i (by omega) id).1 q_).1
  exact .inr ((hh i (by omega) id).2 q_).symm
 have PZ:(r i).run=true->aZ A.C o (ev (TE ops st E)) (Hn B r E ops.size) fun v e n=>v=(r i).v/\e=(r i).eff/\n=(r i).new:=by
  intro z;have L:=D.ran z;have Z:aZ A.C o (ev (TE ops st E)) (st i).h fun v e n=>v=(r i).v/\e=(r i).eff/\n=(r i).new:=by
   refine me (fun x Y=>?_) L;cases x with
   | tmp t=>
    exact (ue t (qZ _ (q8.2 ⟨.tmp t,by simpa using Y,rfl⟩))).symm
   | const v=>rfl
   | global g=>rfl
   | func f=>rfl
  have four:cls A.C ap o.op=0\/cls A.C ap o.op=1\/cls A.C ap o.op=2\/cls A.C ap o.op=3:=by
   have:=Eo A.C ap o.op;omega
  rcases four with h | h | h | h
  ·exact I5 h Z
  ·have LK:ap=false:=by
    cases OJ:ap with
    | false=>rfl
    | true=>
     rw[OJ]at h;exact absurd h (Ep A.C o.op)
   refine I6 h (fun id ht=>?_) Z;have H0:=sg U H LK Cp s_ h0 E ops.size (aC _) id;have LL:=sg U H LK Cp s_ h0 (fun _=>true) i (by omega) id;have heq:(st i).h id=Hn B r (fun _=>true) i id:=by
    rcases ext id with e | e
    ·rw[e]at ht;exact ht.elim
    exact e.symm
   rw[<-heq]at LL;rcases LL with e | ⟨e,es,bW,e1,e2⟩ | ⟨cs,dB,e1,e2⟩ | ⟨m,es,m',bW,e1,e2⟩
   ·rw[<-e]at H0;rcases H0 with f | ⟨f,fs,Jb,N,f2⟩ | ⟨cs,dB,N,f2⟩ | ⟨m,es,m',bW,N,f2⟩
    ·rw[f];exact⟨ht,fun e es h=>⟨es,h⟩,fun cs h=>⟨cs,h⟩,fun cs h=>⟨cs,h⟩,fun e es h=>⟨es,h⟩,fun c0 ty a h=>⟨a,h⟩⟩
    ·rw[N,f2];exact⟨trivial,fun e es h=>(by injection h with L Z;subst L;exact⟨Jb,rfl⟩),fun cs h=>(by cases h),fun cs h=>(by cases h),fun _ _ h=>(by cases h),fun _ _ _ h=>by cases h⟩
    ·rw[N,f2];exact⟨trivial,fun e es h=>by (cases h),fun cs h=>⟨dB,rfl⟩,fun cs h=>(by cases h),fun _ _ h=>(by cases h),fun _ _ _ h=>by cases h⟩
    rw[N,f2];exact⟨trivial,fun e es h=>by (cases h),fun cs h=>by (cases h),fun cs h=>(by cases h),fun _ _ h=>(by cases h),fun _ _ _ h=>by cases h⟩
   ·rw[e1]at H0;rw[e2];rcases H0 with f | ⟨f,fs,Jb,N,f2⟩ | ⟨cs,dB,N,f2⟩ | ⟨m,es,m',bW,N,f2⟩
    ·rw[f];exact⟨trivial,fun e es h=>(by injection h with L Z;subst L;exact⟨_,rfl⟩),fun cs h=>by (cases h),fun cs h=>(by cases h),fun _ _ h=>(by cases h),fun _ _ _ h=>by cases h⟩
    ·injection N with N _;subst N;rw[f2];exact⟨trivial,fun e es h=>(by injection h with L Z;subst L;exact⟨_,rfl⟩),fun cs h=>by (cases h),fun cs h=>(by cases h),fun _ _ h=>(by cases h),fun _ _ _ h=>by cases h⟩
    ·cases N
    cases N
   ·rw[e1]at H0;rw[e2];rcases H0 with f | ⟨f,fs,Jb,N,f2⟩ | ⟨ds,OC,N,f2⟩ | ⟨m,es,m',bW,N,f2⟩
    ·rw[f];exact⟨trivial,fun e es h=>by (cases h),fun cs h=>⟨_,rfl⟩,fun cs h=>(by cases h),fun _ _ h=>(by cases h),fun _ _ _ h=>by cases h⟩
    ·cases N
    ·rw[f2];exact⟨trivial,fun e es h=>by (cases h),fun cs h=>⟨_,rfl⟩,fun cs h=>(by cases h),fun _ _ h=>(by cases h),fun _ _ _ h=>by cases h⟩
    cases N
   rw[e1]at H0;rw[e2];rcases H0 with f | ⟨f,fs,Jb,N,f2⟩ | ⟨ds,OC,N,f2⟩ | ⟨m,es,m',bW,N,f2⟩
   ·rw[f];exact⟨trivial,fun e es h=>by (cases h),fun cs h=>by (cases h),fun cs h=>(by cases h),fun _ _ h=>(by cases h),fun _ _ _ h=>by cases h⟩
   ·cases N
   ·cases N
   rw[f2];exact⟨trivial,fun e es h=>by (cases h),fun cs h=>by (cases h),fun cs h=>(by cases h),fun _ _ h=>(by cases h),fun _ _ _ h=>by cases h⟩
  ·rcases (G i o I z).1 with hf | hpv | hfp | hth | J
   case inr.inr.inr.inr=>rw[h]at J;cases J
   case inr.inr.inr.inl=>
    have Eu:∀k,k<ops.size->ox X (st k).h (r k).eff=true:=fun k wN=>by
     have u:ops[k]?=some ops[k]:=bE wN;cases hr:(r k).run with
     | true=>exact (G k _ u hr).2.2
     | false=>rw[((H k _ u).not hr).2.1];rfl
    refine me (fun x Y=>?_) (I_ (h':=Hn B r E ops.size) (fun id hid O=>Et U H Eu hh E hid (by omega) O) hth L);cases x with
    | tmp t=>
     exact (ue t (qZ _ (q8.2 ⟨.tmp t,by simpa using Y,rfl⟩))).symm
    | const v=>rfl
    | global g=>rfl
    | func f=>rfl
   case inr.inr.inl=>
    refine me (fun x Y=>?_) (I9 (h':=Hn B r E ops.size) (fun id hid=>?_) hfp L)
    ·cases x with
     | tmp t=>
      exact (ue t (qZ _ (q8.2 ⟨.tmp t,by simpa using Y,rfl⟩))).symm
     | const v=>rfl
     | global g=>rfl
     | func f=>rfl
    rw[OH h (AU hfp) id hid];exact ext id
   case inr.inl=>
    refine me (fun x Y=>?_) (I7 hpv L);cases x with
    | tmp t=>
     exact (ue t (qZ _ (q8.2 ⟨.tmp t,by simpa using Y,rfl⟩))).symm
    | const v=>rfl
    | global g=>rfl
    | func f=>rfl
   rw[Ex (.inr ⟨h,hf⟩)];obtain⟨v,e,n,⟨rfl,rfl,rfl⟩,h4⟩:=l6 ext Z;exact h4 _ ⟨rfl,rfl,rfl⟩
  rw[Ex (.inl h)];obtain⟨v,e,n,⟨rfl,rfl,rfl⟩,h4⟩:=l6 ext Z;exact h4 _ ⟨rfl,rfl,rfl⟩
 have H3:∀x,o.dst≠some x->(VE ops (fun k=>E k||bB k i) x↔VE ops E x):=by
  intro x Y;refine⟨fun hv k ok u V=>?_,fun hv k ok u V=>by simp[hv k ok u V]⟩;have:=hv k ok u V;simp only[qV]at this;rcases this with h | h
  ·exact h
  have:=aG.1 h;subst this;rw[I]at u;injection u with u;subst u;exact absurd V Y
 have LM:∀v,v=(r i).v->cU (TE ops st E) o.dst v=TE ops st (fun k=>E k||bB k i):=by
  intro v hv;funext x;have other:o.dst≠some x->TE ops st E x=TE ops st (fun k=>E k||bB k i) x:=fun Y=>by
   unfold TE;by_cases Na:VE ops E x
   ·rw[ae Na,ae ((H3 x Y).2 Na)]
   rw[af Na,af fun h=>Na ((H3 x Y).1 h)]
  cases hZ:o.dst with
  | none=>exact other (by rw[hZ];intro h;cases h)
  | some d=>
   show ax _ _ _ _=_;by_cases e:x=d
   ·subst e;rw[ak];unfold TE;rw[ae,zC U H I hZ ops.size (by omega) (aC _),hv];intro k ok u V;have:k=i:=by
     rcases vp k i with h5 | h5 | h5
     ·exact absurd hZ ((hp k i ok o h5 u I).dst x V)
     ·exact h5
     exact absurd V ((hp i k o ok h5 I u).dst x hZ)
    simp[this,aG.2]
   rw[au _ _ e];exact other fun h=>e (by rw[hZ]at h;injection h with h;exact h.symm)
 unfold wpOp;simp only[I];by_cases z:(r i).run=true
 ·have rZ:Region.wanted o (yielded ops a.tmps)=true:=by
   have hg:=D.guard;unfold Region.wanted;split at hg
   ·rename_i h;rw[h]
   rename_i g want h;rw[h];obtain⟨og,tg,b,k1,k2,k3,k4⟩:=hg;have Ey:tg∈o.looksAt ops:=kf _ (by rw[h];simp[show ops[g]?=some og by simpa using k1,k2]);have:=kb sim (ops:=ops) (g:=g) (by simpa using k1) k2 trivial (by show TE ops st E tg=_;rw[ue tg Ey];exact k3);simp only[this];rw[z]at k4;exact k4.symm
  rw[ae rZ];refine .inl (D0 A o _ _ _ _ _ _ _ _ next Q hC sim (fun _ _=>trivial) Ly (PZ z) (fun v eff b u=>?_) fun v eff new S' rho' a' w' u aQ=>?_)
  ·obtain⟨_,_,Kv⟩:=u;obtain⟨d,hZ⟩:∃d,o.dst=some d:=by
    have:=D.ndst;rw[<-Kv]at this;cases tY:o.dst with
    | none=>rw[tY]at this;cases this
    | some d=>exact⟨d,rfl⟩
   have R:Co ops r i d b:=⟨o,I,hZ,Kv.symm⟩;rw[hZ];refine⟨fun hL=>(by have:=hL i b R;rw[hi]at this;cases this),?_⟩;show Hn B r E ops.size d=b;have q_:fc ops r i d:=⟨i,b,aC _,R⟩;have O:∀k,k<ops.size->E k=true->∀p∈(r k).eff,p.1≠d:=by
    intro k wN W p HW e;have u:ops[k]?=some ops[k]:=bE wN;have ht:=gE (H k _ u).there p HW;rcases vp k i with h | h | h
    ·have RD:fc ops r k d:=⟨i,b,by omega,R⟩;rw[e,((hh k (by omega) d).1 RD).1]at ht;exact ht
    ·subst h;rw[hi]at W;cases W
    have J:cls A.C ap ops[k].op=3:=by
     by_cases J:cls A.C ap ops[k].op=3
     ·exact J
     have:=(H k _ u).quiet J;rw[this]at HW;cases HW
    have hmk:cls A.C ap o.op=3\/cls A.C ap o.op=2:=Gp (ap:=ap) (PZ z) Kv;have:=later k _ u h (by
     rcases hmk with hmk | hmk
     ·exact (hp i k o _ h I u).w3 J hmk
     rcases (G i o I z).1 with hf | hpv | hfp | hth | h3'
     ·exact (pD I hf hmk k _ u J).2 h
     ·have:=zu hpv (D.ran z);rw[<-Kv]at this;cases this
     ·rcases zv hfp (D.ran z) with tP | hdX
      ·rw[<-Kv]at tP;cases tP
      rw[hZ]at hdX;have hdX:tx X d=true:=hdX;have BV:(r k).eff≠[]:=fun e=>by rw[e]at HW;cases HW
      have OI:(r k).run=true:=by
       cases hr:(r k).run with
       | true=>rfl
       | false=>exact absurd ((H k _ u).not hr).2.1 BV
      have hf:(fS A.C ap ops)[k]?=some true:=by
       rcases (G k _ u OI).2.1 with h | h
       ·exact h
       have:=xD h p HW;rw[e,hdX]at this;cases this
      exact (sf u hf J i o I hmk (AU hfp)).1 h
     ·have:=zw hth (D.ran z);rw[<-Kv]at this;cases this
     rw[hmk]at h3';cases h3')
    rw[W]at this;cases this
   have:∀m,m<=ops.size->Hn B r E m d=B d:=by
    intro m
    induction m with
    | zero=>intro _;rfl
    | succ m ih=>
     intro hm;simp only[Hn];cases RE:E m with
     | false=>exact ih (by omega)
     | true=>
      show app (Hn B r E m) (r m).eff d=_;rw[fo (O m (by omega) RE)];exact ih (by omega)
   rw[this ops.size (aC _),Cp i d b R]
  obtain⟨e1,e2,e3⟩:=u;refine hnext S' rho' a' w' ?_;have hH:app (Hn B r E ops.size) eff=Hn B r (fun k=>E k||bB k i) ops.size:=by
   rw[e2];by_cases O:(r i).eff=[]
   ·rw[O];show Hn B r E ops.size=_;have:∀m,Hn B r (fun k=>E k||bB k i) m=Hn B r E m:=by
     intro m
     induction m with
     | zero=>rfl
     | succ m ih=>
      simp only[Hn];rw[ih];by_cases e:m=i
      ·subst e;rw[hi,aG.2 rfl,O];rfl
      have:bB m i=false:=by rw[cr];intro h;exact e (aG.1 h)
      rw[this,gC]
    exact (this _).symm
   have J:cls A.C ap o.op=3:=by
    by_cases J:cls A.C ap o.op=3
    ·exact J
    exact absurd (D.quiet J) O
   exact (Ja hi ops.size (HZ (.inl J)) iR).symm
  have aJ:=aQ;rw[LM v e1]at aJ;have cF:aU A (mG bk o.dst) (nR (LE ops r E) new (o.dst.getD 0)) S' rho' ⟨TE ops st (fun k=>E k||bB k i),Hn B r (fun k=>E k||bB k i) ops.size⟩ a' w':=by rw[<-hH];exact aJ
  refine cF.jF (fun _ _=>.inl trivial) fun d=>?_;cases LN:new with
  | none=>
   refine⟨fun h k b R=>?_,fun h k b R=>by simp[h k b R]⟩;have:=h k b R;simp only[qV]at this;rcases this with h | h
   ·exact h
   have:=aG.1 h;subst this;obtain⟨o',L,Z,h4⟩:=R;rw[<-e3,LN]at h4;cases h4
  | some b=>
   obtain⟨d',hZ⟩:∃d,o.dst=some d:=by
    have:=D.ndst;rw[<-e3,LN]at this;cases tY:o.dst with
    | none=>rw[tY]at this;cases this
    | some d=>exact⟨d,rfl⟩
   rw[hZ];show _↔(LE ops r E d\/d=d');refine⟨fun h=>?_,fun h k b' R=>?_⟩
   ·by_cases e:d=d'
    ·exact .inr e
    refine .inl fun k b' R=>?_;have:=h k b' R;simp only[qV]at this;rcases this with h | h
    ·exact h
    have:=aG.1 h;subst this;obtain⟨o',L,Z,h4⟩:=R;rw[I]at L;injection L with L;rw[<-L,hZ]at Z;injection Z with Z;exact absurd Z.symm e
   rcases h with h | h
   ·simp[h k b' R]
   obtain⟨o',L,Z,h4⟩:=R;have:k=i:=by
    rcases vp k i with h5 | h5 | h5
    ·exact absurd (by rw[hZ,h]) ((hp k i o' o h5 L I).dst d Z)
    ·exact h5
    exact absurd (by rw[Z,h]) ((hp i k o o' h5 I L).dst d' hZ)
   simp[this,aG.2]
 have Ez:(r i).run=false:=by simpa using z
 obtain⟨n1,n2,n3⟩:=D.not Ez;have rZ:Region.wanted o (yielded ops a.tmps)=false:=by
  have hg:=D.guard;unfold Region.wanted;split at hg
  ·rw[Ez]at hg;cases hg
  rename_i g want h;rw[h];obtain⟨og,tg,b,k1,k2,k3,k4⟩:=hg;have Ey:tg∈o.looksAt ops:=kf _ (by rw[h];simp[show ops[g]?=some og by simpa using k1,k2]);have:=kb sim (ops:=ops) (g:=g) (by simpa using k1) k2 trivial (by show TE ops st E tg=_;rw[ue tg Ey];exact k3);simp only[this];rw[Ez]at k4;exact k4.symm
 rw[af (by rw[rZ];decide)];refine hnext S rho _ _ ?_;have aJ:=sim.value o.dst Ly mK undef (.p _ _ (.im _));rw[LM mK n1.symm]at aJ;have hH:Hn B r (fun k=>E k||bB k i) ops.size=Hn B r E ops.size:=by
  have:∀m,Hn B r (fun k=>E k||bB k i) m=Hn B r E m:=by
   intro m
   induction m with
   | zero=>rfl
   | succ m ih=>
    simp only[Hn];rw[ih];by_cases e:m=i
    ·subst e;rw[hi,aG.2 rfl,n2];rfl
    have:bB m i=false:=by rw[cr];intro h;exact e (aG.1 h)
    rw[this,gC]
  exact this _
 rw[hH];refine aJ.jF (fun _ _=>.inl trivial) fun d=>⟨fun h k b R=>?_,fun h k b R=>by simp[h k b R]⟩;have:=h k b R;simp only[qV]at this;rcases this with h | h
 ·exact h
 have:=aG.1 h;subst this;obtain⟨o',L,Z,h4⟩:=R;rw[n3]at h4;cases h4
theorem filter_lt{p q:Nat->Bool}(u:∀x,q x=true->p x=true){i:Nat}(hp:p i=true)(z:q i=false):∀(l:List Nat),(l.filter q).length<=(l.filter p).length/\(i∈l->(l.filter q).length<(l.filter p).length):=by
 intro l
 induction l with
 | nil=>exact⟨aC _,fun h=>by cases h⟩
 | cons x l ih=>
  simp only[List.filter_cons];refine⟨?_,fun h=>?_⟩
  ·cases m:q x with
   | true=>rw[u x m];simp;exact ih.1
   | false=>cases p x<;>simp<;>have:=ih.1<;>omega
  rcases fK.1 h with e | e
  ·subst e;rw[hp,z];simp;have:=ih.1;omega
  have:=ih.2 e;cases m:q x with
  | true=>rw[u x m];simp;exact this
  | false=>cases p x<;>simp<;>omega
theorem Gt{A:jR}(hC:aL A.C)(Gr:ap=ops.toList.any fun o=>gm A.C o.op)(J:iJ A.C ops=true)(hd:∀o∈ops.toList,gP o A.n)(H:∀(i:Nat) o,ops[i]?=some o->DStep A.C ap ops.toList o (st i) (r i) (st (i+1)))(G:∀(i:Nat) o,ops[i]?=some o->se A.C ap X (fS A.C ap ops) o (st i) (r i) i){B:Nat->AB}(Cp:∀k d b,Co ops r k d b->B d=b)(s_:∀d,¬fc ops r 0 d->B d=(st 0).h d)(h0:∀d,fc ops r 0 d->(st 0).h d=.none)
  {Q:Exit->Act->World->Prop} (hQ:∀S rho a w,aU A bk bk S rho (st ops.size) a w->Q .normal a w):
  ∀(u:Nat) (m:Array Bool) (S:Nat->Prop) (rho:Nat->Value) (a:Act) (w:World),m.size=ops.size->zz ops (fun i=>m.getD i false)->((List.range ops.size).filter fun i=>!m.getD i false).length<=u ->
   aU A bk (LE ops r fun i=>m.getD i false) S rho ⟨TE ops st (fun i=>m.getD i false),Hn B r (fun i=>m.getD i false) ops.size⟩ a w->wpAny A.C.P .any ops Q u m a w:=by
 obtain⟨Ev,hs,hp⟩:=iw J;obtain⟨HY,_⟩:=uc Ev;have hh:=nv J H Cp s_ h0;have fin:∀(m:Array Bool) (S:Nat->Prop) (rho:Nat->Value) (a:Act) (w:World),m.size=ops.size->Region.ready .any ops m=[]->aU A bk (LE ops r fun i=>m.getD i false) S rho ⟨TE ops st (fun i=>m.getD i false),Hn B r (fun i=>m.getD i false) ops.size⟩ a w->Q .normal a w:=by
  intro m S rho a w D L z;have all:∀i,i<ops.size->m.getD i false=true:=by
   intro i
   induction i using Nat.strongRecOn with
   | _ i ih=>
    intro O;have I:ops[i]?=some ops[i]:=bE O;cases hl:m.getD i false with
    | true=>rfl
    | false=>
     have:i∈Region.ready .any ops m:=mem_ready.2 ⟨getD_in (by omega) hl,_,I,fun e U hb=>by
      have N:=HY i _ I e U hb;exact ih e.on N (by omega)⟩
     rw[L]at this;cases this
  refine hQ S rho a w ?_;have hH:Hn B r (fun i=>m.getD i false) ops.size=(st ops.size).h:=by
   rw[HV ops.size ops.size (fun k V=>.inl ⟨fun _=>V,fun _=>all k V⟩) (aC _)];funext d;refine ((hh ops.size (aC _) d).2 fun ⟨k,b,N,o,Y,_⟩=>?_).symm;have:=(nZ.1 Y).1;omega
  have hT:TE ops st (fun i=>m.getD i false)=(st ops.size).t:=funext fun x=>ae fun k o V _=>all k (nZ.1 V).1;rw[hH,hT]at z;refine z.jF (fun _ _=>trivial) fun d=>⟨fun _ k b hc=>?_,fun _=>trivial⟩;obtain⟨o,Y,_⟩:=hc;exact all k (nZ.1 Y).1
 intro u
 induction u with
 | zero=>
  intro m S rho a w D Z Cq z;have L:Region.ready .any ops m=[]:=by
   rw[List.eq_nil_iff_forall_not_mem];intro i O;obtain⟨N,o,I,_⟩:=mem_ready.1 O;have W:=(nZ.1 I).1;have hm:i∈(List.range ops.size).filter fun i=>!m.getD i false:=List.mem_filter.2 ⟨fR.2 W,by rw[getD_both N];rfl⟩;have:=cW (Nat.le_zero.1 Cq);rw[this]at hm;cases hm
  exact⟨L,fin m S rho a w D L z⟩
 | succ u ih=>
  intro m S rho a w D Z Cq z;refine⟨fun L=>fin m S rho a w D L z,fun i O=>?_⟩;obtain⟨N,o,I,fI⟩:=mem_ready.1 O;have W:=(nZ.1 I).1;have P1:m.getD i false=false:=getD_both N;have Ef:(fun k=>(m.setIfInBounds i true).getD k false)=fun k=>m.getD k false||bB k i:=by
   funext k;by_cases e:i=k
   ·subst e;rw[aG.2 rfl,eP];simp[D,W]
   rw[getD_set_ne false e];have:bB k i=false:=by rw[cr];intro h;exact e (aG.1 h).symm
   rw[this,gC]
  refine Gs hC Gr J hd H G Cp s_ h0 (E:=fun i=>m.getD i false) Z I P1 fI z fun S' rho' a' w' aQ=>?_;refine ih (m.setIfInBounds i true) S' rho' a' w' (by simp[D]) ?_ ?_ ?_
  ·rw[Ef];intro j oj R P2 e U hb;simp only[qV]at P2 ⊢;rcases P2 with h | h
   ·exact .inl (Z j oj R h e U hb)
   have:=aG.1 h;subst this;rw[I]at R;injection R with R;subst R;exact .inl (fI e U hb)
  ·have H4:∀k,(m.setIfInBounds i true).getD k false=(m.getD k false||bB k i):=fun k=>congrFun Ef k;have:=(filter_lt (p:=fun k=>!m.getD k false) (q:=fun k=>!(m.setIfInBounds i true).getD k false) (fun x hx=>by
    rw[H4 x]at hx;cases hl:m.getD x false with
    | true=>rw[hl]at hx;cases hx
    | false=>rfl) (i:=i) (by rw[P1];rfl) (by rw[H4 i,aG.2 rfl,eP];rfl) (List.range ops.size)).2 (fR.2 W)
   omega
  rw[Ef];exact aQ
end
def HX.cT:List HX->List AV
 | []=>[]
 | .av x::r=>x::HX.cT r
 | .row _ _::r=>HX.cT r
theorem HX.vF(f:AV->AV):∀(r:List HX),HX.cT (r.map (HX.eS f))=(HX.cT r).map f
 | []=>rfl
 | .av x::r=>by simp[HX.cT,HX.eS,HX.vF f r]
 | .row _ _::r=>by simp[HX.cT,HX.eS,HX.vF f r]
theorem HX.vG{x:AV}:∀{r:List HX},.av x∈r->x∈HX.cT r
 | .av y::r,h=>by
  rcases fK.1 h with h | h
  ·injection h with h;subst h;simp[HX.cT]
  simp[HX.cT,HX.vG h]
 | .row _ _::r,h=>by
  rcases fK.1 h with h | h
  ·cases h
  simp[HX.cT,HX.vG h]
def Cr:FX->AV
 | some n=>.ow n
 | none=>.junk
def vH:AB->List AV
 | .box cs=>cs
 | .eN _ cs=>cs
 | .ai _ es=>es.flatMap HX.cT
 | .cell _ _ a=>[a]
 | .fam _ out=>out.map fun x=>Cr x.2
 | _=>[]
theorem si(d:Nat)(b:AB):vH (qX d b)=(vH b).map (sc d):=by
 cases b with
 | ai e es=>
  show (es.map fun r=>r.map (HX.eS (sc d))).flatMap HX.cT=(es.flatMap HX.cT).map (sc d)
  induction es with
  | nil=>rfl
  | cons r es ih=>simp only[aV,dA,dJ,ih,HX.vF]
 | fam l out=>
  show (tw (Kr d) out).map (fun x=>Cr x.2)=(out.map fun x=>Cr x.2).map (sc d);rw[tw,vz,vz];refine ou fun x _=>?_;show Cr (Kr d x.2)=sc d (Cr x.2);cases x.2 with
  | some n=>
   unfold Kr Cr;simp only[AM.sc];cases bB n d<;>rfl
  | none=>rfl
 | _=>rfl
def qk(d:Nat)(s:AS):Prop:=s.h d=.none/\(∀j,kN d (s.t j)=false)/\∀k,∀x∈vH (s.h k),kN d x=false
theorem EA(d:Nat)(x:AV):kN d (sc d x)=false:=by
 rw[D6];split
 ·rfl
 assumption
variable {d:Nat}
theorem AW{m:Nat}{x:AV}(h:kN d x=false):kN d (sc m x)=false:=by
 rw[D6];split
 ·rfl
 exact h
theorem AX(d:Nat)(s:AS)(k:Nat):(k=d/\(dH d s).h k=.none)\/(k≠d/\(dH d s).h k=qX d (s.h k)):=by
 by_cases e:k=d
 ·subst e;exact .inl ⟨rfl,by show ax (fun m=>qX k (s.h m)) k AB.none k=_;rw[ak]⟩
 exact .inr ⟨e,by show ax (fun m=>qX d (s.h m)) d AB.none k=_;rw[au _ _ e]⟩
theorem ug(d:Nat)(s:AS):qk d (dH d s):=by
 refine⟨by rcases AX d s d with⟨_,h⟩ | ⟨h,_⟩;exact h;exact absurd rfl h,fun j=>EA d _,fun k x m=>?_⟩;rcases AX d s k with⟨_,h⟩ | ⟨_,h⟩
 ·rw[h]at m;cases m
 rw[h,si]at m;obtain⟨y,_,rfl⟩:=aR.1 m;exact EA d y
variable {s:AS}
theorem zE(u:Nat)(z:qk d s):qk d (dH u s):=by
 obtain⟨D,I,J⟩:=z;refine⟨?_,fun j=>AW (I j),fun k x m=>?_⟩
 ·rcases AX u s d with⟨_,h⟩ | ⟨_,h⟩
  ·exact h
  rw[h,D];rfl
 rcases AX u s k with⟨_,h⟩ | ⟨_,h⟩
 ·rw[h]at m;cases m
 rw[h,si]at m;obtain⟨y,L,rfl⟩:=aR.1 m;exact AW (J k y L)
def sj:List Oper->AS->AS
 | [],s=>s
 | o::r,s=>match ly o.op with
  | true=>sj r (dH (o.dst.getD 0) s)
  | false=>sj r s
theorem zF:∀(l:List Oper) (s:AS),(∀d,qk d s->qk d (sj l s))/\∀o∈l,ly o.op=true->qk (o.dst.getD 0) (sj l s):=by
 intro l
 induction l with
 | nil=>intro s;exact⟨fun _ h=>h,fun o h=>by cases h⟩
 | cons o l ih=>
  intro s;unfold sj;split
  ·rename_i u;refine⟨fun d z=>(ih _).1 d (zE _ z),fun o' D m=>?_⟩;rcases fK.1 D with e | e
   ·subst e;exact (ih _).1 _ (ug _ _)
   exact (ih _).2 o' e m
  rename_i u;refine⟨fun d z=>(ih _).1 d z,fun o' D m=>?_⟩;rcases fK.1 D with e | e
  ·subst e;rw[m]at u;cases u
  exact (ih _).2 o' e m
variable {A:jR} {rho:Nat->Value}
theorem aU.dH{S:Nat->Prop}{a:Act}{w:World}(m:aU A bk bk S rho s a w)(d:Nat):aU A bk bk S rho (dH d s) a w:=by
 have u:=m.free d .none;have z:(AM.dH d s).h d=.none:=(ug d s).1;rw[eX _ _ _ z]at u;exact u.AP d z
theorem aU.pre{S:Nat->Prop}{a:Act}{w:World}:∀(l:List Oper) (s:AS),aU A bk bk S rho s a w->aU A bk bk S rho (sj l s) a w:=by
 intro l
 induction l with
 | nil=>intro s m;exact m
 | cons o l ih=>
  intro s m;unfold sj;split
  ·exact ih _ (m.dH _)
  exact ih _ m
def sk(o:Oper)(s:AS):AS:=match o.op,o.dst with
 | .assign _,some d=>match s.t d with
  | .ow i=>match s.h i with
   | .row _ _=>match bB i d with
    | true=>s
    | false=>iT i d s
   | .ai _ _=>match bB i d with
    | true=>s
    | false=>iT i d s
   | _=>s
  | _=>s
 | _,_=>s
def uh:List Oper->AS->AS
 | [],s=>s
 | o::r,s=>uh r (sk o s)
theorem aU.post{S:Nat->Prop}{a:Act}{w:World}:∀(l:List Oper) (rho:Nat->Value) (s:AS),(∀o∈l,gP o A.n)->aU A bk bk S rho s a w->∃rho',aU A bk bk S rho' (uh l s) a w:=by
 intro l
 induction l with
 | nil=>intro rho s _ m;exact⟨rho,m⟩
 | cons o l ih=>
  intro rho s z m;have I:∀o∈l,gP o A.n:=fun o' J=>z o' (by simp[J]);have:∃rho',aU A bk bk S rho' (sk o s) a w:=by
   unfold sk;split
   ·rename_i d _ D;split
    ·split
     ·split
      ·exact⟨rho,m⟩
      rename_i u;refine⟨_,m.rename _ d (fun e=>?_) (bg (z o (by simp) d D) m.nb)⟩;rw[aG.2 e]at u;cases u
     ·split
      ·exact⟨rho,m⟩
      rename_i u;refine⟨_,m.rename _ d (fun e=>?_) (bg (z o (by simp) d D) m.nb)⟩;rw[aG.2 e]at u;cases u
     exact⟨rho,m⟩
    exact⟨rho,m⟩
   exact⟨rho,m⟩
  obtain⟨rho',L⟩:=this;exact ih rho' _ I L
theorem nw{c:AV}:∀{xs:List AV},c∈xs->kN d c=true->eG d xs=true:=by
 intro xs
 induction xs with
 | nil=>intro h;cases h
 | cons x xs ih=>
  intro h m;simp only[eG,qV];rcases fK.1 h with e | e
  ·subst e;exact .inl m
  exact .inr (ih e m)
theorem aE.loc{S:Nat->Prop}{w:World}{P:Program}{L':Nat->Prop}{h h':Nat->AB}{x:AV}{v:Value}(O:aE S w P bk rho h x v)(m:∀k,kN k x=true->h' k=h k/\L' k):aE S w P L' rho h' x v:=by
 induction O with
 | p x v O=>exact .p x v O
 | nl=>exact .nl
 | ow k v hv=>obtain⟨D,I⟩:=m k (by simp only[kN];exact aG.2 rfl);exact .ow k v fun R=>⟨I,(hv (by rw[<-D];exact R)).2⟩
 | rp k a b v hv=>obtain⟨D,I⟩:=m k (by simp only[kN];exact aG.2 rfl);exact .rp k a b v fun e U=>⟨I,(hv e (by rw[<-D];exact U)).2⟩
 | bx k a v hv=>obtain⟨D,I⟩:=m k (by simp only[kN];exact aG.2 rfl);exact .bx k a v fun R=>⟨I,(hv (by rw[<-D];exact R)).2⟩
 | vw k a b v hv=>obtain⟨D,I⟩:=m k (by simp only[kN];exact aG.2 rfl);exact .vw k a b v fun e U=>⟨I,(hv e (by rw[<-D];exact U)).2⟩
 | fn f cap J hl hc ih=>exact .fn f cap J hl fun j c u z L=>ih j c u z L fun k N=>m k (nw (aj z) N)
 | tu xs J hl hc ih=>exact .tu xs J hl fun j c u z L=>ih j c u z L fun k N=>m k (nw (aj z) N)
 | st xs J hl V hc ih=>exact .st xs J hl V fun j c u z L=>ih j c u z L fun k N=>m k (nw (aj z) N)
 | ifp t a u hc ih=>exact .ifp t a u (ih m)
 | junk v=>exact .junk v
theorem Jc(hC:aL A.C){id:Nat}{ops:Array Oper}{K:Exit->AS->Prop}(hok:iJ A.C ops=true)(hd:∀o∈ops.toList,gP o A.n)
  (h:∃X,kg A.C (ops.toList.any fun o=>gm A.C o.op) X ops.toList (fS A.C (ops.toList.any fun o=>gm A.C o.op) ops) ops.toList (fun s'=>K .normal (uh ops.toList s')) (sj ops.toList s)):W A (.region id ops true) K s:=by
 intro S rho a w sim;have I:=(sim.grow hC w.drew ⟨rfl,rfl,rfl,aC _,fun _ _ _=>rfl⟩).pre ops.toList s;obtain⟨X,h⟩:=h;obtain⟨st,r,h1,h2,h3⟩:=Ek ops.toList _ _ h;have hsz:ops.toList.length=ops.size:=by simp
 rw[hsz]at h2;have H:∀(i:Nat) o,ops[i]?=some o->DStep A.C (ops.toList.any fun o=>gm A.C o.op) ops.toList o (st i) (r i) (st (i+1)):=fun i o ho=>(h3 i o (by simpa using ho)).1;have G:∀(i:Nat) o,ops[i]?=some o->se A.C (ops.toList.any fun o=>gm A.C o.op) X (fS A.C (ops.toList.any fun o=>gm A.C o.op) ops) o (st i) (r i) i:=fun i o ho=>(h3 i o (by simpa using ho)).2;have nr:∀k d b,Co ops r k d b->qk d (st 0):=fun k d b ⟨o,ho,hZ,hb⟩=>by
  have Fz:=(H k o ho).ndst;rw[hb,hZ]at Fz;rw[h1];have:=(zF ops.toList s).2 o (aj (by simpa using ho)) Fz;rw[hZ]at this;exact this
 have zG:∀d,fc ops r 0 d->qk d (st 0):=fun d ⟨k,b,_,U⟩=>nr k d b U;have OL:∀d,Decidable (∃b k,Co ops r k d b):=fun d=>Classical.propDecidable _;obtain⟨B,hB⟩:∃B:Nat->AB,B=fun d=>@dite _ (∃b k,Co ops r k d b) (OL d) (fun h=>Classical.choose h) (fun _=>(st 0).h d):=⟨_,rfl⟩;obtain⟨_,_,hp⟩:=iw hok;have Cp:∀k d b,Co ops r k d b->B d=b:=by
  intro k d b U;have hex:∃b k,Co ops r k d b:=⟨b,k,U⟩;rw[hB];simp only;rw[dif_pos hex];obtain⟨k',Fx⟩:=n_ hex;generalize Classical.choose hex=b' at Fx;obtain⟨o,e1,e2,e3⟩:=U;obtain⟨o',f1,f2,f3⟩:=Fx;have:k=k':=by
   rcases vp k k' with h | h | h
   ·exact absurd f2 ((hp k k' o o' h e1 f1).dst d e2)
   ·exact h
   exact absurd e2 ((hp k' k o' o h f1 e1).dst d f2)
  subst this;rw[e3]at f3;injection f3 with f3;exact f3.symm
 have R:∀d,¬fc ops r 0 d->B d=(st 0).h d:=by
  intro d Z;rw[hB];simp only;rw[dif_neg fun ⟨b,k,U⟩=>Z ⟨k,b,bd _,U⟩]
 have L:∀d,¬fc ops r 0 d->LE ops r (fun _=>false) d:=fun d Z k b U=>absurd ⟨k,b,bd _,U⟩ Z;have Gu:∀d,LE ops r (fun _=>false) d->¬fc ops r 0 d:=fun d hl ⟨k,b,_,U⟩=>by cases hl k b U
 rw[<-h1]at I;have OM:aU A bk (LE ops r fun _=>false) S rho ⟨TE ops st (fun _=>false),B⟩ a w.drew:=
  {tm:=fun j _=>by
    have ht:TE ops st (fun _=>false) j=(st 0).t j:=by
     unfold TE;split
     ·rename_i hv;exact vD H (fun k o hk e=>by cases hv k o hk e) ops.size (aC _)
     rfl
    show aE _ _ _ _ _ _ (TE ops st (fun _=>false) j) _;rw[ht];refine (I.tm j trivial).loc fun k hk=>?_;have Z:¬fc ops r 0 k:=fun N=>by rw[(zG k N).2.1 j]at hk;cases hk
    exact⟨R k Z,L k Z⟩
   sz:=I.sz,df:=I.df,nb:=I.nb,pn:=I.pn,ev:=I.ev,s0:=I.s0,st:=I.st,sb:=I.sb
   hp:=fun k hk=>by
    have Z:=Gu k hk;show cd _ _ _ _ _ _ _ (B k);rw[R k Z];have z:=I.hp k trivial;cases hb:(st 0).h k with
    | none=>trivial
    | row e es=>rw[hb]at z;exact z
    | f_ es=>rw[hb]at z;exact z
    | jt es=>rw[hb]at z;exact z
    | map mk es=>rw[hb]at z;exact z
    | iter mk es n cur=>rw[hb]at z;exact z
    | box cs=>
     rw[hb]at z;obtain⟨g,ty,c,V,k2,k3,Y⟩:=z;refine⟨g,ty,c,V,k2,k3,fun j x u O hu=>⟨(Y j x u O hu).1,(Y j x u O hu).2.loc fun i D=>?_⟩⟩;have J:¬fc ops r 0 i:=fun N=>by rw[(zG i N).2.2 k x (by rw[hb];exact aj O)]at D;cases D
     exact⟨R i J,L i J⟩
    | eN ty cs=>
     rw[hb]at z;obtain⟨g,c,V,k2,k3,Y⟩:=z;refine⟨g,c,V,k2,k3,fun j x u O hu=>⟨(Y j x u O hu).1,(Y j x u O hu).2.loc fun i D=>?_⟩⟩;have J:¬fc ops r 0 i:=fun N=>by rw[(zG i N).2.2 k x (by rw[hb];exact aj O)]at D;cases D
     exact⟨R i J,L i J⟩
    | aA cs=>rw[hb]at z;exact z
    | cell c0 ty x=>
     rw[hb]at z;obtain⟨g,off,v,V,k2,k3,Y,k5⟩:=z;refine⟨g,off,v,V,k2,k3,Y,k5.loc fun i D=>?_⟩;have J:¬fc ops r 0 i:=fun N=>by rw[(zG i N).2.2 k x (by rw[hb];exact jc.2 rfl)]at D;cases D
     exact⟨R i J,L i J⟩
    | fam l out=>
     rw[hb]at z;obtain⟨V,hF⟩:=z;refine⟨V,hF.mem,hF.dis,fun m n g cs hm hl=>?_⟩;have J:¬fc ops r 0 n:=fun N=>by
      have hf:=(zG n N).2.2 k (.ow n) (by rw[hb];exact aR.2 ⟨(m,some n),hm,rfl⟩);simp only[kN]at hf;rw[aG.2 rfl]at hf;cases hf
     intro ht;have ht:(B n).there:=ht;rw[R n J]at ht;exact⟨L n J,(hF.out m n g cs hm hl ht).2⟩
    | ai e es=>
     rw[hb]at z;obtain⟨⟨i0,xs,V,k2,k3,Y,k5,k6⟩,hS⟩:=z;refine⟨⟨i0,xs,V,k2,k3,Y,k5,fun a' r j x ha O=>?_⟩,hS⟩;obtain⟨u,hu,hr⟩:=k6 a' r j x ha O;refine⟨u,hu,?_⟩;cases x with
     | row e' bW=>exact hr
     | av x=>
      refine aE.loc hr fun i D=>?_;have J:¬fc ops _ 0 i:=fun N=>by rw[(zG i N).2.2 k x (by rw[hb];exact q9.2 ⟨r,aj ha,HX.vG (aj O)⟩)]at D;cases D
      exact⟨R i J,L i J⟩
   dj:=fun i j g D O li lj cK dW=>by
    have fE:(B i).live:=li;have Lv:(B j).live:=lj;have cK:hasB _ (B i) (rho i) g:=cK;have dW:hasB _ (B j) (rho j) g:=dW;rw[R i (Gu i D)]at fE cK;rw[R j (Gu j O)]at Lv dW;exact I.dj i j g trivial trivial fE Lv cK dW
   lv:=fun i g D li hg=>by
    have fE:(B i).live:=li;have hg:hasB _ (B i) (rho i) g:=hg;rw[R i (Gu i D)]at fE hg;exact I.lv i g trivial fE hg
   fr:=I.fr }
 refine wp_region_any hC.any ?_;have P3:(fun i=>(Array.replicate ops.size false).getD i false)=fun _=>false:=by
  funext i;exact getD_replicate_false _ _
 refine Gt hC rfl hok hd H G Cp R (fun d N=>(zG d N).1) (fun S' rho' a' w' aQ=>?_) ops.size (Array.replicate ops.size false) S rho a w.drew (by simp) ?_ ?_ ?_
 ·obtain⟨EB,aJ⟩:=aQ.post ops.toList rho' (st ops.size) hd;exact⟨S',EB,_,aJ,h2⟩
 ·rw[P3];intro j oj _ h;cases h
 ·have:((List.range ops.size).filter fun i=>!(Array.replicate ops.size false).getD i false).length<=(List.range ops.size).length:=List.length_filter_le _ _;simpa using this
 rw[P3];have:∀m,Hn B r (fun _=>false) m=B:=by
  intro m
  induction m with
  | zero=>rfl
  | succ m ih=>exact ih
 rw[this];exact OM
end Go.AM
namespace Go.AM
open Go.RowKit
def EC(n:Nat)(o:Oper):Bool:=match o.dst with
 | some d=>Nat.blt d n
 | none=>true
def gn(C:Ctx)(n:Nat):Code->Bool
 | .region _ ops draw=>ops.toList.all (EC n)&&(!draw||iJ C ops)
 | .seq a b=>gn C n a&&gn C n b
 | .cond _ a b=>gn C n a&&gn C n b
 | .block _ c=>gn C n c
 | .loop c=>gn C n c
 | _=>true
def kG(f:AS->Prop)(K:Exit->AS->Prop):Exit->AS->Prop
 | .normal,s=>f s
 | e,s=>K e s
def ui(id:Nat)(K:Exit->AS->Prop):Exit->AS->Prop
 | .exit i,s=>kF (bB i id) (K .normal s) (K (.exit i) s)
 | e,s=>K e s
def ta(A:jR):Code->(Exit->AS->Prop)->AS->Prop
 | .skip,K,s=>K .normal s
 | .region _ ops draw,K,s=>match draw with
  | false=>kO A.C ops.toList ops.toList (K .normal) s
  | true=>∃X,kg A.C (ops.toList.any fun o=>gm A.C o.op) X ops.toList (fS A.C (ops.toList.any fun o=>gm A.C o.op) ops) ops.toList (fun s'=>K .normal (uh ops.toList s')) (sj ops.toList s)
 | .seq a b,K,s=>ta A a (kG (fun s'=>Seen A s' (ta A b K)) K) s
 | .cond c a b,K,s=>match ev s.t c with
  | .p (.im (.bool t))=>kF t (ta A a K s) (ta A b K s)
  | _=>False
 | .block id c,K,s=>ta A c (ui id K) s
 | .loop c,K,s=>∃(α:Type) (I:α->AS->Prop) (m:α->Nat),(∃x s',aY A s s'/\I x s')/\∀x s,I x s->ta A c (kG (fun s'=>∃y nt,aY A s' nt/\I y nt/\m y<m x) K) s
 | .exit id,K,s=>K (.exit id) s
 | .ret,K,s=>K .ret s
 | _,_,_=>False
theorem AZ{n:Nat}{ops:Array Oper}(h:ops.toList.all (EC n)=true):∀o∈ops.toList,gP o n:=by
 intro o m d u;have:=cC.1 h o m;unfold EC at this;rw[u]at this;exact dT this
theorem uj{A:jR}(hC:aL A.C):∀(c:Code) (K:Exit->AS->Prop) (s:AS),gn A.C A.n c=true->ta A c K s->W A c K s:=by
 intro c
 induction c with
 | skip=>intro K s _ h S rho a w z;exact wp_skip ⟨S,rho,s,z,h⟩
 | region id ops draw=>
  intro K s u h;simp only[gn,aw]at u;cases draw with
  | false=>exact D9 hC (AZ u.1) h
  | true=>exact Jc hC (by simpa using u.2) (AZ u.1) h
 | seq a b J L=>
  intro K s u h;simp only[gn,aw]at u;refine Lz ?_;refine zm (J _ s u.1 h) fun e N D=>?_;cases e with
  | normal=>
   exact fun S rho a w z=>by
    obtain⟨S',rho',s2,O,D⟩:=D S rho a w z;exact L K s2 u.2 D S' rho' a w O
  | exit id=>exact D
  | goto l=>exact D
  | ret=>exact D
  | panic c=>exact D
  | outgrown=>exact D
 | cond c a b J L=>
  intro K s u h;simp only[gn,aw]at u;simp only[ta]at h;split at h
  ·rename_i t R;refine I0 R (fun e=>J K s u.1 ?_) (fun e=>L K s u.2 ?_)
   ·rw[e]at h;exact h
   rw[e]at h;exact h
  exact h.elim
 | block id c ih=>
  intro K s u h;exact Gj (zm (ih _ s u h) fun e N D=>by cases e<;>exact D)
 | loop c ih=>
  intro K s u h;obtain⟨α,I,m,U,V⟩:=h;refine I1 I m U fun x s Y=>?_;exact zm (ih _ s u (V x s Y)) fun e N D=>by cases e<;>exact D
 | exit id=>intro K s _ h S rho a w z;exact wp_exit ⟨S,rho,s,z,h⟩
 | ret=>intro K s _ h S rho a w z;exact wp_ret ⟨S,rho,s,z,h⟩
 | rangeFunc=>intro K s _ h;exact h.elim
 | scope=>intro K s _ h;exact h.elim
 | label=>intro K s _ h;exact h.elim
 | goto=>intro K s _ h;exact h.elim
 | refuse=>intro K s _ h;exact h.elim
def lB{α:Type}:List (Nat×α)->(Nat->α)->Nat->α
 | [],t=>t
 | (i,v)::r,t=>ax (lB r t) i v
def jH{α:Type}:List (Nat×α)->(Nat->α)->Prop
 | [],_=>True
 | (i,v)::r,t=>t i=v/\jH r t
theorem oA{α:Type}:∀(l:List (Nat×α)) (t:Nat->α),jH l t->lB l t=t:=by
 intro l
 induction l with
 | nil=>intro t _;rfl
 | cons p l ih=>
  intro t h;obtain⟨i,v⟩:=p;show ax (lB l t) i v=t;rw[ih t h.2];exact eX _ _ _ h.1
theorem Gv{A:jR}{c:Code}{K:Exit->AS->Prop}{s:AS}{α:Type}(R:α->Prop)(D:α->List (Nat×AV))(hs:α->List (Nat×AB))(m:α->Nat)(J:α)(s0:AS)(W:aY A s s0)(Y:R J)(Z:jH (D J) s0.t)(hh:jH (hs J) s0.h)
  (z:∀x,R x->∀t h,ta A c (kG (fun I=>∃y u,aY A I u/\R y/\m y<m x/\jH (D y) u.t/\jH (hs y) u.h) K) ⟨lB (D x) t,lB (hs x) h⟩):ta A (.loop c) K s:=by
 refine⟨α,fun x s=>R x/\jH (D x) s.t/\jH (hs x) s.h,m,⟨J,s0,W,Y,Z,hh⟩,fun x s ⟨h1,h2,h3⟩=>?_⟩;have:=z x h1 s.t s.h;rw[oA _ _ h2,oA _ _ h3]at this;have e:(kG (fun I=>∃y u,aY A I u/\R y/\m y<m x/\jH (D y) u.t/\jH (hs y) u.h) K)=(kG (fun I=>∃y u,aY A I u/\(R y/\jH (D y) u.t/\jH (hs y) u.h)/\m y<m x) K):=by
  funext e I;cases e<;>try rfl
  apply propext;constructor
  ·rintro⟨y,u,L,N,O,U,V⟩;exact⟨y,u,L,⟨N,U,V⟩,O⟩
  rintro⟨y,u,L,⟨N,U,V⟩,O⟩;exact⟨y,u,L,N,O,U,V⟩
 rw[<-e];exact this
end Go.AM
namespace Go.AM
open Go.RowKit
def mU(l:List (Nat×TI))(t:TypeId):Option TI:=match l with
 | []=>none
 | (i,ti)::r=>match Nat.beq i t with
  | true=>some ti
  | false=>mU r t
theorem mf{t:TypeId}{m:TI}:∀{l:List (Nat×TI)},mU l t=some m->(t,m)∈l:=by
 intro l
 induction l with
 | nil=>intro h;cases h
 | cons p l ih=>
  intro h;obtain⟨i,Ny⟩:=p;unfold mU at h;split at h
  ·rename_i e;have:=bq e;subst this;injection h with h;subst h;exact aW ..
  exact cg _ (ih h)
def ED:Value->Value->Bool
 | .int k n,.int k' n'=>kB k k'&&decide (n=n')
 | .bool b,.bool b'=>b==b'
 | .string s,.string s'=>s.data.toList==s'.data.toList
 | .slice none a b,.slice none a' b'=>Nat.beq a a'&&Nat.beq b b'
 | .pointer none,.pointer none=>true
 | .map none,.map none=>true
 | .nilFunc,.nilFunc=>true
 | .nilIface,.nilIface=>true
 | _,_=>false
theorem EE{v u:Value}(h:ED v u=true):v=u:=by
 unfold ED at h;split at h
 ·simp only[aw,dS]at h;rw[Av h.1,h.2]
 ·rw[eq_of_beq h]
 ·have:=eq_of_beq h;congr 1;exact ByteArray.ext (gV this)
 ·simp only[aw]at h;rw[bq h.1,bq h.2]
 ·rfl
 ·rfl
 ·rfl
 ·rfl
 cases h
def vI:List Value->List Value->Bool
 | [],[]=>true
 | v::r,u::s=>ED v u&&vI r s
 | _,_=>false
theorem Cs:∀{a b:List Value},vI a b=true->a=b:=by
 intro a
 induction a with
 | nil=>intro b h;cases b with | nil=>rfl | cons=>cases h
 | cons v r ih=>
  intro b h;cases b with
  | nil=>cases h
  | cons u s=>
   simp only[vI,aw]at h;rw[EE h.1,ih h.2]
def LO:TypeDesc->Bool
 | .struct _ | .array _ _=>true
 | _=>false
def ra(P:Program):List (Nat×Nat×Bool)->List Field->Bool
 | [],[]=>true
 | f::r,g::s=>Nat.beq f.1 g.offset&&!Nat.beq f.2.1 0&&(match P.info? g.type with
  | some i=>Nat.beq i.size f.2.1
  | none=>false)&&(match P.underlying g.type with
  | some d=>LO d==f.2.2
  | none=>false)&&ra P r s
 | _,_=>false
def P4(P:Program)(t:TypeId)(ti:TI):Bool:=match ti.ud,P.underlying t with
 | .sc,some .bool=>true
 | .sc,some d=>!LO d&&!ti.eq
 | .int k,some (.int k')=>kB k k'
 | .st fs,some (.struct gs)=>ra P fs gs.toList
 | .sl e,some (.slice e')=>Nat.beq e e'
 | .mp k e,some (.map k' e')=>Nat.beq k k'&&Nat.beq e e'
 | .str,some .string=>true
 | _,_=>false
def Nb(P:Program)(p:Nat×TI):Bool:=match P.info? p.1 with
 | some info=>Nat.beq info.size p.2.size&&Nat.beq info.bytes p.2.bytes&&(match info.zero with
  | some z=>vI z.cells.toList p.2.zero
  | none=>false)&&Nat.beq p.2.zero.length p.2.size&&p.2.zero.all Value.oneCell'&&P4 P p.1 p.2
 | none=>false
theorem vJ{P:Program}:∀{fs:List (Nat×Nat×Bool)} {gs:List Field},ra P fs gs=true->fs.length=gs.length/\∀(i:Nat) f g,fs[i]?=some f->gs[i]?=some g->f.1=g.offset/\f.2.1≠0/\(∃I,P.info? g.type=some I/\I.size=f.2.1)/\
  (∃d,P.underlying g.type=some d/\f.2.2=(match d with | .struct _ | .array _ _=>true | _=>false)):=by
 intro fs
 induction fs with
 | nil=>intro gs h;cases gs with | nil=>exact⟨rfl,by simp⟩ | cons=>cases h
 | cons f r ih=>
  intro gs h;cases gs with
  | nil=>cases h
  | cons g s=>
   simp only[ra,aw]at h;obtain⟨⟨⟨⟨L,J⟩,m⟩,u⟩,N⟩:=h;obtain⟨O,R⟩:=ih N;refine⟨by simp[O],fun i U V z D=>?_⟩;cases i with
   | succ i=>exact R i U V (by simpa using z) (by simpa using D)
   | zero=>
    simp at z D;subst z D;refine⟨bq L,(fun e=>by rw[e]at J;cases J),?_,?_⟩
    ·split at m
     ·rename_i i W;exact⟨i,W,bq m⟩
     cases m
    split at u
    ·rename_i d Y;refine⟨d,Y,?_⟩;rw[<-eq_of_beq u];cases d<;>rfl
    cases u
theorem Jd{P:Program}{t:TypeId}{J:TI}(h:Nb P (t,J)=true):jw P t J:=by
 unfold Nb at h;split at h
 ·rename_i info L;simp only[aw]at h;obtain⟨⟨⟨⟨⟨N,O⟩,I⟩,R⟩,U⟩,u⟩:=h;split at I
  ·rename_i z V;refine⟨info,z,L,bq N,bq O,V,?_,bq R,fun v W=>cC.1 U v W,?_⟩
   ·rw[<-Cs I]
   simp only[P4]at u;split at u
   ·rename_i D m;rw[D];exact⟨⟨_,m,trivial⟩,fun _=>m⟩
   ·rename_i d bO D m;rw[D];simp only[aw]at u;refine⟨⟨d,m,?_⟩,fun e=>?_⟩
    ·cases d<;>first | trivial | (cases u.1;done)
    rw[e]at u;cases u.2
   ·rename_i D m;rw[D,m,Av u]
   ·rename_i fs gs D m;rw[D];obtain⟨Y,Z⟩:=vJ u;exact⟨gs,m,by simpa using Y,fun i f g hf hg=>Z i f g hf (by simpa using hg)⟩
   ·rename_i D m;rw[D,m,bq u]
   ·rename_i D m;simp only[aw]at u;rw[D,m,bq u.1,bq u.2]
   ·rename_i D m;rw[D,m]
   cases u
  cases I
 cases h
def ON(P:Program)(p:Nat×TI):Bool:=match P.info? p.1 with
 | some info=>match info.zero with
  | some z=>Dg z==p.2.ud.agg
  | none=>false
 | none=>false
variable {l:List (Nat×TI)}
theorem LP{P:Program}(h:l.all (ON P)=true):∀t m,mU l t=some m->yA P t m:=fun t m u=>by
 have:=cC.1 h _ (mf u);unfold ON at this;split at this
 ·rename_i info D;split at this
  ·rename_i z I;exact⟨info,z,D,I,eq_of_beq this⟩
  cases this
 cases this
theorem Je{P:Program}(h:l.all (Nb P)=true):∀t m,mU l t=some m->jw P t m:=fun _ _ u=>Jd (cC.1 h _ (mf u))
def FE:Option TypeDesc->Value->Bool
 | some (.int _),.int _ _=>true
 | some .string,.string _=>true
 | some .bool,.bool _=>true
 | _,_=>false
def iK(P:Program):Nat->List Field->List Value->Bool
 | _,[],[]=>true
 | i, g :: r, z :: s => FE (P.underlying g.type) z && Nat.beq g.offset i && g.name != "_" && iK P (i + 1) r s
 | _,_,_=>false
def sn(P:Program):Nat->List Field->List Value->Bool
 | _,[],[]=>true
 | _,[],_::_=>false
 | i, g :: r, zs => g.name != "_" && Nat.beq g.offset i && match P.underlying g.type with
  | some (.struct hs)=>(match P.info? g.type with
   | some inf=>Nat.beq inf.size hs.size
   | none=>false)&&!P.stoodInHeld g.type&&iK P 0 hs.toList (zs.take hs.size)&&sn P (i+hs.size) r (zs.drop hs.size)
  | _=>match zs with
   | z::s=>FE (P.underlying g.type) z&&sn P (i+1) r s
   | []=>false
def Jf(P:Program)(p:Nat×TI):Bool:=match p.2.eq,p.2.ud with
 | true,.st _=>(match P.underlying p.1 with
  | some (.struct gs)=>sn P 0 gs.toList p.2.zero&&Nat.beq p.2.zero.length p.2.size
  | _=>false)&&!P.stoodInHeld p.1&&!P.eqGuardType P.depth p.1
 | _,_=>true
theorem gN{P:Program}{w:World}{t:TypeId}{z:Value}(h:FE (P.underlying t) z=true){xs:Array Value}{i:Nat}{v:Value}(m:xs[i]?=some v):(part t xs i).run P w=.ok v w:=by
 have:(isAgg t).run P w=.ok false w:=by
  rw[Go.isAgg,aI];unfold FE at h;split at h<;>first
   | (rename_i u;rw[run_underlying u];rfl)
   | cases h
 simp[part,this,m]
theorem vK{a b:ByteArray}(h:a.toList=b.toList):a=b:=by
 rw[ByteArray.toList_eq,ByteArray.toList_eq]at h;obtain⟨⟨x⟩⟩:=a;obtain⟨⟨y⟩⟩:=b;simpa using h
theorem Gw{o:Option TypeDesc}{k:IntKind}{n:Int}(h:FE o (.int k n)=true):∃j,o=some (.int j):=by
 cases o with
 | none=>cases h
 | some d=>cases d<;>first | exact⟨_,rfl⟩ | cases h
theorem Gx{o:Option TypeDesc}{x:ByteArray}(h:FE o (.string x)=true):o=some .string:=by
 cases o with
 | none=>cases h
 | some d=>cases d<;>first | rfl | cases h
theorem EF{o:Option TypeDesc}{x:Bool}(h:FE o (.bool x)=true):o=some .bool:=by
 cases o with
 | none=>cases h
 | some d=>cases d<;>first | rfl | cases h
theorem oB{P:Program}{t:TypeId}{z:Value}{zs:List Value}{x:PV}{a b:List PV}{r:Bool}(V:FE (P.underlying t) z=true)(h:aX (z::zs) (x::a) b=some r):∃u v s c J,x=.im u/\b=.im v::s/\aX zs a s=some J/\r=(c&&J)/\∀d w,(Op.equalIn (d+1) t u v).run P w=.ok c w:=by
 cases b with
 | nil=>cases z<;>cases x<;>simp[aX]at h
 | cons y b=>
  unfold aX at h;split at h
  ·rename_i m D I;cases m
  ·rename_i m D I;injection m with m L;injection D with D N;injection I with I h3';subst m L D N I h3';split at h
   ·rename_i W;have:=Av W;subst this;obtain⟨J,O,R⟩:=az.1 h;obtain⟨j,U⟩:=Gw V;refine⟨_,_,_,_,J,rfl,rfl,O,R.symm,fun d w=>?_⟩;rw[run_equalIn_int (P:=P) w d t _ j _ _ U];congr 1
   cases h
  ·rename_i m D I;injection m with m L;injection D with D N;injection I with I h3';subst m L D N I h3';obtain⟨J,O,R⟩:=az.1 h;have U:=Gx V;refine⟨_,_,_,_,J,rfl,rfl,O,R.symm,fun d w=>?_⟩;rw[run_equalIn_string (P:=P) w d t _ _ U];congr 1;rw[gU,beq_iff_eq,decide_eq_true_iff];exact⟨fun e=>vK e,fun e=>by rw[e]⟩
  ·rename_i m D I;injection m with m L;injection D with D N;injection I with I h3';subst m L D N I h3';obtain⟨J,O,R⟩:=az.1 h;have U:=EF V;refine⟨_,_,_,_,J,rfl,rfl,O,R.symm,fun d w=>?_⟩;rw[run_equalIn_bool' (P:=P) w d t _ _ U];congr 1
  cases h
theorem mV{P:Program}{w:World}(d:Nat)(xs ys:Array Value):∀(gs:List Field) (zs:List Value) (i:Nat) (a b:List PV) (r:Bool),iK P i gs zs=true->gs.length=a.length->(∀(j:Nat) x,a[j]?=some x->∃v,xs[i+j]?=some v/\x=.im v)->(∀(j:Nat) x,b[j]?=some x->∃v,ys[i+j]?=some v/\x=.im v)->aX zs a b=some r ->
  (Op.eqFields (d+1) xs ys gs).run P w=.ok r w:=by
 intro gs
 induction gs with
 | nil=>
  intro zs i a b r hi hl _ _ he;have:a=[]:=cW hl.symm;subst this;cases zs with
  | nil=>cases b with
   | nil=>simp[aX]at he;subst he;rfl
   | cons y b=>simp[aX]at he
  | cons z zs=>simp[iK]at hi
 | cons g gs ih=>
  intro zs i a b r hi hl ha hb he;cases a with
  | nil=>simp at hl
  | cons x a=>cases zs with
   | nil=>simp[iK]at hi
   | cons z zs=>
    simp only[iK,aw]at hi;obtain⟨⟨⟨h1,h2⟩,h3⟩,h4⟩:=hi;have h2:=bq h2
    have mS : g.name ≠ "_" := by simpa using h3
    obtain⟨u,v,s1,c,r',rfl,rfl,FQ,rfl,p3⟩:=oB h1 he;obtain⟨v',hv,Jg⟩:=ha 0 _ rfl;obtain⟨u',ni,FF⟩:=hb 0 _ rfl;injection Jg with Jg;injection FF with FF;subst Jg FF;have p1:=gN (w:=w) h1 (xs:=xs) (i:=g.offset) (by rw[h2];simpa using hv);have p2:=gN (w:=w) h1 (xs:=ys) (i:=g.offset) (by rw[h2];simpa using ni);have rest:=ih zs (i+1) a s1 r' h4 (by simpa using hl) (fun j x hx=>by obtain⟨v,q1,q2⟩:=ha (j+1) x (by simpa using hx);exact⟨v,by rw[<-q1];congr 1;omega,q2⟩) (fun j x hx=>by obtain⟨v,q1,q2⟩:=hb (j+1) x (by simpa using hx);exact⟨v,by rw[<-q1];congr 1;omega,q2⟩) FQ;simp only[Op.eqFields,ae mS,aI,p1,p2,p3,br];cases c with
    | true=>
     simp only[vy,jW,if_false,oa];exact rest
    | false=>simp
theorem vL{z:Value}{zs:List Value}{a b:List PV}{r:Bool}(h:aX (z::zs) a b=some r):∃x Z y b' c I,a=x::Z/\b=y::b'/\aX zs Z b'=some I/\r=(c&&I)/\∀J L N O,aX J L N=some O->aX (z::J) (x::L) (y::N)=some (c&&O):=by
 cases a with
 | nil=>cases z<;>simp[aX]at h
 | cons x a=>cases b with
  | nil=>cases z<;>cases x<;>simp[aX]at h
  | cons y b=>
   unfold aX at h;split at h
   ·rename_i m _ _;cases m
   ·rename_i m u D;injection m with m R;injection u with u U;injection D with D h3';subst m R u U D h3';split at h
    ·rename_i Dz;obtain⟨I,V,W⟩:=az.1 h;exact⟨_,_,_,_,_,I,rfl,rfl,V,W.symm,fun J L N O Y=>by simp only[aX,Dz,Y,eM]⟩
    cases h
   ·rename_i m u D;injection m with m R;injection u with u U;injection D with D h3';subst m R u U D h3';obtain⟨I,V,W⟩:=az.1 h;exact⟨_,_,_,_,_,I,rfl,rfl,V,W.symm,fun J L N O Y=>by simp only[aX,Y,eM]⟩
   ·rename_i m u D;injection m with m R;injection u with u U;injection D with D h3';subst m R u U D h3';obtain⟨I,V,W⟩:=az.1 h;exact⟨_,_,_,_,_,I,rfl,rfl,V,W.symm,fun J L N O Y=>by simp only[aX,Y,eM]⟩
   cases h
theorem qm:∀{m u:List Value} {a b:List PV} {r:Bool},aX (m++u) a b=some r->∃D J I L N O,a=D++J/\b=I++L/\D.length=m.length/\I.length=m.length/\aX m D I=some N/\aX u J L=some O/\r=(N&&O)
 | [],u,a,b,r,h=>⟨[],a,[],b,true,r,rfl,rfl,rfl,rfl,rfl,h,rfl⟩
 | z::m,u,a,b,r,h=>by
  obtain⟨x,a',y,b',c,r',rfl,rfl,R,rfl,U⟩:=vL (zs:=m++u) h;obtain⟨D,J,I,L,N,O,rfl,rfl,V,W,Y,Z,rfl⟩:=qm R;exact⟨x::D,J,y::I,L,c&&N,O,rfl,rfl,by simp[V],by simp[W],U _ _ _ _ Y,Z,(Bool.and_assoc _ _ _).symm⟩
theorem pF{P:Program}:∀{gs:List Field} {z:List Value} {i:Nat},iK P i gs z=true->gs.length=z.length
 | [],[],_,_=>rfl
 | [],_::_,_,h=>by simp[iK]at h
 | _::_,[],_,h=>by simp[iK]at h
 | g::gs,c::z,i,h=>by
  simp only[iK,aw]at h;simp[pF h.2]
theorem vM{P:Program}{w:World}(d:Nat)(xs ys:Array Value):∀(gs:List Field) (zs:List Value) (i:Nat) (a b:List PV) (r:Bool),sn P i gs zs=true->(∀(j:Nat) x,a[j]?=some x->∃v,xs[i+j]?=some v/\x=.im v)->(∀(j:Nat) x,b[j]?=some x->∃v,ys[i+j]?=some v/\x=.im v)->aX zs a b=some r ->
  (Op.eqFields (d+3) xs ys gs).run P w=.ok r w:=by
 intro gs
 induction gs with
 | nil=>
  intro zs i a b r hi _ _ he;cases zs with
  | nil=>
   cases a with
   | nil=>cases b with
    | nil=>simp[aX]at he;subst he;rfl
    | cons y b=>simp[aX]at he
   | cons x a=>simp[aX]at he
  | cons z zs=>simp[sn]at hi
 | cons g gs ih=>
  intro zs i a b r hi ha hb he;unfold sn at hi;simp only[aw]at hi;obtain⟨⟨h3,h2⟩,hi⟩:=hi;have h2:=bq h2
  have mS : g.name ≠ "_" := by simpa using h3
  split at hi
  ·rename_i hs mH;simp only[aw]at hi;obtain⟨⟨⟨h5,h6⟩,h7⟩,h8⟩:=hi;have h6:P.stoodInHeld g.type=false:=by simpa using h6
   split at h5
   ·rename_i inf OO;have h5:=bq h5;have hl:=pF h7;rw[gx]at hl;rw[<-iX hs.size zs]at he;obtain⟨a1,a2,b1,b2,r1,r2,rfl,rfl,l1,l2,k1,k2,rfl⟩:=qm he;rw[<-hl]at l1 l2;have cut:∀(us:Array Value) (c1 c2:List PV),c1.length=hs.size->(∀(j:Nat) x,(c1++c2)[j]?=some x->∃v,us[i+j]?=some v/\x=.im v)->(part g.type us g.offset).run P w=.ok (.agg (us.extract i (i+hs.size))) w/\(∀(j:Nat) x,c1[j]?=some x->∃v,(us.extract i (i+hs.size))[0+j]?=some v/\x=.im v)/\∀(j:Nat) x,c2[j]?=some x->∃v,us[i+hs.size+j]?=some v/\x=.im v:=by
     intro us c1 c2 hc hu;refine⟨?_,fun j x hx=>?_,fun j x hx=>?_⟩
     ·have e1:(isAgg g.type).run P w=.ok true w:=by
       rw[Go.isAgg,aI,run_underlying mH];rfl
      have e2:(sizeOf g.type).run P w=.ok hs.size w:=by
       simp[Go.sizeOf,typeInfo,OO,h5]
      simp[part,e1,e2,h2]
     ·have hj:j<hs.size:=by rw[<-hc];exact ah hx
      obtain⟨v,q1,q2⟩:=hu j x (by rw[bQ (by omega)];exact hx);exact⟨v,by rw[Array.getElem?_extract,ae (by have:=(nZ.1 q1).1;omega),cV];exact q1,q2⟩
     obtain⟨v,q1,q2⟩:=hu (hs.size+j) x (by rw[bY (by omega),<-hx];congr 1;omega);exact⟨v,by rw[<-q1];congr 1;omega,q2⟩
    obtain⟨p1,m1,n1⟩:=cut xs a1 a2 l1 ha;obtain⟨p2,m2,n2⟩:=cut ys b1 b2 l2 hb;have hf:P.fieldsOf g.type=hs:=by simp[Program.fieldsOf,mH]
    have p3:(Op.equalIn (d+3) g.type (.agg (xs.extract i (i+hs.size))) (.agg (ys.extract i (i+hs.size)))).run P w=.ok r1 w:=by
     rw[run_equalIn_struct w (d+2) g.type _ _ (by rw[hf];exact mH) h6,hf];exact mV (d+1) _ _ hs.toList _ 0 a1 b1 r1 h7 (by rw[gx,l1]) m1 m2 k1
    have rest:=ih (zs.drop hs.size) (i+hs.size) a2 b2 r2 h8 n1 n2 k2;simp only[Op.eqFields,ae mS,aI,p1,p2,p3,br];cases r1 with
    | true=>
     simp only[vy,jW,if_false,oa];exact rest
    | false=>simp
   cases h5
  split at hi
  ·rename_i z zs;simp only[aw]at hi;obtain⟨h1,h4⟩:=hi;cases a with
   | nil=>cases z<;>simp[aX]at he
   | cons x a=>
    obtain⟨u,v,s1,c,r',rfl,rfl,FQ,rfl,p3⟩:=oB h1 he;obtain⟨v',hv,Jg⟩:=ha 0 _ rfl;obtain⟨u',ni,FF⟩:=hb 0 _ rfl;injection Jg with Jg;injection FF with FF;subst Jg FF;have p1:=gN (w:=w) h1 (xs:=xs) (i:=g.offset) (by rw[h2];simpa using hv);have p2:=gN (w:=w) h1 (xs:=ys) (i:=g.offset) (by rw[h2];simpa using ni);have rest:=ih zs (i+1) a s1 r' h4 (fun j x hx=>by obtain⟨v,q1,q2⟩:=ha (j+1) x (by simpa using hx);exact⟨v,by rw[<-q1];congr 1;omega,q2⟩) (fun j x hx=>by obtain⟨v,q1,q2⟩:=hb (j+1) x (by simpa using hx);exact⟨v,by rw[<-q1];congr 1;omega,q2⟩) FQ;simp only[Op.eqFields,ae mS,aI,p1,p2,p3,br];cases c with
    | true=>
     simp only[vy,jW,if_false,oa];exact rest
    | false=>simp
  cases hi
theorem Ct{P:Program}{t:TypeId}{gs:Array Field}{zs:List Value}(u:P.underlying t=some (.struct gs))(J:P.stoodInHeld t=false)(L:sn P 0 gs.toList zs=true){a b:List PV}{r:Bool}(N:aX zs a b=some r)(xs ys:Array Value)(w:World)
  (O:∀(i:Nat) x v,a[i]?=some x->xs[i]?=some v->x=.im v) (hb:∀(i:Nat) x v,b[i]?=some x->ys[i]?=some v->x=.im v) (R:a.length=xs.size) (U:b.length=ys.size):(Op.equal t (.agg xs) (.agg ys)).run P w=.ok r w:=by
 have z:P.fieldsOf t=gs:=by simp[Program.fieldsOf,u]
 have m:∀(l:List PV) (zs:Array Value),l.length=zs.size->(∀(i:Nat) x v,l[i]?=some x->zs[i]?=some v->x=.im v)->∀(j:Nat) x,l[j]?=some x->∃v,zs[0+j]?=some v/\x=.im v:=by
  intro l zs hl V j x D;obtain⟨v,I⟩:=fJ hl (ah D);exact⟨v,by rw[cV];exact I,V j x v D I⟩
 have key:=vM (P:=P) (w:=w) 9996 xs ys gs.toList zs 0 a b r L (m a xs R O) (m b ys U hb) N;show (Op.equalIn (9999+1) t (.agg xs) (.agg ys)).run P w=_;rw[run_equalIn_struct w 9999 t xs ys (by rw[z];exact u) J,z];exact key
theorem xJ{P:Program}{t:TypeId}{gs:Array Field}{zs:List Value}(u:P.underlying t=some (.struct gs))(J:P.stoodInHeld t=false)(L:iK P 0 gs.toList zs=true){a b:List PV}{r:Bool}(N:aX zs a b=some r)(xs ys:Array Value)(w:World)
  (O:∀(i:Nat) x v,a[i]?=some x->xs[i]?=some v->x=.im v) (hb:∀(i:Nat) x v,b[i]?=some x->ys[i]?=some v->x=.im v) (R:a.length=xs.size) (U:b.length=ys.size) (hsz:gs.size=a.length):(Op.equal t (.agg xs) (.agg ys)).run P w=.ok r w:=by
 have z:P.fieldsOf t=gs:=by simp[Program.fieldsOf,u]
 have m:∀(l:List PV) (zs:Array Value),l.length=zs.size->(∀(i:Nat) x v,l[i]?=some x->zs[i]?=some v->x=.im v)->∀(j:Nat) x,l[j]?=some x->∃v,zs[0+j]?=some v/\x=.im v:=by
  intro l zs hl V j x D;obtain⟨v,I⟩:=fJ hl (ah D);exact⟨v,by rw[cV];exact I,V j x v D I⟩
 have key:=mV (P:=P) (w:=w) 9998 xs ys gs.toList zs 0 a b r L (by simp;omega) (m a xs R O) (m b ys U hb) N;show (Op.equalIn (9999+1) t (.agg xs) (.agg ys)).run P w=_;rw[run_equalIn_struct w 9999 t xs ys (by rw[z];exact u) J,z];exact key
theorem Jh{P:Program}(h:l.all (Jf P)=true):∀t m op a b r,mU l t=some m->m.eq=true->(∃fs,m.ud=.st fs)->aX m.zero a b=some r->∀(xs ys:Array Value) w,(∀(i:Nat) x v,a[i]?=some x->xs[i]?=some v->x=.im v)->(∀(i:Nat) x v,b[i]?=some x->ys[i]?=some v->x=.im v)->
  a.length=xs.size->b.length=ys.size->m.size=a.length->(op=.eql\/op=.neq)->∀(x y:Operand),(do eqGuard op t x y (.agg xs) (.agg ys);binOp op t (.agg xs) (.agg ys):Sem Value).run P w=.ok (.bool (if op=.eql then r else !r)) w:=by
 intro t m op a b r L N ⟨fs,O⟩ R xs ys w ha hb U V hsz J x y;have:=cC.1 h _ (mf L);unfold Jf at this;simp only[N,O,aw]at this;obtain⟨⟨z,D⟩,I⟩:=this;have D:P.stoodInHeld t=false:=by simpa using D
 have I:P.eqGuardType P.depth t=false:=by simpa using I
 split at z
 ·rename_i gs W;simp only[aw]at z;obtain⟨Y,_⟩:=z;have u:=Ct W D Y R xs ys w ha hb U V;have Z:(eqGuard op t x y (.agg xs) (.agg ys)).run P w=.ok () w:=by
   rcases J with rfl | rfl<;>simp[eqGuard,I]
  rw[aI,Z,br];rcases J with rfl | rfl
  ·simp[binOp,u]
  simp[binOp,u]
 cases z
def Jj(P:Program)(p:Nat×TI):Bool:=match tb p.2 with
 | some (.st _)=>(match P.underlying p.1 with
  | some (.struct gs)=>iK P 0 gs.toList p.2.zero
  | _=>false)&&!P.stoodInHeld p.1
 | _=>true
theorem Gy:∀{z:List Value} {sh:List Nat} {a b:List Value},u5 z=some sh->gZ sh a->gZ sh b->aX z (a.map .im) (b.map .im)=some (u4 a b):=by
 intro z
 induction z with
 | nil=>
  intro sh a b h m hb;injection h with h;subst h;cases a<;>cases b<;>first
   | rfl
   | exact m.elim
   | exact hb.elim
 | cons c z ih=>
  intro sh a b h m hb;unfold u5 at h;split at h
  ·rename_i u;cases u
  all_goals first
   | (
     rename_i u;injection u with u J;subst u J;obtain⟨s,hs,rfl⟩:=az.1 h;cases a with
     | nil=>exact m.elim
     | cons x a=>cases b with
      | nil=>exact hb.elim
      | cons y b=>
       have D:=m.1;have I:=hb.1;cases x<;>first | (exact D.elim) | skip
       cases y<;>first | (exact I.elim) | skip
       have:=ih hs m.2 hb.2
       first
        | (simp only[aV,aX,this,eM,u4,yw];done)
        | (
         have L:_=IntKind.i64:=D;have N:_=IntKind.i64:=I;subst L N;simp only[aV,aX,this,eM,u4,yw,kB];done))
   | cases h
theorem je:∀{sh:List Nat} {a:List Value},gZ sh a->a.length=sh.length
 | [],[],_=>rfl
 | [],_::_,h=>h.elim
 | _::_,[],h=>h.elim
 | _::_,_::_,h=>by simp[je h.2]
theorem EG:∀{z:List Value} {sh:List Nat},u5 z=some sh->z.length=sh.length:=by
 intro z
 induction z with
 | nil=>intro sh h;injection h with h;subst h;rfl
 | cons c z ih=>
  intro sh h;unfold u5 at h;split at h
  ·rename_i m;cases m
  all_goals first
   | (
     rename_i m;injection m with m u;subst m u;obtain⟨s,hs,rfl⟩:=az.1 h;simp[ih hs];done)
   | cases h
theorem xK{P:Program}{t:TypeId}{z:Value}(h:FE (P.underlying t) z=true)(e:Bool)(n:Nat)(w:World)(v:Value):(Instr.checkKey e (n+1) t v).run P w=.ok () w:=by
 unfold FE at h;split at h
 all_goals first
  | (rename_i m;cases v<;>simp[Instr.checkKey,run_underlying m];done)
  | cases h
theorem vN{P:Program}(e:Bool)(n:Nat)(w:World)(xs:Array Value):∀(gs:List Field) (zs:List Value) (i:Nat),iK P i gs zs=true->(∀j,j<gs.length->∃v,xs[i+j]?=some v)->(forIn gs PUnit.unit fun f _=>(do
   if f.name ≠ "_" then Instr.checkKey e (n + 1) f.type (← part f.type xs f.offset)
   pure (ForInStep.yield PUnit.unit):Sem (ForInStep PUnit))).run P w=.ok PUnit.unit w:=by
 intro gs
 induction gs with
 | nil=>intro zs i _ _;rfl
 | cons g gs ih=>
  intro zs i hi hx;cases zs with
  | nil=>simp[iK]at hi
  | cons z zs=>
   simp only[iK,aw]at hi;obtain⟨⟨⟨h1,h2⟩,h3⟩,h4⟩:=hi;have h2:=bq h2
   have mS : g.name ≠ "_" := by simpa using h3
   obtain⟨v,hv⟩:=hx 0 (by simp);have p1:=gN (w:=w) h1 (xs:=xs) (i:=g.offset) (by rw[h2];simpa using hv);have rest:=ih zs (i+1) h4 fun j hj=>by obtain⟨v,q⟩:=hx (j+1) (by simpa using hj);exact⟨v,by rw[<-q];congr 1;omega⟩
   simp only[List.forIn_cons,ae mS,aI,p1,xK h1,br,ct];exact rest
theorem vO{P:Program}{kt:TypeId}{gs:Array Field}(mH:P.underlying kt=some (.struct gs))(e:Bool)(n:Nat)(w:World)(xs:Array Value):(Instr.checkKey e (n+1) kt (.agg xs)).run P w=((forIn gs.toList PUnit.unit fun f _=>(do
   if f.name ≠ "_" then Instr.checkKey e n f.type (← part f.type xs f.offset)
   pure (ForInStep.yield PUnit.unit):Sem (ForInStep PUnit))).run P w).andThen fun _ w'=>.ok () w':=by
 simp only[Instr.checkKey,aI,run_underlying mH,br,<-Array.forIn_toList];rfl
theorem vP{P:Program}(h:l.all (Jj P)=true):∀D I sh,mU l D=some I->tb I=some (.st sh)->As P D (.st sh):=by
 intro D I sh Z u;have:=cC.1 h _ (mf Z);unfold Jj at this;simp only[u,aw]at this;obtain⟨J,R⟩:=this;have R:P.stoodInHeld D=false:=by simpa using R
 have L:u5 I.zero=some sh:=by
  unfold tb at u;split at u<;>first
   | (cases u;done)
   | skip
  all_goals (split at u)
  all_goals first
   | (cases u;done)
   | (obtain⟨s,hs,e⟩:=az.1 u;injection e with e;subst e;exact hs)
 split at J
 ·rename_i gs U;have hlen:gs.size=sh.length:=by have:=pF J;rw[EG L]at this;simpa using this
  refine⟨fun e k w z=>?_,fun k w N z W=>?_⟩
  ·cases k<;>first | (exact z.elim) | skip
   rename_i xs;have hl:=je (sh:=sh) z;have hl:xs.size=sh.length:=by simpa using hl
   have:=vN e 9998 w xs gs.toList I.zero 0 J fun j hj=>⟨xs[j]'(by simp at hj;omega),by rw[cV];exact bE _⟩;exact (vO U e 9999 w xs).trans (by rw[this];rfl)
  rw[run_findKey_eq w (by rw[U]) k N];show (Instr.findAsking D k N 0).run P w=.ok (mN k N 0) w;generalize 0=i
  induction N generalizing i with
  | nil=>rfl
  | cons m N ih=>
   have V:=W m aW;cases k<;>first | (exact z.elim) | skip
   rename_i xs;obtain⟨mk,mv,mb⟩:=m;cases mk<;>first | (exact V.elim) | skip
   rename_i ys;have P5:xs.size=sh.length:=by simpa using je (sh:=sh) z
   have SA:ys.size=sh.length:=by simpa using je (sh:=sh) V
   have Y:∀(zs:Array Value) (i:Nat) x v,(zs.toList.map PV.im)[i]?=some x->zs[i]?=some v->x=.im v:=fun zs i x v O q2=>by
    rw[ao,gy,q2]at O;injection O with O;exact O.symm
   have:=xJ U R J (Gy (sh:=sh) L z V) xs ys w (Y xs) (Y ys) (by simp) (by simp) (by simp;omega);unfold Instr.findAsking mN;simp only[aI,this,br,yx];cases u4 xs.toList ys.toList with
   | true=>rfl
   | false=>exact ih (fun x hx=>W x (cg _ hx)) _
 cases J
end Go.AM
namespace Go.AM
open Go.RowKit
variable {A:jR}
theorem aY.EH(hC:aL A.C)(s:AS)(d:Nat)(e:TypeId)(u:TI)(J:d<100000)(L:s.t d=.nl)(N:A.C.T e=some u)(hpos:0<u.size):
  aY A s ⟨ax (dH d s).t d (.ow d),ax (dH d s).h d (.row e [])⟩:=by
 intro S rho a w m;have O:a.tmps.getD d undef=.slice none 0 0:=by
  have:=m.tm d trivial;rw[L]at this;generalize a.tmps.getD d undef=v at this;cases this;rfl
 have R:=m.free d (.row e []);obtain⟨info,z,U,h2,h3,h4,h5,h6,h7,h8⟩:=hC.eL e u N;have V:=R.new hC d (.row e []) J (fun h=>h rfl) (ak _ _ _) w rfl rfl rfl (aC _) (fun _=>False) (fun _ _ _=>rfl) (fun _ h=>h.elim) (.slice none 0 0) (fun g W=>by cases W) fun T=>by
  show an _ _ _ _ _ (ax rho d _ d);rw[ak];exact⟨info,[],U,by omega,⟨by simp,.inl ⟨rfl,rfl⟩⟩,by simp,by simp,by simp⟩
 have D:aU A bk bk S (ax rho d (.slice none 0 0)) ⟨(dH d s).t,ax (dH d s).h d (.row e [])⟩ a w:=V.jF (fun _ _=>trivial) (fun k=>⟨fun _=>by by_cases e:k=d;exact .inr e;exact .inl e,fun _=>trivial⟩);refine⟨S,_,{ D with tm:=fun j _=>?_ }⟩;by_cases I:j=d
 ·subst I;show aE _ _ _ _ _ _ (ax _ _ _ _) _;rw[ak];exact .ow j _ fun _=>⟨trivial,by rw[ak];exact O⟩
 show aE _ _ _ _ _ _ (ax _ _ _ _) _;rw[au _ _ I];exact D.tm j trivial
theorem aY.g_(hC:aL A.C)(s:AS)(d:Nat){y:PV}{fz:List (Nat×AB)}(h:AM.g_ s.h (s.t d) fun u z=>u=y/\z=fz):aY A s ⟨ax s.t d (.p y),app s.h fz⟩:=by
 intro S rho a w m;obtain⟨u,z,S',⟨rfl,rfl⟩,D,hp,hS,hF,_⟩:=e8 hC m (h:=s.h) (fun _=>.inl rfl) (m.tm d trivial) h;refine⟨S',rho,{ D with tm:=fun j _=>?_ }⟩;by_cases I:j=d
 ·subst I;show aE _ _ _ _ _ _ (ax _ _ _ _) _;rw[ak];exact .p _ _ hp
 show aE _ _ _ _ _ _ (ax _ _ _ _) _;rw[au _ _ I];exact D.tm j trivial
theorem aY.nil(hC:aL A.C)(s:AS)(d:Nat)(h:s.t d=.nl):aY A s ⟨ax s.t d (.p (.sl [])),s.h⟩:=aY.g_ hC s d (y:=.sl []) (fz:=[]) (by rw[h];exact⟨rfl,rfl⟩)
theorem aY.own(hC:aL A.C)(s:AS)(d:Nat){id:Nat}{e:TypeId}{es:List (List PV)}(h:s.t d=.ow id)(m:s.h id=.row e es):aY A s ⟨ax s.t d (.p (.sl es)),ax s.h id (.f_ es)⟩:=aY.g_ hC s d (y:=.sl es) (fz:=[(id,.f_ es)]) (by rw[h];simp only[AM.g_,AM.iC];rw[m];exact⟨rfl,rfl⟩)
theorem aY.ez(s:AS)(i d:Nat)(hid:i≠d)(u:d<100000):aY A s (iT i d s):=fun S _ _ _ m=>⟨S,_,m.rename i d hid u⟩
theorem aY.rf(hC:aL A.C)(s:AS)(id j d:Nat)(e:TypeId)(I:TI)(cs:List AV)(Y:d<100000)(hid:id≠d)(hb:s.h id=.box cs)(Z:cs[j]?=some .nl)(hT:A.C.T e=some I)(hpos:0<I.size):
  aY A s ⟨(dH d s).t,ax (ax (dH d s).h d (.row e [])) id (.box ((cs.map (sc d)).set j (.ow d)))⟩:=by
 intro S rho a w J;have gQ:=J.free d (.row e []);obtain⟨info,z,h1,h2,h3,h4,h5,h6,h7,h8⟩:=hC.eL e I hT;have aJ:=gQ.new hC d (.row e []) Y (fun h=>h rfl) (ak _ _ _) w rfl rfl rfl (aC _) (fun _=>False) (fun _ _ _=>rfl) (fun _ h=>h.elim) (.slice none 0 0) (fun g hg=>by cases hg) fun T=>by
  show an _ _ _ _ _ (ax rho d _ d);rw[ak];exact⟨info,[],h1,by omega,⟨by simp,.inl ⟨rfl,rfl⟩⟩,by simp,by simp,by simp⟩
 have O:aU A bk bk S (ax rho d (.slice none 0 0)) ⟨(dH d s).t,ax (dH d s).h d (.row e [])⟩ a w:=aJ.jF (fun _ _=>trivial) (fun k=>⟨fun _=>by by_cases e:k=d;exact .inr e;exact .inl e,fun _=>trivial⟩);have aA:(ax (dH d s).h d (.row e [])) id=.box (cs.map (sc d)):=by
  rw[au _ _ hid];show ax (fun k=>qX d (s.h k)) d .none id=_;rw[au _ _ hid,hb];rfl
 refine⟨S,_,O.write hC id trivial (by show ((ax (dH d s).h d (.row e [])) id).live;rw[aA];trivial) _ (fun _ h=>by cases h) w rfl rfl rfl rfl (fun _ _=>rfl) fun T=>?_⟩;have D:=O.hp id trivial;have D:cd S w A.C.P bk (ax rho d (.slice none 0 0)) (ax (dH d s).h d (.row e [])) id ((ax (dH d s).h d (.row e [])) id):=D;rw[aA]at D;obtain⟨g,ty,c,k1,k2,k3,R⟩:=D;refine⟨g,ty,c,k1,k2,by rw[k3,aF],fun i x u m U=>?_⟩;by_cases V:i=j
 ·subst V;have W:(cs.map (sc d))[i]?=some .nl:=by rw[ao,Z];rfl
  rw[aP (ah W)]at m;injection m with m;subst m;obtain⟨L,N⟩:=R i _ u W U;refine⟨L,.ow d u fun _=>⟨trivial,?_⟩⟩;rw[ak];cases N;rfl
 rw[bw (fun e=>V e.symm)]at m;obtain⟨L,N⟩:=R i x u m U;exact⟨L,N.bA T⟩
theorem aY.Gz(hC:aL A.C)(s:AS)(id j i:Nat)(e:TypeId)(es:List (List PV))(cs:List AV)(hid:id≠i)(hb:s.h id=.box cs)(O:cs[j]?=some (.ow i))(W:s.h i=.row e es):
  aY A s ⟨s.t,ax (ax s.h i (.f_ es)) id (.box (cs.set j (.p (.sl es))))⟩:=by
 intro S rho a w I;have J:=I.tJ hC i trivial W;have aA:(ax s.h i (.f_ es)) id=.box cs:=by rw[au _ _ hid];exact hb
 refine⟨_,_,J.write hC id trivial (by show ((ax s.h i (.f_ es)) id).live;rw[aA];trivial) _ (fun _ h=>by cases h) w rfl rfl rfl rfl (fun _ _=>rfl) fun T=>?_⟩;have z:=J.hp id trivial;have z:cd _ w A.C.P bk rho (ax s.h i (.f_ es)) id ((ax s.h i (.f_ es)) id):=z;rw[aA]at z;have D:=J.hp i trivial;have D:cd _ w A.C.P bk rho (ax s.h i (.f_ es)) i ((ax s.h i (.f_ es)) i):=D;rw[ak]at D;obtain⟨g,Y,c,Z,k2,k3,R⟩:=z;refine⟨g,Y,c,Z,k2,by rw[k3,aF],fun q x u m U=>?_⟩;by_cases V:q=j
 ·subst V;rw[aP (ah O)]at m;injection m with m;subst m;obtain⟨L,N⟩:=R q _ u O U;refine⟨L,.p _ _ ?_⟩;rw[(N.bu (by rw[ak];trivial)).2];exact D
 rw[bw (fun e=>V e.symm)]at m;obtain⟨L,N⟩:=R q x u m U;exact⟨L,N.bA T⟩
end Go.AM
namespace Go.AM
open Go.RowKit
def kH:List Nat->List (Nat×AB)
 | []=>[]
 | n::r=>(n,.none)::kH r
theorem uk{h:Nat->AB}:∀{l:List Nat} (k:Nat),app h (kH l) k=if k∈l then .none else h k
 | [],k=>by simp[kH,app]
 | n::l,k=>by
  show app (ax h n .none) (kH l) k=_;rw[uk (l:=l) k];by_cases m:k∈l
  ·simp[m]
  by_cases u:k=n
  ·subst u;simp[m,ak]
  simp[m,u,au]
variable {A:jR}
theorem aY.pack(hC:aL A.C)(s:AS)(id:Nat){z:List AV}{cs:List HC}(hb:s.h id=.box z)(W:cN (aS z)=true)(hp:qg s.h z cs):aY A s ⟨s.t,ax (app s.h (kH (aS z))) id (.aA cs)⟩:=by
 intro S rho a w u;obtain⟨g,Y,c,Z,k2,k3⟩:=r8 u (id:=id) trivial hb W hp;have aN:(s.h id).live:=by rw[hb];trivial
 have J:∀j,(j=id/\ax (app s.h (kH (aS z))) id (.aA cs) j=.aA cs)\/(j≠id/\j∈aS z/\ax (app s.h (kH (aS z))) id (.aA cs) j=.none)\/(j≠id/\¬j∈aS z/\ax (app s.h (kH (aS z))) id (.aA cs) j=s.h j):=fun j=>by
  by_cases e:j=id
  ·subst e;exact .inl ⟨rfl,ak _ _ _⟩
  rw[au _ _ e,uk];by_cases h:j∈aS z
  ·exact .inr (.inl ⟨e,h,ae h⟩)
  exact .inr (.inr ⟨e,h,af h⟩)
 have T:fu S S w w bk bk rho rho s.h (ax (app s.h (kH (aS z))) id (.aA cs)):=⟨fun _ h=>h,fun _ _=>rfl,fun j D=>⟨by
   rcases J j with⟨rfl,_⟩ | ⟨_,_,h⟩ | ⟨_,_,h⟩
   ·rw[hb];trivial
   ·rw[h]at D;exact D.elim
   ·rw[h]at D;exact D,fun _=>⟨trivial,rfl⟩⟩,fun j e D=>by
   rcases J j with⟨_,h⟩ | ⟨_,_,h⟩ | ⟨_,_,h⟩
   ·rw[h]at D;cases D
   ·rw[h]at D;cases D
   rw[h]at D;exact D⟩
 have I:∀j g,(ax (app s.h (kH (aS z))) id (.aA cs) j).live->hasB w (ax (app s.h (kH (aS z))) id (.aA cs) j) (rho j) g->∃k,(s.h k).live/\hasB w (s.h k) (rho k) g/\((j=id/\(k=id\/k∈aS z))\/(j=k/\j≠id/\¬j∈aS z)):=fun j g hl L=>by
  rcases J j with⟨rfl,h⟩ | ⟨_,_,h⟩ | ⟨N,h2,h⟩
  ·rw[h]at L;rcases k3 g L with h | ⟨n,N,_,h3,h4⟩
   ·exact⟨j,aN,.inl h,.inl ⟨rfl,.inl rfl⟩⟩
   exact⟨n,h3,.inl h4,.inl ⟨rfl,.inr N⟩⟩
  ·rw[h]at hl;exact hl.elim
  rw[h]at hl L;exact⟨j,hl,L,.inr ⟨rfl,N,h2⟩⟩
 exact⟨S,rho,
 {tm:=fun j D=>(u.tm j D).bA T
  sz:=u.sz,df:=u.df,nb:=u.nb,pn:=u.pn,ev:=u.ev,s0:=u.s0,st:=u.st,sb:=u.sb
  hp:=fun j _=>by
   show cd _ _ _ _ _ _ _ (ax (app s.h (kH (aS z))) id (.aA cs) j);rcases J j with⟨rfl,h⟩ | ⟨_,_,h⟩ | ⟨_,_,h⟩
   ·rw[h];exact⟨g,Y,c,Z,k2⟩
   ·rw[h];trivial
   rw[h];exact (u.hp j trivial).bA T (fun _ _ _=>rfl) (fun _=>rfl)
  dj:=fun i j g _ _ O lj R D=>by
   obtain⟨k,U,V,c1⟩:=I i g O R;obtain⟨m,l2,o2,c2⟩:=I j g lj D;have:=u.dj k m g trivial trivial U l2 V o2;subst this;rcases c1 with⟨rfl,c1⟩ | ⟨rfl,c1,c3⟩<;>rcases c2 with⟨rfl,c2⟩ | ⟨rfl,c2,c4⟩
   ·rfl
   ·rcases c1 with c1 | c1
    ·exact (c2 c1).elim
    exact (c4 c1).elim
   ·rcases c2 with c2 | c2
    ·exact (c1 c2).elim
    exact (c3 c2).elim
   rfl
  lv:=fun i g _ O R=>by
   obtain⟨k,U,V,_⟩:=I i g O R;exact u.lv k g trivial U V
  fr:=u.fr }⟩
def mh:List HC->List Nat->List AV
 | [],_=>[]
 | .p x::r,ns=>.p x::mh r ns
 | .row _ _::r,n::ns=>.ow n::mh r ns
 | .row _ _::r,[]=>.junk::mh r []
def tz:List HC->List Nat->List (Nat×AB)
 | [],_=>[]
 | .p _::r,ns=>tz r ns
 | .row e es::r,n::ns=>(n,.row e es)::tz r ns
 | .row _ _::_,[]=>[]
def rowsOf:List HC->Nat
 | []=>0
 | .p _::r=>rowsOf r
 | .row _ _::r=>rowsOf r+1
def gF:List (Nat×AB)->AS->AS
 | [],s=>s
 | (d,b)::r,s=>gF r ⟨(dH d s).t,ax (dH d s).h d b⟩
theorem pG:∀{cs:List HC} {ns:List Nat},rowsOf cs=ns.length->(tz cs ns).map (·.1)=ns
 | [],ns,h=>by cases ns with | nil=>rfl | cons n ns=>simp[rowsOf]at h
 | .p x::cs,ns,h=>by show (tz cs ns).map _=_;exact pG h
 | .row e es::cs,[],h=>by simp[rowsOf]at h
 | .row e es::cs,n::ns,h=>by
  simp only[rowsOf,cD,aK]at h;simp[tz,pG h]
theorem A0:∀{cs:List HC} {ns:List Nat} {n:Nat} {b:AB},(n,b)∈tz cs ns->∃(j:Nat) (e:TypeId) (es:List (List PV)),cs[j]?=some (.row e es)/\b=.row e es/\(mh cs ns)[j]?=some (.ow n)
 | [],ns,n,b,h=>by cases h
 | .p x::cs,ns,n,b,h=>by
  obtain⟨j,e,es,u,z,D⟩:=A0 (cs:=cs) (ns:=ns) h;exact⟨j+1,e,es,u,z,D⟩
 | .row e es::cs,[],n,b,h=>by cases h
 | .row e es::cs,m::ns,n,b,h=>by
  rcases fK.1 h with h | h
  ·injection h with u z;subst u z;exact⟨0,e,es,rfl,rfl,rfl⟩
  obtain⟨j,e,es,u,z,D⟩:=A0 (cs:=cs) (ns:=ns) h;exact⟨j+1,e,es,u,z,D⟩
theorem vQ:∀{cs:List HC} {ns:List Nat} {j:Nat} {x:AV},rowsOf cs=ns.length->(mh cs ns)[j]?=some x->(∃z,cs[j]?=some (.p z)/\x=.p z)\/∃n e es,cs[j]?=some (.row e es)/\x=.ow n/\(n,.row e es)∈tz cs ns
 | [],ns,j,x,_,h=>by simp[mh]at h
 | .p y::cs,ns,0,x,_,h=>by simp[mh]at h;exact .inl ⟨y,rfl,h.symm⟩
 | .p y::cs,ns,j+1,x,hl,h=>by
  have:=vQ (cs:=cs) (ns:=ns) (j:=j) hl (by simpa [mh] using h);exact this
 | .row e es::cs,[],j,x,hl,_=>by simp[rowsOf]at hl
 | .row e es::cs,n::ns,0,x,_,h=>by simp[mh]at h;exact .inr ⟨n,e,es,rfl,h.symm,by simp[tz]⟩
 | .row e es::cs,n::ns,j+1,x,hl,h=>by
  simp only[rowsOf,cD,aK]at hl;rcases vQ (cs:=cs) (ns:=ns) (j:=j) hl (by simpa [mh] using h) with h | ⟨m,e',u,D,I,J⟩
  ·exact .inl h
  exact .inr ⟨m,e',u,D,I,by simp[tz,J]⟩
theorem rh:∀{cs:List HC} {ns:List Nat},(mh cs ns).length=cs.length
 | [],_=>rfl
 | .p x::cs,ns=>by simp[mh,rh (cs:=cs)]
 | .row e es::cs,[]=>by simp[mh,rh (cs:=cs)]
 | .row e es::cs,n::ns=>by simp[mh,rh (cs:=cs)]
theorem qn{S:Nat->Prop}{rho:Nat->Value}{a:Act}{w:World}:∀(l:List (Nat×AB)) (L:Nat->Prop) (s:AS),aU A bk L S rho s a w->aU A bk (fun k=>L k/\∀p∈l,p.1≠k) S rho (gF l s) a w
 | [],L,s,sim=>sim.jF (fun _ h=>h) (fun i=>⟨fun h=>h.1,fun h=>⟨h,by simp⟩⟩)
 | (d,b)::l,L,s,sim=>(qn l _ _ (sim.HM d b)).jF (fun _ h=>h) (fun i=>⟨fun ⟨u,m⟩=>⟨⟨u,fun e=>m (d,b) (by simp) e.symm⟩,fun p hp=>m p (by simp[hp])⟩,fun ⟨⟨u,m⟩,h3⟩=>⟨u,fun p hp=>by
   rcases fK.1 hp with h | h
   ·subst h;exact fun e=>m e.symm
   exact h3 p h⟩⟩)
theorem lC:∀(l:List (Nat×AB)) (s:AS) (k:Nat),(∀p∈l,p.1≠k)->(∀d,qX d (s.h k)=s.h k)->(gF l s).h k=s.h k
 | [],s,k,_,_=>rfl
 | (d,b)::l,s,k,h,hs=>by
  have m:k≠d:=fun e=>h (d,b) (by simp) e.symm;have u:ax (dH d s).h d b k=s.h k:=by
   rw[au _ _ m];show ax (fun k=>qX d (s.h k)) d .none k=_;rw[au _ _ m];exact hs d
  show (gF l ⟨(dH d s).t,ax (dH d s).h d b⟩).h k=_;rw[lC l _ k (fun p hp=>h p (by simp[hp])) (fun z=>by show qX z (ax (dH d s).h d b k)=ax (dH d s).h d b k;rw[u];exact hs z)];exact u
theorem so:∀(l:List (Nat×AB)) (s:AS) (k:Nat) (b:AB),(l.map (·.1)).Nodup->(∀d,qX d b=b)->(k,b)∈l->(gF l s).h k=b
 | [],s,k,b,_,_,h=>by cases h
 | (d,b')::l,s,k,b,hn,hb,h=>by
  simp only[aV,ca]at hn;show (gF l ⟨(dH d s).t,ax (dH d s).h d b'⟩).h k=_;rcases fK.1 h with h | h
  ·injection h with h1 h2;subst h1 h2;rw[lC l _ k (fun p hp e=>hn.1 (aR.2 ⟨p,hp,e⟩)) (fun m=>by show qX m (ax (dH k s).h k b k)=ax (dH k s).h k b k;rw[ak];exact hb m)];exact ak _ _ _
  exact so l _ k b hn.2 hb h
theorem kI:∀{l:List Nat},cN l=true->l.Nodup
 | [],_=>by simp
 | n::l,h=>by
  simp[cN]at h;refine ca.2 ⟨fun m=>?_,kI h.2.2⟩;rw[iH.2 m]at h;cases h.1
theorem aY.open(hC:aL A.C)(s:AS)(id:Nat)(ns:List Nat){cs:List HC}(hb:s.h id=.aA cs)(hl:rowsOf cs=ns.length)(hg:cN ns=true)(hid:xx id ns=false):
  aY A s ⟨(gF (tz cs ns) s).t,ax (gF (tz cs ns) s).h id (.box (mh cs ns))⟩:=by
 intro S rho a w kP;have P6:=pG hl;have Fz:((tz cs ns).map (·.1)).Nodup:=by rw[P6];exact kI hg
 have iR:∀n,n∈ns↔∃b,(n,b)∈tz cs ns:=fun n=>by rw[show (n∈ns)=(n∈(tz cs ns).map (·.1)) by rw[P6]];simp
 have V:¬id∈ns:=fun h=>by rw[iH.2 h]at hid;cases hid
 have D:=qn (tz cs ns) bk s kP;have D:aU A bk (fun k=>¬k∈ns) S rho (gF (tz cs ns) s) a w:=D.jF (fun _ h=>h) (fun i=>⟨fun h=>⟨trivial,fun p hp e=>h (by rw[iR,<-e];exact⟨p.2,hp⟩)⟩,fun ⟨_,h⟩ N=>by obtain⟨b,dM⟩:=(iR i).1 N;exact h _ dM rfl⟩);obtain⟨s1,AA⟩:∃s1,s1=gF (tz cs ns) s:=⟨_,rfl⟩;have sq:s1.h id=.aA cs:=by
  rw[AA,lC _ _ id (fun p hp e=>V (by rw[iR,<-e];exact⟨p.2,hp⟩)) (fun d=>by rw[hb];rfl),hb]
 have LZ:∀n b,(n,b)∈tz cs ns->s1.h n=b:=fun n b N=>by
  obtain⟨j,e,es,_,rfl,_⟩:=A0 N;rw[AA];exact so _ _ n _ Fz (fun d=>rfl) N
 rw[<-AA]at D ⊢;have hh:=D.hp id V;rw[sq]at hh;obtain⟨g,ty,c,k1,O⟩:=hh;have Ch:bH (rho id)=some g:=by rw[k1];rfl
 have aN:(s1.h id).live:=by rw[sq];trivial
 have W:∀n,n∈ns->∃(j:Nat) (e:TypeId) (es:List (List PV)) (u:Value),cs[j]?=some (.row e es)/\(mh cs ns)[j]?=some (.ow n)/\c[j]?=some u/\s1.h n=.row e es/\(n,AB.row e es)∈tz cs ns:=fun n N=>by
  obtain⟨b,dM⟩:=(iR n).1 N;obtain⟨j,e,es,L,rfl,Y⟩:=A0 dM;obtain⟨u,U⟩:=fJ O.sz.symm (ah L);exact⟨j,e,es,u,L,Y,U,LZ n _ dM,dM⟩
 obtain⟨F,hF⟩:∃F:Nat->Value,∀n,n∈ns->∃(j:Nat) (e:TypeId) (es:List (List PV)),cs[j]?=some (.row e es)/\(mh cs ns)[j]?=some (.ow n)/\c[j]?=some (F n)/\s1.h n=.row e es/\(n,AB.row e es)∈tz cs ns:=by
  have ex:∀n,∃u:Value,n∈ns->∃(j:Nat) (e:TypeId) (es:List (List PV)),cs[j]?=some (.row e es)/\(mh cs ns)[j]?=some (.ow n)/\c[j]?=some u/\s1.h n=.row e es/\(n,AB.row e es)∈tz cs ns:=fun n=>by
   by_cases N:n∈ns
   ·obtain⟨j,e,es,u,h⟩:=W n N;exact⟨u,fun _=>⟨j,e,es,h⟩⟩
   exact⟨undef,fun h=>(N h).elim⟩
  exact⟨fun n=>(ex n).choose,fun n=>(ex n).choose_spec⟩
 have GA:∀{cs:List HC} {ns:List Nat} {i j n:Nat},rowsOf cs=ns.length->cN ns=true->(mh cs ns)[i]?=some (.ow n)->(mh cs ns)[j]?=some (.ow n)->i=j:=by
  intro cs ns i j n hl hg L h2;have xM:∀{cs:List HC} {ns:List Nat},rowsOf cs=ns.length->aS (mh cs ns)=ns:=by
   intro cs
   induction cs with
   | nil=>intro ns h;cases ns with | nil=>rfl | cons n ns=>simp[rowsOf]at h
   | cons x cs ih=>
    intro ns h;cases x with
    | p x=>exact ih h
    | row e es=>
     cases ns with
     | nil=>simp[rowsOf]at h
     | cons n ns=>
      simp only[rowsOf,cD,aK]at h;show n::aS (mh cs ns)=_;rw[ih h]
  exact kd (by rw[xM hl];exact hg) L h2
 obtain⟨rho',H5⟩:∃rho':Nat->Value,rho'=fun k=>if k∈ns then F k else rho k:=⟨_,rfl⟩;have Kw:∀k,k∈ns->rho' k=F k:=fun k hk=>by rw[H5];exact ae hk
 have Z:∀k,¬k∈ns->rho' k=rho k:=fun k hk=>by rw[H5];exact af hk
 have Kx:∀k,(k=id/\ax s1.h id (.box (mh cs ns)) k=.box (mh cs ns))\/(k≠id/\ax s1.h id (.box (mh cs ns)) k=s1.h k):=fun k=>by
  by_cases e:k=id
  ·subst e;exact .inl ⟨rfl,ak _ _ _⟩
  exact .inr ⟨e,au _ _ e⟩
 have T:fu S S w w (fun k=>¬k∈ns) bk rho rho' s1.h (ax s1.h id (.box (mh cs ns))):=⟨fun _ h=>h,fun _ _=>rfl,fun j m=>⟨by
   rcases Kx j with⟨rfl,h⟩ | ⟨_,h⟩
   ·rw[sq];trivial
   ·rw[h]at m;exact m,fun hn=>⟨trivial,Z j hn⟩⟩,fun j e m=>by
   rcases Kx j with⟨_,h⟩ | ⟨_,h⟩
   ·rw[h]at m;cases m
   rw[h]at m;exact m⟩
 have J:∀j k,(ax s1.h id (.box (mh cs ns)) j).live->hasB w (ax s1.h id (.box (mh cs ns)) j) (rho' j) k->∃o,¬o∈ns/\(s1.h o).live/\hasB w (s1.h o) (rho o) k/\(if j∈ns then o=id else o=j):=fun j k hl ho=>by
  by_cases m:j∈ns
  ·obtain⟨i,e,es,L,h2,Y,h4,h5⟩:=hF j m;have RF:j≠id:=fun e=>V (e▸m);rw[au _ _ RF,h4,Kw j m]at ho;refine⟨id,V,aN,?_,by rw[ae m]⟩;rw[sq];exact .inr <| .inl ⟨cs,g,rfl,Ch,c,ty,_,i,_,F j,O.hp,L,trivial,Y,al rfl ho⟩
  rw[Z j m]at ho;rcases Kx j with⟨rfl,h⟩ | ⟨_,h⟩
  ·rw[h]at ho;exact⟨j,m,aN,.inl (al rfl ho),by rw[af m]⟩
  rw[h]at hl ho;exact⟨j,m,hl,ho,by rw[af m]⟩
 exact⟨S,rho',
 {tm:=fun j m=>(D.tm j m).bA T
  sz:=D.sz,df:=D.df,nb:=D.nb
  pn:=fun k hk=>by rw[Z k fun h=>by have:=ke hg h;omega];exact D.pn k hk
  ev:=D.ev,s0:=D.s0,st:=D.st,sb:=D.sb
  hp:=fun j _=>by
   show cd _ _ _ _ _ _ _ (ax s1.h id (.box (mh cs ns)) j);rcases Kx j with⟨rfl,h⟩ | ⟨bO,h⟩
   ·rw[h];refine⟨g,ty,c,by rw[Z j V];exact k1,O.hp,by rw[rh];exact O.sz,fun i x u I U=>?_⟩;rcases vQ hl I with⟨z,L,rfl⟩ | ⟨n,e,es,L,rfl,Y⟩
    ·exact⟨(O.cell i _ u L U).1,.p _ _ (O.cell i _ u L U).2⟩
    refine⟨(O.cell i _ u L U).1,.ow n u fun _=>⟨trivial,?_⟩⟩;have N:n∈ns:=(iR n).2 ⟨_,Y⟩;obtain⟨i',e',bW,q1,q2,q3,q4,q5⟩:=hF n N;have:=GA hl hg q2 I;subst this;rw[Kw n N];rw[q3]at U;injection U with U;exact U.symm
   rw[h];by_cases m:j∈ns
   ·obtain⟨i,e,es,L,h2,Y,h4,h5⟩:=hF j m;rw[h4];show an _ _ _ _ _ (rho' j);rw[Kw j m];exact (O.cell i _ _ L Y).2
   exact (D.hp j m).bA T (fun _ _ _=>rfl) (fun _=>Z j m)
  dj:=fun i j k _ _ li lj I m=>by
   obtain⟨o,o1,o2,o3,o4⟩:=J i k li I;obtain⟨p,p1,p2,p3,p4⟩:=J j k lj m;have:=D.dj o p k o1 p1 o2 p2 o3 p3;subst this;by_cases ei:i∈ns
   ·rw[ae ei]at o4;subst o4;have I:hasB w (ax s1.h o (.box (mh cs ns)) i) (rho' i) k:=I;obtain⟨i1,e1,M0,q1,q2,q3,q4,q5⟩:=hF i ei;have Jk:bH (F i)=some k:=by
     rw[au _ _ (fun e=>V (by rw[<-e];exact ei)),q4,Kw i ei]at I;exact al rfl I
    by_cases R:j∈ns
    ·have m:hasB w (ax s1.h o (.box (mh cs ns)) j) (rho' j) k:=m;obtain⟨j1,e2,jo,r1,r2,r3,r4,r5⟩:=hF j R;have OP:bH (F j)=some k:=by
      rw[au _ _ (fun e=>V (by rw[<-e];exact R)),r4,Kw j R]at m;exact al rfl m
     have:=O.dis i1 j1 _ _ _ _ k q1 r1 q3 r3 trivial trivial Jk OP;subst this;rw[q2]at r2;injection r2 with r2;injection r2
    rw[af R]at p4;subst p4;exfalso;have m:hasB w (ax s1.h o (.box (mh cs ns)) o) (rho' o) k:=m;rw[ak,Z o R]at m;have m:=al rfl m;rw[Ch]at m;injection m with m;exact O.top i1 _ _ k q1 q3 trivial Jk m.symm
   rw[af ei]at o4;by_cases R:j∈ns
   ·rw[ae R]at p4;subst o4;subst p4;exfalso;have I:hasB w (ax s1.h o (.box (mh cs ns)) o) (rho' o) k:=I;have m:hasB w (ax s1.h o (.box (mh cs ns)) j) (rho' j) k:=m;obtain⟨j1,e2,jo,r1,r2,r3,r4,r5⟩:=hF j R;have OP:bH (F j)=some k:=by
     rw[au _ _ (fun e=>V (by rw[<-e];exact R)),r4,Kw j R]at m;exact al rfl m
    rw[ak,Z o ei]at I;have I:=al rfl I;rw[Ch]at I;injection I with I;exact O.top j1 _ _ k r1 r3 trivial OP I.symm
   rw[af R]at p4;exact o4.symm.trans p4
  lv:=fun i k _ li I=>by
   obtain⟨o,o1,o2,o3,_⟩:=J i k li I;exact D.lv o k o1 o2 o3
  fr:=D.fr }⟩
end Go.AM
namespace Go.AM
open Go.RowKit
def cellAt(w:World)(g p:Nat)(u:Value):Prop:=∃(c:Array Value) (ty:TypeId) (m:Nat×Nat),w.heap[g]?=some (.cells c ty m)/\c[p]?=some u
theorem jf{w:World}{g p:Nat}{u v:Value}(h:cellAt w g p u)(k:cellAt w g p v):u=v:=by
 obtain⟨c,ty,m,I,J⟩:=h;obtain⟨c',KX,m',z,D⟩:=k;rw[I]at z;injection z with z;injection z with z;subst z;rw[J]at D;injection D
theorem cS{w:World}{es:List (List HX)}{g a j:Nat}{u:Value}:bI w es g a j u↔∃r e xs,es[a]?=some r/\r[j]?=some (.row e xs)/\cellAt w g (a*r.length+j) u:=
 ⟨fun ⟨r,e,xs,c,z,m,D,I,J,L⟩=>⟨r,e,xs,D,I,c,z,m,J,L⟩,fun ⟨r,e,xs,D,I,c,z,m,J,L⟩=>⟨r,e,xs,c,z,m,D,I,J,L⟩⟩
variable {α:Type} {e:TypeId}
theorem an.re{β:Type}{P:Program}{w:World}{R:α->Value->Prop}{U:β->Value->Prop}{es:List (List α)}{I:List (List β)}{v:Value}(h:an P w R e es v)(hl:I.length=es.length)
  (V:∀(a:Nat) r m,es[a]?=some r->I[a]?=some m->m.length=r.length)
  (hc:∀(a:Nat) r m (j:Nat) x L u,es[a]?=some r->I[a]?=some m->r[j]?=some x->m[j]?=some L->(∀g,bH v=some g->cellAt w g (a*r.length+j) u)->R x u->U L u):an P w U e I v:=by
 obtain⟨i,xs,h1,h2,W,Y,h5,h6⟩:=h;have old:∀{a:Nat} {m:List β},I[a]?=some m->∃r,es[a]?=some r:=fun {a m} z=>⟨_,aM (by rw[<-hl];exact ah z)⟩;refine⟨i,xs,h1,h2,by rw[hl];exact W,fun m jb=>?_,h5,fun a m j L z Z=>?_⟩
 ·obtain⟨a,z⟩:=cf.1 jb;obtain⟨r,D⟩:=old z;rw[V a r m D z];exact Y r (aj D)
 obtain⟨r,D⟩:=old z;have hlen:=V a r m D z;obtain⟨x,hx⟩:∃x,r[j]?=some x:=⟨_,aM (by rw[<-hlen];exact ah Z)⟩;obtain⟨u,J,nF⟩:=h6 a r j x D hx;refine⟨u,J,hc a r m j x L u D z hx Z (fun g N=>?_) nF⟩;have nP:=Y r (aj D);rcases W.2 with⟨hn,_⟩ | ⟨g',cap,O,hv,_,wI,k1,k2,k3,k4⟩
 ·rw[hn]at N;cases N
 rw[hv]at N;obtain rfl:=ed.1 N;refine⟨O,_,_,wI,?_⟩;rw[nP];rw[<-k4,cB]at J;split at J
 ·simpa using J
 cases J
variable {A:jR}
theorem aY.OQ(hC:aL A.C)(s:AS)(id:Nat){es:List (List PV)}(hb:s.h id=.row e es):aY A s ⟨s.t,ax s.h id (.ai e (es.map o8))⟩:=by
 intro S rho a w I;have N:∀g k j u,¬bI w (es.map o8) g k j u:=fun g k j u h=>by
  obtain⟨r,e',kS,D,m,_⟩:=cS.1 h;rw[ao]at D;obtain⟨q,_,rfl⟩:=az.1 D;rw[o8,ao]at m;obtain⟨z,_,O⟩:=az.1 m;cases O
 have J:=I.hp id trivial;rw[hb]at J;have J:an A.C.P w (ay S w) e es (rho id):=J;refine⟨S,rho,I.vf hC id trivial (by rw[hb];trivial) _ (fun e' h=>by rw[hb];exact h) w rfl rfl rfl rfl (fun _ _=>rfl) (fun T=>?_) (fun g h=>?_)⟩
 ·refine⟨J.re (by simp) (fun k r R D m=>?_) (fun k r R j x x2 u D m U L _ V=>?_),⟨fun g k j u b _ h=>absurd h (N _ _ _ _),fun g k j k' j' u u' b _ h=>absurd h (N _ _ _ _)⟩⟩
  ·rw[ao,D]at m;injection m with m;rw[<-m,o8,aB]
  rw[ao,D]at m;injection m with m;rw[<-m,o8,ao,U]at L;injection L with L;rw[<-L];exact va V
 rw[bN]at h;rcases h with h | ⟨g',k,j,u,_,h,_⟩
 ·exact .inl h
 exact absurd h (N _ _ _ _)
def GB:HX->Prop
 | .av (.p _)=>True
 | .av .nl=>True
 | .row _ _=>True
 | _=>False
def ri(es:List (List HX)):Prop:=∀r∈es,∀x∈r,GB x
theorem Cu{es:List (List HX)}(h:ri es)(d:Nat):(es.map fun r=>r.map (HX.eS (sc d)))=es:=by
 conv=>rhs;rw[<-List.map_id es]
 refine ou fun r m=>?_;show r.map _=r
 conv=>rhs;rw[<-List.map_id r]
 refine ou fun x u=>?_;have:=h r m x u;cases x with
 | row e es=>rfl
 | av y=>cases y<;>first | rfl | exact this.elim
theorem fw{l:List α}{i a:Nat}{x y:α}(h:(l.set i x)[a]?=some y):(a=i/\y=x/\i<l.length)\/(a≠i/\l[a]?=some y):=by
 by_cases e:a=i
 ·subst e;have hl:=ah h;rw[aF]at hl;rw[aP hl]at h;injection h with h;exact .inl ⟨rfl,h.symm,hl⟩
 rw[bw (fun e'=>e e'.symm)]at h;exact .inr ⟨e,h⟩
variable {e':TypeId}
theorem aY.mi(hC:aL A.C)(s:AS)(id i j d:Nat){es:List (List HX)}{r:List HX}{xs:List (List PV)}(hd:d<100000)(hid:id≠d)(hb:s.h id=.ai e es)(hs:ri es)(hr:es[i]?=some r)(hj:r[j]?=some (.row e' xs)):
  aY A s ⟨(dH d s).t,ax (ax (dH d s).h d (.row e' xs)) id (.ai e (es.set i (r.set j (.av (.ow d)))))⟩:=by
 intro S rho a w kP;have z:=kP.free d (.row e' xs);obtain⟨I,OR⟩:∃I,I=ax (dH d s).h d (.row e' xs):=⟨_,rfl⟩;have sq:I id=.ai e es:=by
  rw[OR,au _ _ hid];show ax (fun k=>qX d (s.h k)) d .none id=_;rw[au _ _ hid,hb];show AB.ai e _=_;rw[Cu hs]
 have P7:I d=.row e' xs:=by rw[OR,ak]
 rw[<-OR]at z ⊢;obtain⟨O,lD⟩:∃O,O=es.set i (r.set j (.av (.ow d))):=⟨_,rfl⟩;rw[<-lD];have hh:=z.hp id hid;have hh:cd S w A.C.P (fun k=>k≠d) rho I id (I id):=hh;rw[sq]at hh;obtain⟨hR,hS⟩:=hh;obtain⟨g,u,hg,Nc,nF⟩:=hR.rE hr hj;have nF:an A.C.P w (ay S w) e' xs u:=nF;have aN:(I id).live:=by rw[sq];trivial
 have cc:∀U k p v,bI w O U k p v->bI w es U k p v/\¬(k=i/\p=j):=by
  intro U k p v hc;obtain⟨q,e2,w6,q1,q2,q3⟩:=cS.1 hc;rw[lD]at q1;rcases fw q1 with⟨rfl,rfl,_⟩ | ⟨D,q1⟩
  ·rcases fw q2 with⟨_,hx,_⟩ | ⟨hp,q2⟩
   ·cases hx
   exact⟨cS.2 ⟨r,e2,w6,hr,q2,by rw[aF]at q3;exact q3⟩,fun h=>hp h.2⟩
  exact⟨cS.2 ⟨q,e2,w6,q1,q2,q3⟩,fun h=>D h.1⟩
 have hown:∀b,bH u=some b->hasB w (I id) (rho id) b:=fun b h=>by rw[sq,bN];exact .inr ⟨g,i,j,u,hg,Nc,h⟩
 obtain⟨rho',eZ⟩:∃rho',rho'=ax rho d u:=⟨_,rfl⟩;have rd:rho' d=u:=by rw[eZ,ak]
 have ro:∀k,k≠d->rho' k=rho k:=fun k h=>by rw[eZ,au _ _ h]
 have T:fu S S w w (fun k=>k≠d) bk rho rho' I (ax I id (.ai e O)):=⟨fun _ h=>h,fun _ _=>rfl,fun k D=>⟨by
   rcases aD I id (.ai e O) k with⟨rfl,h⟩ | ⟨_,h⟩
   ·rw[sq];trivial
   ·rw[h]at D;exact D,fun h=>⟨trivial,ro k h⟩⟩,fun k e2 D=>by
   rcases aD I id (.ai e O) k with⟨rfl,h⟩ | ⟨_,h⟩
   ·rw[h]at D;rw[sq];exact D
   rw[h]at D;exact D⟩
 have L:∀k b,(ax I id (.ai e O) k).live->hasB w (ax I id (.ai e O) k) (rho' k) b->∃o,o≠d/\(I o).live/\hasB w (I o) (rho o) b/\(if k=d then o=id/\bH u=some b else o=k/\(k=id->bH u≠some b)):=by
  intro k b hl J;by_cases D:k=d
  ·subst D;rw[au _ _ (fun e=>hid e.symm),P7,rd]at J;have J:=al rfl J;exact⟨id,hid,aN,hown b J,by rw[ae rfl];exact⟨rfl,J⟩⟩
  rcases aD I id (.ai e O) k with⟨rfl,h⟩ | ⟨bO,h⟩
  ·rw[h,ro k D]at J;rw[bN]at J;refine⟨k,D,aN,?_,?_⟩
   ·rw[sq,bN];rcases J with J | ⟨U,k',p,v,V,o2,o3⟩
    ·exact .inl J
    exact .inr ⟨U,k',p,v,V,(cc _ _ _ _ o2).1,o3⟩
   rw[af D];refine⟨rfl,fun _ P8=>?_⟩;rcases J with J | ⟨U,k',p,v,V,o2,o3⟩
   ·rw[hg]at J;injection J with J;exact hS.top g i j u b hg Nc P8 J.symm
   rw[hg]at V;injection V with V;subst V;obtain⟨c1,c2⟩:=cc _ _ _ _ o2;exact c2 (hS.dis g k' p i j v u b hg c1 Nc o3 P8)
  rw[h,ro k D]at J;rw[h]at hl;exact⟨k,D,hl,J,by rw[af D];exact⟨rfl,fun e=>absurd e bO⟩⟩
 exact⟨S,rho',
 {tm:=fun k D=>(z.tm k D).bA T
  sz:=z.sz,df:=z.df,nb:=z.nb
  pn:=fun k D=>by rw[ro k (by omega)];exact z.pn k D
  ev:=z.ev,s0:=z.s0,st:=z.st,sb:=z.sb
  hp:=fun k _=>by
   show cd _ _ _ _ _ _ _ (ax I id (.ai e O) k);by_cases D:k=d
   ·subst D;rw[au _ _ (fun e=>hid e.symm),P7];show an _ _ _ _ _ (rho' k);rw[rd];exact nF
   rcases aD I id (.ai e O) k with⟨rfl,h⟩ | ⟨bO,h⟩
   ·rw[h];show an _ _ _ _ _ (rho' k)/\kU _ _ (rho' k);rw[ro k D];refine⟨hR.re (by rw[lD,aF]) (fun p q q2 R N=>?_) (fun p q q2 m x x2 v R N z3 W hcell hx=>?_),⟨fun U p m v b c1 c2 c3=>hS.top U p m v b c1 (cc _ _ _ _ c2).1 c3,fun U p m p' m' v v' b c1 c2 c3 c4 c5=>hS.dis U p m p' m' v v' b c1 (cc _ _ _ _ c2).1 (cc _ _ _ _ c3).1 c4 c5⟩⟩
    ·rw[lD]at N;rcases fw N with⟨rfl,rfl,_⟩ | ⟨_,N⟩
     ·rw[hr]at R;injection R with R;rw[<-R,aF]
     rw[R]at N;injection N with N;rw[N]
    have qo:iY S w A.C.P (fun k=>k≠d) rho I x v->x2=x->iY S w A.C.P bk rho' (ax I k (.ai e O)) x2 v:=fun hx L0=>by
     rw[L0];cases x with
     | av y=>exact aE.bA T hx
     | row e2 w6=>exact hx
    rw[lD]at N;rcases fw N with⟨rfl,rfl,_⟩ | ⟨_,N⟩
    ·rw[hr]at R;injection R with R;subst R;rcases fw W with⟨rfl,rfl,_⟩ | ⟨_,W⟩
     ·obtain⟨q',_,_,c1,_,c2⟩:=cS.1 Nc;rw[hr]at c1;injection c1 with c1;subst c1;have:=jf (hcell g hg) c2;subst this;exact .ow d _ fun _=>⟨trivial,rd.symm⟩
     rw[z3]at W;injection W with W;exact qo hx W.symm
    rw[R]at N;injection N with N;subst N;rw[z3]at W;injection W with W;exact qo hx W.symm
   rw[h];exact (z.hp k D).bA T (fun _ _ _=>rfl) (fun _=>ro k D)
  dj:=fun k m b _ _ lk lm D hm=>by
   obtain⟨o,V,o2,o3,Y⟩:=L k b lk D;obtain⟨p,p1,p2,p3,Z⟩:=L m b lm hm;have:=z.dj o p b V p1 o2 p2 o3 p3;subst this;by_cases ek:k=d<;>by_cases em:m=d
   ·rw[ek,em]
   ·rw[ae ek]at Y;rw[af em]at Z;exact absurd Y.2 (Z.2 (Z.1.symm.trans Y.1))
   ·rw[af ek]at Y;rw[ae em]at Z;exact absurd Z.2 (Y.2 (Y.1.symm.trans Z.1))
   rw[af ek]at Y;rw[af em]at Z;exact Y.1.symm.trans Z.1
  lv:=fun k b _ lk D=>by
   obtain⟨o,V,o2,o3,_⟩:=L k b lk D;exact z.lv o b V o2 o3
  fr:=z.fr }⟩
theorem aY.jg(hC:aL A.C)(s:AS)(id i j d:Nat){es:List (List HX)}{r:List HX}{xs:List (List PV)}(hid:id≠d)(hb:s.h id=.ai e es)(Nd:s.h d=.row e' xs)(hr:es[i]?=some r)(hj:r[j]?=some (.av (.ow d))):
  aY A s ⟨s.t,ax (ax s.h d .none) id (.ai e (es.set i (r.set j (.row e' xs))))⟩:=by
 intro S rho a w z;obtain⟨L,lD⟩:∃L,L=es.set i (r.set j (.row e' xs)):=⟨_,rfl⟩;rw[<-lD];have hh:=z.hp id trivial;rw[hb]at hh;obtain⟨hR,hS⟩:=hh;have aN:(s.h id).live:=by rw[hb];trivial
 have OS:(s.h d).live:=by rw[Nd];trivial
 have Kn:=z.hp d trivial;rw[Nd]at Kn;have Kn:an A.C.P w (ay S w) e' xs (rho d):=Kn;have up:∀k,(k=id/\ax (ax s.h d .none) id (.ai e L) k=.ai e L)\/(k=d/\k≠id/\ax (ax s.h d .none) id (.ai e L) k=.none)\/(k≠d/\k≠id/\ax (ax s.h d .none) id (.ai e L) k=s.h k):=fun k=>by
  by_cases O:k=id
  ·subst O;exact .inl ⟨rfl,ak _ _ _⟩
  by_cases h2:k=d
  ·subst h2;exact .inr (.inl ⟨rfl,O,by rw[au _ _ O,ak]⟩)
  exact .inr (.inr ⟨h2,O,by rw[au _ _ O,au _ _ h2]⟩)
 have T:fu S S w w bk bk rho rho s.h (ax (ax s.h d .none) id (.ai e L)):=⟨fun _ h=>h,fun _ _=>rfl,fun k D=>⟨by
   rcases up k with⟨rfl,h⟩ | ⟨_,_,h⟩ | ⟨_,_,h⟩
   ·rw[hb];trivial
   ·rw[h]at D;exact D.elim
   ·rw[h]at D;exact D,fun h=>⟨trivial,rfl⟩⟩,fun k e2 D=>by
   rcases up k with⟨rfl,h⟩ | ⟨_,_,h⟩ | ⟨_,_,h⟩
   ·rw[h]at D;rw[hb];exact D
   ·rw[h]at D;cases D
   rw[h]at D;exact D⟩
 have hval:∀g u,bH (rho id)=some g->cellAt w g (i*r.length+j) u->u=rho d:=fun g u hg hu=>by
  obtain⟨i0,ws,R,Y,W,q4,q5,q6⟩:=hR;obtain⟨u2,p1,p2⟩:=q6 i r j _ hr hj;have p2:aE S w A.C.P bk rho s.h (.ow d) u2:=p2;have:=(p2.bu (by rw[Nd];trivial)).2;rw[<-this];have nP:=q4 r (aj hr);rcases W.2 with⟨hn,_⟩ | ⟨g',cap,cur,hv,_,wI,k1,k2,k3,k4⟩
  ·rw[hn]at hg;cases hg
  rw[hv]at hg;obtain rfl:=ed.1 hg;refine jf hu ⟨cur,_,_,wI,?_⟩;rw[nP];rw[<-k4,cB]at p1;split at p1
  ·simpa using p1
  cases p1
 have cc:∀g k p v,bH (rho id)=some g->bI w L g k p v->(bI w es g k p v/\¬(k=i/\p=j))\/(k=i/\p=j/\v=rho d):=by
  intro g k p v hg hc;obtain⟨q,e2,w6,R,Y,W⟩:=cS.1 hc;rw[lD]at R;rcases fw R with⟨rfl,rfl,_⟩ | ⟨D,R⟩
  ·rw[aF]at W;rcases fw Y with⟨rfl,_,_⟩ | ⟨hp,Y⟩
   ·exact .inr ⟨rfl,rfl,hval g v hg W⟩
   exact .inl ⟨cS.2 ⟨r,e2,w6,hr,Y,W⟩,fun h=>hp h.2⟩
  exact .inl ⟨cS.2 ⟨q,e2,w6,R,Y,W⟩,fun h=>D h.1⟩
 have inner:∀g k p v b,bH (rho id)=some g->bI w es g k p v->bH v=some b->bH (rho d)≠some b:=fun g k p v b O h2 h3 h4=>
  hid (z.dj id d b trivial trivial aN OS (by rw[hb,bN];exact .inr ⟨g,k,p,v,O,h2,h3⟩) (.inl h4))
 have I:∀k b,(ax (ax s.h d .none) id (.ai e L) k).live->hasB w (ax (ax s.h d .none) id (.ai e L) k) (rho k) b->∃o,(s.h o).live/\hasB w (s.h o) (rho o) b/\(o=k/\k≠d\/o=d/\k=id):=by
  intro k b hl ho;rcases up k with⟨rfl,h⟩ | ⟨_,_,h⟩ | ⟨O,_,h⟩
  ·rw[h,bN]at ho;rcases ho with ho | ⟨g,k',p,v,o1,o2,Z⟩
   ·exact⟨k,aN,.inl ho,.inl ⟨rfl,hid⟩⟩
   rcases cc _ _ _ _ o1 o2 with⟨c1,_⟩ | ⟨_,_,rfl⟩
   ·exact⟨k,aN,by rw[hb,bN];exact .inr ⟨g,k',p,v,o1,c1,Z⟩,.inl ⟨rfl,hid⟩⟩
   exact⟨d,OS,.inl Z,.inr ⟨rfl,rfl⟩⟩
  ·rw[h]at hl;exact hl.elim
  rw[h]at hl ho;exact⟨k,hl,ho,.inl ⟨rfl,O⟩⟩
 exact⟨S,rho,
 {tm:=fun k D=>(z.tm k D).bA T
  sz:=z.sz,df:=z.df,nb:=z.nb,pn:=z.pn
  ev:=z.ev,s0:=z.s0,st:=z.st,sb:=z.sb
  hp:=fun k _=>by
   show cd _ _ _ _ _ _ _ (ax (ax s.h d .none) id (.ai e L) k);rcases up k with⟨rfl,h⟩ | ⟨_,_,h⟩ | ⟨O,bO,h⟩
   ·rw[h];refine⟨hR.re (by rw[lD,aF]) (fun p q Y N J=>?_) (fun p q Y m x x2 v N J z3 U hcell V=>?_),⟨fun g p m v b c1 c2 c3=>?_,fun g p m p' m' v v' b c1 c2 c3 c4 c5=>?_⟩⟩
    ·rw[lD]at J;rcases fw J with⟨rfl,rfl,_⟩ | ⟨_,J⟩
     ·rw[hr]at N;injection N with N;rw[<-N,aF]
     rw[N]at J;injection J with J;rw[J]
    ·have qo:iY S w A.C.P bk rho s.h x v->x2=x->iY S w A.C.P bk rho (ax (ax s.h d .none) k (.ai e L)) x2 v:=fun V L0=>by
      rw[L0];cases x with
      | av y=>exact aE.bA T V
      | row e2 w6=>exact V
     rw[lD]at J;rcases fw J with⟨rfl,rfl,_⟩ | ⟨_,J⟩
     ·rw[hr]at N;injection N with N;subst N;rcases fw U with⟨rfl,rfl,_⟩ | ⟨_,U⟩
      ·have V:iY S w A.C.P bk rho s.h x v:=V;rw[hj]at z3;injection z3 with z3;subst z3;have V:aE S w A.C.P bk rho s.h (.ow d) v:=V;show an A.C.P w (ay S w) e' xs v;rw[(V.bu (by rw[Nd];trivial)).2];exact Kn
      rw[z3]at U;injection U with U;exact qo V U.symm
     rw[N]at J;injection J with J;subst J;rw[z3]at U;injection U with U;exact qo V U.symm
    ·rcases cc _ _ _ _ c1 c2 with⟨R,_⟩ | ⟨_,_,rfl⟩
     ·exact hS.top g p m v b c1 R c3
     intro IU;subst IU;exact hid (z.dj k d b trivial trivial aN OS (.inl c1) (.inl c3))
    rcases cc _ _ _ _ c1 c2 with⟨R,Y⟩ | ⟨rfl,rfl,rfl⟩<;>rcases cc _ _ _ _ c1 c3 with⟨W,q4⟩ | ⟨rfl,rfl,rfl⟩
    ·exact hS.dis g p m p' m' v v' b c1 R W c4 c5
    ·exact absurd c5 (inner g p m v b c1 R c4)
    ·exact absurd c4 (inner g p' m' v' b c1 W c5)
    exact⟨rfl,rfl⟩
   ·rw[h];trivial
   rw[h];exact (z.hp k trivial).bA T (fun _ _ _=>rfl) (fun _=>rfl)
  dj:=fun k m b _ _ lk lm D hm=>by
   obtain⟨o,o1,o2,Z⟩:=I k b lk D;obtain⟨p,p1,p2,p3⟩:=I m b lm hm;have:=z.dj o p b trivial trivial o1 p1 o2 p2;subst this;rcases Z with⟨rfl,Z⟩ | ⟨rfl,Z⟩<;>rcases p3 with⟨rfl,p3⟩ | ⟨h,p3⟩
   ·rfl
   ·exact absurd h Z
   ·exact absurd rfl p3
   rw[Z,p3]
  lv:=fun k b _ lk D=>by
   obtain⟨o,o1,o2,_⟩:=I k b lk D;exact z.lv o b trivial o1 o2
  fr:=z.fr }⟩
theorem aY.OT(hC:aL A.C)(s:AS)(id i j:Nat){es:List (List HX)}{r:List HX}{ti:TI}(hb:s.h id=.ai e es)(W:es[i]?=some r)(hj:r[j]?=some (.av .nl))(hT:A.C.T e'=some ti)(hpos:0<ti.size):
  aY A s ⟨s.t,ax s.h id (.ai e (es.set i (r.set j (.row e' []))))⟩:=by
 intro S rho a w Y;obtain⟨jo,Z⟩:∃jo,jo=es.set i (r.set j (.row e' [])):=⟨_,rfl⟩;rw[<-Z];have hh:=Y.hp id trivial;rw[hb]at hh;obtain⟨hR,hS⟩:=hh;obtain⟨info,z,h1,h2,_⟩:=hC.eL e' ti hT;have hval:∀g u,bH (rho id)=some g->cellAt w g (i*r.length+j) u->u=.slice none 0 0:=fun g u R hu=>by
  obtain⟨i0,ws,q1,N,U,q4,q5,q6⟩:=hR;obtain⟨u2,p1,p2⟩:=q6 i r j _ W hj;have p2:aE S w A.C.P bk rho s.h .nl u2:=p2;have:u2=.slice none 0 0:=by cases p2;rfl
  rw[<-this];have nP:=q4 r (aj W);rcases U.2 with⟨hn,_⟩ | ⟨g',cap,cur,hv,_,wI,k1,k2,k3,k4⟩
  ·rw[hn]at R;cases R
  rw[hv]at R;obtain rfl:=ed.1 R;refine jf hu ⟨cur,_,_,wI,?_⟩;rw[nP];rw[<-k4,cB]at p1;split at p1
  ·simpa using p1
  cases p1
 have cc:∀g k p v b,bH (rho id)=some g->bI w jo g k p v->bH v=some b->bI w es g k p v:=by
  intro g k p v b R hc hv;obtain⟨q,e2,w6,q1,N,U⟩:=cS.1 hc;rw[Z]at q1;rcases fw q1 with⟨rfl,rfl,_⟩ | ⟨hk,q1⟩
  ·rw[aF]at U;rcases fw N with⟨rfl,_,_⟩ | ⟨hp,N⟩
   ·rw[hval g v R U]at hv;cases hv
   exact cS.2 ⟨r,e2,w6,W,N,U⟩
  exact cS.2 ⟨q,e2,w6,q1,N,U⟩
 refine⟨S,rho,Y.vf hC id trivial (by rw[hb];trivial) _ (fun e2 h=>by rw[hb];exact h) w rfl rfl rfl rfl (fun _ _=>rfl) (fun T=>?_) (fun g h=>?_)⟩
 ·refine⟨hR.re (by rw[Z,aF]) (fun p q N I D=>?_) (fun p q N m x x2 v I D V J hcell L=>?_),⟨fun g p m v b c1 c2 O=>hS.top g p m v b c1 (cc _ _ _ _ _ c1 c2 O) O,fun g p m p' m' v v' b c1 c2 O c4 c5=>hS.dis g p m p' m' v v' b c1 (cc _ _ _ _ _ c1 c2 c4) (cc _ _ _ _ _ c1 O c5) c4 c5⟩⟩
  ·rw[Z]at D;rcases fw D with⟨rfl,rfl,_⟩ | ⟨_,D⟩
   ·rw[W]at I;injection I with I;rw[<-I,aF]
   rw[I]at D;injection D with D;rw[D]
  have qo:iY S w A.C.P bk rho s.h x v->x2=x->iY S w A.C.P bk rho (ax s.h id (.ai e jo)) x2 v:=fun L L0=>by
   rw[L0];cases x with
   | av y=>exact aE.bA T L
   | row e2 w6=>exact L
  rw[Z]at D;rcases fw D with⟨rfl,rfl,_⟩ | ⟨_,D⟩
  ·rw[W]at I;injection I with I;subst I;rcases fw J with⟨rfl,rfl,_⟩ | ⟨_,J⟩
   ·rw[hj]at V;injection V with V;subst V;have L:aE S w A.C.P bk rho s.h .nl v:=L;have:v=.slice none 0 0:=by cases L;rfl
    rw[this];exact⟨info,[],h1,by omega,⟨by simp,.inl ⟨rfl,rfl⟩⟩,by simp,by simp,by simp⟩
   rw[V]at J;injection J with J;exact qo L J.symm
  rw[I]at D;injection D with D;subst D;rw[V]at J;injection J with J;exact qo L J.symm
 rw[bN]at h;rw[hb,bN];rcases h with h | ⟨g',k,p,v,c1,c2,O⟩
 ·exact .inl h
 exact .inr ⟨g',k,p,v,c1,cc _ _ _ _ _ c1 c2 O,O⟩
theorem Kf.map{l:List α}{f:α->List HX}{g:α->List PV}(h:∀x∈l,(g x).length=(f x).length/\∀(j:Nat) u v,(f x)[j]?=some u->(g x)[j]?=some v->KI u v):Kf (l.map f) (l.map g):=
 ⟨by simp,fun a r q z m=>by
  rw[ao]at z m;obtain⟨x,D,rfl⟩:=az.1 z;rw[D]at m;injection m with m;subst m;exact h x (aj D)⟩
theorem aY.L1(hC:aL A.C)(s:AS)(id:Nat){es:List (List HX)}(J:List (List PV))(hb:s.h id=.ai e es)(N:Kf es J):aY A s ⟨s.t,ax s.h id (.row e J)⟩:=by
 intro S rho a w z;have hh:=z.hp id trivial;rw[hb]at hh;obtain⟨hR,hS⟩:=hh;have W:(s.h id).live:=by rw[hb];trivial
 obtain⟨I,hI⟩:∃I:Nat->Prop,I=fun b=>∃g k j u,bH (rho id)=some g/\bI w es g k j u/\bH u=some b:=⟨_,rfl⟩;have OU:∀b,I b->hasB w (s.h id) (rho id) b:=fun b h=>by rw[hI]at h;rw[hb,bN];exact .inr h
 have L2:∀b,I b->bH (rho id)≠some b:=fun b h L=>by
  rw[hI]at h;obtain⟨g,k,j,u,U,h2,h3⟩:=h;rw[U]at L;injection L with L;exact hS.top g k j u b U h2 h3 L.symm
 have T:fu S (fun b=>S b\/I b) w w bk bk rho rho s.h (ax s.h id (.row e J)):=by
  refine⟨fun b h=>.inl h,fun _ _=>rfl,fun j D=>⟨?_,fun hl=>⟨hl,rfl⟩⟩,fun j e' D=>?_⟩
  ·rcases aD s.h id (.row e J) j with⟨rfl,h⟩ | ⟨_,h⟩
   ·rw[hb];trivial
   rw[h]at D;exact D
  rcases aD s.h id (.row e J) j with⟨rfl,h⟩ | ⟨_,h⟩
  ·rw[h]at D;rw[hb];exact D
  rw[h]at D;exact D
 have Y:∀j,((ax s.h id (.row e J)) j).live->(s.h j).live:=by
  intro j D;rcases aD s.h id (.row e J) j with⟨rfl,h⟩ | ⟨U,h⟩
  ·exact W
  rw[h]at D;exact D
 have back:∀j g,hasB w (ax s.h id (.row e J) j) (rho j) g->hasB w (s.h j) (rho j) g:=fun j g h=>by
  rcases aD s.h id (.row e J) j with⟨rfl,h'⟩ | ⟨U,h'⟩
  ·rw[h']at h;exact .inl (al rfl h)
  rw[h']at h;exact h
 exact⟨fun b=>S b\/I b,rho,
 {tm:=fun j D=>(z.tm j D).bA T
  sz:=z.sz,df:=z.df,nb:=z.nb,pn:=z.pn
  ev:=hC.env _ _ _ _ z.ev (fun b h=>.inl h) (fun _ _=>rfl) (aC _)
  s0:=fun b h=>.inl (z.s0 b h)
  st:=fun b h=>h.elim (z.st b) fun h=>(z.lv id b trivial W (OU b h)).1
  sb:=fun b h=>h.elim (z.sb b) fun h=>.inr (z.lv id b trivial W (OU b h)).2.2
  hp:=fun j D=>by
   rcases aD s.h id (.row e J) j with⟨rfl,h⟩ | ⟨U,h⟩
   ·show cd _ _ _ _ _ _ _ (ax s.h j (.row e J) j);rw[h];refine hR.re N.len (fun p q q2 V z2=>(N.row p q q2 V z2).1) (fun p q q2 m x x2 v V z2 z3 z4 O R=>?_);have:=(N.row p q q2 V z2).2 m x x2 z3 z4;cases this with
    | p x=>exact (aE.cb R).mono (fun b h=>.inl h) (fun _ _=>rfl)
    | nl=>
     have R:aE S w A.C.P bk rho s.h .nl v:=R;cases R;exact .nil _ _
    | row e' xs=>
     have R:an A.C.P w (ay S w) e' xs v:=R;refine an.yG R (fun b h=>.inl h) fun b dM=>.inr ?_;rw[hI];obtain⟨g,u,g1,g2,_⟩:=hR.rE V z3;obtain⟨q',_,_,c1,_,c2⟩:=cS.1 g2;rw[V]at c1;injection c1 with c1;subst c1;have:=jf (O g g1) c2;subst this;exact⟨g,p,m,v,g1,g2,dM⟩
   show cd _ _ _ _ _ _ _ (ax s.h id (.row e J) j);rw[h];exact (z.hp j D).bA T (fun _ _ _=>rfl) (fun _=>rfl)
  dj:=fun i j g Z D li lj cK dW=>z.dj i j g Z D (Y i li) (Y j lj) (back i g cK) (back j g dW)
  lv:=fun i g Z li L=>by
   obtain⟨h3,h4,h5⟩:=z.lv i g Z (Y i li) (back i g L);refine⟨h3,fun h=>h.elim h4 fun h=>?_,h5⟩;have:=z.dj i id g Z trivial (Y i li) W (back i g L) (OU g h);subst this;have L:hasB w (ax s.h i (.row e J) i) (rho i) g:=L;rw[ak]at L;exact L2 g h (al rfl L)
  fr:=z.fr }⟩
end Go.AM
namespace Go.AM
open Go.RowKit
variable {A:jR}
theorem aY.Jl(hC:aL A.C)(s:AS)(d:Nat)(z:d<100000):aY A s ⟨(dH d s).t,ax (dH d s).h d (.fam [] [])⟩:=by
 intro S rho a w u;have D:=u.free d (.fam [] []);have I:=D.jA hC d (.fam [] []) z (fun h=>h rfl) (ak _ _ _) w rfl rfl rfl (aC _) (fun _=>False) (fun _ _ _=>rfl) (fun _ h=>h.elim) (.tuple #[])
  (fun g J=>by
   rcases fN.1 J with h | ⟨m,L,cs,h,_⟩
   ·cases h
   ·simp at h) (fun T=>by
   refine⟨?_,⟨fun m g cs h=>by simp at h,fun m m' g L cs dB k h=>by simp at h,fun m n g cs h=>by cases h⟩⟩;rw[ak];rfl)
 exact⟨S,_,I.jF (fun _ _=>trivial) (fun k=>⟨fun _=>by by_cases e:k=d;exact .inr e;exact .inl e,fun _=>trivial⟩)⟩
variable {cs:List HC}
theorem mj{w:World}{g k:Nat}:hasB w (.aA cs) (.pointer (some ⟨g,0,none⟩)) k↔mE w cs g k:=by
 constructor
 ·rintro (h | ⟨J,I,h,z,c,D,m,j,y,u,L⟩ | ⟨e,es,I,a,j,u,h,_⟩ | ⟨l,out,m,I,J,h,_⟩)
  ·injection h with h;exact .inl h.symm
  ·injection h with h;subst h;injection z with z;subst z;exact .inr ⟨c,D,m,j,y,u,L⟩
  ·cases h
  cases h
 rintro (h | ⟨c,D,m,j,y,u,h⟩)
 ·exact .inl (by rw[h];rfl)
 exact .inr (.inl ⟨cs,g,rfl,rfl,c,D,m,j,y,u,h⟩)
variable {l:List (Nat×List HC)}
theorem aY.zJ(hC:aL A.C)(s:AS)(F d j m:Nat){g:Nat}(hd:d<100000)(O:F≠d)(hF:s.h F=.fam l [])(hm:l[m]?=some (g,cs))(hj:s.t j=.p (.im (.pointer (some ⟨g,0,none⟩)))):
  aY A s ⟨ax (dH d s).t j (.bx d 0),ax (ax (dH d s).h F (.fam l [(m,some d)])) d (.aA cs)⟩:=by
 intro S rho a w Y;have gQ:=Y.free d (.aA cs);have Nf:ax (dH d s).h d (.aA cs) F=.fam l []:=by
  rw[au _ _ O];show ax (fun k=>qX d (s.h k)) d AB.none F=_;rw[au _ _ O,hF];rfl
 have RG:ax (dH d s).h d (.aA cs) d=.aA cs:=ak _ _ _;have hh:=gQ.hp F O;have hh:cd S w A.C.P (fun k=>k≠d) rho (ax (dH d s).h d (.aA cs)) F (ax (dH d s).h d (.aA cs) F):=hh;rw[Nf]at hh;obtain⟨hb,hR⟩:=hh;have W:∀m,qA [] m:=fun m p hp=>by cases hp
 obtain⟨ty,c,hB⟩:=hR.mem m g cs hm (W m);have lF:(ax (dH d s).h d (.aA cs) F).live:=by rw[Nf];trivial
 have Z:ax (ax (dH d s).h F (.fam l [(m,some d)])) d (.aA cs) F=.fam l [(m,some d)]:=by rw[au _ _ O,ak]
 have um:ax (ax (dH d s).h F (.fam l [(m,some d)])) d (.aA cs) d=.aA cs:=ak _ _ _;have EI:∀i,i≠F->i≠d->ax (ax (dH d s).h F (.fam l [(m,some d)])) d (.aA cs) i=ax (dH d s).h d (.aA cs) i:=fun i U N=>by rw[au _ _ N,au _ _ U,au _ _ N]
 have P9:∀z D I k,l[z]?=some (D,I)->mE w I D k->hasB w (ax (dH d s).h d (.aA cs) F) (rho F) k:=fun z D I k J L=>by rw[Nf];exact fN.2 (.inr ⟨z,D,I,J,W z,L⟩)
 have EJ:∀k,hasB w (.fam l [(m,some d)]) (rho F) k->∃z D I,z≠m/\l[z]?=some (D,I)/\mE w I D k:=fun k R=>by
  rcases fN.1 R with h | ⟨z,D,I,J,L,h3⟩
  ·rw[hb]at h;cases h
  exact⟨z,D,I,fun e=>L (m,some d) aW e.symm,J,h3⟩
 have V:∀i,i≠d->ax rho d (.pointer (some ⟨g,0,none⟩)) i=rho i:=fun i u=>au _ _ u;have aJ:=gQ.od hC (L':=bk) (rho':=ax rho d (.pointer (some ⟨g,0,none⟩))) (h':=ax (ax (dH d s).h F (.fam l [(m,some d)])) d (.aA cs)) (w':=w) (fun i=>i=F\/i=d) (Fr.refl _ w)
  (fun i u=>by
   by_cases N:i=d
   ·subst N;exact⟨by show (ax (dH i s).h i (AB.aA cs) i).there;rw[RG];trivial,fun h=>(h rfl).elim⟩
   by_cases U:i=F
   ·subst U;exact⟨by show (ax (dH d s).h d (AB.aA cs) i).there;rw[Nf];trivial,fun h=>⟨trivial,V i N⟩⟩
   rw[EI i U N]at u;exact⟨u,fun h=>⟨trivial,V i N⟩⟩)
  (fun i e u=>by
   by_cases N:i=d
   ·subst N;rw[um]at u;cases u
   by_cases U:i=F
   ·subst U;rw[Z]at u;cases u
   rw[EI i U N]at u;exact u)
  (fun i u=>⟨EI i (fun e=>u (.inl e)) fun e=>u (.inr e),fun _ e=>u (.inr e),V i fun e=>u (.inr e)⟩)
  (fun i u=>V i (by omega))
  (fun T i u _=>by
   rcases u with rfl | rfl
   ·rw[Z];refine⟨by rw[V i O];exact hb,fun z D I J L=>hR.mem z D I J (W z),fun m1 m2 g1 g2 Ky kJ k a1 a2 _ _=>hR.dis m1 m2 g1 g2 Ky kJ k a1 a2 (W m1) (W m2),fun z n D I J L _=>?_⟩;rcases fK.1 J with J | J
    ·injection J with U N;injection N with N;subst U;subst N;rw[hm]at L;injection L with L;injection L with L nG;subst L;exact⟨trivial,ak _ _ _⟩
    cases J
   rw[um];exact⟨g,ty,c,ak _ _ _,hB⟩)
  (fun i k u _ _ R=>by
   rcases u with rfl | rfl
   ·rw[Z,V i O]at R;obtain⟨z,D,I,_,J,L⟩:=EJ k R;have iR:=P9 z D I k J L;exact⟨(gQ.lv i k O lF iR).1,.inr ⟨i,.inl rfl,O,lF,iR⟩⟩
   rw[um,ak]at R;have iR:=P9 m g cs k hm (mj.1 R);exact⟨(gQ.lv F k O lF iR).1,.inr ⟨F,.inl rfl,O,lF,iR⟩⟩)
  (fun i i' k u mI _ _ _ _ R mF=>by
   have no:hasB w (.fam l [(m,some d)]) (rho F) k->hasB w (.aA cs) (.pointer (some ⟨g,0,none⟩)) k->False:=fun J L=>by
    obtain⟨z,D,I,bO,h3,h4⟩:=EJ k J;exact bO (hR.dis z m D g I cs k h3 hm (W _) (W _) h4 (mj.1 L))
   rcases u with rfl | rfl<;>rcases mI with rfl | rfl
   ·rfl
   ·rw[Z,V _ O]at R;rw[um,ak]at mF;exact (no R mF).elim
   ·rw[um,ak]at R;rw[Z,V _ O]at mF;exact (no mF R).elim
   rfl)
 refine⟨S,_,{ aJ with tm:=fun i _=>?_ }⟩;show aE _ _ _ _ _ _ (ax (dH d s).t j (.bx d 0) i) _;by_cases e:i=j
 ·subst e;rw[ak];have hx:=Y.tm i trivial;rw[hj]at hx;rw[hx.bc];exact .bx d 0 _ fun _=>⟨trivial,g,ak _ _ _,rfl⟩
 rw[au _ _ e];exact aJ.tm i trivial
theorem aY.sr(hC:aL A.C)(s:AS)(F d m:Nat){g:Nat}{U:List HC}(W:s.h F=.fam l [(m,some d)])(Z:s.h d=.aA U)(hm:l[m]?=some (g,cs)):
  aY A s ⟨s.t,ax (ax s.h d .none) F (.fam (l.set m (g,U)) [])⟩:=by
 intro S rho a w N;have vR:F≠d:=fun e=>by rw[e,Z]at W;cases W
 have lF:(s.h F).live:=by rw[W];trivial
 have ld:(s.h d).live:=by rw[Z];trivial
 have hh:=N.hp F trivial;rw[W]at hh;obtain⟨hb,hR⟩:=hh;have L3:=N.hp d trivial;rw[Z]at L3;obtain⟨I,ty,c,V,hB⟩:=L3;have k2:=(hR.out m d g cs aW hm (by rw[Z];trivial)).2;rw[k2]at V;injection V with V;injection V with V;injection V with V;subst V;have pH:∀m,qA [] m:=fun m p hp=>by cases hp
 have GC:∀z,z≠m->qA [(m,some d)] z:=fun z h p hp=>by
  rcases fK.1 hp with e | e
  ·subst e;exact fun e=>h e.symm
  cases e
 have zK:ax (ax s.h d .none) F (.fam (l.set m (g,U)) []) F=.fam (l.set m (g,U)) []:=ak _ _ _;have Y:ax (ax s.h d .none) F (.fam (l.set m (g,U)) []) d=.none:=by rw[au _ _ vR.symm,ak]
 have EI:∀i,i≠F->i≠d->ax (ax s.h d .none) F (.fam (l.set m (g,U)) []) i=s.h i:=fun i J L=>by rw[au _ _ J,au _ _ L]
 have zL:∀k,mE w U g k->hasB w (s.h d) (rho d) k:=fun k h=>by rw[Z,k2];exact mj.2 h
 have Cv:∀z I D k,z≠m->l[z]?=some (I,D)->mE w D I k->hasB w (s.h F) (rho F) k:=fun z I D k h O h2=>by rw[W];exact fN.2 (.inr ⟨z,I,D,O,GC z h,h2⟩)
 have R:∀z I D k,z≠m->l[z]?=some (I,D)->mE w D I k->mE w U g k->False:=fun z I D k h O h2 h3=>vR (N.dj F d k trivial trivial lF ld (Cv z I D k h O h2) (zL k h3));have aJ:=N.od hC (L':=bk) (rho':=rho) (h':=ax (ax s.h d .none) F (.fam (l.set m (g,U)) [])) (w':=w) (fun i=>i=F\/i=d) (Fr.refl _ w)
  (fun i u=>by
   by_cases J:i=F
   ·subst J;exact⟨by rw[W];trivial,fun h=>⟨trivial,rfl⟩⟩
   by_cases L:i=d
   ·subst L;rw[Y]at u;exact u.elim
   rw[EI i J L]at u;exact⟨u,fun h=>⟨trivial,rfl⟩⟩)
  (fun i e u=>by
   by_cases J:i=F
   ·subst J;rw[zK]at u;cases u
   by_cases L:i=d
   ·subst L;rw[Y]at u;cases u
   rw[EI i J L]at u;exact u)
  (fun i u=>⟨EI i (fun e=>u (.inl e)) fun e=>u (.inr e),fun _=>trivial,rfl⟩)
  (fun i u=>rfl)
  (fun T i u _=>by
   rcases u with rfl | rfl
   ·rw[zK];refine⟨hb,fun z I D O _=>?_,fun m1 m2 g1 g2 Ky D k a1 a2 _ _ b1 b2=>?_,fun z n I D O=>by cases O⟩
    ·rcases ey O with⟨rfl,e,_⟩ | ⟨bO,O⟩
     ·injection e with J L;subst J;subst L;exact⟨ty,c,hB⟩
     exact hR.mem z I D O (GC z bO)
    rcases ey a1 with⟨J,e,_⟩ | ⟨M4,z1⟩<;>rcases ey a2 with⟨L,f,_⟩ | ⟨xi,z2⟩
    ·rw[J,L]
    ·injection e with e3 e4;subst e3;subst e4;exact (R _ _ _ k xi z2 b2 b1).elim
    ·injection f with e3 e4;subst e3;subst e4;exact (R _ _ _ k M4 z1 b1 b2).elim
    exact hR.dis m1 m2 g1 g2 Ky D k z1 z2 (GC _ M4) (GC _ xi) b1 b2
   rw[Y];trivial)
  (fun i k u _ li hk=>by
   rcases u with rfl | rfl
   ·rw[zK]at hk;rcases fN.1 hk with h | ⟨z,I,D,O,_,h3⟩
    ·rw[hb]at h;cases h
    rcases ey O with⟨rfl,e,_⟩ | ⟨bO,O⟩
    ·injection e with J L;subst J;subst L;exact⟨(N.lv d k trivial ld (zL k h3)).1,.inr ⟨d,.inr rfl,trivial,ld,zL k h3⟩⟩
    have iR:=Cv z I D k bO O h3;exact⟨(N.lv _ k trivial lF iR).1,.inr ⟨_,.inl rfl,trivial,lF,iR⟩⟩
   rw[Y]at li;exact li.elim)
  (fun i i' k u mI _ _ li fE hk mF=>by
   have J:i=F:=u.resolve_right fun e=>by subst e;rw[Y]at li;exact li
   have L:i'=F:=mI.resolve_right fun e=>by subst e;rw[Y]at fE;exact fE
   rw[J,L])
 exact⟨S,_,aJ⟩
theorem Seen.Jm(hC:aL A.C)(s:AS)(F d R i j:Nat){e:TypeId}{es:List (List HX)}{r:List HX}{G:AS->Prop}(hF:s.h F=.fam l [])(hd:s.h d=.aA cs)(W:s.h R=.ai e es)(hi:es[i]?=some r)(hj:r[j]?=some (.av (.bx d 0)))
  (h:∀g,G ⟨s.t,ax (ax (ax s.h d .none) F (.fam (l++[(g,cs)]) [])) R (.ai e (es.set i (r.set j (.av (.p (.im (.pointer (some ⟨g,0,none⟩))))))))⟩):Seen A s G:=by
 intro S rho a w D;have vR:F≠d:=fun e=>by rw[e,hd]at hF;cases hF
 have P_:R≠d:=fun e=>by rw[e,hd]at W;cases W
 have Qa:R≠F:=fun e=>by rw[e,hF]at W;cases W
 have lF:(s.h F).live:=by rw[hF];trivial
 have ld:(s.h d).live:=by rw[hd];trivial
 have lR:(s.h R).live:=by rw[W];trivial
 have hh:=D.hp F trivial;rw[hF]at hh;obtain⟨hb,hM⟩:=hh;have L3:=D.hp d trivial;rw[hd]at L3;obtain⟨g,ty,c,k1,hB⟩:=L3;have Qb:=D.hp R trivial;rw[W]at Qb;obtain⟨ai,L4⟩:=Qb;have pH:∀m,qA [] m:=fun m p hp=>by cases hp
 obtain⟨bW,EK⟩:∃bW,bW=es.set i (r.set j (.av (.p (.im (.pointer (some ⟨g,0,none⟩)))))):=⟨_,rfl⟩;obtain⟨h',wK⟩:∃h':Nat->AB,h'=ax (ax (ax s.h d .none) F (.fam (l++[(g,cs)]) [])) R (.ai e bW):=⟨_,rfl⟩;have L5:h' R=.ai e bW:=by rw[wK,ak]
 have zK:h' F=.fam (l++[(g,cs)]) []:=by rw[wK,au _ _ Qa.symm,ak]
 have um:h' d=.none:=by rw[wK,au _ _ P_.symm,au _ _ vR.symm,ak]
 have EI:∀k,k≠F->k≠d->k≠R->h' k=s.h k:=fun k U V e3=>by rw[wK,au _ _ e3,au _ _ U,au _ _ V]
 have zL:∀k,mE w cs g k->hasB w (s.h d) (rho d) k:=fun k h=>by rw[hd,k1];exact mj.2 h
 have Cv:∀I L J k,l[I]?=some (L,J)->mE w J L k->hasB w (s.h F) (rho F) k:=fun I L J k N Z=>by rw[hF];exact fN.2 (.inr ⟨I,L,J,N,pH I,Z⟩)
 have new:∀I L J,(l++[(g,cs)])[I]?=some (L,J)->(I < l.length/\l[I]?=some (L,J))\/(I=l.length/\L=g/\J=cs):=fun I L J hm=>by
  by_cases dv:I < l.length
  ·rw[bQ dv]at hm;exact .inl ⟨dv,hm⟩
  rw[bY (by omega)]at hm;have:I - l.length=0:=by
   have:=ah hm;simp at this;omega
  rw[this]at hm;simp at hm;exact .inr ⟨by omega,hm.1.symm,hm.2.symm⟩
 have EJ:∀k,hasB w (.fam (l++[(g,cs)]) []) (rho F) k->hasB w (s.h F) (rho F) k\/hasB w (s.h d) (rho d) k:=fun k z=>by
  rcases fN.1 z with h | ⟨I,L,J,N,_,h3⟩
  ·rw[hb]at h;cases h
  rcases new I L J N with⟨_,N⟩ | ⟨_,rfl,rfl⟩
  ·exact .inl (Cv I L J k N h3)
  exact .inr (zL k h3)
 have cc:∀Y a b u,bI w bW Y a b u->bI w es Y a b u:=fun Y a b u ⟨r1,U,IV,c1,N9,m1,q1,q2,q3,q4⟩=>by
  rw[EK]at q1;rcases ey q1 with⟨rfl,rfl,_⟩ | ⟨_,q1⟩
  ·rw[aF]at q4;rcases ey q2 with⟨_,V,_⟩ | ⟨_,q2⟩
   ·cases V
   exact⟨r,U,IV,c1,N9,m1,hi,q2,q3,q4⟩
  exact⟨r1,U,IV,c1,N9,m1,q1,q2,q3,q4⟩
 have L6:∀k,hasB w (.ai e bW) (rho R) k->hasB w (s.h R) (rho R) k:=fun k z=>by
  rw[W];rcases bN.1 z with h | ⟨Y,a,b,u,N,Z,h3⟩
  ·exact .inl h
  exact bN.2 (.inr ⟨Y,a,b,u,N,cc _ _ _ _ Z,h3⟩)
 have aJ:=D.od hC (L':=bk) (rho':=rho) (h':=h') (w':=w) (fun k=>k=F\/k=d\/k=R) (Fr.refl _ w)
  (fun k z=>by
   by_cases U:k=F
   ·subst U;exact⟨by rw[hF];trivial,fun h=>⟨trivial,rfl⟩⟩
   by_cases V:k=d
   ·subst V;rw[um]at z;exact z.elim
   by_cases e3:k=R
   ·subst e3;exact⟨by rw[W];trivial,fun h=>⟨trivial,rfl⟩⟩
   rw[EI k U V e3]at z;exact⟨z,fun h=>⟨trivial,rfl⟩⟩)
  (fun k e' z=>by
   by_cases U:k=F
   ·subst U;rw[zK]at z;cases z
   by_cases V:k=d
   ·subst V;rw[um]at z;cases z
   by_cases e3:k=R
   ·subst e3;rw[L5]at z;rw[W];exact z
   rw[EI k U V e3]at z;exact z)
  (fun k z=>⟨EI k (fun e=>z (.inl e)) (fun e=>z (.inr (.inl e))) fun e=>z (.inr (.inr e)),fun _=>trivial,rfl⟩)
  (fun k z=>rfl)
  (fun T k z _=>by
   rcases z with rfl | rfl | rfl
   ·rw[zK];refine⟨hb,fun I L J N _=>?_,fun m1 m2 g1 g2 Ky J k a1 a2 _ _ b1 b2=>?_,fun I n L J N=>by cases N⟩
    ·rcases new I L J N with⟨_,N⟩ | ⟨_,rfl,rfl⟩
     ·exact hM.mem I L J N (pH I)
     exact⟨ty,c,hB⟩
    rcases new m1 g1 Ky a1 with⟨_,z1⟩ | ⟨U,f1,RH⟩<;>rcases new m2 g2 J a2 with⟨_,z2⟩ | ⟨V,f2,RI⟩
    ·exact hM.dis m1 m2 g1 g2 Ky J k z1 z2 (pH _) (pH _) b1 b2
    ·subst f2;subst RI;exact (vR (D.dj _ d k trivial trivial lF ld (Cv _ _ _ k z1 b1) (zL k b2))).elim
    ·subst f1;subst RH;exact (vR (D.dj _ d k trivial trivial lF ld (Cv _ _ _ k z2 b2) (zL k b1))).elim
    rw[U,V]
   ·rw[um];trivial
   rw[L5];refine⟨?_,fun Y a b u k hg hc z=>L4.top Y a b u k hg (cc _ _ _ _ hc) z,fun Y a b a' b' u u' k hg hc Fx=>L4.dis Y a b a' b' u u' k hg (cc _ _ _ _ hc) (cc _ _ _ _ Fx)⟩;obtain⟨i0,xs,q1,q2,q3,q4,q5,q6⟩:=ai;refine⟨i0,xs,q1,q2,by rw[EK,aF];exact q3,fun r1 FA=>?_,q5,fun a r1 b x ha O=>?_⟩
   ·rw[EK]at FA;rcases cw FA with h | h
    ·exact q4 r1 h
    rw[h,aF];exact q4 r (aj hi)
   have keep:∀x u,iY S w A.C.P bk rho s.h x u->iY S w A.C.P bk rho h' x u:=fun x u hx=>by
    cases x with
    | av x=>exact aE.bA T hx
    | row e' kS=>exact hx
   rw[EK]at ha;rcases ey ha with⟨rfl,rfl,_⟩ | ⟨_,ha⟩
   ·rcases ey O with⟨rfl,rfl,_⟩ | ⟨_,O⟩
    ·obtain⟨u,hu,jb⟩:=q6 _ _ _ _ hi hj;refine⟨u,hu,?_⟩;have jb:aE S w A.C.P bk rho s.h (.bx d 0) u:=jb;obtain⟨_,g2,g3,g4⟩:=jb.dt (by rw[hd];trivial);rw[k1]at g3;injection g3 with g3;injection g3 with g3;injection g3 with g3;subst g3;rw[g4];exact .p _ _ (.im _)
    obtain⟨u,hu,jb⟩:=q6 _ _ _ _ hi O;exact⟨u,hu,keep _ _ jb⟩
   obtain⟨u,hu,jb⟩:=q6 _ _ _ _ ha O;exact⟨u,hu,keep _ _ jb⟩)
  (fun k b z _ li O=>by
   rcases z with rfl | rfl | rfl
   ·rw[zK]at O;rcases EJ b O with h | h
    ·exact⟨(D.lv _ b trivial lF h).1,.inr ⟨_,.inl rfl,trivial,lF,h⟩⟩
    exact⟨(D.lv _ b trivial ld h).1,.inr ⟨_,.inr (.inl rfl),trivial,ld,h⟩⟩
   ·rw[um]at li;exact li.elim
   rw[L5]at O;have h:=L6 b O;exact⟨(D.lv _ b trivial lR h).1,.inr ⟨_,.inr (.inr rfl),trivial,lR,h⟩⟩)
  (fun k k' b z mF _ _ li fE O GD=>by
   have no:hasB w (.fam (l++[(g,cs)]) []) (rho F) b->hasB w (.ai e bW) (rho R) b->False:=fun N Z=>by
    have Z:=L6 b Z;rcases EJ b N with h | h
    ·exact Qa (D.dj _ _ b trivial trivial lR lF Z h)
    exact P_ (D.dj _ _ b trivial trivial lR ld Z h)
   rcases z with rfl | rfl | rfl
   ·rcases mF with rfl | rfl | rfl
    ·rfl
    ·rw[um]at fE;exact fE.elim
    rw[zK]at O;rw[L5]at GD;exact (no O GD).elim
   ·rw[um]at li;exact li.elim
   rcases mF with rfl | rfl | rfl
   ·rw[L5]at O;rw[zK]at GD;exact (no GD O).elim
   ·rw[um]at fE;exact fE.elim
   rfl)
 have hG:=h g;rw[<-EK,<-wK]at hG;exact⟨S,rho,_,aJ,hG⟩
theorem aY.Jn(hC:aL A.C)(s:AS)(id j m:Nat){mk:MK}{es:List (Value×PV)}(J:List (Value×Value))(cs:List AV)(hid:id≠m)(hb:s.h id=.box cs)(hn:cs[j]?=some (.ow m))(O:s.h m=.map mk es)(he:es=J.map Bz):
  aY A s ⟨s.t,ax (ax s.h m .none) id (.box (cs.set j (.p (.mp mk J))))⟩:=by
 subst he;intro S rho a w z;have U:=z.BE hC m trivial O;have V:ax s.h m .none id=.box cs:=by rw[au _ _ hid];exact hb
 have aN:(ax s.h m AB.none id).live:=by rw[V];trivial
 have W:=z.hp m trivial;rw[O]at W;obtain⟨g,ms,D,h1,h2,h3,h4,h5⟩:=ph W;have aA:=z.hp id trivial;rw[hb]at aA;obtain⟨gb,ty,c,b1,b2,b3,b4⟩:=aA;have L:=U.hp id trivial;have L:cd _ w A.C.P bk rho (ax s.h m .none) id (ax s.h m .none id):=L;rw[V]at L;obtain⟨RJ,KX,Y,d1,I,d3,Z⟩:=L;refine⟨_,rho,U.write hC id trivial aN (.box (cs.set j (.p (.mp mk J)))) (fun _ h=>by cases h) w rfl rfl rfl rfl (fun _ _=>rfl) fun T=>?_⟩;refine⟨RJ,KX,Y,d1,I,by rw[aF];exact d3,fun k x u N R=>?_⟩;rcases ey N with⟨rfl,rfl,_⟩ | ⟨hk,N⟩
 ·have hc:Y=c:=by
   rw[b1]at d1;injection d1 with d1;injection d1 with d1;injection d1 with d1;subst d1;rw[b2]at I;injection I with I;injection I with I;exact I.symm
  subst hc;obtain⟨o1,l1⟩:=b4 k _ u hn R;have hv:=(l1.bu (by rw[O];trivial)).2;refine⟨o1,?_⟩;rw[hv,h1];refine .p _ _ (.mp mk J g ms D (.inr rfl) h2 ⟨by rw[h3,aB],fun i p mm hp BR=>?_,h5⟩);obtain⟨e1,e2,e3⟩:=h4 i (Bz p) mm (by rw[ao,hp];rfl) BR;exact⟨e1,e2,e3.bc⟩
 exact⟨(Z k x u N R).1,(Z k x u N R).2.bA T⟩
theorem aY.L7{A:jR}(hC:aL A.C)(s:AS)(id n:Nat){e e':TypeId}{u:TI}(hb:s.h id=.ai e (List.replicate n [.av .nl]))(z:A.C.T e'=some u)(m:0<u.size):aY A s ⟨s.t,ax s.h id (.ai e (List.replicate n [.row e' []]))⟩:=by
 have key:∀k,k<=n->aY A s ⟨s.t,ax s.h id (.ai e (List.replicate k [.row e' []]++List.replicate (n-k) [.av .nl]))⟩:=fun k=>by
  induction k with
  | zero=>
   intro _;have:ax s.h id (.ai e (List.replicate 0 [.row e' []]++List.replicate (n-0) [.av .nl]))=s.h:=eX _ _ _ (by rw[hb];simp);rw[this];exact aY.refl _ _
  | succ k ih=>
   intro hk;refine (ih (by omega)).trans ?_;have D:(List.replicate k [HX.row e' []]++List.replicate (n-k) [HX.av .nl])[k]?=some [HX.av .nl]:=by
    rw[bY (by simp),di,fH,vA,ae (by omega)]
   have:=aY.OT hC (A:=A) ⟨s.t,ax s.h id (.ai e (List.replicate k [.row e' []]++List.replicate (n-k) [.av .nl]))⟩ id k 0 (e':=e') (ak _ _ _) D rfl z m;have I:(List.replicate k [HX.row e' []]++List.replicate (n-k) [HX.av .nl]).set k [HX.row e' []]=List.replicate (k+1) [HX.row e' []]++List.replicate (n-(k+1)) [HX.av .nl]:=by
    rw[vB _ _ (by simp)];simp only[di,fH];rw[show n-k=(n-(k+1))+1 by omega,l_,ma,List.replicate_succ' (n:=k),gX];rfl
   have J:∀(f:Nat->AB) (x y:AB),ax (ax f id x) id y=ax f id y:=fun f x y=>by
    funext i;by_cases e:i=id
    ·subst e;rw[ak,ak]
    rw[au _ _ e,au _ _ e,au _ _ e]
   simp only[ma,I,J]at this;exact this
 have:=key n (aC _);simp only[fH,List.replicate_zero,qR]at this;exact this
theorem aY.Cw(hC:aL A.C)(s:AS)(k id u:Nat){V:Array Value}{W:TypeId}{e:TypeId}{es:List (List PV)}(hid:id<100000)(z:s.h k=.cell V W (.vw id 0 u))(L:s.h id=.row e es):
  aY A s ⟨(dH id s).t,ax (ax (dH id s).h id (.row e (es.take u))) k (.cell V W (.ow id))⟩:=by
 intro S rho a w m;have Y:(s.h id).live:=by rw[L];trivial
 have N:=m.hp id trivial;rw[L]at N;have N:an A.C.P w (ay S w) e es (rho id):=N;have L8:k≠id:=fun e=>by rw[e,L]at z;cases z
 have Dz:=m.hp k trivial;rw[z]at Dz;obtain⟨g0,OV,v,w1,w2,w3,w4,ht⟩:=Dz;have RL:∃n c I,rho id=.slice I n c/\u<=n/\v=.slice I u c:=by
  cases ht with
  | vw _ _ _ _ q=>
   obtain⟨_,n,c,I,ti,O,_,_,Z,q4,R⟩:=q e (by rw[L];rfl);refine⟨n,c,I,O,Z,?_⟩;rw[R];cases I with
   | none=>simp
   | some x=>simp[Addr.add]
 obtain⟨n,c,I,O,Z,R⟩:=RL;have D:∀g,bH v=some g->bH (rho id)=some g:=fun g J=>by
  rw[R]at J;rw[O];cases I<;>exact J
 have ho:∀k,k≠id->ax (dH id s).h id (.row e (es.take u)) k=qX id (s.h k):=fun k z=>by rw[au _ _ z];show ax (fun k=>qX id (s.h k)) id AB.none k=_;rw[au _ _ z]
 have gQ:=m.free id (.row e (es.take u));have aJ:=gQ.new hC id (.row e (es.take u)) hid (fun h=>h rfl) (ak _ _ _) w rfl rfl rfl (aC _) (fun k=>bH (rho id)=some k) (fun _ _ _=>rfl) (fun k z=>by
  obtain⟨l1,l2,l3⟩:=m.mO id k trivial Y z;refine⟨l2,fun i mI U hb=>?_,l3⟩;have U:(ax (dH id s).h id (.row e (es.take u)) i).live:=U;have hb:hasB w (ax (dH id s).h id (.row e (es.take u)) i) (rho i) k:=hb;rw[ho i mI,oq]at U;rw[ho i mI,qY]at hb;exact mI (m.dj i id k trivial trivial U Y hb (C_ z))) v (fun g J=>⟨(m.mO id g trivial Y (D g J)).1,.inr (D g J)⟩) fun T=>by
   show an _ _ _ _ _ (ax rho id _ id);rw[ak];exact an.front N O Z R
 have cF:aU A bk bk S (ax rho id v) ⟨(dH id s).t,ax (dH id s).h id (.row e (es.take u))⟩ a w:=aJ.jF (fun _ _=>trivial) (fun k=>⟨fun _=>by by_cases e:k=id;exact .inr e;exact .inl e,fun _=>trivial⟩);have N6:(ax (dH id s).h id (.row e (es.take u)) k).live:=by rw[ho k L8,z];trivial
 exact⟨S,_,cF.write hC k trivial N6 (.cell V W (.ow id)) (fun _ h=>by cases h) w rfl rfl rfl rfl (fun _ _=>rfl) fun T=>
  ⟨g0,OV,v,by rw[au _ _ L8];exact w1,w2,w3,w4,.ow id _ fun _=>⟨trivial,(ak _ _ _).symm⟩⟩⟩
end Go.AM
namespace Go.AM
open Go.RowKit
theorem iL{C:Ctx}{o:Oper}{rho:Operand->AV}{h:Nat->AB}{K K':KK}(m:∀v e n,K v e n->K' v e n)(u:aZ C o rho h K):aZ C o rho h K':=by
 obtain⟨v,e,n,z,D⟩:=l6 (fun _=>.inr rfl) u;exact D _ (m _ _ _ z)
variable {K':AS->Prop} {s:AS}
theorem zM{C:Ctx}{o:Oper}{K:AS->Prop}(u:∀s,K s->K' s)(m:rY C o K s):rY C o K' s:=by
 unfold rY at m ⊢;split at m
 ·exact iL (fun v e n h=>u _ h) m
 split at m
 ·split at m
  ·split at m
   ·split at m<;>exact u _ m
   ·split at m<;>exact u _ m
   exact u _ m
  exact u _ m
 ·unfold AQ at m ⊢;split at m
  ·split at m
   ·exact⟨fun h=>u _ (m.1 h),fun i p z D I=>u _ (m.2 i p z D I)⟩
   exact m.elim
  exact m.elim
 refine iL (fun v e n h=>?_) m;cases n with
 | none=>exact u _ h
 | some b=>exact h
theorem qp{C:Ctx}{f:FuncId}{cT:List AV}{d:Option Tmp}{K:AS->Prop}(m:∀s,K s->K' s)(u:pr C f cT d K s):pr C f cT d K' s:=by
 obtain⟨mp,args,bX,r,fin,z,D,I⟩:=u;exact⟨mp,args,bX,r,fin,z,D,m _ I⟩
theorem GF{C:Ctx}{o:Oper}{K:AS->Prop}(u:∀s,K s->K' s)(m:nS C o K s):nS C o K' s:=by
 unfold nS at m ⊢;split at m
 ·split at m
  ·split at m
   ·split at m
    ·obtain⟨f,d,z,D⟩:=m;exact⟨f,d,z,qp u D⟩
    exact m
   exact m
  ·split at m
   ·exact qp u m
   exact m
  exact m
 exact m
theorem pI{C:Ctx}{o:Oper}{K:AS->Prop}(u:∀s,K s->K' s)(m:step C o K s):step C o K' s:=by
 unfold step at m ⊢;split at m
 ·exact⟨u _ m.1,u _ m.2⟩
 split at m
 ·rename_i hn;exact GF u m
 exact zM u m
theorem kh{b:Bool}{p q m u:Prop}(z:p->m)(D:q->u)(h:kF b p q):kF b m u:=by
 cases b<;>simp only[kF]at h ⊢
 ·exact D h
 exact z h
theorem Cx{C:Ctx}{all:List Oper}{K:AS->Prop}(m:∀s,K s->K' s):∀(l:List Oper) (s:AS),kO C all l K s->kO C all l K' s:=by
 intro l
 induction l with
 | nil=>intro s h;exact m _ h
 | cons o l ih=>
  intro s h;unfold kO at h ⊢;split at h
  ·exact pI ih h
  split at h
  ·exact h.elim
  split at h
  ·exact h.elim
  split at h
  ·rename_i want _ _ _ _ _ _ _;refine kh (fun h=>?_) (fun h=>?_) h
   ·split at h
    ·exact pI ih h
    exact ih _ h
   split at h
   ·exact pI ih h
   exact ih _ h
  ·exact ih _ h
  exact h.elim
theorem nx{C:Ctx}{ap f:Bool}{X:List Nat}{o:Oper}{K:AS->Prop}(u:∀s,K s->K' s)(m:mT C ap X f o K s):mT C ap X f o K' s:=by
 unfold mT at m ⊢;split at m
 ·refine iL (fun v e n h=>?_) m;split at h
  ·exact h
  split at h
  ·split at h
   ·exact u _ h
   exact h
  split at h
  ·exact u _ h
  exact h
 exact m
theorem Cy{C:Ctx}{ap:Bool}{X:List Nat}{all:List Oper}{K:AS->Prop}(u:∀s,K s->K' s):∀(l:List Oper) (m:List Bool) (s:AS),kg C ap X all m l K s->kg C ap X all m l K' s:=by
 intro l
 induction l with
 | nil=>intro m s h;cases m<;>exact u _ h
 | cons o l ih=>
  intro m s h;cases m with
  | nil=>exact h
  | cons f m=>
  unfold kg at h ⊢;split at h
  ·exact nx (ih m) h
  split at h
  ·exact h.elim
  split at h
  ·exact h.elim
  split at h
  ·refine kh (fun h=>?_) (fun h=>?_) h
   ·split at h
    ·exact nx (ih m) h
    exact ih m _ h
   split at h
   ·exact nx (ih m) h
   exact ih m _ h
  ·exact ih m _ h
  exact h.elim
theorem pJ{f m:AS->Prop}{K K':Exit->AS->Prop}(u:∀s,f s->m s)(z:∀e s,K e s->K' e s):∀e s,kG f K e s->kG m K' e s:=by
 intro e s h;cases e<;>first | exact u _ h | exact z _ _ h
theorem ss{id:Nat}{K K':Exit->AS->Prop}(m:∀e s,K e s->K' e s):∀e s,ui id K e s->ui id K' e s:=by
 intro e s h;cases e<;>first | exact m _ _ h | exact kh (m _ _) (m _ _) h
variable {A:jR}
theorem lE:∀(c:Code) (K K':Exit->AS->Prop) (s:AS),(∀e s,K e s->K' e s)->ta A c K s->ta A c K' s:=by
 intro c
 induction c with
 | skip=>intro K K' s u h;exact u _ _ h
 | region id ops draw=>
  intro K K' s u h;cases draw with
  | false=>exact Cx (u _) _ _ h
  | true=>obtain⟨X,h⟩:=h;exact⟨X,Cy (fun _ h=>u _ _ h) _ _ _ h⟩
 | seq a b z D=>intro K K' s u h;exact z _ _ _ (pJ (fun s h=>Seen.mono (fun s2 J=>D _ _ _ u J) h) u) h
 | cond c a b z D=>
  intro K K' s u h;simp only[ta]at h ⊢;split at h
  ·exact kh (z _ _ _ u) (D _ _ _ u) h
  exact h
 | block id c ih=>intro K K' s u h;exact ih _ _ _ (ss u) h
 | loop c ih=>
  intro K K' s u h;obtain⟨α,I,m,L,N⟩:=h;exact⟨α,I,m,L,fun x s O=>ih _ _ _ (pJ (fun _ h=>h) u) (N x s O)⟩
 | exit id=>intro K K' s u h;exact u _ _ h
 | ret=>intro K K' s u h;exact u _ _ h
 | rangeFunc=>intro K K' s _ h;exact h.elim
 | scope=>intro K K' s _ h;exact h.elim
 | label=>intro K K' s _ h;exact h.elim
 | goto=>intro K K' s _ h;exact h.elim
 | refuse=>intro K K' s _ h;exact h.elim
def su{α:Type}(R:α->Prop)(ts:α->List (Nat×AV))(hs:α->List (Nat×AB))(s:AS):Prop:=∃y,R y/\jH (ts y) s.t/\jH (hs y) s.h
variable {α:Type}
theorem su.go{R:α->Prop}{m:α->List (Nat×AV)}{hs:α->List (Nat×AB)}{f:AS->Prop}(u:∀y,R y->∀t h,f ⟨lB (m y) t,lB (hs y) h⟩)(h:su R m hs s):f s:=by
 obtain⟨y,z,D,I⟩:=h;have:=u y z s.t s.h
 rwa [oA _ _ D,oA _ _ I]at this
theorem cut{c:Code}{f:AS->Prop}{K:Exit->AS->Prop}(R:α->Prop)(m:α->List (Nat×AV))(hs:α->List (Nat×AB))
  (u:∀y,R y->∀t h,f ⟨lB (m y) t,lB (hs y) h⟩) (z:ta A c (kG (su R m hs) K) s):ta A c (kG f K) s:=
 lE c _ _ s (pJ (fun _ h=>h.go u) fun _ _ h=>h) z
theorem zN{R:α->Prop}{m:α->List (Nat×AV)}{hs:α->List (Nat×AB)}{K:Exit->AS->Prop}(u:∀y,R y->∀t h,K .normal ⟨lB (m y) t,lB (hs y) h⟩):∀e s,kG (su R m hs) K e s->K e s:=by
 intro e s h;cases e<;>first | exact h | exact su.go u h
theorem OW{c:Code}{id:Nat}{K:Exit->AS->Prop}(R:α->Prop)(m:α->List (Nat×AV))(hs:α->List (Nat×AB))
  (u:∀y,R y->∀t h,K .normal ⟨lB (m y) t,lB (hs y) h⟩) (z:ta A c (ui id (kG (su R m hs) K)) s):ta A c (ui id K) s:=
 lE c _ _ s (ss (zN u)) z
end Go.AM
namespace Go.AM
open Go.RowKit
def Cz(d:Nat)(t:Nat->AV)(j:Nat):AV:=sc d (t j)
def xN(d:Nat)(h:Nat->AB):Nat->AB:=ax (fun k=>qX d (h k)) d .none
def Qc(i d:Nat)(t:Nat->AV)(j:Nat):AV:=rn i d (t j)
def Qd(i d:Nat)(h:Nat->AB)(j:Nat):AB:=match bB j d with
 | true=>D5 i d (h i)
 | false=>match bB j i with
  | true=>.none
  | false=>D5 i d (h j)
def A2(o:Oper):Bool:=match o.op with
 | .assign _=>false
 | _=>true
def vS:AB->Bool
 | .row _ _=>true
 | .ai _ _=>true
 | _=>false
abbrev TP:=(Nat->AV)->(Nat->AB)->Prop
def SG(G:TP)(K:AS->Prop):Prop:=∀t h,G t h->K ⟨t,h⟩
def OX(G:TP)(t:Nat->AV)(h:Nat->AB)(d:Nat):AV->Prop
 | .p x=>G (ax t d (.p x)) h
 | .nl=>G (ax t d .nl) h
 | .ow i=>G (ax t d (.ow i)) h
 | .rp i j k=>G (ax t d (.rp i j k)) h
 | .bx i j=>G (ax t d (.bx i j)) h
 | .vw i j k=>G (ax t d (.vw i j k)) h
 | .fn f c=>G (ax t d (.fn f c)) h
 | .tu x=>G (ax t d (.tu x)) h
 | .st x=>G (ax t d (.st x)) h
 | .ifp y x=>G (ax t d (.ifp y x)) h
 | .junk=>G (ax t d .junk) h
def xO(G:TP)(t:Nat->AV)(d:Option Tmp)(v:AV):List (Nat×AB)->(Nat->AB)->Prop
 | (i,b)::r,h=>xO G t d v r (ax h i b)
 | [],h=>match d with
  | some d=>OX G t h d v
  | none=>G t h
def EL(d:Nat):AV->AV
 | .ow i=>match bB i d with
  | true=>.ow d
  | false=>.ow i
 | .bx i j=>match bB i d with
  | true=>.bx d j
  | false=>.bx i j
 | v=>v
theorem vT(d:Nat)(v:AV):EL d v=v:=by
 unfold EL;split
 ·split
  ·rename_i h;rw[aG.1 h]
  rfl
 ·split
  ·rename_i h;rw[aG.1 h]
  rfl
 rfl
def Qe(G:TP)(d:Option Tmp)(t:Nat->AV)(h:Nat->AB):KK:=fun v e n=>match n with
 | none=>xO G t d v e h
 | some _=>False
def Ng(G:TP)(d:Option Tmp)(dd:Nat)(t:Nat->AV)(h:Nat->AB):KK:=fun v e n=>match n with
 | none=>match m_ dd e with
  | true=>xO G t d v e h
  | false=>False
 | some b=>xO G t d (EL dd v) e (ax h dd b)
def Qf(G:TP)(t:Nat->AV)(h:Nat->AB)(d:Nat):AV->Prop
 | .ow i=>match vS (h i) with
  | false=>G (ax t d (.ow i)) h
  | true=>match bB i d with
   | true=>G (ax t d (.ow i)) h
   | false=>G (ax (Qc i d t) d (.ow d)) (Qd i d h)
 | v=>OX G t h d v
def EM(G:TP)(d:Option Tmp)(t:Nat->AV)(h:Nat->AB):AV->Prop
 | .bx id 0=>match h id with
  | .iter mk es k _=>(k=0->xO G t d (.tu [.p (.im (.bool false))]) [] h)/\∀(i:Nat) (p:Value×Value) (k':Nat),es[i]?=some p->k' < k->xO G t d (.tu [.p (.im (.bool true)),.p (.im p.1),.p (.im p.2)]) [] (ax h id (.iter mk es k' (some p)))
  | _=>False
 | _=>False
def OY(mp:List (Nat×Nat))(t:Nat->AV)(j:Nat):AV:=(t j).ez (mR mp)
def OZ(mp:List (Nat×Nat))(h:Nat->AB)(k:Nat):AB:=(h k).ez (mR mp)
def zO(C:Ctx)(f:FuncId)(cT:List AV)(d:Option Tmp)(G:TP)(t:Nat->AV)(h:Nat->AB):Prop:=
 ∃(mp:List (Nat×Nat)) (args:List AV) (bX:List (Nat×AB)) (r:AV) (fin:List (Nat×AB)),cR C f args bX r fin/\(M9 mp bX fin=true/\cT.map (AV.ez (rV mp))=args/\Gg mp bX h mp)/\
  xO G (OY mp t) d (r.ez (jE mp)) [] (xq mp fin mp (OZ mp h))
def nW(C:Ctx)(o:Oper)(G:TP)(t:Nat->AV)(h:Nat->AB):Prop:=match o.op with
 | .call c=>match c.callee with
  | .invoke r name=>match ev t r with
   | .ifp ty (.ow id)=>match h id with
    | .cell _ _ x=>∃f d,u9 C.P ty name f d/\zO C f (D3 d id x::c.args.toList.map (ev t)) o.dst G t h
    | _=>False
   | _=>False
  | .value g=>match g with
   | .func f=>zO C f (c.args.toList.map (ev t)) o.dst G t h
   | _=>False
  | _=>False
 | _=>False
def EN(C:Ctx)(o:Oper)(G:TP)(t:Nat->AV)(h:Nat->AB):Prop:=match Gi C o t with
 | true=>xO G t o.dst (.p (.im (.bool true))) [] h/\xO G t o.dst (.p (.im (.bool false))) [] h
 | false=>match nq C o with
  | true=>nW C o G t h
  | false=>match ly o.op with
  | true=>match o.dst with
   | some d=>aZ C o (ev (Cz d t)) (xN d h) (Ng G (some d) d (Cz d t) (xN d h))
   | none=>aZ C o (ev (Cz 0 t)) (xN 0 h) (Ng G none 0 (Cz 0 t) (xN 0 h))
  | false=>match o.op,o.dst with
   | .assign x,some d=>Qf G t h d (ev t x)
   | .next x false,d=>EM G d t h (ev t x)
   | _,d=>aZ C o (ev t) h (Qe G d t h)
def vU(all:List Oper)(o:Oper)(G1 G0:TP)(t:Nat->AV)(h:Nat->AB):Prop:=match o.guard with
 | none=>G1 t h
 | some (g,want)=>match all[g]? with
  | none=>False
  | some og=>match og.dst with
   | none=>False
   | some tg=>match t tg with
    | .p (.im (.bool b))=>@Bool.rec (fun _=>Prop)
     (match want with
      | false=>G1 (ax t tg (fP false)) h
      | true=>G0 (ax t tg (fP false)) h)
     (match want with
      | true=>G1 (ax t tg (fP true)) h
      | false=>G0 (ax t tg (fP true)) h) b
    | .p (.im (.tuple _))=>G0 t h
    | _=>False
def CA(C:Ctx)(all:List Oper):List Oper->TP->TP
 | [],G,t,h=>G t h
 | o::r,G,t,h=>vU all o (EN C o (CA C all r G)) (fun t h=>xO (CA C all r G) t o.dst mK [] h) t h
section
variable {G:TP} {K:AS->Prop} {t:Nat->AV} {h:Nat->AB} {d:Tmp} {C:Ctx} {o:Oper}
theorem A3(H:SG G K){v:AV}(q:OX G t h d v):K ⟨ax t d v,h⟩:=by cases v<;>exact H _ _ q
variable {d:Option Tmp}
theorem dm(H:SG G K){v:AV}:∀(e:List (Nat×AB)) {h:Nat->AB},xO G t d v e h->K ⟨cU t d v,app h e⟩
 | (i,b)::r,h,q=>dm H r (h:=ax h i b) q
 | [],h,q=>by cases d with
  | none=>exact H _ _ q
  | some d=>exact A3 H q
theorem uo(d:Nat)(h:Nat->AB):xN d h d=.none:=by unfold xN;rw[ak]
theorem A4(H:SG G K){m:Nat}{v:AV}{e:List (Nat×AB)}{n:Option AB}(u:h m=.none)(q:Ng G d m t h v e n):K ⟨cU t d v,match n with
  | none=>ax (app h e) m .none
  | some b=>app (ax h m b) e⟩:=by
 unfold Ng at q;cases n with
 | none=>
  simp only at q ⊢;cases hn:m_ m e with
  | false=>rw[hn]at q;exact q.elim
  | true=>
   rw[hn]at q;have:ax (app h e) m .none=app h e:=eX _ _ _ ((iD (h:=h) hn).trans u);rw[this];exact dm H e q
 | some b=>rw[vT]at q;exact dm H e q
theorem sw(H:SG G K){f:FuncId}{cT:List AV}(q:zO C f cT d G t h):pr C f cT d K ⟨t,h⟩:=by
 obtain⟨mp,args,bX,r,fin,m,u,z⟩:=q;exact⟨mp,args,bX,r,fin,m,u,dm H [] z⟩
theorem Jo(H:SG G K)(q:nW C o G t h):nS C o K ⟨t,h⟩:=by
 unfold nW at q;unfold nS;split at q
 ·rename_i c u;simp only[u];split at q
  ·rename_i r name m;simp only[m];split at q
   ·rename_i ty id z;simp only[z];split at q
    ·rename_i c0 KX x D;simp only[D];obtain⟨f,d,I,J⟩:=q;exact⟨f,d,I,sw H J⟩
    exact q.elim
   exact q.elim
  ·rename_i g m;simp only[m];split at q
   ·exact sw H q
   exact q.elim
  exact q.elim
 exact q.elim
theorem uq(H:SG G K)(q:EN C o G t h):step C o K ⟨t,h⟩:=by
 unfold step;unfold EN at q;cases hn:Gi C o t with
 | true=>
  simp only[hn]at q ⊢;exact⟨dm H [] q.1,dm H [] q.2⟩
 | false=>
  simp only[hn]at q ⊢;cases L:nq C o with
  | true=>
   simp only[L]at q ⊢;exact Jo H q
  | false=>
  simp only[L]at q ⊢;unfold rY;cases hm:ly o.op with
  | true=>
   rw[hm]at q;simp only at q ⊢;cases z:o.dst with
   | some d=>
    rw[z]at q;exact iL (fun v e n m=>by
     have:=A4 H (uo _ _) m;cases n<;>exact this) q
   | none=>
    rw[z]at q;exact iL (fun v e n m=>by
     have:=A4 H (uo _ _) m;cases n<;>exact this) q
  | false=>
   rw[hm]at q;simp only at q ⊢;split
   ·rename_i x d u z;rw[u,z]at q;simp only at q;unfold Qf at q;split
    ·rename_i i D;rw[D]at q;simp only at q;cases hb:h i<;>rw[hb]at q<;>simp only[vS]at q ⊢<;>first | exact H _ _ q | (cases N:bB i d<;>rw[N]at q<;>exact H _ _ q)
    rename_i I;split at q
    ·rename_i i D;exact absurd D (I i)
    exact A3 H q
   ·rename_i x u;rw[u]at q;have q:EM G o.dst t h (ev t x):=q;unfold AQ;unfold EM at q;split at q
    ·rename_i id hid;simp only[hid];split at q
     ·rename_i mk es k c J;simp only[J];exact⟨fun O=>dm H [] (q.1 O),fun i p R U V=>dm H [] (q.2 i p R U V)⟩
     exact q.elim
    exact q.elim
   rename_i W I;have m:aZ C o (ev t) h (Qe G o.dst t h):=by
    split at q
    ·rename_i x d u z;exact absurd z (I x d u)
    ·rename_i x u;exact absurd u (W x)
    exact q
   exact iL (fun v e n m=>by cases n<;>first | exact dm H e m | exact m.elim) m
theorem xP{all:List Oper}(H:SG G K):∀(l:List Oper) {t:Nat->AV} {h:Nat->AB},CA C all l G t h->kO C all l K ⟨t,h⟩
 | [],t,h,q=>H _ _ q
 | o::r,t,h,q=>by
  have ih:SG (CA C all r G) (kO C all r K):=fun _ _ q=>xP H r q;unfold CA vU at q;unfold kO;split at q
  ·rename_i u;(try simp only[u]);exact uq ih q
  rename_i g m u
  (try simp only[u])
  split at q
  ·exact q.elim
  rename_i og D
  (try simp only[D])
  split at q
  ·exact q.elim
  rename_i tg I
  (try simp only[I])
  split at q
  ·rename_i b z
   (try simp only[z])
   cases b<;>cases m<;>first | exact uq ih q | exact dm ih [] q
  ·rename_i xs z
   (try simp only[z])
   exact dm ih [] q
  exact q.elim
end
def Nh(C:Ctx)(ap:Bool)(X:List Nat)(f:Bool)(o:Oper)(G:TP)(t:Nat->AV)(h:Nat->AB):KK:=fun v e n=>match nu o.op n o.dst with
 | false=>False
 | true=>match e with
  | []=>match o.dst with
   | some d=>xO G t (some d) (EL d v) [] (jA h d n)
   | none=>xO G t none v [] (jA h 0 n)
  | p::e=>match Nat.beq (cls C ap o.op) 3&&(fb h (p::e)&&(ap||gD h (p::e))&&FD X f h (p::e)) with
   | false=>False
   | true=>match n with
    | none=>xO G t o.dst v (p::e) h
    | some b=>match o.dst with
     | some d=>xO G t (some d) (EL d v) ((p::e)++[(d,b)]) h
     | none=>xO G t none v ((p::e)++[(0,b)]) h
def ur(C:Ctx)(ap:Bool)(X:List Nat)(all:List Oper):List Bool->List Oper->TP->TP
 | _,[],G,t,h=>G t h
 | [],_::_,_,_,_=>False
 | f::fl,o::r,G,t,h=>vU all o (fun t h=>match sd C ap X f o (ev t) with
   | true=>aZ C o (ev t) h (Nh C ap X f o (ur C ap X all fl r G) t h)
   | false=>False) (fun t h=>xO (ur C ap X all fl r G) t o.dst mK [] h) t h
def CB:List Oper->TP->TP
 | [],G,t,h=>G t h
 | o::r,G,t,h=>match ly o.op with
  | true=>match o.dst with
   | some d=>CB r G (Cz d t) (xN d h)
   | none=>CB r G (Cz 0 t) (xN 0 h)
  | false=>CB r G t h
def qq:List Oper->TP->TP
 | [],G,t,h=>G t h
 | o::r,G,t,h=>match A2 o with
  | true=>qq r G t h
  | false=>match o.dst with
   | none=>False
   | some d=>match t d with
    | .ow i=>match vS (h i) with
     | false=>qq r G t h
     | true=>match bB i d with
      | true=>qq r G t h
      | false=>qq r G (Qc i d t) (Qd i d h)
    | _=>qq r G t h
theorem sx(d:Nat)(b:AB):∀(e:List (Nat×AB)) (h:Nat->AB),app h (e++[(d,b)])=ax (app h e) d b
 | [],h=>rfl
 | (i,x)::r,h=>sx d b r (ax h i x)
section
variable {C:Ctx} {all:List Oper} {G:TP} {K:AS->Prop} {o:Oper} {t:Nat->AV} {h:Nat->AB} {ap:Bool} {X:List Nat} {f:Bool}
theorem GG(H:SG G K){v:AV}{e:List (Nat×AB)}{n:Option AB}(q:Nh C ap X f o G t h v e n):match nu o.op n o.dst with
  | false=>False
  | true=>match Nat.beq (cls C ap o.op) 3 with
   | true=>match fb h e&&(ap||gD h e)&&FD X f h e with
    | true=>K ⟨cU t o.dst v,jA (app h e) (o.dst.getD 0) n⟩
    | false=>False
   | false=>match e with
    | []=>K ⟨cU t o.dst v,jA h (o.dst.getD 0) n⟩
    | _=>False:=by
 unfold Nh at q;cases hn:nu o.op n o.dst with
 | false=>rw[hn]at q;exact q.elim
 | true=>
  rw[hn]at q;simp only at q ⊢;cases e with
  | nil=>
   have:K ⟨cU t o.dst v,jA h (o.dst.getD 0) n⟩:=by
    cases m:o.dst with
    | some d=>rw[m]at q;simp only[vT]at q;exact dm H [] q
    | none=>rw[m]at q;exact dm H [] q
   simp only[fb,gD,AT,eP,Bool.and_true];split<;>exact this
  | cons p e=>
   simp only at q;cases h1:Nat.beq (cls C ap o.op) 3 with
   | false=>rw[h1]at q;exact q.elim
   | true=>
    rw[h1]at q;simp only[oa]at q ⊢;cases h2:fb h (p::e)&&(ap||gD h (p::e))&&FD X f h (p::e) with
    | false=>rw[h2]at q;exact q.elim
    | true=>
     rw[h2]at q;simp only at q ⊢;cases n with
     | none=>exact dm H (p::e) q
     | some b=>
      cases m:o.dst with
      | some d=>
       rw[m]at q;simp only[vT]at q;have:=dm H _ q;rw[sx]at this;exact this
      | none=>
       rw[m]at q;have:=dm H _ q;rw[sx]at this;exact this
theorem sy(H:SG G K) (q:match sd C ap X f o (ev t) with
   | true=>aZ C o (ev t) h (Nh C ap X f o G t h)
   | false=>False):mT C ap X f o K ⟨t,h⟩:=by
 unfold mT;split at q
 ·rename_i hl;simp only[hl];exact iL (fun v e n m=>by
   have:=GG H m;unfold nu at this ⊢;cases n<;>cases e<;>exact this) q
 exact q.elim
theorem uu(H:SG G K):∀(m:List Bool) (l:List Oper) {t:Nat->AV} {h:Nat->AB},ur C ap X all m l G t h->kg C ap X all m l K ⟨t,h⟩
 | m,[],t,h,q=>by cases m<;>exact H _ _ q
 | [],_::_,_,_,q=>q.elim
 | f::m,o::r,t,h,q=>by
  have ih:SG (ur C ap X all m r G) (kg C ap X all m r K):=fun _ _ q=>uu H m r q;unfold ur vU at q;unfold kg;split at q
  ·rename_i z;(try simp only[z]);exact sy ih q
  rename_i g u z
  (try simp only[z])
  split at q
  ·exact q.elim
  rename_i og I
  (try simp only[I])
  split at q
  ·exact q.elim
  rename_i tg J
  (try simp only[J])
  split at q
  ·rename_i b D
   (try simp only[D])
   cases b<;>cases u<;>first | exact sy ih q | exact dm ih [] q
  ·rename_i xs D
   (try simp only[D])
   exact dm ih [] q
  exact q.elim
theorem oC(H:SG G K):∀(l:List Oper) {t:Nat->AV} {h:Nat->AB},CB l G t h->K (sj l ⟨t,h⟩)
 | [],_,_,q=>H _ _ q
 | o::r,t,h,q=>by
  unfold CB at q;unfold sj;cases hm:ly o.op with
  | true=>
   rw[hm]at q;cases m:o.dst with
   | some d=>rw[m]at q;exact oC H r q
   | none=>rw[m]at q;exact oC H r q
  | false=>rw[hm]at q;exact oC H r q
theorem iy(H:SG G K):∀(l:List Oper) {t:Nat->AV} {h:Nat->AB},qq l G t h->K (uh l ⟨t,h⟩)
 | [],_,_,q=>H _ _ q
 | o::r,t,h,q=>by
  unfold qq at q;show K (uh r (sk o _));unfold sk;cases hm:A2 o with
  | true=>
   rw[hm]at q;have:∀x,o.op≠.assign x:=fun x m=>by rw[A2,m]at hm;cases hm
   split
   ·rename_i x d m _;exact absurd m (this _)
   exact iy H r q
  | false=>
   rw[hm]at q;simp only at q;split at q
   ·exact q.elim
   rename_i d D;have u:∃x,o.op=.assign x:=by
    unfold A2 at hm;split at hm
    ·rename_i x m;exact⟨x,m⟩
    cases hm
   obtain⟨x,u⟩:=u;rw[u,D];simp only;split at q
   ·rename_i i z
    (try simp only[z])
    cases hb:h i<;>rw[hb]at q<;>simp only[vS]at q ⊢<;>first
     | exact iy H r q
     | (cases I:bB i d<;>rw[I]at q<;>exact iy H r q)
   rename_i J
   first
    | exact iy H r q
    | (
      split
      ·rename_i i z;exact absurd z (J i)
      exact iy H r q)
end
def zP:Code->Option Nat
 | .seq a _=>zP a
 | .region i _ _=>some i
 | .block _ c=>zP c
 | .cond _ x y=>match zP x with
  | some i=>some i
  | none=>zP y
 | .loop c=>zP c
 | _=>none
def CC(k:Nat):List Nat->Bool
 | []=>false
 | i::r=>match bB i k with
  | true=>true
  | false=>CC k r
def L9(l:List Nat):Option Nat->Bool
 | some k=>CC k l
 | none=>false
def GH(f:TP)(K:Exit->TP):Exit->TP
 | .normal=>f
 | .exit i=>K (.exit i)
 | .ret=>K .ret
 | e=>K e
def GI(id:Nat)(K:Exit->TP):Exit->TP
 | .exit i=>fun t h=>match bB i id with
  | true=>K .normal t h
  | false=>K (.exit i) t h
 | .normal=>K .normal
 | .ret=>K .ret
 | e=>K e
structure Hint where
 M:List Nat
 B:List Nat
 X:List (Nat×List Nat)
 K:List Nat
 F:List (Nat×List Bool)
 S:List Nat
def GJ{α:Type}(d:α)(k:Nat):List (Nat×α)->α
 | []=>d
 | (i,x)::r=>match bB i k with
  | true=>x
  | false=>GJ d k r
def L_:List Oper->List Bool
 | []=>[]
 | _::r=>true::L_ r
def Ma(Q:Hint)(id:Nat)(l:List Oper):List Bool:=GJ (L_ l) id Q.F
def iM(Q:Hint)(C:Ctx):Code->Bool
 | .region id ops draw=>!draw||(decide ((ops.toList.any fun o=>gm C o.op)=CC id Q.K)&&decide (fS C (CC id Q.K) ops=Ma Q id ops.toList))
 | .seq a b=>iM Q C a&&iM Q C b
 | .cond _ a b=>iM Q C a&&iM Q C b
 | .block _ c=>iM Q C c
 | .loop c=>iM Q C c
 | _=>true
structure LW(Q:Hint)(A:jR)(c:Code)(K:Exit->TP)(t:Nat->AV)(h:Nat->AB):Prop where
 out:iM Q A.C c=true->ta A (.loop c) (fun e s=>K e s.t s.h) ⟨t,h⟩
structure SW(Q:Hint)(A:jR)(a b:Code)(K:Exit->TP)(t:Nat->AV)(h:Nat->AB):Prop where
 out:iM Q A.C a=true->iM Q A.C b=true->ta A (.seq a b) (fun e s=>K e s.t s.h) ⟨t,h⟩
structure BW(Q:Hint)(A:jR)(c:Code)(id:Nat)(K:Exit->TP)(t:Nat->AV)(h:Nat->AB):Prop where
 out:iM Q A.C c=true->ta A (.block id c) (fun e s=>K e s.t s.h) ⟨t,h⟩
def fB(Q:Hint)(A:jR):Code->(Exit->TP)->TP
 | .skip,K,t,h=>K .normal t h
 | .region id ops draw,K,t,h=>match draw with
  | false=>CA A.C ops.toList ops.toList (K .normal) t h
  | true=>CB ops.toList (ur A.C (CC id Q.K) (GJ [] id Q.X) ops.toList (Ma Q id ops.toList) ops.toList (qq ops.toList (K .normal))) t h
 | .seq a b,K,t,h=>match L9 Q.S (zP b),L9 Q.M (zP b) with
  | true,_=>SW Q A a b K t h
  | false,false=>fB Q A a (GH (fB Q A b K) K) t h
  | false,true=>fB Q A a (GH (fun t h=>Seen A ⟨t,h⟩ fun s=>fB Q A b K s.t s.h) K) t h
 | .cond c a b,K,t,h=>match ev t c with
  | .p (.im (.bool x))=>@Bool.rec (fun _=>Prop) (fB Q A b K t h) (fB Q A a K t h) x
  | _=>False
 | .block id c,K,t,h=>match CC id Q.B with
  | false=>fB Q A c (GI id K) t h
  | true=>BW Q A c id K t h
 | .loop c,K,t,h=>LW Q A c K t h
 | .exit id,K,t,h=>K (.exit id) t h
 | .ret,K,t,h=>K .ret t h
 | _,_,_,_=>False
variable {Q:Hint} {A:jR}
theorem ml:∀(c:Code) {G:Exit->TP} {K:Exit->AS->Prop} {t:Nat->AV} {h:Nat->AB},iM Q A.C c=true->(∀e,SG (G e) (K e))->fB Q A c G t h->ta A c K ⟨t,h⟩:=by
 intro c
 induction c with
 | skip=>intro G K t h m H q;exact H _ _ _ q
 | region id ops draw=>
  intro G K t h m H q;cases draw with
  | false=>exact xP (H .normal) _ q
  | true=>
   simp only[iM,vy,fQ,aw,dS]at m;refine⟨GJ [] id Q.X,?_⟩;rw[m.1,m.2];exact oC (fun _ _ q=>uu (fun _ _ q=>iy (H .normal) _ q) _ _ q) _ q
 | seq a b u z=>
  intro G K t h m H q;simp only[iM,aw]at m;unfold fB at q;split at q
  ·exact lE (.seq a b) _ _ _ (fun e s q=>H e _ _ q) (q.out m.1 m.2)
  ·refine u m.1 (fun e t h q=>?_) q;cases e with
   | normal=>exact Seen.of (aY.refl _ _) (z m.2 H q)
   | _=>exact H _ _ _ q
  refine u m.1 (fun e t h q=>?_) q;cases e with
  | normal=>
   exact Seen.mono (fun s q=>z m.2 H q) q
  | _=>exact H _ _ _ q
 | cond c a b u z=>
  intro G K t h m H q;simp only[iM,aw]at m;unfold fB at q;unfold ta;split at q
  ·rename_i x D;simp only[D];cases x
   ·exact z m.2 H q
   exact u m.1 H q
  exact q.elim
 | block id c ih=>
  intro G K t h m H q;unfold fB at q;split at q
  ·refine ih m (fun e t h q=>?_) q;cases e with
   | exit i=>
    show kF (bB i id) _ _;simp only[GI]at q;cases hb:bB i id<;>rw[hb]at q<;>exact H _ _ _ q
   | _=>exact H _ _ _ q
  exact lE (.block id c) _ _ _ (fun e s q=>H e _ _ q) (q.out m)
 | loop c ih=>intro G K t h m H q;exact lE (.loop c) _ _ _ (fun e s q=>H e _ _ q) (q.out m)
 | exit id=>intro G K t h m H q;exact H _ _ _ q
 | ret=>intro G K t h m H q;exact H _ _ _ q
 | rangeFunc=>intro G K t h m H q;exact q.elim
 | scope=>intro G K t h m H q;exact q.elim
 | label=>intro G K t h m H q;exact q.elim
 | goto=>intro G K t h m H q;exact q.elim
 | refuse=>intro G K t h m H q;exact q.elim
variable {c:Code}
theorem d_{K:Exit->TP}{t:Nat->AV}{h:Nat->AB}{α:Type}(R:α->Prop)(z:α->List (Nat×AV))(hs:α->List (Nat×AB))(m:α->Nat)(D:α)(s0:AS)(J:aY A ⟨t,h⟩ s0)(L:R D)(N:jH (z D) s0.t)(O:jH (hs D) s0.h)
  (u:∀x,R x->∀t h,fB Q A c (GH (fun t h=>∃y I,aY A ⟨t,h⟩ I/\R y/\m y<m x/\jH (z y) I.t/\jH (hs y) I.h) K) (lB (z x) t) (lB (hs x) h)):LW Q A c K t h:=
 ⟨fun U=>Gv R z hs m D s0 J L N O fun x V t h=>ml c U (fun e t h q=>by cases e<;>exact q) (u x V t h)⟩
theorem O3{id:Nat}{K:Exit->TP}{t:Nat->AV}{h:Nat->AB}{α:Type}(R:α->Prop)(m:α->List (Nat×AV))(hs:α->List (Nat×AB))
  (u:∀y,R y->∀t h,K .normal (lB (m y) t) (lB (hs y) h)) (z:fB Q A c (GI id (GH (fun t h=>∃y,R y/\jH (m y) t/\jH (hs y) h) K)) t h):BW Q A c id K t h:=
 ⟨fun D=>OW R m hs u (ml c D (K:=ui id (kG (su R m hs) fun e s=>K e s.t s.h)) (fun e t h q=>by
  cases e with
  | exit i=>
   show kF (bB i id) _ _;simp only[GI]at q;cases hb:bB i id<;>rw[hb]at q<;>exact q
  | _=>exact q) z)⟩
theorem lG{G:TP}{t:Nat->AV}{h:Nat->AB}{s2:AS}(hl:aY A ⟨t,h⟩ s2)(q:G s2.t s2.h):Seen A ⟨t,h⟩ fun s=>G s.t s.h:=Seen.of hl q
theorem zB:(∀(p:Prop) [Decidable p],(decide p=true)=p)/\(∀(p:Prop) [Decidable p],(decide p=false)=¬p)/\(∀(α:Type) [_root_.LE α] (a b:α),(a>=b)=(b<=a))/\(∀(α:Type) [_root_.LT α] (a b:α),(a>b)=(b<a))/\(∀b:Bool,((!b)=true)=(b=false))/\(∀b:Bool,((!b)=false)=(b=true)):=
 ⟨fun p _=>by simp,fun p _=>by simp,fun _ _ _ _=>rfl,fun _ _ _ _=>rfl,fun b=>by simp,fun b=>by simp⟩
class Jp(b:Bool)(p q:outParam Prop):Prop where
 yes:b=true->p
 no:b=false->q
instance (priority:=10) O4 {b:Bool}:Jp b (b=true) (b=false):=⟨id,id⟩
instance RM{p:Prop}[Decidable p]:Jp (decide p) p (¬p):=⟨ov,of_decide_eq_false⟩
instance Qh{α:Type}[_root_.LE α]{a b:α}[Decidable (a>=b)]:Jp (decide (a>=b)) (b<=a) (¬b<=a):=⟨ov,of_decide_eq_false⟩
instance Qi{α:Type}[_root_.LT α]{a b:α}[Decidable (a>b)]:Jp (decide (a>b)) (b<a) (¬b<a):=⟨ov,of_decide_eq_false⟩
instance RN{b:Bool}{p q:Prop}[i:Jp b p q]:Jp (!b) q p:=⟨fun h=>i.no (by simpa using h),fun h=>i.yes (by simpa using h)⟩
theorem Z{α:Sort _}{a:α}:a=a:=rfl
theorem Y:True:=trivial
theorem wO{p q:Prop}(h:p/\q):p/\q:=h
theorem iW{b:Bool}{P Q p q:Prop}[k:Jp b p q](f:p->P)(g:q->Q):@Bool.rec (fun _=>Prop) Q P b:=by
 cases b
 ·exact g (k.no rfl)
 exact f (k.yes rfl)
structure vV where
 w0:World
 mv:Nat->Prop
 s0:Nat->Prop
 n:Nat
 pin:Nat->Value
def vW (Q : Hint) (C : Ctx) (fn : Func) (c : Code) (k : Nat) : Bool := !(fn.name == "runtime.NumGoroutine") && (Nat.ble (k + (fn.ntmps - k)) 100000 && (gn C (k + (fn.ntmps - k)) c && iM Q C c))
variable {fn:Func} {args:List Arg}
theorem RO(Q:Hint){C:Ctx}(hC:aL C){f:FuncId}{r:AR}{fin:List Fin}(D:C.P.funcs[f]?=some fn)(hb:fn.body=some c)(m:vW Q C fn c args.length=true)
  (K:vV->Exit->TP) (I:∀p e t h,K p e t h->∃u,aY ⟨C,p.w0,p.mv,p.s0,p.n,p.pin⟩ ⟨t,h⟩ u/\Ci C fn.results.toList args r fin e u)
  (h:∀p:vV,∃s2,aY ⟨C,p.w0,p.mv,p.s0,p.n,p.pin⟩ ⟨qi args,jG args⟩ s2/\fB Q ⟨C,p.w0,p.mv,p.s0,p.n,p.pin⟩ c (K p) s2.t s2.h):aT C f args r fin:=by
 simp only[vW,aw,vn,Nat.ble_eq]at m;refine I3 hC D hb m.1 (by omega) fun A J L S rho a w z=>?_;obtain⟨_,w0,mv,s0,n,pin⟩:=A;subst J;obtain⟨s2,hl,N⟩:=h ⟨w0,mv,s0,n,pin⟩;obtain⟨S',rho',O⟩:=hl S rho a w z;have:=uj hC c (fun e s=>∃u,aY ⟨_,w0,mv,s0,n,pin⟩ s u/\Ci _ fn.results.toList args r fin e u) s2 (by show gn _ _ c=true;rw[L];exact m.2.2.1) (ml c m.2.2.2 (fun e t h q=>I _ e t h q) N) S' rho' a w O;refine wp_mono this fun e R w' U=>?_;obtain⟨V,W,s3,Y,Z,O6,m⟩:=U;obtain⟨S5,Jq,xj⟩:=O6 V W R w' Y;exact⟨S5,Jq,Z,xj,m⟩
theorem RP(Q:Hint){C:Ctx}(hC:aL C){f:FuncId}{r:AR}{fin:List Fin}(m:C.P.funcs[f]?=some fn)(hb:fn.body=some c)(u:vW Q C fn c args.length=true)
  (h:∀p:vV,∃s2,aY ⟨C,p.w0,p.mv,p.s0,p.n,p.pin⟩ ⟨qi args,jG args⟩ s2/\fB Q ⟨C,p.w0,p.mv,p.s0,p.n,p.pin⟩ c (fun e t h=>Ci C fn.results.toList args r fin e ⟨t,h⟩) s2.t s2.h):aT C f args r fin:=
 RO Q hC m hb u _ (fun _ _ _ _ q=>⟨_,aY.refl _ _,q⟩) h
theorem Mb(Q:Hint){C:Ctx}(hC:aL C){f:FuncId}{r:AR}{fin:List Fin}(m:C.P.funcs[f]?=some fn)(hb:fn.body=some c)(u:vW Q C fn c args.length=true)
  (h:∀p:vV,fB Q ⟨C,p.w0,p.mv,p.s0,p.n,p.pin⟩ c (fun e t h=>Ci C fn.results.toList args r fin e ⟨t,h⟩) (qi args) (jG args)):aT C f args r fin:=
 RP Q hC m hb u fun p=>⟨_,aY.refl _ _,h p⟩
theorem fW{C:Ctx}(hC:aL C){f:FuncId}{r:AR}{fin:List Fin}(m:C.P.funcs[f]?=some fn)(hb:fn.body=some c)(u:vW ⟨[],[],[],[],[],[]⟩ C fn c args.length=true)
  (h:∀p:vV,fB ⟨[],[],[],[],[],[]⟩ ⟨C,p.w0,p.mv,p.s0,p.n,p.pin⟩ c (fun e t h=>Ci C fn.results.toList args r fin e ⟨t,h⟩) (qi args) (jG args)):aT C f args r fin:=Mb _ hC m hb u h
variable {bX:List (Nat×AB)}
theorem Qj(Q:Hint){C:Ctx}(hC:aL C){f:FuncId}{args:List AV}{r:AV}{fin:List (Nat×AB)}(D:C.P.funcs[f]?=some fn)(hb:fn.body=some c)(m:vW Q C fn c args.length=true)
  (K:vV->Exit->TP) (I:∀p e t h,K p e t h->∃u,aY ⟨C,p.w0,p.mv,p.s0,p.n,p.pin⟩ ⟨t,h⟩ u/\xB C fn.results.toList r fin e u)
  (h:∀p:vV,Seen ⟨C,p.w0,p.mv,p.s0,p.n,p.pin⟩ ⟨nT args,bp bX⟩ fun s=>fB Q ⟨C,p.w0,p.mv,p.s0,p.n,p.pin⟩ c (K p) s.t s.h):cR C f args bX r fin:=by
 simp only[vW,aw,vn,Nat.ble_eq]at m;refine Gl hC D hb m.1 (by omega) fun A J L S rho a w z=>?_;obtain⟨_,w0,mv,s0,n,pin⟩:=A;subst J;obtain⟨S',rho',s2,N,O⟩:=h ⟨w0,mv,s0,n,pin⟩ S rho a w z;have:=uj hC c (fun e s=>∃u,aY ⟨_,w0,mv,s0,n,pin⟩ s u/\xB _ fn.results.toList r fin e u) s2 (by show gn _ _ c=true;rw[L];exact m.2.2.1) (ml c m.2.2.2 (fun e t h q=>I _ e t h q) O) S' rho' a w N;refine wp_mono this fun e R w' U=>?_;obtain⟨V,W,s3,Y,Z,O6,m⟩:=U;obtain⟨S5,Jq,xj⟩:=O6 V W R w' Y;exact⟨S5,Jq,Z,xj,m⟩
theorem Kz(Q:Hint){C:Ctx}(hC:aL C){f:FuncId}{args:List AV}{r:AV}{fin:List (Nat×AB)}(u:C.P.funcs[f]?=some fn)(hb:fn.body=some c)(z:vW Q C fn c args.length=true)
  (h:∀p:vV,fB Q ⟨C,p.w0,p.mv,p.s0,p.n,p.pin⟩ c (fun e t h=>∃m,aY ⟨C,p.w0,p.mv,p.s0,p.n,p.pin⟩ ⟨t,h⟩ m/\xB C fn.results.toList r fin e m) (nT args) (bp bX)):cR C f args bX r fin:=
 Qj Q hC u hb z _ (fun _ _ _ _ q=>q) fun p=>Seen.of (aY.refl _ _) (h p)
theorem Jr(Q:Hint){C:Ctx}(hC:aL C){f:FuncId}{args:List AV}{r:AV}{fin:List (Nat×AB)}(m:C.P.funcs[f]?=some fn)(hb:fn.body=some c)(u:vW Q C fn c args.length=true)
  (h:∀p:vV,fB Q ⟨C,p.w0,p.mv,p.s0,p.n,p.pin⟩ c (fun e t h=>xB C fn.results.toList r fin e ⟨t,h⟩) (nT args) (bp bX)):cR C f args bX r fin:=
 Qj Q hC m hb u _ (fun _ _ _ _ q=>⟨_,aY.refl _ _,q⟩) fun p=>Seen.of (aY.refl _ _) (h p)
end Go.AM
namespace Go.AM
open Go.RowKit
def vX (C : Ctx) (f : FuncId) : Prop := ∃ fn : Func, C.P.funcs[f]? = some fn ∧ (fn.name == "runtime.NumGoroutine") = false ∧ fn.body.isNone = false
theorem rj{S:Nat->Prop}{w:World}{P:Program}{m:List Value}{u:Array Value}(hl:(m.map fun a=>Arg.pv (.im a)).length=u.size)(I:∀(j:Nat) x v,(m.map fun a=>Arg.pv (.im a))[j]?=some x->u[j]?=some v->yz S w P x v):u=m.toArray:=by
 apply gV;apply fj;intro i;by_cases z:i<m.length
 ·have J:(m.map fun a=>Arg.pv (.im a))[i]?=some (.pv (.im m[i])):=by rw[ao,aM z];rfl
  have D:i<u.size:=by rw[<-hl];simpa using z
  have L:=I i _ u[i] J (bE D);have N:u[i]=m[i]:=by
   have:ay S w (.im m[i]) u[i]:=L;generalize u[i]=v at this;cases this;rfl
  rw[gy,bE D,N];simp[z]
 rw[dI (by simpa [<-hl] using z)];rw[dI (by simpa using z)]
theorem vY{S:Nat->Prop}{w:World}{P:Program}:∀l:List Value,eV S w P (l.map fun a=>Arg.pv (.im a)) [] l:=by
 intro l
 induction l with
 | nil=>trivial
 | cons a l ih=>exact ih
theorem rk{w:World}:∀(l:List Value) (i g:Nat),¬cq w (l.map fun a=>Arg.pv (.im a)) [] l i g:=by
 intro l
 induction l with
 | nil=>exact fun i g h=>h
 | cons a l ih=>
  intro i g h;cases i with
  | zero=>exact h
  | succ i=>exact ih i g h
theorem sB{w w':World}(l:List Value):p6 w w' (l.map fun a=>Arg.pv (.im a)) [] l.toArray:=⟨fun i g h=>(rk l i g h).elim,fun i j g h=>(rk l i g h).elim⟩
theorem iz{C:Ctx}{f:FuncId}(m:List Value)(r:Value)(z:vX C f)(h:∀S w,C.E S w->(∀b,S b->b<w.heap.size)->Calls C.P f m.toArray w fun e w'=>e=.returned r/\Below w.heap.size w w'):
  aT C f (m.map fun a=>.pv (.im a)) (.p (.im r)) []:=by
 refine⟨z,fun S w vs D hS hl I _=>?_⟩;have J:=rj hl I;subst J;exact (h S w D hS).mono fun e w' ⟨L,hb⟩=>⟨r,S,L,⟨hb.os,hb.tape,hb.output,hb.size,fun k N _=>hb.block k N⟩,fun _ h=>h,fun b u=>bg (hS b u) hb.size,fun b u=>.inl u,.im r,vY m,sB m,fun g h=>by cases h⟩
theorem xQ{C:Ctx}(hC:aL C){f:FuncId}(D:List Value)(e:TypeId)(xs:List Value)(J:TI)(U:C.T e=some J)(m:J.size=1)(V:∀v∈xs,v.oneCell'=true)(hlen:xs.length<=maxLen)(W:vX C f)
  (h:∀S w,C.E S w->(∀b,S b->b<w.heap.size)->Calls C.P f D.toArray w fun e' w'=>e'=.returned (.slice (some ⟨w.heap.size,0,none⟩) xs.length xs.length)/\w'=w.alloc (.cells xs.toArray e)):
  aT C f (D.map fun a=>.pv (.im a)) (.own e (xs.map fun v=>[.im v])) []:=by
 refine⟨W,fun S w vs Y hS hl L _=>?_⟩;have Z:=rj hl L;subst Z;obtain⟨info,z,h1,I,_⟩:=hC.eL e J U;refine (h S w Y hS).mono fun e' w' ⟨he,hw⟩=>?_;subst hw;have DX:(w.alloc (.cells xs.toArray e)).heap[w.heap.size]?=some (.cells xs.toArray e (0,0)):=by unfold World.alloc;exact Array.getElem?_push_size
 have RQ:(w.alloc (.cells xs.toArray e)).heap.size=w.heap.size+1:=fT ..;have hb:Below w.heap.size w (w.alloc (.cells xs.toArray e)):=(Below.refl _ _).alloc (aC _) _;refine⟨_,S,he,⟨hb.os,hb.tape,hb.output,hb.size,fun k hk _=>hb.block k hk⟩,fun _ h=>h,fun b N=>bg (hS b N) hb.size,fun b N=>.inl N,⟨⟨info,xs,h1,by omega,⟨?_,.inr ⟨w.heap.size,xs.length,xs.toArray,?_,bd _,DX,?_,hlen,?_,?_⟩⟩,?_,V,?_⟩,?_⟩,vY D,sB D,?_⟩
 ·simp[I,m]
 ·simp
 ·simp
 ·simp[I,m]
 ·simp[I,m]
 ·intro r L;obtain⟨v,_,rfl⟩:=aR.1 L;simp[I,m]
 ·intro a r j x R O;rw[ao]at R;obtain⟨v,hv,rfl⟩:=az.1 R;cases j with
  | zero=>
   simp at O;subst O;exact⟨v,by rw[I,m,Nat.mul_one,jS];exact hv,.im v⟩
  | succ j=>simp at O
 ·intro g u hs;injection u with u;have u:w.heap.size=g:=u;have:=hS g hs;omega
 intro g _ u;have u:=al rfl u;injection u with u;have u:w.heap.size=g:=u;exact⟨by omega,.inl (by omega),fun i=>rk D i g⟩
end Go.AM
