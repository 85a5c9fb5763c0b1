/- Part 3 of the proof of HouseShopsMatchSpec. -/
import Derived.Test.YtedjhhieekileaaGreatDoorM02
import Derived.WideKeyRuns
set_option linter.unusedVariables false
set_option linter.unusedSimpArgs false
set_option maxRecDepth 100000
set_option maxHeartbeats 8000000
namespace Go
abbrev q8:=@Bool.false_or
abbrev kf:=@Bool.not_true
abbrev dA:=@List.any_eq_true
abbrev vz:=@List.map_congr_left
abbrev q9:=@Bool.or_false
abbrev vA:=@List.mem_append_left
abbrev vB:=@List.mem_filterMap
abbrev l_:=@List.mem_append_right
abbrev ma:=@List.filter_cons
abbrev ov:=@List.mem_filter
abbrev fT:=@List.flatMap_cons
abbrev ib:=@List.map_map
abbrev ic:=@List.mem_flatMap
abbrev ig:=@List.getElem?_replicate
abbrev gG:=@List.set_append_right
abbrev ij:=@List.replicate_succ
abbrev ik:=@List.set_cons_zero
abbrev il:=@of_decide_eq_true
abbrev kl:=@Array.size_push
end Go
namespace Go.AM
open Go.RowKit
def isApp:Op->Bool
 | .call c=>match c.callee with
  | .builtin .append=>true
  | _=>false
 | _=>false
def Eg(m:Nat->Bool):Nat->Bool
 | 0=>false
 | n+1=>m n||Eg m n
def gm(C:Ctx)(o:Op):Bool:=isApp o||match o with
 | .call c=>match c.callee with
  | .value (.func f)=>Eg (C.md f) 8||C.bl f
  | .value (.tmp _)=>true
  | _=>false
 | _=>false
def cls(C:Ctx)(ap:Bool):Op->Nat
 | .move _=>0
 | .assign _=>0
 | .pick _ _ _=>0
 | .binOp _ _ _ _ _=>0
 | .unOp _ _ _=>0
 | .convert _ _ _=>0
 | .extract _ _=>0
 | .index _ _ _=>0
 | .field _ _ _=>0
 | .makeFunc _ _ _=>0
 | .fieldAddr _ _ _=>match ap with
  | true=>2
  | false=>1
 | .nilCheck _=>match ap with
  | true=>2
  | false=>1
 | .store _ _ _=>3
 | .mapUpdate _ _ _ _=>3
 | .call c=>match c.callee with
  | .builtin .append=>3
  | .builtin .clear=>3
  | .builtin .min=>0
  | .builtin .max=>0
  | .value (.func f)=>match Eg (C.md f) 8||C.bl f with
   | true=>3
   | false=>2
  | .value (.tmp _)=>3
  | _=>2
 | _=>2
def Eh:AB->AB->Bool
 | .row e _,.row e' _=>bB e e'
 | .box _,.box _=>true
 | .map _ _,.map _ _=>true
 | _,_=>false
def Ei:AB->Bool
 | .none=>false
 | _=>true
def fb(h:Nat->AB):List (Nat×AB)->Bool
 | []=>true
 | (i,_)::r=>Ei (h i)&&fb h r
def gD(h:Nat->AB):List (Nat×AB)->Bool
 | []=>true
 | (i,b)::r=>Eh (h i) b&&gD h r
def nu(op:Op):Option AB->Option Tmp->Bool
 | none,_=>true
 | some _,some _=>ly op
 | some _,none=>false
def py:AV->Bool
 | .p _=>true
 | _=>false
def pz(o:Oper)(rho:Operand->AV):Bool:=match o.op with
 | .load _ a=>py (rho a)
 | .indexAddr _ x _=>py (rho x)
 | .slice _ x _ _ none=>py (rho x)
 | .build _ ps=>ps.toList.all fun p=>py (rho p.2)
 | .call c=>match c.callee,c.args.toList with
  | .builtin .len,[x]=>py (rho x)
  | _,_=>false
 | .fieldAddr _ x _=>py (rho x)
 | .nilCheck x=>py (rho x)
 | _=>false
def tx:List Nat->Nat->Bool
 | [],_=>false
 | i::r,k=>match bB i k with
  | true=>true
  | false=>tx r k
def LF(X:List Nat):AV->Bool
 | .ow id=>tx X id
 | .rp id _ _=>tx X id
 | .bx id _=>tx X id
 | _=>false
def lz(X:List Nat)(o:Oper)(rho:Operand->AV):Bool:=match o.op with
 | .load _ a=>LF X (rho a)
 | .indexAddr _ x _=>LF X (rho x)
 | .lookup _ x _ _=>LF X (rho x)
 | .call c=>match c.callee,c.args.toList with
  | .builtin .len,[x]=>LF X (rho x)
  | _,_=>false
 | _=>false
def pA(X:List Nat)(o:Oper)(rho:Operand->AV):Bool:=match o.op with
 | .makeSlice _ _ _=>tx X (o.dst.getD 0)
 | .buildSlice _ _ ps=>tx X (o.dst.getD 0)&&ps.toList.all fun p=>py (rho p.2)
 | _=>false
def Ty(X:List Nat)(o:Oper)(rho:Operand->AV):Bool:=lz X o rho||pA X o rho
def Kt(X:List Nat):List (Nat×AB)->Bool
 | []=>true
 | (i,_)::r=>match tx X i with
  | true=>false
  | false=>Kt X r
def kc:AB->Nat
 | .box _=>1
 | .jt _=>1
 | .row _ _=>2
 | .ai _ _=>2
 | _=>0
def ox(X:List Nat)(h:Nat->AB):List (Nat×AB)->Bool
 | []=>true
 | (i,b)::r=>match tx X (i+1000000) with
  | true=>Nat.beq (kc b) (kc (h i))&&(!Nat.beq (kc (h i)) 0&&ox X h r)
  | false=>ox X h r
def FD(X:List Nat)(f:Bool)(h:Nat->AB)(e:List (Nat×AB)):Bool:=(f||Kt X e)&&ox X h e
theorem AT(X:List Nat)(f:Bool)(h:Nat->AB):FD X f h []=true:=by simp[FD,Kt,ox]
def Ou(X:List Nat):AV->Bool
 | .bx id _=>tx X (id+1000000)
 | .rp id _ _=>tx X (id+1000000)
 | _=>false
def pB(X:List Nat)(o:Oper)(rho:Operand->AV):Bool:=match o.op with
 | .fieldAddr _ x _=>Ou X (rho x)
 | .nilCheck x=>Ou X (rho x)
 | _=>false
def sd(C:Ctx)(ap:Bool)(X:List Nat)(f:Bool)(o:Oper)(rho:Operand->AV):Bool:=f||pz o rho||Ty X o rho||pB X o rho||Nat.beq (cls C ap o.op) 3
def Ej(C:Ctx)(ap:Bool)(X:List Nat)(f:Bool)(o:Oper)(K:AS->Prop)(s:AS):Prop:=
 aZ C o (ev s.t) s.h fun v eff new=>match nu o.op new o.dst with
  | false=>False
  | true=>match Nat.beq (cls C ap o.op) 3 with
   | true=>match fb s.h eff&&(ap||gD s.h eff)&&FD X f s.h eff with
    | true=>K ⟨cU s.t o.dst v,jA (app s.h eff) (o.dst.getD 0) new⟩
    | false=>False
   | false=>match eff with
    | []=>K ⟨cU s.t o.dst v,jA s.h (o.dst.getD 0) new⟩
    | _=>False
def mT(C:Ctx)(ap:Bool)(X:List Nat)(f:Bool)(o:Oper)(K:AS->Prop)(s:AS):Prop:=match sd C ap X f o (ev s.t) with
 | true=>Ej C ap X f o K s
 | false=>False
def kg(C:Ctx)(ap:Bool)(X:List Nat)(all:List Oper):List Bool->List Oper->(AS->Prop)->AS->Prop
 | _,[],K,s=>K s
 | [],_::_,_,_=>False
 | f::fl,o::r,K,s=>match o.guard with
  | none=>mT C ap X f o (kg C ap X all fl r K) s
  | some (g,want)=>match all[g]? with
   | none=>False
   | some og=>match og.dst with
    | none=>False
    | some tg=>match s.t tg with
     | .p (.im (.bool b))=>kF b
       (match want with
        | true=>mT C ap X f o (kg C ap X all fl r K) ⟨ax s.t tg (fP true),s.h⟩
        | false=>kg C ap X all fl r K ⟨cU (ax s.t tg (fP true)) o.dst mK,s.h⟩)
       (match want with
        | false=>mT C ap X f o (kg C ap X all fl r K) ⟨ax s.t tg (fP false),s.h⟩
        | true=>kg C ap X all fl r K ⟨cU (ax s.t tg (fP false)) o.dst mK,s.h⟩)
     | .p (.im (.tuple _))=>kg C ap X all fl r K ⟨cU s.t o.dst mK,s.h⟩
     | _=>False
structure RR where
 run:Bool
 v:AV
 eff:List (Nat×AB)
 new:Option AB
structure DStep(C:Ctx)(ap:Bool)(all:List Oper)(o:Oper)(s:AS)(r:RR)(s':AS):Prop where
 guard:match o.guard with
  | none=>r.run=true
  | some (g,want)=>∃og tg b,all[g]?=some og/\og.dst=some tg/\s.t tg=.p (.im b)/\r.run=Lw b want
 ran:r.run=true->aZ C o (ev s.t) s.h fun v e n=>v=r.v/\e=r.eff/\n=r.new
 not:r.run=false->r.v=mK/\r.eff=[]/\r.new=none
 next:s'=⟨cU s.t o.dst r.v,jA (app s.h r.eff) (o.dst.getD 0) r.new⟩
 there:fb s.h r.eff=true
 kind:ap=false->gD s.h r.eff=true
 quiet:cls C ap o.op≠3->r.eff=[]
 ndst:nu o.op r.new o.dst=true
variable {ap:Bool}
theorem Cl{C:Ctx}{f:Bool}{X:List Nat}{o:Oper}{K:AS->Prop}{s:AS}(h:Ej C ap X f o K s):∃v eff new,(aZ C o (ev s.t) s.h fun N e' O=>N=v/\e'=eff/\O=new)/\fb s.h eff=true/\(ap=false->gD s.h eff=true)/\(cls C ap o.op≠3->eff=[])/\nu o.op new o.dst=true/\FD X f s.h eff=true/\K ⟨cU s.t o.dst v,jA (app s.h eff) (o.dst.getD 0) new⟩:=by
 obtain⟨v,eff,new,z,U⟩:=l6 (fun _=>.inr rfl) h;refine⟨v,eff,new,U _ ⟨rfl,rfl,rfl⟩,?_⟩;split at z
 ·exact z.elim
 rename_i J;split at z
 ·rename_i I;have I:cls C ap o.op=3:=bq I;split at z
  ·rename_i D;have V:FD X f s.h eff=true:=(fH _ _▸D).2;simp only[fH,oa]at D;exact⟨D.1.1,fun e=>D.1.2.resolve_left (by rw[e];decide),fun h=>absurd I h,J,V,z⟩
  exact z.elim
 split at z
 ·exact⟨rfl,fun _=>rfl,fun _=>rfl,J,AT _ _ _,z⟩
 exact z.elim
def se(C:Ctx)(ap:Bool)(X:List Nat)(fl:List Bool)(o:Oper)(s:AS)(r:RR)(i:Nat):Prop:=r.run=true->(fl[i]?=some true\/pz o (ev s.t)=true\/Ty X o (ev s.t)=true\/pB X o (ev s.t)=true\/cls C ap o.op=3)/\(fl[i]?=some true\/Kt X r.eff=true)/\ox X s.h r.eff=true
theorem Ek{C:Ctx}{X:List Nat}{all:List Oper}{K:AS->Prop}:∀(l:List Oper) (D:List Bool) (s:AS),kg C ap X all D l K s->∃(st:Nat->AS) (r:Nat->RR),st 0=s/\K (st l.length)/\∀(i:Nat) o,l[i]?=some o->DStep C ap all o (st i) (r i) (st (i+1))/\se C ap X D o (st i) (r i) i:=by
 intro l
 induction l with
 | nil=>intro D s h;exact⟨fun _=>s,fun _=>⟨false,.junk,[],none⟩,rfl,by cases D<;>exact h,by simp⟩
 | cons o l ih=>
  intro D s h;cases D with
  | nil=>exact h.elim
  | cons f D=>
  have ext:∀(r:RR) (V:AS),DStep C ap all o s r V->(r.run=true->sd C ap X f o (ev s.t)=true/\FD X f s.h r.eff=true)->kg C ap X all D l K V->∃(st:Nat->AS) (r:Nat->RR),st 0=s/\K (st (o::l).length)/\∀(i:Nat) o',(o::l)[i]?=some o'->DStep C ap all o' (st i) (r i) (st (i+1))/\se C ap X (f::D) o' (st i) (r i) i:=by
   intro r0 V hd hf hk;obtain⟨st,r,h1,h2,h3⟩:=ih D V hk;refine⟨fun i=>match i with | 0=>s | i+1=>st i,fun i=>match i with | 0=>r0 | i+1=>r i,rfl,h2,fun i o' hi=>?_⟩;cases i with
   | zero=>
    simp at hi;subst hi;refine⟨?_,fun hr=>?_⟩
    ·show DStep C ap all o s r0 (st 0);rw[h1];exact hd
    obtain⟨Y,U⟩:=hf hr;simp only[FD,fH]at U;obtain⟨U,q3⟩:=U;exact⟨by cases f with
     | true=>exact .inl rfl
     | false=>simp only[sd,q8,oa]at Y;exact .inr (by rcases Y with ((h | h) | h) | h;exact .inl h;exact .inr (.inl h);exact .inr (.inr (.inl h));exact .inr (.inr (.inr (bq h)))),by cases f with
     | true=>exact .inl rfl
     | false=>exact .inr U,q3⟩
   | succ i=>
    obtain⟨Y,U⟩:=h3 i o' (by simpa using hi);exact⟨Y,fun hr=>U hr⟩
  have I:(match o.guard with
    | none=>true=true
    | some (g,z)=>∃O J b,all[g]?=some O/\O.dst=some J/\s.t J=.p (.im b)/\true=Lw b z)->mT C ap X f o (kg C ap X all D l K) s->∃(st:Nat->AS) (r:Nat->RR),st 0=s/\K (st (o::l).length)/\∀(i:Nat) o',(o::l)[i]?=some o'->DStep C ap all o' (st i) (r i) (st (i+1))/\se C ap X (f::D) o' (st i) (r i) i:=by
   intro N hs;unfold mT at hs;split at hs
   case h_2=>exact hs.elim
   rename_i hf;obtain⟨v,eff,new,k1,k2,k3,k4,k6,k7,k5⟩:=Cl hs;exact ext ⟨true,v,eff,new⟩ _ ⟨N,fun _=>k1,(fun h=>by cases h),rfl,k2,k3,k4,k6⟩ (fun _=>⟨hf,k7⟩) k5
  unfold kg at h;split at h
  ·rename_i N;exact I (by rw[N]) h
  rename_i g z N;split at h
  ·exact h.elim
  rename_i O Z;split at h
  ·exact h.elim
  rename_i J IZ;split at h
  ·rename_i b hb;have ot:∀b',b=b'->ax s.t J (fP b')=s.t:=fun b' e=>eX _ _ _ (by rw[hb,e];rfl);have HU:kg C ap X all D l K ⟨cU s.t o.dst mK,s.h⟩->(false=(b==z))->∃(st:Nat->AS) (r:Nat->RR),st 0=s/\K (st (o::l).length)/\∀(i:Nat) o',(o::l)[i]?=some o'->DStep C ap all o' (st i) (r i) (st (i+1))/\se C ap X (f::D) o' (st i) (r i) i:=fun hs he=>
    ext ⟨false,mK,[],none⟩ _ ⟨by rw[N];exact⟨O,J,.bool b,Z,IZ,hb,by rw[he];cases b<;>cases z<;>rfl⟩,fun h=>(by cases h),fun _=>⟨rfl,rfl,rfl⟩,rfl,rfl,fun _=>rfl,fun _=>rfl,rfl⟩ (fun h=>by cases h) hs
   cases b<;>cases z<;>simp only[kF]at h
   ·rw[ot false rfl]at h;exact I (by rw[N];exact⟨O,J,.bool false,Z,IZ,hb,rfl⟩) h
   ·rw[ot false rfl]at h;exact HU h rfl
   ·rw[ot true rfl]at h;exact HU h rfl
   rw[ot true rfl]at h;exact I (by rw[N];exact⟨O,J,.bool true,Z,IZ,hb,rfl⟩) h
  ·rename_i q hb;exact ext ⟨false,mK,[],none⟩ _ ⟨by rw[N];exact⟨O,J,.tuple q,Z,IZ,hb,by cases z<;>rfl⟩,fun h=>(by cases h),fun _=>⟨rfl,rfl,rfl⟩,rfl,rfl,fun _=>rfl,fun _=>rfl,rfl⟩ (fun h=>by cases h) h
  exact h.elim
variable {rho:Operand->AV} {h':Nat->AB}
theorem I5{C:Ctx}{o:Oper}{h:Nat->AB}{K:KK}(z:cls C ap o.op=0)(D:aZ C o rho h K):aZ C o rho h' K:=by
 cases I:o.op<;>rw[I]at z<;>try (simp only[aZ,I]at D ⊢;exact D)
 all_goals try (cases z;done)
 case makeFunc fn first cap=>
  cases fn with
  | func f=>simp only[aZ,I]at D ⊢;exact D
  | _=>simp only[aZ,I]at D
 case fieldAddr=>cases ap<;>cases z
 case nilCheck=>cases ap<;>cases z
 case call c=>
  simp only[aZ,I]at D ⊢;simp only[cls]at z;split at z
  ·cases z
  ·cases z
  ·rename_i J;simp only[J,Ta,dK]at D ⊢;exact D
  ·rename_i J;simp only[J,Ta,dK]at D ⊢;exact D
  ·split at z<;>cases z
  ·cases z
  cases z
theorem I6{C:Ctx}{o:Oper}{h:Nat->AB}{K:KK}(N:cls C ap o.op=1)(J:∀id,(h id).there->((h' id).there/\(∀e es,h id=.row e es->∃O,h' id=.row e O)/\(∀cs,h id=.box cs->∃U,h' id=.box U)/\(∀cs,h id=.jt cs->∃U,h' id=.jt U)/\(∀e es,h id=.ai e es->∃O,h' id=.ai e O)/\(∀V Y a,h id=.cell V Y a->∃a',h' id=.cell V Y a')))(z:aZ C o rho h K):aZ C o rho h' K:=by
 cases aq:o.op<;>rw[aq]at N<;>try (cases N;done)
 case call c=>
  exfalso;simp only[cls]at N;split at N<;>first | cases N | (split at N<;>cases N)
 case fieldAddr t x f=>
  simp only[aZ,aq]at z ⊢;split at z
  ·split at z
   ·split at z
    ·exact z
    ·rename_i id o' Z;split at z
     ·exact z.elim
     rename_i bO;have ht:(h id).there:=by cases h1:h id<;>first | trivial | exact absurd h1 (by simpa using bO)
     have:=(J id ht).1;split
     ·rename_i I;rw[I]at this;exact this.elim
     exact z
    ·rename_i id i o' Z;split at z
     ·rename_i e es D;obtain⟨O,I⟩:=(J id (by rw[D];trivial)).2.1 e es D;simp only[I];exact z
     ·rename_i e es D;obtain⟨O,I⟩:=(J id (by rw[D];trivial)).2.2.2.2.1 e es D;simp only[I];exact z
     exact z.elim
    exact z
   exact z
  exact z
 case nilCheck x=>
  simp only[aZ,aq]at z ⊢;split at z
  ·exact z
  ·rename_i id off Z;split at z
   ·rename_i cs D;obtain⟨U,I⟩:=(J id (by rw[D];trivial)).2.2.1 cs D;simp only[I];exact z
   ·rename_i cs D;obtain⟨U,I⟩:=(J id (by rw[D];trivial)).2.2.2.1 cs D;simp only[I];exact z
   exact z.elim
  ·rename_i id i off Z;split at z
   ·rename_i e es D;obtain⟨O,I⟩:=(J id (by rw[D];trivial)).2.1 e es D;simp only[I];exact z
   ·rename_i e es D;obtain⟨O,I⟩:=(J id (by rw[D];trivial)).2.2.2.2.1 e es D;simp only[I];exact z
   exact z.elim
  ·rename_i id Z;split at z
   ·rename_i V Y a D;obtain⟨a',I⟩:=(J id (by rw[D];trivial)).2.2.2.2.2 V Y a D;simp only[I];exact z
   exact z.elim
  exact z
def pC(ops:Array Oper)(o:Oper)(d:Tmp):Bool:=(o.looksAt ops).contains d
def zr(C:Ctx)(ap:Bool)(ops:Array Oper)(b:Array Nat)(i j:Nat)(oi oj:Oper):Bool:=
 (match oi.dst,oj.dst with
  | some x,some y=>!bB x y
  | _,_=>true) &&
 (match oj.dst with
  | some d=>!pC ops oi d||(b.getD j 0).testBit i
  | none=>true) &&
 (match oi.dst with
  | some d=>!pC ops oj d||(b.getD j 0).testBit i
  | none=>true) &&
 (if cls C ap oj.op=3 then (if cls C ap oi.op=3 then (b.getD j 0).testBit i else true) else true)
def LG(ops:Array Oper)(b:Array Nat)(C:Ctx)(ap:Bool)(c i:Nat):Bool:=(List.range ops.size).all fun k=>match ops[k]? with
  | none=>true
  | some ok=>!bB (cls C ap ok.op) c||(if k<i then (b.getD i 0).testBit k else if i<k then (b.getD k 0).testBit i else true)
def Gm:Op->Bool
 | .fieldAddr _ _ _=>true
 | .nilCheck _=>true
 | _=>false
def Ov(ops:Array Oper)(b:Array Nat)(C:Ctx)(ap:Bool)(i:Nat):Bool:=(List.range ops.size).all fun k=>match ops[k]? with
  | none=>true
  | some ok=>(Gm ok.op||!bB (cls C ap ok.op) 2)||(if k<i then (b.getD i 0).testBit k else if i<k then (b.getD k 0).testBit i else true)
def vC(C:Ctx)(ap:Bool)(ops:Array Oper)(b:Array Nat)(i:Nat)(oi:Oper):Bool:=
 match cls C ap oi.op with
 | 2=>LG ops b C ap 3 i
 | 3=>Ov ops b C ap i
 | _=>true
def fS(C:Ctx)(ap:Bool)(ops:Array Oper):List Bool:=
 let b:=Region.before ops
 (List.range ops.size).map fun i=>match ops[i]? with
  | some oi=>vC C ap ops b i oi
  | none=>true
variable {ops:Array Oper} {oi:Oper}
theorem El{C:Ctx}{i:Nat}{c:Nat}(J:ops[i]?=some oi)(h:LG ops (Region.before ops) C ap c i=true):
  ∀(k:Nat) ok,ops[k]?=some ok->cls C ap ok.op=c->(k<i->((Region.before ops).getD i 0).testBit k=true)/\(i<k->((Region.before ops).getD k 0).testBit i=true):=by
 intro k ok I N;have iR:=(vn.1 J).1;have O:=(vn.1 I).1;have z:=cC.1 h k (dT.2 O);simp only[I,aG.2 N,kf,q8]at z;refine⟨fun D=>?_,fun D=>?_⟩
 ·rwa [qH D]at z
 rwa [af (by omega),qH D]at z
theorem xC{C:Ctx}{i:Nat}(z:ops[i]?=some oi)(h:(fS C ap ops)[i]?=some true):vC C ap ops (Region.before ops) i oi=true:=by
 have D:=(vn.1 z).1;simpa only[fS,ao,fG D,cW,z,Option.some.injEq] using h
theorem pD{C:Ctx}{i:Nat}(z:ops[i]?=some oi)(h:(fS C ap ops)[i]?=some true)(I:cls C ap oi.op=2):
  ∀(k:Nat) ok,ops[k]?=some ok->cls C ap ok.op=3->(k<i->((Region.before ops).getD i 0).testBit k=true)/\(i<k->((Region.before ops).getD k 0).testBit i=true):=by
 have D:=xC z h;simp only[vC,I]at D;exact El z D
theorem sf{C:Ctx}{i:Nat}(J:ops[i]?=some oi)(h:(fS C ap ops)[i]?=some true)(O:cls C ap oi.op=3):
  ∀(k:Nat) ok,ops[k]?=some ok->cls C ap ok.op=2->Gm ok.op=false->(k<i->((Region.before ops).getD i 0).testBit k=true)/\(i<k->((Region.before ops).getD k 0).testBit i=true):=by
 have z:=xC J h;simp only[vC,O]at z;intro k ok N U D;have iR:=(vn.1 J).1;have V:=(vn.1 N).1;have z:=cC.1 z k (dT.2 V);simp only[N,D,aG.2 U,kf,q8]at z;refine⟨fun I=>?_,fun I=>?_⟩
 ·rwa [qH I]at z
 rwa [af (by omega),qH I]at z
theorem AU{X:List Nat}{o:Oper}(h:Ty X o rho=true):Gm o.op=false:=by
 unfold Ty lz pA at h;cases e:o.op<;>rw[e]at h<;>first | rfl | cases h
theorem xD{X:List Nat}:∀{eff:List (Nat×AB)},Kt X eff=true->∀p∈eff,tx X p.1=false:=by
 intro eff
 induction eff with
 | nil=>intro _ p hp;cases hp
 | cons x r ih=>
  intro h p hp;unfold Kt at h;split at h
  ·cases h
  rename_i z;rcases fL.1 hp with e | e
  ·rw[e];exact z
  exact ih h p e
theorem da{a:AV}(h:py a=true):∃x,a=.p x:=by cases a<;>first | exact⟨_,rfl⟩ | cases h
variable {fs:List (Nat×Nat×Bool)}
theorem Em{h:Nat->AB}:∀(ps:List (Nat×Operand)) (cs:List PV) (K:List PV->List (Nat×AB)->Prop),(ps.all fun p=>py (rho p.2))=true->gd h fs rho ps cs K->gd h' fs rho ps cs K:=by
 intro ps
 induction ps with
 | nil=>intro cs K _ z;exact z
 | cons p ps ih=>
  intro cs K hp z;obtain⟨i,x⟩:=p;simp only[Ub,fH]at hp;obtain⟨y,D⟩:=da hp.1;simp only[gd]at z ⊢;split at z
  ·rw[D]at z ⊢;simp only[g_,iC]at z ⊢;revert z;cases mZ y with
   | none=>exact id
   | some ys=>
    simp only;cases o7 ys.length _&&yy _ cs.length with
    | false=>exact id
    | true=>intro z;exact ih _ _ hp.2 z
  exact z.elim
theorem En{h:Nat->AB}:∀(ps:List (Nat×Operand)) (cs:List AV) (K:List AV->Prop),(ps.all fun p=>py (rho p.2))=true->gf h fs rho ps cs K->gf h' fs rho ps cs K:=by
 intro ps
 induction ps with
 | nil=>intro cs K _ z;exact z
 | cons p ps ih=>
  intro cs K hp z;obtain⟨i,x⟩:=p;simp only[Ub,fH]at hp;obtain⟨y,I⟩:=da hp.1;unfold gf at z ⊢;split at z
  ·rename_i J;split at z
   ·rename_i ys h0;split at z
    case h_2=>exact z.elim
    rename_i D;exact ih _ _ hp.2 z
   rename_i h0;split at z
   ·rename_i D;have e:kL h' (rho x)=kL h (rho x):=by rw[I];cases y<;>rfl
    simp only[J,h0,e,D];exact ih _ _ hp.2 z
   exact z.elim
  exact z.elim
theorem zt{h:Nat->AB}{Q:Prop}:∀(ps:List (Nat×Operand)) (cs:List PV) (K:List PV->List (Nat×AB)->Prop),(∀a b,K a b->Q)->gd h fs rho ps cs K->Q:=by
 intro ps
 induction ps with
 | nil=>intro cs K I z;exact I _ _ z
 | cons p ps ih=>
  intro cs K I z;obtain⟨i,x⟩:=p;simp only[gd]at z;split at z
  ·obtain⟨y,fz,D,_⟩:=e9 (fun _=>.inr rfl) z;split at D
   ·split at D
    ·exact ih _ _ (fun a b h=>I _ _ h) D
    exact D.elim
   exact D.elim
  exact z.elim
theorem I7{C:Ctx}{o:Oper}{h:Nat->AB}{K:KK}(hp:pz o rho=true)(z:aZ C o rho h K):aZ C o rho h' K:=by
 unfold pz at hp;split at hp
 ·rename_i t a D;obtain⟨x,I⟩:=da hp;simp only[aZ,D]at z ⊢;rw[I]at z ⊢;cases x<;>exact z
 ·rename_i t x ix D;obtain⟨y,I⟩:=da hp;simp only[aZ,D]at z ⊢;rw[I]at z ⊢;cases y<;>exact z
 ·rename_i t x N O D;obtain⟨y,I⟩:=da hp;simp only[aZ,D]at z ⊢;rw[I]at z ⊢;have z:ef C rho h t x N O K:=z;show ef C rho h' t x N O K;simp only[ef]at z ⊢;rw[I]at z ⊢;exact z
 ·rename_i t ps D;simp only[aZ,D]at z ⊢;split at z
  ·split at z
   ·exact Em _ _ _ hp z
   exact En _ _ _ hp z
  exact z.elim
 ·rename_i c D;split at hp
  ·rename_i x V U;obtain⟨y,I⟩:=da hp;simp only[aZ,D,V,U,Ta,dK]at z ⊢;split at z
   ·rename_i J Y;simp only[U,Y]at *;injection J with J _;subst J;rw[I]at z ⊢;cases y<;>exact z
   exact z.elim
  cases hp
 ·rename_i t x f D;obtain⟨y,I⟩:=da hp;simp only[aZ,D]at z ⊢;rw[I]at z ⊢;cases y<;>exact z
 ·rename_i x D;obtain⟨y,I⟩:=da hp;simp only[aZ,D]at z ⊢;rw[I]at z ⊢;cases y<;>exact z
 cases hp
variable {e:List (Nat×AB)}
theorem zu{C:Ctx}{o:Oper}{h:Nat->AB}{v:AV}{n:Option AB}(hp:pz o rho=true)(D:aZ C o rho h fun U e' V=>U=v/\e'=e/\V=n):n=none:=by
 have O:∀(x:AV) (K:List (List PV)->Prop) (Q:Prop),(∀es,K es->Q)->dV h x K->Q:=by
  intro x K Q Y D;unfold dV at D
  repeat' (split at D)
  all_goals first | exact D.elim | exact Y _ D
 unfold pz at hp;split at hp
 ·rename_i t a J;obtain⟨x,N⟩:=da hp;simp only[aZ,J]at D;split at D
  ·exact D.elim
  rw[N]at D;split at D
  ·split at D
   ·split at D
    ·exact D.2.2.symm
    exact D.elim
   split at D
   ·exact D.2.2.symm
   exact D.elim
  ·rename_i I;cases I
  ·rename_i I;cases I
  ·rename_i I;cases I
  exact D.elim
 ·rename_i t x ix J;obtain⟨y,N⟩:=da hp;simp only[aZ,J]at D;split at D
  ·split at D
   ·exact D.elim
   rw[N]at D;split at D
   ·obtain⟨r,_,D⟩:=D;split at D
    ·exact D.2.2.symm
    exact D.elim
   all_goals first | exact D.elim | (rename_i I;cases I;done) | (rename_i I _;cases I;done) | (rename_i I _ _;cases I;done)
  exact D.elim
 ·rename_i t x Z hi J;obtain⟨y,N⟩:=da hp;simp only[aZ,J]at D;rw[N]at D;have D:ef C rho h t x Z hi _:=D;simp only[ef]at D;split at D
  ·rw[N]at D;split at D
   ·split at D
    ·exact D.2.2.2.symm
    exact D.elim
   exact D.elim
  ·split at D
   ·exact D.elim
   obtain⟨z,fz,D,_⟩:=e9 (fun _=>.inr rfl) D;split at D
   ·split at D
    ·exact D.2.2.2.symm
    exact D.elim
   exact D.elim
  exact D.elim
 ·rename_i t ps J;simp only[aZ,J]at D;split at D
  ·split at D
   ·exact zt _ _ _ (fun _ _ h=>h.2.2.symm) D
   obtain⟨z,I,_⟩:=tU (fun _=>.inr rfl) D;exact I.2.2.symm
  exact D.elim
 ·rename_i c J;split at hp
  ·rename_i x hc ha;simp only[aZ,J,hc,ha,Ta,dK]at D;split at D
   ·split at D
    ·split at D
     ·exact D.2.2.symm
     exact D.elim
    ·split at D
     ·exact D.2.2.symm
     exact O _ _ _ (fun _ h=>h.2.2.symm) D
    ·split at D
     ·split at D
      ·exact D.2.2.symm
      exact D.elim
     ·exact D.2.2.symm
     exact D.elim
    exact D.elim
   exact D.elim
  cases hp
 ·rename_i t x f J;obtain⟨y,N⟩:=da hp;simp only[aZ,J]at D;rw[N]at D
  repeat' (split at D)
  all_goals first | exact D.elim | exact D.2.2.symm | (rename_i I;cases I)
 ·rename_i x J;obtain⟨y,N⟩:=da hp;simp only[aZ,J]at D;rw[N]at D
  repeat' (split at D)
  all_goals first | exact D.elim | exact D.2.2.symm | (rename_i I;cases I)
 cases hp
theorem Gn{C:Ctx}{o:Oper}{X:List Nat}{h:Nat->AB}{K:KK}(V:∀id,tx X id=true->h id=.none\/h' id=h id)(hp:lz X o rho=true)(I:aZ C o rho h K):aZ C o rho h' K:=by
 have O:∀{a:AV},LF X a=true->(∃id,a=.ow id/\(h id=.none\/h' id=h id))\/(∃id i D,a=.rp id i D/\(h id=.none\/h' id=h id))\/∃id D,a=.bx id D/\(h id=.none\/h' id=h id):=by
  intro a U;cases a with
  | ow id=>exact .inl ⟨id,rfl,V id U⟩
  | rp id i D=>exact .inr (.inl ⟨id,i,D,rfl,V id U⟩)
  | bx id D=>exact .inr (.inr ⟨id,D,rfl,V id U⟩)
  | _=>cases U
 unfold lz at hp;split at hp
 ·rename_i t a J;simp only[aZ,J]at I ⊢;cases N:C.T t with
  | none=>simp only[N]at I
  | some ti=>
   simp only[N]at I ⊢;rcases O hp with⟨id,e,z⟩ | ⟨id,i,D,e,z⟩ | ⟨id,D,e,z⟩<;>simp only[e]at I ⊢<;>rcases z with z | z<;>first | (simp only[z]at I;done) | (rw[z];exact I)
 ·rename_i t x ix J;simp only[aZ,J]at I ⊢;split at I
  case h_2=>exact I.elim
  rename_i e size bytes zero eq k i N C2;cases Z:C.T e with
  | none=>simp only[Z]at I
  | some te=>
   simp only[Z]at I ⊢;rcases O hp with⟨id,e,z⟩ | ⟨id,i,D,e,z⟩ | ⟨id,D,e,z⟩<;>simp only[e]at I ⊢<;>rcases z with z | z<;>first | (simp only[z]at I;done) | (rw[z];exact I)
 ·rename_i t x ix ck J;simp only[aZ,J]at I ⊢;rcases O hp with⟨id,e,z⟩ | ⟨id,i,D,e,z⟩ | ⟨id,D,e,z⟩<;>simp only[e]at I ⊢
  ·rcases z with z | z
   ·simp only[z]at I
    repeat' (split at I)
    all_goals exact I.elim
   rw[z];exact I
  ·exact I
  exact I
 ·rename_i c J;split at hp
  ·rename_i x hc U;simp only[aZ,J,hc,U,Ta,dK]at I ⊢;split at I
   case h_2=>exact I.elim
   rename_i x' t Y ht;injection Y with Y _;subst Y;split at I
   ·rcases O hp with⟨id,e,z⟩ | ⟨id,i,D,e,z⟩ | ⟨id,D,e,z⟩<;>simp only[e]at I
   ·rename_i N;rcases O hp with⟨id,e,z⟩ | ⟨id,i,D,e,z⟩ | ⟨id,D,e,z⟩<;>simp only[N,e,hlen,dV]at I ⊢;rcases z with z | z
    ·simp only[z]at I
    rw[z];exact I
   ·rename_i N;rcases O hp with⟨id,e,z⟩ | ⟨id,i,D,e,z⟩ | ⟨id,D,e,z⟩<;>simp only[N,e]at I ⊢;rcases z with z | z
    ·simp only[z]at I
    rw[z];exact I
   exact I.elim
  cases hp
 cases hp
theorem xE{C:Ctx}{o:Oper}{X:List Nat}{h:Nat->AB}{v:AV}{n:Option AB}(hp:lz X o rho=true)(z:aZ C o rho h fun N e' O=>N=v/\e'=e/\O=n):n=none:=by
 have J:∀(x:AV) (K:List (List PV)->Prop) (Q:Prop),(∀es,K es->Q)->dV h x K->Q:=by
  intro x K Q U z;unfold dV at z
  repeat' (split at z)
  all_goals first | exact z.elim | exact U _ z
 unfold lz at hp;split at hp
 ·rename_i D;simp only[aZ,D]at z
  repeat' (split at z)
  all_goals first | exact z.elim | exact z.2.2.symm | (exfalso;obtain⟨r,I,z⟩:=z;exact z) | (rcases z with⟨r,I,z⟩;first | exact z.2.2.symm | (split at z<;>first | exact z.elim | exact z.2.2.symm))
 ·rename_i D;simp only[aZ,D]at z
  repeat' (split at z)
  all_goals first | exact z.elim | exact z.2.2.symm | exact z.2.2.2.symm | (obtain⟨r,I,z⟩:=z;split at z<;>first | exact z.elim | exact z.2.2.symm)
 ·rename_i D;simp only[aZ,D]at z
  repeat' (split at z)
  all_goals first | exact z.elim | (obtain⟨r,I,z⟩:=z;exact z.2.2.symm) | (obtain⟨r,I,z⟩:=z;split at z<;>exact z.2.2.symm)
 ·rename_i c D;split at hp
  ·rename_i x V Y;simp only[aZ,D,V,Y,Ta,dK]at z;split at z
   ·split at z
    ·split at z
     ·exact z.2.2.symm
     exact z.elim
    ·split at z
     ·exact z.2.2.symm
     exact J _ _ _ (fun _ h=>h.2.2.symm) z
    ·split at z
     ·split at z
      ·exact z.2.2.symm
      exact z.elim
     ·exact z.2.2.symm
     exact z.elim
    exact z.elim
   exact z.elim
  cases hp
 cases hp
theorem I9{C:Ctx}{o:Oper}{X:List Nat}{h:Nat->AB}{K:KK}(V:∀id,tx X id=true->h id=.none\/h' id=h id)(hp:Ty X o rho=true)(z:aZ C o rho h K):aZ C o rho h' K:=by
 unfold Ty at hp;rcases (oa _ _▸hp:lz X o rho=true\/pA X o rho=true) with hp | hp
 ·exact Gn V hp z
 unfold pA at hp;split at hp
 ·rename_i t n c N;simp only[aZ,N]at z ⊢;exact z
 ·rename_i t n ps N;simp only[fH]at hp;have O:∀p∈ps.toList,py (rho p.2)=true:=cC.1 hp.2;have I:∀(b:Bool) (size:Nat) (l:List (Nat×Operand)) (es:List (List PV)) (K:List (List PV)->List (Nat×AB)->Prop),(∀p∈l,py (rho p.2)=true)->eC b h size rho l es K->eC b h' size rho l es K:=by
   intro b size l
   induction l with
   | nil=>intro es K _ h;exact h
   | cons p r ih=>
    intro es K hl D;obtain⟨i,x⟩:=p;obtain⟨y,J⟩:=da (hl _ dJ);simp only at J;simp only[eC,J]at D ⊢;have e:∀(h:Nat->AB) (Q:PV->List (Nat×AB)->Prop),qa b h (.p y) Q=Q y []:=fun h Q=>by cases b<;>rfl
    rw[e]at D ⊢;revert D;split
    ·intro D;revert D;split
     ·intro D;exact ih _ _ (fun p hp=>hl p (An _ hp)) D
     exact fun D=>D
    exact fun D=>D
  simp only[aZ,N]at z ⊢;revert z;split
  ·split
   ·split
    ·split
     ·split
      ·rename_i x U _;have Y:=O (0,x) (by rw[U];exact dJ);obtain⟨y,J⟩:=da Y;have e:∀n,Wp h' n (rho x)=Wp h n (rho x):=fun n=>by
        simp only at J;rw[J];cases y<;>rfl
       rw[e];exact fun z=>z
      exact fun z=>z
     split
     ·exact I _ _ _ _ _ O
     exact I _ _ _ _ _ O
    exact fun z=>z
   exact fun z=>z
  exact fun z=>z
 cases hp
theorem zv{C:Ctx}{o:Oper}{X:List Nat}{h:Nat->AB}{v:AV}{n:Option AB}(hp:Ty X o rho=true)(z:aZ C o rho h fun D e' I=>D=v/\e'=e/\I=n):n=none\/tx X (o.dst.getD 0)=true:=by
 unfold Ty at hp;rcases (oa _ _▸hp:lz X o rho=true\/pA X o rho=true) with hp | hp
 ·exact .inl (xE hp z)
 unfold pA at hp;split at hp
 ·exact .inr hp
 ·simp only[fH]at hp;exact .inr hp.1
 cases hp
theorem I_{C:Ctx}{o:Oper}{X:List Nat}{h:Nat->AB}{K:KK}(Z:∀id,tx X (id+1000000)=true->h id≠.none->(kc (h' id)=kc (h id)/\kc (h id)≠0)\/h' id=h id)(hp:pB X o rho=true)(z:aZ C o rho h K):aZ C o rho h' K:=by
 have hx:∀{a:AV},Ou X a=true->(∃id D,a=.bx id D/\tx X (id+1000000)=true)\/∃id i D,a=.rp id i D/\tx X (id+1000000)=true:=fun {a} ha=>by
  cases a with
  | bx id D=>exact .inl ⟨id,D,rfl,ha⟩
  | rp id i D=>exact .inr ⟨id,i,D,rfl,ha⟩
  | _=>cases ha
 unfold pB at hp;split at hp
 ·rename_i t x f aq;simp only[aZ,aq]at z ⊢;split at z
  case h_2=>exact z.elim
  rename_i hT;split at z
  case h_2=>exact z.elim
  rcases hx hp with⟨id,D,e,N⟩ | ⟨id,i,D,e,N⟩<;>simp only[e]at z ⊢
  ·have O:h id≠.none:=fun U=>by rw[U]at z;exact z
   rcases Z id N O with⟨I,J⟩ | J
   ·cases V:h id<;>rw[V]at I J z<;>first | exact z.elim | exact absurd rfl J | (cases Y:h' id<;>rw[Y]at I<;>first | exact z | (exfalso;revert I;decide) | cases I)
   rw[J];exact z
  have O:h id≠.none:=fun U=>by rw[U]at z;exact z
  rcases Z id N O with⟨I,J⟩ | J
  ·cases V:h id<;>rw[V]at I J z<;>first | exact z.elim | exact absurd rfl J | (cases Y:h' id<;>rw[Y]at I<;>first | exact z | (exfalso;revert I;decide) | cases I)
  rw[J];exact z
 ·rename_i x aq;simp only[aZ,aq]at z ⊢;rcases hx hp with⟨id,D,e,N⟩ | ⟨id,i,D,e,N⟩<;>simp only[e]at z ⊢
  ·have O:h id≠.none:=fun U=>by rw[U]at z;exact z
   rcases Z id N O with⟨I,J⟩ | J
   ·cases V:h id<;>rw[V]at I J z<;>first | exact z.elim | exact absurd rfl J | (cases Y:h' id<;>rw[Y]at I<;>first | exact z | (exfalso;revert I;decide) | cases I)
   rw[J];exact z
  have O:h id≠.none:=fun U=>by rw[U]at z;exact z
  rcases Z id N O with⟨I,J⟩ | J
  ·cases V:h id<;>rw[V]at I J z<;>first | exact z.elim | exact absurd rfl J | (cases Y:h' id<;>rw[Y]at I<;>first | exact z | (exfalso;revert I;decide) | cases I)
  rw[J];exact z
 cases hp
theorem zw{C:Ctx}{o:Oper}{X:List Nat}{h:Nat->AB}{v:AV}{n:Option AB}(hp:pB X o rho=true)(z:aZ C o rho h fun I e' J=>I=v/\e'=e/\J=n):n=none:=by
 unfold pB at hp;split at hp
 ·rename_i D;simp only[aZ,D]at z
  repeat' (split at z)
  all_goals first | exact z.elim | exact z.2.2.symm
 ·rename_i D;simp only[aZ,D]at z
  repeat' (split at z)
  all_goals first | exact z.elim | exact z.2.2.symm
 cases hp
def zx(ops:Array Oper)(o:Oper):Bool:=match o.dst with
 | some d=>!pC ops o d
 | none=>true
def zy(ops:Array Oper)(b:Array Nat):Bool:=
 (List.range ops.size).all fun j=>(match ops[j]? with
  | some oj=>(oj.after.toList.all fun e=>!Region.binds .any e||Nat.blt e.on j)&&(List.range j).all fun i=>!(b.getD j 0).testBit i||(oj.after.toList.any fun e=>Region.binds .any e&&(bB e.on i||(Nat.blt i e.on&&(b.getD e.on 0).testBit i)))
  | none=>true)
def iJ(C:Ctx)(ops:Array Oper):Bool:=
 let ap:=ops.toList.any fun o=>gm C o.op;let b:=Region.before ops
 zy ops b&&(List.range ops.size).all fun j=>match ops[j]? with
  | some oj=>zx ops oj&&(List.range j).all fun i=>match ops[i]? with
   | some oi=>zr C ap ops b i j oi oj
   | none=>true
  | none=>true
def zz(ops:Array Oper)(E:Nat->Bool):Prop:=∀(j:Nat) oj,ops[j]?=some oj->E j=true->∀e∈oj.after,Region.binds .any e=true->E e.on=true
theorem uc{b:Array Nat}(h:zy ops b=true):(∀(j:Nat) z,ops[j]?=some z->∀e∈z.after,Region.binds .any e=true->e.on<j)/\
  ∀(E:Nat->Bool),zz ops E->∀(j:Nat) z,ops[j]?=some z->(∀e∈z.after,Region.binds .any e=true->E e.on=true)->∀i,i<j->(b.getD j 0).testBit i=true->E i=true:=by
 have O:∀(j:Nat) z,ops[j]?=some z->(∀e∈z.after,Region.binds .any e=true->e.on<j)/\∀i,i<j->(b.getD j 0).testBit i=true->∃e∈z.after,Region.binds .any e=true/\(e.on=i\/(i<e.on/\(b.getD e.on 0).testBit i=true)):=by
  intro j z I;have U:=cC.1 h j (dT.2 (vn.1 I).1);simp only[I,fH]at U;refine⟨fun e J hb=>?_,fun i V Y=>?_⟩
  ·have D:=cC.1 U.1 e (nK.2 J);rw[hb]at D;simp only[kf,q8]at D;exact Tj D
  have D:=cC.1 U.2 i (dT.2 V);rw[Y]at D;simp only[kf,q8]at D;obtain⟨e,J,Z⟩:=dA.1 D;simp only[fH,oa]at Z;exact⟨e,nK.1 J,Z.1,Z.2.imp aG.1 fun h=>⟨Tj h.1,h.2⟩⟩
 refine⟨fun j z I=>(O j z I).1,fun E hE j=>?_⟩
 induction j using Nat.strongRecOn with
 | _ j ih=>
  intro z I fI i V Y;obtain⟨e,J,hb,D⟩:=(O j z I).2 i V Y;rcases D with D | D
  ·rw[<-D];exact fI e J hb
  have dv:=(O j z I).1 e J hb;have RB:=fI e J hb;cases N:ops[e.on]? with
  | none=>
   have:e.on<ops.size:=Nat.lt_trans dv (vn.1 I).1;rw[bE this]at N;cases N
  | some oe=>exact ih e.on dv oe N (fun e' Ox dM=>hE e.on oe N RB e' Ox dM) i D.1 D.2
variable {rho':Operand->AV}
theorem xF{h:Nat->AB}:∀{ps:List (Nat×Operand)} {cs:List PV},(∀p∈ps,rho p.2=rho' p.2)->gd h fs rho ps cs=gd h fs rho' ps cs:=by
 intro ps
 induction ps with
 | nil=>intro cs _;rfl
 | cons p ps ih=>
  intro cs hp;obtain⟨i,x⟩:=p;funext K;have e:=hp (i,x) (by simp);simp only at e;simp only[gd,e];have:∀cs,gd h fs rho ps cs=gd h fs rho' ps cs:=fun cs=>ih (fun p z=>hp p (by simp[z]));simp only[this]
theorem xG{h:Nat->AB}:∀{ps:List (Nat×Operand)} {cs:List AV},(∀p∈ps,rho p.2=rho' p.2)->gf h fs rho ps cs=gf h fs rho' ps cs:=by
 intro ps
 induction ps with
 | nil=>intro cs _;rfl
 | cons p ps ih=>
  intro cs hp;obtain⟨i,x⟩:=p;funext K;have e:=hp (i,x) (by simp);simp only at e;simp only[gf,e];have:∀cs,gf h fs rho ps cs=gf h fs rho' ps cs:=fun cs=>ih (fun p z=>hp p (by simp[z]));simp only[this]
theorem oy{b:Bool}{h:Nat->AB}{size:Nat}:∀{ps:List (Nat×Operand)} {cs:List (List PV)},(∀p∈ps,rho p.2=rho' p.2)->eC b h size rho ps cs=eC b h size rho' ps cs:=by
 intro ps
 induction ps with
 | nil=>intro cs _;rfl
 | cons p ps ih=>
  intro cs hp;obtain⟨i,x⟩:=p;funext K;have e:=hp (i,x) (by simp);simp only at e;simp only[eC,e];have:∀cs,eC b h size rho ps cs=eC b h size rho' ps cs:=fun cs=>ih (fun p z=>hp p (by simp[z]));simp only[this]
theorem me{C:Ctx}{o:Oper}{rho rho':Operand->AV}{h:Nat->AB}{K:KK}(D:∀x∈o.op.operands,rho x=rho' x)(z:aZ C o rho h K):aZ C o rho' h K:=by
 cases aq:o.op<;>simp only[aq,Op.operands]at D<;>simp only[aZ,aq]at z ⊢<;>try exact z
 case move x=>rw[<-D x (by simp)];exact z
 case assign x=>rw[<-D x (by simp)];exact z
 case pick c a b=>rw[<-D c (by simp),<-D a (by simp),<-D b (by simp)];exact z
 case box e x=>rw[<-D x (by simp)];exact z
 case build t ps=>
  split at z
  ·rename_i fs _ _ _ _ hT;split at z
   ·rename_i J;rw[<-xF (rho:=rho) (rho':=rho') (fun p hp=>D p.2 (by simp;exact⟨p.1,nK.1 hp⟩))];exact z
   rename_i J;rw[<-xG (rho:=rho) (rho':=rho') (fun p hp=>D p.2 (by simp;exact⟨p.1,nK.1 hp⟩))];exact z
  exact z
 case buildSlice t n ps=>
  split at z
  ·split at z
   ·split at z
    ·split at z
     ·split at z
      ·rename_i x Y _;have e:=D x (by simp;exact⟨0,nK.1 (by rw[Y];exact dJ)⟩);rw[<-e];exact z
      exact z
     split at z
     ·rw[<-oy (rho:=rho) (rho':=rho') (fun p hp=>D p.2 (by simp;exact⟨p.1,nK.1 hp⟩))];exact z
     rw[<-oy (rho:=rho) (rho':=rho') (fun p hp=>D p.2 (by simp;exact⟨p.1,nK.1 hp⟩))];exact z
    exact z
   exact z
  exact z
 case load t x=>rw[<-D x (by simp)];exact z
 case store t x y=>rw[<-D x (by simp),<-D y (by simp)];exact z
 case nilCheck x=>rw[<-D x (by simp)];exact z
 case binOp op t x y t'=>rw[<-D x (by simp),<-D y (by simp)];exact z
 case unOp op t x=>rw[<-D x (by simp)];exact z
 case makeInterface t x=>rw[<-D x (by simp)];exact z
 case typeAssert x xt t ok=>
  cases ok with
  | true=>exact z
  | false=>simp only at z ⊢;rw[<-D x (by simp)];exact z
 case convert s d x=>rw[<-D x (by simp)];exact z
 case makeFunc fn first cap=>
  cases fn with
  | func f=>
   have:cap.toList.map rho=cap.toList.map rho':=vz fun x Z=>D x (by simp[nK.1 Z]);simp only[this]at z;exact z
  | _=>exact z
 case makeSlice t x y=>rw[<-D x (by simp),<-D y (by simp)];exact z
 case slice t x lo hi mx=>
  cases mx with
  | some m=>exact z
  | none=>
   have e0:=D x (by simp);have U:∀y,lo=some y->rho y=rho' y:=fun y hy=>D y (by simp[hy]);have V:∀y,hi=some y->rho y=rho' y:=fun y hy=>D y (by simp[hy]);have hs:ef C rho h t x lo hi K=ef C rho' h t x lo hi K:=by
    unfold ef;rw[e0];cases lo<;>cases hi<;>simp only[Option.some.injEq,forall_eq',forall_eq,reduceCtorEq,false_implies,implies_true]at U V<;>simp only[U,V]
   have hv:∀id e' es,nN C rho t lo hi id e' es K=nN C rho' t lo hi id e' es K:=fun id e' es=>by
    unfold nN;cases lo<;>cases hi<;>simp only[Option.some.injEq,forall_eq',forall_eq,reduceCtorEq,false_implies,implies_true]at U V<;>simp only[U,V]
   simp only at z ⊢;simp only[<-e0,<-hs,<-hv];exact z
 case makeMap t r=>cases r<;>exact z
 case lookup t x i ck=>rw[<-D x (by simp),<-D i (by simp)];exact z
 case mapUpdate t x i y=>rw[<-D x (by simp),<-D i (by simp),<-D y (by simp)];exact z
 case range t x=>rw[<-D x (by simp)];exact z
 case entry x=>rw[<-D x (by simp)];exact z
 case fieldAddr t x f=>rw[<-D x (by simp)];exact z
 case field t x f=>rw[<-D x (by simp)];exact z
 case indexAddr t x y=>rw[<-D x (by simp),<-D y (by simp)];exact z
 case index t x y=>rw[<-D x (by simp),<-D y (by simp)];exact z
 case extract x i=>rw[<-D x (by simp)];exact z
 case call c=>
  have Z:c.args.toList.map rho=c.args.toList.map rho':=vz fun x BR=>D x (by simp[Call.operands,nK.1 BR]);have I:∀x∈c.args.toList,rho x=rho' x:=fun x BR=>D x (by simp[Call.operands,nK.1 BR]);split at z
  ·split at z
   ·rename_i J O;simp only[J,O]at *;rw[<-I _ (by simp)];exact z
   exact z
  ·split at z
   ·rename_i J O;simp only[J,O]at *;rw[<-I _ (by simp)];exact z
   exact z
  ·split at z
   ·rename_i J;simp only[J]at *;rw[<-I _ (by simp),<-I _ (by simp)];exact z
   exact z
  ·split at z
   ·rename_i J;simp only[J]at *;rw[<-I _ (by simp),<-I _ (by simp)];exact z
   ·rename_i J;simp only[J]at *;rw[<-I _ (by simp),<-I _ (by simp),<-I _ (by simp)];exact z
   ·rename_i J;simp only[J]at *;rw[<-I _ (by simp),<-I _ (by simp),<-I _ (by simp),<-I _ (by simp),<-I _ (by simp)];exact z
   exact z
  ·split at z
   ·rename_i J O;simp only[J,O]at *;rw[<-I _ (by simp),<-I _ (by simp)];exact z
   exact z
  ·rename_i g N;have Fx:c.callee=.value g:=by
    cases Oy:c.callee with
    | value g'=>rw[Oy]at N;simp only[Ta]at N;injection N with N;rw[N]
    | invoke r m=>rw[Oy]at N;cases N
    | builtin b=>rw[Oy]at N;cases b<;>cases N
   have hg:=D g (by simp[Call.operands,Fx]);rw[<-hg,<-Z];exact z
  exact z
end Go.AM
namespace Go.AM
open Go.RowKit
theorem pE{h h':Nat->AB}{id:Nat}:∀(fe:List (Nat×AB)) ,h id=h' id->app h fe id=app h' fe id:=by
 intro fe
 induction fe generalizing h h' with
 | nil=>intro e;exact e
 | cons x fe ih=>
  intro e;refine ih ?_;by_cases z:id=x.1
  ·rw[z,ak,ak]
  rw[au _ _ z,au _ _ z];exact e
theorem gE{h:Nat->AB}:∀{fe:List (Nat×AB)},fb h fe=true->∀p∈fe,(h p.1).there:=by
 intro fe
 induction fe with
 | nil=>intro _ p hp;cases hp
 | cons x fe ih=>
  intro z p hp;simp only[fb,fH]at z;rcases fL.1 hp with e | e
  ·subst e;have:=z.1;cases hx:h p.1<;>rw[hx]at this<;>first | trivial | (simp[Ei]at this)
  exact ih z.2 p e
def Hn(B:Nat->AB)(r:Nat->RR)(E:Nat->Bool):Nat->Nat->AB
 | 0=>B
 | i+1=>match E i with
  | true=>app (Hn B r E i) (r i).eff
  | false=>Hn B r E i
theorem HV{B:Nat->AB}{r:Nat->RR}{E:Nat->Bool}(i:Nat):∀(m:Nat),(∀k,k<m->(E k=true↔k<i)\/(r k).eff=[])->i<=m->Hn B r E m=Hn B r (fun _=>true) i:=by
 have D:∀m,m<=i->(∀k,k<m->(E k=true↔k<i)\/(r k).eff=[])->Hn B r E m=Hn B r (fun _=>true) m:=by
  intro m
  induction m with
  | zero=>intro _ _;rfl
  | succ m ih=>
   intro hm z;have I:=ih (by omega) (fun k J=>z k (by omega));simp only[Hn];rw[I];rcases z m (by omega) with h | h
   ·rw[h.2 (by omega)]
   rw[h];cases E m<;>rfl
 intro m
 induction m with
 | zero=>
      intro _ N;have:i=0:=by omega
      subst this;rfl
 | succ m ih=>
  intro z N;by_cases e:i=m+1
  ·subst e;exact D (m+1) (aC _) z
  have I:=ih (fun k J=>z k (by omega)) (by omega);rw[<-I];simp only[Hn];rcases z m (by omega) with h | h
  ·have:E m=false:=by rw[cr];intro O;have:=h.1 O;omega
   rw[this]
  rw[h];cases E m<;>rfl
theorem Ja{B:Nat->AB}{r:Nat->RR}{E:Nat->Bool}{i:Nat}(J:E i=false):∀(m:Nat),(∀k,i<k->k<m->E k=true->(r k).eff=[])->i<m->Hn B r (fun k=>E k||bB k i) m=app (Hn B r E m) (r i).eff:=by
 have z:∀m,m<=i->Hn B r (fun k=>E k||bB k i) m=Hn B r E m:=by
  intro m
  induction m with
  | zero=>intro _;rfl
  | succ m ih=>
   intro hm;have:bB m i=false:=by rw[cr];intro h;have:=aG.1 h;omega
   simp only[Hn,this,q9];rw[ih (by omega)]
 intro m
 induction m with
 | zero=>intro _ h;omega
 | succ m ih=>
  intro I dv;by_cases e:m=i
  ·subst e;simp only[Hn,J,aG.2 rfl,ou];rw[z m (aC _)]
  have D:=ih (fun k D h2=>I k D (by omega)) (by omega);have:bB m i=false:=by rw[cr];intro h;exact e (aG.1 h)
  simp only[Hn,this,q9];rw[D];cases N:E m with
  | false=>rfl
  | true=>rw[I m (by omega) (by omega) N];rfl
theorem Eo(C:Ctx)(ap:Bool)(op:Op):cls C ap op<=3:=by
 unfold cls;split<;>first | decide | skip
 all_goals (cases ap<;>first | decide | skip)
 all_goals (split<;>first | decide | skip)
 all_goals (split<;>decide)
theorem Ep(C:Ctx)(op:Op):cls C true op≠1:=by
 unfold cls;split<;>first | decide | skip
 all_goals (split<;>first | decide | skip)
 all_goals (split<;>decide)
theorem Cm{C:Ctx}{ap:Bool}{o:Oper}{rho:Operand->AV}{h:Nat->AB}{K:KK}(I:cls C ap o.op<=1)(z:aZ C o rho h K):∃v e,K v e none:=by
 cases J:o.op<;>rw[J]at I<;>simp only[aZ,J]at z
 case move x=>exact⟨_,_,z⟩
 case assign x=>exact⟨_,_,z⟩
 case pick c a b=>
  split at z
  ·split at z<;>exact⟨_,_,z⟩
  exact z.elim
 case binOp op t x y t'=>
  split at z
  ·obtain⟨v,D,_⟩:=xn z;exact⟨_,_,D⟩
  ·obtain⟨v,D,_⟩:=xm z;exact⟨_,_,D⟩
  exact z.elim
 case unOp op t x=>
  split at z
  ·exact⟨_,_,z⟩
  ·obtain⟨v,D,_⟩:=jD z;exact⟨_,_,D⟩
  exact z.elim
 case convert s d x=>
  split at z
  ·obtain⟨v,D,_⟩:=jD z;exact⟨_,_,D⟩
  ·exact⟨_,_,z⟩
  ·exact⟨_,_,z⟩
  exact z.elim
 case extract x i=>
  split at z
  ·split at z
   ·exact⟨_,_,z⟩
   exact z.elim
  exact z.elim
 case index t x y=>
  split at z
  ·obtain⟨b,_,z⟩:=z;exact⟨_,_,z⟩
  exact z.elim
 case field t x f=>
  split at z
  ·split at z
   ·split at z
    ·split at z
     ·exact⟨_,_,z⟩
     exact z.elim
    split at z
    ·exact⟨_,_,z⟩
    exact z.elim
   exact z.elim
  exact z.elim
 case makeFunc fn first cap=>
  cases fn with
  | func f=>
   simp only at z;split at z
   ·exact⟨_,_,z⟩
   exact z.elim
  | _=>exact z.elim
 case fieldAddr t x f=>
  split at z
  ·split at z
   ·split at z
    ·exact⟨_,_,z⟩
    ·split at z
     ·exact z.elim
     exact⟨_,_,z⟩
    ·split at z
     ·exact⟨_,_,z⟩
     ·exact⟨_,_,z⟩
     exact z.elim
    exact z.elim
   exact z.elim
  exact z.elim
 case nilCheck x=>
  split at z
  ·exact⟨_,_,z⟩
  ·split at z
   ·exact⟨_,_,z⟩
   ·exact⟨_,_,z⟩
   exact z.elim
  ·split at z
   ·exact⟨_,_,z⟩
   ·exact⟨_,_,z⟩
   exact z.elim
  ·split at z
   ·exact⟨_,_,z⟩
   exact z.elim
  exact z.elim
 case call c=>
  simp only[cls]at I;split at I
  ·exact absurd I (by decide)
  ·exact absurd I (by decide)
  ·rename_i D;simp only[D,Ta,dK]at z;split at z
   ·split at z
    ·exact⟨_,_,z⟩
    exact z.elim
   exact z.elim
  ·rename_i D;simp only[D,Ta,dK]at z;split at z
   ·split at z
    ·exact⟨_,_,z⟩
    exact z.elim
   ·split at z
    ·exact⟨_,_,z⟩
    exact z.elim
   ·split at z
    ·exact⟨_,_,z⟩
    exact z.elim
   exact z.elim
  ·split at I<;>exact absurd I (by decide)
  ·exact absurd I (by decide)
  exact absurd I (by decide)
 all_goals exact absurd I (by simp[cls])
theorem Gp{C:Ctx}{ap:Bool}{o:Oper}{rho:Operand->AV}{h:Nat->AB}{v:AV}{e:List (Nat×AB)}{n:Option AB}{b:AB}(D:aZ C o rho h fun I e' J=>I=v/\e'=e/\J=n)(z:some b=n):cls C ap o.op=3\/cls C ap o.op=2:=by
 have hle:=Eo C ap o.op;by_cases N:cls C ap o.op<=1
 ·obtain⟨_,_,_,_,O⟩:=Cm N D;rw[<-O]at z;cases z
 omega
section
variable {C:Ctx} {ops:Array Oper} {st:Nat->AS} {r:Nat->RR} {ap:Bool} {X:List Nat}
theorem LH{B:Nat->AB}{r:Nat->RR}{E:Nat->Bool}{d:Nat}(i:Nat):∀(m:Nat),(∀k,k<m->(E k=true↔k<i)\/∀p∈(r k).eff,p.1≠d)->i<=m->Hn B r E m d=Hn B r (fun _=>true) i d:=by
 have I:∀m,m<=i->(∀k,k<m->(E k=true↔k<i)\/∀p∈(r k).eff,p.1≠d)->Hn B r E m d=Hn B r (fun _=>true) m d:=by
  intro m
  induction m with
  | zero=>intro _ _;rfl
  | succ m ih=>
   intro hm z;have D:=ih (by omega) (fun k J=>z k (by omega));simp only[Hn];rcases z m (by omega) with h | h
   ·rw[h.2 (by omega)];exact pE _ D
   cases E m with
   | true=>exact pE _ D
   | false=>exact D.trans (fo h).symm
 intro m
 induction m with
 | zero=>
      intro _ N;have:i=0:=by omega
      subst this;rfl
 | succ m ih=>
  intro z N;by_cases e:i=m+1
  ·subst e;exact I (m+1) (aC _) z
  have D:=ih (fun k J=>z k (by omega)) (by omega);rw[<-D];simp only[Hn];rcases z m (by omega) with h | h
  ·have:E m=false:=by rw[cr];intro O;have:=h.1 O;omega
   rw[this]
  cases E m with
  | true=>exact fo h
  | false=>rfl
structure Oz(C:Ctx)(ap:Bool)(ops:Array Oper)(i j:Nat)(oi oj:Oper):Prop where
 dst:∀x,oi.dst=some x->oj.dst≠some x
 war:∀d,oj.dst=some d->d∈oi.looksAt ops->((Region.before ops).getD j 0).testBit i=true
 raw:∀d,oi.dst=some d->d∈oj.looksAt ops->((Region.before ops).getD j 0).testBit i=true
 w3:cls C ap oj.op=3->cls C ap oi.op=3->((Region.before ops).getD j 0).testBit i=true
theorem iw(J:iJ C ops=true):zy ops (Region.before ops)=true/\(∀(j:Nat) z,ops[j]?=some z->∀d,z.dst=some d->d ∉ z.looksAt ops)/\
  ∀(i j:Nat) oi z,i<j->ops[i]?=some oi->ops[j]?=some z->Oz C (ops.toList.any fun o=>gm C o.op) ops i j oi z:=by
 simp only[iJ,fH]at J;obtain⟨h1,h2⟩:=J;have hj:∀(j:Nat) z,ops[j]?=some z->zx ops z=true/\∀(i:Nat) oi,i<j->ops[i]?=some oi->zr C (ops.toList.any fun o=>gm C o.op) ops (Region.before ops) i j oi z=true:=by
  intro j z D;have I:=cC.1 h2 j (dT.2 (vn.1 D).1);simp only[D,fH]at I;refine⟨I.1,fun i oi O U=>?_⟩;have h4:=cC.1 I.2 i (dT.2 O);simp only[U]at h4;exact h4
 refine⟨h1,fun j z D d N=>?_,fun i j oi z F8 U D=>?_⟩
 ·have:=(hj j z D).1;simp only[zx,N,pC]at this;simpa using this
 have I:=(hj j z D).2 i oi F8 U;simp only[zr,fH]at I;obtain⟨⟨⟨p1,V⟩,Y⟩,p4⟩:=I;refine⟨fun x hx hy=>?_,fun d N Z=>?_,fun d N Z=>?_,fun hc O=>?_⟩
 ·simp only[hx,hy,aG.2 rfl,kf]at p1;cases p1
 ·simp only[N,pC]at V;have mD:(oi.looksAt ops).contains d=true:=by simpa using Z
  rw[mD]at V;simpa using V
 ·simp only[N,pC]at Y;have mD:(z.looksAt ops).contains d=true:=by simpa using Z
  rw[mD]at Y;simpa using Y
 rw[qH hc,qH O]at p4;exact p4
theorem zC(z:iJ C ops=true)(H:∀(i:Nat) o,ops[i]?=some o->DStep C ap ops.toList o (st i) (r i) (st (i+1))){i:Nat}{o:Oper}(D:ops[i]?=some o){d:Tmp}(I:o.dst=some d):∀k,i+1<=k->k<=ops.size->(st k).t d=(r i).v:=by
 obtain⟨_,hs,hp⟩:=iw z;intro k
 induction k with
 | zero=>intro h;omega
 | succ k ih=>
  intro Ku hk;by_cases e:i=k
  ·subst e;rw[(H i o D).next,I];exact ak _ _ _
  have J:=ih (by omega) (by omega);have N:ops[k]?=some ops[k]:=bE (by omega);rw[(H k _ N).next];show cU (st k).t _ _ d=_;have O:=(hp i k o _ (by omega) D N).dst d I;cases U:ops[k].dst with
  | none=>exact J
  | some d'=>rw[cU,au _ _ (fun e=>O (by rw[U,e]))];exact J
theorem vD(H:∀(i:Nat) o,ops[i]?=some o->DStep C ap ops.toList o (st i) (r i) (st (i+1))){x:Nat}(D:∀(k:Nat) o,ops[k]?=some o->o.dst≠some x):∀k,k<=ops.size->(st k).t x=(st 0).t x:=by
 intro k
 induction k with
 | zero=>intro _;rfl
 | succ k ih=>
  intro hk;have z:ops[k]?=some ops[k]:=bE (by omega);rw[(H k _ z).next];show cU (st k).t _ _ x=_;cases I:ops[k].dst with
  | none=>exact ih (by omega)
  | some d'=>rw[cU,au _ _ (fun e=>D k _ z (by rw[I,e]))];exact ih (by omega)
theorem Cn(z:iJ C ops=true)(H:∀(i:Nat) o,ops[i]?=some o->DStep C ap ops.toList o (st i) (r i) (st (i+1))){j:Nat}{o:Oper}(D:ops[j]?=some o){d:Tmp}(J:o.dst=some d):∀k,k<=j->(st k).t d=(st 0).t d:=by
 obtain⟨_,hs,hp⟩:=iw z;have hj:=(vn.1 D).1;intro k
 induction k with
 | zero=>intro _;rfl
 | succ k ih=>
  intro hk;have I:ops[k]?=some ops[k]:=bE (by omega);rw[(H k _ I).next];show cU (st k).t _ _ d=_;cases N:ops[k].dst with
  | none=>exact ih (by omega)
  | some O=>rw[cU,au _ _ (fun e=>(hp k j _ o (by omega) I D).dst O N (by rw[J,e]))];exact ih (by omega)
def Co(ops:Array Oper)(r:Nat->RR)(k d:Nat)(b:AB):Prop:=∃o,ops[k]?=some o/\o.dst=some d/\(r k).new=some b
def fc(ops:Array Oper)(r:Nat->RR)(i d:Nat):Prop:=∃k b,i<=k/\Co ops r k d b
theorem nv(hok:iJ C ops=true)(H:∀(i:Nat) o,ops[i]?=some o->DStep C ap ops.toList o (st i) (r i) (st (i+1))){B:Nat->AB}(Cp:∀k d b,Co ops r k d b->B d=b)(s_:∀d,¬fc ops r 0 d->B d=(st 0).h d)(h0:∀d,fc ops r 0 d->(st 0).h d=.none):
  ∀i,i<=ops.size->∀d,(fc ops r i d->(st i).h d=.none/\Hn B r (fun _=>true) i d=B d)/\(¬fc ops r i d->(st i).h d=Hn B r (fun _=>true) i d):=by
 obtain⟨_,hs,hp⟩:=iw hok;intro i
 induction i with
 | zero=>intro _ d;exact⟨fun h=>⟨h0 d h,rfl⟩,fun h=>(s_ d h).symm⟩
 | succ i ih=>
  intro hi d;have ih:=ih (by omega);have Y:ops[i]?=some ops[i]:=bE (by omega);have D:=H i _ Y;have hth:=gE D.there;have OB:Hn B r (fun _=>true) (i+1)=app (Hn B r (fun _=>true) i) (r i).eff:=rfl;have wL:(st (i+1)).h=jA (app (st i).h (r i).eff) (ops[i].dst.getD 0) (r i).new:=by rw[D.next]
  have out:fc ops r i d->∀p∈(r i).eff,p.1≠d:=fun O p HW e=>by
   have z:=hth p HW;rw[e,((ih d).1 O).1]at z;exact z
  have LI:∀b,(r i).new=some b->∃I,ops[i].dst=some I:=fun b hb=>by
   have:=D.ndst;rw[hb]at this;cases hd:ops[i].dst with
   | none=>rw[hd]at this;cases this
   | some I=>exact⟨I,rfl⟩
  refine⟨fun O=>?_,fun O=>?_⟩
  ·have J:fc ops r i d:=by obtain⟨k,b,z,U⟩:=O;exact⟨k,b,by omega,U⟩
   obtain⟨z,U⟩:=(ih d).1 J;refine⟨?_,by rw[OB,fo (out J)];exact U⟩;rw[wL];cases hn:(r i).new with
   | none=>show app _ _ d=_;rw[fo (out J)];exact z
   | some b=>
    obtain⟨I,Z⟩:=LI b hn;rw[Z];show ax _ I b d=_;have bO:d≠I:=fun e=>by
     obtain⟨k,b',h3,o',N,h5,h6⟩:=O;exact (hp i k _ o' (by omega) Y N).dst I Z (by rw[h5,e])
    rw[au _ _ bO,fo (out J)];exact z
  by_cases V:∃b,Co ops r i d b
  ·obtain⟨b,V⟩:=V;have J:fc ops r i d:=⟨i,b,aC _,V⟩;obtain⟨o',N,h5,h6⟩:=V;rw[Y]at N;injection N with N;rw[wL,OB,fo (out J),((ih d).1 J).2,h6,N,h5,Cp i d b ⟨o',by rw[Y,N],h5,h6⟩];exact ak _ _ _
  have J:¬fc ops r i d:=fun ⟨k,b,z,U⟩=>by
   by_cases e:k=i
   ·subst e;exact V ⟨b,U⟩
   exact O ⟨k,b,by omega,U⟩
  have z:=(ih d).2 J;rw[wL,OB,<-pE (r i).eff z];cases hn:(r i).new with
  | none=>rfl
  | some b=>
   obtain⟨I,Z⟩:=LI b hn;rw[Z];show ax _ I b d=_;rw[au _ _ (fun e=>V ⟨b,_,Y,by rw[Z,e],hn⟩)]
def KC(b b':AB):Prop:=b'=b\/(∃e es bW,b=.row e es/\b'=.row e bW)\/(∃cs dB,b=.box cs/\b'=.box dB)\/(∃mk es mk' bW,b=.map mk es/\b'=.map mk' bW)
theorem KC.trans{a b c:AB}(h:KC a b)(k:KC b c):KC a c:=by
 rcases h with rfl | ⟨e,es,I,rfl,rfl⟩ | ⟨cs,J,rfl,rfl⟩ | ⟨m,es,m',I,rfl,rfl⟩
 ·exact k
 ·rcases k with rfl | ⟨e',fs,D,z,rfl⟩ | ⟨cs,J,z,rfl⟩ | ⟨_,_,_,_,z,rfl⟩
  ·exact .inr (.inl ⟨_,_,_,rfl,rfl⟩)
  ·injection z with z h2;subst z;exact .inr (.inl ⟨_,_,_,rfl,rfl⟩)
  ·cases z
  cases z
 ·rcases k with rfl | ⟨e',fs,D,z,rfl⟩ | ⟨ds,N,z,rfl⟩ | ⟨_,_,_,_,z,rfl⟩
  ·exact .inr (.inr (.inl ⟨_,_,rfl,rfl⟩))
  ·cases z
  ·exact .inr (.inr (.inl ⟨_,_,rfl,rfl⟩))
  cases z
 rcases k with rfl | ⟨e',fs,D,z,rfl⟩ | ⟨ds,N,z,rfl⟩ | ⟨_,_,_,_,z,rfl⟩
 ·exact .inr (.inr (.inr ⟨_,_,_,_,rfl,rfl⟩))
 ·cases z
 ·cases z
 exact .inr (.inr (.inr ⟨_,_,_,_,rfl,rfl⟩))
theorem Er{b b':AB}(h:Eh b b'=true):KC b b':=by
 cases b<;>cases b'<;>first | (simp[Eh]at h;done) | skip
 ·have:=aG.1 h;subst this;exact .inr (.inl ⟨_,_,_,rfl,rfl⟩)
 ·exact .inr (.inr (.inl ⟨_,_,rfl,rfl⟩))
 exact .inr (.inr (.inr ⟨_,_,_,_,rfl,rfl⟩))
theorem oz{h:Nat->AB}:∀{fe:List (Nat×AB)},gD h fe=true->∀p∈fe,KC (h p.1) p.2:=by
 intro fe
 induction fe with
 | nil=>intro _ p hp;cases hp
 | cons x fe ih=>
  intro z p hp;simp only[gD,fH]at z;rcases fL.1 hp with e | e
  ·subst e;exact Er z.1
  exact ih z.2 p e
theorem sg(V:iJ C ops=true)(H:∀(i:Nat) o,ops[i]?=some o->DStep C ap ops.toList o (st i) (r i) (st (i+1)))(Gr:ap=false){B:Nat->AB}(Cp:∀k d b,Co ops r k d b->B d=b)(s_:∀d,¬fc ops r 0 d->B d=(st 0).h d)(h0:∀d,fc ops r 0 d->(st 0).h d=.none)(E:Nat->Bool):
  ∀m,m<=ops.size->∀d,KC (B d) (Hn B r E m d):=by
 have U:=nv V H Cp s_ h0;have z:∀m,m<=ops.size->∀d,KC (B d) (Hn B r (fun _=>true) m d):=by
  intro m
  induction m with
  | zero=>intro _ d;exact .inl rfl
  | succ m ih=>
   intro hm d;have Y:ops[m]?=some ops[m]:=bE (by omega);have D:=H m _ Y;show KC (B d) (app (Hn B r (fun _=>true) m) (r m).eff d);rcases dx (r m).eff (Hn B r (fun _=>true) m) d with⟨b,J,I⟩ | ⟨_,I⟩
   ·rw[I];have N:=oz (D.kind Gr) _ J;have O:=gE D.there _ J;have Z:¬fc ops r m d:=fun hp=>by rw[((U m (by omega) d).1 hp).1]at O;exact O
    rw[(U m (by omega) d).2 Z]at N;exact (ih (by omega) d).trans N
   rw[I];exact ih (by omega) d
 intro m
 induction m with
 | zero=>intro _ d;exact .inl rfl
 | succ m ih=>
  intro hm d;have Y:ops[m]?=some ops[m]:=bE (by omega);have D:=H m _ Y;simp only[Hn];cases E m with
  | false=>exact ih (by omega) d
  | true=>
   show KC (B d) (app (Hn B r E m) (r m).eff d);rcases dx (r m).eff (Hn B r E m) d with⟨b,J,I⟩ | ⟨_,I⟩
   ·rw[I];have N:=oz (D.kind Gr) _ J;have O:=gE D.there _ J;have Z:¬fc ops r m d:=fun hp=>by rw[((U m (by omega) d).1 hp).1]at O;exact O
    rw[(U m (by omega) d).2 Z]at N;exact (z m (by omega) d).trans N
   rw[I];exact ih (by omega) d
def VE(ops:Array Oper)(E:Nat->Bool)(x:Nat):Prop:=∀(k:Nat) o,ops[k]?=some o->o.dst=some x->E k=true
open Classical in
noncomputable def TE(ops:Array Oper)(st:Nat->AS)(E:Nat->Bool)(x:Nat):AV:=if VE ops E x then (st ops.size).t x else (st 0).t x
def LE(ops:Array Oper)(r:Nat->RR)(E:Nat->Bool)(d:Nat):Prop:=∀k b,Co ops r k d b->E k=true
variable {id:Nat}
theorem Es{h:Nat->AB}{c:Nat}:∀{eff:List (Nat×AB)},(∀p∈eff,p.1=id->kc p.2=c)->kc (h id)=c->kc (app h eff id)=c:=by
 intro eff
 induction eff generalizing h with
 | nil=>intro _ z;exact z
 | cons p r ih=>
  intro D z;obtain⟨q,b⟩:=p;refine ih (h:=ax h q b) (fun p hp e=>D p (An _ hp) e) ?_;by_cases e:id=q
  ·subst e;rw[ak];exact D _ dJ rfl
  rw[au _ _ e];exact z
theorem zD{X:List Nat}{h:Nat->AB}(hid:tx X (id+1000000)=true):∀{eff:List (Nat×AB)},ox X h eff=true->∀p∈eff,p.1=id->kc p.2=kc (h id)/\kc (h id)≠0:=by
 intro eff
 induction eff with
 | nil=>intro _ p hp;cases hp
 | cons q r ih=>
  intro z p hp e;obtain⟨i,b⟩:=q;unfold ox at z;split at z
  ·rename_i D;simp only[fH,j8]at z;obtain⟨J,I,N⟩:=z;rcases fL.1 hp with rfl | hp
   ·simp only at e;subst e;exact⟨bq J,fun O=>by rw[O]at I;cases I⟩
   exact ih N p hp e
  rename_i D;rcases fL.1 hp with rfl | hp
  ·simp only at e;subst e;rw[hid]at D;cases D
  exact ih z p hp e
theorem Et{X:List Nat}(hok:iJ C ops=true)(H:∀(i:Nat) o,ops[i]?=some o->DStep C ap ops.toList o (st i) (r i) (st (i+1)))(Eu:∀k,k<ops.size->ox X (st k).h (r k).eff=true){B:Nat->AB}(U:∀i,i<=ops.size->∀d,(fc ops r i d->(st i).h d=.none/\Hn B r (fun _=>true) i d=B d)/\(¬fc ops r i d->(st i).h d=Hn B r (fun _=>true) i d))(E:Nat->Bool){i:Nat}(hid:tx X (id+1000000)=true)(D:i<=ops.size)(V:(st i).h id≠.none):
  (kc (Hn B r E ops.size id)=kc ((st i).h id)/\kc ((st i).h id)≠0)\/Hn B r E ops.size id=(st i).h id:=by
 have N:∀k,k<=ops.size->(st k).h id≠.none->(st k).h id=Hn B r (fun _=>true) k id:=fun k I h=>by
  by_cases hp:fc ops r k id
  ·exact absurd ((U k I id).1 hp).1 h
  exact (U k I id).2 hp
 have OF:∀{b:AB},kc b≠0->b≠.none:=fun hb e=>by rw[e]at hb;exact hb rfl
 have z:∀m,m<ops.size->∀p∈(r m).eff,p.1=id->kc p.2=kc (Hn B r (fun _=>true) m id)/\kc (Hn B r (fun _=>true) m id)≠0:=fun m J p hp e=>by
  obtain⟨Y,O⟩:=zD hid (Eu m J) p hp e;rw[N m (by omega) (OF O)]at Y O;exact⟨Y,O⟩
 by_cases Z:∃k,k<ops.size/\∃p∈(r k).eff,p.1=id
 ·left;have same:∀m,m<=ops.size->kc (Hn B r (fun _=>true) m id)=kc (B id):=by
   intro m
   induction m with
   | zero=>intro _;rfl
   | succ m ih=>
    intro J;have:=ih (by omega);show kc (app (Hn B r (fun _=>true) m) (r m).eff id)=_;exact Es (fun p hp e=>(z m (by omega) p hp e).1.trans this) this
  have any:∀m,m<=ops.size->kc (Hn B r E m id)=kc (B id):=by
   intro m
   induction m with
   | zero=>intro _;rfl
   | succ m ih=>
    intro J;simp only[Hn];cases E m with
    | false=>exact ih (by omega)
    | true=>exact Es (fun p hp e=>(z m (by omega) p hp e).1.trans (same m (by omega))) (ih (by omega))
  obtain⟨k,I,p,hp,e⟩:=Z;have h0:=(z k I p hp e).2;rw[same k (by omega)]at h0;have hs:kc ((st i).h id)=kc (B id):=by rw[N i D V];exact same i D
  exact⟨by rw[any _ (aC _),hs],by rw[hs];exact h0⟩
 right;have un:∀(F:Nat->Bool) m,m<=ops.size->Hn B r F m id=B id:=by
  intro F m
  induction m with
  | zero=>intro _;rfl
  | succ m ih=>
   intro J;simp only[Hn];cases F m with
   | false=>exact ih (by omega)
   | true=>
    show app (Hn B r F m) (r m).eff id=_;rw[fo fun p FC e=>Z ⟨m,by omega,p,FC,e⟩];exact ih (by omega)
 rw[un E _ (aC _),N i D V,un _ i D]
theorem Gs{A:jR}(hC:aL A.C)(Gr:ap=ops.toList.any fun o=>gm A.C o.op)(Z:iJ A.C ops=true)(hd:∀o∈ops.toList,gP o A.n)(H:∀(i:Nat) o,ops[i]?=some o->DStep A.C ap ops.toList o (st i) (r i) (st (i+1)))(G:∀(i:Nat) o,ops[i]?=some o->se A.C ap X (fS A.C ap ops) o (st i) (r i) i){B:Nat->AB}(Cp:∀k d b,Co ops r k d b->B d=b)(s_:∀d,¬fc ops r 0 d->B d=(st 0).h d)(h0:∀d,fc ops r 0 d->(st 0).h d=.none)
  {E:Nat->Bool} (hE:zz ops E) {i:Nat} {o:Oper} (J:ops[i]?=some o) (hi:E i=false) (fI:∀e∈o.after,Region.binds .any e=true->E e.on=true) {S:Nat->Prop} {rho:Nat->Value} {a:Act} {w:World} (sim:aU A bk (LE ops r E) S rho ⟨TE ops st E,Hn B r E ops.size⟩ a w)
  {Q:Exit->Act->World->Prop} {next:Act->World->Prop} (hnext:∀S' rho' a' w',aU A bk (LE ops r fun k=>E k||bB k i) S' rho' ⟨TE ops st (fun k=>E k||bB k i),Hn B r (fun k=>E k||bB k i) ops.size⟩ a' w'->next a' w'):wpOp A.C.P ops Q i next a w:=by
 obtain⟨Ev,hs,hp⟩:=iw Z;rw[<-Gr]at hp;obtain⟨HY,LJ⟩:=uc Ev;have iR:i<ops.size:=(vn.1 J).1;have hh:=nv Z H Cp s_ h0;have D:=H i o J;have YL:gP o A.n:=hd o (aj (by simpa using J));have bits:∀k,k<i->((Region.before ops).getD i 0).testBit k=true->E k=true:=LJ E hE i o J fI;have later:∀(k:Nat) ok,ops[k]?=some ok->i<k->((Region.before ops).getD k 0).testBit i=true->E k=false:=by
  intro k ok z Ku OG;rw[cr];intro xI;have:=LJ E hE k ok z (fun e he hb=>hE k ok z xI e he hb) i Ku OG;rw[hi]at this;cases this
 have ue:∀x,x∈o.looksAt ops->TE ops st E x=(st i).t x:=by
  intro x hx;unfold TE;split
  ·rename_i hv;by_cases hw:∃(k:Nat) (ok:Oper),ops[k]?=some ok/\ok.dst=some x
   ·obtain⟨k,ok,z,vE⟩:=hw;have wN:=(vn.1 z).1;rcases gC k i with h | h | h
    ·rw[zC Z H z vE ops.size (by omega) (aC _),zC Z H z vE i (by omega) (by omega)]
    ·subst h;rw[J]at z;injection z with z;subst z;exact absurd hx (hs k o J x vE)
    have O:=later k ok z h ((hp i k o ok h J z).war x vE hx);rw[hv k ok z vE]at O;cases O
   have V:∀(k:Nat) o,ops[k]?=some o->o.dst≠some x:=fun k o z e=>hw ⟨k,o,z,e⟩;rw[vD H V ops.size (aC _),vD H V i (by omega)]
  rename_i hv;have hex:∃(k:Nat) (ok:Oper),ops[k]?=some ok/\ok.dst=some x/\E k=false:=Classical.byContradiction fun hn=>hv fun k ok z vE=>by
   cases RC:E k with
   | true=>rfl
   | false=>exact absurd ⟨k,ok,z,vE,RC⟩ hn
  obtain⟨k,ok,z,vE,xI⟩:=hex;rcases gC k i with h | h | h
  ·have:=bits k h ((hp k i ok o h z J).raw x vE hx);rw[xI]at this;cases this
  ·subst h;rw[J]at z;injection z with z;subst z;exact absurd hx (hs k o J x vE)
  exact (Cn Z H z vE i (by omega)).symm
 have HZ:(cls A.C ap o.op=3\/(cls A.C ap o.op=2/\(fS A.C ap ops)[i]?=some true))->∀k,i<k->k<ops.size->E k=true->(r k).eff=[]:=by
  intro hc k Ku wN xI;have z:ops[k]?=some ops[k]:=bE wN;by_cases N:cls A.C ap ops[k].op=3
  ·have:=later k _ z Ku (by
    rcases hc with hc | ⟨hc,hf⟩
    ·exact (hp i k o _ Ku J z).w3 N hc
    exact (pD J hf hc k _ z N).2 Ku)
   rw[xI]at this;cases this
  exact (H k _ z).quiet N
 have Ew:∀k,k<ops.size->(r k).eff≠[]->cls A.C ap (ops[k]?.getD o).op=3:=by
  intro k z V;have mF:ops[k]?=some ops[k]:=bE z;rw[mF];by_cases N:cls A.C ap ops[k].op=3
  ·exact N
  exact absurd ((H k _ mF).quiet N) V
 have Ex:(cls A.C ap o.op=3\/(cls A.C ap o.op=2/\(fS A.C ap ops)[i]?=some true))->Hn B r E ops.size=Hn B r (fun _=>true) i:=by
  intro hc;refine HV i ops.size (fun k wN=>?_) (by omega);have z:ops[k]?=some ops[k]:=bE wN;by_cases V:(r k).eff=[]
  ·exact .inr V
  have N:=Ew k wN V;rw[z]at N;have N:cls A.C ap ops[k].op=3:=N;refine .inl ⟨fun xI=>?_,fun dv=>?_⟩
  ·rcases gC k i with h | h | h
   ·exact h
   ·subst h;rw[hi]at xI;cases xI
   exact absurd (HZ hc k h wN xI) V
  rcases hc with hc | ⟨hc,hf⟩
  ·exact bits k dv ((hp k i _ o dv z J).w3 hc N)
  exact bits k dv ((pD J hf hc k _ z N).1 dv)
 have OH:cls A.C ap o.op=2->Gm o.op=false->∀id,tx X id=true->Hn B r E ops.size id=Hn B r (fun _=>true) i id:=fun hc hth id hid=>by
  refine LH i ops.size (fun k wN=>?_) (by omega);have z:ops[k]?=some ops[k]:=bE wN;by_cases V:∀p∈(r k).eff,p.1≠id
  ·exact .inr V
  have BV:(r k).eff≠[]:=fun e=>V (by rw[e];simp);have N:cls A.C ap ops[k].op=3:=by have:=Ew k wN BV;rw[z]at this;exact this
  have OI:(r k).run=true:=by
   cases hr:(r k).run with
   | true=>rfl
   | false=>exact absurd ((H k _ z).not hr).2.1 BV
  have hf:(fS A.C ap ops)[k]?=some true:=by
   rcases (G k _ z OI).2.1 with h | h
   ·exact h
   exact absurd (fun p hp e=>by have:=xD h p hp;rw[e,hid]at this;cases this) V
  have ord:=sf z hf N i o J hc hth;refine .inl ⟨fun xI=>?_,fun dv=>?_⟩
  ·rcases gC k i with h | h | h
   ·exact h
   ·subst h;rw[hi]at xI;cases xI
   have:=later k _ z h (ord.1 h);rw[xI]at this;cases this
  exact bits k dv (ord.2 dv)
 have ext:∀id,(st i).h id=.none\/Hn B r (fun _=>true) i id=(st i).h id:=by
  intro id;by_cases q_:fc ops r i id
  ·exact .inl ((hh i (by omega) id).1 q_).1
  exact .inr ((hh i (by omega) id).2 q_).symm
 have PZ:(r i).run=true->aZ A.C o (ev (TE ops st E)) (Hn B r E ops.size) fun v e n=>v=(r i).v/\e=(r i).eff/\n=(r i).new:=by
  intro I;have O:=D.ran I;have h2:aZ A.C o (ev (TE ops st E)) (st i).h fun v e n=>v=(r i).v/\e=(r i).eff/\n=(r i).new:=by
   refine me (fun x hx=>?_) O;cases x with
   | tmp t=>
    exact (ue t (vA _ (vB.2 ⟨.tmp t,by simpa using hx,rfl⟩))).symm
   | const v=>rfl
   | global g=>rfl
   | func f=>rfl
  have four:cls A.C ap o.op=0\/cls A.C ap o.op=1\/cls A.C ap o.op=2\/cls A.C ap o.op=3:=by
   have:=Eo A.C ap o.op;omega
  rcases four with h | h | h | h
  ·exact I5 h h2
  ·have LK:ap=false:=by
    cases OJ:ap with
    | false=>rfl
    | true=>
     rw[OJ]at h;exact absurd h (Ep A.C o.op)
   refine I6 h (fun id ht=>?_) h2;have H0:=sg Z H LK Cp s_ h0 E ops.size (aC _) id;have LL:=sg Z H LK Cp s_ h0 (fun _=>true) i (by omega) id;have heq:(st i).h id=Hn B r (fun _=>true) i id:=by
    rcases ext id with e | e
    ·rw[e]at ht;exact ht.elim
    exact e.symm
   rw[<-heq]at LL;rcases LL with e | ⟨e,es,bW,e1,e2⟩ | ⟨cs,dB,e1,e2⟩ | ⟨m,es,m',bW,e1,e2⟩
   ·rw[<-e]at H0;rcases H0 with f | ⟨f,fs,Jb,U,f2⟩ | ⟨cs,dB,U,f2⟩ | ⟨m,es,m',bW,U,f2⟩
    ·rw[f];exact⟨ht,fun e es h=>⟨es,h⟩,fun cs h=>⟨cs,h⟩,fun cs h=>⟨cs,h⟩,fun e es h=>⟨es,h⟩,fun c0 ty a h=>⟨a,h⟩⟩
    ·rw[U,f2];exact⟨trivial,fun e es h=>(by injection h with O h2;subst O;exact⟨Jb,rfl⟩),fun cs h=>(by cases h),fun cs h=>(by cases h),fun _ _ h=>(by cases h),fun _ _ _ h=>by cases h⟩
    ·rw[U,f2];exact⟨trivial,fun e es h=>by (cases h),fun cs h=>⟨dB,rfl⟩,fun cs h=>(by cases h),fun _ _ h=>(by cases h),fun _ _ _ h=>by cases h⟩
    rw[U,f2];exact⟨trivial,fun e es h=>by (cases h),fun cs h=>by (cases h),fun cs h=>(by cases h),fun _ _ h=>(by cases h),fun _ _ _ h=>by cases h⟩
   ·rw[e1]at H0;rw[e2];rcases H0 with f | ⟨f,fs,Jb,U,f2⟩ | ⟨cs,dB,U,f2⟩ | ⟨m,es,m',bW,U,f2⟩
    ·rw[f];exact⟨trivial,fun e es h=>(by injection h with O h2;subst O;exact⟨_,rfl⟩),fun cs h=>by (cases h),fun cs h=>(by cases h),fun _ _ h=>(by cases h),fun _ _ _ h=>by cases h⟩
    ·injection U with U _;subst U;rw[f2];exact⟨trivial,fun e es h=>(by injection h with O h2;subst O;exact⟨_,rfl⟩),fun cs h=>by (cases h),fun cs h=>(by cases h),fun _ _ h=>(by cases h),fun _ _ _ h=>by cases h⟩
    ·cases U
    cases U
   ·rw[e1]at H0;rw[e2];rcases H0 with f | ⟨f,fs,Jb,U,f2⟩ | ⟨ds,OC,U,f2⟩ | ⟨m,es,m',bW,U,f2⟩
    ·rw[f];exact⟨trivial,fun e es h=>by (cases h),fun cs h=>⟨_,rfl⟩,fun cs h=>(by cases h),fun _ _ h=>(by cases h),fun _ _ _ h=>by cases h⟩
    ·cases U
    ·rw[f2];exact⟨trivial,fun e es h=>by (cases h),fun cs h=>⟨_,rfl⟩,fun cs h=>(by cases h),fun _ _ h=>(by cases h),fun _ _ _ h=>by cases h⟩
    cases U
   rw[e1]at H0;rw[e2];rcases H0 with f | ⟨f,fs,Jb,U,f2⟩ | ⟨ds,OC,U,f2⟩ | ⟨m,es,m',bW,U,f2⟩
   ·rw[f];exact⟨trivial,fun e es h=>by (cases h),fun cs h=>by (cases h),fun cs h=>(by cases h),fun _ _ h=>(by cases h),fun _ _ _ h=>by cases h⟩
   ·cases U
   ·cases U
   rw[f2];exact⟨trivial,fun e es h=>by (cases h),fun cs h=>by (cases h),fun cs h=>(by cases h),fun _ _ h=>(by cases h),fun _ _ _ h=>by cases h⟩
  ·rcases (G i o J I).1 with hf | hpv | hfp | hth | N
   case inr.inr.inr.inr=>rw[h]at N;cases N
   case inr.inr.inr.inl=>
    have Eu:∀k,k<ops.size->ox X (st k).h (r k).eff=true:=fun k wN=>by
     have z:ops[k]?=some ops[k]:=bE wN;cases hr:(r k).run with
     | true=>exact (G k _ z hr).2.2
     | false=>rw[((H k _ z).not hr).2.1];rfl
    refine me (fun x hx=>?_) (I_ (h':=Hn B r E ops.size) (fun id hid V=>Et Z H Eu hh E hid (by omega) V) hth O);cases x with
    | tmp t=>
     exact (ue t (vA _ (vB.2 ⟨.tmp t,by simpa using hx,rfl⟩))).symm
    | const v=>rfl
    | global g=>rfl
    | func f=>rfl
   case inr.inr.inl=>
    refine me (fun x hx=>?_) (I9 (h':=Hn B r E ops.size) (fun id hid=>?_) hfp O)
    ·cases x with
     | tmp t=>
      exact (ue t (vA _ (vB.2 ⟨.tmp t,by simpa using hx,rfl⟩))).symm
     | const v=>rfl
     | global g=>rfl
     | func f=>rfl
    rw[OH h (AU hfp) id hid];exact ext id
   case inr.inl=>
    refine me (fun x hx=>?_) (I7 hpv O);cases x with
    | tmp t=>
     exact (ue t (vA _ (vB.2 ⟨.tmp t,by simpa using hx,rfl⟩))).symm
    | const v=>rfl
    | global g=>rfl
    | func f=>rfl
   rw[Ex (.inr ⟨h,hf⟩)];obtain⟨v,e,n,⟨rfl,rfl,rfl⟩,h4⟩:=l6 ext h2;exact h4 _ ⟨rfl,rfl,rfl⟩
  rw[Ex (.inl h)];obtain⟨v,e,n,⟨rfl,rfl,rfl⟩,h4⟩:=l6 ext h2;exact h4 _ ⟨rfl,rfl,rfl⟩
 have H3:∀x,o.dst≠some x->(VE ops (fun k=>E k||bB k i) x↔VE ops E x):=by
  intro x hx;refine⟨fun hv k ok z vE=>?_,fun hv k ok z vE=>by simp[hv k ok z vE]⟩;have:=hv k ok z vE;simp only[oa]at this;rcases this with h | h
  ·exact h
  have:=aG.1 h;subst this;rw[J]at z;injection z with z;subst z;exact absurd vE hx
 have LM:∀v,v=(r i).v->cU (TE ops st E) o.dst v=TE ops st (fun k=>E k||bB k i):=by
  intro v hv;funext x;have other:o.dst≠some x->TE ops st E x=TE ops st (fun k=>E k||bB k i) x:=fun hx=>by
   unfold TE;by_cases Na:VE ops E x
   ·rw[qH Na,qH ((H3 x hx).2 Na)]
   rw[af Na,af fun h=>Na ((H3 x hx).1 h)]
  cases hZ:o.dst with
  | none=>exact other (by rw[hZ];intro h;cases h)
  | some d=>
   show ax _ _ _ _=_;by_cases e:x=d
   ·subst e;rw[ak];unfold TE;rw[qH,zC Z H J hZ ops.size (by omega) (aC _),hv];intro k ok z vE;have:k=i:=by
     rcases gC k i with h5 | h5 | h5
     ·exact absurd hZ ((hp k i ok o h5 z J).dst x vE)
     ·exact h5
     exact absurd vE ((hp i k o ok h5 J z).dst x hZ)
    simp[this,aG.2]
   rw[au _ _ e];exact other fun h=>e (by rw[hZ]at h;injection h with h;exact h.symm)
 unfold wpOp;simp only[J];by_cases I:(r i).run=true
 ·have rZ:Region.wanted o (yielded ops a.tmps)=true:=by
   have hg:=D.guard;unfold Region.wanted;split at hg
   ·rename_i h;rw[h]
   rename_i g want h;rw[h];obtain⟨og,tg,b,k1,k2,k3,k4⟩:=hg;have Ey:tg∈o.looksAt ops:=l_ _ (by rw[h];simp[show ops[g]?=some og by simpa using k1,k2]);have:=kb sim (ops:=ops) (g:=g) (by simpa using k1) k2 trivial (by show TE ops st E tg=_;rw[ue tg Ey];exact k3);simp only[this];rw[I]at k4;exact k4.symm
  rw[qH rZ];refine .inl (D0 A o _ _ _ _ _ _ _ _ next Q hC sim (fun _ _=>trivial) YL (PZ I) (fun v eff b z=>?_) fun v eff new S' rho' a' w' z aQ=>?_)
  ·obtain⟨_,_,Kv⟩:=z;obtain⟨d,hZ⟩:∃d,o.dst=some d:=by
    have:=D.ndst;rw[<-Kv]at this;cases tY:o.dst with
    | none=>rw[tY]at this;cases this
    | some d=>exact⟨d,rfl⟩
   have Y:Co ops r i d b:=⟨o,J,hZ,Kv.symm⟩;rw[hZ];refine⟨fun hL=>(by have:=hL i b Y;rw[hi]at this;cases this),?_⟩;show Hn B r E ops.size d=b;have q_:fc ops r i d:=⟨i,b,aC _,Y⟩;have V:∀k,k<ops.size->E k=true->∀p∈(r k).eff,p.1≠d:=by
    intro k wN xI p HW e;have z:ops[k]?=some ops[k]:=bE wN;have ht:=gE (H k _ z).there p HW;rcases gC k i with h | h | h
    ·have RD:fc ops r k d:=⟨i,b,by omega,Y⟩;rw[e,((hh k (by omega) d).1 RD).1]at ht;exact ht
    ·subst h;rw[hi]at xI;cases xI
    have N:cls A.C ap ops[k].op=3:=by
     by_cases N:cls A.C ap ops[k].op=3
     ·exact N
     have:=(H k _ z).quiet N;rw[this]at HW;cases HW
    have hmk:cls A.C ap o.op=3\/cls A.C ap o.op=2:=Gp (ap:=ap) (PZ I) Kv;have:=later k _ z h (by
     rcases hmk with hmk | hmk
     ·exact (hp i k o _ h J z).w3 N hmk
     rcases (G i o J I).1 with hf | hpv | hfp | hth | h3'
     ·exact (pD J hf hmk k _ z N).2 h
     ·have:=zu hpv (D.ran I);rw[<-Kv]at this;cases this
     ·rcases zv hfp (D.ran I) with tP | hdX
      ·rw[<-Kv]at tP;cases tP
      rw[hZ]at hdX;have hdX:tx X d=true:=hdX;have BV:(r k).eff≠[]:=fun e=>by rw[e]at HW;cases HW
      have OI:(r k).run=true:=by
       cases hr:(r k).run with
       | true=>rfl
       | false=>exact absurd ((H k _ z).not hr).2.1 BV
      have hf:(fS A.C ap ops)[k]?=some true:=by
       rcases (G k _ z OI).2.1 with h | h
       ·exact h
       have:=xD h p HW;rw[e,hdX]at this;cases this
      exact (sf z hf N i o J hmk (AU hfp)).1 h
     ·have:=zw hth (D.ran I);rw[<-Kv]at this;cases this
     rw[hmk]at h3';cases h3')
    rw[xI]at this;cases this
   have:∀m,m<=ops.size->Hn B r E m d=B d:=by
    intro m
    induction m with
    | zero=>intro _;rfl
    | succ m ih=>
     intro hm;simp only[Hn];cases RE:E m with
     | false=>exact ih (by omega)
     | true=>
      show app (Hn B r E m) (r m).eff d=_;rw[fo (V m (by omega) RE)];exact ih (by omega)
   rw[this ops.size (aC _),Cp i d b Y]
  obtain⟨e1,e2,e3⟩:=z;refine hnext S' rho' a' w' ?_;have hH:app (Hn B r E ops.size) eff=Hn B r (fun k=>E k||bB k i) ops.size:=by
   rw[e2];by_cases V:(r i).eff=[]
   ·rw[V];show Hn B r E ops.size=_;have:∀m,Hn B r (fun k=>E k||bB k i) m=Hn B r E m:=by
     intro m
     induction m with
     | zero=>rfl
     | succ m ih=>
      simp only[Hn];rw[ih];by_cases e:m=i
      ·subst e;rw[hi,aG.2 rfl,V];rfl
      have:bB m i=false:=by rw[cr];intro h;exact e (aG.1 h)
      rw[this,q9]
    exact (this _).symm
   have N:cls A.C ap o.op=3:=by
    by_cases N:cls A.C ap o.op=3
    ·exact N
    exact absurd (D.quiet N) V
   exact (Ja hi ops.size (HZ (.inl N)) iR).symm
  have aJ:=aQ;rw[LM v e1]at aJ;have cF:aU A (mG bk o.dst) (nR (LE ops r E) new (o.dst.getD 0)) S' rho' ⟨TE ops st (fun k=>E k||bB k i),Hn B r (fun k=>E k||bB k i) ops.size⟩ a' w':=by rw[<-hH];exact aJ
  refine cF.jF (fun _ _=>.inl trivial) fun d=>?_;cases LN:new with
  | none=>
   refine⟨fun h k b Y=>?_,fun h k b Y=>by simp[h k b Y]⟩;have:=h k b Y;simp only[oa]at this;rcases this with h | h
   ·exact h
   have:=aG.1 h;subst this;obtain⟨o',O,h2,h4⟩:=Y;rw[<-e3,LN]at h4;cases h4
  | some b=>
   obtain⟨d',hZ⟩:∃d,o.dst=some d:=by
    have:=D.ndst;rw[<-e3,LN]at this;cases tY:o.dst with
    | none=>rw[tY]at this;cases this
    | some d=>exact⟨d,rfl⟩
   rw[hZ];show _↔(LE ops r E d\/d=d');refine⟨fun h=>?_,fun h k b' Y=>?_⟩
   ·by_cases e:d=d'
    ·exact .inr e
    refine .inl fun k b' Y=>?_;have:=h k b' Y;simp only[oa]at this;rcases this with h | h
    ·exact h
    have:=aG.1 h;subst this;obtain⟨o',O,h2,h4⟩:=Y;rw[J]at O;injection O with O;rw[<-O,hZ]at h2;injection h2 with h2;exact absurd h2.symm e
   rcases h with h | h
   ·simp[h k b' Y]
   obtain⟨o',O,h2,h4⟩:=Y;have:k=i:=by
    rcases gC k i with h5 | h5 | h5
    ·exact absurd (by rw[hZ,h]) ((hp k i o' o h5 O J).dst d h2)
    ·exact h5
    exact absurd (by rw[h2,h]) ((hp i k o o' h5 J O).dst d' hZ)
   simp[this,aG.2]
 have Ez:(r i).run=false:=by simpa using I
 obtain⟨n1,n2,n3⟩:=D.not Ez;have rZ:Region.wanted o (yielded ops a.tmps)=false:=by
  have hg:=D.guard;unfold Region.wanted;split at hg
  ·rw[Ez]at hg;cases hg
  rename_i g want h;rw[h];obtain⟨og,tg,b,k1,k2,k3,k4⟩:=hg;have Ey:tg∈o.looksAt ops:=l_ _ (by rw[h];simp[show ops[g]?=some og by simpa using k1,k2]);have:=kb sim (ops:=ops) (g:=g) (by simpa using k1) k2 trivial (by show TE ops st E tg=_;rw[ue tg Ey];exact k3);simp only[this];rw[Ez]at k4;exact k4.symm
 rw[af (by rw[rZ];decide)];refine hnext S rho _ _ ?_;have aJ:=sim.value o.dst YL mK undef (.p _ _ (.im _));rw[LM mK n1.symm]at aJ;have hH:Hn B r (fun k=>E k||bB k i) ops.size=Hn B r E ops.size:=by
  have:∀m,Hn B r (fun k=>E k||bB k i) m=Hn B r E m:=by
   intro m
   induction m with
   | zero=>rfl
   | succ m ih=>
    simp only[Hn];rw[ih];by_cases e:m=i
    ·subst e;rw[hi,aG.2 rfl,n2];rfl
    have:bB m i=false:=by rw[cr];intro h;exact e (aG.1 h)
    rw[this,q9]
  exact this _
 rw[hH];refine aJ.jF (fun _ _=>.inl trivial) fun d=>⟨fun h k b Y=>?_,fun h k b Y=>by simp[h k b Y]⟩;have:=h k b Y;simp only[oa]at this;rcases this with h | h
 ·exact h
 have:=aG.1 h;subst this;obtain⟨o',O,h2,h4⟩:=Y;rw[n3]at h4;cases h4
theorem filter_lt{p q:Nat->Bool}(D:∀x,q x=true->p x=true){i:Nat}(hp:p i=true)(I:q i=false):∀(l:List Nat),(l.filter q).length<=(l.filter p).length/\(i∈l->(l.filter q).length<(l.filter p).length):=by
 intro l
 induction l with
 | nil=>exact⟨aC _,fun h=>by cases h⟩
 | cons x l ih=>
  simp only[ma];refine⟨?_,fun h=>?_⟩
  ·cases z:q x with
   | true=>rw[D x z];simp;exact ih.1
   | false=>cases p x<;>simp<;>have:=ih.1<;>omega
  rcases fL.1 h with e | e
  ·subst e;rw[hp,I];simp;have:=ih.1;omega
  have:=ih.2 e;cases z:q x with
  | true=>rw[D x z];simp;exact this
  | false=>cases p x<;>simp<;>omega
theorem Gt{A:jR}(hC:aL A.C)(Gr:ap=ops.toList.any fun o=>gm A.C o.op)(O:iJ A.C ops=true)(hd:∀o∈ops.toList,gP o A.n)(H:∀(i:Nat) o,ops[i]?=some o->DStep A.C ap ops.toList o (st i) (r i) (st (i+1)))(G:∀(i:Nat) o,ops[i]?=some o->se A.C ap X (fS A.C ap ops) o (st i) (r i) i){B:Nat->AB}(Cp:∀k d b,Co ops r k d b->B d=b)(s_:∀d,¬fc ops r 0 d->B d=(st 0).h d)(h0:∀d,fc ops r 0 d->(st 0).h d=.none)
  {Q:Exit->Act->World->Prop} (hQ:∀S rho a w,aU A bk bk S rho (st ops.size) a w->Q .normal a w):
  ∀(D:Nat) (z:Array Bool) (S:Nat->Prop) (rho:Nat->Value) (a:Act) (w:World),z.size=ops.size->zz ops (fun i=>z.getD i false)->((List.range ops.size).filter fun i=>!z.getD i false).length<=D ->
   aU A bk (LE ops r fun i=>z.getD i false) S rho ⟨TE ops st (fun i=>z.getD i false),Hn B r (fun i=>z.getD i false) ops.size⟩ a w->wpAny A.C.P .any ops Q D z a w:=by
 obtain⟨Ev,hs,hp⟩:=iw O;obtain⟨HY,_⟩:=uc Ev;have hh:=nv O H Cp s_ h0;have fin:∀(z:Array Bool) (S:Nat->Prop) (rho:Nat->Value) (a:Act) (w:World),z.size=ops.size->Region.ready .any ops z=[]->aU A bk (LE ops r fun i=>z.getD i false) S rho ⟨TE ops st (fun i=>z.getD i false),Hn B r (fun i=>z.getD i false) ops.size⟩ a w->Q .normal a w:=by
  intro z S rho a w J U I;have all:∀i,i<ops.size->z.getD i false=true:=by
   intro i
   induction i using Nat.strongRecOn with
   | _ i ih=>
    intro Y;have N:ops[i]?=some ops[i]:=bE Y;cases hl:z.getD i false with
    | true=>rfl
    | false=>
     have:i∈Region.ready .any ops z:=mem_ready.2 ⟨getD_in (by omega) hl,_,N,fun e he hb=>by
      have V:=HY i _ N e he hb;exact ih e.on V (by omega)⟩
     rw[U]at this;cases this
  refine hQ S rho a w ?_;have hH:Hn B r (fun i=>z.getD i false) ops.size=(st ops.size).h:=by
   rw[HV ops.size ops.size (fun k hk=>.inl ⟨fun _=>hk,fun _=>all k hk⟩) (aC _)];funext d;refine ((hh ops.size (aC _) d).2 fun ⟨k,b,V,o,h2,_⟩=>?_).symm;have:=(vn.1 h2).1;omega
  have hT:TE ops st (fun i=>z.getD i false)=(st ops.size).t:=funext fun x=>qH fun k o hk _=>all k (vn.1 hk).1;rw[hH,hT]at I;refine I.jF (fun _ _=>trivial) fun d=>⟨fun _ k b hc=>?_,fun _=>trivial⟩;obtain⟨o,h2,_⟩:=hc;exact all k (vn.1 h2).1
 intro D
 induction D with
 | zero=>
  intro z S rho a w J iQ Cq I;have U:Region.ready .any ops z=[]:=by
   rw[List.eq_nil_iff_forall_not_mem];intro i Y;obtain⟨V,o,N,_⟩:=mem_ready.1 Y;have dv:=(vn.1 N).1;have hm:i∈(List.range ops.size).filter fun i=>!z.getD i false:=ov.2 ⟨dT.2 dv,by rw[getD_both V];rfl⟩;have:=gw (Nat.le_zero.1 Cq);rw[this]at hm;cases hm
  exact⟨U,fin z S rho a w J U I⟩
 | succ D ih=>
  intro z S rho a w J iQ Cq I;refine⟨fun U=>fin z S rho a w J U I,fun i Y=>?_⟩;obtain⟨V,o,N,fI⟩:=mem_ready.1 Y;have dv:=(vn.1 N).1;have P1:z.getD i false=false:=getD_both V;have Ef:(fun k=>(z.setIfInBounds i true).getD k false)=fun k=>z.getD k false||bB k i:=by
   funext k;by_cases e:i=k
   ·subst e;rw[aG.2 rfl,ou];simp[J,dv]
   rw[getD_set_ne false e];have:bB k i=false:=by rw[cr];intro h;exact e (aG.1 h).symm
   rw[this,q9]
  refine Gs hC Gr O hd H G Cp s_ h0 (E:=fun i=>z.getD i false) iQ N P1 fI I fun S' rho' a' w' aQ=>?_;refine ih (z.setIfInBounds i true) S' rho' a' w' (by simp[J]) ?_ ?_ ?_
  ·rw[Ef];intro j oj Z P2 e he hb;simp only[oa]at P2 ⊢;rcases P2 with h | h
   ·exact .inl (iQ j oj Z h e he hb)
   have:=aG.1 h;subst this;rw[N]at Z;injection Z with Z;subst Z;exact .inl (fI e he hb)
  ·have H4:∀k,(z.setIfInBounds i true).getD k false=(z.getD k false||bB k i):=fun k=>congrFun Ef k;have:=(filter_lt (p:=fun k=>!z.getD k false) (q:=fun k=>!(z.setIfInBounds i true).getD k false) (fun x hx=>by
    rw[H4 x]at hx;cases hl:z.getD x false with
    | true=>rw[hl]at hx;cases hx
    | false=>rfl) (i:=i) (by rw[P1];rfl) (by rw[H4 i,aG.2 rfl,ou];rfl) (List.range ops.size)).2 (dT.2 dv)
   omega
  rw[Ef];exact aQ
end
def HX.cT:List HX->List AV
 | []=>[]
 | .av x::r=>x::HX.cT r
 | .row _ _::r=>HX.cT r
theorem HX.vF(f:AV->AV):∀(r:List HX),HX.cT (r.map (HX.Te f))=(HX.cT r).map f
 | []=>rfl
 | .av x::r=>by simp[HX.cT,HX.Te,HX.vF f r]
 | .row _ _::r=>by simp[HX.cT,HX.Te,HX.vF f r]
theorem HX.vG{x:AV}:∀{r:List HX},.av x∈r->x∈HX.cT r
 | .av y::r,h=>by
  rcases fL.1 h with h | h
  ·injection h with h;subst h;simp[HX.cT]
  simp[HX.cT,HX.vG h]
 | .row _ _::r,h=>by
  rcases fL.1 h with h | h
  ·cases h
  simp[HX.cT,HX.vG h]
def Cr:FX->AV
 | some n=>.ow n
 | none=>.junk
def vH:AB->List AV
 | .box cs=>cs
 | .eN _ cs=>cs
 | .ai _ es=>es.flatMap HX.cT
 | .cell _ _ a=>[a]
 | .fam _ out=>out.map fun x=>Cr x.2
 | _=>[]
theorem si(d:Nat)(b:AB):vH (qX d b)=(vH b).map (sc d):=by
 cases b with
 | ai e es=>
  show (es.map fun r=>r.map (HX.Te (sc d))).flatMap HX.cT=(es.flatMap HX.cT).map (sc d)
  induction es with
  | nil=>rfl
  | cons r es ih=>simp only[qO,fT,aa,ih,HX.vF]
 | fam l out=>
  show (tw (Kr d) out).map (fun x=>Cr x.2)=(out.map fun x=>Cr x.2).map (sc d);rw[tw,ib,ib];refine vz fun x _=>?_;show Cr (Kr d x.2)=sc d (Cr x.2);cases x.2 with
  | some n=>
   unfold Kr Cr;simp only[AM.sc];cases bB n d<;>rfl
  | none=>rfl
 | _=>rfl
def qk(d:Nat)(s:AS):Prop:=s.h d=.none/\(∀j,kN d (s.t j)=false)/\∀k,∀x∈vH (s.h k),kN d x=false
theorem EA(d:Nat)(x:AV):kN d (sc d x)=false:=by
 rw[D6];split
 ·rfl
 assumption
variable {d:Nat}
theorem AW{z:Nat}{x:AV}(h:kN d x=false):kN d (sc z x)=false:=by
 rw[D6];split
 ·rfl
 exact h
theorem AX(d:Nat)(s:AS)(k:Nat):(k=d/\(dH d s).h k=.none)\/(k≠d/\(dH d s).h k=qX d (s.h k)):=by
 by_cases e:k=d
 ·subst e;exact .inl ⟨rfl,by show ax (fun k'=>qX k (s.h k')) k AB.none k=_;rw[ak]⟩
 exact .inr ⟨e,by show ax (fun k'=>qX d (s.h k')) d AB.none k=_;rw[au _ _ e]⟩
theorem ug(d:Nat)(s:AS):qk d (dH d s):=by
 refine⟨by rcases AX d s d with⟨_,h⟩ | ⟨h,_⟩;exact h;exact absurd rfl h,fun j=>EA d _,fun k x z=>?_⟩;rcases AX d s k with⟨_,h⟩ | ⟨_,h⟩
 ·rw[h]at z;cases z
 rw[h,si]at z;obtain⟨y,_,rfl⟩:=fh.1 z;exact EA d y
variable {s:AS}
theorem zE(D:Nat)(I:qk d s):qk d (dH D s):=by
 obtain⟨J,N,O⟩:=I;refine⟨?_,fun j=>AW (N j),fun k x z=>?_⟩
 ·rcases AX D s d with⟨_,h⟩ | ⟨_,h⟩
  ·exact h
  rw[h,J];rfl
 rcases AX D s k with⟨_,h⟩ | ⟨_,h⟩
 ·rw[h]at z;cases z
 rw[h,si]at z;obtain⟨y,U,rfl⟩:=fh.1 z;exact AW (O k y U)
def sj:List Oper->AS->AS
 | [],s=>s
 | o::r,s=>match ly o.op with
  | true=>sj r (dH (o.dst.getD 0) s)
  | false=>sj r s
theorem zF:∀(l:List Oper) (s:AS),(∀d,qk d s->qk d (sj l s))/\∀o∈l,ly o.op=true->qk (o.dst.getD 0) (sj l s):=by
 intro l
 induction l with
 | nil=>intro s;exact⟨fun _ h=>h,fun o h=>by cases h⟩
 | cons o l ih=>
  intro s;unfold sj;split
  ·rename_i D;refine⟨fun d I=>(ih _).1 d (zE _ I),fun o' J z=>?_⟩;rcases fL.1 J with e | e
   ·subst e;exact (ih _).1 _ (ug _ _)
   exact (ih _).2 o' e z
  rename_i D;refine⟨fun d I=>(ih _).1 d I,fun o' J z=>?_⟩;rcases fL.1 J with e | e
  ·subst e;rw[z]at D;cases D
  exact (ih _).2 o' e z
variable {A:jR} {rho:Nat->Value}
theorem aU.dH{S:Nat->Prop}{a:Act}{w:World}(z:aU A bk bk S rho s a w)(d:Nat):aU A bk bk S rho (dH d s) a w:=by
 have D:=z.free d .none;have I:(AM.dH d s).h d=.none:=(ug d s).1;rw[eX _ _ _ I]at D;exact D.AP d I
theorem aU.pre{S:Nat->Prop}{a:Act}{w:World}:∀(l:List Oper) (s:AS),aU A bk bk S rho s a w->aU A bk bk S rho (sj l s) a w:=by
 intro l
 induction l with
 | nil=>intro s z;exact z
 | cons o l ih=>
  intro s z;unfold sj;split
  ·exact ih _ (z.dH _)
  exact ih _ z
def sk(o:Oper)(s:AS):AS:=match o.op,o.dst with
 | .assign _,some d=>match s.t d with
  | .ow i=>match s.h i with
   | .row _ _=>match bB i d with
    | true=>s
    | false=>iT i d s
   | .ai _ _=>match bB i d with
    | true=>s
    | false=>iT i d s
   | _=>s
  | _=>s
 | _,_=>s
def uh:List Oper->AS->AS
 | [],s=>s
 | o::r,s=>uh r (sk o s)
theorem aU.post{S:Nat->Prop}{a:Act}{w:World}:∀(l:List Oper) (rho:Nat->Value) (s:AS),(∀o∈l,gP o A.n)->aU A bk bk S rho s a w->∃rho',aU A bk bk S rho' (uh l s) a w:=by
 intro l
 induction l with
 | nil=>intro rho s _ z;exact⟨rho,z⟩
 | cons o l ih=>
  intro rho s I z;have N:∀o∈l,gP o A.n:=fun o' O=>I o' (by simp[O]);have:∃rho',aU A bk bk S rho' (sk o s) a w:=by
   unfold sk;split
   ·rename_i d _ J;split
    ·split
     ·split
      ·exact⟨rho,z⟩
      rename_i D;refine⟨_,z.rename _ d (fun e=>?_) (bg (I o (by simp) d J) z.nb)⟩;rw[aG.2 e]at D;cases D
     ·split
      ·exact⟨rho,z⟩
      rename_i D;refine⟨_,z.rename _ d (fun e=>?_) (bg (I o (by simp) d J) z.nb)⟩;rw[aG.2 e]at D;cases D
     exact⟨rho,z⟩
    exact⟨rho,z⟩
   exact⟨rho,z⟩
  obtain⟨rho',U⟩:=this;exact ih rho' _ N U
theorem nw{c:AV}:∀{xs:List AV},c∈xs->kN d c=true->eG d xs=true:=by
 intro xs
 induction xs with
 | nil=>intro h;cases h
 | cons x xs ih=>
  intro h z;simp only[eG,oa];rcases fL.1 h with e | e
  ·subst e;exact .inl z
  exact .inr (ih e z)
theorem aE.loc{S:Nat->Prop}{w:World}{P:Program}{L':Nat->Prop}{h h':Nat->AB}{x:AV}{v:Value}(U:aE S w P bk rho h x v)(z:∀k,kN k x=true->h' k=h k/\L' k):aE S w P L' rho h' x v:=by
 induction U with
 | p x v U=>exact .p x v U
 | nl=>exact .nl
 | ow k v hv=>obtain⟨I,J⟩:=z k (by simp only[kN];exact aG.2 rfl);exact .ow k v fun V=>⟨J,(hv (by rw[<-I];exact V)).2⟩
 | rp k a b v hv=>obtain⟨I,J⟩:=z k (by simp only[kN];exact aG.2 rfl);exact .rp k a b v fun e Y=>⟨J,(hv e (by rw[<-I];exact Y)).2⟩
 | bx k a v hv=>obtain⟨I,J⟩:=z k (by simp only[kN];exact aG.2 rfl);exact .bx k a v fun V=>⟨J,(hv (by rw[<-I];exact V)).2⟩
 | vw k a b v hv=>obtain⟨I,J⟩:=z k (by simp only[kN];exact aG.2 rfl);exact .vw k a b v fun e Y=>⟨J,(hv e (by rw[<-I];exact Y)).2⟩
 | fn f cap vs hl hc ih=>exact .fn f cap vs hl fun j c u D N=>ih j c u D N fun k O=>z k (nw (aj D) O)
 | tu xs vs hl hc ih=>exact .tu xs vs hl fun j c u D N=>ih j c u D N fun k O=>z k (nw (aj D) O)
 | st xs vs hl h0 hc ih=>exact .st xs vs hl h0 fun j c u D N=>ih j c u D N fun k O=>z k (nw (aj D) O)
 | ifp t a u hc ih=>exact .ifp t a u (ih z)
 | junk v=>exact .junk v
theorem Jc(hC:aL A.C){id:Nat}{ops:Array Oper}{K:Exit->AS->Prop}(hok:iJ A.C ops=true)(hd:∀o∈ops.toList,gP o A.n)
  (h:∃X,kg A.C (ops.toList.any fun o=>gm A.C o.op) X ops.toList (fS A.C (ops.toList.any fun o=>gm A.C o.op) ops) ops.toList (fun s'=>K .normal (uh ops.toList s')) (sj ops.toList s)):W A (.region id ops true) K s:=by
 intro S rho a w sim;have I:=(sim.grow hC w.drew ⟨rfl,rfl,rfl,aC _,fun _ _ _=>rfl⟩).pre ops.toList s;obtain⟨X,h⟩:=h;obtain⟨st,r,h1,h2,h3⟩:=Ek ops.toList _ _ h;have hsz:ops.toList.length=ops.size:=by simp
 rw[hsz]at h2;have H:∀(i:Nat) o,ops[i]?=some o->DStep A.C (ops.toList.any fun o=>gm A.C o.op) ops.toList o (st i) (r i) (st (i+1)):=fun i o ho=>(h3 i o (by simpa using ho)).1;have G:∀(i:Nat) o,ops[i]?=some o->se A.C (ops.toList.any fun o=>gm A.C o.op) X (fS A.C (ops.toList.any fun o=>gm A.C o.op) ops) o (st i) (r i) i:=fun i o ho=>(h3 i o (by simpa using ho)).2;have nr:∀k d b,Co ops r k d b->qk d (st 0):=fun k d b ⟨o,ho,hZ,hb⟩=>by
  have Fz:=(H k o ho).ndst;rw[hb,hZ]at Fz;rw[h1];have:=(zF ops.toList s).2 o (aj (by simpa using ho)) Fz;rw[hZ]at this;exact this
 have zG:∀d,fc ops r 0 d->qk d (st 0):=fun d ⟨k,b,_,Y⟩=>nr k d b Y;have OL:∀d,Decidable (∃b k,Co ops r k d b):=fun d=>Classical.propDecidable _;obtain⟨B,hB⟩:∃B:Nat->AB,B=fun d=>@dite _ (∃b k,Co ops r k d b) (OL d) (fun h=>Classical.choose h) (fun _=>(st 0).h d):=⟨_,rfl⟩;obtain⟨_,_,hp⟩:=iw hok;have Cp:∀k d b,Co ops r k d b->B d=b:=by
  intro k d b Y;have hex:∃b k,Co ops r k d b:=⟨b,k,Y⟩;rw[hB];simp only;rw[dif_pos hex];obtain⟨k',Fx⟩:=vy hex;generalize Classical.choose hex=b' at Fx;obtain⟨o,e1,e2,e3⟩:=Y;obtain⟨o',f1,f2,f3⟩:=Fx;have:k=k':=by
   rcases gC k k' with h | h | h
   ·exact absurd f2 ((hp k k' o o' h e1 f1).dst d e2)
   ·exact h
   exact absurd e2 ((hp k' k o' o h f1 e1).dst d f2)
  subst this;rw[e3]at f3;injection f3 with f3;exact f3.symm
 have V:∀d,¬fc ops r 0 d->B d=(st 0).h d:=by
  intro d hn;rw[hB];simp only;rw[dif_neg fun ⟨b,k,Y⟩=>hn ⟨k,b,nI _,Y⟩]
 have N:∀d,¬fc ops r 0 d->LE ops r (fun _=>false) d:=fun d hn k b Y=>absurd ⟨k,b,nI _,Y⟩ hn;have Gu:∀d,LE ops r (fun _=>false) d->¬fc ops r 0 d:=fun d hl ⟨k,b,_,Y⟩=>by cases hl k b Y
 rw[<-h1]at I;have OM:aU A bk (LE ops r fun _=>false) S rho ⟨TE ops st (fun _=>false),B⟩ a w.drew:=
  {tm:=fun j _=>by
    have ht:TE ops st (fun _=>false) j=(st 0).t j:=by
     unfold TE;split
     ·rename_i hv;exact vD H (fun k o hk e=>by cases hv k o hk e) ops.size (aC _)
     rfl
    show aE _ _ _ _ _ _ (TE ops st (fun _=>false) j) _;rw[ht];refine (I.tm j trivial).loc fun k hk=>?_;have hn:¬fc ops r 0 k:=fun O=>by rw[(zG k O).2.1 j]at hk;cases hk
    exact⟨V k hn,N k hn⟩
   sz:=I.sz,df:=I.df,nb:=I.nb,pn:=I.pn,ev:=I.ev,s0:=I.s0,st:=I.st,sb:=I.sb
   hp:=fun k hk=>by
    have hn:=Gu k hk;show cd _ _ _ _ _ _ _ (B k);rw[V k hn];have z:=I.hp k trivial;cases hb:(st 0).h k with
    | none=>trivial
    | row e es=>rw[hb]at z;exact z
    | f_ es=>rw[hb]at z;exact z
    | jt es=>rw[hb]at z;exact z
    | map mk es=>rw[hb]at z;exact z
    | iter mk es n cur=>rw[hb]at z;exact z
    | box cs=>
     rw[hb]at z;obtain⟨g,ty,c,Z,k2,k3,k4⟩:=z;refine⟨g,ty,c,Z,k2,k3,fun j x u U hu=>⟨(k4 j x u U hu).1,(k4 j x u U hu).2.loc fun i D=>?_⟩⟩;have J:¬fc ops r 0 i:=fun O=>by rw[(zG i O).2.2 k x (by rw[hb];exact aj U)]at D;cases D
     exact⟨V i J,N i J⟩
    | eN ty cs=>
     rw[hb]at z;obtain⟨g,c,Z,k2,k3,k4⟩:=z;refine⟨g,c,Z,k2,k3,fun j x u U hu=>⟨(k4 j x u U hu).1,(k4 j x u U hu).2.loc fun i D=>?_⟩⟩;have J:¬fc ops r 0 i:=fun O=>by rw[(zG i O).2.2 k x (by rw[hb];exact aj U)]at D;cases D
     exact⟨V i J,N i J⟩
    | aA cs=>rw[hb]at z;exact z
    | cell c0 ty x=>
     rw[hb]at z;obtain⟨g,off,v,Z,k2,k3,k4,k5⟩:=z;refine⟨g,off,v,Z,k2,k3,k4,k5.loc fun i D=>?_⟩;have J:¬fc ops r 0 i:=fun O=>by rw[(zG i O).2.2 k x (by rw[hb];exact n9.2 rfl)]at D;cases D
     exact⟨V i J,N i J⟩
    | fam l out=>
     rw[hb]at z;obtain⟨Z,hF⟩:=z;refine⟨Z,hF.mem,hF.dis,fun m n g cs hm hl=>?_⟩;have J:¬fc ops r 0 n:=fun O=>by
      have hf:=(zG n O).2.2 k (.ow n) (by rw[hb];exact fh.2 ⟨(m,some n),hm,rfl⟩);simp only[kN]at hf;rw[aG.2 rfl]at hf;cases hf
     intro ht;have ht:(B n).there:=ht;rw[V n J]at ht;exact⟨N n J,(hF.out m n g cs hm hl ht).2⟩
    | ai e es=>
     rw[hb]at z;obtain⟨⟨i0,xs,Z,k2,k3,k4,k5,k6⟩,hS⟩:=z;refine⟨⟨i0,xs,Z,k2,k3,k4,k5,fun a' r j x ha U=>?_⟩,hS⟩;obtain⟨u,hu,hr⟩:=k6 a' r j x ha U;refine⟨u,hu,?_⟩;cases x with
     | row e' bW=>exact hr
     | av x=>
      refine aE.loc hr fun i D=>?_;have J:¬fc ops _ 0 i:=fun O=>by rw[(zG i O).2.2 k x (by rw[hb];exact ic.2 ⟨r,aj ha,HX.vG (aj U)⟩)]at D;cases D
      exact⟨V i J,N i J⟩
   dj:=fun i j g D U li lj cK dW=>by
    have fE:(B i).live:=li;have Lv:(B j).live:=lj;have cK:hasB _ (B i) (rho i) g:=cK;have dW:hasB _ (B j) (rho j) g:=dW;rw[V i (Gu i D)]at fE cK;rw[V j (Gu j U)]at Lv dW;exact I.dj i j g trivial trivial fE Lv cK dW
   lv:=fun i g D li hg=>by
    have fE:(B i).live:=li;have hg:hasB _ (B i) (rho i) g:=hg;rw[V i (Gu i D)]at fE hg;exact I.lv i g trivial fE hg
   fr:=I.fr }
 refine wp_region_any hC.any ?_;have P3:(fun i=>(Array.replicate ops.size false).getD i false)=fun _=>false:=by
  funext i;exact getD_replicate_false _ _
 refine Gt hC rfl hok hd H G Cp V (fun d O=>(zG d O).1) (fun S' rho' a' w' aQ=>?_) ops.size (Array.replicate ops.size false) S rho a w.drew (by simp) ?_ ?_ ?_
 ·obtain⟨EB,aJ⟩:=aQ.post ops.toList rho' (st ops.size) hd;exact⟨S',EB,_,aJ,h2⟩
 ·rw[P3];intro j oj _ h;cases h
 ·have:((List.range ops.size).filter fun i=>!(Array.replicate ops.size false).getD i false).length<=(List.range ops.size).length:=List.length_filter_le _ _;simpa using this
 rw[P3];have:∀m,Hn B r (fun _=>false) m=B:=by
  intro m
  induction m with
  | zero=>rfl
  | succ m ih=>exact ih
 rw[this];exact OM
end Go.AM
namespace Go.AM
open Go.RowKit
def EC(n:Nat)(o:Oper):Bool:=match o.dst with
 | some d=>Nat.blt d n
 | none=>true
def gn(C:Ctx)(n:Nat):Code->Bool
 | .region _ ops draw=>ops.toList.all (EC n)&&(!draw||iJ C ops)
 | .seq a b=>gn C n a&&gn C n b
 | .cond _ a b=>gn C n a&&gn C n b
 | .block _ c=>gn C n c
 | .loop c=>gn C n c
 | _=>true
def kG(f:AS->Prop)(K:Exit->AS->Prop):Exit->AS->Prop
 | .normal,s=>f s
 | e,s=>K e s
def ui(id:Nat)(K:Exit->AS->Prop):Exit->AS->Prop
 | .exit i,s=>kF (bB i id) (K .normal s) (K (.exit i) s)
 | e,s=>K e s
def ta(A:jR):Code->(Exit->AS->Prop)->AS->Prop
 | .skip,K,s=>K .normal s
 | .region _ ops draw,K,s=>match draw with
  | false=>kO A.C ops.toList ops.toList (K .normal) s
  | true=>∃X,kg A.C (ops.toList.any fun o=>gm A.C o.op) X ops.toList (fS A.C (ops.toList.any fun o=>gm A.C o.op) ops) ops.toList (fun s'=>K .normal (uh ops.toList s')) (sj ops.toList s)
 | .seq a b,K,s=>ta A a (kG (fun s'=>Seen A s' (ta A b K)) K) s
 | .cond c a b,K,s=>match ev s.t c with
  | .p (.im (.bool t))=>kF t (ta A a K s) (ta A b K s)
  | _=>False
 | .block id c,K,s=>ta A c (ui id K) s
 | .loop c,K,s=>∃(α:Type) (I:α->AS->Prop) (m:α->Nat),(∃x s',aY A s s'/\I x s')/\∀x s,I x s->ta A c (kG (fun s'=>∃y nt,aY A s' nt/\I y nt/\m y<m x) K) s
 | .exit id,K,s=>K (.exit id) s
 | .ret,K,s=>K .ret s
 | _,_,_=>False
theorem AZ{n:Nat}{ops:Array Oper}(h:ops.toList.all (EC n)=true):∀o∈ops.toList,gP o n:=by
 intro o z d D;have:=cC.1 h o z;unfold EC at this;rw[D]at this;exact Tj this
theorem uj{A:jR}(hC:aL A.C):∀(c:Code) (K:Exit->AS->Prop) (s:AS),gn A.C A.n c=true->ta A c K s->W A c K s:=by
 intro c
 induction c with
 | skip=>intro K s _ h S rho a w D;exact wp_skip ⟨S,rho,s,D,h⟩
 | region id ops draw=>
  intro K s z h;simp only[gn,fH]at z;cases draw with
  | false=>exact D9 hC (AZ z.1) h
  | true=>exact Jc hC (by simpa using z.2) (AZ z.1) h
 | seq a b N O=>
  intro K s z h;simp only[gn,fH]at z;refine Lz ?_;refine zm (N _ s z.1 h) fun e U J=>?_;cases e with
  | normal=>
   exact fun S rho a w D=>by
    obtain⟨S',rho',s2,V,J⟩:=J S rho a w D;exact O K s2 z.2 J S' rho' a w V
  | exit id=>exact J
  | goto l=>exact J
  | ret=>exact J
  | panic c=>exact J
  | outgrown=>exact J
 | cond c a b N O=>
  intro K s z h;simp only[gn,fH]at z;simp only[ta]at h;split at h
  ·rename_i t Y;refine I0 Y (fun e=>N K s z.1 ?_) (fun e=>O K s z.2 ?_)
   ·rw[e]at h;exact h
   rw[e]at h;exact h
  exact h.elim
 | block id c ih=>
  intro K s z h;exact Gj (zm (ih _ s z h) fun e U J=>by cases e<;>exact J)
 | loop c ih=>
  intro K s z h;obtain⟨α,I,m,h0,Z⟩:=h;refine I1 I m h0 fun x s hi=>?_;exact zm (ih _ s z (Z x s hi)) fun e U J=>by cases e<;>exact J
 | exit id=>intro K s _ h S rho a w D;exact wp_exit ⟨S,rho,s,D,h⟩
 | ret=>intro K s _ h S rho a w D;exact wp_ret ⟨S,rho,s,D,h⟩
 | rangeFunc=>intro K s _ h;exact h.elim
 | scope=>intro K s _ h;exact h.elim
 | label=>intro K s _ h;exact h.elim
 | goto=>intro K s _ h;exact h.elim
 | refuse=>intro K s _ h;exact h.elim
def Tu{α:Type}:List (Nat×α)->(Nat->α)->Nat->α
 | [],t=>t
 | (i,v)::r,t=>ax (Tu r t) i v
def jH{α:Type}:List (Nat×α)->(Nat->α)->Prop
 | [],_=>True
 | (i,v)::r,t=>t i=v/\jH r t
theorem oA{α:Type}:∀(l:List (Nat×α)) (t:Nat->α),jH l t->Tu l t=t:=by
 intro l
 induction l with
 | nil=>intro t _;rfl
 | cons p l ih=>
  intro t h;obtain⟨i,v⟩:=p;show ax (Tu l t) i v=t;rw[ih t h.2];exact eX _ _ _ h.1
theorem Gv{A:jR}{c:Code}{K:Exit->AS->Prop}{s:AS}{α:Type}(R:α->Prop)(D:α->List (Nat×AV))(hs:α->List (Nat×AB))(m:α->Nat)(J:α)(s0:AS)(h0:aY A s s0)(Z:R J)(ht:jH (D J) s0.t)(hh:jH (hs J) s0.h)
  (round:∀x,R x->∀t h,ta A c (kG (fun I=>∃y z,aY A I z/\R y/\m y<m x/\jH (D y) z.t/\jH (hs y) z.h) K) ⟨Tu (D x) t,Tu (hs x) h⟩):ta A (.loop c) K s:=by
 refine⟨α,fun x s=>R x/\jH (D x) s.t/\jH (hs x) s.h,m,⟨J,s0,h0,Z,ht,hh⟩,fun x s ⟨h1,h2,h3⟩=>?_⟩;have:=round x h1 s.t s.h;rw[oA _ _ h2,oA _ _ h3]at this;have e:(kG (fun I=>∃y z,aY A I z/\R y/\m y<m x/\jH (D y) z.t/\jH (hs y) z.h) K)=(kG (fun I=>∃y z,aY A I z/\(R y/\jH (D y) z.t/\jH (hs y) z.h)/\m y<m x) K):=by
  funext e I;cases e<;>try rfl
  apply propext;constructor
  ·rintro⟨y,z,N,O,U,V,Y⟩;exact⟨y,z,N,⟨O,V,Y⟩,U⟩
  rintro⟨y,z,N,⟨O,V,Y⟩,U⟩;exact⟨y,z,N,O,U,V,Y⟩
 rw[<-e];exact this
end Go.AM
namespace Go.AM
open Go.RowKit
def mU(l:List (Nat×TI))(t:TypeId):Option TI:=match l with
 | []=>none
 | (i,ti)::r=>match Nat.beq i t with
  | true=>some ti
  | false=>mU r t
theorem mf{t:TypeId}{z:TI}:∀{l:List (Nat×TI)},mU l t=some z->(t,z)∈l:=by
 intro l
 induction l with
 | nil=>intro h;cases h
 | cons p l ih=>
  intro h;obtain⟨i,Ny⟩:=p;unfold mU at h;split at h
  ·rename_i e;have:=bq e;subst this;injection h with h;subst h;exact dJ ..
  exact An _ (ih h)
def ED:Value->Value->Bool
 | .int k n,.int k' n'=>kB k k'&&decide (n=n')
 | .bool b,.bool b'=>b==b'
 | .string s,.string s'=>s.data.toList==s'.data.toList
 | .slice none a b,.slice none a' b'=>Nat.beq a a'&&Nat.beq b b'
 | .pointer none,.pointer none=>true
 | .map none,.map none=>true
 | .nilFunc,.nilFunc=>true
 | .nilIface,.nilIface=>true
 | _,_=>false
theorem EE{v u:Value}(h:ED v u=true):v=u:=by
 unfold ED at h;split at h
 ·simp only[fH,dS]at h;rw[Av h.1,h.2]
 ·rw[eq_of_beq h]
 ·have:=eq_of_beq h;congr 1;exact ByteArray.ext (gV this)
 ·simp only[fH]at h;rw[bq h.1,bq h.2]
 ·rfl
 ·rfl
 ·rfl
 ·rfl
 cases h
def vI:List Value->List Value->Bool
 | [],[]=>true
 | v::r,u::s=>ED v u&&vI r s
 | _,_=>false
theorem Cs:∀{a b:List Value},vI a b=true->a=b:=by
 intro a
 induction a with
 | nil=>intro b h;cases b with | nil=>rfl | cons=>cases h
 | cons v r ih=>
  intro b h;cases b with
  | nil=>cases h
  | cons u s=>
   simp only[vI,fH]at h;rw[EE h.1,ih h.2]
def LO:TypeDesc->Bool
 | .struct _ | .array _ _=>true
 | _=>false
def ra(P:Program):List (Nat×Nat×Bool)->List Field->Bool
 | [],[]=>true
 | f::r,g::s=>Nat.beq f.1 g.offset&&!Nat.beq f.2.1 0&&(match P.info? g.type with
  | some i=>Nat.beq i.size f.2.1
  | none=>false)&&(match P.underlying g.type with
  | some d=>LO d==f.2.2
  | none=>false)&&ra P r s
 | _,_=>false
def P4(P:Program)(t:TypeId)(ti:TI):Bool:=match ti.ud,P.underlying t with
 | .sc,some .bool=>true
 | .sc,some d=>!LO d&&!ti.eq
 | .int k,some (.int k')=>kB k k'
 | .st fs,some (.struct gs)=>ra P fs gs.toList
 | .sl e,some (.slice e')=>Nat.beq e e'
 | .mp k e,some (.map k' e')=>Nat.beq k k'&&Nat.beq e e'
 | .str,some .string=>true
 | _,_=>false
def Nb(P:Program)(p:Nat×TI):Bool:=match P.info? p.1 with
 | some info=>Nat.beq info.size p.2.size&&Nat.beq info.bytes p.2.bytes&&(match info.zero with
  | some z=>vI z.cells.toList p.2.zero
  | none=>false)&&Nat.beq p.2.zero.length p.2.size&&p.2.zero.all Value.oneCell'&&P4 P p.1 p.2
 | none=>false
theorem vJ{P:Program}:∀{fs:List (Nat×Nat×Bool)} {gs:List Field},ra P fs gs=true->fs.length=gs.length/\∀(i:Nat) f g,fs[i]?=some f->gs[i]?=some g->f.1=g.offset/\f.2.1≠0/\(∃N,P.info? g.type=some N/\N.size=f.2.1)/\
  (∃d,P.underlying g.type=some d/\f.2.2=(match d with | .struct _ | .array _ _=>true | _=>false)):=by
 intro fs
 induction fs with
 | nil=>intro gs h;cases gs with | nil=>exact⟨rfl,by simp⟩ | cons=>cases h
 | cons f r ih=>
  intro gs h;cases gs with
  | nil=>cases h
  | cons g s=>
   simp only[ra,fH]at h;obtain⟨⟨⟨⟨U,O⟩,z⟩,D⟩,V⟩:=h;obtain⟨Y,Z⟩:=ih V;refine⟨by simp[Y],fun i f' g' I J=>?_⟩;cases i with
   | succ i=>exact Z i f' g' (by simpa using I) (by simpa using J)
   | zero=>
    simp at I J;subst I J;refine⟨bq U,(fun e=>by rw[e]at O;cases O),?_,?_⟩
    ·split at z
     ·rename_i i hi;exact⟨i,hi,bq z⟩
     cases z
    split at D
    ·rename_i d hd;refine⟨d,hd,?_⟩;rw[<-eq_of_beq D];cases d<;>rfl
    cases D
theorem Jd{P:Program}{t:TypeId}{O:TI}(h:Nb P (t,O)=true):jw P t O:=by
 unfold Nb at h;split at h
 ·rename_i info U;simp only[fH]at h;obtain⟨⟨⟨⟨⟨V,Y⟩,N⟩,Z⟩,h5⟩,I⟩:=h;split at N
  ·rename_i z hz;refine⟨info,z,U,bq V,bq Y,hz,?_,bq Z,fun v hv=>cC.1 h5 v hv,?_⟩
   ·rw[<-Cs N]
   simp only[P4]at I;split at I
   ·rename_i J D;rw[J];exact⟨⟨_,D,trivial⟩,fun _=>D⟩
   ·rename_i d bO J D;rw[J];simp only[fH]at I;refine⟨⟨d,D,?_⟩,fun e=>?_⟩
    ·cases d<;>first | trivial | (cases I.1;done)
    rw[e]at I;cases I.2
   ·rename_i J D;rw[J,D,Av I]
   ·rename_i fs gs J D;rw[J];obtain⟨h9,Le⟩:=vJ I;exact⟨gs,D,by simpa using h9,fun i f g hf hg=>Le i f g hf (by simpa using hg)⟩
   ·rename_i J D;rw[J,D,bq I]
   ·rename_i J D;simp only[fH]at I;rw[J,D,bq I.1,bq I.2]
   ·rename_i J D;rw[J,D]
   cases I
  cases N
 cases h
def ON(P:Program)(p:Nat×TI):Bool:=match P.info? p.1 with
 | some info=>match info.zero with
  | some z=>Dg z==p.2.ud.agg
  | none=>false
 | none=>false
variable {l:List (Nat×TI)}
theorem LP{P:Program}(h:l.all (ON P)=true):∀t D,mU l t=some D->yA P t D:=fun t D I=>by
 have:=cC.1 h _ (mf I);unfold ON at this;split at this
 ·rename_i info J;split at this
  ·rename_i z N;exact⟨info,z,J,N,eq_of_beq this⟩
  cases this
 cases this
theorem Je{P:Program}(h:l.all (Nb P)=true):∀t z,mU l t=some z->jw P t z:=fun _ _ D=>Jd (cC.1 h _ (mf D))
def FE:Option TypeDesc->Value->Bool
 | some (.int _),.int _ _=>true
 | some .string,.string _=>true
 | some .bool,.bool _=>true
 | _,_=>false
def iK(P:Program):Nat->List Field->List Value->Bool
 | _,[],[]=>true
 | i, g :: r, z :: s => FE (P.underlying g.type) z && Nat.beq g.offset i && g.name != "_" && iK P (i + 1) r s
 | _,_,_=>false
def sn(P:Program):Nat->List Field->List Value->Bool
 | _,[],[]=>true
 | _,[],_::_=>false
 | i, g :: r, zs => g.name != "_" && Nat.beq g.offset i && match P.underlying g.type with
  | some (.struct hs)=>(match P.info? g.type with
   | some inf=>Nat.beq inf.size hs.size
   | none=>false)&&!P.stoodInHeld g.type&&iK P 0 hs.toList (zs.take hs.size)&&sn P (i+hs.size) r (zs.drop hs.size)
  | _=>match zs with
   | z::s=>FE (P.underlying g.type) z&&sn P (i+1) r s
   | []=>false
def Jf(P:Program)(p:Nat×TI):Bool:=match p.2.eq,p.2.ud with
 | true,.st _=>(match P.underlying p.1 with
  | some (.struct gs)=>sn P 0 gs.toList p.2.zero&&Nat.beq p.2.zero.length p.2.size
  | _=>false)&&!P.stoodInHeld p.1&&!P.eqGuardType P.depth p.1
 | _,_=>true
theorem gN{P:Program}{w:World}{t:TypeId}{z:Value}(h:FE (P.underlying t) z=true){xs:Array Value}{i:Nat}{v:Value}(D:xs[i]?=some v):(part t xs i).run P w=.ok v w:=by
 have:(isAgg t).run P w=.ok false w:=by
  rw[Go.isAgg,aI];unfold FE at h;split at h<;>first
   | (rename_i I;rw[run_underlying I];rfl)
   | cases h
 simp[part,this,D]
theorem vK{a b:ByteArray}(h:a.toList=b.toList):a=b:=by
 rw[ByteArray.toList_eq,ByteArray.toList_eq]at h;obtain⟨⟨x⟩⟩:=a;obtain⟨⟨y⟩⟩:=b;simpa using h
theorem Gw{o:Option TypeDesc}{k:IntKind}{n:Int}(h:FE o (.int k n)=true):∃j,o=some (.int j):=by
 cases o with
 | none=>cases h
 | some d=>cases d<;>first | exact⟨_,rfl⟩ | cases h
theorem Gx{o:Option TypeDesc}{x:ByteArray}(h:FE o (.string x)=true):o=some .string:=by
 cases o with
 | none=>cases h
 | some d=>cases d<;>first | rfl | cases h
theorem EF{o:Option TypeDesc}{x:Bool}(h:FE o (.bool x)=true):o=some .bool:=by
 cases o with
 | none=>cases h
 | some d=>cases d<;>first | rfl | cases h
theorem oB{P:Program}{t:TypeId}{z:Value}{zs:List Value}{x:PV}{a b:List PV}{r:Bool}(hk:FE (P.underlying t) z=true)(h:aX (z::zs) (x::a) b=some r):∃u v s c N,x=.im u/\b=.im v::s/\aX zs a s=some N/\r=(c&&N)/\∀d w,(Op.equalIn (d+1) t u v).run P w=.ok c w:=by
 cases b with
 | nil=>cases z<;>cases x<;>simp[aX]at h
 | cons y b=>
  unfold aX at h;split at h
  ·rename_i D I J;cases D
  ·rename_i D I J;injection D with D O;injection I with I U;injection J with J h3';subst D O I U J h3';split at h
   ·rename_i Dz;have:=Av Dz;subst this;obtain⟨N,V,Y⟩:=az.1 h;obtain⟨j,Z⟩:=Gw hk;refine⟨_,_,_,_,N,rfl,rfl,V,Y.symm,fun d w=>?_⟩;rw[run_equalIn_int (P:=P) w d t _ j _ _ Z];congr 1
   cases h
  ·rename_i D I J;injection D with D O;injection I with I U;injection J with J h3';subst D O I U J h3';obtain⟨N,V,Y⟩:=az.1 h;have Z:=Gx hk;refine⟨_,_,_,_,N,rfl,rfl,V,Y.symm,fun d w=>?_⟩;rw[run_equalIn_string (P:=P) w d t _ _ Z];congr 1;rw[gU,beq_iff_eq,decide_eq_true_iff];exact⟨fun e=>vK e,fun e=>by rw[e]⟩
  ·rename_i D I J;injection D with D O;injection I with I U;injection J with J h3';subst D O I U J h3';obtain⟨N,V,Y⟩:=az.1 h;have Z:=EF hk;refine⟨_,_,_,_,N,rfl,rfl,V,Y.symm,fun d w=>?_⟩;rw[run_equalIn_bool' (P:=P) w d t _ _ Z];congr 1
  cases h
theorem mV{P:Program}{w:World}(d:Nat)(xs ys:Array Value):∀(gs:List Field) (zs:List Value) (i:Nat) (a b:List PV) (r:Bool),iK P i gs zs=true->gs.length=a.length->(∀(j:Nat) x,a[j]?=some x->∃v,xs[i+j]?=some v/\x=.im v)->(∀(j:Nat) x,b[j]?=some x->∃v,ys[i+j]?=some v/\x=.im v)->aX zs a b=some r ->
  (Op.eqFields (d+1) xs ys gs).run P w=.ok r w:=by
 intro gs
 induction gs with
 | nil=>
  intro zs i a b r hi hl _ _ he;have:a=[]:=gw hl.symm;subst this;cases zs with
  | nil=>cases b with
   | nil=>simp[aX]at he;subst he;rfl
   | cons y b=>simp[aX]at he
  | cons z zs=>simp[iK]at hi
 | cons g gs ih=>
  intro zs i a b r hi hl ha hb he;cases a with
  | nil=>simp at hl
  | cons x a=>cases zs with
   | nil=>simp[iK]at hi
   | cons z zs=>
    simp only[iK,fH]at hi;obtain⟨⟨⟨h1,h2⟩,h3⟩,h4⟩:=hi;have h2:=bq h2
    have mS : g.name ≠ "_" := by simpa using h3
    obtain⟨u,v,s1,c,r',rfl,rfl,FQ,rfl,p3⟩:=oB h1 he;obtain⟨v',hv,Jg⟩:=ha 0 _ rfl;obtain⟨u',ni,FF⟩:=hb 0 _ rfl;injection Jg with Jg;injection FF with FF;subst Jg FF;have p1:=gN (w:=w) h1 (xs:=xs) (i:=g.offset) (by rw[h2];simpa using hv);have p2:=gN (w:=w) h1 (xs:=ys) (i:=g.offset) (by rw[h2];simpa using ni);have rest:=ih zs (i+1) a s1 r' h4 (by simpa using hl) (fun j x hx=>by obtain⟨v,q1,q2⟩:=ha (j+1) x (by simpa using hx);exact⟨v,by rw[<-q1];congr 1;omega,q2⟩) (fun j x hx=>by obtain⟨v,q1,q2⟩:=hb (j+1) x (by simpa using hx);exact⟨v,by rw[<-q1];congr 1;omega,q2⟩) FQ;simp only[Op.eqFields,qH mS,aI,p1,p2,p3,nH];cases c with
    | true=>
     simp only[kf,qU,if_false,ia];exact rest
    | false=>simp
theorem vL{z:Value}{zs:List Value}{a b:List PV}{r:Bool}(h:aX (z::zs) a b=some r):∃x a' y b' c N,a=x::a'/\b=y::b'/\aX zs a' b'=some N/\r=(c&&N)/\∀O U V Y,aX O U V=some Y->aX (z::O) (x::U) (y::V)=some (c&&Y):=by
 cases a with
 | nil=>cases z<;>simp[aX]at h
 | cons x a=>cases b with
  | nil=>cases z<;>cases x<;>simp[aX]at h
  | cons y b=>
   unfold aX at h;split at h
   ·rename_i D _ _;cases D
   ·rename_i D I J;injection D with D Z;injection I with I nG;injection J with J h3';subst D Z I nG J h3';split at h
    ·rename_i Dz;obtain⟨N,q1,q2⟩:=az.1 h;exact⟨_,_,_,_,_,N,rfl,rfl,q1,q2.symm,fun O U V Y LV=>by simp only[aX,Dz,LV,cW]⟩
    cases h
   ·rename_i D I J;injection D with D Z;injection I with I nG;injection J with J h3';subst D Z I nG J h3';obtain⟨N,q1,q2⟩:=az.1 h;exact⟨_,_,_,_,_,N,rfl,rfl,q1,q2.symm,fun O U V Y LV=>by simp only[aX,LV,cW]⟩
   ·rename_i D I J;injection D with D Z;injection I with I nG;injection J with J h3';subst D Z I nG J h3';obtain⟨N,q1,q2⟩:=az.1 h;exact⟨_,_,_,_,_,N,rfl,rfl,q1,q2.symm,fun O U V Y LV=>by simp only[aX,LV,cW]⟩
   cases h
theorem qm:∀{D I:List Value} {a b:List PV} {r:Bool},aX (D++I) a b=some r->∃J O N U V Y,a=J++O/\b=N++U/\J.length=D.length/\N.length=D.length/\aX D J N=some V/\aX I O U=some Y/\r=(V&&Y)
 | [],I,a,b,r,h=>⟨[],a,[],b,true,r,rfl,rfl,rfl,rfl,rfl,h,rfl⟩
 | z::D,I,a,b,r,h=>by
  obtain⟨x,a',y,b',c,r',rfl,rfl,Z,rfl,h2⟩:=vL (zs:=D++I) h;obtain⟨J,O,N,U,V,Y,rfl,rfl,l1,l2,k1,k2,rfl⟩:=qm Z;exact⟨x::J,O,y::N,U,c&&V,Y,rfl,rfl,by simp[l1],by simp[l2],h2 _ _ _ _ k1,k2,(Bool.and_assoc _ _ _).symm⟩
theorem pF{P:Program}:∀{gs:List Field} {z:List Value} {i:Nat},iK P i gs z=true->gs.length=z.length
 | [],[],_,_=>rfl
 | [],_::_,_,h=>by simp[iK]at h
 | _::_,[],_,h=>by simp[iK]at h
 | g::gs,c::z,i,h=>by
  simp only[iK,fH]at h;simp[pF h.2]
theorem vM{P:Program}{w:World}(d:Nat)(xs ys:Array Value):∀(gs:List Field) (zs:List Value) (i:Nat) (a b:List PV) (r:Bool),sn P i gs zs=true->(∀(j:Nat) x,a[j]?=some x->∃v,xs[i+j]?=some v/\x=.im v)->(∀(j:Nat) x,b[j]?=some x->∃v,ys[i+j]?=some v/\x=.im v)->aX zs a b=some r ->
  (Op.eqFields (d+3) xs ys gs).run P w=.ok r w:=by
 intro gs
 induction gs with
 | nil=>
  intro zs i a b r hi _ _ he;cases zs with
  | nil=>
   cases a with
   | nil=>cases b with
    | nil=>simp[aX]at he;subst he;rfl
    | cons y b=>simp[aX]at he
   | cons x a=>simp[aX]at he
  | cons z zs=>simp[sn]at hi
 | cons g gs ih=>
  intro zs i a b r hi ha hb he;unfold sn at hi;simp only[fH]at hi;obtain⟨⟨h3,h2⟩,hi⟩:=hi;have h2:=bq h2
  have mS : g.name ≠ "_" := by simpa using h3
  split at hi
  ·rename_i hs mH;simp only[fH]at hi;obtain⟨⟨⟨h5,h6⟩,h7⟩,h8⟩:=hi;have h6:P.stoodInHeld g.type=false:=by simpa using h6
   split at h5
   ·rename_i inf OO;have h5:=bq h5;have hl:=pF h7;rw[cf]at hl;rw[<-ca hs.size zs]at he;obtain⟨a1,a2,b1,b2,r1,r2,rfl,rfl,l1,l2,k1,k2,rfl⟩:=qm he;rw[<-hl]at l1 l2;have cut:∀(us:Array Value) (c1 c2:List PV),c1.length=hs.size->(∀(j:Nat) x,(c1++c2)[j]?=some x->∃v,us[i+j]?=some v/\x=.im v)->(part g.type us g.offset).run P w=.ok (.agg (us.extract i (i+hs.size))) w/\(∀(j:Nat) x,c1[j]?=some x->∃v,(us.extract i (i+hs.size))[0+j]?=some v/\x=.im v)/\∀(j:Nat) x,c2[j]?=some x->∃v,us[i+hs.size+j]?=some v/\x=.im v:=by
     intro us c1 c2 hc hu;refine⟨?_,fun j x hx=>?_,fun j x hx=>?_⟩
     ·have e1:(isAgg g.type).run P w=.ok true w:=by
       rw[Go.isAgg,aI,run_underlying mH];rfl
      have e2:(sizeOf g.type).run P w=.ok hs.size w:=by
       simp[Go.sizeOf,typeInfo,OO,h5]
      simp[part,e1,e2,h2]
     ·have hj:j<hs.size:=by rw[<-hc];exact ah hx
      obtain⟨v,q1,q2⟩:=hu j x (by rw[ba (by omega)];exact hx);exact⟨v,by rw[Array.getElem?_extract,qH (by have:=(vn.1 q1).1;omega),ae];exact q1,q2⟩
     obtain⟨v,q1,q2⟩:=hu (hs.size+j) x (by rw[bd (by omega),<-hx];congr 1;omega);exact⟨v,by rw[<-q1];congr 1;omega,q2⟩
    obtain⟨p1,m1,n1⟩:=cut xs a1 a2 l1 ha;obtain⟨p2,m2,n2⟩:=cut ys b1 b2 l2 hb;have hf:P.fieldsOf g.type=hs:=by simp[Program.fieldsOf,mH]
    have p3:(Op.equalIn (d+3) g.type (.agg (xs.extract i (i+hs.size))) (.agg (ys.extract i (i+hs.size)))).run P w=.ok r1 w:=by
     rw[run_equalIn_struct w (d+2) g.type _ _ (by rw[hf];exact mH) h6,hf];exact mV (d+1) _ _ hs.toList _ 0 a1 b1 r1 h7 (by rw[cf,l1]) m1 m2 k1
    have rest:=ih (zs.drop hs.size) (i+hs.size) a2 b2 r2 h8 n1 n2 k2;simp only[Op.eqFields,qH mS,aI,p1,p2,p3,nH];cases r1 with
    | true=>
     simp only[kf,qU,if_false,ia];exact rest
    | false=>simp
   cases h5
  split at hi
  ·rename_i z zs;simp only[fH]at hi;obtain⟨h1,h4⟩:=hi;cases a with
   | nil=>cases z<;>simp[aX]at he
   | cons x a=>
    obtain⟨u,v,s1,c,r',rfl,rfl,FQ,rfl,p3⟩:=oB h1 he;obtain⟨v',hv,Jg⟩:=ha 0 _ rfl;obtain⟨u',ni,FF⟩:=hb 0 _ rfl;injection Jg with Jg;injection FF with FF;subst Jg FF;have p1:=gN (w:=w) h1 (xs:=xs) (i:=g.offset) (by rw[h2];simpa using hv);have p2:=gN (w:=w) h1 (xs:=ys) (i:=g.offset) (by rw[h2];simpa using ni);have rest:=ih zs (i+1) a s1 r' h4 (fun j x hx=>by obtain⟨v,q1,q2⟩:=ha (j+1) x (by simpa using hx);exact⟨v,by rw[<-q1];congr 1;omega,q2⟩) (fun j x hx=>by obtain⟨v,q1,q2⟩:=hb (j+1) x (by simpa using hx);exact⟨v,by rw[<-q1];congr 1;omega,q2⟩) FQ;simp only[Op.eqFields,qH mS,aI,p1,p2,p3,nH];cases c with
    | true=>
     simp only[kf,qU,if_false,ia];exact rest
    | false=>simp
  cases hi
theorem Ct{P:Program}{t:TypeId}{gs:Array Field}{zs:List Value}(D:P.underlying t=some (.struct gs))(O:P.stoodInHeld t=false)(U:sn P 0 gs.toList zs=true){a b:List PV}{r:Bool}(V:aX zs a b=some r)(xs ys:Array Value)(w:World)
  (Y:∀(i:Nat) x v,a[i]?=some x->xs[i]?=some v->x=.im v) (hb:∀(i:Nat) x v,b[i]?=some x->ys[i]?=some v->x=.im v) (Z:a.length=xs.size) (LY:b.length=ys.size):(Op.equal t (.agg xs) (.agg ys)).run P w=.ok r w:=by
 have I:P.fieldsOf t=gs:=by simp[Program.fieldsOf,D]
 have z:∀(l:List PV) (zs:Array Value),l.length=zs.size->(∀(i:Nat) x v,l[i]?=some x->zs[i]?=some v->x=.im v)->∀(j:Nat) x,l[j]?=some x->∃v,zs[0+j]?=some v/\x=.im v:=by
  intro l zs hl hz j x J;obtain⟨v,N⟩:=fJ hl (ah J);exact⟨v,by rw[ae];exact N,hz j x v J N⟩
 have key:=vM (P:=P) (w:=w) 9996 xs ys gs.toList zs 0 a b r U (z a xs Z Y) (z b ys LY hb) V;show (Op.equalIn (9999+1) t (.agg xs) (.agg ys)).run P w=_;rw[run_equalIn_struct w 9999 t xs ys (by rw[I];exact D) O,I];exact key
theorem xJ{P:Program}{t:TypeId}{gs:Array Field}{zs:List Value}(D:P.underlying t=some (.struct gs))(O:P.stoodInHeld t=false)(U:iK P 0 gs.toList zs=true){a b:List PV}{r:Bool}(V:aX zs a b=some r)(xs ys:Array Value)(w:World)
  (Y:∀(i:Nat) x v,a[i]?=some x->xs[i]?=some v->x=.im v) (hb:∀(i:Nat) x v,b[i]?=some x->ys[i]?=some v->x=.im v) (Z:a.length=xs.size) (LY:b.length=ys.size) (hsz:gs.size=a.length):(Op.equal t (.agg xs) (.agg ys)).run P w=.ok r w:=by
 have I:P.fieldsOf t=gs:=by simp[Program.fieldsOf,D]
 have z:∀(l:List PV) (zs:Array Value),l.length=zs.size->(∀(i:Nat) x v,l[i]?=some x->zs[i]?=some v->x=.im v)->∀(j:Nat) x,l[j]?=some x->∃v,zs[0+j]?=some v/\x=.im v:=by
  intro l zs hl hz j x J;obtain⟨v,N⟩:=fJ hl (ah J);exact⟨v,by rw[ae];exact N,hz j x v J N⟩
 have key:=mV (P:=P) (w:=w) 9998 xs ys gs.toList zs 0 a b r U (by simp;omega) (z a xs Z Y) (z b ys LY hb) V;show (Op.equalIn (9999+1) t (.agg xs) (.agg ys)).run P w=_;rw[run_equalIn_struct w 9999 t xs ys (by rw[I];exact D) O,I];exact key
theorem Jh{P:Program}(h:l.all (Jf P)=true):∀t z op a b r,mU l t=some z->z.eq=true->(∃fs,z.ud=.st fs)->aX z.zero a b=some r->∀(xs ys:Array Value) w,(∀(i:Nat) x v,a[i]?=some x->xs[i]?=some v->x=.im v)->(∀(i:Nat) x v,b[i]?=some x->ys[i]?=some v->x=.im v)->
  a.length=xs.size->b.length=ys.size->z.size=a.length->(op=.eql\/op=.neq)->∀(x y:Operand),(do eqGuard op t x y (.agg xs) (.agg ys);binOp op t (.agg xs) (.agg ys):Sem Value).run P w=.ok (.bool (if op=.eql then r else !r)) w:=by
 intro t z op a b r U V ⟨fs,Y⟩ Z xs ys w ha hb LX LY hsz O x y;have:=cC.1 h _ (mf U);unfold Jf at this;simp only[V,Y,fH]at this;obtain⟨⟨I,J⟩,N⟩:=this;have J:P.stoodInHeld t=false:=by simpa using J
 have N:P.eqGuardType P.depth t=false:=by simpa using N
 split at I
 ·rename_i gs mH;simp only[fH]at I;obtain⟨h4,_⟩:=I;have D:=Ct mH J h4 Z xs ys w ha hb LX LY;have Ji:(eqGuard op t x y (.agg xs) (.agg ys)).run P w=.ok () w:=by
   rcases O with rfl | rfl<;>simp[eqGuard,N]
  rw[aI,Ji,nH];rcases O with rfl | rfl
  ·simp[binOp,D]
  simp[binOp,D]
 cases I
def Jj(P:Program)(p:Nat×TI):Bool:=match tb p.2 with
 | some (.st _)=>(match P.underlying p.1 with
  | some (.struct gs)=>iK P 0 gs.toList p.2.zero
  | _=>false)&&!P.stoodInHeld p.1
 | _=>true
theorem Gy:∀{z:List Value} {sh:List Nat} {a b:List Value},Uy z=some sh->gZ sh a->gZ sh b->aX z (a.map .im) (b.map .im)=some (Ux a b):=by
 intro z
 induction z with
 | nil=>
  intro sh a b h D hb;injection h with h;subst h;cases a<;>cases b<;>first
   | rfl
   | exact D.elim
   | exact hb.elim
 | cons c z ih=>
  intro sh a b h D hb;unfold Uy at h;split at h
  ·rename_i I;cases I
  all_goals first
   | (
     rename_i I;injection I with I O;subst I O;obtain⟨s,hs,rfl⟩:=az.1 h;cases a with
     | nil=>exact D.elim
     | cons x a=>cases b with
      | nil=>exact hb.elim
      | cons y b=>
       have J:=D.1;have N:=hb.1;cases x<;>first | (exact J.elim) | skip
       cases y<;>first | (exact N.elim) | skip
       have:=ih hs D.2 hb.2
       first
        | (simp only[qO,aX,this,cW,Ux,yw];done)
        | (
         have U:_=IntKind.i64:=J;have V:_=IntKind.i64:=N;subst U V;simp only[qO,aX,this,cW,Ux,yw,kB];done))
   | cases h
theorem je:∀{sh:List Nat} {a:List Value},gZ sh a->a.length=sh.length
 | [],[],_=>rfl
 | [],_::_,h=>h.elim
 | _::_,[],h=>h.elim
 | _::_,_::_,h=>by simp[je h.2]
theorem EG:∀{z:List Value} {sh:List Nat},Uy z=some sh->z.length=sh.length:=by
 intro z
 induction z with
 | nil=>intro sh h;injection h with h;subst h;rfl
 | cons c z ih=>
  intro sh h;unfold Uy at h;split at h
  ·rename_i D;cases D
  all_goals first
   | (
     rename_i D;injection D with D I;subst D I;obtain⟨s,hs,rfl⟩:=az.1 h;simp[ih hs];done)
   | cases h
theorem xK{P:Program}{t:TypeId}{z:Value}(h:FE (P.underlying t) z=true)(e:Bool)(n:Nat)(w:World)(v:Value):(Instr.checkKey e (n+1) t v).run P w=.ok () w:=by
 unfold FE at h;split at h
 all_goals first
  | (rename_i D;cases v<;>simp[Instr.checkKey,run_underlying D];done)
  | cases h
theorem vN{P:Program}(e:Bool)(n:Nat)(w:World)(xs:Array Value):∀(gs:List Field) (zs:List Value) (i:Nat),iK P i gs zs=true->(∀j,j<gs.length->∃v,xs[i+j]?=some v)->(forIn gs PUnit.unit fun f _=>(do
   if f.name ≠ "_" then Instr.checkKey e (n + 1) f.type (← part f.type xs f.offset)
   pure (ForInStep.yield PUnit.unit):Sem (ForInStep PUnit))).run P w=.ok PUnit.unit w:=by
 intro gs
 induction gs with
 | nil=>intro zs i _ _;rfl
 | cons g gs ih=>
  intro zs i hi hx;cases zs with
  | nil=>simp[iK]at hi
  | cons z zs=>
   simp only[iK,fH]at hi;obtain⟨⟨⟨h1,h2⟩,h3⟩,h4⟩:=hi;have h2:=bq h2
   have mS : g.name ≠ "_" := by simpa using h3
   obtain⟨v,hv⟩:=hx 0 (by simp);have p1:=gN (w:=w) h1 (xs:=xs) (i:=g.offset) (by rw[h2];simpa using hv);have rest:=ih zs (i+1) h4 fun j hj=>by obtain⟨v,q⟩:=hx (j+1) (by simpa using hj);exact⟨v,by rw[<-q];congr 1;omega⟩
   simp only[List.forIn_cons,qH mS,aI,p1,xK h1,nH,jS];exact rest
theorem vO{P:Program}{kt:TypeId}{gs:Array Field}(mH:P.underlying kt=some (.struct gs))(e:Bool)(n:Nat)(w:World)(xs:Array Value):(Instr.checkKey e (n+1) kt (.agg xs)).run P w=((forIn gs.toList PUnit.unit fun f _=>(do
   if f.name ≠ "_" then Instr.checkKey e n f.type (← part f.type xs f.offset)
   pure (ForInStep.yield PUnit.unit):Sem (ForInStep PUnit))).run P w).andThen fun _ w'=>.ok () w':=by
 simp only[Instr.checkKey,aI,run_underlying mH,nH,<-Array.forIn_toList];rfl
theorem vP{P:Program}(h:l.all (Jj P)=true):∀I J sh,mU l I=some J->tb J=some (.st sh)->As P I (.st sh):=by
 intro I J sh ht z;have:=cC.1 h _ (mf ht);unfold Jj at this;simp only[z,fH]at this;obtain⟨N,Y⟩:=this;have Y:P.stoodInHeld I=false:=by simpa using Y
 have O:Uy J.zero=some sh:=by
  unfold tb at z;split at z<;>first
   | (cases z;done)
   | skip
  all_goals (split at z)
  all_goals first
   | (cases z;done)
   | (obtain⟨s,hs,e⟩:=az.1 z;injection e with e;subst e;exact hs)
 split at N
 ·rename_i gs Z;have hlen:gs.size=sh.length:=by have:=pF N;rw[EG O]at this;simpa using this
  refine⟨fun e k w D=>?_,fun k w U D F4=>?_⟩
  ·cases k<;>first | (exact D.elim) | skip
   rename_i xs;have hl:=je (sh:=sh) D;have hl:xs.size=sh.length:=by simpa using hl
   have:=vN e 9998 w xs gs.toList J.zero 0 N fun j hj=>⟨xs[j]'(by simp at hj;omega),by rw[ae];exact bE _⟩;exact (vO Z e 9999 w xs).trans (by rw[this];rfl)
  rw[run_findKey_eq w (by rw[Z]) k U];show (Instr.findAsking I k U 0).run P w=.ok (mN k U 0) w;generalize 0=i
  induction U generalizing i with
  | nil=>rfl
  | cons m U ih=>
   have mD:=F4 m dJ;cases k<;>first | (exact D.elim) | skip
   rename_i xs;obtain⟨mk,mv,mb⟩:=m;cases mk<;>first | (exact mD.elim) | skip
   rename_i ys;have P5:xs.size=sh.length:=by simpa using je (sh:=sh) D
   have SA:ys.size=sh.length:=by simpa using je (sh:=sh) mD
   have Lj:∀(zs:Array Value) (i:Nat) x v,(zs.toList.map PV.im)[i]?=some x->zs[i]?=some v->x=.im v:=fun zs i x v V q2=>by
    rw[ao,uZ,q2]at V;injection V with V;exact V.symm
   have:=xJ Z Y N (Gy (sh:=sh) O D mD) xs ys w (Lj xs) (Lj ys) (by simp) (by simp) (by simp;omega);unfold Instr.findAsking mN;simp only[aI,this,nH,yx];cases Ux xs.toList ys.toList with
   | true=>rfl
   | false=>exact ih (fun x hx=>F4 x (An _ hx)) _
 cases N
end Go.AM
namespace Go.AM
open Go.RowKit
variable {A:jR}
theorem aY.EH(hC:aL A.C)(s:AS)(d:Nat)(e:TypeId)(I:TI)(O:d<100000)(U:s.t d=.nl)(V:A.C.T e=some I)(hpos:0<I.size):
  aY A s ⟨ax (dH d s).t d (.ow d),ax (dH d s).h d (.row e [])⟩:=by
 intro S rho a w D;have Y:a.tmps.getD d undef=.slice none 0 0:=by
  have:=D.tm d trivial;rw[U]at this;generalize a.tmps.getD d undef=v at this;cases this;rfl
 have Z:=D.free d (.row e []);obtain⟨info,z,h1,h2,h3,h4,h5,h6,h7,h8⟩:=hC.eL e I V;have aJ:=Z.new hC d (.row e []) O (fun h=>h rfl) (ak _ _ _) w rfl rfl rfl (aC _) (fun _=>False) (fun _ _ _=>rfl) (fun _ h=>h.elim) (.slice none 0 0) (fun g hg=>by cases hg) fun T=>by
  show an _ _ _ _ _ (ax rho d _ d);rw[ak];exact⟨info,[],h1,by omega,⟨by simp,.inl ⟨rfl,rfl⟩⟩,by simp,by simp,by simp⟩
 have J:aU A bk bk S (ax rho d (.slice none 0 0)) ⟨(dH d s).t,ax (dH d s).h d (.row e [])⟩ a w:=aJ.jF (fun _ _=>trivial) (fun k=>⟨fun _=>by by_cases e:k=d;exact .inr e;exact .inl e,fun _=>trivial⟩);refine⟨S,_,{ J with tm:=fun j _=>?_ }⟩;by_cases N:j=d
 ·subst N;show aE _ _ _ _ _ _ (ax _ _ _ _) _;rw[ak];exact .ow j _ fun _=>⟨trivial,by rw[ak];exact Y⟩
 show aE _ _ _ _ _ _ (ax _ _ _ _) _;rw[au _ _ N];exact J.tm j trivial
theorem aY.g_(hC:aL A.C)(s:AS)(d:Nat){y:PV}{fz:List (Nat×AB)}(h:AM.g_ s.h (s.t d) fun D I=>D=y/\I=fz):aY A s ⟨ax s.t d (.p y),app s.h fz⟩:=by
 intro S rho a w z;obtain⟨D,I,S',⟨rfl,rfl⟩,J,hp,hS,hF,_⟩:=e8 hC z (h:=s.h) (fun _=>.inl rfl) (z.tm d trivial) h;refine⟨S',rho,{ J with tm:=fun j _=>?_ }⟩;by_cases N:j=d
 ·subst N;show aE _ _ _ _ _ _ (ax _ _ _ _) _;rw[ak];exact .p _ _ hp
 show aE _ _ _ _ _ _ (ax _ _ _ _) _;rw[au _ _ N];exact J.tm j trivial
theorem aY.nil(hC:aL A.C)(s:AS)(d:Nat)(h:s.t d=.nl):aY A s ⟨ax s.t d (.p (.sl [])),s.h⟩:=aY.g_ hC s d (y:=.sl []) (fz:=[]) (by rw[h];exact⟨rfl,rfl⟩)
theorem aY.own(hC:aL A.C)(s:AS)(d:Nat){id:Nat}{e:TypeId}{es:List (List PV)}(h:s.t d=.ow id)(z:s.h id=.row e es):aY A s ⟨ax s.t d (.p (.sl es)),ax s.h id (.f_ es)⟩:=aY.g_ hC s d (y:=.sl es) (fz:=[(id,.f_ es)]) (by rw[h];simp only[AM.g_,AM.iC];rw[z];exact⟨rfl,rfl⟩)
theorem aY.ez(s:AS)(i d:Nat)(hid:i≠d)(D:d<100000):aY A s (iT i d s):=fun S _ _ _ z=>⟨S,_,z.rename i d hid D⟩
theorem aY.rf(hC:aL A.C)(s:AS)(id j d:Nat)(e:TypeId)(J:TI)(cs:List AV)(hd:d<100000)(hid:id≠d)(hb:s.h id=.box cs)(hn:cs[j]?=some .nl)(hT:A.C.T e=some J)(hpos:0<J.size):
  aY A s ⟨(dH d s).t,ax (ax (dH d s).h d (.row e [])) id (.box ((cs.map (sc d)).set j (.ow d)))⟩:=by
 intro S rho a w N;have gQ:=N.free d (.row e []);obtain⟨info,z,h1,h2,h3,h4,h5,h6,h7,h8⟩:=hC.eL e J hT;have aJ:=gQ.new hC d (.row e []) hd (fun h=>h rfl) (ak _ _ _) w rfl rfl rfl (aC _) (fun _=>False) (fun _ _ _=>rfl) (fun _ h=>h.elim) (.slice none 0 0) (fun g hg=>by cases hg) fun T=>by
  show an _ _ _ _ _ (ax rho d _ d);rw[ak];exact⟨info,[],h1,by omega,⟨by simp,.inl ⟨rfl,rfl⟩⟩,by simp,by simp,by simp⟩
 have V:aU A bk bk S (ax rho d (.slice none 0 0)) ⟨(dH d s).t,ax (dH d s).h d (.row e [])⟩ a w:=aJ.jF (fun _ _=>trivial) (fun k=>⟨fun _=>by by_cases e:k=d;exact .inr e;exact .inl e,fun _=>trivial⟩);have aA:(ax (dH d s).h d (.row e [])) id=.box (cs.map (sc d)):=by
  rw[au _ _ hid];show ax (fun k=>qX d (s.h k)) d .none id=_;rw[au _ _ hid,hb];rfl
 refine⟨S,_,V.write hC id trivial (by show ((ax (dH d s).h d (.row e [])) id).live;rw[aA];trivial) _ (fun _ h=>by cases h) w rfl rfl rfl rfl (fun _ _=>rfl) fun T=>?_⟩;have I:=V.hp id trivial;have I:cd S w A.C.P bk (ax rho d (.slice none 0 0)) (ax (dH d s).h d (.row e [])) id ((ax (dH d s).h d (.row e [])) id):=I;rw[aA]at I;obtain⟨g,ty,c,k1,k2,k3,Y⟩:=I;refine⟨g,ty,c,k1,k2,by rw[k3,cu],fun i x u D Z=>?_⟩;by_cases ei:i=j
 ·subst ei;have hj:(cs.map (sc d))[i]?=some .nl:=by rw[ao,hn];rfl
  rw[bQ (ah hj)]at D;injection D with D;subst D;obtain⟨O,U⟩:=Y i _ u hj Z;refine⟨O,.ow d u fun _=>⟨trivial,?_⟩⟩;rw[ak];cases U;rfl
 rw[bY (fun e=>ei e.symm)]at D;obtain⟨O,U⟩:=Y i x u D Z;exact⟨O,U.bA T⟩
theorem aY.Gz(hC:aL A.C)(s:AS)(id j i:Nat)(e:TypeId)(es:List (List PV))(cs:List AV)(hid:id≠i)(hb:s.h id=.box cs)(V:cs[j]?=some (.ow i))(hr:s.h i=.row e es):
  aY A s ⟨s.t,ax (ax s.h i (.f_ es)) id (.box (cs.set j (.p (.sl es))))⟩:=by
 intro S rho a w J;have N:=J.tJ hC i trivial hr;have aA:(ax s.h i (.f_ es)) id=.box cs:=by rw[au _ _ hid];exact hb
 refine⟨_,_,N.write hC id trivial (by show ((ax s.h i (.f_ es)) id).live;rw[aA];trivial) _ (fun _ h=>by cases h) w rfl rfl rfl rfl (fun _ _=>rfl) fun T=>?_⟩;have D:=N.hp id trivial;have D:cd _ w A.C.P bk rho (ax s.h i (.f_ es)) id ((ax s.h i (.f_ es)) id):=D;rw[aA]at D;have I:=N.hp i trivial;have I:cd _ w A.C.P bk rho (ax s.h i (.f_ es)) i ((ax s.h i (.f_ es)) i):=I;rw[ak]at I;obtain⟨g,ty,c,k1,k2,k3,Y⟩:=D;refine⟨g,ty,c,k1,k2,by rw[k3,cu],fun q x u z Z=>?_⟩;by_cases ei:q=j
 ·subst ei;rw[bQ (ah V)]at z;injection z with z;subst z;obtain⟨O,U⟩:=Y q _ u V Z;refine⟨O,.p _ _ ?_⟩;rw[(U.bu (by rw[ak];trivial)).2];exact I
 rw[bY (fun e=>ei e.symm)]at z;obtain⟨O,U⟩:=Y q x u z Z;exact⟨O,U.bA T⟩
end Go.AM
namespace Go.AM
open Go.RowKit
def kH:List Nat->List (Nat×AB)
 | []=>[]
 | n::r=>(n,.none)::kH r
theorem uk{h:Nat->AB}:∀{l:List Nat} (k:Nat),app h (kH l) k=if k∈l then .none else h k
 | [],k=>by simp[kH,app]
 | n::l,k=>by
  show app (ax h n .none) (kH l) k=_;rw[uk (l:=l) k];by_cases z:k∈l
  ·simp[z]
  by_cases D:k=n
  ·subst D;simp[z,ak]
  simp[z,D,au]
variable {A:jR}
theorem aY.pack(hC:aL A.C)(s:AS)(id:Nat){D:List AV}{cs:List HC}(hb:s.h id=.box D)(hg:cN (aS D)=true)(hp:qg s.h D cs):aY A s ⟨s.t,ax (app s.h (kH (aS D))) id (.aA cs)⟩:=by
 intro S rho a w z;obtain⟨g,ty,c,k1,k2,k3⟩:=r8 z (id:=id) trivial hb hg hp;have aN:(s.h id).live:=by rw[hb];trivial
 have N:∀j,(j=id/\ax (app s.h (kH (aS D))) id (.aA cs) j=.aA cs)\/(j≠id/\j∈aS D/\ax (app s.h (kH (aS D))) id (.aA cs) j=.none)\/(j≠id/\¬j∈aS D/\ax (app s.h (kH (aS D))) id (.aA cs) j=s.h j):=fun j=>by
  by_cases e:j=id
  ·subst e;exact .inl ⟨rfl,ak _ _ _⟩
  rw[au _ _ e,uk];by_cases h:j∈aS D
  ·exact .inr (.inl ⟨e,h,qH h⟩)
  exact .inr (.inr ⟨e,h,af h⟩)
 have T:fu S S w w bk bk rho rho s.h (ax (app s.h (kH (aS D))) id (.aA cs)):=⟨fun _ h=>h,fun _ _=>rfl,fun j I=>⟨by
   rcases N j with⟨rfl,_⟩ | ⟨_,_,h⟩ | ⟨_,_,h⟩
   ·rw[hb];trivial
   ·rw[h]at I;exact I.elim
   ·rw[h]at I;exact I,fun _=>⟨trivial,rfl⟩⟩,fun j e I=>by
   rcases N j with⟨_,h⟩ | ⟨_,_,h⟩ | ⟨_,_,h⟩
   ·rw[h]at I;cases I
   ·rw[h]at I;cases I
   rw[h]at I;exact I⟩
 have J:∀j g,(ax (app s.h (kH (aS D))) id (.aA cs) j).live->hasB w (ax (app s.h (kH (aS D))) id (.aA cs) j) (rho j) g->∃k,(s.h k).live/\hasB w (s.h k) (rho k) g/\((j=id/\(k=id\/k∈aS D))\/(j=k/\j≠id/\¬j∈aS D)):=fun j g hl O=>by
  rcases N j with⟨rfl,h⟩ | ⟨_,_,h⟩ | ⟨U,h2,h⟩
  ·rw[h]at O;rcases k3 g O with h | ⟨n,U,_,h3,h4⟩
   ·exact⟨j,aN,.inl h,.inl ⟨rfl,.inl rfl⟩⟩
   exact⟨n,h3,.inl h4,.inl ⟨rfl,.inr U⟩⟩
  ·rw[h]at hl;exact hl.elim
  rw[h]at hl O;exact⟨j,hl,O,.inr ⟨rfl,U,h2⟩⟩
 exact⟨S,rho,
 {tm:=fun j I=>(z.tm j I).bA T
  sz:=z.sz,df:=z.df,nb:=z.nb,pn:=z.pn,ev:=z.ev,s0:=z.s0,st:=z.st,sb:=z.sb
  hp:=fun j _=>by
   show cd _ _ _ _ _ _ _ (ax (app s.h (kH (aS D))) id (.aA cs) j);rcases N j with⟨rfl,h⟩ | ⟨_,_,h⟩ | ⟨_,_,h⟩
   ·rw[h];exact⟨g,ty,c,k1,k2⟩
   ·rw[h];trivial
   rw[h];exact (z.hp j trivial).bA T (fun _ _ _=>rfl) (fun _=>rfl)
  dj:=fun i j g _ _ V lj Y I=>by
   obtain⟨k,Z,o1,c1⟩:=J i g V Y;obtain⟨m,l2,o2,c2⟩:=J j g lj I;have:=z.dj k m g trivial trivial Z l2 o1 o2;subst this;rcases c1 with⟨rfl,c1⟩ | ⟨rfl,c1,c3⟩<;>rcases c2 with⟨rfl,c2⟩ | ⟨rfl,c2,c4⟩
   ·rfl
   ·rcases c1 with c1 | c1
    ·exact (c2 c1).elim
    exact (c4 c1).elim
   ·rcases c2 with c2 | c2
    ·exact (c1 c2).elim
    exact (c3 c2).elim
   rfl
  lv:=fun i g _ V Y=>by
   obtain⟨k,Z,o1,_⟩:=J i g V Y;exact z.lv k g trivial Z o1
  fr:=z.fr }⟩
def mh:List HC->List Nat->List AV
 | [],_=>[]
 | .p x::r,ns=>.p x::mh r ns
 | .row _ _::r,n::ns=>.ow n::mh r ns
 | .row _ _::r,[]=>.junk::mh r []
def tz:List HC->List Nat->List (Nat×AB)
 | [],_=>[]
 | .p _::r,ns=>tz r ns
 | .row e es::r,n::ns=>(n,.row e es)::tz r ns
 | .row _ _::_,[]=>[]
def rowsOf:List HC->Nat
 | []=>0
 | .p _::r=>rowsOf r
 | .row _ _::r=>rowsOf r+1
def gF:List (Nat×AB)->AS->AS
 | [],s=>s
 | (d,b)::r,s=>gF r ⟨(dH d s).t,ax (dH d s).h d b⟩
theorem pG:∀{cs:List HC} {ns:List Nat},rowsOf cs=ns.length->(tz cs ns).map (·.1)=ns
 | [],ns,h=>by cases ns with | nil=>rfl | cons n ns=>simp[rowsOf]at h
 | .p x::cs,ns,h=>by show (tz cs ns).map _=_;exact pG h
 | .row e es::cs,[],h=>by simp[rowsOf]at h
 | .row e es::cs,n::ns,h=>by
  simp only[rowsOf,bw,l5]at h;simp[tz,pG h]
theorem A0:∀{cs:List HC} {ns:List Nat} {n:Nat} {b:AB},(n,b)∈tz cs ns->∃(j:Nat) (e:TypeId) (es:List (List PV)),cs[j]?=some (.row e es)/\b=.row e es/\(mh cs ns)[j]?=some (.ow n)
 | [],ns,n,b,h=>by cases h
 | .p x::cs,ns,n,b,h=>by
  obtain⟨j,e,es,z,D,I⟩:=A0 (cs:=cs) (ns:=ns) h;exact⟨j+1,e,es,z,D,I⟩
 | .row e es::cs,[],n,b,h=>by cases h
 | .row e es::cs,m::ns,n,b,h=>by
  rcases fL.1 h with h | h
  ·injection h with z D;subst z D;exact⟨0,e,es,rfl,rfl,rfl⟩
  obtain⟨j,e,es,z,D,I⟩:=A0 (cs:=cs) (ns:=ns) h;exact⟨j+1,e,es,z,D,I⟩
theorem vQ:∀{cs:List HC} {ns:List Nat} {j:Nat} {x:AV},rowsOf cs=ns.length->(mh cs ns)[j]?=some x->(∃z,cs[j]?=some (.p z)/\x=.p z)\/∃n e es,cs[j]?=some (.row e es)/\x=.ow n/\(n,.row e es)∈tz cs ns
 | [],ns,j,x,_,h=>by simp[mh]at h
 | .p y::cs,ns,0,x,_,h=>by simp[mh]at h;exact .inl ⟨y,rfl,h.symm⟩
 | .p y::cs,ns,j+1,x,hl,h=>by
  have:=vQ (cs:=cs) (ns:=ns) (j:=j) hl (by simpa [mh] using h);exact this
 | .row e es::cs,[],j,x,hl,_=>by simp[rowsOf]at hl
 | .row e es::cs,n::ns,0,x,_,h=>by simp[mh]at h;exact .inr ⟨n,e,es,rfl,h.symm,by simp[tz]⟩
 | .row e es::cs,n::ns,j+1,x,hl,h=>by
  simp only[rowsOf,bw,l5]at hl;rcases vQ (cs:=cs) (ns:=ns) (j:=j) hl (by simpa [mh] using h) with h | ⟨m,e',D,I,J,N⟩
  ·exact .inl h
  exact .inr ⟨m,e',D,I,J,by simp[tz,N]⟩
theorem rh:∀{cs:List HC} {ns:List Nat},(mh cs ns).length=cs.length
 | [],_=>rfl
 | .p x::cs,ns=>by simp[mh,rh (cs:=cs)]
 | .row e es::cs,[]=>by simp[mh,rh (cs:=cs)]
 | .row e es::cs,n::ns=>by simp[mh,rh (cs:=cs)]
theorem T6{S:Nat->Prop}{rho:Nat->Value}{a:Act}{w:World}:∀(l:List (Nat×AB)) (L:Nat->Prop) (s:AS),aU A bk L S rho s a w->aU A bk (fun k=>L k/\∀p∈l,p.1≠k) S rho (gF l s) a w
 | [],L,s,sim=>sim.jF (fun _ h=>h) (fun i=>⟨fun h=>h.1,fun h=>⟨h,by simp⟩⟩)
 | (d,b)::l,L,s,sim=>(T6 l _ _ (sim.HM d b)).jF (fun _ h=>h) (fun i=>⟨fun ⟨D,z⟩=>⟨⟨D,fun e=>z (d,b) (by simp) e.symm⟩,fun p hp=>z p (by simp[hp])⟩,fun ⟨⟨D,z⟩,h3⟩=>⟨D,fun p hp=>by
   rcases fL.1 hp with h | h
   ·subst h;exact fun e=>z e.symm
   exact h3 p h⟩⟩)
theorem lC:∀(l:List (Nat×AB)) (s:AS) (k:Nat),(∀p∈l,p.1≠k)->(∀d,qX d (s.h k)=s.h k)->(gF l s).h k=s.h k
 | [],s,k,_,_=>rfl
 | (d,b)::l,s,k,h,hs=>by
  have z:k≠d:=fun e=>h (d,b) (by simp) e.symm;have D:ax (dH d s).h d b k=s.h k:=by
   rw[au _ _ z];show ax (fun k=>qX d (s.h k)) d .none k=_;rw[au _ _ z];exact hs d
  show (gF l ⟨(dH d s).t,ax (dH d s).h d b⟩).h k=_;rw[lC l _ k (fun p hp=>h p (by simp[hp])) (fun I=>by show qX I (ax (dH d s).h d b k)=ax (dH d s).h d b k;rw[D];exact hs I)];exact D
theorem so:∀(l:List (Nat×AB)) (s:AS) (k:Nat) (b:AB),(l.map (·.1)).Nodup->(∀d,qX d b=b)->(k,b)∈l->(gF l s).h k=b
 | [],s,k,b,_,_,h=>by cases h
 | (d,b')::l,s,k,b,hn,hb,h=>by
  simp only[qO,jc]at hn;show (gF l ⟨(dH d s).t,ax (dH d s).h d b'⟩).h k=_;rcases fL.1 h with h | h
  ·injection h with h1 h2;subst h1 h2;rw[lC l _ k (fun p hp e=>hn.1 (fh.2 ⟨p,hp,e⟩)) (fun z=>by show qX z (ax (dH k s).h k b k)=ax (dH k s).h k b k;rw[ak];exact hb z)];exact ak _ _ _
  exact so l _ k b hn.2 hb h
theorem kI:∀{l:List Nat},cN l=true->l.Nodup
 | [],_=>by simp
 | n::l,h=>by
  simp[cN]at h;refine jc.2 ⟨fun z=>?_,kI h.2.2⟩;rw[iH.2 z]at h;cases h.1
theorem aY.open(hC:aL A.C)(s:AS)(id:Nat)(ns:List Nat){cs:List HC}(hb:s.h id=.aA cs)(hl:rowsOf cs=ns.length)(hg:cN ns=true)(hid:xx id ns=false):
  aY A s ⟨(gF (tz cs ns) s).t,ax (gF (tz cs ns) s).h id (.box (mh cs ns))⟩:=by
 intro S rho a w kP;have P6:=pG hl;have Fz:((tz cs ns).map (·.1)).Nodup:=by rw[P6];exact kI hg
 have iR:∀n,n∈ns↔∃b,(n,b)∈tz cs ns:=fun n=>by rw[show (n∈ns)=(n∈(tz cs ns).map (·.1)) by rw[P6]];simp
 have xL:¬id∈ns:=fun h=>by rw[iH.2 h]at hid;cases hid
 have I:=T6 (tz cs ns) bk s kP;have I:aU A bk (fun k=>¬k∈ns) S rho (gF (tz cs ns) s) a w:=I.jF (fun _ h=>h) (fun i=>⟨fun h=>⟨trivial,fun p hp e=>h (by rw[iR,<-e];exact⟨p.2,hp⟩)⟩,fun ⟨_,h⟩ U=>by obtain⟨b,dM⟩:=(iR i).1 U;exact h _ dM rfl⟩);obtain⟨s1,AA⟩:∃s1,s1=gF (tz cs ns) s:=⟨_,rfl⟩;have sq:s1.h id=.aA cs:=by
  rw[AA,lC _ _ id (fun p hp e=>xL (by rw[iR,<-e];exact⟨p.2,hp⟩)) (fun d=>by rw[hb];rfl),hb]
 have LZ:∀n b,(n,b)∈tz cs ns->s1.h n=b:=fun n b U=>by
  obtain⟨j,e,es,_,rfl,_⟩:=A0 U;rw[AA];exact so _ _ n _ Fz (fun d=>rfl) U
 rw[<-AA]at I ⊢;have hh:=I.hp id xL;rw[sq]at hh;obtain⟨g,ty,c,k1,V⟩:=hh;have Ch:bH (rho id)=some g:=by rw[k1];rfl
 have aN:(s1.h id).live:=by rw[sq];trivial
 have place:∀n,n∈ns->∃(j:Nat) (e:TypeId) (es:List (List PV)) (u:Value),cs[j]?=some (.row e es)/\(mh cs ns)[j]?=some (.ow n)/\c[j]?=some u/\s1.h n=.row e es/\(n,AB.row e es)∈tz cs ns:=fun n U=>by
  obtain⟨b,dM⟩:=(iR n).1 U;obtain⟨j,e,es,O,rfl,h3⟩:=A0 dM;obtain⟨u,Z⟩:=fJ V.sz.symm (ah O);exact⟨j,e,es,u,O,h3,Z,LZ n _ dM,dM⟩
 obtain⟨F,hF⟩:∃F:Nat->Value,∀n,n∈ns->∃(j:Nat) (e:TypeId) (es:List (List PV)),cs[j]?=some (.row e es)/\(mh cs ns)[j]?=some (.ow n)/\c[j]?=some (F n)/\s1.h n=.row e es/\(n,AB.row e es)∈tz cs ns:=by
  have ex:∀n,∃u:Value,n∈ns->∃(j:Nat) (e:TypeId) (es:List (List PV)),cs[j]?=some (.row e es)/\(mh cs ns)[j]?=some (.ow n)/\c[j]?=some u/\s1.h n=.row e es/\(n,AB.row e es)∈tz cs ns:=fun n=>by
   by_cases U:n∈ns
   ·obtain⟨j,e,es,u,h⟩:=place n U;exact⟨u,fun _=>⟨j,e,es,h⟩⟩
   exact⟨undef,fun h=>(U h).elim⟩
  exact⟨fun n=>(ex n).choose,fun n=>(ex n).choose_spec⟩
 have GA:∀{cs:List HC} {ns:List Nat} {i j n:Nat},rowsOf cs=ns.length->cN ns=true->(mh cs ns)[i]?=some (.ow n)->(mh cs ns)[j]?=some (.ow n)->i=j:=by
  intro cs ns i j n hl hg O h2;have xM:∀{cs:List HC} {ns:List Nat},rowsOf cs=ns.length->aS (mh cs ns)=ns:=by
   intro cs
   induction cs with
   | nil=>intro ns h;cases ns with | nil=>rfl | cons n ns=>simp[rowsOf]at h
   | cons x cs ih=>
    intro ns h;cases x with
    | p x=>exact ih h
    | row e es=>
     cases ns with
     | nil=>simp[rowsOf]at h
     | cons n ns=>
      simp only[rowsOf,bw,l5]at h;show n::aS (mh cs ns)=_;rw[ih h]
  exact kd (by rw[xM hl];exact hg) O h2
 obtain⟨rho',H5⟩:∃rho':Nat->Value,rho'=fun k=>if k∈ns then F k else rho k:=⟨_,rfl⟩;have Kw:∀k,k∈ns->rho' k=F k:=fun k hk=>by rw[H5];exact qH hk
 have zH:∀k,¬k∈ns->rho' k=rho k:=fun k hk=>by rw[H5];exact af hk
 have Kx:∀k,(k=id/\ax s1.h id (.box (mh cs ns)) k=.box (mh cs ns))\/(k≠id/\ax s1.h id (.box (mh cs ns)) k=s1.h k):=fun k=>by
  by_cases e:k=id
  ·subst e;exact .inl ⟨rfl,ak _ _ _⟩
  exact .inr ⟨e,au _ _ e⟩
 have T:fu S S w w (fun k=>¬k∈ns) bk rho rho' s1.h (ax s1.h id (.box (mh cs ns))):=⟨fun _ h=>h,fun _ _=>rfl,fun j D=>⟨by
   rcases Kx j with⟨rfl,h⟩ | ⟨_,h⟩
   ·rw[sq];trivial
   ·rw[h]at D;exact D,fun hn=>⟨trivial,zH j hn⟩⟩,fun j e D=>by
   rcases Kx j with⟨_,h⟩ | ⟨_,h⟩
   ·rw[h]at D;cases D
   rw[h]at D;exact D⟩
 have N:∀j k,(ax s1.h id (.box (mh cs ns)) j).live->hasB w (ax s1.h id (.box (mh cs ns)) j) (rho' j) k->∃o,¬o∈ns/\(s1.h o).live/\hasB w (s1.h o) (rho o) k/\(if j∈ns then o=id else o=j):=fun j k hl ho=>by
  by_cases D:j∈ns
  ·obtain⟨i,e,es,O,h2,h3,h4,h5⟩:=hF j D;have RF:j≠id:=fun e=>xL (e▸D);rw[au _ _ RF,h4,Kw j D]at ho;refine⟨id,xL,aN,?_,by rw[qH D]⟩;rw[sq];exact .inr <| .inl ⟨cs,g,rfl,Ch,c,ty,_,i,_,F j,V.hp,O,trivial,h3,al rfl ho⟩
  rw[zH j D]at ho;rcases Kx j with⟨rfl,h⟩ | ⟨_,h⟩
  ·rw[h]at ho;exact⟨j,D,aN,.inl (al rfl ho),by rw[af D]⟩
  rw[h]at hl ho;exact⟨j,D,hl,ho,by rw[af D]⟩
 exact⟨S,rho',
 {tm:=fun j D=>(I.tm j D).bA T
  sz:=I.sz,df:=I.df,nb:=I.nb
  pn:=fun k hk=>by rw[zH k fun h=>by have:=ke hg h;omega];exact I.pn k hk
  ev:=I.ev,s0:=I.s0,st:=I.st,sb:=I.sb
  hp:=fun j _=>by
   show cd _ _ _ _ _ _ _ (ax s1.h id (.box (mh cs ns)) j);rcases Kx j with⟨rfl,h⟩ | ⟨bO,h⟩
   ·rw[h];refine⟨g,ty,c,by rw[zH j xL];exact k1,V.hp,by rw[rh];exact V.sz,fun i x u J Z=>?_⟩;rcases vQ hl J with⟨z,O,rfl⟩ | ⟨n,e,es,O,rfl,h3⟩
    ·exact⟨(V.cell i _ u O Z).1,.p _ _ (V.cell i _ u O Z).2⟩
    refine⟨(V.cell i _ u O Z).1,.ow n u fun _=>⟨trivial,?_⟩⟩;have U:n∈ns:=(iR n).2 ⟨_,h3⟩;obtain⟨i',e',bW,q1,q2,q3,q4,q5⟩:=hF n U;have:=GA hl hg q2 J;subst this;rw[Kw n U];rw[q3]at Z;injection Z with Z;exact Z.symm
   rw[h];by_cases D:j∈ns
   ·obtain⟨i,e,es,O,h2,h3,h4,h5⟩:=hF j D;rw[h4];show an _ _ _ _ _ (rho' j);rw[Kw j D];exact (V.cell i _ _ O h3).2
   exact (I.hp j D).bA T (fun _ _ _=>rfl) (fun _=>zH j D)
  dj:=fun i j k _ _ li lj J D=>by
   obtain⟨o,o1,o2,o3,o4⟩:=N i k li J;obtain⟨p,p1,p2,p3,p4⟩:=N j k lj D;have:=I.dj o p k o1 p1 o2 p2 o3 p3;subst this;by_cases ei:i∈ns
   ·rw[qH ei]at o4;subst o4;have J:hasB w (ax s1.h o (.box (mh cs ns)) i) (rho' i) k:=J;obtain⟨i1,e1,M0,q1,q2,q3,q4,q5⟩:=hF i ei;have Jk:bH (F i)=some k:=by
     rw[au _ _ (fun e=>xL (by rw[<-e];exact ei)),q4,Kw i ei]at J;exact al rfl J
    by_cases Y:j∈ns
    ·have D:hasB w (ax s1.h o (.box (mh cs ns)) j) (rho' j) k:=D;obtain⟨j1,e2,jo,r1,r2,r3,r4,r5⟩:=hF j Y;have OP:bH (F j)=some k:=by
      rw[au _ _ (fun e=>xL (by rw[<-e];exact Y)),r4,Kw j Y]at D;exact al rfl D
     have:=V.dis i1 j1 _ _ _ _ k q1 r1 q3 r3 trivial trivial Jk OP;subst this;rw[q2]at r2;injection r2 with r2;injection r2
    rw[af Y]at p4;subst p4;exfalso;have D:hasB w (ax s1.h o (.box (mh cs ns)) o) (rho' o) k:=D;rw[ak,zH o Y]at D;have D:=al rfl D;rw[Ch]at D;injection D with D;exact V.top i1 _ _ k q1 q3 trivial Jk D.symm
   rw[af ei]at o4;by_cases Y:j∈ns
   ·rw[qH Y]at p4;subst o4;subst p4;exfalso;have J:hasB w (ax s1.h o (.box (mh cs ns)) o) (rho' o) k:=J;have D:hasB w (ax s1.h o (.box (mh cs ns)) j) (rho' j) k:=D;obtain⟨j1,e2,jo,r1,r2,r3,r4,r5⟩:=hF j Y;have OP:bH (F j)=some k:=by
     rw[au _ _ (fun e=>xL (by rw[<-e];exact Y)),r4,Kw j Y]at D;exact al rfl D
    rw[ak,zH o ei]at J;have J:=al rfl J;rw[Ch]at J;injection J with J;exact V.top j1 _ _ k r1 r3 trivial OP J.symm
   rw[af Y]at p4;exact o4.symm.trans p4
  lv:=fun i k _ li J=>by
   obtain⟨o,o1,o2,o3,_⟩:=N i k li J;exact I.lv o k o1 o2 o3
  fr:=I.fr }⟩
end Go.AM
namespace Go.AM
open Go.RowKit
def cellAt(w:World)(g p:Nat)(u:Value):Prop:=∃(c:Array Value) (ty:TypeId) (m:Nat×Nat),w.heap[g]?=some (.cells c ty m)/\c[p]?=some u
theorem jf{w:World}{g p:Nat}{u v:Value}(h:cellAt w g p u)(k:cellAt w g p v):u=v:=by
 obtain⟨c,ty,m,I,J⟩:=h;obtain⟨c',KX,m',z,D⟩:=k;rw[I]at z;injection z with z;injection z with z;subst z;rw[J]at D;injection D
theorem cS{w:World}{es:List (List HX)}{g a j:Nat}{u:Value}:bI w es g a j u↔∃r e xs,es[a]?=some r/\r[j]?=some (.row e xs)/\cellAt w g (a*r.length+j) u:=
 ⟨fun ⟨r,e,xs,c,z,m,D,I,J,N⟩=>⟨r,e,xs,D,I,c,z,m,J,N⟩,fun ⟨r,e,xs,D,I,c,z,m,J,N⟩=>⟨r,e,xs,c,z,m,D,I,J,N⟩⟩
variable {α:Type} {e:TypeId}
theorem an.re{β:Type}{P:Program}{w:World}{R:α->Value->Prop}{Y:β->Value->Prop}{es:List (List α)}{J:List (List β)}{v:Value}(h:an P w R e es v)(hl:J.length=es.length)
  (Z:∀(a:Nat) r z,es[a]?=some r->J[a]?=some z->z.length=r.length)
  (hc:∀(a:Nat) r z (j:Nat) x O u,es[a]?=some r->J[a]?=some z->r[j]?=some x->z[j]?=some O->(∀g,bH v=some g->cellAt w g (a*r.length+j) u)->R x u->Y O u):an P w Y e J v:=by
 obtain⟨i,xs,h1,h2,h3,h4,h5,h6⟩:=h;have old:∀{a:Nat} {z:List β},J[a]?=some z->∃r,es[a]?=some r:=fun {a z} D=>⟨_,aM (by rw[<-hl];exact ah D)⟩;refine⟨i,xs,h1,h2,by rw[hl];exact h3,fun z jb=>?_,h5,fun a z j O D hj=>?_⟩
 ·obtain⟨a,D⟩:=uU.1 jb;obtain⟨r,I⟩:=old D;rw[Z a r z I D];exact h4 r (aj I)
 obtain⟨r,I⟩:=old D;have hlen:=Z a r z I D;obtain⟨x,hx⟩:∃x,r[j]?=some x:=⟨_,aM (by rw[<-hlen];exact ah hj)⟩;obtain⟨u,N,nF⟩:=h6 a r j x I hx;refine⟨u,N,hc a r z j x O u I D hx hj (fun g U=>?_) nF⟩;have nP:=h4 r (aj I);rcases h3.2 with⟨hn,_⟩ | ⟨g',cap,V,hv,_,wI,k1,k2,k3,k4⟩
 ·rw[hn]at U;cases U
 rw[hv]at U;obtain rfl:=ed.1 U;refine⟨V,_,_,wI,?_⟩;rw[nP];rw[<-k4,cB]at N;split at N
 ·simpa using N
 cases N
variable {A:jR}
theorem aY.OQ(hC:aL A.C)(s:AS)(id:Nat){es:List (List PV)}(hb:s.h id=.row e es):aY A s ⟨s.t,ax s.h id (.ai e (es.map o8))⟩:=by
 intro S rho a w J;have U:∀g k j u,¬bI w (es.map o8) g k j u:=fun g k j u h=>by
  obtain⟨r,e',kS,I,D,_⟩:=cS.1 h;rw[ao]at I;obtain⟨q,_,rfl⟩:=az.1 I;rw[o8,ao]at D;obtain⟨z,_,V⟩:=az.1 D;cases V
 have N:=J.hp id trivial;rw[hb]at N;have N:an A.C.P w (ay S w) e es (rho id):=N;refine⟨S,rho,J.vf hC id trivial (by rw[hb];trivial) _ (fun e' h=>by rw[hb];exact h) w rfl rfl rfl rfl (fun _ _=>rfl) (fun T=>?_) (fun g h=>?_)⟩
 ·refine⟨N.re (by simp) (fun k r Y I D=>?_) (fun k r Y j x x2 u I D Z O _ hx=>?_),⟨fun g k j u b _ h=>absurd h (U _ _ _ _),fun g k j k' j' u u' b _ h=>absurd h (U _ _ _ _)⟩⟩
  ·rw[ao,I]at D;injection D with D;rw[<-D,o8,ct]
  rw[ao,I]at D;injection D with D;rw[<-D,o8,ao,Z]at O;injection O with O;rw[<-O];exact va hx
 rw[bN]at h;rcases h with h | ⟨g',k,j,u,_,h,_⟩
 ·exact .inl h
 exact absurd h (U _ _ _ _)
def GB:HX->Prop
 | .av (.p _)=>True
 | .av .nl=>True
 | .row _ _=>True
 | _=>False
def ri(es:List (List HX)):Prop:=∀r∈es,∀x∈r,GB x
theorem Cu{es:List (List HX)}(h:ri es)(d:Nat):(es.map fun r=>r.map (HX.Te (sc d)))=es:=by
 conv=>rhs;rw[<-List.map_id es]
 refine vz fun r z=>?_;show r.map _=r
 conv=>rhs;rw[<-List.map_id r]
 refine vz fun x D=>?_;have:=h r z x D;cases x with
 | row e es=>rfl
 | av y=>cases y<;>first | rfl | exact this.elim
theorem fw{l:List α}{i a:Nat}{x y:α}(h:(l.set i x)[a]?=some y):(a=i/\y=x/\i<l.length)\/(a≠i/\l[a]?=some y):=by
 by_cases e:a=i
 ·subst e;have hl:=ah h;rw[cu]at hl;rw[bQ hl]at h;injection h with h;exact .inl ⟨rfl,h.symm,hl⟩
 rw[bY (fun e'=>e e'.symm)]at h;exact .inr ⟨e,h⟩
variable {e':TypeId}
theorem aY.mi(hC:aL A.C)(s:AS)(id i j d:Nat){es:List (List HX)}{r:List HX}{xs:List (List PV)}(hd:d<100000)(hid:id≠d)(hb:s.h id=.ai e es)(hs:ri es)(hr:es[i]?=some r)(hj:r[j]?=some (.row e' xs)):
  aY A s ⟨(dH d s).t,ax (ax (dH d s).h d (.row e' xs)) id (.ai e (es.set i (r.set j (.av (.ow d)))))⟩:=by
 intro S rho a w kP;have z:=kP.free d (.row e' xs);obtain⟨I,OR⟩:∃I,I=ax (dH d s).h d (.row e' xs):=⟨_,rfl⟩;have sq:I id=.ai e es:=by
  rw[OR,au _ _ hid];show ax (fun k=>qX d (s.h k)) d .none id=_;rw[au _ _ hid,hb];show AB.ai e _=_;rw[Cu hs]
 have P7:I d=.row e' xs:=by rw[OR,ak]
 rw[<-OR]at z ⊢;obtain⟨U,lD⟩:∃U,U=es.set i (r.set j (.av (.ow d))):=⟨_,rfl⟩;rw[<-lD];have hh:=z.hp id hid;have hh:cd S w A.C.P (fun k=>k≠d) rho I id (I id):=hh;rw[sq]at hh;obtain⟨hR,hS⟩:=hh;obtain⟨g,u,hg,Nc,nF⟩:=hR.rE hr hj;have nF:an A.C.P w (ay S w) e' xs u:=nF;have aN:(I id).live:=by rw[sq];trivial
 have cc:∀Y k p v,bI w U Y k p v->bI w es Y k p v/\¬(k=i/\p=j):=by
  intro Y k p v hc;obtain⟨q,e2,XA,q1,q2,q3⟩:=cS.1 hc;rw[lD]at q1;rcases fw q1 with⟨rfl,rfl,_⟩ | ⟨D,q1⟩
  ·rcases fw q2 with⟨_,hx,_⟩ | ⟨hp,q2⟩
   ·cases hx
   exact⟨cS.2 ⟨r,e2,XA,hr,q2,by rw[cu]at q3;exact q3⟩,fun h=>hp h.2⟩
  exact⟨cS.2 ⟨q,e2,XA,q1,q2,q3⟩,fun h=>D h.1⟩
 have hown:∀b,bH u=some b->hasB w (I id) (rho id) b:=fun b h=>by rw[sq,bN];exact .inr ⟨g,i,j,u,hg,Nc,h⟩
 obtain⟨rho',eZ⟩:∃rho',rho'=ax rho d u:=⟨_,rfl⟩;have rd:rho' d=u:=by rw[eZ,ak]
 have ro:∀k,k≠d->rho' k=rho k:=fun k h=>by rw[eZ,au _ _ h]
 have T:fu S S w w (fun k=>k≠d) bk rho rho' I (ax I id (.ai e U)):=⟨fun _ h=>h,fun _ _=>rfl,fun k D=>⟨by
   rcases aD I id (.ai e U) k with⟨rfl,h⟩ | ⟨_,h⟩
   ·rw[sq];trivial
   ·rw[h]at D;exact D,fun h=>⟨trivial,ro k h⟩⟩,fun k e2 D=>by
   rcases aD I id (.ai e U) k with⟨rfl,h⟩ | ⟨_,h⟩
   ·rw[h]at D;rw[sq];exact D
   rw[h]at D;exact D⟩
 have N:∀k b,(ax I id (.ai e U) k).live->hasB w (ax I id (.ai e U) k) (rho' k) b->∃o,o≠d/\(I o).live/\hasB w (I o) (rho o) b/\(if k=d then o=id/\bH u=some b else o=k/\(k=id->bH u≠some b)):=by
  intro k b hl J;by_cases D:k=d
  ·subst D;rw[au _ _ (fun e=>hid e.symm),P7,rd]at J;have J:=al rfl J;exact⟨id,hid,aN,hown b J,by rw[qH rfl];exact⟨rfl,J⟩⟩
  rcases aD I id (.ai e U) k with⟨rfl,h⟩ | ⟨bO,h⟩
  ·rw[h,ro k D]at J;rw[bN]at J;refine⟨k,D,aN,?_,?_⟩
   ·rw[sq,bN];rcases J with J | ⟨Y,k',p,v,Z,o2,o3⟩
    ·exact .inl J
    exact .inr ⟨Y,k',p,v,Z,(cc _ _ _ _ o2).1,o3⟩
   rw[af D];refine⟨rfl,fun _ P8=>?_⟩;rcases J with J | ⟨Y,k',p,v,Z,o2,o3⟩
   ·rw[hg]at J;injection J with J;exact hS.top g i j u b hg Nc P8 J.symm
   rw[hg]at Z;injection Z with Z;subst Z;obtain⟨c1,c2⟩:=cc _ _ _ _ o2;exact c2 (hS.dis g k' p i j v u b hg c1 Nc o3 P8)
  rw[h,ro k D]at J;rw[h]at hl;exact⟨k,D,hl,J,by rw[af D];exact⟨rfl,fun e=>absurd e bO⟩⟩
 exact⟨S,rho',
 {tm:=fun k D=>(z.tm k D).bA T
  sz:=z.sz,df:=z.df,nb:=z.nb
  pn:=fun k D=>by rw[ro k (by omega)];exact z.pn k D
  ev:=z.ev,s0:=z.s0,st:=z.st,sb:=z.sb
  hp:=fun k _=>by
   show cd _ _ _ _ _ _ _ (ax I id (.ai e U) k);by_cases D:k=d
   ·subst D;rw[au _ _ (fun e=>hid e.symm),P7];show an _ _ _ _ _ (rho' k);rw[rd];exact nF
   rcases aD I id (.ai e U) k with⟨rfl,h⟩ | ⟨bO,h⟩
   ·rw[h];show an _ _ _ _ _ (rho' k)/\kU _ _ (rho' k);rw[ro k D];refine⟨hR.re (by rw[lD,cu]) (fun p q q2 V O=>?_) (fun p q q2 m x x2 v V O z3 z4 hcell hx=>?_),⟨fun Y p m v b c1 c2 c3=>hS.top Y p m v b c1 (cc _ _ _ _ c2).1 c3,fun Y p m p' m' v v' b c1 c2 c3 c4 c5=>hS.dis Y p m p' m' v v' b c1 (cc _ _ _ _ c2).1 (cc _ _ _ _ c3).1 c4 c5⟩⟩
    ·rw[lD]at O;rcases fw O with⟨rfl,rfl,_⟩ | ⟨_,O⟩
     ·rw[hr]at V;injection V with V;rw[<-V,cu]
     rw[V]at O;injection O with O;rw[O]
    have qo:iY S w A.C.P (fun k=>k≠d) rho I x v->x2=x->iY S w A.C.P bk rho' (ax I k (.ai e U)) x2 v:=fun hx YM=>by
     rw[YM];cases x with
     | av y=>exact aE.bA T hx
     | row e2 XA=>exact hx
    rw[lD]at O;rcases fw O with⟨rfl,rfl,_⟩ | ⟨_,O⟩
    ·rw[hr]at V;injection V with V;subst V;rcases fw z4 with⟨rfl,rfl,_⟩ | ⟨_,z4⟩
     ·obtain⟨q',_,_,c1,_,c2⟩:=cS.1 Nc;rw[hr]at c1;injection c1 with c1;subst c1;have:=jf (hcell g hg) c2;subst this;exact .ow d _ fun _=>⟨trivial,rd.symm⟩
     rw[z3]at z4;injection z4 with z4;exact qo hx z4.symm
    rw[V]at O;injection O with O;subst O;rw[z3]at z4;injection z4 with z4;exact qo hx z4.symm
   rw[h];exact (z.hp k D).bA T (fun _ _ _=>rfl) (fun _=>ro k D)
  dj:=fun k m b _ _ lk lm D hm=>by
   obtain⟨o,Z,o2,o3,o4⟩:=N k b lk D;obtain⟨p,p1,p2,p3,p4⟩:=N m b lm hm;have:=z.dj o p b Z p1 o2 p2 o3 p3;subst this;by_cases ek:k=d<;>by_cases em:m=d
   ·rw[ek,em]
   ·rw[qH ek]at o4;rw[af em]at p4;exact absurd o4.2 (p4.2 (p4.1.symm.trans o4.1))
   ·rw[af ek]at o4;rw[qH em]at p4;exact absurd p4.2 (o4.2 (o4.1.symm.trans p4.1))
   rw[af ek]at o4;rw[af em]at p4;exact o4.1.symm.trans p4.1
  lv:=fun k b _ lk D=>by
   obtain⟨o,Z,o2,o3,_⟩:=N k b lk D;exact z.lv o b Z o2 o3
  fr:=z.fr }⟩
theorem aY.jg(hC:aL A.C)(s:AS)(id i j d:Nat){es:List (List HX)}{r:List HX}{xs:List (List PV)}(hid:id≠d)(hb:s.h id=.ai e es)(Nd:s.h d=.row e' xs)(hr:es[i]?=some r)(hj:r[j]?=some (.av (.ow d))):
  aY A s ⟨s.t,ax (ax s.h d .none) id (.ai e (es.set i (r.set j (.row e' xs))))⟩:=by
 intro S rho a w z;obtain⟨N,lD⟩:∃N,N=es.set i (r.set j (.row e' xs)):=⟨_,rfl⟩;rw[<-lD];have hh:=z.hp id trivial;rw[hb]at hh;obtain⟨hR,hS⟩:=hh;have aN:(s.h id).live:=by rw[hb];trivial
 have OS:(s.h d).live:=by rw[Nd];trivial
 have Kn:=z.hp d trivial;rw[Nd]at Kn;have Kn:an A.C.P w (ay S w) e' xs (rho d):=Kn;have up:∀k,(k=id/\ax (ax s.h d .none) id (.ai e N) k=.ai e N)\/(k=d/\k≠id/\ax (ax s.h d .none) id (.ai e N) k=.none)\/(k≠d/\k≠id/\ax (ax s.h d .none) id (.ai e N) k=s.h k):=fun k=>by
  by_cases U:k=id
  ·subst U;exact .inl ⟨rfl,ak _ _ _⟩
  by_cases h2:k=d
  ·subst h2;exact .inr (.inl ⟨rfl,U,by rw[au _ _ U,ak]⟩)
  exact .inr (.inr ⟨h2,U,by rw[au _ _ U,au _ _ h2]⟩)
 have T:fu S S w w bk bk rho rho s.h (ax (ax s.h d .none) id (.ai e N)):=⟨fun _ h=>h,fun _ _=>rfl,fun k D=>⟨by
   rcases up k with⟨rfl,h⟩ | ⟨_,_,h⟩ | ⟨_,_,h⟩
   ·rw[hb];trivial
   ·rw[h]at D;exact D.elim
   ·rw[h]at D;exact D,fun h=>⟨trivial,rfl⟩⟩,fun k e2 D=>by
   rcases up k with⟨rfl,h⟩ | ⟨_,_,h⟩ | ⟨_,_,h⟩
   ·rw[h]at D;rw[hb];exact D
   ·rw[h]at D;cases D
   rw[h]at D;exact D⟩
 have hval:∀g u,bH (rho id)=some g->cellAt w g (i*r.length+j) u->u=rho d:=fun g u hg hu=>by
  obtain⟨i0,ws,V,q2,q3,q4,q5,q6⟩:=hR;obtain⟨u2,p1,p2⟩:=q6 i r j _ hr hj;have p2:aE S w A.C.P bk rho s.h (.ow d) u2:=p2;have:=(p2.bu (by rw[Nd];trivial)).2;rw[<-this];have nP:=q4 r (aj hr);rcases q3.2 with⟨hn,_⟩ | ⟨g',cap,cur,hv,_,wI,k1,k2,k3,k4⟩
  ·rw[hn]at hg;cases hg
  rw[hv]at hg;obtain rfl:=ed.1 hg;refine jf hu ⟨cur,_,_,wI,?_⟩;rw[nP];rw[<-k4,cB]at p1;split at p1
  ·simpa using p1
  cases p1
 have cc:∀g k p v,bH (rho id)=some g->bI w N g k p v->(bI w es g k p v/\¬(k=i/\p=j))\/(k=i/\p=j/\v=rho d):=by
  intro g k p v hg hc;obtain⟨q,e2,XA,V,q2,q3⟩:=cS.1 hc;rw[lD]at V;rcases fw V with⟨rfl,rfl,_⟩ | ⟨D,V⟩
  ·rw[cu]at q3;rcases fw q2 with⟨rfl,_,_⟩ | ⟨hp,q2⟩
   ·exact .inr ⟨rfl,rfl,hval g v hg q3⟩
   exact .inl ⟨cS.2 ⟨r,e2,XA,hr,q2,q3⟩,fun h=>hp h.2⟩
  exact .inl ⟨cS.2 ⟨q,e2,XA,V,q2,q3⟩,fun h=>D h.1⟩
 have inner:∀g k p v b,bH (rho id)=some g->bI w es g k p v->bH v=some b->bH (rho d)≠some b:=fun g k p v b U h2 h3 h4=>
  hid (z.dj id d b trivial trivial aN OS (by rw[hb,bN];exact .inr ⟨g,k,p,v,U,h2,h3⟩) (.inl h4))
 have I:∀k b,(ax (ax s.h d .none) id (.ai e N) k).live->hasB w (ax (ax s.h d .none) id (.ai e N) k) (rho k) b->∃o,(s.h o).live/\hasB w (s.h o) (rho o) b/\(o=k/\k≠d\/o=d/\k=id):=by
  intro k b hl ho;rcases up k with⟨rfl,h⟩ | ⟨_,_,h⟩ | ⟨U,_,h⟩
  ·rw[h,bN]at ho;rcases ho with ho | ⟨g,k',p,v,o1,o2,o3⟩
   ·exact⟨k,aN,.inl ho,.inl ⟨rfl,hid⟩⟩
   rcases cc _ _ _ _ o1 o2 with⟨c1,_⟩ | ⟨_,_,rfl⟩
   ·exact⟨k,aN,by rw[hb,bN];exact .inr ⟨g,k',p,v,o1,c1,o3⟩,.inl ⟨rfl,hid⟩⟩
   exact⟨d,OS,.inl o3,.inr ⟨rfl,rfl⟩⟩
  ·rw[h]at hl;exact hl.elim
  rw[h]at hl ho;exact⟨k,hl,ho,.inl ⟨rfl,U⟩⟩
 exact⟨S,rho,
 {tm:=fun k D=>(z.tm k D).bA T
  sz:=z.sz,df:=z.df,nb:=z.nb,pn:=z.pn
  ev:=z.ev,s0:=z.s0,st:=z.st,sb:=z.sb
  hp:=fun k _=>by
   show cd _ _ _ _ _ _ _ (ax (ax s.h d .none) id (.ai e N) k);rcases up k with⟨rfl,h⟩ | ⟨_,_,h⟩ | ⟨U,bO,h⟩
   ·rw[h];refine⟨hR.re (by rw[lD,cu]) (fun p q q2 O J=>?_) (fun p q q2 m x x2 v O J z3 Y hcell Z=>?_),⟨fun g p m v b c1 c2 c3=>?_,fun g p m p' m' v v' b c1 c2 c3 c4 c5=>?_⟩⟩
    ·rw[lD]at J;rcases fw J with⟨rfl,rfl,_⟩ | ⟨_,J⟩
     ·rw[hr]at O;injection O with O;rw[<-O,cu]
     rw[O]at J;injection J with J;rw[J]
    ·have qo:iY S w A.C.P bk rho s.h x v->x2=x->iY S w A.C.P bk rho (ax (ax s.h d .none) k (.ai e N)) x2 v:=fun Z YM=>by
      rw[YM];cases x with
      | av y=>exact aE.bA T Z
      | row e2 XA=>exact Z
     rw[lD]at J;rcases fw J with⟨rfl,rfl,_⟩ | ⟨_,J⟩
     ·rw[hr]at O;injection O with O;subst O;rcases fw Y with⟨rfl,rfl,_⟩ | ⟨_,Y⟩
      ·have Z:iY S w A.C.P bk rho s.h x v:=Z;rw[hj]at z3;injection z3 with z3;subst z3;have Z:aE S w A.C.P bk rho s.h (.ow d) v:=Z;show an A.C.P w (ay S w) e' xs v;rw[(Z.bu (by rw[Nd];trivial)).2];exact Kn
      rw[z3]at Y;injection Y with Y;exact qo Z Y.symm
     rw[O]at J;injection J with J;subst J;rw[z3]at Y;injection Y with Y;exact qo Z Y.symm
    ·rcases cc _ _ _ _ c1 c2 with⟨V,_⟩ | ⟨_,_,rfl⟩
     ·exact hS.top g p m v b c1 V c3
     intro IU;subst IU;exact hid (z.dj k d b trivial trivial aN OS (.inl c1) (.inl c3))
    rcases cc _ _ _ _ c1 c2 with⟨V,q2⟩ | ⟨rfl,rfl,rfl⟩<;>rcases cc _ _ _ _ c1 c3 with⟨q3,q4⟩ | ⟨rfl,rfl,rfl⟩
    ·exact hS.dis g p m p' m' v v' b c1 V q3 c4 c5
    ·exact absurd c5 (inner g p m v b c1 V c4)
    ·exact absurd c4 (inner g p' m' v' b c1 q3 c5)
    exact⟨rfl,rfl⟩
   ·rw[h];trivial
   rw[h];exact (z.hp k trivial).bA T (fun _ _ _=>rfl) (fun _=>rfl)
  dj:=fun k m b _ _ lk lm D hm=>by
   obtain⟨o,o1,o2,o3⟩:=I k b lk D;obtain⟨p,p1,p2,p3⟩:=I m b lm hm;have:=z.dj o p b trivial trivial o1 p1 o2 p2;subst this;rcases o3 with⟨rfl,o3⟩ | ⟨rfl,o3⟩<;>rcases p3 with⟨rfl,p3⟩ | ⟨h,p3⟩
   ·rfl
   ·exact absurd h o3
   ·exact absurd rfl p3
   rw[o3,p3]
  lv:=fun k b _ lk D=>by
   obtain⟨o,o1,o2,_⟩:=I k b lk D;exact z.lv o b trivial o1 o2
  fr:=z.fr }⟩
theorem aY.OT(hC:aL A.C)(s:AS)(id i j:Nat){es:List (List HX)}{r:List HX}{ti:TI}(hb:s.h id=.ai e es)(hr:es[i]?=some r)(hj:r[j]?=some (.av .nl))(hT:A.C.T e'=some ti)(hpos:0<ti.size):
  aY A s ⟨s.t,ax s.h id (.ai e (es.set i (r.set j (.row e' []))))⟩:=by
 intro S rho a w sim;obtain⟨jo,lD⟩:∃jo,jo=es.set i (r.set j (.row e' [])):=⟨_,rfl⟩;rw[<-lD];have hh:=sim.hp id trivial;rw[hb]at hh;obtain⟨hR,hS⟩:=hh;obtain⟨info,z,h1,h2,_⟩:=hC.eL e' ti hT;have hval:∀g u,bH (rho id)=some g->cellAt w g (i*r.length+j) u->u=.slice none 0 0:=fun g u V hu=>by
  obtain⟨i0,ws,q1,O,Y,q4,q5,q6⟩:=hR;obtain⟨u2,p1,p2⟩:=q6 i r j _ hr hj;have p2:aE S w A.C.P bk rho s.h .nl u2:=p2;have:u2=.slice none 0 0:=by cases p2;rfl
  rw[<-this];have nP:=q4 r (aj hr);rcases Y.2 with⟨hn,_⟩ | ⟨g',cap,cur,hv,_,wI,k1,k2,k3,k4⟩
  ·rw[hn]at V;cases V
  rw[hv]at V;obtain rfl:=ed.1 V;refine jf hu ⟨cur,_,_,wI,?_⟩;rw[nP];rw[<-k4,cB]at p1;split at p1
  ·simpa using p1
  cases p1
 have cc:∀g k p v b,bH (rho id)=some g->bI w jo g k p v->bH v=some b->bI w es g k p v:=by
  intro g k p v b V hc hv;obtain⟨q,e2,XA,q1,O,Y⟩:=cS.1 hc;rw[lD]at q1;rcases fw q1 with⟨rfl,rfl,_⟩ | ⟨hk,q1⟩
  ·rw[cu]at Y;rcases fw O with⟨rfl,_,_⟩ | ⟨hp,O⟩
   ·rw[hval g v V Y]at hv;cases hv
   exact cS.2 ⟨r,e2,XA,hr,O,Y⟩
  exact cS.2 ⟨q,e2,XA,q1,O,Y⟩
 refine⟨S,rho,sim.vf hC id trivial (by rw[hb];trivial) _ (fun e2 h=>by rw[hb];exact h) w rfl rfl rfl rfl (fun _ _=>rfl) (fun T=>?_) (fun g h=>?_)⟩
 ·refine⟨hR.re (by rw[lD,cu]) (fun p q O I D=>?_) (fun p q O m x x2 v I D Z J hcell N=>?_),⟨fun g p m v b c1 c2 U=>hS.top g p m v b c1 (cc _ _ _ _ _ c1 c2 U) U,fun g p m p' m' v v' b c1 c2 U c4 c5=>hS.dis g p m p' m' v v' b c1 (cc _ _ _ _ _ c1 c2 c4) (cc _ _ _ _ _ c1 U c5) c4 c5⟩⟩
  ·rw[lD]at D;rcases fw D with⟨rfl,rfl,_⟩ | ⟨_,D⟩
   ·rw[hr]at I;injection I with I;rw[<-I,cu]
   rw[I]at D;injection D with D;rw[D]
  have qo:iY S w A.C.P bk rho s.h x v->x2=x->iY S w A.C.P bk rho (ax s.h id (.ai e jo)) x2 v:=fun N YM=>by
   rw[YM];cases x with
   | av y=>exact aE.bA T N
   | row e2 XA=>exact N
  rw[lD]at D;rcases fw D with⟨rfl,rfl,_⟩ | ⟨_,D⟩
  ·rw[hr]at I;injection I with I;subst I;rcases fw J with⟨rfl,rfl,_⟩ | ⟨_,J⟩
   ·rw[hj]at Z;injection Z with Z;subst Z;have N:aE S w A.C.P bk rho s.h .nl v:=N;have:v=.slice none 0 0:=by cases N;rfl
    rw[this];exact⟨info,[],h1,by omega,⟨by simp,.inl ⟨rfl,rfl⟩⟩,by simp,by simp,by simp⟩
   rw[Z]at J;injection J with J;exact qo N J.symm
  rw[I]at D;injection D with D;subst D;rw[Z]at J;injection J with J;exact qo N J.symm
 rw[bN]at h;rw[hb,bN];rcases h with h | ⟨g',k,p,v,c1,c2,U⟩
 ·exact .inl h
 exact .inr ⟨g',k,p,v,c1,cc _ _ _ _ _ c1 c2 U,U⟩
theorem Kf.map{l:List α}{f:α->List HX}{g:α->List PV}(h:∀x∈l,(g x).length=(f x).length/\∀(j:Nat) u v,(f x)[j]?=some u->(g x)[j]?=some v->KI u v):Kf (l.map f) (l.map g):=
 ⟨by simp,fun a r q D z=>by
  rw[ao]at D z;obtain⟨x,I,rfl⟩:=az.1 D;rw[I]at z;injection z with z;subst z;exact h x (aj I)⟩
theorem aY.L1(hC:aL A.C)(s:AS)(id:Nat){es:List (List HX)}(ps:List (List PV))(hb:s.h id=.ai e es)(N:Kf es ps):aY A s ⟨s.t,ax s.h id (.row e ps)⟩:=by
 intro S rho a w z;have hh:=z.hp id trivial;rw[hb]at hh;obtain⟨hR,hS⟩:=hh;have Z:(s.h id).live:=by rw[hb];trivial
 obtain⟨I,hI⟩:∃I:Nat->Prop,I=fun b=>∃g k j u,bH (rho id)=some g/\bI w es g k j u/\bH u=some b:=⟨_,rfl⟩;have OU:∀b,I b->hasB w (s.h id) (rho id) b:=fun b h=>by rw[hI]at h;rw[hb,bN];exact .inr h
 have YN:∀b,I b->bH (rho id)≠some b:=fun b h J=>by
  rw[hI]at h;obtain⟨g,k,j,u,V,h2,h3⟩:=h;rw[V]at J;injection J with J;exact hS.top g k j u b V h2 h3 J.symm
 have T:fu S (fun b=>S b\/I b) w w bk bk rho rho s.h (ax s.h id (.row e ps)):=by
  refine⟨fun b h=>.inl h,fun _ _=>rfl,fun j D=>⟨?_,fun hl=>⟨hl,rfl⟩⟩,fun j e' D=>?_⟩
  ·rcases aD s.h id (.row e ps) j with⟨rfl,h⟩ | ⟨_,h⟩
   ·rw[hb];trivial
   rw[h]at D;exact D
  rcases aD s.h id (.row e ps) j with⟨rfl,h⟩ | ⟨_,h⟩
  ·rw[h]at D;rw[hb];exact D
  rw[h]at D;exact D
 have cM:∀j,((ax s.h id (.row e ps)) j).live->(s.h j).live:=by
  intro j D;rcases aD s.h id (.row e ps) j with⟨rfl,h⟩ | ⟨V,h⟩
  ·exact Z
  rw[h]at D;exact D
 have back:∀j g,hasB w (ax s.h id (.row e ps) j) (rho j) g->hasB w (s.h j) (rho j) g:=fun j g h=>by
  rcases aD s.h id (.row e ps) j with⟨rfl,h'⟩ | ⟨V,h'⟩
  ·rw[h']at h;exact .inl (al rfl h)
  rw[h']at h;exact h
 exact⟨fun b=>S b\/I b,rho,
 {tm:=fun j D=>(z.tm j D).bA T
  sz:=z.sz,df:=z.df,nb:=z.nb,pn:=z.pn
  ev:=hC.env _ _ _ _ z.ev (fun b h=>.inl h) (fun _ _=>rfl) (aC _)
  s0:=fun b h=>.inl (z.s0 b h)
  st:=fun b h=>h.elim (z.st b) fun h=>(z.lv id b trivial Z (OU b h)).1
  sb:=fun b h=>h.elim (z.sb b) fun h=>.inr (z.lv id b trivial Z (OU b h)).2.2
  hp:=fun j D=>by
   rcases aD s.h id (.row e ps) j with⟨rfl,h⟩ | ⟨V,h⟩
   ·show cd _ _ _ _ _ _ _ (ax s.h j (.row e ps) j);rw[h];refine hR.re N.len (fun p q q2 Y z2=>(N.row p q q2 Y z2).1) (fun p q q2 m x x2 v Y z2 z3 z4 O U=>?_);have:=(N.row p q q2 Y z2).2 m x x2 z3 z4;cases this with
    | p x=>exact (aE.cb U).mono (fun b h=>.inl h) (fun _ _=>rfl)
    | nl=>
     have U:aE S w A.C.P bk rho s.h .nl v:=U;cases U;exact .nil _ _
    | row e' xs=>
     have U:an A.C.P w (ay S w) e' xs v:=U;refine an.yG U (fun b h=>.inl h) fun b dM=>.inr ?_;rw[hI];obtain⟨g,u,g1,g2,_⟩:=hR.rE Y z3;obtain⟨q',_,_,c1,_,c2⟩:=cS.1 g2;rw[Y]at c1;injection c1 with c1;subst c1;have:=jf (O g g1) c2;subst this;exact⟨g,p,m,v,g1,g2,dM⟩
   show cd _ _ _ _ _ _ _ (ax s.h id (.row e ps) j);rw[h];exact (z.hp j D).bA T (fun _ _ _=>rfl) (fun _=>rfl)
  dj:=fun i j g hi D li lj cK dW=>z.dj i j g hi D (cM i li) (cM j lj) (back i g cK) (back j g dW)
  lv:=fun i g hi li J=>by
   obtain⟨h3,h4,h5⟩:=z.lv i g hi (cM i li) (back i g J);refine⟨h3,fun h=>h.elim h4 fun h=>?_,h5⟩;have:=z.dj i id g hi trivial (cM i li) Z (back i g J) (OU g h);subst this;have J:hasB w (ax s.h i (.row e ps) i) (rho i) g:=J;rw[ak]at J;exact YN g h (al rfl J)
  fr:=z.fr }⟩
end Go.AM
namespace Go.AM
open Go.RowKit
variable {A:jR}
theorem aY.Jl(hC:aL A.C)(s:AS)(d:Nat)(D:d<100000):aY A s ⟨(dH d s).t,ax (dH d s).h d (.fam [] [])⟩:=by
 intro S rho a w z;have I:=z.free d (.fam [] []);have J:=I.jA hC d (.fam [] []) D (fun h=>h rfl) (ak _ _ _) w rfl rfl rfl (aC _) (fun _=>False) (fun _ _ _=>rfl) (fun _ h=>h.elim) (.tuple #[])
  (fun g N=>by
   rcases fN.1 N with h | ⟨m,O,cs,h,_⟩
   ·cases h
   ·simp at h) (fun T=>by
   refine⟨?_,⟨fun m g cs h=>by simp at h,fun m m' g O cs dB k h=>by simp at h,fun m n g cs h=>by cases h⟩⟩;rw[ak];rfl)
 exact⟨S,_,J.jF (fun _ _=>trivial) (fun k=>⟨fun _=>by by_cases e:k=d;exact .inr e;exact .inl e,fun _=>trivial⟩)⟩
variable {cs:List HC}
theorem mj{w:World}{g k:Nat}:hasB w (.aA cs) (.pointer (some ⟨g,0,none⟩)) k↔mE w cs g k:=by
 constructor
 ·rintro (h | ⟨J,I,h,z,c,D,m,j,y,u,N⟩ | ⟨e,es,I,a,j,u,h,_⟩ | ⟨l,out,m,I,J,h,_⟩)
  ·injection h with h;exact .inl h.symm
  ·injection h with h;subst h;injection z with z;subst z;exact .inr ⟨c,D,m,j,y,u,N⟩
  ·cases h
  cases h
 rintro (h | ⟨c,D,m,j,y,u,h⟩)
 ·exact .inl (by rw[h];rfl)
 exact .inr (.inl ⟨cs,g,rfl,rfl,c,D,m,j,y,u,h⟩)
variable {l:List (Nat×List HC)}
theorem aY.zJ(hC:aL A.C)(s:AS)(F d j m:Nat){g:Nat}(hd:d<100000)(V:F≠d)(hF:s.h F=.fam l [])(hm:l[m]?=some (g,cs))(hj:s.t j=.p (.im (.pointer (some ⟨g,0,none⟩)))):
  aY A s ⟨ax (dH d s).t j (.bx d 0),ax (ax (dH d s).h F (.fam l [(m,some d)])) d (.aA cs)⟩:=by
 intro S rho a w sim;have gQ:=sim.free d (.aA cs);have Nf:ax (dH d s).h d (.aA cs) F=.fam l []:=by
  rw[au _ _ V];show ax (fun k=>qX d (s.h k)) d AB.none F=_;rw[au _ _ V,hF];rfl
 have RG:ax (dH d s).h d (.aA cs) d=.aA cs:=ak _ _ _;have hh:=gQ.hp F V;have hh:cd S w A.C.P (fun k=>k≠d) rho (ax (dH d s).h d (.aA cs)) F (ax (dH d s).h d (.aA cs) F):=hh;rw[Nf]at hh;obtain⟨hb,hR⟩:=hh;have pH:∀m,qA [] m:=fun m p hp=>by cases hp
 obtain⟨ty,c,hB⟩:=hR.mem m g cs hm (pH m);have lF:(ax (dH d s).h d (.aA cs) F).live:=by rw[Nf];trivial
 have zK:ax (ax (dH d s).h F (.fam l [(m,some d)])) d (.aA cs) F=.fam l [(m,some d)]:=by rw[au _ _ V,ak]
 have um:ax (ax (dH d s).h F (.fam l [(m,some d)])) d (.aA cs) d=.aA cs:=ak _ _ _;have Yg:∀i,i≠F->i≠d->ax (ax (dH d s).h F (.fam l [(m,some d)])) d (.aA cs) i=ax (dH d s).h d (.aA cs) i:=fun i Z U=>by rw[au _ _ U,au _ _ Z,au _ _ U]
 have P9:∀D I J k,l[D]?=some (I,J)->mE w J I k->hasB w (ax (dH d s).h d (.aA cs) F) (rho F) k:=fun D I J k N O=>by rw[Nf];exact fN.2 (.inr ⟨D,I,J,N,pH D,O⟩)
 have EJ:∀k,hasB w (.fam l [(m,some d)]) (rho F) k->∃D I J,D≠m/\l[D]?=some (I,J)/\mE w J I k:=fun k Y=>by
  rcases fN.1 Y with h | ⟨D,I,J,N,O,h3⟩
  ·rw[hb]at h;cases h
  exact⟨D,I,J,fun e=>O (m,some d) dJ e.symm,N,h3⟩
 have rd:∀i,i≠d->ax rho d (.pointer (some ⟨g,0,none⟩)) i=rho i:=fun i z=>au _ _ z;have aJ:=gQ.od hC (L':=bk) (rho':=ax rho d (.pointer (some ⟨g,0,none⟩))) (h':=ax (ax (dH d s).h F (.fam l [(m,some d)])) d (.aA cs)) (w':=w) (fun i=>i=F\/i=d) (Fr.refl _ w)
  (fun i z=>by
   by_cases U:i=d
   ·subst U;exact⟨by show (ax (dH i s).h i (AB.aA cs) i).there;rw[RG];trivial,fun h=>(h rfl).elim⟩
   by_cases Z:i=F
   ·subst Z;exact⟨by show (ax (dH d s).h d (AB.aA cs) i).there;rw[Nf];trivial,fun h=>⟨trivial,rd i U⟩⟩
   rw[Yg i Z U]at z;exact⟨z,fun h=>⟨trivial,rd i U⟩⟩)
  (fun i e z=>by
   by_cases U:i=d
   ·subst U;rw[um]at z;cases z
   by_cases Z:i=F
   ·subst Z;rw[zK]at z;cases z
   rw[Yg i Z U]at z;exact z)
  (fun i z=>⟨Yg i (fun e=>z (.inl e)) fun e=>z (.inr e),fun _ e=>z (.inr e),rd i fun e=>z (.inr e)⟩)
  (fun i z=>rd i (by omega))
  (fun T i z _=>by
   rcases z with rfl | rfl
   ·rw[zK];refine⟨by rw[rd i V];exact hb,fun D I J N O=>hR.mem D I J N (pH D),fun m1 m2 g1 g2 Ky kJ k a1 a2 _ _=>hR.dis m1 m2 g1 g2 Ky kJ k a1 a2 (pH m1) (pH m2),fun D n I J N O _=>?_⟩;rcases fL.1 N with N | N
    ·injection N with Z U;injection U with U;subst Z;subst U;rw[hm]at O;injection O with O;injection O with O nG;subst O;exact⟨trivial,ak _ _ _⟩
    cases N
   rw[um];exact⟨g,ty,c,ak _ _ _,hB⟩)
  (fun i k z _ _ Y=>by
   rcases z with rfl | rfl
   ·rw[zK,rd i V]at Y;obtain⟨D,I,J,_,N,O⟩:=EJ k Y;have iR:=P9 D I J k N O;exact⟨(gQ.lv i k V lF iR).1,.inr ⟨i,.inl rfl,V,lF,iR⟩⟩
   rw[um,ak]at Y;have iR:=P9 m g cs k hm (mj.1 Y);exact⟨(gQ.lv F k V lF iR).1,.inr ⟨F,.inl rfl,V,lF,iR⟩⟩)
  (fun i i' k z mI _ _ _ _ Y mF=>by
   have no:hasB w (.fam l [(m,some d)]) (rho F) k->hasB w (.aA cs) (.pointer (some ⟨g,0,none⟩)) k->False:=fun N O=>by
    obtain⟨D,I,J,bO,h3,h4⟩:=EJ k N;exact bO (hR.dis D m I g J cs k h3 hm (pH _) (pH _) h4 (mj.1 O))
   rcases z with rfl | rfl<;>rcases mI with rfl | rfl
   ·rfl
   ·rw[zK,rd _ V]at Y;rw[um,ak]at mF;exact (no Y mF).elim
   ·rw[um,ak]at Y;rw[zK,rd _ V]at mF;exact (no mF Y).elim
   rfl)
 refine⟨S,_,{ aJ with tm:=fun i _=>?_ }⟩;show aE _ _ _ _ _ _ (ax (dH d s).t j (.bx d 0) i) _;by_cases e:i=j
 ·subst e;rw[ak];have hx:=sim.tm i trivial;rw[hj]at hx;rw[hx.bc];exact .bx d 0 _ fun _=>⟨trivial,g,ak _ _ _,rfl⟩
 rw[au _ _ e];exact aJ.tm i trivial
theorem aY.sr(hC:aL A.C)(s:AS)(F d m:Nat){g:Nat}{Z:List HC}(hF:s.h F=.fam l [(m,some d)])(hd:s.h d=.aA Z)(hm:l[m]?=some (g,cs)):
  aY A s ⟨s.t,ax (ax s.h d .none) F (.fam (l.set m (g,Z)) [])⟩:=by
 intro S rho a w U;have vR:F≠d:=fun e=>by rw[e,hd]at hF;cases hF
 have lF:(s.h F).live:=by rw[hF];trivial
 have ld:(s.h d).live:=by rw[hd];trivial
 have hh:=U.hp F trivial;rw[hF]at hh;obtain⟨hb,hR⟩:=hh;have L3:=U.hp d trivial;rw[hd]at L3;obtain⟨J,ty,c,k1,hB⟩:=L3;have k2:=(hR.out m d g cs dJ hm (by rw[hd];trivial)).2;rw[k2]at k1;injection k1 with k1;injection k1 with k1;injection k1 with k1;subst k1;have pH:∀m,qA [] m:=fun m p hp=>by cases hp
 have GC:∀D,D≠m->qA [(m,some d)] D:=fun D h p hp=>by
  rcases fL.1 hp with e | e
  ·subst e;exact fun e=>h e.symm
  cases e
 have zK:ax (ax s.h d .none) F (.fam (l.set m (g,Z)) []) F=.fam (l.set m (g,Z)) []:=ak _ _ _;have um:ax (ax s.h d .none) F (.fam (l.set m (g,Z)) []) d=.none:=by rw[au _ _ vR.symm,ak]
 have Yg:∀i,i≠F->i≠d->ax (ax s.h d .none) F (.fam (l.set m (g,Z)) []) i=s.h i:=fun i N O=>by rw[au _ _ N,au _ _ O]
 have zL:∀k,mE w Z g k->hasB w (s.h d) (rho d) k:=fun k h=>by rw[hd,k2];exact mj.2 h
 have Cv:∀D J I k,D≠m->l[D]?=some (J,I)->mE w I J k->hasB w (s.h F) (rho F) k:=fun D J I k h V h2=>by rw[hF];exact fN.2 (.inr ⟨D,J,I,V,GC D h,h2⟩)
 have Y:∀D J I k,D≠m->l[D]?=some (J,I)->mE w I J k->mE w Z g k->False:=fun D J I k h V h2 h3=>vR (U.dj F d k trivial trivial lF ld (Cv D J I k h V h2) (zL k h3));have aJ:=U.od hC (L':=bk) (rho':=rho) (h':=ax (ax s.h d .none) F (.fam (l.set m (g,Z)) [])) (w':=w) (fun i=>i=F\/i=d) (Fr.refl _ w)
  (fun i z=>by
   by_cases N:i=F
   ·subst N;exact⟨by rw[hF];trivial,fun h=>⟨trivial,rfl⟩⟩
   by_cases O:i=d
   ·subst O;rw[um]at z;exact z.elim
   rw[Yg i N O]at z;exact⟨z,fun h=>⟨trivial,rfl⟩⟩)
  (fun i e z=>by
   by_cases N:i=F
   ·subst N;rw[zK]at z;cases z
   by_cases O:i=d
   ·subst O;rw[um]at z;cases z
   rw[Yg i N O]at z;exact z)
  (fun i z=>⟨Yg i (fun e=>z (.inl e)) fun e=>z (.inr e),fun _=>trivial,rfl⟩)
  (fun i z=>rfl)
  (fun T i z _=>by
   rcases z with rfl | rfl
   ·rw[zK];refine⟨hb,fun D J I V _=>?_,fun m1 m2 g1 g2 Ky I k a1 a2 _ _ b1 b2=>?_,fun D n J I V=>by cases V⟩
    ·rcases ey V with⟨rfl,e,_⟩ | ⟨bO,V⟩
     ·injection e with N O;subst N;subst O;exact⟨ty,c,hB⟩
     exact hR.mem D J I V (GC D bO)
    rcases ey a1 with⟨N,e,_⟩ | ⟨M4,z1⟩<;>rcases ey a2 with⟨O,f,_⟩ | ⟨xi,z2⟩
    ·rw[N,O]
    ·injection e with e3 e4;subst e3;subst e4;exact (Y _ _ _ k xi z2 b2 b1).elim
    ·injection f with e3 e4;subst e3;subst e4;exact (Y _ _ _ k M4 z1 b1 b2).elim
    exact hR.dis m1 m2 g1 g2 Ky I k z1 z2 (GC _ M4) (GC _ xi) b1 b2
   rw[um];trivial)
  (fun i k z _ li hk=>by
   rcases z with rfl | rfl
   ·rw[zK]at hk;rcases fN.1 hk with h | ⟨D,J,I,V,_,h3⟩
    ·rw[hb]at h;cases h
    rcases ey V with⟨rfl,e,_⟩ | ⟨bO,V⟩
    ·injection e with N O;subst N;subst O;exact⟨(U.lv d k trivial ld (zL k h3)).1,.inr ⟨d,.inr rfl,trivial,ld,zL k h3⟩⟩
    have iR:=Cv D J I k bO V h3;exact⟨(U.lv _ k trivial lF iR).1,.inr ⟨_,.inl rfl,trivial,lF,iR⟩⟩
   rw[um]at li;exact li.elim)
  (fun i i' k z mI _ _ li fE hk mF=>by
   have N:i=F:=z.resolve_right fun e=>by subst e;rw[um]at li;exact li
   have O:i'=F:=mI.resolve_right fun e=>by subst e;rw[um]at fE;exact fE
   rw[N,O])
 exact⟨S,_,aJ⟩
theorem Seen.Jm(hC:aL A.C)(s:AS)(F d R i j:Nat){e:TypeId}{es:List (List HX)}{r:List HX}{G:AS->Prop}(hF:s.h F=.fam l [])(hd:s.h d=.aA cs)(Z:s.h R=.ai e es)(hi:es[i]?=some r)(hj:r[j]?=some (.av (.bx d 0)))
  (h:∀g,G ⟨s.t,ax (ax (ax s.h d .none) F (.fam (l++[(g,cs)]) [])) R (.ai e (es.set i (r.set j (.av (.p (.im (.pointer (some ⟨g,0,none⟩))))))))⟩):Seen A s G:=by
 intro S rho a w D;have vR:F≠d:=fun e=>by rw[e,hd]at hF;cases hF
 have P_:R≠d:=fun e=>by rw[e,hd]at Z;cases Z
 have Qa:R≠F:=fun e=>by rw[e,hF]at Z;cases Z
 have lF:(s.h F).live:=by rw[hF];trivial
 have ld:(s.h d).live:=by rw[hd];trivial
 have lR:(s.h R).live:=by rw[Z];trivial
 have hh:=D.hp F trivial;rw[hF]at hh;obtain⟨hb,hM⟩:=hh;have L3:=D.hp d trivial;rw[hd]at L3;obtain⟨g,ty,c,k1,hB⟩:=L3;have Qb:=D.hp R trivial;rw[Z]at Qb;obtain⟨ai,L4⟩:=Qb;have pH:∀m,qA [] m:=fun m p hp=>by cases hp
 obtain⟨bW,EK⟩:∃bW,bW=es.set i (r.set j (.av (.p (.im (.pointer (some ⟨g,0,none⟩)))))):=⟨_,rfl⟩;obtain⟨h',wK⟩:∃h':Nat->AB,h'=ax (ax (ax s.h d .none) F (.fam (l++[(g,cs)]) [])) R (.ai e bW):=⟨_,rfl⟩;have L5:h' R=.ai e bW:=by rw[wK,ak]
 have zK:h' F=.fam (l++[(g,cs)]) []:=by rw[wK,au _ _ Qa.symm,ak]
 have um:h' d=.none:=by rw[wK,au _ _ P_.symm,au _ _ vR.symm,ak]
 have Yg:∀k,k≠F->k≠d->k≠R->h' k=s.h k:=fun k V Y e3=>by rw[wK,au _ _ e3,au _ _ V,au _ _ Y]
 have zL:∀k,mE w cs g k->hasB w (s.h d) (rho d) k:=fun k h=>by rw[hd,k1];exact mj.2 h
 have Cv:∀I N J k,l[I]?=some (N,J)->mE w J N k->hasB w (s.h F) (rho F) k:=fun I N J k O h2=>by rw[hF];exact fN.2 (.inr ⟨I,N,J,O,pH I,h2⟩)
 have new:∀I N J,(l++[(g,cs)])[I]?=some (N,J)->(I < l.length/\l[I]?=some (N,J))\/(I=l.length/\N=g/\J=cs):=fun I N J hm=>by
  by_cases dv:I < l.length
  ·rw[ba dv]at hm;exact .inl ⟨dv,hm⟩
  rw[bd (by omega)]at hm;have:I - l.length=0:=by
   have:=ah hm;simp at this;omega
  rw[this]at hm;simp at hm;exact .inr ⟨by omega,hm.1.symm,hm.2.symm⟩
 have EJ:∀k,hasB w (.fam (l++[(g,cs)]) []) (rho F) k->hasB w (s.h F) (rho F) k\/hasB w (s.h d) (rho d) k:=fun k z=>by
  rcases fN.1 z with h | ⟨I,N,J,O,_,h3⟩
  ·rw[hb]at h;cases h
  rcases new I N J O with⟨_,O⟩ | ⟨_,rfl,rfl⟩
  ·exact .inl (Cv I N J k O h3)
  exact .inr (zL k h3)
 have cc:∀g0 a b u,bI w bW g0 a b u->bI w es g0 a b u:=fun g0 a b u ⟨r1,V,IV,c1,N9,m1,q1,q2,q3,q4⟩=>by
  rw[EK]at q1;rcases ey q1 with⟨rfl,rfl,_⟩ | ⟨_,q1⟩
  ·rw[cu]at q4;rcases ey q2 with⟨_,Y,_⟩ | ⟨_,q2⟩
   ·cases Y
   exact⟨r,V,IV,c1,N9,m1,hi,q2,q3,q4⟩
  exact⟨r1,V,IV,c1,N9,m1,q1,q2,q3,q4⟩
 have L6:∀k,hasB w (.ai e bW) (rho R) k->hasB w (s.h R) (rho R) k:=fun k z=>by
  rw[Z];rcases bN.1 z with h | ⟨g0,a,b,u,O,h2,h3⟩
  ·exact .inl h
  exact bN.2 (.inr ⟨g0,a,b,u,O,cc _ _ _ _ h2,h3⟩)
 have aJ:=D.od hC (L':=bk) (rho':=rho) (h':=h') (w':=w) (fun k=>k=F\/k=d\/k=R) (Fr.refl _ w)
  (fun k z=>by
   by_cases V:k=F
   ·subst V;exact⟨by rw[hF];trivial,fun h=>⟨trivial,rfl⟩⟩
   by_cases Y:k=d
   ·subst Y;rw[um]at z;exact z.elim
   by_cases e3:k=R
   ·subst e3;exact⟨by rw[Z];trivial,fun h=>⟨trivial,rfl⟩⟩
   rw[Yg k V Y e3]at z;exact⟨z,fun h=>⟨trivial,rfl⟩⟩)
  (fun k e' z=>by
   by_cases V:k=F
   ·subst V;rw[zK]at z;cases z
   by_cases Y:k=d
   ·subst Y;rw[um]at z;cases z
   by_cases e3:k=R
   ·subst e3;rw[L5]at z;rw[Z];exact z
   rw[Yg k V Y e3]at z;exact z)
  (fun k z=>⟨Yg k (fun e=>z (.inl e)) (fun e=>z (.inr (.inl e))) fun e=>z (.inr (.inr e)),fun _=>trivial,rfl⟩)
  (fun k z=>rfl)
  (fun T k z _=>by
   rcases z with rfl | rfl | rfl
   ·rw[zK];refine⟨hb,fun I N J O _=>?_,fun m1 m2 g1 g2 Ky J k a1 a2 _ _ b1 b2=>?_,fun I n N J O=>by cases O⟩
    ·rcases new I N J O with⟨_,O⟩ | ⟨_,rfl,rfl⟩
     ·exact hM.mem I N J O (pH I)
     exact⟨ty,c,hB⟩
    rcases new m1 g1 Ky a1 with⟨_,z1⟩ | ⟨V,f1,RH⟩<;>rcases new m2 g2 J a2 with⟨_,z2⟩ | ⟨Y,f2,RI⟩
    ·exact hM.dis m1 m2 g1 g2 Ky J k z1 z2 (pH _) (pH _) b1 b2
    ·subst f2;subst RI;exact (vR (D.dj _ d k trivial trivial lF ld (Cv _ _ _ k z1 b1) (zL k b2))).elim
    ·subst f1;subst RH;exact (vR (D.dj _ d k trivial trivial lF ld (Cv _ _ _ k z2 b2) (zL k b1))).elim
    rw[V,Y]
   ·rw[um];trivial
   rw[L5];refine⟨?_,fun g0 a b u k hg hc z=>L4.top g0 a b u k hg (cc _ _ _ _ hc) z,fun g0 a b a' b' u u' k hg hc Fx=>L4.dis g0 a b a' b' u u' k hg (cc _ _ _ _ hc) (cc _ _ _ _ Fx)⟩;obtain⟨i0,xs,q1,q2,q3,q4,q5,q6⟩:=ai;refine⟨i0,xs,q1,q2,by rw[EK,cu];exact q3,fun r1 FA=>?_,q5,fun a r1 b x ha U=>?_⟩
   ·rw[EK]at FA;rcases nJ FA with h | h
    ·exact q4 r1 h
    rw[h,cu];exact q4 r (aj hi)
   have keep:∀x u,iY S w A.C.P bk rho s.h x u->iY S w A.C.P bk rho h' x u:=fun x u hx=>by
    cases x with
    | av x=>exact aE.bA T hx
    | row e' kS=>exact hx
   rw[EK]at ha;rcases ey ha with⟨rfl,rfl,_⟩ | ⟨_,ha⟩
   ·rcases ey U with⟨rfl,rfl,_⟩ | ⟨_,U⟩
    ·obtain⟨u,hu,jb⟩:=q6 _ _ _ _ hi hj;refine⟨u,hu,?_⟩;have jb:aE S w A.C.P bk rho s.h (.bx d 0) u:=jb;obtain⟨_,g2,g3,g4⟩:=jb.dt (by rw[hd];trivial);rw[k1]at g3;injection g3 with g3;injection g3 with g3;injection g3 with g3;subst g3;rw[g4];exact .p _ _ (.im _)
    obtain⟨u,hu,jb⟩:=q6 _ _ _ _ hi U;exact⟨u,hu,keep _ _ jb⟩
   obtain⟨u,hu,jb⟩:=q6 _ _ _ _ ha U;exact⟨u,hu,keep _ _ jb⟩)
  (fun k b z _ li U=>by
   rcases z with rfl | rfl | rfl
   ·rw[zK]at U;rcases EJ b U with h | h
    ·exact⟨(D.lv _ b trivial lF h).1,.inr ⟨_,.inl rfl,trivial,lF,h⟩⟩
    exact⟨(D.lv _ b trivial ld h).1,.inr ⟨_,.inr (.inl rfl),trivial,ld,h⟩⟩
   ·rw[um]at li;exact li.elim
   rw[L5]at U;have h:=L6 b U;exact⟨(D.lv _ b trivial lR h).1,.inr ⟨_,.inr (.inr rfl),trivial,lR,h⟩⟩)
  (fun k k' b z mF _ _ li fE U GD=>by
   have no:hasB w (.fam (l++[(g,cs)]) []) (rho F) b->hasB w (.ai e bW) (rho R) b->False:=fun O h2=>by
    have h2:=L6 b h2;rcases EJ b O with h | h
    ·exact Qa (D.dj _ _ b trivial trivial lR lF h2 h)
    exact P_ (D.dj _ _ b trivial trivial lR ld h2 h)
   rcases z with rfl | rfl | rfl
   ·rcases mF with rfl | rfl | rfl
    ·rfl
    ·rw[um]at fE;exact fE.elim
    rw[zK]at U;rw[L5]at GD;exact (no U GD).elim
   ·rw[um]at li;exact li.elim
   rcases mF with rfl | rfl | rfl
   ·rw[L5]at U;rw[zK]at GD;exact (no GD U).elim
   ·rw[um]at fE;exact fE.elim
   rfl)
 have hG:=h g;rw[<-EK,<-wK]at hG;exact⟨S,rho,_,aJ,hG⟩
theorem aY.Jn(hC:aL A.C)(s:AS)(id j m:Nat){mk:MK}{es:List (Value×PV)}(J:List (Value×Value))(cs:List AV)(hid:id≠m)(hb:s.h id=.box cs)(hn:cs[j]?=some (.ow m))(U:s.h m=.map mk es)(he:es=J.map Bz):
  aY A s ⟨s.t,ax (ax s.h m .none) id (.box (cs.set j (.p (.mp mk J))))⟩:=by
 subst he;intro S rho a w z;have Y:=z.BE hC m trivial U;have Z:ax s.h m .none id=.box cs:=by rw[au _ _ hid];exact hb
 have aN:(ax s.h m AB.none id).live:=by rw[Z];trivial
 have hh:=z.hp m trivial;rw[U]at hh;obtain⟨g,ms,D,h1,h2,h3,h4,h5⟩:=ph hh;have aA:=z.hp id trivial;rw[hb]at aA;obtain⟨gb,ty,c,b1,b2,b3,b4⟩:=aA;have N:=Y.hp id trivial;have N:cd _ w A.C.P bk rho (ax s.h m .none) id (ax s.h m .none id):=N;rw[Z]at N;obtain⟨RJ,KX,c',d1,I,d3,d4⟩:=N;refine⟨_,rho,Y.write hC id trivial aN (.box (cs.set j (.p (.mp mk J)))) (fun _ h=>by cases h) w rfl rfl rfl rfl (fun _ _=>rfl) fun T=>?_⟩;refine⟨RJ,KX,c',d1,I,by rw[cu];exact d3,fun k x u O V=>?_⟩;rcases ey O with⟨rfl,rfl,_⟩ | ⟨hk,O⟩
 ·have hc:c'=c:=by
   rw[b1]at d1;injection d1 with d1;injection d1 with d1;injection d1 with d1;subst d1;rw[b2]at I;injection I with I;injection I with I;exact I.symm
  subst hc;obtain⟨o1,l1⟩:=b4 k _ u hn V;have hv:=(l1.bu (by rw[U];trivial)).2;refine⟨o1,?_⟩;rw[hv,h1];refine .p _ _ (.mp mk J g ms D (.inr rfl) h2 ⟨by rw[h3,ct],fun i p mm hp BR=>?_,h5⟩);obtain⟨e1,e2,e3⟩:=h4 i (Bz p) mm (by rw[ao,hp];rfl) BR;exact⟨e1,e2,e3.bc⟩
 exact⟨(d4 k x u O V).1,(d4 k x u O V).2.bA T⟩
theorem aY.L7{A:jR}(hC:aL A.C)(s:AS)(id n:Nat){e e':TypeId}{D:TI}(hb:s.h id=.ai e (List.replicate n [.av .nl]))(I:A.C.T e'=some D)(z:0<D.size):aY A s ⟨s.t,ax s.h id (.ai e (List.replicate n [.row e' []]))⟩:=by
 have key:∀k,k<=n->aY A s ⟨s.t,ax s.h id (.ai e (List.replicate k [.row e' []]++List.replicate (n-k) [.av .nl]))⟩:=fun k=>by
  induction k with
  | zero=>
   intro _;have:ax s.h id (.ai e (List.replicate 0 [.row e' []]++List.replicate (n-0) [.av .nl]))=s.h:=eX _ _ _ (by rw[hb];simp);rw[this];exact aY.refl _ _
  | succ k ih=>
   intro hk;refine (ih (by omega)).trans ?_;have J:(List.replicate k [HX.row e' []]++List.replicate (n-k) [HX.av .nl])[k]?=some [HX.av .nl]:=by
    rw[bd (by simp),uX,gX,ig,qH (by omega)]
   have:=aY.OT hC (A:=A) ⟨s.t,ax s.h id (.ai e (List.replicate k [.row e' []]++List.replicate (n-k) [.av .nl]))⟩ id k 0 (e':=e') (ak _ _ _) J rfl I z;have N:(List.replicate k [HX.row e' []]++List.replicate (n-k) [HX.av .nl]).set k [HX.row e' []]=List.replicate (k+1) [HX.row e' []]++List.replicate (n-(k+1)) [HX.av .nl]:=by
    rw[gG _ _ (by simp)];simp only[uX,gX];rw[show n-k=(n-(k+1))+1 by omega,ij,ik,List.replicate_succ' (n:=k),bR];rfl
   have O:∀(f:Nat->AB) (x y:AB),ax (ax f id x) id y=ax f id y:=fun f x y=>by
    funext i;by_cases e:i=id
    ·subst e;rw[ak,ak]
    rw[au _ _ e,au _ _ e,au _ _ e]
   simp only[ik,N,O]at this;exact this
 have:=key n (aC _);simp only[gX,List.replicate_zero,fK]at this;exact this
theorem aY.Cw(hC:aL A.C)(s:AS)(k id D:Nat){c0:Array Value}{ty:TypeId}{e:TypeId}{es:List (List PV)}(hid:id<100000)(I:s.h k=.cell c0 ty (.vw id 0 D))(U:s.h id=.row e es):
  aY A s ⟨(dH id s).t,ax (ax (dH id s).h id (.row e (es.take D))) k (.cell c0 ty (.ow id))⟩:=by
 intro S rho a w z;have aN:(s.h id).live:=by rw[U];trivial
 have V:=z.hp id trivial;rw[U]at V;have V:an A.C.P w (ay S w) e es (rho id):=V;have L8:k≠id:=fun e=>by rw[e,U]at I;cases I
 have Dz:=z.hp k trivial;rw[I]at Dz;obtain⟨g0,OV,v,w1,w2,w3,w4,ht⟩:=Dz;have RL:∃n c N,rho id=.slice N n c/\D<=n/\v=.slice N D c:=by
  cases ht with
  | vw _ _ _ _ q=>
   obtain⟨_,n,c,N,ti,Y,_,_,q3,q4,Z⟩:=q e (by rw[U];rfl);refine⟨n,c,N,Y,q3,?_⟩;rw[Z];cases N with
   | none=>simp
   | some x=>simp[Addr.add]
 obtain⟨n,c,N,Y,q3,Z⟩:=RL;have J:∀g,bH v=some g->bH (rho id)=some g:=fun g O=>by
  rw[Z]at O;rw[Y];cases N<;>exact O
 have ho:∀k,k≠id->ax (dH id s).h id (.row e (es.take D)) k=qX id (s.h k):=fun k I=>by rw[au _ _ I];show ax (fun k=>qX id (s.h k)) id AB.none k=_;rw[au _ _ I]
 have gQ:=z.free id (.row e (es.take D));have aJ:=gQ.new hC id (.row e (es.take D)) hid (fun h=>h rfl) (ak _ _ _) w rfl rfl rfl (aC _) (fun k=>bH (rho id)=some k) (fun _ _ _=>rfl) (fun k I=>by
  obtain⟨l1,l2,l3⟩:=z.mO id k trivial aN I;refine⟨l2,fun i mI li hb=>?_,l3⟩;have li:(ax (dH id s).h id (.row e (es.take D)) i).live:=li;have hb:hasB w (ax (dH id s).h id (.row e (es.take D)) i) (rho i) k:=hb;rw[ho i mI,oq]at li;rw[ho i mI,qY]at hb;exact mI (z.dj i id k trivial trivial li aN hb (C_ I))) v (fun g O=>⟨(z.mO id g trivial aN (J g O)).1,.inr (J g O)⟩) fun T=>by
   show an _ _ _ _ _ (ax rho id _ id);rw[ak];exact an.front V Y q3 Z
 have cF:aU A bk bk S (ax rho id v) ⟨(dH id s).t,ax (dH id s).h id (.row e (es.take D))⟩ a w:=aJ.jF (fun _ _=>trivial) (fun k=>⟨fun _=>by by_cases e:k=id;exact .inr e;exact .inl e,fun _=>trivial⟩);have N6:(ax (dH id s).h id (.row e (es.take D)) k).live:=by rw[ho k L8,I];trivial
 exact⟨S,_,cF.write hC k trivial N6 (.cell c0 ty (.ow id)) (fun _ h=>by cases h) w rfl rfl rfl rfl (fun _ _=>rfl) fun T=>
  ⟨g0,OV,v,by rw[au _ _ L8];exact w1,w2,w3,w4,.ow id _ fun _=>⟨trivial,(ak _ _ _).symm⟩⟩⟩
end Go.AM
namespace Go.AM
open Go.RowKit
theorem iL{C:Ctx}{o:Oper}{rho:Operand->AV}{h:Nat->AB}{K K':KK}(z:∀v e n,K v e n->K' v e n)(D:aZ C o rho h K):aZ C o rho h K':=by
 obtain⟨v,e,n,I,J⟩:=l6 (fun _=>.inr rfl) D;exact J _ (z _ _ _ I)
variable {K':AS->Prop} {s:AS}
theorem zM{C:Ctx}{o:Oper}{K:AS->Prop}(D:∀s,K s->K' s)(z:rY C o K s):rY C o K' s:=by
 unfold rY at z ⊢;split at z
 ·exact iL (fun v e n h=>D _ h) z
 split at z
 ·split at z
  ·split at z
   ·split at z<;>exact D _ z
   ·split at z<;>exact D _ z
   exact D _ z
  exact D _ z
 ·unfold AQ at z ⊢;split at z
  ·split at z
   ·exact⟨fun h=>D _ (z.1 h),fun i p k' I J=>D _ (z.2 i p k' I J)⟩
   exact z.elim
  exact z.elim
 refine iL (fun v e n h=>?_) z;cases n with
 | none=>exact D _ h
 | some b=>exact h
theorem qp{C:Ctx}{f:FuncId}{cT:List AV}{d:Option Tmp}{K:AS->Prop}(z:∀s,K s->K' s)(D:pr C f cT d K s):pr C f cT d K' s:=by
 obtain⟨mp,args,bX,r,fin,I,J,N⟩:=D;exact⟨mp,args,bX,r,fin,I,J,z _ N⟩
theorem GF{C:Ctx}{o:Oper}{K:AS->Prop}(D:∀s,K s->K' s)(z:nS C o K s):nS C o K' s:=by
 unfold nS at z ⊢;split at z
 ·split at z
  ·split at z
   ·split at z
    ·obtain⟨f,d,I,J⟩:=z;exact⟨f,d,I,qp D J⟩
    exact z
   exact z
  ·split at z
   ·exact qp D z
   exact z
  exact z
 exact z
theorem pI{C:Ctx}{o:Oper}{K:AS->Prop}(D:∀s,K s->K' s)(z:step C o K s):step C o K' s:=by
 unfold step at z ⊢;split at z
 ·exact⟨D _ z.1,D _ z.2⟩
 split at z
 ·rename_i hn;exact GF D z
 exact zM D z
theorem kh{b:Bool}{p q z D:Prop}(I:p->z)(J:q->D)(h:kF b p q):kF b z D:=by
 cases b<;>simp only[kF]at h ⊢
 ·exact J h
 exact I h
theorem Cx{C:Ctx}{all:List Oper}{K:AS->Prop}(z:∀s,K s->K' s):∀(l:List Oper) (s:AS),kO C all l K s->kO C all l K' s:=by
 intro l
 induction l with
 | nil=>intro s h;exact z _ h
 | cons o l ih=>
  intro s h;unfold kO at h ⊢;split at h
  ·exact pI ih h
  split at h
  ·exact h.elim
  split at h
  ·exact h.elim
  split at h
  ·rename_i want _ _ _ _ _ _ _;refine kh (fun h=>?_) (fun h=>?_) h
   ·split at h
    ·exact pI ih h
    exact ih _ h
   split at h
   ·exact pI ih h
   exact ih _ h
  ·exact ih _ h
  exact h.elim
theorem nx{C:Ctx}{ap f:Bool}{X:List Nat}{o:Oper}{K:AS->Prop}(D:∀s,K s->K' s)(z:mT C ap X f o K s):mT C ap X f o K' s:=by
 unfold mT at z ⊢;split at z
 ·refine iL (fun v e n h=>?_) z;split at h
  ·exact h
  split at h
  ·split at h
   ·exact D _ h
   exact h
  split at h
  ·exact D _ h
  exact h
 exact z
theorem Cy{C:Ctx}{ap:Bool}{X:List Nat}{all:List Oper}{K:AS->Prop}(D:∀s,K s->K' s):∀(l:List Oper) (z:List Bool) (s:AS),kg C ap X all z l K s->kg C ap X all z l K' s:=by
 intro l
 induction l with
 | nil=>intro z s h;cases z<;>exact D _ h
 | cons o l ih=>
  intro z s h;cases z with
  | nil=>exact h
  | cons f z=>
  unfold kg at h ⊢;split at h
  ·exact nx (ih z) h
  split at h
  ·exact h.elim
  split at h
  ·exact h.elim
  split at h
  ·refine kh (fun h=>?_) (fun h=>?_) h
   ·split at h
    ·exact nx (ih z) h
    exact ih z _ h
   split at h
   ·exact nx (ih z) h
   exact ih z _ h
  ·exact ih z _ h
  exact h.elim
theorem pJ{f z:AS->Prop}{K K':Exit->AS->Prop}(D:∀s,f s->z s)(I:∀e s,K e s->K' e s):∀e s,kG f K e s->kG z K' e s:=by
 intro e s h;cases e<;>first | exact D _ h | exact I _ _ h
theorem ss{id:Nat}{K K':Exit->AS->Prop}(z:∀e s,K e s->K' e s):∀e s,ui id K e s->ui id K' e s:=by
 intro e s h;cases e<;>first | exact z _ _ h | exact kh (z _ _) (z _ _) h
variable {A:jR}
theorem lE:∀(c:Code) (K K':Exit->AS->Prop) (s:AS),(∀e s,K e s->K' e s)->ta A c K s->ta A c K' s:=by
 intro c
 induction c with
 | skip=>intro K K' s z h;exact z _ _ h
 | region id ops draw=>
  intro K K' s z h;cases draw with
  | false=>exact Cx (z _) _ _ h
  | true=>obtain⟨X,h⟩:=h;exact⟨X,Cy (fun _ h=>z _ _ h) _ _ _ h⟩
 | seq a b D J=>intro K K' s z h;exact D _ _ _ (pJ (fun s h=>Seen.mono (fun s2 N=>J _ _ _ z N) h) z) h
 | cond c a b D J=>
  intro K K' s z h;simp only[ta]at h ⊢;split at h
  ·exact kh (D _ _ _ z) (J _ _ _ z) h
  exact h
 | block id c ih=>intro K K' s z h;exact ih _ _ _ (ss z) h
 | loop c ih=>
  intro K K' s z h;obtain⟨α,I,m,h0,O⟩:=h;exact⟨α,I,m,h0,fun x s U=>ih _ _ _ (pJ (fun _ h=>h) z) (O x s U)⟩
 | exit id=>intro K K' s z h;exact z _ _ h
 | ret=>intro K K' s z h;exact z _ _ h
 | rangeFunc=>intro K K' s _ h;exact h.elim
 | scope=>intro K K' s _ h;exact h.elim
 | label=>intro K K' s _ h;exact h.elim
 | goto=>intro K K' s _ h;exact h.elim
 | refuse=>intro K K' s _ h;exact h.elim
def su{α:Type}(R:α->Prop)(ts:α->List (Nat×AV))(hs:α->List (Nat×AB))(s:AS):Prop:=∃y,R y/\jH (ts y) s.t/\jH (hs y) s.h
variable {α:Type}
theorem su.go{R:α->Prop}{z:α->List (Nat×AV)}{hs:α->List (Nat×AB)}{f:AS->Prop}(D:∀y,R y->∀t h,f ⟨Tu (z y) t,Tu (hs y) h⟩)(h:su R z hs s):f s:=by
 obtain⟨y,I,J,N⟩:=h;have:=D y I s.t s.h
 rwa [oA _ _ J,oA _ _ N]at this
theorem cut{c:Code}{f:AS->Prop}{K:Exit->AS->Prop}(R:α->Prop)(z:α->List (Nat×AV))(hs:α->List (Nat×AB))
  (D:∀y,R y->∀t h,f ⟨Tu (z y) t,Tu (hs y) h⟩) (I:ta A c (kG (su R z hs) K) s):ta A c (kG f K) s:=
 lE c _ _ s (pJ (fun _ h=>h.go D) fun _ _ h=>h) I
theorem zN{R:α->Prop}{z:α->List (Nat×AV)}{hs:α->List (Nat×AB)}{K:Exit->AS->Prop}(D:∀y,R y->∀t h,K .normal ⟨Tu (z y) t,Tu (hs y) h⟩):∀e s,kG (su R z hs) K e s->K e s:=by
 intro e s h;cases e<;>first | exact h | exact su.go D h
theorem OW{c:Code}{id:Nat}{K:Exit->AS->Prop}(R:α->Prop)(z:α->List (Nat×AV))(hs:α->List (Nat×AB))
  (D:∀y,R y->∀t h,K .normal ⟨Tu (z y) t,Tu (hs y) h⟩) (I:ta A c (ui id (kG (su R z hs) K)) s):ta A c (ui id K) s:=
 lE c _ _ s (ss (zN D)) I
end Go.AM
namespace Go.AM
open Go.RowKit
def Cz(d:Nat)(t:Nat->AV)(j:Nat):AV:=sc d (t j)
def xN(d:Nat)(h:Nat->AB):Nat->AB:=ax (fun k=>qX d (h k)) d .none
def Qc(i d:Nat)(t:Nat->AV)(j:Nat):AV:=rn i d (t j)
def Qd(i d:Nat)(h:Nat->AB)(j:Nat):AB:=match bB j d with
 | true=>D5 i d (h i)
 | false=>match bB j i with
  | true=>.none
  | false=>D5 i d (h j)
def Va(o:Oper):Bool:=match o.op with
 | .assign _=>false
 | _=>true
def vS:AB->Bool
 | .row _ _=>true
 | .ai _ _=>true
 | _=>false
abbrev TP:=(Nat->AV)->(Nat->AB)->Prop
def SG(G:TP)(K:AS->Prop):Prop:=∀t h,G t h->K ⟨t,h⟩
def OX(G:TP)(t:Nat->AV)(h:Nat->AB)(d:Nat):AV->Prop
 | .p x=>G (ax t d (.p x)) h
 | .nl=>G (ax t d .nl) h
 | .ow i=>G (ax t d (.ow i)) h
 | .rp i j k=>G (ax t d (.rp i j k)) h
 | .bx i j=>G (ax t d (.bx i j)) h
 | .vw i j k=>G (ax t d (.vw i j k)) h
 | .fn f c=>G (ax t d (.fn f c)) h
 | .tu x=>G (ax t d (.tu x)) h
 | .st x=>G (ax t d (.st x)) h
 | .ifp y x=>G (ax t d (.ifp y x)) h
 | .junk=>G (ax t d .junk) h
def xO(G:TP)(t:Nat->AV)(d:Option Tmp)(v:AV):List (Nat×AB)->(Nat->AB)->Prop
 | (i,b)::r,h=>xO G t d v r (ax h i b)
 | [],h=>match d with
  | some d=>OX G t h d v
  | none=>G t h
def EL(d:Nat):AV->AV
 | .ow i=>match bB i d with
  | true=>.ow d
  | false=>.ow i
 | .bx i j=>match bB i d with
  | true=>.bx d j
  | false=>.bx i j
 | v=>v
theorem vT(d:Nat)(v:AV):EL d v=v:=by
 unfold EL;split
 ·split
  ·rename_i h;rw[aG.1 h]
  rfl
 ·split
  ·rename_i h;rw[aG.1 h]
  rfl
 rfl
def Qe(G:TP)(d:Option Tmp)(t:Nat->AV)(h:Nat->AB):KK:=fun v e n=>match n with
 | none=>xO G t d v e h
 | some _=>False
def Ng(G:TP)(d:Option Tmp)(dd:Nat)(t:Nat->AV)(h:Nat->AB):KK:=fun v e n=>match n with
 | none=>match m_ dd e with
  | true=>xO G t d v e h
  | false=>False
 | some b=>xO G t d (EL dd v) e (ax h dd b)
def Qf(G:TP)(t:Nat->AV)(h:Nat->AB)(d:Nat):AV->Prop
 | .ow i=>match vS (h i) with
  | false=>G (ax t d (.ow i)) h
  | true=>match bB i d with
   | true=>G (ax t d (.ow i)) h
   | false=>G (ax (Qc i d t) d (.ow d)) (Qd i d h)
 | v=>OX G t h d v
def EM(G:TP)(d:Option Tmp)(t:Nat->AV)(h:Nat->AB):AV->Prop
 | .bx id 0=>match h id with
  | .iter mk es k _=>(k=0->xO G t d (.tu [.p (.im (.bool false))]) [] h)/\∀(i:Nat) (p:Value×Value) (k':Nat),es[i]?=some p->k' < k->xO G t d (.tu [.p (.im (.bool true)),.p (.im p.1),.p (.im p.2)]) [] (ax h id (.iter mk es k' (some p)))
  | _=>False
 | _=>False
def OY(mp:List (Nat×Nat))(t:Nat->AV)(j:Nat):AV:=(t j).ez (mR mp)
def OZ(mp:List (Nat×Nat))(h:Nat->AB)(k:Nat):AB:=(h k).ez (mR mp)
def zO(C:Ctx)(f:FuncId)(cT:List AV)(d:Option Tmp)(G:TP)(t:Nat->AV)(h:Nat->AB):Prop:=
 ∃(mp:List (Nat×Nat)) (args:List AV) (bX:List (Nat×AB)) (r:AV) (fin:List (Nat×AB)),cR C f args bX r fin/\(M9 mp bX fin=true/\cT.map (AV.ez (rV mp))=args/\Gg mp bX h mp)/\
  xO G (OY mp t) d (r.ez (jE mp)) [] (xq mp fin mp (OZ mp h))
def nW(C:Ctx)(o:Oper)(G:TP)(t:Nat->AV)(h:Nat->AB):Prop:=match o.op with
 | .call c=>match c.callee with
  | .invoke r name=>match ev t r with
   | .ifp ty (.ow id)=>match h id with
    | .cell _ _ x=>∃f d,u9 C.P ty name f d/\zO C f (D3 d id x::c.args.toList.map (ev t)) o.dst G t h
    | _=>False
   | _=>False
  | .value g=>match g with
   | .func f=>zO C f (c.args.toList.map (ev t)) o.dst G t h
   | _=>False
  | _=>False
 | _=>False
def EN(C:Ctx)(o:Oper)(G:TP)(t:Nat->AV)(h:Nat->AB):Prop:=match Gi C o t with
 | true=>xO G t o.dst (.p (.im (.bool true))) [] h/\xO G t o.dst (.p (.im (.bool false))) [] h
 | false=>match nq C o with
  | true=>nW C o G t h
  | false=>match ly o.op with
  | true=>match o.dst with
   | some d=>aZ C o (ev (Cz d t)) (xN d h) (Ng G (some d) d (Cz d t) (xN d h))
   | none=>aZ C o (ev (Cz 0 t)) (xN 0 h) (Ng G none 0 (Cz 0 t) (xN 0 h))
  | false=>match o.op,o.dst with
   | .assign x,some d=>Qf G t h d (ev t x)
   | .next x false,d=>EM G d t h (ev t x)
   | _,d=>aZ C o (ev t) h (Qe G d t h)
def vU(all:List Oper)(o:Oper)(G1 G0:TP)(t:Nat->AV)(h:Nat->AB):Prop:=match o.guard with
 | none=>G1 t h
 | some (g,want)=>match all[g]? with
  | none=>False
  | some og=>match og.dst with
   | none=>False
   | some tg=>match t tg with
    | .p (.im (.bool b))=>@Bool.rec (fun _=>Prop)
     (match want with
      | false=>G1 (ax t tg (fP false)) h
      | true=>G0 (ax t tg (fP false)) h)
     (match want with
      | true=>G1 (ax t tg (fP true)) h
      | false=>G0 (ax t tg (fP true)) h) b
    | .p (.im (.tuple _))=>G0 t h
    | _=>False
def CA(C:Ctx)(all:List Oper):List Oper->TP->TP
 | [],G,t,h=>G t h
 | o::r,G,t,h=>vU all o (EN C o (CA C all r G)) (fun t h=>xO (CA C all r G) t o.dst mK [] h) t h
section
variable {G:TP} {K:AS->Prop} {t:Nat->AV} {h:Nat->AB} {d:Tmp} {C:Ctx} {o:Oper}
theorem A3(H:SG G K){v:AV}(q:OX G t h d v):K ⟨ax t d v,h⟩:=by cases v<;>exact H _ _ q
variable {d:Option Tmp}
theorem dm(H:SG G K){v:AV}:∀(e:List (Nat×AB)) {h:Nat->AB},xO G t d v e h->K ⟨cU t d v,app h e⟩
 | (i,b)::r,h,q=>dm H r (h:=ax h i b) q
 | [],h,q=>by cases d with
  | none=>exact H _ _ q
  | some d=>exact A3 H q
theorem uo(d:Nat)(h:Nat->AB):xN d h d=.none:=by unfold xN;rw[ak]
theorem A4(H:SG G K){z:Nat}{v:AV}{e:List (Nat×AB)}{n:Option AB}(h0:h z=.none)(q:Ng G d z t h v e n):K ⟨cU t d v,match n with
  | none=>ax (app h e) z .none
  | some b=>app (ax h z b) e⟩:=by
 unfold Ng at q;cases n with
 | none=>
  simp only at q ⊢;cases hn:m_ z e with
  | false=>rw[hn]at q;exact q.elim
  | true=>
   rw[hn]at q;have:ax (app h e) z .none=app h e:=eX _ _ _ ((iD (h:=h) hn).trans h0);rw[this];exact dm H e q
 | some b=>rw[vT]at q;exact dm H e q
theorem Uj(H:SG G K){f:FuncId}{cT:List AV}(q:zO C f cT d G t h):pr C f cT d K ⟨t,h⟩:=by
 obtain⟨mp,args,bX,r,fin,z,D,I⟩:=q;exact⟨mp,args,bX,r,fin,z,D,dm H [] I⟩
theorem Jo(H:SG G K)(q:nW C o G t h):nS C o K ⟨t,h⟩:=by
 unfold nW at q;unfold nS;split at q
 ·rename_i c D;simp only[D];split at q
  ·rename_i r name z;simp only[z];split at q
   ·rename_i ty id I;simp only[I];split at q
    ·rename_i c0 KX x J;simp only[J];obtain⟨f,d,N,O⟩:=q;exact⟨f,d,N,Uj H O⟩
    exact q.elim
   exact q.elim
  ·rename_i g z;simp only[z];split at q
   ·exact Uj H q
   exact q.elim
  exact q.elim
 exact q.elim
theorem uq(H:SG G K)(q:EN C o G t h):step C o K ⟨t,h⟩:=by
 unfold step;unfold EN at q;cases hn:Gi C o t with
 | true=>
  simp only[hn]at q ⊢;exact⟨dm H [] q.1,dm H [] q.2⟩
 | false=>
  simp only[hn]at q ⊢;cases O:nq C o with
  | true=>
   simp only[O]at q ⊢;exact Jo H q
  | false=>
  simp only[O]at q ⊢;unfold rY;cases hm:ly o.op with
  | true=>
   rw[hm]at q;simp only at q ⊢;cases I:o.dst with
   | some d=>
    rw[I]at q;exact iL (fun v e n z=>by
     have:=A4 H (uo _ _) z;cases n<;>exact this) q
   | none=>
    rw[I]at q;exact iL (fun v e n z=>by
     have:=A4 H (uo _ _) z;cases n<;>exact this) q
  | false=>
   rw[hm]at q;simp only at q ⊢;split
   ·rename_i x d D I;rw[D,I]at q;simp only at q;unfold Qf at q;split
    ·rename_i i J;rw[J]at q;simp only at q;cases hb:h i<;>rw[hb]at q<;>simp only[vS]at q ⊢<;>first | exact H _ _ q | (cases U:bB i d<;>rw[U]at q<;>exact H _ _ q)
    rename_i N;split at q
    ·rename_i i J;exact absurd J (N i)
    exact A3 H q
   ·rename_i x D;rw[D]at q;have q:EM G o.dst t h (ev t x):=q;unfold AQ;unfold EM at q;split at q
    ·rename_i id hid;simp only[hid];split at q
     ·rename_i mk es k c hit;simp only[hit];exact⟨fun h0=>dm H [] (q.1 h0),fun i p k' V Y=>dm H [] (q.2 i p k' V Y)⟩
     exact q.elim
    exact q.elim
   rename_i Z N;have z:aZ C o (ev t) h (Qe G o.dst t h):=by
    split at q
    ·rename_i x d D I;exact absurd I (N x d D)
    ·rename_i x D;exact absurd D (Z x)
    exact q
   exact iL (fun v e n z=>by cases n<;>first | exact dm H e z | exact z.elim) z
theorem xP{all:List Oper}(H:SG G K):∀(l:List Oper) {t:Nat->AV} {h:Nat->AB},CA C all l G t h->kO C all l K ⟨t,h⟩
 | [],t,h,q=>H _ _ q
 | o::r,t,h,q=>by
  have ih:SG (CA C all r G) (kO C all r K):=fun _ _ q=>xP H r q;unfold CA vU at q;unfold kO;split at q
  ·rename_i D;(try simp only[D]);exact uq ih q
  rename_i g z D
  (try simp only[D])
  split at q
  ·exact q.elim
  rename_i og J
  (try simp only[J])
  split at q
  ·exact q.elim
  rename_i tg N
  (try simp only[N])
  split at q
  ·rename_i b I
   (try simp only[I])
   cases b<;>cases z<;>first | exact uq ih q | exact dm ih [] q
  ·rename_i xs I
   (try simp only[I])
   exact dm ih [] q
  exact q.elim
end
def Nh(C:Ctx)(ap:Bool)(X:List Nat)(f:Bool)(o:Oper)(G:TP)(t:Nat->AV)(h:Nat->AB):KK:=fun v e n=>match nu o.op n o.dst with
 | false=>False
 | true=>match e with
  | []=>match o.dst with
   | some d=>xO G t (some d) (EL d v) [] (jA h d n)
   | none=>xO G t none v [] (jA h 0 n)
  | p::e=>match Nat.beq (cls C ap o.op) 3&&(fb h (p::e)&&(ap||gD h (p::e))&&FD X f h (p::e)) with
   | false=>False
   | true=>match n with
    | none=>xO G t o.dst v (p::e) h
    | some b=>match o.dst with
     | some d=>xO G t (some d) (EL d v) ((p::e)++[(d,b)]) h
     | none=>xO G t none v ((p::e)++[(0,b)]) h
def ur(C:Ctx)(ap:Bool)(X:List Nat)(all:List Oper):List Bool->List Oper->TP->TP
 | _,[],G,t,h=>G t h
 | [],_::_,_,_,_=>False
 | f::fl,o::r,G,t,h=>vU all o (fun t h=>match sd C ap X f o (ev t) with
   | true=>aZ C o (ev t) h (Nh C ap X f o (ur C ap X all fl r G) t h)
   | false=>False) (fun t h=>xO (ur C ap X all fl r G) t o.dst mK [] h) t h
def CB:List Oper->TP->TP
 | [],G,t,h=>G t h
 | o::r,G,t,h=>match ly o.op with
  | true=>match o.dst with
   | some d=>CB r G (Cz d t) (xN d h)
   | none=>CB r G (Cz 0 t) (xN 0 h)
  | false=>CB r G t h
def qq:List Oper->TP->TP
 | [],G,t,h=>G t h
 | o::r,G,t,h=>match Va o with
  | true=>qq r G t h
  | false=>match o.dst with
   | none=>False
   | some d=>match t d with
    | .ow i=>match vS (h i) with
     | false=>qq r G t h
     | true=>match bB i d with
      | true=>qq r G t h
      | false=>qq r G (Qc i d t) (Qd i d h)
    | _=>qq r G t h
theorem sx(d:Nat)(b:AB):∀(e:List (Nat×AB)) (h:Nat->AB),app h (e++[(d,b)])=ax (app h e) d b
 | [],h=>rfl
 | (i,x)::r,h=>sx d b r (ax h i x)
section
variable {C:Ctx} {all:List Oper} {G:TP} {K:AS->Prop} {o:Oper} {t:Nat->AV} {h:Nat->AB} {ap:Bool} {X:List Nat} {f:Bool}
theorem GG(H:SG G K){v:AV}{e:List (Nat×AB)}{n:Option AB}(q:Nh C ap X f o G t h v e n):match nu o.op n o.dst with
  | false=>False
  | true=>match Nat.beq (cls C ap o.op) 3 with
   | true=>match fb h e&&(ap||gD h e)&&FD X f h e with
    | true=>K ⟨cU t o.dst v,jA (app h e) (o.dst.getD 0) n⟩
    | false=>False
   | false=>match e with
    | []=>K ⟨cU t o.dst v,jA h (o.dst.getD 0) n⟩
    | _=>False:=by
 unfold Nh at q;cases hn:nu o.op n o.dst with
 | false=>rw[hn]at q;exact q.elim
 | true=>
  rw[hn]at q;simp only at q ⊢;cases e with
  | nil=>
   have:K ⟨cU t o.dst v,jA h (o.dst.getD 0) n⟩:=by
    cases z:o.dst with
    | some d=>rw[z]at q;simp only[vT]at q;exact dm H [] q
    | none=>rw[z]at q;exact dm H [] q
   simp only[fb,gD,AT,ou,Bool.and_true];split<;>exact this
  | cons p e=>
   simp only at q;cases h1:Nat.beq (cls C ap o.op) 3 with
   | false=>rw[h1]at q;exact q.elim
   | true=>
    rw[h1]at q;simp only[ia]at q ⊢;cases h2:fb h (p::e)&&(ap||gD h (p::e))&&FD X f h (p::e) with
    | false=>rw[h2]at q;exact q.elim
    | true=>
     rw[h2]at q;simp only at q ⊢;cases n with
     | none=>exact dm H (p::e) q
     | some b=>
      cases z:o.dst with
      | some d=>
       rw[z]at q;simp only[vT]at q;have:=dm H _ q;rw[sx]at this;exact this
      | none=>
       rw[z]at q;have:=dm H _ q;rw[sx]at this;exact this
theorem sy(H:SG G K) (q:match sd C ap X f o (ev t) with
   | true=>aZ C o (ev t) h (Nh C ap X f o G t h)
   | false=>False):mT C ap X f o K ⟨t,h⟩:=by
 unfold mT;split at q
 ·rename_i hl;simp only[hl];exact iL (fun v e n z=>by
   have:=GG H z;unfold nu at this ⊢;cases n<;>cases e<;>exact this) q
 exact q.elim
theorem uu(H:SG G K):∀(z:List Bool) (l:List Oper) {t:Nat->AV} {h:Nat->AB},ur C ap X all z l G t h->kg C ap X all z l K ⟨t,h⟩
 | z,[],t,h,q=>by cases z<;>exact H _ _ q
 | [],_::_,_,_,q=>q.elim
 | f::z,o::r,t,h,q=>by
  have ih:SG (ur C ap X all z r G) (kg C ap X all z r K):=fun _ _ q=>uu H z r q;unfold ur vU at q;unfold kg;split at q
  ·rename_i I;(try simp only[I]);exact sy ih q
  rename_i g D I
  (try simp only[I])
  split at q
  ·exact q.elim
  rename_i og N
  (try simp only[N])
  split at q
  ·exact q.elim
  rename_i tg O
  (try simp only[O])
  split at q
  ·rename_i b J
   (try simp only[J])
   cases b<;>cases D<;>first | exact sy ih q | exact dm ih [] q
  ·rename_i xs J
   (try simp only[J])
   exact dm ih [] q
  exact q.elim
theorem oC(H:SG G K):∀(l:List Oper) {t:Nat->AV} {h:Nat->AB},CB l G t h->K (sj l ⟨t,h⟩)
 | [],_,_,q=>H _ _ q
 | o::r,t,h,q=>by
  unfold CB at q;unfold sj;cases hm:ly o.op with
  | true=>
   rw[hm]at q;cases z:o.dst with
   | some d=>rw[z]at q;exact oC H r q
   | none=>rw[z]at q;exact oC H r q
  | false=>rw[hm]at q;exact oC H r q
theorem iy(H:SG G K):∀(l:List Oper) {t:Nat->AV} {h:Nat->AB},qq l G t h->K (uh l ⟨t,h⟩)
 | [],_,_,q=>H _ _ q
 | o::r,t,h,q=>by
  unfold qq at q;show K (uh r (sk o _));unfold sk;cases hm:Va o with
  | true=>
   rw[hm]at q;have:∀x,o.op≠.assign x:=fun x z=>by rw[Va,z]at hm;cases hm
   split
   ·rename_i x d z _;exact absurd z (this _)
   exact iy H r q
  | false=>
   rw[hm]at q;simp only at q;split at q
   ·exact q.elim
   rename_i d J;have D:∃x,o.op=.assign x:=by
    unfold Va at hm;split at hm
    ·rename_i x z;exact⟨x,z⟩
    cases hm
   obtain⟨x,D⟩:=D;rw[D,J];simp only;split at q
   ·rename_i i I
    (try simp only[I])
    cases hb:h i<;>rw[hb]at q<;>simp only[vS]at q ⊢<;>first
     | exact iy H r q
     | (cases N:bB i d<;>rw[N]at q<;>exact iy H r q)
   rename_i O
   first
    | exact iy H r q
    | (
      split
      ·rename_i i I;exact absurd I (O i)
      exact iy H r q)
end
def zP:Code->Option Nat
 | .seq a _=>zP a
 | .region i _ _=>some i
 | .block _ c=>zP c
 | .cond _ x y=>match zP x with
  | some i=>some i
  | none=>zP y
 | .loop c=>zP c
 | _=>none
def CC(k:Nat):List Nat->Bool
 | []=>false
 | i::r=>match bB i k with
  | true=>true
  | false=>CC k r
def L9(l:List Nat):Option Nat->Bool
 | some k=>CC k l
 | none=>false
def GH(f:TP)(K:Exit->TP):Exit->TP
 | .normal=>f
 | .exit i=>K (.exit i)
 | .ret=>K .ret
 | e=>K e
def GI(id:Nat)(K:Exit->TP):Exit->TP
 | .exit i=>fun t h=>match bB i id with
  | true=>K .normal t h
  | false=>K (.exit i) t h
 | .normal=>K .normal
 | .ret=>K .ret
 | e=>K e
structure Hint where
 M:List Nat
 B:List Nat
 X:List (Nat×List Nat)
 K:List Nat
 F:List (Nat×List Bool)
 S:List Nat
def GJ{α:Type}(d:α)(k:Nat):List (Nat×α)->α
 | []=>d
 | (i,x)::r=>match bB i k with
  | true=>x
  | false=>GJ d k r
def L_:List Oper->List Bool
 | []=>[]
 | _::r=>true::L_ r
def Ma(Q:Hint)(id:Nat)(l:List Oper):List Bool:=GJ (L_ l) id Q.F
def iM(Q:Hint)(C:Ctx):Code->Bool
 | .region id ops draw=>!draw||(decide ((ops.toList.any fun o=>gm C o.op)=CC id Q.K)&&decide (fS C (CC id Q.K) ops=Ma Q id ops.toList))
 | .seq a b=>iM Q C a&&iM Q C b
 | .cond _ a b=>iM Q C a&&iM Q C b
 | .block _ c=>iM Q C c
 | .loop c=>iM Q C c
 | _=>true
structure LW(Q:Hint)(A:jR)(c:Code)(K:Exit->TP)(t:Nat->AV)(h:Nat->AB):Prop where
 out:iM Q A.C c=true->ta A (.loop c) (fun e s=>K e s.t s.h) ⟨t,h⟩
structure SW(Q:Hint)(A:jR)(a b:Code)(K:Exit->TP)(t:Nat->AV)(h:Nat->AB):Prop where
 out:iM Q A.C a=true->iM Q A.C b=true->ta A (.seq a b) (fun e s=>K e s.t s.h) ⟨t,h⟩
structure BW(Q:Hint)(A:jR)(c:Code)(id:Nat)(K:Exit->TP)(t:Nat->AV)(h:Nat->AB):Prop where
 out:iM Q A.C c=true->ta A (.block id c) (fun e s=>K e s.t s.h) ⟨t,h⟩
def fB(Q:Hint)(A:jR):Code->(Exit->TP)->TP
 | .skip,K,t,h=>K .normal t h
 | .region id ops draw,K,t,h=>match draw with
  | false=>CA A.C ops.toList ops.toList (K .normal) t h
  | true=>CB ops.toList (ur A.C (CC id Q.K) (GJ [] id Q.X) ops.toList (Ma Q id ops.toList) ops.toList (qq ops.toList (K .normal))) t h
 | .seq a b,K,t,h=>match L9 Q.S (zP b),L9 Q.M (zP b) with
  | true,_=>SW Q A a b K t h
  | false,false=>fB Q A a (GH (fB Q A b K) K) t h
  | false,true=>fB Q A a (GH (fun t h=>Seen A ⟨t,h⟩ fun s=>fB Q A b K s.t s.h) K) t h
 | .cond c a b,K,t,h=>match ev t c with
  | .p (.im (.bool x))=>@Bool.rec (fun _=>Prop) (fB Q A b K t h) (fB Q A a K t h) x
  | _=>False
 | .block id c,K,t,h=>match CC id Q.B with
  | false=>fB Q A c (GI id K) t h
  | true=>BW Q A c id K t h
 | .loop c,K,t,h=>LW Q A c K t h
 | .exit id,K,t,h=>K (.exit id) t h
 | .ret,K,t,h=>K .ret t h
 | _,_,_,_=>False
variable {Q:Hint} {A:jR}
theorem ml:∀(c:Code) {G:Exit->TP} {K:Exit->AS->Prop} {t:Nat->AV} {h:Nat->AB},iM Q A.C c=true->(∀e,SG (G e) (K e))->fB Q A c G t h->ta A c K ⟨t,h⟩:=by
 intro c
 induction c with
 | skip=>intro G K t h z H q;exact H _ _ _ q
 | region id ops draw=>
  intro G K t h z H q;cases draw with
  | false=>exact xP (H .normal) _ q
  | true=>
   simp only[iM,kf,q8,fH,dS]at z;refine⟨GJ [] id Q.X,?_⟩;rw[z.1,z.2];exact oC (fun _ _ q=>uu (fun _ _ q=>iy (H .normal) _ q) _ _ q) _ q
 | seq a b D I=>
  intro G K t h z H q;simp only[iM,fH]at z;unfold fB at q;split at q
  ·exact lE (.seq a b) _ _ _ (fun e s q=>H e _ _ q) (q.out z.1 z.2)
  ·refine D z.1 (fun e t h q=>?_) q;cases e with
   | normal=>exact Seen.of (aY.refl _ _) (I z.2 H q)
   | _=>exact H _ _ _ q
  refine D z.1 (fun e t h q=>?_) q;cases e with
  | normal=>
   exact Seen.mono (fun s q=>I z.2 H q) q
  | _=>exact H _ _ _ q
 | cond c a b D I=>
  intro G K t h z H q;simp only[iM,fH]at z;unfold fB at q;unfold ta;split at q
  ·rename_i x J;simp only[J];cases x
   ·exact I z.2 H q
   exact D z.1 H q
  exact q.elim
 | block id c ih=>
  intro G K t h z H q;unfold fB at q;split at q
  ·refine ih z (fun e t h q=>?_) q;cases e with
   | exit i=>
    show kF (bB i id) _ _;simp only[GI]at q;cases hb:bB i id<;>rw[hb]at q<;>exact H _ _ _ q
   | _=>exact H _ _ _ q
  exact lE (.block id c) _ _ _ (fun e s q=>H e _ _ q) (q.out z)
 | loop c ih=>intro G K t h z H q;exact lE (.loop c) _ _ _ (fun e s q=>H e _ _ q) (q.out z)
 | exit id=>intro G K t h z H q;exact H _ _ _ q
 | ret=>intro G K t h z H q;exact H _ _ _ q
 | rangeFunc=>intro G K t h z H q;exact q.elim
 | scope=>intro G K t h z H q;exact q.elim
 | label=>intro G K t h z H q;exact q.elim
 | goto=>intro G K t h z H q;exact q.elim
 | refuse=>intro G K t h z H q;exact q.elim
variable {c:Code}
theorem d_{K:Exit->TP}{t:Nat->AV}{h:Nat->AB}{α:Type}(R:α->Prop)(z:α->List (Nat×AV))(hs:α->List (Nat×AB))(m:α->Nat)(D:α)(s0:AS)(h0:aY A ⟨t,h⟩ s0)(J:R D)(N:jH (z D) s0.t)(O:jH (hs D) s0.h)
  (round:∀x,R x->∀t h,fB Q A c (GH (fun t h=>∃y I,aY A ⟨t,h⟩ I/\R y/\m y<m x/\jH (z y) I.t/\jH (hs y) I.h) K) (Tu (z x) t) (Tu (hs x) h)):LW Q A c K t h:=
 ⟨fun U=>Gv R z hs m D s0 h0 J N O fun x V t h=>ml c U (fun e t h q=>by cases e<;>exact q) (round x V t h)⟩
theorem O3{id:Nat}{K:Exit->TP}{t:Nat->AV}{h:Nat->AB}{α:Type}(R:α->Prop)(z:α->List (Nat×AV))(hs:α->List (Nat×AB))
  (D:∀y,R y->∀t h,K .normal (Tu (z y) t) (Tu (hs y) h)) (I:fB Q A c (GI id (GH (fun t h=>∃y,R y/\jH (z y) t/\jH (hs y) h) K)) t h):BW Q A c id K t h:=
 ⟨fun J=>OW R z hs D (ml c J (K:=ui id (kG (su R z hs) fun e s=>K e s.t s.h)) (fun e t h q=>by
  cases e with
  | exit i=>
   show kF (bB i id) _ _;simp only[GI]at q;cases hb:bB i id<;>rw[hb]at q<;>exact q
  | _=>exact q) I)⟩
theorem lG{G:TP}{t:Nat->AV}{h:Nat->AB}{s2:AS}(hl:aY A ⟨t,h⟩ s2)(q:G s2.t s2.h):Seen A ⟨t,h⟩ fun s=>G s.t s.h:=Seen.of hl q
theorem zB:(∀(p:Prop) [Decidable p],(decide p=true)=p)/\(∀(p:Prop) [Decidable p],(decide p=false)=¬p)/\(∀(α:Type) [_root_.LE α] (a b:α),(a>=b)=(b<=a))/\(∀(α:Type) [_root_.LT α] (a b:α),(a>b)=(b<a))/\(∀b:Bool,((!b)=true)=(b=false))/\(∀b:Bool,((!b)=false)=(b=true)):=
 ⟨fun p _=>by simp,fun p _=>by simp,fun _ _ _ _=>rfl,fun _ _ _ _=>rfl,fun b=>by simp,fun b=>by simp⟩
class Jp(b:Bool)(p q:outParam Prop):Prop where
 yes:b=true->p
 no:b=false->q
instance (priority:=10) O4 {b:Bool}:Jp b (b=true) (b=false):=⟨id,id⟩
instance RM{p:Prop}[Decidable p]:Jp (decide p) p (¬p):=⟨il,of_decide_eq_false⟩
instance Qh{α:Type}[_root_.LE α]{a b:α}[Decidable (a>=b)]:Jp (decide (a>=b)) (b<=a) (¬b<=a):=⟨il,of_decide_eq_false⟩
instance Qi{α:Type}[_root_.LT α]{a b:α}[Decidable (a>b)]:Jp (decide (a>b)) (b<a) (¬b<a):=⟨il,of_decide_eq_false⟩
instance RN{b:Bool}{p q:Prop}[i:Jp b p q]:Jp (!b) q p:=⟨fun h=>i.no (by simpa using h),fun h=>i.yes (by simpa using h)⟩
theorem Z{α:Sort _}{a:α}:a=a:=rfl
theorem Y:True:=trivial
theorem wO{p q:Prop}(h:p/\q):p/\q:=h
theorem iW{b:Bool}{P Q p q:Prop}[k:Jp b p q](f:p->P)(g:q->Q):@Bool.rec (fun _=>Prop) Q P b:=by
 cases b
 ·exact g (k.no rfl)
 exact f (k.yes rfl)
structure vV where
 w0:World
 mv:Nat->Prop
 s0:Nat->Prop
 n:Nat
 pin:Nat->Value
def vW (Q : Hint) (C : Ctx) (fn : Func) (c : Code) (k : Nat) : Bool := !(fn.name == "runtime.NumGoroutine") && (Nat.ble (k + (fn.ntmps - k)) 100000 && (gn C (k + (fn.ntmps - k)) c && iM Q C c))
variable {fn:Func} {args:List Arg}
theorem RO(Q:Hint){C:Ctx}(hC:aL C){f:FuncId}{r:AR}{fin:List Fin}(J:C.P.funcs[f]?=some fn)(hb:fn.body=some c)(z:vW Q C fn c args.length=true)
  (K:vV->Exit->TP) (N:∀p e t h,K p e t h->∃D,aY ⟨C,p.w0,p.mv,p.s0,p.n,p.pin⟩ ⟨t,h⟩ D/\Ci C fn.results.toList args r fin e D)
  (h:∀p:vV,∃s2,aY ⟨C,p.w0,p.mv,p.s0,p.n,p.pin⟩ ⟨qi args,jG args⟩ s2/\fB Q ⟨C,p.w0,p.mv,p.s0,p.n,p.pin⟩ c (K p) s2.t s2.h):aT C f args r fin:=by
 simp only[vW,fH,j8,Nat.ble_eq]at z;refine I3 hC J hb z.1 (by omega) fun A O U S rho a w I=>?_;obtain⟨_,w0,mv,s0,n,pin⟩:=A;subst O;obtain⟨s2,hl,V⟩:=h ⟨w0,mv,s0,n,pin⟩;obtain⟨S',rho',Y⟩:=hl S rho a w I;have:=uj hC c (fun e s=>∃D,aY ⟨_,w0,mv,s0,n,pin⟩ s D/\Ci _ fn.results.toList args r fin e D) s2 (by show gn _ _ c=true;rw[U];exact z.2.2.1) (ml c z.2.2.2 (fun e t h q=>N _ e t h q) V) S' rho' a w Y;refine wp_mono this fun e Z w' hq=>?_;obtain⟨S2,EB,s3,cF,s4,O6,z⟩:=hq;obtain⟨S5,Jq,xj⟩:=O6 S2 EB Z w' cF;exact⟨S5,Jq,s4,xj,z⟩
theorem RP(Q:Hint){C:Ctx}(hC:aL C){f:FuncId}{r:AR}{fin:List Fin}(z:C.P.funcs[f]?=some fn)(hb:fn.body=some c)(D:vW Q C fn c args.length=true)
  (h:∀p:vV,∃s2,aY ⟨C,p.w0,p.mv,p.s0,p.n,p.pin⟩ ⟨qi args,jG args⟩ s2/\fB Q ⟨C,p.w0,p.mv,p.s0,p.n,p.pin⟩ c (fun e t h=>Ci C fn.results.toList args r fin e ⟨t,h⟩) s2.t s2.h):aT C f args r fin:=
 RO Q hC z hb D _ (fun _ _ _ _ q=>⟨_,aY.refl _ _,q⟩) h
theorem Mb(Q:Hint){C:Ctx}(hC:aL C){f:FuncId}{r:AR}{fin:List Fin}(z:C.P.funcs[f]?=some fn)(hb:fn.body=some c)(D:vW Q C fn c args.length=true)
  (h:∀p:vV,fB Q ⟨C,p.w0,p.mv,p.s0,p.n,p.pin⟩ c (fun e t h=>Ci C fn.results.toList args r fin e ⟨t,h⟩) (qi args) (jG args)):aT C f args r fin:=
 RP Q hC z hb D fun p=>⟨_,aY.refl _ _,h p⟩
theorem fW{C:Ctx}(hC:aL C){f:FuncId}{r:AR}{fin:List Fin}(z:C.P.funcs[f]?=some fn)(hb:fn.body=some c)(D:vW ⟨[],[],[],[],[],[]⟩ C fn c args.length=true)
  (h:∀p:vV,fB ⟨[],[],[],[],[],[]⟩ ⟨C,p.w0,p.mv,p.s0,p.n,p.pin⟩ c (fun e t h=>Ci C fn.results.toList args r fin e ⟨t,h⟩) (qi args) (jG args)):aT C f args r fin:=Mb _ hC z hb D h
variable {bX:List (Nat×AB)}
theorem Qj(Q:Hint){C:Ctx}(hC:aL C){f:FuncId}{args:List AV}{r:AV}{fin:List (Nat×AB)}(J:C.P.funcs[f]?=some fn)(hb:fn.body=some c)(z:vW Q C fn c args.length=true)
  (K:vV->Exit->TP) (N:∀p e t h,K p e t h->∃D,aY ⟨C,p.w0,p.mv,p.s0,p.n,p.pin⟩ ⟨t,h⟩ D/\xB C fn.results.toList r fin e D)
  (h:∀p:vV,Seen ⟨C,p.w0,p.mv,p.s0,p.n,p.pin⟩ ⟨nT args,bp bX⟩ fun s=>fB Q ⟨C,p.w0,p.mv,p.s0,p.n,p.pin⟩ c (K p) s.t s.h):cR C f args bX r fin:=by
 simp only[vW,fH,j8,Nat.ble_eq]at z;refine Gl hC J hb z.1 (by omega) fun A O U S rho a w I=>?_;obtain⟨_,w0,mv,s0,n,pin⟩:=A;subst O;obtain⟨S',rho',s2,V,Y⟩:=h ⟨w0,mv,s0,n,pin⟩ S rho a w I;have:=uj hC c (fun e s=>∃D,aY ⟨_,w0,mv,s0,n,pin⟩ s D/\xB _ fn.results.toList r fin e D) s2 (by show gn _ _ c=true;rw[U];exact z.2.2.1) (ml c z.2.2.2 (fun e t h q=>N _ e t h q) Y) S' rho' a w V;refine wp_mono this fun e Z w' hq=>?_;obtain⟨S2,EB,s3,cF,s4,O6,z⟩:=hq;obtain⟨S5,Jq,xj⟩:=O6 S2 EB Z w' cF;exact⟨S5,Jq,s4,xj,z⟩
theorem Kz(Q:Hint){C:Ctx}(hC:aL C){f:FuncId}{args:List AV}{r:AV}{fin:List (Nat×AB)}(D:C.P.funcs[f]?=some fn)(hb:fn.body=some c)(I:vW Q C fn c args.length=true)
  (h:∀p:vV,fB Q ⟨C,p.w0,p.mv,p.s0,p.n,p.pin⟩ c (fun e t h=>∃z,aY ⟨C,p.w0,p.mv,p.s0,p.n,p.pin⟩ ⟨t,h⟩ z/\xB C fn.results.toList r fin e z) (nT args) (bp bX)):cR C f args bX r fin:=
 Qj Q hC D hb I _ (fun _ _ _ _ q=>q) fun p=>Seen.of (aY.refl _ _) (h p)
theorem Y8(Q:Hint){C:Ctx}(hC:aL C){f:FuncId}{args:List AV}{r:AV}{fin:List (Nat×AB)}(D:C.P.funcs[f]?=some fn)(hb:fn.body=some c)(I:vW Q C fn c args.length=true)
  (h:∀p:vV,Seen ⟨C,p.w0,p.mv,p.s0,p.n,p.pin⟩ ⟨nT args,bp bX⟩ fun s=>fB Q ⟨C,p.w0,p.mv,p.s0,p.n,p.pin⟩ c (fun e t h=>∃z,aY ⟨C,p.w0,p.mv,p.s0,p.n,p.pin⟩ ⟨t,h⟩ z/\xB C fn.results.toList r fin e z) s.t s.h):cR C f args bX r fin:=
 Qj Q hC D hb I _ (fun _ _ _ _ q=>q) h
theorem Jr(Q:Hint){C:Ctx}(hC:aL C){f:FuncId}{args:List AV}{r:AV}{fin:List (Nat×AB)}(z:C.P.funcs[f]?=some fn)(hb:fn.body=some c)(D:vW Q C fn c args.length=true)
  (h:∀p:vV,fB Q ⟨C,p.w0,p.mv,p.s0,p.n,p.pin⟩ c (fun e t h=>xB C fn.results.toList r fin e ⟨t,h⟩) (nT args) (bp bX)):cR C f args bX r fin:=
 Qj Q hC z hb D _ (fun _ _ _ _ q=>⟨_,aY.refl _ _,q⟩) fun p=>Seen.of (aY.refl _ _) (h p)
end Go.AM
namespace Go.AM
open Go.RowKit
def vX (C : Ctx) (f : FuncId) : Prop := ∃ fn : Func, C.P.funcs[f]? = some fn ∧ (fn.name == "runtime.NumGoroutine") = false ∧ fn.body.isNone = false
theorem Xf{S:Nat->Prop}{w:World}{P:Program}{z:List Value}{vs:Array Value}(hl:(z.map fun a=>Arg.pv (.im a)).length=vs.size)(J:∀(j:Nat) x v,(z.map fun a=>Arg.pv (.im a))[j]?=some x->vs[j]?=some v->yz S w P x v):vs=z.toArray:=by
 apply gV;apply lW;intro i;by_cases D:i<z.length
 ·have N:(z.map fun a=>Arg.pv (.im a))[i]?=some (.pv (.im z[i])):=by rw[ao,aM D];rfl
  have I:i<vs.size:=by rw[<-hl];simpa using D
  have O:=J i _ vs[i] N (bE I);have U:vs[i]=z[i]:=by
   have:ay S w (.im z[i]) vs[i]:=O;generalize vs[i]=v at this;cases this;rfl
  rw[uZ,bE I,U];simp[D]
 rw[dy (by simpa [<-hl] using D)];rw[dy (by simpa using D)]
theorem vY{S:Nat->Prop}{w:World}{P:Program}:∀l:List Value,eV S w P (l.map fun a=>Arg.pv (.im a)) [] l:=by
 intro l
 induction l with
 | nil=>trivial
 | cons a l ih=>exact ih
theorem rk{w:World}:∀(l:List Value) (i g:Nat),¬cq w (l.map fun a=>Arg.pv (.im a)) [] l i g:=by
 intro l
 induction l with
 | nil=>exact fun i g h=>h
 | cons a l ih=>
  intro i g h;cases i with
  | zero=>exact h
  | succ i=>exact ih i g h
theorem sB{w w':World}(l:List Value):T4 w w' (l.map fun a=>Arg.pv (.im a)) [] l.toArray:=⟨fun i g h=>(rk l i g h).elim,fun i j g h=>(rk l i g h).elim⟩
theorem iz{C:Ctx}{f:FuncId}(z:List Value)(r:Value)(I:vX C f)(h:∀S w,C.E S w->(∀b,S b->b<w.heap.size)->Calls C.P f z.toArray w fun e w'=>e=.returned r/\Below w.heap.size w w'):
  aT C f (z.map fun a=>.pv (.im a)) (.p (.im r)) []:=by
 refine⟨I,fun S w vs J hS hl N _=>?_⟩;have O:=Xf hl N;subst O;exact (h S w J hS).mono fun e w' ⟨U,hb⟩=>⟨r,S,U,⟨hb.os,hb.tape,hb.output,hb.size,fun k V _=>hb.block k V⟩,fun _ h=>h,fun b D=>bg (hS b D) hb.size,fun b D=>.inl D,.im r,vY z,sB z,fun g h=>by cases h⟩
theorem xQ{C:Ctx}(hC:aL C){f:FuncId}(J:List Value)(e:TypeId)(xs:List Value)(O:TI)(hT:C.T e=some O)(D:O.size=1)(ga:∀v∈xs,v.oneCell'=true)(hlen:xs.length<=maxLen)(hf:vX C f)
  (h:∀S w,C.E S w->(∀b,S b->b<w.heap.size)->Calls C.P f J.toArray w fun e' w'=>e'=.returned (.slice (some ⟨w.heap.size,0,none⟩) xs.length xs.length)/\w'=w.alloc (.cells xs.toArray e)):
  aT C f (J.map fun a=>.pv (.im a)) (.own e (xs.map fun v=>[.im v])) []:=by
 refine⟨hf,fun S w vs hE hS hl U _=>?_⟩;have wV:=Xf hl U;subst wV;obtain⟨info,z,h1,N,_⟩:=hC.eL e O hT;refine (h S w hE hS).mono fun e' w' ⟨he,hw⟩=>?_;subst hw;have DX:(w.alloc (.cells xs.toArray e)).heap[w.heap.size]?=some (.cells xs.toArray e (0,0)):=by unfold World.alloc;exact Array.getElem?_push_size
 have RQ:(w.alloc (.cells xs.toArray e)).heap.size=w.heap.size+1:=kl ..;have hb:Below w.heap.size w (w.alloc (.cells xs.toArray e)):=(Below.refl _ _).alloc (aC _) _;refine⟨_,S,he,⟨hb.os,hb.tape,hb.output,hb.size,fun k hk _=>hb.block k hk⟩,fun _ h=>h,fun b V=>bg (hS b V) hb.size,fun b V=>.inl V,⟨⟨info,xs,h1,by omega,⟨?_,.inr ⟨w.heap.size,xs.length,xs.toArray,?_,nI _,DX,?_,hlen,?_,?_⟩⟩,?_,ga,?_⟩,?_⟩,vY J,sB J,?_⟩
 ·simp[N,D]
 ·simp
 ·simp
 ·simp[N,D]
 ·simp[N,D]
 ·intro r U;obtain⟨v,_,rfl⟩:=fh.1 U;simp[N,D]
 ·intro a r j x Z Y;rw[ao]at Z;obtain⟨v,hv,rfl⟩:=az.1 Z;cases j with
  | zero=>
   simp at Y;subst Y;exact⟨v,by rw[N,D,Nat.mul_one,uT];exact hv,.im v⟩
  | succ j=>simp at Y
 ·intro g I hs;injection I with I;have I:w.heap.size=g:=I;have:=hS g hs;omega
 intro g _ I;have I:=al rfl I;injection I with I;have I:w.heap.size=g:=I;exact⟨by omega,.inl (by omega),fun i=>rk J i g⟩
end Go.AM
