/- Part 3 of the proof of HouseDrillingMatchesSpec. -/
import Derived.Test.YtnpkopkpbgflnaaGreatDoorG02
import Derived.WideKeyRuns
set_option linter.unusedVariables false
set_option linter.unusedSimpArgs false
set_option maxRecDepth 100000
set_option maxHeartbeats 8000000
namespace Go
abbrev eG:=@Bool.or_eq_true
abbrev jk:=@Bool.false_or
abbrev fN:=@List.mem_range
abbrev jR:=@Bool.not_true
abbrev gz:=@List.any_eq_true
abbrev nW:=@List.map_congr_left
abbrev nX:=@Bool.or_false
abbrev jS:=@List.mem_append_left
abbrev rX:=@List.mem_filterMap
abbrev yP:=@List.mem_append_right
abbrev ml:=@List.mem_filter
abbrev Ds:=@List.flatMap_cons
abbrev bz:=@List.map_append
abbrev nY:=@List.length_filter_le
abbrev yQ:=@Bool.false_eq_true
abbrev fO:=@of_decide_eq_true
abbrev uO:=@Array.getElem?_push_size
abbrev kT:=@Array.size_push
end Go
namespace Go.AM
open Go.RowKit
def isApp:Op->Bool
 | .call c=>match c.callee with
  | .builtin .append=>true
  | _=>false
 | _=>false
def Mx(m:Nat->Bool):Nat->Bool
 | 0=>false
 | n+1=>m n||Mx m n
def kA(C:Ctx)(o:Op):Bool:=isApp o||match o with
 | .call c=>match c.callee with
  | .value (.func f)=>Mx (C.md f) 8||C.bl f
  | .value (.tmp _)=>true
  | _=>false
 | _=>false
def cls(C:Ctx)(ap:Bool):Op->Nat
 | .move _=>0
 | .assign _=>0
 | .pick _ _ _=>0
 | .binOp _ _ _ _ _=>0
 | .unOp _ _ _=>0
 | .convert _ _ _=>0
 | .extract _ _=>0
 | .index _ _ _=>0
 | .field _ _ _=>0
 | .makeFunc _ _ _=>0
 | .fieldAddr _ _ _=>match ap with
  | true=>2
  | false=>1
 | .nilCheck _=>match ap with
  | true=>2
  | false=>1
 | .store _ _ _=>3
 | .mapUpdate _ _ _ _=>3
 | .call c=>match c.callee with
  | .builtin .append=>3
  | .builtin .clear=>3
  | .builtin .min=>0
  | .builtin .max=>0
  | .value (.func f)=>match Mx (C.md f) 8||C.bl f with
   | true=>3
   | false=>2
  | .value (.tmp _)=>3
  | _=>2
 | _=>2
def My:AB->AB->Bool
 | .row e _,.row e' _=>cF e e'
 | .box _,.box _=>true
 | .map _ _,.map _ _=>true
 | _,_=>false
def Mz:AB->Bool
 | .none=>false
 | _=>true
def iV(h:Nat->AB):List (Nat×AB)->Bool
 | []=>true
 | (i,_)::r=>Mz (h i)&&iV h r
def kU(h:Nat->AB):List (Nat×AB)->Bool
 | []=>true
 | (i,b)::r=>My (h i) b&&kU h r
def tN(op:Op):Option AB->Option Tmp->Bool
 | none,_=>true
 | some _,some _=>qQ op
 | some _,none=>false
def wq:AV->Bool
 | .p _=>true
 | _=>false
def wu(o:Oper)(rho:Operand->AV):Bool:=match o.op with
 | .load _ a=>wq (rho a)
 | .indexAddr _ x _=>wq (rho x)
 | .slice _ x _ _ none=>wq (rho x)
 | .build _ ps=>ps.toList.all fun p=>wq (rho p.2)
 | .call c=>match c.callee,c.args.toList with
  | .builtin .len,[x]=>wq (rho x)
  | _,_=>false
 | .fieldAddr _ x _=>wq (rho x)
 | .nilCheck x=>wq (rho x)
 | _=>false
def BA:List Nat->Nat->Bool
 | [],_=>false
 | i::r,k=>match cF i k with
  | true=>true
  | false=>BA r k
def T7(X:List Nat):AV->Bool
 | .ow id=>BA X id
 | .rp id _ _=>BA X id
 | .bx id _=>BA X id
 | _=>false
def qR(X:List Nat)(o:Oper)(rho:Operand->AV):Bool:=match o.op with
 | .load _ a=>T7 X (rho a)
 | .indexAddr _ x _=>T7 X (rho x)
 | .lookup _ x _ _=>T7 X (rho x)
 | .call c=>match c.callee,c.args.toList with
  | .builtin .len,[x]=>T7 X (rho x)
  | _,_=>false
 | _=>false
def wv(X:List Nat)(o:Oper)(rho:Operand->AV):Bool:=match o.op with
 | .makeSlice _ _ _=>BA X (o.dst.getD 0)
 | .buildSlice _ _ ps=>BA X (o.dst.getD 0)&&ps.toList.all fun p=>wq (rho p.2)
 | _=>false
def qS(X:List Nat)(o:Oper)(rho:Operand->AV):Bool:=qR X o rho||wv X o rho
def S7(X:List Nat):List (Nat×AB)->Bool
 | []=>true
 | (i,_)::r=>match BA X i with
  | true=>false
  | false=>S7 X r
def kc:AB->Nat
 | .box _=>1
 | .ll _=>1
 | .row _ _=>2
 | .ay _ _=>2
 | _=>0
def uP(X:List Nat)(h:Nat->AB):List (Nat×AB)->Bool
 | []=>true
 | (i,b)::r=>match BA X (i+1000000) with
  | true=>Nat.beq (kc b) (kc (h i))&&(!Nat.beq (kc (h i)) 0&&uP X h r)
  | false=>uP X h r
def Ol(X:List Nat)(f:Bool)(h:Nat->AB)(e:List (Nat×AB)):Bool:=(f||S7 X e)&&uP X h e
theorem I8(X:List Nat)(f:Bool)(h:Nat->AB):Ol X f h []=true:=by simp[Ol,S7,uP]
def WM(X:List Nat):AV->Bool
 | .bx id _=>BA X (id+1000000)
 | .rp id _ _=>BA X (id+1000000)
 | _=>false
def wx(X:List Nat)(o:Oper)(rho:Operand->AV):Bool:=match o.op with
 | .fieldAddr _ x _=>WM X (rho x)
 | .nilCheck x=>WM X (rho x)
 | _=>false
def zI(C:Ctx)(ap:Bool)(X:List Nat)(f:Bool)(o:Oper)(rho:Operand->AV):Bool:=f||wu o rho||qS X o rho||wx X o rho||Nat.beq (cls C ap o.op) 3
def MA(C:Ctx)(ap:Bool)(X:List Nat)(f:Bool)(o:Oper)(K:AS->Prop)(s:AS):Prop:=
 bV C o (ev s.t) s.h fun v eff new=>match tN o.op new o.dst with
  | false=>False
  | true=>match Nat.beq (cls C ap o.op) 3 with
   | true=>match iV s.h eff&&(ap||kU s.h eff)&&Ol X f s.h eff with
    | true=>K ⟨f_ s.t o.dst v,qK (app s.h eff) (o.dst.getD 0) new⟩
    | false=>False
   | false=>match eff with
    | []=>K ⟨f_ s.t o.dst v,qK s.h (o.dst.getD 0) new⟩
    | _=>False
def th(C:Ctx)(ap:Bool)(X:List Nat)(f:Bool)(o:Oper)(K:AS->Prop)(s:AS):Prop:=match zI C ap X f o (ev s.t) with
 | true=>MA C ap X f o K s
 | false=>False
def pI(C:Ctx)(ap:Bool)(X:List Nat)(all:List Oper):List Bool->List Oper->(AS->Prop)->AS->Prop
 | _,[],K,s=>K s
 | [],_::_,_,_=>False
 | f::fl,o::r,K,s=>match o.guard with
  | none=>th C ap X f o (pI C ap X all fl r K) s
  | some (g,want)=>match all[g]? with
   | none=>False
   | some og=>match og.dst with
    | none=>False
    | some tg=>match s.t tg with
     | .p (.im (.bool b))=>qn b
       (match want with
        | true=>th C ap X f o (pI C ap X all fl r K) ⟨bq s.t tg (jQ true),s.h⟩
        | false=>pI C ap X all fl r K ⟨f_ (bq s.t tg (jQ true)) o.dst s6,s.h⟩)
       (match want with
        | false=>th C ap X f o (pI C ap X all fl r K) ⟨bq s.t tg (jQ false),s.h⟩
        | true=>pI C ap X all fl r K ⟨f_ (bq s.t tg (jQ false)) o.dst s6,s.h⟩)
     | .p (.im (.tuple _))=>pI C ap X all fl r K ⟨f_ s.t o.dst s6,s.h⟩
     | _=>False
structure RR where
 run:Bool
 v:AV
 eff:List (Nat×AB)
 new:Option AB
structure DStep(C:Ctx)(ap:Bool)(all:List Oper)(o:Oper)(s:AS)(r:RR)(s':AS):Prop where
 guard:match o.guard with
  | none=>r.run=true
  | some (g,want)=>∃og tg b,all[g]?=some og/\og.dst=some tg/\s.t tg=.p (.im b)/\r.run=TY b want
 ran:r.run=true->bV C o (ev s.t) s.h fun v e n=>v=r.v/\e=r.eff/\n=r.new
 not:r.run=false->r.v=s6/\r.eff=[]/\r.new=none
 next:s'=⟨f_ s.t o.dst r.v,qK (app s.h r.eff) (o.dst.getD 0) r.new⟩
 there:iV s.h r.eff=true
 kind:ap=false->kU s.h r.eff=true
 quiet:cls C ap o.op≠3->r.eff=[]
 ndst:tN o.op r.new o.dst=true
variable {ap:Bool}
theorem Ky{C:Ctx}{f:Bool}{X:List Nat}{o:Oper}{K:AS->Prop}{s:AS}(h:MA C ap X f o K s):∃v eff new,(bV C o (ev s.t) s.h fun I e' J=>I=v/\e'=eff/\J=new)/\iV s.h eff=true/\(ap=false->kU s.h eff=true)/\(cls C ap o.op≠3->eff=[])/\tN o.op new o.dst=true/\Ol X f s.h eff=true/\K ⟨f_ s.t o.dst v,qK (app s.h eff) (o.dst.getD 0) new⟩:=by
 obtain⟨v,eff,new,u,N⟩:=rV (fun _=>.inr rfl) h;refine⟨v,eff,new,N _ ⟨rfl,rfl,rfl⟩,?_⟩;split at u
 ·exact u.elim
 rename_i D;split at u
 ·rename_i z;have z:cls C ap o.op=3:=de z;split at u
  ·rename_i hk;have O:Ol X f s.h eff=true:=(aK _ _▸hk).2;simp only[aK,eG]at hk;exact⟨hk.1.1,fun e=>hk.1.2.resolve_left (by rw[e];decide),fun h=>absurd z h,D,O,u⟩
  exact u.elim
 split at u
 ·exact⟨rfl,fun _=>rfl,fun _=>rfl,D,I8 _ _ _,u⟩
 exact u.elim
def zJ(C:Ctx)(ap:Bool)(X:List Nat)(fl:List Bool)(o:Oper)(s:AS)(r:RR)(i:Nat):Prop:=r.run=true->(fl[i]?=some true\/wu o (ev s.t)=true\/qS X o (ev s.t)=true\/wx X o (ev s.t)=true\/cls C ap o.op=3)/\(fl[i]?=some true\/S7 X r.eff=true)/\uP X s.h r.eff=true
theorem MB{C:Ctx}{X:List Nat}{all:List Oper}{K:AS->Prop}:∀(l:List Oper) (z:List Bool) (s:AS),pI C ap X all z l K s->∃(st:Nat->AS) (r:Nat->RR),st 0=s/\K (st l.length)/\∀(i:Nat) o,l[i]?=some o->DStep C ap all o (st i) (r i) (st (i+1))/\zJ C ap X z o (st i) (r i) i:=by
 intro l
 induction l with
 | nil=>intro z s h;exact⟨fun _=>s,fun _=>⟨false,.junk,[],none⟩,rfl,by cases z<;>exact h,by simp⟩
 | cons o l ih=>
  intro z s h;cases z with
  | nil=>exact h.elim
  | cons f z=>
  have ext:∀(r:RR) (R:AS),DStep C ap all o s r R->(r.run=true->zI C ap X f o (ev s.t)=true/\Ol X f s.h r.eff=true)->pI C ap X all z l K R->∃(st:Nat->AS) (r:Nat->RR),st 0=s/\K (st (o::l).length)/\∀(i:Nat) o',(o::l)[i]?=some o'->DStep C ap all o' (st i) (r i) (st (i+1))/\zJ C ap X (f::z) o' (st i) (r i) i:=by
   intro r0 R hd Z hk;obtain⟨st,r,h1,h2,h3⟩:=ih z R hk;refine⟨fun i=>match i with | 0=>s | i+1=>st i,fun i=>match i with | 0=>r0 | i+1=>r i,rfl,h2,fun i o' hi=>?_⟩;cases i with
   | zero=>
    simp at hi;subst hi;refine⟨?_,fun hr=>?_⟩
    ·show DStep C ap all o s r0 (st 0);rw[h1];exact hd
    obtain⟨U,O⟩:=Z hr;simp only[Ol,aK]at O;obtain⟨O,q3⟩:=O;exact⟨by cases f with
     | true=>exact .inl rfl
     | false=>simp only[zI,jk,eG]at U;exact .inr (by rcases U with ((h | h) | h) | h;exact .inl h;exact .inr (.inl h);exact .inr (.inr (.inl h));exact .inr (.inr (.inr (de h)))),by cases f with
     | true=>exact .inl rfl
     | false=>exact .inr O,q3⟩
   | succ i=>
    obtain⟨U,O⟩:=h3 i o' (by simpa using hi);exact⟨U,fun hr=>O hr⟩
  have D:(match o.guard with
    | none=>true=true
    | some (g,u)=>∃N I b,all[g]?=some N/\N.dst=some I/\s.t I=.p (.im b)/\true=TY b u)->th C ap X f o (pI C ap X all z l K) s->∃(st:Nat->AS) (r:Nat->RR),st 0=s/\K (st (o::l).length)/\∀(i:Nat) o',(o::l)[i]?=some o'->DStep C ap all o' (st i) (r i) (st (i+1))/\zJ C ap X (f::z) o' (st i) (r i) i:=by
   intro J hs;unfold th at hs;split at hs
   case h_2=>exact hs.elim
   rename_i Z;obtain⟨v,eff,new,k1,k2,k3,k4,k6,k7,k5⟩:=Ky hs;exact ext ⟨true,v,eff,new⟩ _ ⟨J,fun _=>k1,(fun h=>by cases h),rfl,k2,k3,k4,k6⟩ (fun _=>⟨Z,k7⟩) k5
  unfold pI at h;split at h
  ·rename_i J;exact D (by rw[J]) h
  rename_i g u J;split at h
  ·exact h.elim
  rename_i N V;split at h
  ·exact h.elim
  rename_i I W;split at h
  ·rename_i b hb;have Y:∀b',b=b'->bq s.t I (jQ b')=s.t:=fun b' e=>jO _ _ _ (by rw[hb,e];rfl);have Qk:pI C ap X all z l K ⟨f_ s.t o.dst s6,s.h⟩->(false=(b==u))->∃(st:Nat->AS) (r:Nat->RR),st 0=s/\K (st (o::l).length)/\∀(i:Nat) o',(o::l)[i]?=some o'->DStep C ap all o' (st i) (r i) (st (i+1))/\zJ C ap X (f::z) o' (st i) (r i) i:=fun hs he=>
    ext ⟨false,s6,[],none⟩ _ ⟨by rw[J];exact⟨N,I,.bool b,V,W,hb,by rw[he];cases b<;>cases u<;>rfl⟩,fun h=>(by cases h),fun _=>⟨rfl,rfl,rfl⟩,rfl,rfl,fun _=>rfl,fun _=>rfl,rfl⟩ (fun h=>by cases h) hs
   cases b<;>cases u<;>simp only[qn]at h
   ·rw[Y false rfl]at h;exact D (by rw[J];exact⟨N,I,.bool false,V,W,hb,rfl⟩) h
   ·rw[Y false rfl]at h;exact Qk h rfl
   ·rw[Y true rfl]at h;exact Qk h rfl
   rw[Y true rfl]at h;exact D (by rw[J];exact⟨N,I,.bool true,V,W,hb,rfl⟩) h
  ·rename_i q hb;exact ext ⟨false,s6,[],none⟩ _ ⟨by rw[J];exact⟨N,I,.tuple q,V,W,hb,by cases u<;>rfl⟩,fun h=>(by cases h),fun _=>⟨rfl,rfl,rfl⟩,rfl,rfl,fun _=>rfl,fun _=>rfl,rfl⟩ (fun h=>by cases h) h
  exact h.elim
variable {rho:Operand->AV} {h':Nat->AB}
theorem Ru{C:Ctx}{o:Oper}{h:Nat->AB}{K:KK}(u:cls C ap o.op=0)(z:bV C o rho h K):bV C o rho h' K:=by
 cases D:o.op<;>rw[D]at u<;>try (simp only[bV,D]at z ⊢;exact z)
 all_goals try (cases u;done)
 case makeFunc fn first cap=>
  cases fn with
  | func f=>simp only[bV,D]at z ⊢;exact z
  | _=>simp only[bV,D]at z
 case fieldAddr=>cases ap<;>cases u
 case nilCheck=>cases ap<;>cases u
 case call c=>
  simp only[bV,D]at z ⊢;simp only[cls]at u;split at u
  ·cases u
  ·cases u
  ·rename_i I;simp only[I,fq,gf]at z ⊢;exact z
  ·rename_i I;simp only[I,fq,gf]at z ⊢;exact z
  ·split at u<;>cases u
  ·cases u
  cases u
theorem Rv{C:Ctx}{o:Oper}{h:Nat->AB}{K:KK}(I:cls C ap o.op=1)(J:∀id,(h id).there->((h' id).there/\(∀e es,h id=.row e es->∃N,h' id=.row e N)/\(∀cs,h id=.box cs->∃O,h' id=.box O)/\(∀cs,h id=.ll cs->∃O,h' id=.ll O)/\(∀e es,h id=.ay e es->∃N,h' id=.ay e N)))(u:bV C o rho h K):bV C o rho h' K:=by
 cases R:o.op<;>rw[R]at I<;>try (cases I;done)
 case call c=>
  exfalso;simp only[cls]at I;split at I<;>first | cases I | (split at I<;>cases I)
 case fieldAddr t x f=>
  simp only[bV,R]at u ⊢;split at u
  ·split at u
   ·split at u
    ·exact u
    ·rename_i id o' U;split at u
     ·exact u.elim
     rename_i W;have Y:(h id).there:=by cases h1:h id<;>first | trivial | exact absurd h1 (by simpa using W)
     have:=(J id Y).1;split
     ·rename_i D;rw[D]at this;exact this.elim
     exact u
    ·rename_i id i o' U;split at u
     ·rename_i e es z;obtain⟨N,D⟩:=(J id (by rw[z];trivial)).2.1 e es z;simp only[D];exact u
     ·rename_i e es z;obtain⟨N,D⟩:=(J id (by rw[z];trivial)).2.2.2.2 e es z;simp only[D];exact u
     exact u.elim
    exact u
   exact u
  exact u
 case nilCheck x=>
  simp only[bV,R]at u ⊢;split at u
  ·exact u
  ·rename_i id V U;split at u
   ·rename_i cs z;obtain⟨O,D⟩:=(J id (by rw[z];trivial)).2.2.1 cs z;simp only[D];exact u
   ·rename_i cs z;obtain⟨O,D⟩:=(J id (by rw[z];trivial)).2.2.2.1 cs z;simp only[D];exact u
   exact u.elim
  ·rename_i id i V U;split at u
   ·rename_i e es z;obtain⟨N,D⟩:=(J id (by rw[z];trivial)).2.1 e es z;simp only[D];exact u
   ·rename_i e es z;obtain⟨N,D⟩:=(J id (by rw[z];trivial)).2.2.2.2 e es z;simp only[D];exact u
   exact u.elim
  exact u
def wy(ops:Array Oper)(o:Oper)(d:Tmp):Bool:=(o.looksAt ops).contains d
def Hv(C:Ctx)(ap:Bool)(ops:Array Oper)(b:Array Nat)(i j:Nat)(oi oj:Oper):Bool:=
 (match oi.dst,oj.dst with
  | some x,some y=>!cF x y
  | _,_=>true) &&
 (match oj.dst with
  | some d=>!wy ops oi d||(b.getD j 0).testBit i
  | none=>true) &&
 (match oi.dst with
  | some d=>!wy ops oj d||(b.getD j 0).testBit i
  | none=>true) &&
 (if cls C ap oj.op=3 then (if cls C ap oi.op=3 then (b.getD j 0).testBit i else true) else true)
def T8(ops:Array Oper)(b:Array Nat)(C:Ctx)(ap:Bool)(c i:Nat):Bool:=(List.range ops.size).all fun k=>match ops[k]? with
  | none=>true
  | some ok=>!cF (cls C ap ok.op) c||(if k<i then (b.getD i 0).testBit k else if i<k then (b.getD k 0).testBit i else true)
def OY:Op->Bool
 | .fieldAddr _ _ _=>true
 | .nilCheck _=>true
 | _=>false
def WN(ops:Array Oper)(b:Array Nat)(C:Ctx)(ap:Bool)(i:Nat):Bool:=(List.range ops.size).all fun k=>match ops[k]? with
  | none=>true
  | some ok=>(OY ok.op||!cF (cls C ap ok.op) 2)||(if k<i then (b.getD i 0).testBit k else if i<k then (b.getD k 0).testBit i else true)
def Dt(C:Ctx)(ap:Bool)(ops:Array Oper)(b:Array Nat)(i:Nat)(oi:Oper):Bool:=
 match cls C ap oi.op with
 | 2=>T8 ops b C ap 3 i
 | 3=>WN ops b C ap i
 | _=>true
def jT(C:Ctx)(ap:Bool)(ops:Array Oper):List Bool:=
 let b:=Region.before ops
 (List.range ops.size).map fun i=>match ops[i]? with
  | some oi=>Dt C ap ops b i oi
  | none=>true
variable {ops:Array Oper} {oi:Oper}
theorem MC{C:Ctx}{i:Nat}{c:Nat}(hi:ops[i]?=some oi)(h:T8 ops (Region.before ops) C ap c i=true):
  ∀(k:Nat) ok,ops[k]?=some ok->cls C ap ok.op=c->(k<i->((Region.before ops).getD i 0).testBit k=true)/\(i<k->((Region.before ops).getD k 0).testBit i=true):=by
 intro k ok hk D;have oL:=(dq.1 hi).1;have I:=(dq.1 hk).1;have u:=ep.1 h k (fN.2 I);simp only[hk,bw.2 D,jR,jk]at u;refine⟨fun z=>?_,fun z=>?_⟩
 ·rwa [ae z]at u
 rwa [aa (by omega),ae z]at u
theorem Fw{C:Ctx}{i:Nat}(hi:ops[i]?=some oi)(h:(jT C ap ops)[i]?=some true):Dt C ap ops (Region.before ops) i oi=true:=by
 have u:=(dq.1 hi).1;simpa only[jT,aB,iu u,fG,hi,Option.some.injEq] using h
theorem wz{C:Ctx}{i:Nat}(hi:ops[i]?=some oi)(h:(jT C ap ops)[i]?=some true)(z:cls C ap oi.op=2):
  ∀(k:Nat) ok,ops[k]?=some ok->cls C ap ok.op=3->(k<i->((Region.before ops).getD i 0).testBit k=true)/\(i<k->((Region.before ops).getD k 0).testBit i=true):=by
 have u:=Fw hi h;simp only[Dt,z]at u;exact MC hi u
theorem zK{C:Ctx}{i:Nat}(hi:ops[i]?=some oi)(h:(jT C ap ops)[i]?=some true)(I:cls C ap oi.op=3):
  ∀(k:Nat) ok,ops[k]?=some ok->cls C ap ok.op=2->OY ok.op=false->(k<i->((Region.before ops).getD i 0).testBit k=true)/\(i<k->((Region.before ops).getD k 0).testBit i=true):=by
 have u:=Fw hi h;simp only[Dt,I]at u;intro k ok hk J z;have oL:=(dq.1 hi).1;have N:=(dq.1 hk).1;have u:=ep.1 u k (fN.2 N);simp only[hk,z,bw.2 J,jR,jk]at u;refine⟨fun D=>?_,fun D=>?_⟩
 ·rwa [ae D]at u
 rwa [aa (by omega),ae D]at u
theorem I9{X:List Nat}{o:Oper}(h:qS X o rho=true):OY o.op=false:=by
 unfold qS qR wv at h;cases e:o.op<;>rw[e]at h<;>first | rfl | cases h
theorem Fx{X:List Nat}:∀{eff:List (Nat×AB)},S7 X eff=true->∀p∈eff,BA X p.1=false:=by
 intro eff
 induction eff with
 | nil=>intro _ p hp;cases hp
 | cons x r ih=>
  intro h p hp;unfold S7 at h;split at h
  ·cases h
  rename_i u;rcases aE.1 hp with e | e
  ·rw[e];exact u
  exact ih h p e
theorem fP{a:AV}(h:wq a=true):∃x,a=.p x:=by cases a<;>first | exact⟨_,rfl⟩ | cases h
variable {fs:List (Nat×Nat×Bool)}
theorem MD{h:Nat->AB}:∀(z:List (Nat×Operand)) (cs:List PV) (K:List PV->List (Nat×AB)->Prop),(z.all fun p=>wq (rho p.2))=true->kq h fs rho z cs K->kq h' fs rho z cs K:=by
 intro z
 induction z with
 | nil=>intro cs K _ u;exact u
 | cons p z ih=>
  intro cs K hp u;obtain⟨i,x⟩:=p;simp only[ux,aK]at hp;obtain⟨y,D⟩:=fP hp.1;simp only[kq]at u ⊢;split at u
  ·rw[D]at u ⊢;simp only[gn,mP]at u ⊢;revert u;cases tF y with
   | none=>exact id
   | some ys=>
    simp only;cases Bi ys.length _&&IK _ cs.length with
    | false=>exact id
    | true=>intro u;exact ih _ _ hp.2 u
  exact u.elim
theorem ME{h:Nat->AB}:∀(z:List (Nat×Operand)) (cs:List AV) (K:List AV->Prop),(z.all fun p=>wq (rho p.2))=true->l9 h fs rho z cs K->l9 h' fs rho z cs K:=by
 intro z
 induction z with
 | nil=>intro cs K _ u;exact u
 | cons p z ih=>
  intro cs K hp u;obtain⟨i,x⟩:=p;simp only[ux,aK]at hp;obtain⟨y,D⟩:=fP hp.1;unfold l9 at u ⊢;split at u
  ·rename_i I;split at u
   ·rename_i J;have e:wa h' (rho x)=wa h (rho x):=by rw[D];cases y<;>rfl
    simp only[I,e,J];exact ih _ _ hp.2 u
   exact u.elim
  exact u.elim
theorem Hw{h:Nat->AB}{Q:Prop}:∀(D:List (Nat×Operand)) (cs:List PV) (K:List PV->List (Nat×AB)->Prop),(∀a b,K a b->Q)->kq h fs rho D cs K->Q:=by
 intro D
 induction D with
 | nil=>intro cs K hk u;exact hk _ _ u
 | cons p D ih=>
  intro cs K hk u;obtain⟨i,x⟩:=p;simp only[kq]at u;split at u
  ·obtain⟨y,fz,z,_⟩:=iS (fun _=>.inr rfl) u;split at z
   ·split at z
    ·exact ih _ _ (fun a b h=>hk _ _ h) z
    exact z.elim
   exact z.elim
  exact u.elim
theorem Rw{C:Ctx}{o:Oper}{h:Nat->AB}{K:KK}(hp:wu o rho=true)(u:bV C o rho h K):bV C o rho h' K:=by
 unfold wu at hp;split at hp
 ·rename_i t a z;obtain⟨x,D⟩:=fP hp;simp only[bV,z]at u ⊢;rw[D]at u ⊢;cases x<;>exact u
 ·rename_i t x ix z;obtain⟨y,D⟩:=fP hp;simp only[bV,z]at u ⊢;rw[D]at u ⊢;cases y<;>exact u
 ·rename_i t x lo hi z;obtain⟨y,D⟩:=fP hp;simp only[bV,z]at u ⊢;rw[D]at u ⊢;have u:gP C rho h t x lo hi K:=u;show gP C rho h' t x lo hi K;simp only[gP]at u ⊢;rw[D]at u ⊢;exact u
 ·rename_i t ps z;simp only[bV,z]at u ⊢;split at u
  ·split at u
   ·exact MD _ _ _ hp u
   exact ME _ _ _ hp u
  exact u.elim
 ·rename_i c z;split at hp
  ·rename_i x N J;obtain⟨y,D⟩:=fP hp;simp only[bV,z,N,J,fq,gf]at u ⊢;split at u
   ·rename_i I O;simp only[J,O]at *;injection I with I _;subst I;rw[D]at u ⊢;cases y<;>exact u
   exact u.elim
  cases hp
 ·rename_i t x f z;obtain⟨y,D⟩:=fP hp;simp only[bV,z]at u ⊢;rw[D]at u ⊢;cases y<;>exact u
 ·rename_i x z;obtain⟨y,D⟩:=fP hp;simp only[bV,z]at u ⊢;rw[D]at u ⊢;cases y<;>exact u
 cases hp
variable {e:List (Nat×AB)}
theorem Hy{C:Ctx}{o:Oper}{h:Nat->AB}{v:AV}{n:Option AB}(hp:wu o rho=true)(u:bV C o rho h fun O e' R=>O=v/\e'=e/\R=n):n=none:=by
 have N:∀(x:AV) (K:List (List PV)->Prop) (Q:Prop),(∀es,K es->Q)->hY h x K->Q:=by
  intro x K Q hk u;unfold hY at u
  repeat' (split at u)
  all_goals first | exact u.elim | exact hk _ u
 unfold wu at hp;split at hp
 ·rename_i t a I;obtain⟨x,J⟩:=fP hp;simp only[bV,I]at u;split at u
  ·exact u.elim
  rw[J]at u;split at u
  ·split at u
   ·split at u
    ·exact u.2.2.symm
    exact u.elim
   split at u
   ·exact u.2.2.symm
   exact u.elim
  ·rename_i D;cases D
  ·rename_i D;cases D
  exact u.elim
 ·rename_i t x ix I;obtain⟨y,J⟩:=fP hp;simp only[bV,I]at u;split at u
  ·split at u
   ·exact u.elim
   rw[J]at u;split at u
   ·obtain⟨r,_,u⟩:=u;split at u
    ·exact u.2.2.symm
    exact u.elim
   all_goals first | exact u.elim | (rename_i D;cases D;done) | (rename_i D _;cases D;done) | (rename_i D _ _;cases D;done)
  exact u.elim
 ·rename_i t x lo hi I;obtain⟨y,J⟩:=fP hp;simp only[bV,I]at u;rw[J]at u;have u:gP C rho h t x lo hi _:=u;simp only[gP]at u;split at u
  ·rw[J]at u;split at u
   ·split at u
    ·exact u.2.2.2.symm
    exact u.elim
   exact u.elim
  ·split at u
   ·exact u.elim
   obtain⟨z,fz,u,_⟩:=iS (fun _=>.inr rfl) u;split at u
   ·split at u
    ·exact u.2.2.2.symm
    exact u.elim
   exact u.elim
  exact u.elim
 ·rename_i t ps I;simp only[bV,I]at u;split at u
  ·split at u
   ·exact Hw _ _ _ (fun _ _ h=>h.2.2.symm) u
   obtain⟨z,D,_⟩:=Cm (fun _=>.inr rfl) u;exact D.2.2.symm
  exact u.elim
 ·rename_i c I;split at hp
  ·rename_i x U V;simp only[bV,I,U,V,fq,gf]at u;split at u
   ·split at u
    ·split at u
     ·exact u.2.2.symm
     exact u.elim
    ·split at u
     ·exact u.2.2.symm
     exact N _ _ _ (fun _ h=>h.2.2.symm) u
    ·split at u
     ·split at u
      ·exact u.2.2.symm
      exact u.elim
     exact u.elim
    exact u.elim
   exact u.elim
  cases hp
 ·rename_i t x f I;obtain⟨y,J⟩:=fP hp;simp only[bV,I]at u;rw[J]at u
  repeat' (split at u)
  all_goals first | exact u.elim | exact u.2.2.symm | (rename_i D;cases D)
 ·rename_i x I;obtain⟨y,J⟩:=fP hp;simp only[bV,I]at u;rw[J]at u
  repeat' (split at u)
  all_goals first | exact u.elim | exact u.2.2.symm | (rename_i D;cases D)
 cases hp
theorem O0{C:Ctx}{o:Oper}{X:List Nat}{h:Nat->AB}{K:KK}(R:∀id,BA X id=true->h id=.none\/h' id=h id)(hp:qR X o rho=true)(D:bV C o rho h K):bV C o rho h' K:=by
 have N:∀{a:AV},T7 X a=true->(∃id,a=.ow id/\(h id=.none\/h' id=h id))\/(∃id i z,a=.rp id i z/\(h id=.none\/h' id=h id))\/∃id z,a=.bx id z/\(h id=.none\/h' id=h id):=by
  intro a O;cases a with
  | ow id=>exact .inl ⟨id,rfl,R id O⟩
  | rp id i z=>exact .inr (.inl ⟨id,i,z,rfl,R id O⟩)
  | bx id z=>exact .inr (.inr ⟨id,z,rfl,R id O⟩)
  | _=>cases O
 unfold qR at hp;split at hp
 ·rename_i t a I;simp only[bV,I]at D ⊢;cases J:C.T t with
  | none=>simp only[J]at D
  | some ti=>
   simp only[J]at D ⊢;rcases N hp with⟨id,e,u⟩ | ⟨id,i,z,e,u⟩ | ⟨id,z,e,u⟩<;>simp only[e]at D ⊢<;>rcases u with u | u<;>first | (simp only[u]at D;done) | (rw[u];exact D)
 ·rename_i t x W I;simp only[bV,I]at D ⊢;split at D
  case h_2=>exact D.elim
  rename_i e size bytes zero eq k i J we;cases V:C.T e with
  | none=>simp only[V]at D
  | some te=>
   simp only[V]at D ⊢;rcases N hp with⟨id,e,u⟩ | ⟨id,i,z,e,u⟩ | ⟨id,z,e,u⟩<;>simp only[e]at D ⊢<;>rcases u with u | u<;>first | (simp only[u]at D;done) | (rw[u];exact D)
 ·rename_i t x W ck I;simp only[bV,I]at D ⊢;rcases N hp with⟨id,e,u⟩ | ⟨id,i,z,e,u⟩ | ⟨id,z,e,u⟩<;>simp only[e]at D ⊢
  ·rcases u with u | u
   ·simp only[u]at D
    repeat' (split at D)
    all_goals exact D.elim
   rw[u];exact D
  ·exact D
  exact D
 ·rename_i c I;split at hp
  ·rename_i x Y O;simp only[bV,I,Y,O,fq,gf]at D ⊢;split at D
   case h_2=>exact D.elim
   rename_i x' t U ht;injection U with U _;subst U;split at D
   ·rcases N hp with⟨id,e,u⟩ | ⟨id,i,z,e,u⟩ | ⟨id,z,e,u⟩<;>simp only[e]at D
   ·rename_i J;rcases N hp with⟨id,e,u⟩ | ⟨id,i,z,e,u⟩ | ⟨id,z,e,u⟩<;>simp only[J,e,hlen,hY]at D ⊢;rcases u with u | u
    ·simp only[u]at D
    rw[u];exact D
   ·rename_i J;rcases N hp with⟨id,e,u⟩ | ⟨id,i,z,e,u⟩ | ⟨id,z,e,u⟩<;>simp only[J,e]at D ⊢;rcases u with u | u
    ·simp only[u]at D
    rw[u];exact D
   exact D.elim
  cases hp
 cases hp
theorem Fy{C:Ctx}{o:Oper}{X:List Nat}{h:Nat->AB}{v:AV}{n:Option AB}(hp:qR X o rho=true)(u:bV C o rho h fun J e' N=>J=v/\e'=e/\N=n):n=none:=by
 have I:∀(x:AV) (K:List (List PV)->Prop) (Q:Prop),(∀es,K es->Q)->hY h x K->Q:=by
  intro x K Q hk u;unfold hY at u
  repeat' (split at u)
  all_goals first | exact u.elim | exact hk _ u
 unfold qR at hp;split at hp
 ·rename_i z;simp only[bV,z]at u
  repeat' (split at u)
  all_goals first | exact u.elim | exact u.2.2.symm | (exfalso;obtain⟨r,D,u⟩:=u;exact u) | (rcases u with⟨r,D,u⟩;first | exact u.2.2.symm | (split at u<;>first | exact u.elim | exact u.2.2.symm))
 ·rename_i z;simp only[bV,z]at u
  repeat' (split at u)
  all_goals first | exact u.elim | exact u.2.2.symm | exact u.2.2.2.symm | (obtain⟨r,D,u⟩:=u;split at u<;>first | exact u.elim | exact u.2.2.symm)
 ·rename_i z;simp only[bV,z]at u
  repeat' (split at u)
  all_goals first | exact u.elim | (obtain⟨r,D,u⟩:=u;exact u.2.2.symm) | (obtain⟨r,D,u⟩:=u;split at u<;>exact u.2.2.symm)
 ·rename_i c z;split at hp
  ·rename_i x O R;simp only[bV,z,O,R,fq,gf]at u;split at u
   ·split at u
    ·split at u
     ·exact u.2.2.symm
     exact u.elim
    ·split at u
     ·exact u.2.2.symm
     exact I _ _ _ (fun _ h=>h.2.2.symm) u
    ·split at u
     ·split at u
      ·exact u.2.2.symm
      exact u.elim
     exact u.elim
    exact u.elim
   exact u.elim
  cases hp
 cases hp
theorem Rx{C:Ctx}{o:Oper}{X:List Nat}{h:Nat->AB}{K:KK}(O:∀id,BA X id=true->h id=.none\/h' id=h id)(hp:qS X o rho=true)(u:bV C o rho h K):bV C o rho h' K:=by
 unfold qS at hp;rcases (eG _ _▸hp:qR X o rho=true\/wv X o rho=true) with hp | hp
 ·exact O0 O hp u
 unfold wv at hp;split at hp
 ·rename_i t n c D;simp only[bV,D]at u ⊢;exact u
 ·rename_i t n R D;simp only[aK]at hp;have I:∀p∈R.toList,wq (rho p.2)=true:=ep.1 hp.2;have z:∀(b:Bool) (size:Nat) (l:List (Nat×Operand)) (es:List (List PV)) (K:List (List PV)->List (Nat×AB)->Prop),(∀p∈l,wq (rho p.2)=true)->hM b h size rho l es K->hM b h' size rho l es K:=by
   intro b size l
   induction l with
   | nil=>intro es K _ h;exact h
   | cons p r ih=>
    intro es K J hk;obtain⟨i,x⟩:=p;obtain⟨y,N⟩:=fP (J _ bK);simp only at N;simp only[hM,N]at hk ⊢;have e:∀(h:Nat->AB) (Q:PV->List (Nat×AB)->Prop),xj b h (.p y) Q=Q y []:=fun h Q=>by cases b<;>rfl
    rw[e]at hk ⊢;revert hk;split
    ·intro hk;revert hk;split
     ·intro hk;exact ih _ _ (fun p hp=>J p (cK _ hp)) hk
     exact fun hk=>hk
    exact fun hk=>hk
  simp only[bV,D]at u ⊢;revert u;split
  ·split
   ·split
    ·split
     ·exact z _ _ _ _ _ I
     exact z _ _ _ _ _ I
    exact fun u=>u
   exact fun u=>u
  exact fun u=>u
 cases hp
theorem Hz{C:Ctx}{o:Oper}{X:List Nat}{h:Nat->AB}{v:AV}{n:Option AB}(hp:qS X o rho=true)(u:bV C o rho h fun z e' D=>z=v/\e'=e/\D=n):n=none\/BA X (o.dst.getD 0)=true:=by
 unfold qS at hp;rcases (eG _ _▸hp:qR X o rho=true\/wv X o rho=true) with hp | hp
 ·exact .inl (Fy hp u)
 unfold wv at hp;split at hp
 ·exact .inr hp
 ·simp only[aK]at hp;exact .inr hp.1
 cases hp
theorem Ry{C:Ctx}{o:Oper}{X:List Nat}{h:Nat->AB}{K:KK}(U:∀id,BA X (id+1000000)=true->h id≠.none->(kc (h' id)=kc (h id)/\kc (h id)≠0)\/h' id=h id)(hp:wx X o rho=true)(u:bV C o rho h K):bV C o rho h' K:=by
 have W:∀{a:AV},WM X a=true->(∃id z,a=.bx id z/\BA X (id+1000000)=true)\/∃id i z,a=.rp id i z/\BA X (id+1000000)=true:=fun {a} ha=>by
  cases a with
  | bx id z=>exact .inl ⟨id,z,rfl,ha⟩
  | rp id i z=>exact .inr ⟨id,i,z,rfl,ha⟩
  | _=>cases ha
 unfold wx at hp;split at hp
 ·rename_i t x f V;simp only[bV,V]at u ⊢;split at u
  case h_2=>exact u.elim
  rename_i hT;split at u
  case h_2=>exact u.elim
  rcases W hp with⟨id,z,e,hi⟩ | ⟨id,i,z,e,hi⟩<;>simp only[e]at u ⊢
  ·have J:h id≠.none:=fun N=>by rw[N]at u;exact u
   rcases U id hi J with⟨D,I⟩ | I
   ·cases O:h id<;>rw[O]at D I u<;>first | exact u.elim | exact absurd rfl I | (cases R:h' id<;>rw[R]at D<;>first | exact u | (exfalso;revert D;decide) | cases D)
   rw[I];exact u
  have J:h id≠.none:=fun N=>by rw[N]at u;exact u
  rcases U id hi J with⟨D,I⟩ | I
  ·cases O:h id<;>rw[O]at D I u<;>first | exact u.elim | exact absurd rfl I | (cases R:h' id<;>rw[R]at D<;>first | exact u | (exfalso;revert D;decide) | cases D)
  rw[I];exact u
 ·rename_i x V;simp only[bV,V]at u ⊢;rcases W hp with⟨id,z,e,hi⟩ | ⟨id,i,z,e,hi⟩<;>simp only[e]at u ⊢
  ·have J:h id≠.none:=fun N=>by rw[N]at u;exact u
   rcases U id hi J with⟨D,I⟩ | I
   ·cases O:h id<;>rw[O]at D I u<;>first | exact u.elim | exact absurd rfl I | (cases R:h' id<;>rw[R]at D<;>first | exact u | (exfalso;revert D;decide) | cases D)
   rw[I];exact u
  have J:h id≠.none:=fun N=>by rw[N]at u;exact u
  rcases U id hi J with⟨D,I⟩ | I
  ·cases O:h id<;>rw[O]at D I u<;>first | exact u.elim | exact absurd rfl I | (cases R:h' id<;>rw[R]at D<;>first | exact u | (exfalso;revert D;decide) | cases D)
  rw[I];exact u
 cases hp
theorem HA{C:Ctx}{o:Oper}{X:List Nat}{h:Nat->AB}{v:AV}{n:Option AB}(hp:wx X o rho=true)(u:bV C o rho h fun D e' I=>D=v/\e'=e/\I=n):n=none:=by
 unfold wx at hp;split at hp
 ·rename_i z;simp only[bV,z]at u
  repeat' (split at u)
  all_goals first | exact u.elim | exact u.2.2.symm
 ·rename_i z;simp only[bV,z]at u
  repeat' (split at u)
  all_goals first | exact u.elim | exact u.2.2.symm
 cases hp
def HB(ops:Array Oper)(o:Oper):Bool:=match o.dst with
 | some d=>!wy ops o d
 | none=>true
def HD(ops:Array Oper)(b:Array Nat):Bool:=
 (List.range ops.size).all fun j=>(match ops[j]? with
  | some oj=>(oj.after.toList.all fun e=>!Region.binds .any e||Nat.blt e.on j)&&(List.range j).all fun i=>!(b.getD j 0).testBit i||(oj.after.toList.any fun e=>Region.binds .any e&&(cF e.on i||(Nat.blt i e.on&&(b.getD e.on 0).testBit i)))
  | none=>true)
def mX(C:Ctx)(ops:Array Oper):Bool:=
 let ap:=ops.toList.any fun o=>kA C o.op;let b:=Region.before ops
 HD ops b&&(List.range ops.size).all fun j=>match ops[j]? with
  | some oj=>HB ops oj&&(List.range j).all fun i=>match ops[i]? with
   | some oi=>Hv C ap ops b i j oi oj
   | none=>true
  | none=>true
def HE(ops:Array Oper)(E:Nat->Bool):Prop:=∀(j:Nat) oj,ops[j]?=some oj->E j=true->∀e∈oj.after,Region.binds .any e=true->E e.on=true
theorem Cr{b:Array Nat}(h:HD ops b=true):(∀(j:Nat) u,ops[j]?=some u->∀e∈u.after,Region.binds .any e=true->e.on<j)/\
  ∀(E:Nat->Bool),HE ops E->∀(j:Nat) u,ops[j]?=some u->(∀e∈u.after,Region.binds .any e=true->E e.on=true)->∀i,i<j->(b.getD j 0).testBit i=true->E i=true:=by
 have N:∀(j:Nat) u,ops[j]?=some u->(∀e∈u.after,Region.binds .any e=true->e.on<j)/\∀i,i<j->(b.getD j 0).testBit i=true->∃e∈u.after,Region.binds .any e=true/\(e.on=i\/(i<e.on/\(b.getD e.on 0).testBit i=true)):=by
  intro j u D;have O:=ep.1 h j (fN.2 (dq.1 D).1);simp only[D,aK]at O;refine⟨fun e I hb=>?_,fun i hi R=>?_⟩
  ·have z:=ep.1 O.1 e (cJ.2 I);rw[hb]at z;simp only[jR,jk]at z;exact je z
  have z:=ep.1 O.2 i (fN.2 hi);rw[R]at z;simp only[jR,jk]at z;obtain⟨e,I,U⟩:=gz.1 z;simp only[aK,eG]at U;exact⟨e,cJ.1 I,U.1,U.2.imp bw.1 fun h=>⟨je h.1,h.2⟩⟩
 refine⟨fun j u D=>(N j u D).1,fun E Z j=>?_⟩
 induction j using Nat.strongRecOn with
 | _ j ih=>
  intro u D V i hi R;obtain⟨e,I,hb,z⟩:=(N j u D).2 i hi R;rcases z with z | z
  ·rw[<-z];exact V e I hb
  have W:=(N j u D).1 e I hb;have Zo:=V e I hb;cases J:ops[e.on]? with
  | none=>
   have:e.on<ops.size:=Nat.lt_trans W (dq.1 D).1;rw[cx this]at J;cases J
  | some Y=>exact ih e.on W Y J (fun e' T9 gZ=>Z e.on Y J Zo e' T9 gZ) i z.1 z.2
variable {rho':Operand->AV}
theorem Fz{h:Nat->AB}:∀{u:List (Nat×Operand)} {cs:List PV},(∀p∈u,rho p.2=rho' p.2)->kq h fs rho u cs=kq h fs rho' u cs:=by
 intro u
 induction u with
 | nil=>intro cs _;rfl
 | cons p u ih=>
  intro cs hp;obtain⟨i,x⟩:=p;funext K;have e:=hp (i,x) (by simp);simp only at e;simp only[kq,e];have:∀cs,kq h fs rho u cs=kq h fs rho' u cs:=fun cs=>ih (fun p z=>hp p (by simp[z]));simp only[this]
theorem FA{h:Nat->AB}:∀{u:List (Nat×Operand)} {cs:List AV},(∀p∈u,rho p.2=rho' p.2)->l9 h fs rho u cs=l9 h fs rho' u cs:=by
 intro u
 induction u with
 | nil=>intro cs _;rfl
 | cons p u ih=>
  intro cs hp;obtain⟨i,x⟩:=p;funext K;have e:=hp (i,x) (by simp);simp only at e;simp only[l9,e];have:∀cs,l9 h fs rho u cs=l9 h fs rho' u cs:=fun cs=>ih (fun p z=>hp p (by simp[z]));simp only[this]
theorem uQ{b:Bool}{h:Nat->AB}{size:Nat}:∀{u:List (Nat×Operand)} {cs:List (List PV)},(∀p∈u,rho p.2=rho' p.2)->hM b h size rho u cs=hM b h size rho' u cs:=by
 intro u
 induction u with
 | nil=>intro cs _;rfl
 | cons p u ih=>
  intro cs hp;obtain⟨i,x⟩:=p;funext K;have e:=hp (i,x) (by simp);simp only at e;simp only[hM,e];have:∀cs,hM b h size rho u cs=hM b h size rho' u cs:=fun cs=>ih (fun p z=>hp p (by simp[z]));simp only[this]
theorem rY{C:Ctx}{o:Oper}{rho rho':Operand->AV}{h:Nat->AB}{K:KK}(z:∀x∈o.op.operands,rho x=rho' x)(u:bV C o rho h K):bV C o rho' h K:=by
 cases Z:o.op<;>simp only[Z,Op.operands]at z<;>simp only[bV,Z]at u ⊢<;>try exact u
 case move x=>rw[<-z x (by simp)];exact u
 case assign x=>rw[<-z x (by simp)];exact u
 case pick c a b=>rw[<-z c (by simp),<-z a (by simp),<-z b (by simp)];exact u
 case box e x=>rw[<-z x (by simp)];exact u
 case build t ps=>
  split at u
  ·rename_i fs _ _ _ _ hT;split at u
   ·rename_i I;rw[<-Fz (rho:=rho) (rho':=rho') (fun p hp=>z p.2 (by simp;exact⟨p.1,cJ.1 hp⟩))];exact u
   rename_i I;rw[<-FA (rho:=rho) (rho':=rho') (fun p hp=>z p.2 (by simp;exact⟨p.1,cJ.1 hp⟩))];exact u
  exact u
 case buildSlice t n ps=>
  split at u
  ·split at u
   ·split at u
    ·split at u
     ·rw[<-uQ (rho:=rho) (rho':=rho') (fun p hp=>z p.2 (by simp;exact⟨p.1,cJ.1 hp⟩))];exact u
     rw[<-uQ (rho:=rho) (rho':=rho') (fun p hp=>z p.2 (by simp;exact⟨p.1,cJ.1 hp⟩))];exact u
    exact u
   exact u
  exact u
 case load t x=>rw[<-z x (by simp)];exact u
 case store t x y=>rw[<-z x (by simp),<-z y (by simp)];exact u
 case nilCheck x=>rw[<-z x (by simp)];exact u
 case binOp op t x y t'=>rw[<-z x (by simp),<-z y (by simp)];exact u
 case unOp op t x=>rw[<-z x (by simp)];exact u
 case convert s d x=>rw[<-z x (by simp)];exact u
 case makeFunc fn first cap=>
  cases fn with
  | func f=>
   have:cap.toList.map rho=cap.toList.map rho':=nW fun x U=>z x (by simp[cJ.1 U]);simp only[this]at u;exact u
  | _=>exact u
 case makeSlice t x y=>rw[<-z x (by simp),<-z y (by simp)];exact u
 case slice t x lo hi mx=>
  cases mx with
  | some m=>exact u
  | none=>
   have e0:=z x (by simp);have O:∀y,lo=some y->rho y=rho' y:=fun y V=>z y (by simp[V]);have R:∀y,hi=some y->rho y=rho' y:=fun y V=>z y (by simp[V]);have hs:gP C rho h t x lo hi K=gP C rho' h t x lo hi K:=by
    unfold gP;rw[e0];cases lo<;>cases hi<;>simp only[Option.some.injEq,forall_eq',forall_eq,reduceCtorEq,false_implies,implies_true]at O R<;>simp only[O,R]
   have hv:∀id e' es,uB C rho t lo hi id e' es K=uB C rho' t lo hi id e' es K:=fun id e' es=>by
    unfold uB;cases lo<;>cases hi<;>simp only[Option.some.injEq,forall_eq',forall_eq,reduceCtorEq,false_implies,implies_true]at O R<;>simp only[O,R]
   simp only at u ⊢;simp only[<-e0,<-hs,<-hv];exact u
 case makeMap t r=>cases r<;>exact u
 case lookup t x i ck=>rw[<-z x (by simp),<-z i (by simp)];exact u
 case mapUpdate t x i y=>rw[<-z x (by simp),<-z i (by simp),<-z y (by simp)];exact u
 case fieldAddr t x f=>rw[<-z x (by simp)];exact u
 case field t x f=>rw[<-z x (by simp)];exact u
 case indexAddr t x y=>rw[<-z x (by simp),<-z y (by simp)];exact u
 case index t x y=>rw[<-z x (by simp),<-z y (by simp)];exact u
 case extract x i=>rw[<-z x (by simp)];exact u
 case call c=>
  have U:c.args.toList.map rho=c.args.toList.map rho':=nW fun x W=>z x (by simp[Call.operands,cJ.1 W]);have D:∀x∈c.args.toList,rho x=rho' x:=fun x W=>z x (by simp[Call.operands,cJ.1 W]);split at u
  ·split at u
   ·rename_i I N;simp only[I,N]at *;rw[<-D _ (by simp)];exact u
   exact u
  ·split at u
   ·rename_i I N;simp only[I,N]at *;rw[<-D _ (by simp)];exact u
   exact u
  ·split at u
   ·rename_i I;simp only[I]at *;rw[<-D _ (by simp),<-D _ (by simp)];exact u
   exact u
  ·split at u
   ·rename_i I;simp only[I]at *;rw[<-D _ (by simp),<-D _ (by simp)];exact u
   ·rename_i I;simp only[I]at *;rw[<-D _ (by simp),<-D _ (by simp),<-D _ (by simp)];exact u
   ·rename_i I;simp only[I]at *;rw[<-D _ (by simp),<-D _ (by simp),<-D _ (by simp),<-D _ (by simp),<-D _ (by simp)];exact u
   exact u
  ·split at u
   ·rename_i I N;simp only[I,N]at *;rw[<-D _ (by simp),<-D _ (by simp)];exact u
   exact u
  ·rename_i g J;have S0:c.callee=.value g:=by
    cases Y:c.callee with
    | value g'=>rw[Y]at J;simp only[fq]at J;injection J with J;rw[J]
    | invoke r m=>rw[Y]at J;cases J
    | builtin b=>rw[Y]at J;cases b<;>cases J
   have hg:=z g (by simp[Call.operands,S0]);rw[<-hg,<-U];exact u
  exact u
end Go.AM
namespace Go.AM
open Go.RowKit
theorem wA{h h':Nat->AB}{id:Nat}:∀(fe:List (Nat×AB)) ,h id=h' id->app h fe id=app h' fe id:=by
 intro fe
 induction fe generalizing h h' with
 | nil=>intro e;exact e
 | cons x fe ih=>
  intro e;refine ih ?_;by_cases u:id=x.1
  ·rw[u,aH,aH]
  rw[a_ _ _ u,a_ _ _ u];exact e
theorem kV{h:Nat->AB}:∀{fe:List (Nat×AB)},iV h fe=true->∀p∈fe,(h p.1).there:=by
 intro fe
 induction fe with
 | nil=>intro _ p hp;cases hp
 | cons x fe ih=>
  intro u p hp;simp only[iV,aK]at u;rcases aE.1 hp with e | e
  ·subst e;have:=u.1;cases hx:h p.1<;>rw[hx]at this<;>first | trivial | (simp[Mz]at this)
  exact ih u.2 p e
def Hn(B:Nat->AB)(r:Nat->RR)(E:Nat->Bool):Nat->Nat->AB
 | 0=>B
 | i+1=>match E i with
  | true=>app (Hn B r E i) (r i).eff
  | false=>Hn B r E i
theorem Ql{B:Nat->AB}{r:Nat->RR}{E:Nat->Bool}(i:Nat):∀(m:Nat),(∀k,k<m->(E k=true↔k<i)\/(r k).eff=[])->i<=m->Hn B r E m=Hn B r (fun _=>true) i:=by
 have u:∀m,m<=i->(∀k,k<m->(E k=true↔k<i)\/(r k).eff=[])->Hn B r E m=Hn B r (fun _=>true) m:=by
  intro m
  induction m with
  | zero=>intro _ _;rfl
  | succ m ih=>
   intro hm hk;have z:=ih (by omega) (fun k D=>hk k (by omega));simp only[Hn];rw[z];rcases hk m (by omega) with h | h
   ·rw[h.2 (by omega)]
   rw[h];cases E m<;>rfl
 intro m
 induction m with
 | zero=>
      intro _ hi;have:i=0:=by omega
      subst this;rfl
 | succ m ih=>
  intro hk hi;by_cases e:i=m+1
  ·subst e;exact u (m+1) (aF _) hk
  have z:=ih (fun k D=>hk k (by omega)) (by omega);rw[<-z];simp only[Hn];rcases hk m (by omega) with h | h
  ·have:E m=false:=by rw[cy];intro I;have:=h.1 I;omega
   rw[this]
  rw[h];cases E m<;>rfl
theorem Rz{B:Nat->AB}{r:Nat->RR}{E:Nat->Bool}{i:Nat}(hi:E i=false):∀(m:Nat),(∀k,i<k->k<m->E k=true->(r k).eff=[])->i<m->Hn B r (fun k=>E k||cF k i) m=app (Hn B r E m) (r i).eff:=by
 have u:∀m,m<=i->Hn B r (fun k=>E k||cF k i) m=Hn B r E m:=by
  intro m
  induction m with
  | zero=>intro _;rfl
  | succ m ih=>
   intro hm;have:cF m i=false:=by rw[cy];intro h;have:=bw.1 h;omega
   simp only[Hn,this,nX];rw[ih (by omega)]
 intro m
 induction m with
 | zero=>intro _ h;omega
 | succ m ih=>
  intro hk gY;by_cases e:m=i
  ·subst e;simp only[Hn,hi,bw.2 rfl,pB];rw[u m (aF _)]
  have z:=ih (fun k z h2=>hk k z (by omega)) (by omega);have:cF m i=false:=by rw[cy];intro h;exact e (bw.1 h)
  simp only[Hn,this,nX];rw[z];cases D:E m with
  | false=>rfl
  | true=>rw[hk m (by omega) (by omega) D];rfl
theorem MF(C:Ctx)(ap:Bool)(op:Op):cls C ap op<=3:=by
 unfold cls;split<;>first | decide | skip
 all_goals (cases ap<;>first | decide | skip)
 all_goals (split<;>first | decide | skip)
 all_goals (split<;>decide)
theorem MG(C:Ctx)(op:Op):cls C true op≠1:=by
 unfold cls;split<;>first | decide | skip
 all_goals (split<;>first | decide | skip)
 all_goals (split<;>decide)
theorem Kz{C:Ctx}{ap:Bool}{o:Oper}{rho:Operand->AV}{h:Nat->AB}{K:KK}(D:cls C ap o.op<=1)(u:bV C o rho h K):∃v e,K v e none:=by
 cases I:o.op<;>rw[I]at D<;>simp only[bV,I]at u
 case move x=>exact⟨_,_,u⟩
 case assign x=>exact⟨_,_,u⟩
 case pick c a b=>
  split at u
  ·split at u<;>exact⟨_,_,u⟩
  exact u.elim
 case binOp op t x y t'=>
  split at u
  ·obtain⟨v,z,_⟩:=Fj u;exact⟨_,_,z⟩
  ·obtain⟨v,z,_⟩:=Fi u;exact⟨_,_,z⟩
  exact u.elim
 case unOp op t x=>
  split at u
  ·exact⟨_,_,u⟩
  ·obtain⟨v,z,_⟩:=oP u;exact⟨_,_,z⟩
  exact u.elim
 case convert s d x=>
  split at u
  ·obtain⟨v,z,_⟩:=oP u;exact⟨_,_,z⟩
  ·exact⟨_,_,u⟩
  ·exact⟨_,_,u⟩
  exact u.elim
 case extract x i=>
  split at u
  ·split at u
   ·exact⟨_,_,u⟩
   exact u.elim
  exact u.elim
 case index t x y=>
  split at u
  ·obtain⟨b,_,u⟩:=u;exact⟨_,_,u⟩
  exact u.elim
 case field t x f=>
  split at u
  ·split at u
   ·split at u
    ·split at u
     ·exact⟨_,_,u⟩
     exact u.elim
    split at u
    ·exact⟨_,_,u⟩
    exact u.elim
   exact u.elim
  exact u.elim
 case makeFunc fn first cap=>
  cases fn with
  | func f=>
   simp only at u;split at u
   ·exact⟨_,_,u⟩
   exact u.elim
  | _=>exact u.elim
 case fieldAddr t x f=>
  split at u
  ·split at u
   ·split at u
    ·exact⟨_,_,u⟩
    ·split at u
     ·exact u.elim
     exact⟨_,_,u⟩
    ·split at u
     ·exact⟨_,_,u⟩
     ·exact⟨_,_,u⟩
     exact u.elim
    exact u.elim
   exact u.elim
  exact u.elim
 case nilCheck x=>
  split at u
  ·exact⟨_,_,u⟩
  ·split at u
   ·exact⟨_,_,u⟩
   ·exact⟨_,_,u⟩
   exact u.elim
  ·split at u
   ·exact⟨_,_,u⟩
   ·exact⟨_,_,u⟩
   exact u.elim
  exact u.elim
 case call c=>
  simp only[cls]at D;split at D
  ·exact absurd D (by decide)
  ·exact absurd D (by decide)
  ·rename_i z;simp only[z,fq,gf]at u;split at u
   ·split at u
    ·exact⟨_,_,u⟩
    exact u.elim
   exact u.elim
  ·rename_i z;simp only[z,fq,gf]at u;split at u
   ·split at u
    ·exact⟨_,_,u⟩
    exact u.elim
   ·split at u
    ·exact⟨_,_,u⟩
    exact u.elim
   ·split at u
    ·exact⟨_,_,u⟩
    exact u.elim
   exact u.elim
  ·split at D<;>exact absurd D (by decide)
  ·exact absurd D (by decide)
  exact absurd D (by decide)
 all_goals exact absurd D (by simp[cls])
theorem O1{C:Ctx}{ap:Bool}{o:Oper}{rho:Operand->AV}{h:Nat->AB}{v:AV}{e:List (Nat×AB)}{n:Option AB}{b:AB}(z:bV C o rho h fun D e' I=>D=v/\e'=e/\I=n)(u:some b=n):cls C ap o.op=3\/cls C ap o.op=2:=by
 have hle:=MF C ap o.op;by_cases J:cls C ap o.op<=1
 ·obtain⟨_,_,_,_,N⟩:=Kz J z;rw[<-N]at u;cases u
 omega
section
variable {C:Ctx} {ops:Array Oper} {st:Nat->AS} {r:Nat->RR} {ap:Bool} {X:List Nat}
theorem T_{B:Nat->AB}{r:Nat->RR}{E:Nat->Bool}{d:Nat}(i:Nat):∀(m:Nat),(∀k,k<m->(E k=true↔k<i)\/∀p∈(r k).eff,p.1≠d)->i<=m->Hn B r E m d=Hn B r (fun _=>true) i d:=by
 have z:∀m,m<=i->(∀k,k<m->(E k=true↔k<i)\/∀p∈(r k).eff,p.1≠d)->Hn B r E m d=Hn B r (fun _=>true) m d:=by
  intro m
  induction m with
  | zero=>intro _ _;rfl
  | succ m ih=>
   intro hm hk;have u:=ih (by omega) (fun k D=>hk k (by omega));simp only[Hn];rcases hk m (by omega) with h | h
   ·rw[h.2 (by omega)];exact wA _ u
   cases E m with
   | true=>exact wA _ u
   | false=>exact u.trans (ji h).symm
 intro m
 induction m with
 | zero=>
      intro _ hi;have:i=0:=by omega
      subst this;rfl
 | succ m ih=>
  intro hk hi;by_cases e:i=m+1
  ·subst e;exact z (m+1) (aF _) hk
  have u:=ih (fun k D=>hk k (by omega)) (by omega);rw[<-u];simp only[Hn];rcases hk m (by omega) with h | h
  ·have:E m=false:=by rw[cy];intro I;have:=h.1 I;omega
   rw[this]
  cases E m with
  | true=>exact ji h
  | false=>rfl
structure WR(C:Ctx)(ap:Bool)(ops:Array Oper)(i j:Nat)(oi oj:Oper):Prop where
 dst:∀x,oi.dst=some x->oj.dst≠some x
 war:∀d,oj.dst=some d->d∈oi.looksAt ops->((Region.before ops).getD j 0).testBit i=true
 raw:∀d,oi.dst=some d->d∈oj.looksAt ops->((Region.before ops).getD j 0).testBit i=true
 w3:cls C ap oj.op=3->cls C ap oi.op=3->((Region.before ops).getD j 0).testBit i=true
theorem mI(I:mX C ops=true):HD ops (Region.before ops)=true/\(∀(j:Nat) u,ops[j]?=some u->∀d,u.dst=some d->d ∉ u.looksAt ops)/\
  ∀(i j:Nat) oi u,i<j->ops[i]?=some oi->ops[j]?=some u->WR C (ops.toList.any fun o=>kA C o.op) ops i j oi u:=by
 simp only[mX,aK]at I;obtain⟨h1,h2⟩:=I;have W:∀(j:Nat) u,ops[j]?=some u->HB ops u=true/\∀(i:Nat) oi,i<j->ops[i]?=some oi->Hv C (ops.toList.any fun o=>kA C o.op) ops (Region.before ops) i j oi u=true:=by
  intro j u z;have D:=ep.1 h2 j (fN.2 (dq.1 z).1);simp only[z,aK]at D;refine⟨D.1,fun i oi hi N=>?_⟩;have Y:=ep.1 D.2 i (fN.2 hi);simp only[N]at Y;exact Y
 refine⟨h1,fun j u z d J=>?_,fun i j oi u Bm N z=>?_⟩
 ·have:=(W j u z).1;simp only[HB,J,wy]at this;simpa using this
 have D:=(W j u z).2 i oi Bm N;simp only[Hv,aK]at D;obtain⟨⟨⟨Z,O⟩,R⟩,p4⟩:=D;refine⟨fun x hx hy=>?_,fun d J U=>?_,fun d J U=>?_,fun hc hi=>?_⟩
 ·simp only[hx,hy,bw.2 rfl,jR]at Z;cases Z
 ·simp only[J,wy]at O;have V:(oi.looksAt ops).contains d=true:=by simpa using U
  rw[V]at O;simpa using O
 ·simp only[J,wy]at R;have V:(u.looksAt ops).contains d=true:=by simpa using U
  rw[V]at R;simpa using R
 rw[ae hc,ae hi]at p4;exact p4
theorem HH(u:mX C ops=true)(H:∀(i:Nat) o,ops[i]?=some o->DStep C ap ops.toList o (st i) (r i) (st (i+1))){i:Nat}{o:Oper}(z:ops[i]?=some o){d:Tmp}(D:o.dst=some d):∀k,i+1<=k->k<=ops.size->(st k).t d=(r i).v:=by
 obtain⟨_,hs,hp⟩:=mI u;intro k
 induction k with
 | zero=>intro h;omega
 | succ k ih=>
  intro I_ hk;by_cases e:i=k
  ·subst e;rw[(H i o z).next,D];exact aH _ _ _
  have I:=ih (by omega) (by omega);have J:ops[k]?=some ops[k]:=cx (by omega);rw[(H k _ J).next];show f_ (st k).t _ _ d=_;have N:=(hp i k o _ (by omega) z J).dst d D;cases O:ops[k].dst with
  | none=>exact I
  | some d'=>rw[f_,a_ _ _ (fun e=>N (by rw[O,e]))];exact I
theorem Du(H:∀(i:Nat) o,ops[i]?=some o->DStep C ap ops.toList o (st i) (r i) (st (i+1))){x:Nat}(z:∀(k:Nat) o,ops[k]?=some o->o.dst≠some x):∀k,k<=ops.size->(st k).t x=(st 0).t x:=by
 intro k
 induction k with
 | zero=>intro _;rfl
 | succ k ih=>
  intro hk;have u:ops[k]?=some ops[k]:=cx (by omega);rw[(H k _ u).next];show f_ (st k).t _ _ x=_;cases D:ops[k].dst with
  | none=>exact ih (by omega)
  | some d'=>rw[f_,a_ _ _ (fun e=>z k _ u (by rw[D,e]))];exact ih (by omega)
theorem KA(u:mX C ops=true)(H:∀(i:Nat) o,ops[i]?=some o->DStep C ap ops.toList o (st i) (r i) (st (i+1))){j:Nat}{o:Oper}(z:ops[j]?=some o){d:Tmp}(I:o.dst=some d):∀k,k<=j->(st k).t d=(st 0).t d:=by
 obtain⟨_,hs,hp⟩:=mI u;have hj:=(dq.1 z).1;intro k
 induction k with
 | zero=>intro _;rfl
 | succ k ih=>
  intro hk;have D:ops[k]?=some ops[k]:=cx (by omega);rw[(H k _ D).next];show f_ (st k).t _ _ d=_;cases J:ops[k].dst with
  | none=>exact ih (by omega)
  | some N=>rw[f_,a_ _ _ (fun e=>(hp k j _ o (by omega) D z).dst N J (by rw[I,e]))];exact ih (by omega)
def KB(ops:Array Oper)(r:Nat->RR)(k d:Nat)(b:AB):Prop:=∃o,ops[k]?=some o/\o.dst=some d/\(r k).new=some b
def jI(ops:Array Oper)(r:Nat->RR)(i d:Nat):Prop:=∃k b,i<=k/\KB ops r k d b
theorem tO(Y:mX C ops=true)(H:∀(i:Nat) o,ops[i]?=some o->DStep C ap ops.toList o (st i) (r i) (st (i+1))){B:Nat->AB}(KD:∀k d b,KB ops r k d b->B d=b)(Cs:∀d,¬jI ops r 0 d->B d=(st 0).h d)(h0:∀d,jI ops r 0 d->(st 0).h d=.none):
  ∀i,i<=ops.size->∀d,(jI ops r i d->(st i).h d=.none/\Hn B r (fun _=>true) i d=B d)/\(¬jI ops r i d->(st i).h d=Hn B r (fun _=>true) i d):=by
 obtain⟨_,hs,hp⟩:=mI Y;intro i
 induction i with
 | zero=>intro _ d;exact⟨fun h=>⟨h0 d h,rfl⟩,fun h=>(Cs d h).symm⟩
 | succ i ih=>
  intro hi d;have ih:=ih (by omega);have U:ops[i]?=some ops[i]:=cx (by omega);have D:=H i _ U;have Z:=kV D.there;have WT:Hn B r (fun _=>true) (i+1)=app (Hn B r (fun _=>true) i) (r i).eff:=rfl;have Bk:(st (i+1)).h=qK (app (st i).h (r i).eff) (ops[i].dst.getD 0) (r i).new:=by rw[D.next]
  have out:jI ops r i d->∀p∈(r i).eff,p.1≠d:=fun N p Qm e=>by
   have u:=Z p Qm;rw[e,((ih d).1 N).1]at u;exact u
  have Ua:∀b,(r i).new=some b->∃z,ops[i].dst=some z:=fun b hb=>by
   have:=D.ndst;rw[hb]at this;cases hd:ops[i].dst with
   | none=>rw[hd]at this;cases this
   | some z=>exact⟨z,rfl⟩
  refine⟨fun N=>?_,fun N=>?_⟩
  ·have I:jI ops r i d:=by obtain⟨k,b,u,O⟩:=N;exact⟨k,b,by omega,O⟩
   obtain⟨u,O⟩:=(ih d).1 I;refine⟨?_,by rw[WT,ji (out I)];exact O⟩;rw[Bk];cases hn:(r i).new with
   | none=>show app _ _ d=_;rw[ji (out I)];exact u
   | some b=>
    obtain⟨z,V⟩:=Ua b hn;rw[V];show bq _ z b d=_;have cU:d≠z:=fun e=>by
     obtain⟨k,b',h3,o',J,W,h6⟩:=N;exact (hp i k _ o' (by omega) U J).dst z V (by rw[W,e])
    rw[a_ _ _ cU,ji (out I)];exact u
  by_cases R:∃b,KB ops r i d b
  ·obtain⟨b,R⟩:=R;have I:jI ops r i d:=⟨i,b,aF _,R⟩;obtain⟨o',J,W,h6⟩:=R;rw[U]at J;injection J with J;rw[Bk,WT,ji (out I),((ih d).1 I).2,h6,J,W,KD i d b ⟨o',by rw[U,J],W,h6⟩];exact aH _ _ _
  have I:¬jI ops r i d:=fun ⟨k,b,u,O⟩=>by
   by_cases e:k=i
   ·subst e;exact R ⟨b,O⟩
   exact N ⟨k,b,by omega,O⟩
  have u:=(ih d).2 I;rw[Bk,WT,<-wA (r i).eff u];cases hn:(r i).new with
  | none=>rfl
  | some b=>
   obtain⟨z,V⟩:=Ua b hn;rw[V];show bq _ z b d=_;rw[a_ _ _ (fun e=>R ⟨b,_,U,by rw[V,e],hn⟩)]
def KC(b b':AB):Prop:=b'=b\/(∃e es dA,b=.row e es/\b'=.row e dA)\/(∃cs nz,b=.box cs/\b'=.box nz)\/(∃mk es mk' dA,b=.map mk es/\b'=.map mk' dA)
theorem KC.trans{a b c:AB}(h:KC a b)(k:KC b c):KC a c:=by
 rcases h with rfl | ⟨e,es,D,rfl,rfl⟩ | ⟨cs,I,rfl,rfl⟩ | ⟨m,es,m',D,rfl,rfl⟩
 ·exact k
 ·rcases k with rfl | ⟨e',fs,z,u,rfl⟩ | ⟨cs,I,u,rfl⟩ | ⟨_,_,_,_,u,rfl⟩
  ·exact .inr (.inl ⟨_,_,_,rfl,rfl⟩)
  ·injection u with u h2;subst u;exact .inr (.inl ⟨_,_,_,rfl,rfl⟩)
  ·cases u
  cases u
 ·rcases k with rfl | ⟨e',fs,z,u,rfl⟩ | ⟨ds,J,u,rfl⟩ | ⟨_,_,_,_,u,rfl⟩
  ·exact .inr (.inr (.inl ⟨_,_,rfl,rfl⟩))
  ·cases u
  ·exact .inr (.inr (.inl ⟨_,_,rfl,rfl⟩))
  cases u
 rcases k with rfl | ⟨e',fs,z,u,rfl⟩ | ⟨ds,J,u,rfl⟩ | ⟨_,_,_,_,u,rfl⟩
 ·exact .inr (.inr (.inr ⟨_,_,_,_,rfl,rfl⟩))
 ·cases u
 ·cases u
 exact .inr (.inr (.inr ⟨_,_,_,_,rfl,rfl⟩))
theorem MI{b u:AB}(h:My b u=true):KC b u:=by
 cases b<;>cases u<;>first | (simp[My]at h;done) | skip
 ·have:=bw.1 h;subst this;exact .inr (.inl ⟨_,_,_,rfl,rfl⟩)
 ·exact .inr (.inr (.inl ⟨_,_,rfl,rfl⟩))
 exact .inr (.inr (.inr ⟨_,_,_,_,rfl,rfl⟩))
theorem uR{h:Nat->AB}:∀{fe:List (Nat×AB)},kU h fe=true->∀p∈fe,KC (h p.1) p.2:=by
 intro fe
 induction fe with
 | nil=>intro _ p hp;cases hp
 | cons x fe ih=>
  intro u p hp;simp only[kU,aK]at u;rcases aE.1 hp with e | e
  ·subst e;exact MI u.1
  exact ih u.2 p e
theorem zL(O:mX C ops=true)(H:∀(i:Nat) o,ops[i]?=some o->DStep C ap ops.toList o (st i) (r i) (st (i+1)))(V:ap=false){B:Nat->AB}(W:∀k d b,KB ops r k d b->B d=b)(Y:∀d,¬jI ops r 0 d->B d=(st 0).h d)(Z:∀d,jI ops r 0 d->(st 0).h d=.none)(E:Nat->Bool):
  ∀m,m<=ops.size->∀d,KC (B d) (Hn B r E m d):=by
 have N:=tO O H W Y Z;have u:∀m,m<=ops.size->∀d,KC (B d) (Hn B r (fun _=>true) m d):=by
  intro m
  induction m with
  | zero=>intro _ d;exact .inl rfl
  | succ m ih=>
   intro hm d;have R:ops[m]?=some ops[m]:=cx (by omega);have D:=H m _ R;show KC (B d) (app (Hn B r (fun _=>true) m) (r m).eff d);rcases fD (r m).eff (Hn B r (fun _=>true) m) d with⟨b,I,z⟩ | ⟨_,z⟩
   ·rw[z];have hk:=uR (D.kind V) _ I;have J:=kV D.there _ I;have U:¬jI ops r m d:=fun hp=>by rw[((N m (by omega) d).1 hp).1]at J;exact J
    rw[(N m (by omega) d).2 U]at hk;exact (ih (by omega) d).trans hk
   rw[z];exact ih (by omega) d
 intro m
 induction m with
 | zero=>intro _ d;exact .inl rfl
 | succ m ih=>
  intro hm d;have R:ops[m]?=some ops[m]:=cx (by omega);have D:=H m _ R;simp only[Hn];cases E m with
  | false=>exact ih (by omega) d
  | true=>
   show KC (B d) (app (Hn B r E m) (r m).eff d);rcases fD (r m).eff (Hn B r E m) d with⟨b,I,z⟩ | ⟨_,z⟩
   ·rw[z];have hk:=uR (D.kind V) _ I;have J:=kV D.there _ I;have U:¬jI ops r m d:=fun hp=>by rw[((N m (by omega) d).1 hp).1]at J;exact J
    rw[(N m (by omega) d).2 U]at hk;exact (u m (by omega) d).trans hk
   rw[z];exact ih (by omega) d
def VE(ops:Array Oper)(E:Nat->Bool)(x:Nat):Prop:=∀(k:Nat) o,ops[k]?=some o->o.dst=some x->E k=true
open Classical in
noncomputable def TE(ops:Array Oper)(st:Nat->AS)(E:Nat->Bool)(x:Nat):AV:=if VE ops E x then (st ops.size).t x else (st 0).t x
def LE(ops:Array Oper)(r:Nat->RR)(E:Nat->Bool)(d:Nat):Prop:=∀k b,KB ops r k d b->E k=true
variable {id:Nat}
theorem MJ{h:Nat->AB}{c:Nat}:∀{eff:List (Nat×AB)},(∀p∈eff,p.1=id->kc p.2=c)->kc (h id)=c->kc (app h eff id)=c:=by
 intro eff
 induction eff generalizing h with
 | nil=>intro _ u;exact u
 | cons p r ih=>
  intro z u;obtain⟨q,b⟩:=p;refine ih (h:=bq h q b) (fun p hp e=>z p (cK _ hp) e) ?_;by_cases e:id=q
  ·subst e;rw[aH];exact z _ bK rfl
  rw[a_ _ _ e];exact u
theorem HI{X:List Nat}{h:Nat->AB}(hid:BA X (id+1000000)=true):∀{eff:List (Nat×AB)},uP X h eff=true->∀p∈eff,p.1=id->kc p.2=kc (h id)/\kc (h id)≠0:=by
 intro eff
 induction eff with
 | nil=>intro _ p hp;cases hp
 | cons q r ih=>
  intro hk p hp e;obtain⟨i,b⟩:=q;unfold uP at hk;split at hk
  ·rename_i hi;simp only[aK,jj]at hk;obtain⟨z,u,D⟩:=hk;rcases aE.1 hp with rfl | hp
   ·simp only at e;subst e;exact⟨de z,fun I=>by rw[I]at u;cases u⟩
   exact ih D p hp e
  rename_i hi;rcases aE.1 hp with rfl | hp
  ·simp only at e;subst e;rw[hid]at hi;cases hi
  exact ih hk p hp e
theorem ML{X:List Nat}(hok:mX C ops=true)(H:∀(i:Nat) o,ops[i]?=some o->DStep C ap ops.toList o (st i) (r i) (st (i+1)))(W:∀k,k<ops.size->uP X (st k).h (r k).eff=true){B:Nat->AB}(J:∀i,i<=ops.size->∀d,(jI ops r i d->(st i).h d=.none/\Hn B r (fun _=>true) i d=B d)/\(¬jI ops r i d->(st i).h d=Hn B r (fun _=>true) i d))(E:Nat->Bool){i:Nat}(hid:BA X (id+1000000)=true)(hi:i<=ops.size)(N:(st i).h id≠.none):
  (kc (Hn B r E ops.size id)=kc ((st i).h id)/\kc ((st i).h id)≠0)\/Hn B r E ops.size id=(st i).h id:=by
 have D:∀k,k<=ops.size->(st k).h id≠.none->(st k).h id=Hn B r (fun _=>true) k id:=fun k hk h=>by
  by_cases hp:jI ops r k id
  ·exact absurd ((J k hk id).1 hp).1 h
  exact (J k hk id).2 hp
 have Y:∀{b:AB},kc b≠0->b≠.none:=fun hb e=>by rw[e]at hb;exact hb rfl
 have u:∀m,m<ops.size->∀p∈(r m).eff,p.1=id->kc p.2=kc (Hn B r (fun _=>true) m id)/\kc (Hn B r (fun _=>true) m id)≠0:=fun m z p hp e=>by
  obtain⟨O,I⟩:=HI hid (W m z) p hp e;rw[D m (by omega) (Y I)]at O I;exact⟨O,I⟩
 by_cases R:∃k,k<ops.size/\∃p∈(r k).eff,p.1=id
 ·left;have same:∀m,m<=ops.size->kc (Hn B r (fun _=>true) m id)=kc (B id):=by
   intro m
   induction m with
   | zero=>intro _;rfl
   | succ m ih=>
    intro z;have:=ih (by omega);show kc (app (Hn B r (fun _=>true) m) (r m).eff id)=_;exact MJ (fun p hp e=>(u m (by omega) p hp e).1.trans this) this
  have any:∀m,m<=ops.size->kc (Hn B r E m id)=kc (B id):=by
   intro m
   induction m with
   | zero=>intro _;rfl
   | succ m ih=>
    intro z;simp only[Hn];cases E m with
    | false=>exact ih (by omega)
    | true=>exact MJ (fun p hp e=>(u m (by omega) p hp e).1.trans (same m (by omega))) (ih (by omega))
  obtain⟨k,hk,p,hp,e⟩:=R;have U:=(u k hk p hp e).2;rw[same k (by omega)]at U;have hs:kc ((st i).h id)=kc (B id):=by rw[D i hi N];exact same i hi
  exact⟨by rw[any _ (aF _),hs],by rw[hs];exact U⟩
 right;have V:∀(F:Nat->Bool) m,m<=ops.size->Hn B r F m id=B id:=by
  intro F m
  induction m with
  | zero=>intro _;rfl
  | succ m ih=>
   intro z;simp only[Hn];cases F m with
   | false=>exact ih (by omega)
   | true=>
    show app (Hn B r F m) (r m).eff id=_;rw[ji fun p Z e=>R ⟨m,by omega,p,Z,e⟩];exact ih (by omega)
 rw[V E _ (aF _),D i hi N,V _ i hi]
theorem O2{A:qB}(hC:bR A.C)(S8:ap=ops.toList.any fun o=>kA A.C o.op)(U:mX A.C ops=true)(hd:∀o∈ops.toList,lU o A.n)(H:∀(i:Nat) o,ops[i]?=some o->DStep A.C ap ops.toList o (st i) (r i) (st (i+1)))(G:∀(i:Nat) o,ops[i]?=some o->zJ A.C ap X (jT A.C ap ops) o (st i) (r i) i){B:Nat->AB}(KD:∀k d b,KB ops r k d b->B d=b)(Cs:∀d,¬jI ops r 0 d->B d=(st 0).h d)(h0:∀d,jI ops r 0 d->(st 0).h d=.none)
  {E:Nat->Bool} (hE:HE ops E) {i:Nat} {o:Oper} (z:ops[i]?=some o) (hi:E i=false) (fi:∀e∈o.after,Region.binds .any e=true->E e.on=true) {S:Nat->Prop} {rho:Nat->Value} {a:Act} {w:World} (sim:cc A c_ (LE ops r E) S rho ⟨TE ops st E,Hn B r E ops.size⟩ a w)
  {Q:Exit->Act->World->Prop} {next:Act->World->Prop} (hnext:∀S' rho' a' w',cc A c_ (LE ops r fun k=>E k||cF k i) S' rho' ⟨TE ops st (fun k=>E k||cF k i),Hn B r (fun k=>E k||cF k i) ops.size⟩ a' w'->next a' w'):wpOp A.C.P ops Q i next a w:=by
 obtain⟨MN,hs,hp⟩:=mI U;rw[<-S8]at hp;obtain⟨Qn,Ub⟩:=Cr MN;have oL:i<ops.size:=(dq.1 z).1;have hh:=tO U H KD Cs h0;have D:=H i o z;have T1:lU o A.n:=hd o (an (by simpa using z));have bits:∀k,k<i->((Region.before ops).getD i 0).testBit k=true->E k=true:=Ub E hE i o z fi;have later:∀(k:Nat) ok,ops[k]?=some ok->i<k->((Region.before ops).getD k 0).testBit i=true->E k=false:=by
  intro k ok hk I_ WX;rw[cy];intro W;have:=Ub E hE k ok hk (fun e he hb=>hE k ok hk W e he hb) i I_ WX;rw[hi]at this;cases this
 have Cu:∀x,x∈o.looksAt ops->TE ops st E x=(st i).t x:=by
  intro x Y;unfold TE;split
  ·rename_i hv;by_cases hw:∃(k:Nat) (ok:Oper),ops[k]?=some ok/\ok.dst=some x
   ·obtain⟨k,ok,hk,V⟩:=hw;have Fv:=(dq.1 hk).1;rcases jP k i with h | h | h
    ·rw[HH U H hk V ops.size (by omega) (aF _),HH U H hk V i (by omega) (by omega)]
    ·subst h;rw[z]at hk;injection hk with hk;subst hk;exact absurd Y (hs k o z x V)
    have J:=later k ok hk h ((hp i k o ok h z hk).war x V Y);rw[hv k ok hk V]at J;cases J
   have O:∀(k:Nat) o,ops[k]?=some o->o.dst≠some x:=fun k o hk e=>hw ⟨k,o,hk,e⟩;rw[Du H O ops.size (aF _),Du H O i (by omega)]
  rename_i hv;have hex:∃(k:Nat) (ok:Oper),ops[k]?=some ok/\ok.dst=some x/\E k=false:=Classical.byContradiction fun hn=>hv fun k ok hk V=>by
   cases Zp:E k with
   | true=>rfl
   | false=>exact absurd ⟨k,ok,hk,V,Zp⟩ hn
  obtain⟨k,ok,hk,V,W⟩:=hex;rcases jP k i with h | h | h
  ·have:=bits k h ((hp k i ok o h hk z).raw x V Y);rw[W]at this;cases this
  ·subst h;rw[z]at hk;injection hk with hk;subst hk;exact absurd Y (hs k o z x V)
  exact (KA U H hk V i (by omega)).symm
 have Qo:(cls A.C ap o.op=3\/(cls A.C ap o.op=2/\(jT A.C ap ops)[i]?=some true))->∀k,i<k->k<ops.size->E k=true->(r k).eff=[]:=by
  intro hc k I_ Fv W;have hk:ops[k]?=some ops[k]:=cx Fv;by_cases I:cls A.C ap ops[k].op=3
  ·have:=later k _ hk I_ (by
    rcases hc with hc | ⟨hc,hf⟩
    ·exact (hp i k o _ I_ z hk).w3 I hc
    exact (wz z hf hc k _ hk I).2 I_)
   rw[W]at this;cases this
  exact (H k _ hk).quiet I
 have MO:∀k,k<ops.size->(r k).eff≠[]->cls A.C ap (ops[k]?.getD o).op=3:=by
  intro k hk O;have J1:ops[k]?=some ops[k]:=cx hk;rw[J1];by_cases I:cls A.C ap ops[k].op=3
  ·exact I
  exact absurd ((H k _ J1).quiet I) O
 have MP:(cls A.C ap o.op=3\/(cls A.C ap o.op=2/\(jT A.C ap ops)[i]?=some true))->Hn B r E ops.size=Hn B r (fun _=>true) i:=by
  intro hc;refine Ql i ops.size (fun k Fv=>?_) (by omega);have hk:ops[k]?=some ops[k]:=cx Fv;by_cases O:(r k).eff=[]
  ·exact .inr O
  have I:=MO k Fv O;rw[hk]at I;have I:cls A.C ap ops[k].op=3:=I;refine .inl ⟨fun W=>?_,fun gY=>?_⟩
  ·rcases jP k i with h | h | h
   ·exact h
   ·subst h;rw[hi]at W;cases W
   exact absurd (Qo hc k h Fv W) O
  rcases hc with hc | ⟨hc,hf⟩
  ·exact bits k gY ((hp k i _ o gY hk z).w3 hc I)
  exact bits k gY ((wz z hf hc k _ hk I).1 gY)
 have WY:cls A.C ap o.op=2->OY o.op=false->∀id,BA X id=true->Hn B r E ops.size id=Hn B r (fun _=>true) i id:=fun hc hth id hid=>by
  refine T_ i ops.size (fun k Fv=>?_) (by omega);have hk:ops[k]?=some ops[k]:=cx Fv;by_cases O:∀p∈(r k).eff,p.1≠id
  ·exact .inr O
  have Kb:(r k).eff≠[]:=fun e=>O (by rw[e];simp);have I:cls A.C ap ops[k].op=3:=by have:=MO k Fv Kb;rw[hk]at this;exact this
  have WZ:(r k).run=true:=by
   cases hr:(r k).run with
   | true=>rfl
   | false=>exact absurd ((H k _ hk).not hr).2.1 Kb
  have hf:(jT A.C ap ops)[k]?=some true:=by
   rcases (G k _ hk WZ).2.1 with h | h
   ·exact h
   exact absurd (fun p hp e=>by have:=Fx h p hp;rw[e,hid]at this;cases this) O
  have ord:=zK hk hf I i o z hc hth;refine .inl ⟨fun W=>?_,fun gY=>?_⟩
  ·rcases jP k i with h | h | h
   ·exact h
   ·subst h;rw[hi]at W;cases W
   have:=later k _ hk h (ord.1 h);rw[W]at this;cases this
  exact bits k gY (ord.2 gY)
 have ext:∀id,(st i).h id=.none\/Hn B r (fun _=>true) i id=(st i).h id:=by
  intro id;by_cases Ct:jI ops r i id
  ·exact .inl ((hh i (by omega) id).1 Ct).1
  exact .inr ((hh i (by omega) id).2 Ct).symm
 have Yl:(r i).run=true->bV A.C o (ev (TE ops st E)) (Hn B r E ops.size) fun v e n=>v=(r i).v/\e=(r i).eff/\n=(r i).new:=by
  intro u;have J:=D.ran u;have Z:bV A.C o (ev (TE ops st E)) (st i).h fun v e n=>v=(r i).v/\e=(r i).eff/\n=(r i).new:=by
   refine rY (fun x Y=>?_) J;cases x with
   | tmp t=>
    exact (Cu t (jS _ (rX.2 ⟨.tmp t,by simpa using Y,rfl⟩))).symm
   | const v=>rfl
   | global g=>rfl
   | func f=>rfl
  have four:cls A.C ap o.op=0\/cls A.C ap o.op=1\/cls A.C ap o.op=2\/cls A.C ap o.op=3:=by
   have:=MF A.C ap o.op;omega
  rcases four with h | h | h | h
  ·exact Ru h Z
  ·have Uc:ap=false:=by
    cases W0:ap with
    | false=>rfl
    | true=>
     rw[W0]at h;exact absurd h (MG A.C o.op)
   refine Rv h (fun id ht=>?_) Z;have Qp:=zL U H Uc KD Cs h0 E ops.size (aF _) id;have Ud:=zL U H Uc KD Cs h0 (fun _=>true) i (by omega) id;have heq:(st i).h id=Hn B r (fun _=>true) i id:=by
    rcases ext id with e | e
    ·rw[e]at ht;exact ht.elim
    exact e.symm
   rw[<-heq]at Ud;rcases Ud with e | ⟨e,es,dA,e1,e2⟩ | ⟨cs,nz,e1,e2⟩ | ⟨m,es,m',dA,e1,e2⟩
   ·rw[<-e]at Qp;rcases Qp with f | ⟨f,fs,RA,N,f2⟩ | ⟨cs,nz,N,f2⟩ | ⟨m,es,m',dA,N,f2⟩
    ·rw[f];exact⟨ht,fun e es h=>⟨es,h⟩,fun cs h=>⟨cs,h⟩,fun cs h=>⟨cs,h⟩,fun e es h=>⟨es,h⟩⟩
    ·rw[N,f2];exact⟨trivial,fun e es h=>(by injection h with J Z;subst J;exact⟨RA,rfl⟩),fun cs h=>(by cases h),fun cs h=>(by cases h),fun _ _ h=>by cases h⟩
    ·rw[N,f2];exact⟨trivial,fun e es h=>by (cases h),fun cs h=>⟨nz,rfl⟩,fun cs h=>(by cases h),fun _ _ h=>by cases h⟩
    rw[N,f2];exact⟨trivial,fun e es h=>by (cases h),fun cs h=>by (cases h),fun cs h=>(by cases h),fun _ _ h=>by cases h⟩
   ·rw[e1]at Qp;rw[e2];rcases Qp with f | ⟨f,fs,RA,N,f2⟩ | ⟨cs,nz,N,f2⟩ | ⟨m,es,m',dA,N,f2⟩
    ·rw[f];exact⟨trivial,fun e es h=>(by injection h with J Z;subst J;exact⟨_,rfl⟩),fun cs h=>by (cases h),fun cs h=>(by cases h),fun _ _ h=>by cases h⟩
    ·injection N with N _;subst N;rw[f2];exact⟨trivial,fun e es h=>(by injection h with J Z;subst J;exact⟨_,rfl⟩),fun cs h=>by (cases h),fun cs h=>(by cases h),fun _ _ h=>by cases h⟩
    ·cases N
    cases N
   ·rw[e1]at Qp;rw[e2];rcases Qp with f | ⟨f,fs,RA,N,f2⟩ | ⟨ds,WU,N,f2⟩ | ⟨m,es,m',dA,N,f2⟩
    ·rw[f];exact⟨trivial,fun e es h=>by (cases h),fun cs h=>⟨_,rfl⟩,fun cs h=>(by cases h),fun _ _ h=>by cases h⟩
    ·cases N
    ·rw[f2];exact⟨trivial,fun e es h=>by (cases h),fun cs h=>⟨_,rfl⟩,fun cs h=>(by cases h),fun _ _ h=>by cases h⟩
    cases N
   rw[e1]at Qp;rw[e2];rcases Qp with f | ⟨f,fs,RA,N,f2⟩ | ⟨ds,WU,N,f2⟩ | ⟨m,es,m',dA,N,f2⟩
   ·rw[f];exact⟨trivial,fun e es h=>by (cases h),fun cs h=>by (cases h),fun cs h=>(by cases h),fun _ _ h=>by cases h⟩
   ·cases N
   ·cases N
   rw[f2];exact⟨trivial,fun e es h=>by (cases h),fun cs h=>by (cases h),fun cs h=>(by cases h),fun _ _ h=>by cases h⟩
  ·rcases (G i o z u).1 with hf | hpv | hfp | hth | I
   case inr.inr.inr.inr=>rw[h]at I;cases I
   case inr.inr.inr.inl=>
    have MM:∀k,k<ops.size->uP X (st k).h (r k).eff=true:=fun k Fv=>by
     have hk:ops[k]?=some ops[k]:=cx Fv;cases hr:(r k).run with
     | true=>exact (G k _ hk hr).2.2
     | false=>rw[((H k _ hk).not hr).2.1];rfl
    refine rY (fun x Y=>?_) (Ry (h':=Hn B r E ops.size) (fun id hid O=>ML U H MM hh E hid (by omega) O) hth J);cases x with
    | tmp t=>
     exact (Cu t (jS _ (rX.2 ⟨.tmp t,by simpa using Y,rfl⟩))).symm
    | const v=>rfl
    | global g=>rfl
    | func f=>rfl
   case inr.inr.inl=>
    refine rY (fun x Y=>?_) (Rx (h':=Hn B r E ops.size) (fun id hid=>?_) hfp J)
    ·cases x with
     | tmp t=>
      exact (Cu t (jS _ (rX.2 ⟨.tmp t,by simpa using Y,rfl⟩))).symm
     | const v=>rfl
     | global g=>rfl
     | func f=>rfl
    rw[WY h (I9 hfp) id hid];exact ext id
   case inr.inl=>
    refine rY (fun x Y=>?_) (Rw hpv J);cases x with
    | tmp t=>
     exact (Cu t (jS _ (rX.2 ⟨.tmp t,by simpa using Y,rfl⟩))).symm
    | const v=>rfl
    | global g=>rfl
    | func f=>rfl
   rw[MP (.inr ⟨h,hf⟩)];obtain⟨v,e,n,⟨rfl,rfl,rfl⟩,h4⟩:=rV ext Z;exact h4 _ ⟨rfl,rfl,rfl⟩
  rw[MP (.inl h)];obtain⟨v,e,n,⟨rfl,rfl,rfl⟩,h4⟩:=rV ext Z;exact h4 _ ⟨rfl,rfl,rfl⟩
 have Qq:∀x,o.dst≠some x->(VE ops (fun k=>E k||cF k i) x↔VE ops E x):=by
  intro x Y;refine⟨fun hv k ok hk V=>?_,fun hv k ok hk V=>by simp[hv k ok hk V]⟩;have:=hv k ok hk V;simp only[eG]at this;rcases this with h | h
  ·exact h
  have:=bw.1 h;subst this;rw[z]at hk;injection hk with hk;subst hk;exact absurd V Y
 have Ue:∀v,v=(r i).v->f_ (TE ops st E) o.dst v=TE ops st (fun k=>E k||cF k i):=by
  intro v hv;funext x;have other:o.dst≠some x->TE ops st E x=TE ops st (fun k=>E k||cF k i) x:=fun Y=>by
   unfold TE;by_cases VC:VE ops E x
   ·rw[ae VC,ae ((Qq x Y).2 VC)]
   rw[aa VC,aa fun h=>VC ((Qq x Y).1 h)]
  cases mi:o.dst with
  | none=>exact other (by rw[mi];intro h;cases h)
  | some d=>
   show bq _ _ _ _=_;by_cases e:x=d
   ·subst e;rw[aH];unfold TE;rw[ae,HH U H z mi ops.size (by omega) (aF _),hv];intro k ok hk V;have:k=i:=by
     rcases jP k i with h5 | h5 | h5
     ·exact absurd mi ((hp k i ok o h5 hk z).dst x V)
     ·exact h5
     exact absurd V ((hp i k o ok h5 z hk).dst x mi)
    simp[this,bw.2]
   rw[a_ _ _ e];exact other fun h=>e (by rw[mi]at h;injection h with h;exact h.symm)
 unfold wpOp;simp only[z];by_cases u:(r i).run=true
 ·have zE:Region.wanted o (yielded ops a.tmps)=true:=by
   have hg:=D.guard;unfold Region.wanted;split at hg
   ·rename_i h;rw[h]
   rename_i g want h;rw[h];obtain⟨og,tg,b,k1,k2,k3,k4⟩:=hg;have MQ:tg∈o.looksAt ops:=yP _ (by rw[h];simp[show ops[g]?=some og by simpa using k1,k2]);have:=pE sim (ops:=ops) (g:=g) (by simpa using k1) k2 trivial (by show TE ops st E tg=_;rw[Cu tg MQ];exact k3);simp only[this];rw[u]at k4;exact k4.symm
  rw[ae zE];refine .inl (Mm A o _ _ _ _ _ _ _ _ next Q hC sim (fun _ _=>trivial) T1 (Yl u) (fun v eff b hk=>?_) fun v eff new S' rho' a' w' hk ca=>?_)
  ·obtain⟨_,_,Om⟩:=hk;obtain⟨d,mi⟩:∃d,o.dst=some d:=by
    have:=D.ndst;rw[<-Om]at this;cases Co:o.dst with
    | none=>rw[Co]at this;cases this
    | some d=>exact⟨d,rfl⟩
   have R:KB ops r i d b:=⟨o,z,mi,Om.symm⟩;rw[mi];refine⟨fun hL=>(by have:=hL i b R;rw[hi]at this;cases this),?_⟩;show Hn B r E ops.size d=b;have Ct:jI ops r i d:=⟨i,b,aF _,R⟩;have O:∀k,k<ops.size->E k=true->∀p∈(r k).eff,p.1≠d:=by
    intro k Fv W p Qm e;have hk:ops[k]?=some ops[k]:=cx Fv;have ht:=kV (H k _ hk).there p Qm;rcases jP k i with h | h | h
    ·have Ls:jI ops r k d:=⟨i,b,by omega,R⟩;rw[e,((hh k (by omega) d).1 Ls).1]at ht;exact ht
    ·subst h;rw[hi]at W;cases W
    have I:cls A.C ap ops[k].op=3:=by
     by_cases I:cls A.C ap ops[k].op=3
     ·exact I
     have:=(H k _ hk).quiet I;rw[this]at Qm;cases Qm
    have hmk:cls A.C ap o.op=3\/cls A.C ap o.op=2:=O1 (ap:=ap) (Yl u) Om;have:=later k _ hk h (by
     rcases hmk with hmk | hmk
     ·exact (hp i k o _ h z hk).w3 I hmk
     rcases (G i o z u).1 with hf | hpv | hfp | hth | h3'
     ·exact (wz z hf hmk k _ hk I).2 h
     ·have:=Hy hpv (D.ran u);rw[<-Om]at this;cases this
     ·rcases Hz hfp (D.ran u) with Bx | hdX
      ·rw[<-Om]at Bx;cases Bx
      rw[mi]at hdX;have hdX:BA X d=true:=hdX;have Kb:(r k).eff≠[]:=fun e=>by rw[e]at Qm;cases Qm
      have WZ:(r k).run=true:=by
       cases hr:(r k).run with
       | true=>rfl
       | false=>exact absurd ((H k _ hk).not hr).2.1 Kb
      have hf:(jT A.C ap ops)[k]?=some true:=by
       rcases (G k _ hk WZ).2.1 with h | h
       ·exact h
       have:=Fx h p Qm;rw[e,hdX]at this;cases this
      exact (zK hk hf I i o z hmk (I9 hfp)).1 h
     ·have:=HA hth (D.ran u);rw[<-Om]at this;cases this
     rw[hmk]at h3';cases h3')
    rw[W]at this;cases this
   have:∀m,m<=ops.size->Hn B r E m d=B d:=by
    intro m
    induction m with
    | zero=>intro _;rfl
    | succ m ih=>
     intro hm;simp only[Hn];cases Zq:E m with
     | false=>exact ih (by omega)
     | true=>
      show app (Hn B r E m) (r m).eff d=_;rw[ji (O m (by omega) Zq)];exact ih (by omega)
   rw[this ops.size (aF _),KD i d b R]
  obtain⟨e1,e2,e3⟩:=hk;refine hnext S' rho' a' w' ?_;have hH:app (Hn B r E ops.size) eff=Hn B r (fun k=>E k||cF k i) ops.size:=by
   rw[e2];by_cases O:(r i).eff=[]
   ·rw[O];show Hn B r E ops.size=_;have:∀m,Hn B r (fun k=>E k||cF k i) m=Hn B r E m:=by
     intro m
     induction m with
     | zero=>rfl
     | succ m ih=>
      simp only[Hn];rw[ih];by_cases e:m=i
      ·subst e;rw[hi,bw.2 rfl,O];rfl
      have:cF m i=false:=by rw[cy];intro h;exact e (bw.1 h)
      rw[this,nX]
    exact (this _).symm
   have I:cls A.C ap o.op=3:=by
    by_cases I:cls A.C ap o.op=3
    ·exact I
    exact absurd (D.quiet I) O
   exact (Rz hi ops.size (Qo (.inl I)) oL).symm
  have bD:=ca;rw[Ue v e1]at bD;have gp:cc A (zl c_ o.dst) (C8 (LE ops r E) new (o.dst.getD 0)) S' rho' ⟨TE ops st (fun k=>E k||cF k i),Hn B r (fun k=>E k||cF k i) ops.size⟩ a' w':=by rw[<-hH];exact bD
  refine gp.s5 (fun _ _=>.inl trivial) fun d=>?_;cases Uf:new with
  | none=>
   refine⟨fun h k b R=>?_,fun h k b R=>by simp[h k b R]⟩;have:=h k b R;simp only[eG]at this;rcases this with h | h
   ·exact h
   have:=bw.1 h;subst this;obtain⟨o',J,Z,h4⟩:=R;rw[<-e3,Uf]at h4;cases h4
  | some b=>
   obtain⟨d',mi⟩:∃d,o.dst=some d:=by
    have:=D.ndst;rw[<-e3,Uf]at this;cases Co:o.dst with
    | none=>rw[Co]at this;cases this
    | some d=>exact⟨d,rfl⟩
   rw[mi];show _↔(LE ops r E d\/d=d');refine⟨fun h=>?_,fun h k b' R=>?_⟩
   ·by_cases e:d=d'
    ·exact .inr e
    refine .inl fun k b' R=>?_;have:=h k b' R;simp only[eG]at this;rcases this with h | h
    ·exact h
    have:=bw.1 h;subst this;obtain⟨o',J,Z,h4⟩:=R;rw[z]at J;injection J with J;rw[<-J,mi]at Z;injection Z with Z;exact absurd Z.symm e
   rcases h with h | h
   ·simp[h k b' R]
   obtain⟨o',J,Z,h4⟩:=R;have:k=i:=by
    rcases jP k i with h5 | h5 | h5
    ·exact absurd (by rw[mi,h]) ((hp k i o' o h5 J z).dst d Z)
    ·exact h5
    exact absurd (by rw[Z,h]) ((hp i k o o' h5 z J).dst d' mi)
   simp[this,bw.2]
 have MR:(r i).run=false:=by simpa using u
 obtain⟨n1,n2,n3⟩:=D.not MR;have zE:Region.wanted o (yielded ops a.tmps)=false:=by
  have hg:=D.guard;unfold Region.wanted;split at hg
  ·rw[MR]at hg;cases hg
  rename_i g want h;rw[h];obtain⟨og,tg,b,k1,k2,k3,k4⟩:=hg;have MQ:tg∈o.looksAt ops:=yP _ (by rw[h];simp[show ops[g]?=some og by simpa using k1,k2]);have:=pE sim (ops:=ops) (g:=g) (by simpa using k1) k2 trivial (by show TE ops st E tg=_;rw[Cu tg MQ];exact k3);simp only[this];rw[MR]at k4;exact k4.symm
 rw[aa (by rw[zE];decide)];refine hnext S rho _ _ ?_;have bD:=sim.value o.dst T1 s6 undef (.p _ _ (.im _));rw[Ue s6 n1.symm]at bD;have hH:Hn B r (fun k=>E k||cF k i) ops.size=Hn B r E ops.size:=by
  have:∀m,Hn B r (fun k=>E k||cF k i) m=Hn B r E m:=by
   intro m
   induction m with
   | zero=>rfl
   | succ m ih=>
    simp only[Hn];rw[ih];by_cases e:m=i
    ·subst e;rw[hi,bw.2 rfl,n2];rfl
    have:cF m i=false:=by rw[cy];intro h;exact e (bw.1 h)
    rw[this,nX]
  exact this _
 rw[hH];refine bD.s5 (fun _ _=>.inl trivial) fun d=>⟨fun h k b R=>?_,fun h k b R=>by simp[h k b R]⟩;have:=h k b R;simp only[eG]at this;rcases this with h | h
 ·exact h
 have:=bw.1 h;subst this;obtain⟨o',J,Z,h4⟩:=R;rw[n3]at h4;cases h4
theorem filter_lt{p q:Nat->Bool}(z:∀x,q x=true->p x=true){i:Nat}(hp:p i=true)(D:q i=false):∀(l:List Nat),(l.filter q).length<=(l.filter p).length/\(i∈l->(l.filter q).length<(l.filter p).length):=by
 intro l
 induction l with
 | nil=>exact⟨aF _,fun h=>by cases h⟩
 | cons x l ih=>
  simp only[List.filter_cons];refine⟨?_,fun h=>?_⟩
  ·cases u:q x with
   | true=>rw[z x u];simp;exact ih.1
   | false=>cases p x<;>simp<;>have:=ih.1<;>omega
  rcases aE.1 h with e | e
  ·subst e;rw[hp,D];simp;have:=ih.1;omega
  have:=ih.2 e;cases u:q x with
  | true=>rw[z x u];simp;exact this
  | false=>cases p x<;>simp<;>omega
theorem O3{A:qB}(hC:bR A.C)(S8:ap=ops.toList.any fun o=>kA A.C o.op)(N:mX A.C ops=true)(hd:∀o∈ops.toList,lU o A.n)(H:∀(i:Nat) o,ops[i]?=some o->DStep A.C ap ops.toList o (st i) (r i) (st (i+1)))(G:∀(i:Nat) o,ops[i]?=some o->zJ A.C ap X (jT A.C ap ops) o (st i) (r i) i){B:Nat->AB}(KD:∀k d b,KB ops r k d b->B d=b)(Cs:∀d,¬jI ops r 0 d->B d=(st 0).h d)(h0:∀d,jI ops r 0 d->(st 0).h d=.none)
  {Q:Exit->Act->World->Prop} (hQ:∀S rho a w,cc A c_ c_ S rho (st ops.size) a w->Q .normal a w):
  ∀(z:Nat) (u:Array Bool) (S:Nat->Prop) (rho:Nat->Value) (a:Act) (w:World),u.size=ops.size->HE ops (fun i=>u.getD i false)->((List.range ops.size).filter fun i=>!u.getD i false).length<=z ->
   cc A c_ (LE ops r fun i=>u.getD i false) S rho ⟨TE ops st (fun i=>u.getD i false),Hn B r (fun i=>u.getD i false) ops.size⟩ a w->wpAny A.C.P .any ops Q z u a w:=by
 obtain⟨MN,hs,hp⟩:=mI N;obtain⟨Qn,_⟩:=Cr MN;have hh:=tO N H KD Cs h0;have fin:∀(u:Array Bool) (S:Nat->Prop) (rho:Nat->Value) (a:Act) (w:World),u.size=ops.size->Region.ready .any ops u=[]->cc A c_ (LE ops r fun i=>u.getD i false) S rho ⟨TE ops st (fun i=>u.getD i false),Hn B r (fun i=>u.getD i false) ops.size⟩ a w->Q .normal a w:=by
  intro u S rho a w I R D;have all:∀i,i<ops.size->u.getD i false=true:=by
   intro i
   induction i using Nat.strongRecOn with
   | _ i ih=>
    intro hi;have J:ops[i]?=some ops[i]:=cx hi;cases Z:u.getD i false with
    | true=>rfl
    | false=>
     have:i∈Region.ready .any ops u:=mem_ready.2 ⟨getD_in (by omega) Z,_,J,fun e W hb=>by
      have U:=Qn i _ J e W hb;exact ih e.on U (by omega)⟩
     rw[R]at this;cases this
  refine hQ S rho a w ?_;have hH:Hn B r (fun i=>u.getD i false) ops.size=(st ops.size).h:=by
   rw[Ql ops.size ops.size (fun k hk=>.inl ⟨fun _=>hk,fun _=>all k hk⟩) (aF _)];funext d;refine ((hh ops.size (aF _) d).2 fun ⟨k,b,U,o,h2,_⟩=>?_).symm;have:=(dq.1 h2).1;omega
  have hT:TE ops st (fun i=>u.getD i false)=(st ops.size).t:=funext fun x=>ae fun k o hk _=>all k (dq.1 hk).1;rw[hH,hT]at D;refine D.s5 (fun _ _=>trivial) fun d=>⟨fun _ k b hc=>?_,fun _=>trivial⟩;obtain⟨o,h2,_⟩:=hc;exact all k (dq.1 h2).1
 intro z
 induction z with
 | zero=>
  intro u S rho a w I O Ug D;have R:Region.ready .any ops u=[]:=by
   rw[List.eq_nil_iff_forall_not_mem];intro i hi;obtain⟨U,o,J,_⟩:=mem_ready.1 hi;have Y:=(dq.1 J).1;have hm:i∈(List.range ops.size).filter fun i=>!u.getD i false:=ml.2 ⟨fN.2 Y,by rw[getD_both U];rfl⟩;have:=cP (Nat.le_zero.1 Ug);rw[this]at hm;cases hm
  exact⟨R,fin u S rho a w I R D⟩
 | succ z ih=>
  intro u S rho a w I O Ug D;refine⟨fun R=>fin u S rho a w I R D,fun i hi=>?_⟩;obtain⟨U,o,J,fi⟩:=mem_ready.1 hi;have Y:=(dq.1 J).1;have Ym:u.getD i false=false:=getD_both U;have Dw:(fun k=>(u.setIfInBounds i true).getD k false)=fun k=>u.getD k false||cF k i:=by
   funext k;by_cases e:i=k
   ·subst e;rw[bw.2 rfl,pB];simp[I,Y]
   rw[getD_set_ne false e];have:cF k i=false:=by rw[cy];intro h;exact e (bw.1 h).symm
   rw[this,nX]
  refine O2 hC S8 N hd H G KD Cs h0 (E:=fun i=>u.getD i false) O J Ym fi D fun S' rho' a' w' ca=>?_;refine ih (u.setIfInBounds i true) S' rho' a' w' (by simp[I]) ?_ ?_ ?_
  ·rw[Dw];intro j oj V Yn e W hb;simp only[eG]at Yn ⊢;rcases Yn with h | h
   ·exact .inl (O j oj V h e W hb)
   have:=bw.1 h;subst this;rw[J]at V;injection V with V;subst V;exact .inl (fi e W hb)
  ·have Qr:∀k,(u.setIfInBounds i true).getD k false=(u.getD k false||cF k i):=fun k=>congrFun Dw k;have:=(filter_lt (p:=fun k=>!u.getD k false) (q:=fun k=>!(u.setIfInBounds i true).getD k false) (fun x hx=>by
    rw[Qr x]at hx;cases Z:u.getD x false with
    | true=>rw[Z]at hx;cases hx
    | false=>rfl) (i:=i) (by rw[Ym];rfl) (by rw[Qr i,bw.2 rfl,pB];rfl) (List.range ops.size)).2 (fN.2 Y)
   omega
  rw[Dw];exact ca
end
def HX.jz:List HX->List AV
 | []=>[]
 | .av x::r=>x::HX.jz r
 | .row _ _::r=>HX.jz r
theorem HX.Dx(f:AV->AV):∀(r:List HX),HX.jz (r.map (HX.iT f))=(HX.jz r).map f
 | []=>rfl
 | .av x::r=>by simp[HX.jz,HX.iT,HX.Dx f r]
 | .row _ _::r=>by simp[HX.jz,HX.iT,HX.Dx f r]
theorem HX.Dy{x:AV}:∀{r:List HX},.av x∈r->x∈HX.jz r
 | .av y::r,h=>by
  rcases aE.1 h with h | h
  ·injection h with h;subst h;simp[HX.jz]
  simp[HX.jz,HX.Dy h]
 | .row _ _::r,h=>by
  rcases aE.1 h with h | h
  ·cases h
  simp[HX.jz,HX.Dy h]
def Dz:AB->List AV
 | .box cs=>cs
 | .jF _ cs=>cs
 | .ay _ es=>es.flatMap HX.jz
 | _=>[]
theorem zM(d:Nat)(b:AB):Dz (yO d b)=(Dz b).map (sc d):=by
 cases b with
 | ay e es=>
  show (es.map fun r=>r.map (HX.iT (sc d))).flatMap HX.jz=(es.flatMap HX.jz).map (sc d)
  induction es with
  | nil=>rfl
  | cons r es ih=>simp only[fJ,Ds,bz,ih,HX.Dx]
 | _=>rfl
def xw(d:Nat)(s:AS):Prop:=s.h d=.none/\(∀j,tf d (s.t j)=false)/\∀k,∀x∈Dz (s.h k),tf d x=false
theorem MS(d:Nat)(x:AV):tf d (sc d x)=false:=by
 rw[Mo];split
 ·rfl
 assumption
variable {d:Nat}
theorem Ja{u:Nat}{x:AV}(h:tf d x=false):tf d (sc u x)=false:=by
 rw[Mo];split
 ·rfl
 exact h
theorem Jb(d:Nat)(s:AS)(k:Nat):(k=d/\(jH d s).h k=.none)\/(k≠d/\(jH d s).h k=yO d (s.h k)):=by
 by_cases e:k=d
 ·subst e;exact .inl ⟨rfl,by show bq (fun u=>yO k (s.h u)) k AB.none k=_;rw[aH]⟩
 exact .inr ⟨e,by show bq (fun u=>yO d (s.h u)) d AB.none k=_;rw[a_ _ _ e]⟩
theorem Cv(d:Nat)(s:AS):xw d (jH d s):=by
 refine⟨by rcases Jb d s d with⟨_,h⟩ | ⟨h,_⟩;exact h;exact absurd rfl h,fun j=>MS d _,fun k x u=>?_⟩;rcases Jb d s k with⟨_,h⟩ | ⟨_,h⟩
 ·rw[h]at u;cases u
 rw[h,zM]at u;obtain⟨y,_,rfl⟩:=bF.1 u;exact MS d y
variable {s:AS}
theorem HJ(z:Nat)(D:xw d s):xw d (jH z s):=by
 obtain⟨I,J,N⟩:=D;refine⟨?_,fun j=>Ja (J j),fun k x u=>?_⟩
 ·rcases Jb z s d with⟨_,h⟩ | ⟨_,h⟩
  ·exact h
  rw[h,I];rfl
 rcases Jb z s k with⟨_,h⟩ | ⟨_,h⟩
 ·rw[h]at u;cases u
 rw[h,zM]at u;obtain⟨y,O,rfl⟩:=bF.1 u;exact Ja (N k y O)
def zN:List Oper->AS->AS
 | [],s=>s
 | o::r,s=>match qQ o.op with
  | true=>zN r (jH (o.dst.getD 0) s)
  | false=>zN r s
theorem HK:∀(l:List Oper) (s:AS),(∀d,xw d s->xw d (zN l s))/\∀o∈l,qQ o.op=true->xw (o.dst.getD 0) (zN l s):=by
 intro l
 induction l with
 | nil=>intro s;exact⟨fun _ h=>h,fun o h=>by cases h⟩
 | cons o l ih=>
  intro s;unfold zN;split
  ·rename_i z;refine⟨fun d D=>(ih _).1 d (HJ _ D),fun o' I u=>?_⟩;rcases aE.1 I with e | e
   ·subst e;exact (ih _).1 _ (Cv _ _)
   exact (ih _).2 o' e u
  rename_i z;refine⟨fun d D=>(ih _).1 d D,fun o' I u=>?_⟩;rcases aE.1 I with e | e
  ·subst e;rw[u]at z;cases z
  exact (ih _).2 o' e u
variable {A:qB} {rho:Nat->Value}
theorem cc.jH{S:Nat->Prop}{a:Act}{w:World}(u:cc A c_ c_ S rho s a w)(d:Nat):cc A c_ c_ S rho (jH d s) a w:=by
 have z:=u.free d .none;have D:(AM.jH d s).h d=.none:=(Cv d s).1;rw[jO _ _ _ D]at z;exact z.I6 d D
theorem cc.pre{S:Nat->Prop}{a:Act}{w:World}:∀(l:List Oper) (s:AS),cc A c_ c_ S rho s a w->cc A c_ c_ S rho (zN l s) a w:=by
 intro l
 induction l with
 | nil=>intro s u;exact u
 | cons o l ih=>
  intro s u;unfold zN;split
  ·exact ih _ (u.jH _)
  exact ih _ u
def zO(o:Oper)(s:AS):AS:=match o.op,o.dst with
 | .assign _,some d=>match s.t d with
  | .ow i=>match s.h i with
   | .row _ _=>match cF i d with
    | true=>s
    | false=>nE i d s
   | .ay _ _=>match cF i d with
    | true=>s
    | false=>nE i d s
   | _=>s
  | _=>s
 | _,_=>s
def Cw:List Oper->AS->AS
 | [],s=>s
 | o::r,s=>Cw r (zO o s)
theorem cc.post{S:Nat->Prop}{a:Act}{w:World}:∀(l:List Oper) (rho:Nat->Value) (s:AS),(∀o∈l,lU o A.n)->cc A c_ c_ S rho s a w->∃rho',cc A c_ c_ S rho' (Cw l s) a w:=by
 intro l
 induction l with
 | nil=>intro rho s _ u;exact⟨rho,u⟩
 | cons o l ih=>
  intro rho s D u;have J:∀o∈l,lU o A.n:=fun o' N=>D o' (by simp[N]);have:∃rho',cc A c_ c_ S rho' (zO o s) a w:=by
   unfold zO;split
   ·rename_i d _ I;split
    ·split
     ·split
      ·exact⟨rho,u⟩
      rename_i z;refine⟨_,u.rename _ d (fun e=>?_) (cG (D o (by simp) d I) u.nb)⟩;rw[bw.2 e]at z;cases z
     ·split
      ·exact⟨rho,u⟩
      rename_i z;refine⟨_,u.rename _ d (fun e=>?_) (cG (D o (by simp) d I) u.nb)⟩;rw[bw.2 e]at z;cases z
     exact⟨rho,u⟩
    exact⟨rho,u⟩
   exact⟨rho,u⟩
  obtain⟨rho',O⟩:=this;exact ih rho' _ J O
theorem tP{c:AV}:∀{xs:List AV},c∈xs->tf d c=true->h_ d xs=true:=by
 intro xs
 induction xs with
 | nil=>intro h;cases h
 | cons x xs ih=>
  intro h u;simp only[h_,eG];rcases aE.1 h with e | e
  ·subst e;exact .inl u
  exact .inr (ih e u)
theorem br.loc{S:Nat->Prop}{w:World}{P:Program}{L':Nat->Prop}{h h':Nat->AB}{x:AV}{v:Value}(R:br S w P c_ rho h x v)(D:∀k,tf k x=true->h' k=h k/\L' k):br S w P L' rho h' x v:=by
 induction R with
 | p x v R=>exact .p x v R
 | nl=>exact .nl
 | ow k v hv=>obtain⟨I,J⟩:=D k (by simp only[tf];exact bw.2 rfl);exact .ow k v fun U=>⟨J,(hv (by rw[<-I];exact U)).2⟩
 | rp k a b v hv=>obtain⟨I,J⟩:=D k (by simp only[tf];exact bw.2 rfl);exact .rp k a b v fun e V=>⟨J,(hv e (by rw[<-I];exact V)).2⟩
 | bx k a v hv=>obtain⟨I,J⟩:=D k (by simp only[tf];exact bw.2 rfl);exact .bx k a v fun U=>⟨J,(hv (by rw[<-I];exact U)).2⟩
 | vw k a b v hv=>obtain⟨I,J⟩:=D k (by simp only[tf];exact bw.2 rfl);exact .vw k a b v fun e V=>⟨J,(hv e (by rw[<-I];exact V)).2⟩
 | fn f cap vs N hc ih=>exact .fn f cap vs N fun j c u z O=>ih j c u z O fun k hk=>D k (tP (an z) hk)
 | tu xs vs N hc ih=>exact .tu xs vs N fun j c u z O=>ih j c u z O fun k hk=>D k (tP (an z) hk)
 | st xs vs N h0 hc ih=>exact .st xs vs N h0 fun j c u z O=>ih j c u z O fun k hk=>D k (tP (an z) hk)
 | junk v=>exact .junk v
theorem RB(hC:bR A.C){id:Nat}{ops:Array Oper}{K:Exit->AS->Prop}(hok:mX A.C ops=true)(hd:∀o∈ops.toList,lU o A.n)
  (h:∃X,pI A.C (ops.toList.any fun o=>kA A.C o.op) X ops.toList (jT A.C (ops.toList.any fun o=>kA A.C o.op) ops) ops.toList (fun s'=>K .normal (Cw ops.toList s')) (zN ops.toList s)):W A (.region id ops true) K s:=by
 intro S rho a w sim;have D:=(sim.grow hC w.drew ⟨rfl,rfl,rfl,aF _,fun _ _ _=>rfl⟩).pre ops.toList s;obtain⟨X,h⟩:=h;obtain⟨st,r,h1,h2,h3⟩:=MB ops.toList _ _ h;have hsz:ops.toList.length=ops.size:=by simp
 rw[hsz]at h2;have H:∀(i:Nat) o,ops[i]?=some o->DStep A.C (ops.toList.any fun o=>kA A.C o.op) ops.toList o (st i) (r i) (st (i+1)):=fun i o ho=>(h3 i o (by simpa using ho)).1;have G:∀(i:Nat) o,ops[i]?=some o->zJ A.C (ops.toList.any fun o=>kA A.C o.op) X (jT A.C (ops.toList.any fun o=>kA A.C o.op) ops) o (st i) (r i) i:=fun i o ho=>(h3 i o (by simpa using ho)).2;have nr:∀k d b,KB ops r k d b->xw d (st 0):=fun k d b ⟨o,ho,mi,hb⟩=>by
  have Oj:=(H k o ho).ndst;rw[hb,mi]at Oj;rw[h1];have:=(HK ops.toList s).2 o (an (by simpa using ho)) Oj;rw[mi]at this;exact this
 have MT:∀d,jI ops r 0 d->xw d (st 0):=fun d ⟨k,b,_,J⟩=>nr k d b J;have W6:∀d,Decidable (∃b k,KB ops r k d b):=fun d=>Classical.propDecidable _;obtain⟨B,hB⟩:∃B:Nat->AB,B=fun d=>@dite _ (∃b k,KB ops r k d b) (W6 d) (fun h=>Classical.choose h) (fun _=>(st 0).h d):=⟨_,rfl⟩;obtain⟨_,_,hp⟩:=mI hok;have KD:∀k d b,KB ops r k d b->B d=b:=by
  intro k d b J;have Y:∃b k,KB ops r k d b:=⟨b,k,J⟩;rw[hB];simp only;rw[dif_pos Y];obtain⟨k',S0⟩:=Dl Y;generalize Classical.choose Y=b' at S0;obtain⟨o,e1,e2,e3⟩:=J;obtain⟨o',f1,f2,f3⟩:=S0;have:k=k':=by
   rcases jP k k' with h | h | h
   ·exact absurd f2 ((hp k k' o o' h e1 f1).dst d e2)
   ·exact h
   exact absurd e2 ((hp k' k o' o h f1 e1).dst d f2)
  subst this;rw[e3]at f3;injection f3 with f3;exact f3.symm
 have N:∀d,¬jI ops r 0 d->B d=(st 0).h d:=by
  intro d U;rw[hB];simp only;rw[dif_neg fun ⟨b,k,J⟩=>U ⟨k,b,ai _,J⟩]
 have O:∀d,¬jI ops r 0 d->LE ops r (fun _=>false) d:=fun d U k b J=>absurd ⟨k,b,ai _,J⟩ U;have O4:∀d,LE ops r (fun _=>false) d->¬jI ops r 0 d:=fun d hl ⟨k,b,_,J⟩=>by cases hl k b J
 rw[<-h1]at D;have W7:cc A c_ (LE ops r fun _=>false) S rho ⟨TE ops st (fun _=>false),B⟩ a w.drew:=
  {tm:=fun j _=>by
    have ht:TE ops st (fun _=>false) j=(st 0).t j:=by
     unfold TE;split
     ·rename_i hv;exact Du H (fun k o hk e=>by cases hv k o hk e) ops.size (aF _)
     rfl
    show br _ _ _ _ _ _ (TE ops st (fun _=>false) j) _;rw[ht];refine (D.tm j trivial).loc fun k hk=>?_;have U:¬jI ops r 0 k:=fun R=>by rw[(MT k R).2.1 j]at hk;cases hk
    exact⟨N k U,O k U⟩
   sz:=D.sz,df:=D.df,nb:=D.nb,pn:=D.pn,ev:=D.ev,s0:=D.s0,st:=D.st,sb:=D.sb
   hp:=fun k hk=>by
    have U:=O4 k hk;show fU _ _ _ _ _ _ _ (B k);rw[N k U];have z:=D.hp k trivial;cases hb:(st 0).h k with
    | none=>trivial
    | row e es=>rw[hb]at z;exact z
    | jr es=>rw[hb]at z;exact z
    | ll es=>rw[hb]at z;exact z
    | map mk es=>rw[hb]at z;exact z
    | box cs=>
     rw[hb]at z;obtain⟨g,ty,c,k1,k2,k3,Z⟩:=z;refine⟨g,ty,c,k1,k2,k3,fun j x u I hu=>⟨(Z j x u I hu).1,(Z j x u I hu).2.loc fun i hi=>?_⟩⟩;have V:¬jI ops r 0 i:=fun R=>by rw[(MT i R).2.2 k x (by rw[hb];exact an I)]at hi;cases hi
     exact⟨N i V,O i V⟩
    | jF ty cs=>
     rw[hb]at z;obtain⟨g,c,k1,k2,k3,Z⟩:=z;refine⟨g,c,k1,k2,k3,fun j x u I hu=>⟨(Z j x u I hu).1,(Z j x u I hu).2.loc fun i hi=>?_⟩⟩;have V:¬jI ops r 0 i:=fun R=>by rw[(MT i R).2.2 k x (by rw[hb];exact an I)]at hi;cases hi
     exact⟨N i V,O i V⟩
    | a7 cs=>rw[hb]at z;exact z
    | ay e es=>
     rw[hb]at z;obtain⟨⟨i0,xs,k1,k2,k3,Z,k5,k6⟩,hS⟩:=z;refine⟨⟨i0,xs,k1,k2,k3,Z,k5,fun a' r j x ha I=>?_⟩,hS⟩;obtain⟨u,hu,hr⟩:=k6 a' r j x ha I;refine⟨u,hu,?_⟩;cases x with
     | row e' dA=>exact hr
     | av x=>
      refine br.loc hr fun i hi=>?_;have V:¬jI ops _ 0 i:=fun R=>by rw[(MT i R).2.2 k x (by rw[hb];exact List.mem_flatMap.2 ⟨r,an ha,HX.Dy (an I)⟩)]at hi;cases hi
      exact⟨N i V,O i V⟩
   dj:=fun i j g hi I li lj fZ kz=>by
    have oH:(B i).live:=li;have TX:(B j).live:=lj;have fZ:hasB _ (B i) (rho i) g:=fZ;have kz:hasB _ (B j) (rho j) g:=kz;rw[N i (O4 i hi)]at oH fZ;rw[N j (O4 j I)]at TX kz;exact D.dj i j g trivial trivial oH TX fZ kz
   lv:=fun i g hi li hg=>by
    have oH:(B i).live:=li;have hg:hasB _ (B i) (rho i) g:=hg;rw[N i (O4 i hi)]at oH hg;exact D.lv i g trivial oH hg
   fr:=D.fr }
 refine wp_region_any hC.any ?_;have Yo:(fun i=>(Array.replicate ops.size false).getD i false)=fun _=>false:=by
  funext i;exact getD_replicate_false _ _
 refine O3 hC rfl hok hd H G KD N (fun d R=>(MT d R).1) (fun S' rho' a' w' ca=>?_) ops.size (Array.replicate ops.size false) S rho a w.drew (by simp) ?_ ?_ ?_
 ·obtain⟨RC,bD⟩:=ca.post ops.toList rho' (st ops.size) hd;exact⟨S',RC,_,bD,h2⟩
 ·rw[Yo];intro j oj _ h;cases h
 ·have:((List.range ops.size).filter fun i=>!(Array.replicate ops.size false).getD i false).length<=(List.range ops.size).length:=nY _ _;simpa using this
 rw[Yo];have:∀m,Hn B r (fun _=>false) m=B:=by
  intro m
  induction m with
  | zero=>rfl
  | succ m ih=>exact ih
 rw[this];exact W7
end Go.AM
namespace Go.AM
open Go.RowKit
def MU(n:Nat)(o:Oper):Bool:=match o.dst with
 | some d=>Nat.blt d n
 | none=>true
def lV(C:Ctx)(n:Nat):Code->Bool
 | .region _ ops draw=>ops.toList.all (MU n)&&(!draw||mX C ops)
 | .seq a b=>lV C n a&&lV C n b
 | .cond _ a b=>lV C n a&&lV C n b
 | .block _ c=>lV C n c
 | .loop c=>lV C n c
 | _=>true
def qo(f:AS->Prop)(K:Exit->AS->Prop):Exit->AS->Prop
 | .normal,s=>f s
 | e,s=>K e s
def Cx(id:Nat)(K:Exit->AS->Prop):Exit->AS->Prop
 | .exit i,s=>qn (cF i id) (K .normal s) (K (.exit i) s)
 | e,s=>K e s
def Bp(A:qB):Code->(Exit->AS->Prop)->AS->Prop
 | .skip,K,s=>K .normal s
 | .region _ ops draw,K,s=>match draw with
  | false=>qF A.C ops.toList ops.toList (K .normal) s
  | true=>∃X,pI A.C (ops.toList.any fun o=>kA A.C o.op) X ops.toList (jT A.C (ops.toList.any fun o=>kA A.C o.op) ops) ops.toList (fun s'=>K .normal (Cw ops.toList s')) (zN ops.toList s)
 | .seq a b,K,s=>Bp A a (qo (fun s'=>∃nA,au A s' nA/\Bp A b K nA) K) s
 | .cond c a b,K,s=>match ev s.t c with
  | .p (.im (.bool t))=>qn t (Bp A a K s) (Bp A b K s)
  | _=>False
 | .block id c,K,s=>Bp A c (Cx id K) s
 | .loop c,K,s=>∃(α:Type) (I:α->AS->Prop) (m:α->Nat),(∃x s',au A s s'/\I x s')/\∀x s,I x s->Bp A c (qo (fun s'=>∃y nA,au A s' nA/\I y nA/\m y<m x) K) s
 | .exit id,K,s=>K (.exit id) s
 | .ret,K,s=>K .ret s
 | _,_,_=>False
theorem Jc{n:Nat}{ops:Array Oper}(h:ops.toList.all (MU n)=true):∀o∈ops.toList,lU o n:=by
 intro o u d z;have:=ep.1 h o u;unfold MU at this;rw[z]at this;exact je this
theorem KE{A:qB}(hC:bR A.C):∀(c:Code) (K:Exit->AS->Prop) (s:AS),lV A.C A.n c=true->Bp A c K s->W A c K s:=by
 intro c
 induction c with
 | skip=>intro K s _ h S rho a w z;exact wp_skip ⟨S,rho,s,z,h⟩
 | region id ops draw=>
  intro K s u h;simp only[lV,aK]at u;cases draw with
  | false=>exact Mr hC (Jc u.1) h
  | true=>exact RB hC (by simpa using u.2) (Jc u.1) h
 | seq a b D J=>
  intro K s u h;simp only[lV,aK]at u;refine T2 ?_;refine Hq (D _ s u.1 h) fun e O hk=>?_;cases e with
  | normal=>
   obtain⟨R,N,hk⟩:=hk;exact fun S rho a w z=>by
    obtain⟨S',rho',U⟩:=N S rho a w z;exact J K R u.2 hk S' rho' a w U
  | exit id=>exact hk
  | goto l=>exact hk
  | ret=>exact hk
  | panic c=>exact hk
  | outgrown=>exact hk
 | cond c a b D J=>
  intro K s u h;simp only[lV,aK]at u;simp only[Bp]at h;split at h
  ·rename_i t V;refine Rp V (fun e=>D K s u.1 ?_) (fun e=>J K s u.2 ?_)
   ·rw[e]at h;exact h
   rw[e]at h;exact h
  exact h.elim
 | block id c ih=>
  intro K s u h;exact OW (Hq (ih _ s u h) fun e O hk=>by cases e<;>exact hk)
 | loop c ih=>
  intro K s u h;obtain⟨α,I,m,Y,Z⟩:=h;refine Rq I m Y fun x s hi=>?_;exact Hq (ih _ s u (Z x s hi)) fun e O hk=>by cases e<;>exact hk
 | exit id=>intro K s _ h S rho a w z;exact wp_exit ⟨S,rho,s,z,h⟩
 | ret=>intro K s _ h S rho a w z;exact wp_ret ⟨S,rho,s,z,h⟩
 | rangeFunc=>intro K s _ h;exact h.elim
 | scope=>intro K s _ h;exact h.elim
 | label=>intro K s _ h;exact h.elim
 | goto=>intro K s _ h;exact h.elim
 | refuse=>intro K s _ h;exact h.elim
def eJ{α:Type}:List (Nat×α)->(Nat->α)->Nat->α
 | [],t=>t
 | (i,v)::r,t=>bq (eJ r t) i v
def oR{α:Type}:List (Nat×α)->(Nat->α)->Prop
 | [],_=>True
 | (i,v)::r,t=>t i=v/\oR r t
theorem uS{α:Type}:∀(l:List (Nat×α)) (t:Nat->α),oR l t->eJ l t=t:=by
 intro l
 induction l with
 | nil=>intro t _;rfl
 | cons p l ih=>
  intro t h;obtain⟨i,v⟩:=p;show bq (eJ l t) i v=t;rw[ih t h.2];exact jO _ _ _ h.1
theorem O5{A:qB}{c:Code}{K:Exit->AS->Prop}{s:AS}{α:Type}(R:α->Prop)(D:α->List (Nat×AV))(hs:α->List (Nat×AB))(m:α->Nat)(x0:α)(s0:AS)(W:au A s s0)(Y:R x0)(Z:oR (D x0) s0.t)(hh:oR (hs x0) s0.h)
  (z:∀x,R x->∀t h,Bp A c (qo (fun I=>∃y u,au A I u/\R y/\m y<m x/\oR (D y) u.t/\oR (hs y) u.h) K) ⟨eJ (D x) t,eJ (hs x) h⟩):Bp A (.loop c) K s:=by
 refine⟨α,fun x s=>R x/\oR (D x) s.t/\oR (hs x) s.h,m,⟨x0,s0,W,Y,Z,hh⟩,fun x s ⟨h1,h2,h3⟩=>?_⟩;have:=z x h1 s.t s.h;rw[uS _ _ h2,uS _ _ h3]at this;have e:(qo (fun I=>∃y u,au A I u/\R y/\m y<m x/\oR (D y) u.t/\oR (hs y) u.h) K)=(qo (fun I=>∃y u,au A I u/\(R y/\oR (D y) u.t/\oR (hs y) u.h)/\m y<m x) K):=by
  funext e I;cases e<;>try rfl
  apply propext;constructor
  ·rintro⟨y,u,J,N,O,U,V⟩;exact⟨y,u,J,⟨N,U,V⟩,O⟩
  rintro⟨y,u,J,⟨N,U,V⟩,O⟩;exact⟨y,u,J,N,O,U,V⟩
 rw[<-e];exact this
end Go.AM
namespace Go.AM
open Go.RowKit
def xx(l:List (Nat×TI))(t:TypeId):Option TI:=match l with
 | []=>none
 | (i,ti)::r=>match Nat.beq i t with
  | true=>some ti
  | false=>xx r t
theorem rZ{t:TypeId}{u:TI}:∀{l:List (Nat×TI)},xx l t=some u->(t,u)∈l:=by
 intro l
 induction l with
 | nil=>intro h;cases h
 | cons p l ih=>
  intro h;obtain⟨i,V1⟩:=p;unfold xx at h;split at h
  ·rename_i e;have:=de e;subst this;injection h with h;subst h;exact bK ..
  exact cK _ (ih h)
def MV:Value->Value->Bool
 | .int k n,.int k' n'=>kB k k'&&decide (n=n')
 | .bool b,.bool b'=>b==b'
 | .string s,.string s'=>s.data.toList==s'.data.toList
 | .slice none a b,.slice none a' b'=>Nat.beq a a'&&Nat.beq b b'
 | .pointer none,.pointer none=>true
 | .map none,.map none=>true
 | .nilFunc,.nilFunc=>true
 | .nilIface,.nilIface=>true
 | _,_=>false
theorem MW{v u:Value}(h:MV v u=true):v=u:=by
 unfold MV at h;split at h
 ·simp only[aK,cz]at h;rw[IS h.1,h.2]
 ·rw[eq_of_beq h]
 ·have:=eq_of_beq h;congr 1;exact ByteArray.ext (ph this)
 ·simp only[aK]at h;rw[de h.1,de h.2]
 ·rfl
 ·rfl
 ·rfl
 ·rfl
 cases h
def DA:List Value->List Value->Bool
 | [],[]=>true
 | v::r,u::s=>MV v u&&DA r s
 | _,_=>false
theorem KF:∀{a b:List Value},DA a b=true->a=b:=by
 intro a
 induction a with
 | nil=>intro b h;cases b with | nil=>rfl | cons=>cases h
 | cons v r ih=>
  intro b h;cases b with
  | nil=>cases h
  | cons u s=>
   simp only[DA,aK]at h;rw[MW h.1,ih h.2]
def Uh:TypeDesc->Bool
 | .struct _ | .array _ _=>true
 | _=>false
def yR(P:Program):List (Nat×Nat×Bool)->List Field->Bool
 | [],[]=>true
 | f::r,g::s=>Nat.beq f.1 g.offset&&!Nat.beq f.2.1 0&&(match P.info? g.type with
  | some i=>Nat.beq i.size f.2.1
  | none=>false)&&(match P.underlying g.type with
  | some d=>Uh d==f.2.2
  | none=>false)&&yR P r s
 | _,_=>false
def Yp(P:Program)(t:TypeId)(ti:TI):Bool:=match ti.ud,P.underlying t with
 | .sc,some .bool=>true
 | .sc,some d=>!Uh d&&!ti.eq
 | .int k,some (.int k')=>kB k k'
 | .st fs,some (.struct gs)=>yR P fs gs.toList
 | .sl e,some (.slice e')=>Nat.beq e e'
 | .mp k e,some (.map k' e')=>Nat.beq k k'&&Nat.beq e e'
 | .str,some .string=>true
 | _,_=>false
def VD(P:Program)(p:Nat×TI):Bool:=match P.info? p.1 with
 | some info=>Nat.beq info.size p.2.size&&Nat.beq info.bytes p.2.bytes&&(match info.zero with
  | some z=>DA z.cells.toList p.2.zero
  | none=>false)&&Nat.beq p.2.zero.length p.2.size&&p.2.zero.all Value.oneCell'&&Yp P p.1 p.2
 | none=>false
theorem DB{P:Program}:∀{fs:List (Nat×Nat×Bool)} {gs:List Field},yR P fs gs=true->fs.length=gs.length/\∀(i:Nat) f g,fs[i]?=some f->gs[i]?=some g->f.1=g.offset/\f.2.1≠0/\(∃J,P.info? g.type=some J/\J.size=f.2.1)/\
  (∃d,P.underlying g.type=some d/\f.2.2=(match d with | .struct _ | .array _ _=>true | _=>false)):=by
 intro fs
 induction fs with
 | nil=>intro gs h;cases gs with | nil=>exact⟨rfl,by simp⟩ | cons=>cases h
 | cons f r ih=>
  intro gs h;cases gs with
  | nil=>cases h
  | cons g s=>
   simp only[yR,aK]at h;obtain⟨⟨⟨⟨O,N⟩,u⟩,z⟩,R⟩:=h;obtain⟨U,V⟩:=ih R;refine⟨by simp[U],fun i W Y D I=>?_⟩;cases i with
   | succ i=>exact V i W Y (by simpa using D) (by simpa using I)
   | zero=>
    simp at D I;subst D I;refine⟨de O,(fun e=>by rw[e]at N;cases N),?_,?_⟩
    ·split at u
     ·rename_i i hi;exact⟨i,hi,de u⟩
     cases u
    split at z
    ·rename_i d Z;refine⟨d,Z,?_⟩;rw[<-eq_of_beq z];cases d<;>rfl
    cases z
theorem RD{P:Program}{t:TypeId}{N:TI}(h:VD P (t,N)=true):oJ P t N:=by
 unfold VD at h;split at h
 ·rename_i info hi;simp only[aK]at h;obtain⟨⟨⟨⟨⟨O,R⟩,J⟩,U⟩,V⟩,D⟩:=h;split at J
  ·rename_i z W;refine⟨info,z,hi,de O,de R,W,?_,de U,fun v Y=>ep.1 V v Y,?_⟩
   ·rw[<-KF J]
   simp only[Yp]at D;split at D
   ·rename_i I u;rw[I];exact⟨⟨_,u,trivial⟩,fun _=>u⟩
   ·rename_i d cU I u;rw[I];simp only[aK]at D;refine⟨⟨d,u,?_⟩,fun e=>?_⟩
    ·cases d<;>first | trivial | (cases D.1;done)
    rw[e]at D;cases D.2
   ·rename_i I u;rw[I,u,IS D]
   ·rename_i fs gs I u;rw[I];obtain⟨Z,TK⟩:=DB D;exact⟨gs,u,by simpa using Z,fun i f g hf hg=>TK i f g hf (by simpa using hg)⟩
   ·rename_i I u;rw[I,u,de D]
   ·rename_i I u;simp only[aK]at D;rw[I,u,de D.1,de D.2]
   ·rename_i I u;rw[I,u]
   cases D
  cases J
 cases h
def W8(P:Program)(p:Nat×TI):Bool:=match P.info? p.1 with
 | some info=>match info.zero with
  | some z=>LC z==p.2.ud.agg
  | none=>false
 | none=>false
variable {l:List (Nat×TI)}
theorem Ui{P:Program}(h:l.all (W8 P)=true):∀t u,xx l t=some u->G3 P t u:=fun t u D=>by
 have:=ep.1 h _ (rZ D);unfold W8 at this;split at this
 ·rename_i info hi;split at this
  ·rename_i z I;exact⟨info,z,hi,I,eq_of_beq this⟩
  cases this
 cases this
theorem RE{P:Program}(h:l.all (VD P)=true):∀t u,xx l t=some u->oJ P t u:=fun _ _ z=>RD (ep.1 h _ (rZ z))
def On:Option TypeDesc->Value->Bool
 | some (.int _),.int _ _=>true
 | some .string,.string _=>true
 | some .bool,.bool _=>true
 | _,_=>false
def mY(P:Program):Nat->List Field->List Value->Bool
 | _,[],[]=>true
 | i, g :: r, z :: s => On (P.underlying g.type) z && Nat.beq g.offset i && g.name != "_" && mY P (i + 1) r s
 | _,_,_=>false
def zP(P:Program):Nat->List Field->List Value->Bool
 | _,[],[]=>true
 | _,[],_::_=>false
 | i, g :: r, zs => g.name != "_" && Nat.beq g.offset i && match P.underlying g.type with
  | some (.struct hs)=>(match P.info? g.type with
   | some inf=>Nat.beq inf.size hs.size
   | none=>false)&&!P.stoodInHeld g.type&&mY P 0 hs.toList (zs.take hs.size)&&zP P (i+hs.size) r (zs.drop hs.size)
  | _=>match zs with
   | z::s=>On (P.underlying g.type) z&&zP P (i+1) r s
   | []=>false
def RF(P:Program)(p:Nat×TI):Bool:=match p.2.eq,p.2.ud with
 | true,.st _=>(match P.underlying p.1 with
  | some (.struct gs)=>zP P 0 gs.toList p.2.zero&&Nat.beq p.2.zero.length p.2.size
  | _=>false)&&!P.stoodInHeld p.1&&!P.eqGuardType P.depth p.1
 | _,_=>true
theorem lz{P:Program}{w:World}{t:TypeId}{z:Value}(h:On (P.underlying t) z=true){xs:Array Value}{i:Nat}{v:Value}(u:xs[i]?=some v):(part t xs i).run P w=.ok v w:=by
 have:(isAgg t).run P w=.ok false w:=by
  rw[Go.isAgg,bJ];unfold On at h;split at h<;>first
   | (rename_i D;rw[run_underlying D];rfl)
   | cases h
 simp[part,this,u]
theorem DC{a b:ByteArray}(h:a.toList=b.toList):a=b:=by
 rw[ByteArray.toList_eq,ByteArray.toList_eq]at h;obtain⟨⟨x⟩⟩:=a;obtain⟨⟨y⟩⟩:=b;simpa using h
theorem O6{o:Option TypeDesc}{k:IntKind}{n:Int}(h:On o (.int k n)=true):∃j,o=some (.int j):=by
 cases o with
 | none=>cases h
 | some d=>cases d<;>first | exact⟨_,rfl⟩ | cases h
theorem O7{o:Option TypeDesc}{x:ByteArray}(h:On o (.string x)=true):o=some .string:=by
 cases o with
 | none=>cases h
 | some d=>cases d<;>first | rfl | cases h
theorem MX{o:Option TypeDesc}{x:Bool}(h:On o (.bool x)=true):o=some .bool:=by
 cases o with
 | none=>cases h
 | some d=>cases d<;>first | rfl | cases h
theorem uT{P:Program}{t:TypeId}{z:Value}{zs:List Value}{x:PV}{a b:List PV}{r:Bool}(hk:On (P.underlying t) z=true)(h:bL (z::zs) (x::a) b=some r):∃u v s c N,x=.im u/\b=.im v::s/\bL zs a s=some N/\r=(c&&N)/\∀d w,(Op.equalIn (d+1) t u v).run P w=.ok c w:=by
 cases b with
 | nil=>cases z<;>cases x<;>simp[bL]at h
 | cons y b=>
  unfold bL at h;split at h
  ·rename_i D I J;cases D
  ·rename_i D I J;injection D with D O;injection I with I R;injection J with J h3';subst D O I R J h3';split at h
   ·rename_i Y;have:=IS Y;subst this;obtain⟨N,U,V⟩:=aT.1 h;obtain⟨j,W⟩:=O6 hk;refine⟨_,_,_,_,N,rfl,rfl,U,V.symm,fun d w=>?_⟩;rw[run_equalIn_int (P:=P) w d t _ j _ _ W];congr 1
   cases h
  ·rename_i D I J;injection D with D O;injection I with I R;injection J with J h3';subst D O I R J h3';obtain⟨N,U,V⟩:=aT.1 h;have W:=O7 hk;refine⟨_,_,_,_,N,rfl,rfl,U,V.symm,fun d w=>?_⟩;rw[run_equalIn_string (P:=P) w d t _ _ W];congr 1;rw[kO,beq_iff_eq,decide_eq_true_iff];exact⟨fun e=>DC e,fun e=>by rw[e]⟩
  ·rename_i D I J;injection D with D O;injection I with I R;injection J with J h3';subst D O I R J h3';obtain⟨N,U,V⟩:=aT.1 h;have W:=MX hk;refine⟨_,_,_,_,N,rfl,rfl,U,V.symm,fun d w=>?_⟩;rw[run_equalIn_bool' (P:=P) w d t _ _ W];congr 1
  cases h
theorem tp{P:Program}{w:World}(d:Nat)(xs ys:Array Value):∀(gs:List Field) (zs:List Value) (i:Nat) (a b:List PV) (r:Bool),mY P i gs zs=true->gs.length=a.length->(∀(j:Nat) x,a[j]?=some x->∃v,xs[i+j]?=some v/\x=.im v)->(∀(j:Nat) x,b[j]?=some x->∃v,ys[i+j]?=some v/\x=.im v)->bL zs a b=some r ->
  (Op.eqFields (d+1) xs ys gs).run P w=.ok r w:=by
 intro gs
 induction gs with
 | nil=>
  intro zs i a b r hi hl _ _ he;have:a=[]:=cP hl.symm;subst this;cases zs with
  | nil=>cases b with
   | nil=>simp[bL]at he;subst he;rfl
   | cons y b=>simp[bL]at he
  | cons z zs=>simp[mY]at hi
 | cons g gs ih=>
  intro zs i a b r hi hl ha hb he;cases a with
  | nil=>simp at hl
  | cons x a=>cases zs with
   | nil=>simp[mY]at hi
   | cons z zs=>
    simp only[mY,aK]at hi;obtain⟨⟨⟨h1,h2⟩,h3⟩,h4⟩:=hi;have h2:=de h2
    have xv : g.name ≠ "_" := by simpa using h3
    obtain⟨u,v,s1,c,r',rfl,rfl,LI,rfl,p3⟩:=uT h1 he;obtain⟨v',hv,RG⟩:=ha 0 _ rfl;obtain⟨u',tK,RH⟩:=hb 0 _ rfl;injection RG with RG;injection RH with RH;subst RG RH;have p1:=lz (w:=w) h1 (xs:=xs) (i:=g.offset) (by rw[h2];simpa using hv);have p2:=lz (w:=w) h1 (xs:=ys) (i:=g.offset) (by rw[h2];simpa using tK);have rest:=ih zs (i+1) a s1 r' h4 (by simpa using hl) (fun j x hx=>by obtain⟨v,q1,q2⟩:=ha (j+1) x (by simpa using hx);exact⟨v,by rw[<-q1];congr 1;omega,q2⟩) (fun j x hx=>by obtain⟨v,q1,q2⟩:=hb (j+1) x (by simpa using hx);exact⟨v,by rw[<-q1];congr 1;omega,q2⟩) LI;simp only[Op.eqFields,ae xv,bJ,p1,p2,p3,dm];cases c with
    | true=>
     simp only[jR,yQ,if_false,fu];exact rest
    | false=>simp
theorem DD{z:Value}{zs:List Value}{a b:List PV}{r:Bool}(h:bL (z::zs) a b=some r):∃x a' y b' c J,a=x::a'/\b=y::b'/\bL zs a' b'=some J/\r=(c&&J)/\∀N O R U,bL N O R=some U->bL (z::N) (x::O) (y::R)=some (c&&U):=by
 cases a with
 | nil=>cases z<;>simp[bL]at h
 | cons x a=>cases b with
  | nil=>cases z<;>cases x<;>simp[bL]at h
  | cons y b=>
   unfold bL at h;split at h
   ·rename_i u _ _;cases u
   ·rename_i u D I;injection u with u V;injection D with D W;injection I with I h3';subst u V D W I h3';split at h
    ·rename_i uG;obtain⟨J,Y,Z⟩:=aT.1 h;exact⟨_,_,_,_,_,J,rfl,rfl,Y,Z.symm,fun N O R U Un=>by simp only[bL,uG,Un,fG]⟩
    cases h
   ·rename_i u D I;injection u with u V;injection D with D W;injection I with I h3';subst u V D W I h3';obtain⟨J,Y,Z⟩:=aT.1 h;exact⟨_,_,_,_,_,J,rfl,rfl,Y,Z.symm,fun N O R U Un=>by simp only[bL,Un,fG]⟩
   ·rename_i u D I;injection u with u V;injection D with D W;injection I with I h3';subst u V D W I h3';obtain⟨J,Y,Z⟩:=aT.1 h;exact⟨_,_,_,_,_,J,rfl,rfl,Y,Z.symm,fun N O R U Un=>by simp only[bL,Un,fG]⟩
   cases h
theorem xy:∀{u D:List Value} {a b:List PV} {r:Bool},bL (u++D) a b=some r->∃I N J O R U,a=I++N/\b=J++O/\I.length=u.length/\J.length=u.length/\bL u I J=some R/\bL D N O=some U/\r=(R&&U)
 | [],D,a,b,r,h=>⟨[],a,[],b,true,r,rfl,rfl,rfl,rfl,rfl,h,rfl⟩
 | z::u,D,a,b,r,h=>by
  obtain⟨x,a',y,b',c,r',rfl,rfl,V,rfl,W⟩:=DD (zs:=u++D) h;obtain⟨I,N,J,O,R,U,rfl,rfl,Y,Z,k1,k2,rfl⟩:=xy V;exact⟨x::I,N,y::J,O,c&&R,U,rfl,rfl,by simp[Y],by simp[Z],W _ _ _ _ k1,k2,(Bool.and_assoc _ _ _).symm⟩
theorem wB{P:Program}:∀{gs:List Field} {z:List Value} {i:Nat},mY P i gs z=true->gs.length=z.length
 | [],[],_,_=>rfl
 | [],_::_,_,h=>by simp[mY]at h
 | _::_,[],_,h=>by simp[mY]at h
 | g::gs,c::z,i,h=>by
  simp only[mY,aK]at h;simp[wB h.2]
theorem DE{P:Program}{w:World}(d:Nat)(xs ys:Array Value):∀(gs:List Field) (zs:List Value) (i:Nat) (a b:List PV) (r:Bool),zP P i gs zs=true->(∀(j:Nat) x,a[j]?=some x->∃v,xs[i+j]?=some v/\x=.im v)->(∀(j:Nat) x,b[j]?=some x->∃v,ys[i+j]?=some v/\x=.im v)->bL zs a b=some r ->
  (Op.eqFields (d+3) xs ys gs).run P w=.ok r w:=by
 intro gs
 induction gs with
 | nil=>
  intro zs i a b r hi _ _ he;cases zs with
  | nil=>
   cases a with
   | nil=>cases b with
    | nil=>simp[bL]at he;subst he;rfl
    | cons y b=>simp[bL]at he
   | cons x a=>simp[bL]at he
  | cons z zs=>simp[zP]at hi
 | cons g gs ih=>
  intro zs i a b r hi ha hb he;unfold zP at hi;simp only[aK]at hi;obtain⟨⟨h3,h2⟩,hi⟩:=hi;have h2:=de h2
  have xv : g.name ≠ "_" := by simpa using h3
  split at hi
  ·rename_i hs tJ;simp only[aK]at hi;obtain⟨⟨⟨h5,h6⟩,h7⟩,h8⟩:=hi;have h6:P.stoodInHeld g.type=false:=by simpa using h6
   split at h5
   ·rename_i inf W9;have h5:=de h5;have hl:=wB h7;rw[gd]at hl;rw[<-nO hs.size zs]at he;obtain⟨a1,a2,b1,b2,r1,r2,rfl,rfl,l1,l2,k1,k2,rfl⟩:=xy he;rw[<-hl]at l1 l2;have cut:∀(us:Array Value) (c1 c2:List PV),c1.length=hs.size->(∀(j:Nat) x,(c1++c2)[j]?=some x->∃v,us[i+j]?=some v/\x=.im v)->(part g.type us g.offset).run P w=.ok (.agg (us.extract i (i+hs.size))) w/\(∀(j:Nat) x,c1[j]?=some x->∃v,(us.extract i (i+hs.size))[0+j]?=some v/\x=.im v)/\∀(j:Nat) x,c2[j]?=some x->∃v,us[i+hs.size+j]?=some v/\x=.im v:=by
     intro us c1 c2 hc hu;refine⟨?_,fun j x hx=>?_,fun j x hx=>?_⟩
     ·have e1:(isAgg g.type).run P w=.ok true w:=by
       rw[Go.isAgg,bJ,run_underlying tJ];rfl
      have e2:(sizeOf g.type).run P w=.ok hs.size w:=by
       simp[Go.sizeOf,typeInfo,W9,h5]
      simp[part,e1,e2,h2]
     ·have hj:j<hs.size:=by rw[<-hc];exact aA hx
      obtain⟨v,q1,q2⟩:=hu j x (by rw[dU (by omega)];exact hx);exact⟨v,by rw[Array.getElem?_extract,ae (by have:=(dq.1 q1).1;omega),aY];exact q1,q2⟩
     obtain⟨v,q1,q2⟩:=hu (hs.size+j) x (by rw[dV (by omega),<-hx];congr 1;omega);exact⟨v,by rw[<-q1];congr 1;omega,q2⟩
    obtain⟨p1,m1,n1⟩:=cut xs a1 a2 l1 ha;obtain⟨p2,m2,n2⟩:=cut ys b1 b2 l2 hb;have hf:P.fieldsOf g.type=hs:=by simp[Program.fieldsOf,tJ]
    have p3:(Op.equalIn (d+3) g.type (.agg (xs.extract i (i+hs.size))) (.agg (ys.extract i (i+hs.size)))).run P w=.ok r1 w:=by
     rw[run_equalIn_struct w (d+2) g.type _ _ (by rw[hf];exact tJ) h6,hf];exact tp (d+1) _ _ hs.toList _ 0 a1 b1 r1 h7 (by rw[gd,l1]) m1 m2 k1
    have rest:=ih (zs.drop hs.size) (i+hs.size) a2 b2 r2 h8 n1 n2 k2;simp only[Op.eqFields,ae xv,bJ,p1,p2,p3,dm];cases r1 with
    | true=>
     simp only[jR,yQ,if_false,fu];exact rest
    | false=>simp
   cases h5
  split at hi
  ·rename_i z zs;simp only[aK]at hi;obtain⟨h1,h4⟩:=hi;cases a with
   | nil=>cases z<;>simp[bL]at he
   | cons x a=>
    obtain⟨u,v,s1,c,r',rfl,rfl,LI,rfl,p3⟩:=uT h1 he;obtain⟨v',hv,RG⟩:=ha 0 _ rfl;obtain⟨u',tK,RH⟩:=hb 0 _ rfl;injection RG with RG;injection RH with RH;subst RG RH;have p1:=lz (w:=w) h1 (xs:=xs) (i:=g.offset) (by rw[h2];simpa using hv);have p2:=lz (w:=w) h1 (xs:=ys) (i:=g.offset) (by rw[h2];simpa using tK);have rest:=ih zs (i+1) a s1 r' h4 (fun j x hx=>by obtain⟨v,q1,q2⟩:=ha (j+1) x (by simpa using hx);exact⟨v,by rw[<-q1];congr 1;omega,q2⟩) (fun j x hx=>by obtain⟨v,q1,q2⟩:=hb (j+1) x (by simpa using hx);exact⟨v,by rw[<-q1];congr 1;omega,q2⟩) LI;simp only[Op.eqFields,ae xv,bJ,p1,p2,p3,dm];cases c with
    | true=>
     simp only[jR,yQ,if_false,fu];exact rest
    | false=>simp
  cases hi
variable {gs:Array Field}
theorem KG{P:Program}{t:TypeId}{zs:List Value}(z:P.underlying t=some (.struct gs))(N:P.stoodInHeld t=false)(O:zP P 0 gs.toList zs=true){a b:List PV}{r:Bool}(R:bL zs a b=some r)(xs ys:Array Value)(w:World)
  (U:∀(i:Nat) x v,a[i]?=some x->xs[i]?=some v->x=.im v) (hb:∀(i:Nat) x v,b[i]?=some x->ys[i]?=some v->x=.im v) (V:a.length=xs.size) (W:b.length=ys.size):(Op.equal t (.agg xs) (.agg ys)).run P w=.ok r w:=by
 have D:P.fieldsOf t=gs:=by simp[Program.fieldsOf,z]
 have u:∀(l:List PV) (zs:Array Value),l.length=zs.size->(∀(i:Nat) x v,l[i]?=some x->zs[i]?=some v->x=.im v)->∀(j:Nat) x,l[j]?=some x->∃v,zs[0+j]?=some v/\x=.im v:=by
  intro l zs Y Z j x I;obtain⟨v,J⟩:=ky Y (aA I);exact⟨v,by rw[aY];exact J,Z j x v I J⟩
 have key:=DE (P:=P) (w:=w) 9996 xs ys gs.toList zs 0 a b r O (u a xs V U) (u b ys W hb) R;show (Op.equalIn (9999+1) t (.agg xs) (.agg ys)).run P w=_;rw[run_equalIn_struct w 9999 t xs ys (by rw[D];exact z) N,D];exact key
theorem FD{P:Program}{t:TypeId}{zs:List Value}(z:P.underlying t=some (.struct gs))(N:P.stoodInHeld t=false)(O:mY P 0 gs.toList zs=true){a b:List PV}{r:Bool}(R:bL zs a b=some r)(xs ys:Array Value)(w:World)
  (U:∀(i:Nat) x v,a[i]?=some x->xs[i]?=some v->x=.im v) (hb:∀(i:Nat) x v,b[i]?=some x->ys[i]?=some v->x=.im v) (V:a.length=xs.size) (W:b.length=ys.size) (hsz:gs.size=a.length):(Op.equal t (.agg xs) (.agg ys)).run P w=.ok r w:=by
 have D:P.fieldsOf t=gs:=by simp[Program.fieldsOf,z]
 have u:∀(l:List PV) (zs:Array Value),l.length=zs.size->(∀(i:Nat) x v,l[i]?=some x->zs[i]?=some v->x=.im v)->∀(j:Nat) x,l[j]?=some x->∃v,zs[0+j]?=some v/\x=.im v:=by
  intro l zs Y Z j x I;obtain⟨v,J⟩:=ky Y (aA I);exact⟨v,by rw[aY];exact J,Z j x v I J⟩
 have key:=tp (P:=P) (w:=w) 9998 xs ys gs.toList zs 0 a b r O (by simp;omega) (u a xs V U) (u b ys W hb) R;show (Op.equalIn (9999+1) t (.agg xs) (.agg ys)).run P w=_;rw[run_equalIn_struct w 9999 t xs ys (by rw[D];exact z) N,D];exact key
theorem RI{P:Program}(h:l.all (RF P)=true):∀t u op a b r,xx l t=some u->u.eq=true->(∃fs,u.ud=.st fs)->bL u.zero a b=some r->∀(xs ys:Array Value) w,(∀(i:Nat) x v,a[i]?=some x->xs[i]?=some v->x=.im v)->(∀(i:Nat) x v,b[i]?=some x->ys[i]?=some v->x=.im v)->
  a.length=xs.size->b.length=ys.size->u.size=a.length->(op=.eql\/op=.neq)->∀(x y:Operand),(do eqGuard op t x y (.agg xs) (.agg ys);binOp op t (.agg xs) (.agg ys):Sem Value).run P w=.ok (.bool (if op=.eql then r else !r)) w:=by
 intro t u op a b r O R ⟨fs,U⟩ V xs ys w ha hb W Y hsz N x y;have:=ep.1 h _ (rZ O);unfold RF at this;simp only[R,U,aK]at this;obtain⟨⟨D,I⟩,J⟩:=this;have I:P.stoodInHeld t=false:=by simpa using I
 have J:P.eqGuardType P.depth t=false:=by simpa using J
 split at D
 ·rename_i gs Z;simp only[aK]at D;obtain⟨h4,_⟩:=D;have z:=KG Z I h4 V xs ys w ha hb W Y;have RJ:(eqGuard op t x y (.agg xs) (.agg ys)).run P w=.ok () w:=by
   rcases N with rfl | rfl<;>simp[eqGuard,J]
  rw[bJ,RJ,dm];rcases N with rfl | rfl
  ·simp[binOp,z]
  simp[binOp,z]
 cases D
def RL(P:Program)(p:Nat×TI):Bool:=match Bq p.2 with
 | some (.st _)=>(match P.underlying p.1 with
  | some (.struct gs)=>mY P 0 gs.toList p.2.zero
  | _=>false)&&!P.stoodInHeld p.1
 | _=>true
theorem O8:∀{z:List Value} {sh:List Nat} {a b:List Value},C2 z=some sh->me sh a->me sh b->bL z (a.map .im) (b.map .im)=some (E3 a b):=by
 intro z
 induction z with
 | nil=>
  intro sh a b h u hb;injection h with h;subst h;cases a<;>cases b<;>first
   | rfl
   | exact u.elim
   | exact hb.elim
 | cons c z ih=>
  intro sh a b h u hb;unfold C2 at h;split at h
  ·rename_i D;cases D
  all_goals first
   | (
     rename_i D;injection D with D N;subst D N;obtain⟨s,hs,rfl⟩:=aT.1 h;cases a with
     | nil=>exact u.elim
     | cons x a=>cases b with
      | nil=>exact hb.elim
      | cons y b=>
       have I:=u.1;have J:=hb.1;cases x<;>first | (exact I.elim) | skip
       cases y<;>first | (exact J.elim) | skip
       have:=ih hs u.2 hb.2
       first
        | (simp only[fJ,bL,this,fG,E3,JW];done)
        | (
         have O:_=IntKind.i64:=I;have R:_=IntKind.i64:=J;subst O R;simp only[fJ,bL,this,fG,E3,JW,kB];done))
   | cases h
theorem nZ:∀{sh:List Nat} {a:List Value},me sh a->a.length=sh.length
 | [],[],_=>rfl
 | [],_::_,h=>h.elim
 | _::_,[],h=>h.elim
 | _::_,_::_,h=>by simp[nZ h.2]
theorem MY:∀{z:List Value} {sh:List Nat},C2 z=some sh->z.length=sh.length:=by
 intro z
 induction z with
 | nil=>intro sh h;injection h with h;subst h;rfl
 | cons c z ih=>
  intro sh h;unfold C2 at h;split at h
  ·rename_i u;cases u
  all_goals first
   | (
     rename_i u;injection u with u D;subst u D;obtain⟨s,hs,rfl⟩:=aT.1 h;simp[ih hs];done)
   | cases h
theorem FE{P:Program}{t:TypeId}{z:Value}(h:On (P.underlying t) z=true)(e:Bool)(n:Nat)(w:World)(v:Value):(Instr.checkKey e (n+1) t v).run P w=.ok () w:=by
 unfold On at h;split at h
 all_goals first
  | (rename_i u;cases v<;>simp[Instr.checkKey,run_underlying u];done)
  | cases h
theorem DF{P:Program}(e:Bool)(n:Nat)(w:World)(xs:Array Value):∀(gs:List Field) (zs:List Value) (i:Nat),mY P i gs zs=true->(∀j,j<gs.length->∃v,xs[i+j]?=some v)->(forIn gs PUnit.unit fun f _=>(do
   if f.name ≠ "_" then Instr.checkKey e (n + 1) f.type (← part f.type xs f.offset)
   pure (ForInStep.yield PUnit.unit):Sem (ForInStep PUnit))).run P w=.ok PUnit.unit w:=by
 intro gs
 induction gs with
 | nil=>intro zs i _ _;rfl
 | cons g gs ih=>
  intro zs i hi hx;cases zs with
  | nil=>simp[mY]at hi
  | cons z zs=>
   simp only[mY,aK]at hi;obtain⟨⟨⟨h1,h2⟩,h3⟩,h4⟩:=hi;have h2:=de h2
   have xv : g.name ≠ "_" := by simpa using h3
   obtain⟨v,hv⟩:=hx 0 (by simp);have p1:=lz (w:=w) h1 (xs:=xs) (i:=g.offset) (by rw[h2];simpa using hv);have rest:=ih zs (i+1) h4 fun j hj=>by obtain⟨v,q⟩:=hx (j+1) (by simpa using hj);exact⟨v,by rw[<-q];congr 1;omega⟩
   simp only[List.forIn_cons,ae xv,bJ,p1,FE h1,dm,fF];exact rest
theorem DG{P:Program}{kt:TypeId}(tJ:P.underlying kt=some (.struct gs))(e:Bool)(n:Nat)(w:World)(xs:Array Value):(Instr.checkKey e (n+1) kt (.agg xs)).run P w=((forIn gs.toList PUnit.unit fun f _=>(do
   if f.name ≠ "_" then Instr.checkKey e n f.type (← part f.type xs f.offset)
   pure (ForInStep.yield PUnit.unit):Sem (ForInStep PUnit))).run P w).andThen fun _ w'=>.ok () w':=by
 simp only[Instr.checkKey,bJ,run_underlying tJ,dm,<-Array.forIn_toList];rfl
theorem O9{P:Program}(h:l.all (RL P)=true):∀z D sh,xx l z=some D->Bq D=some (.st sh)->LD P z (.st sh):=by
 intro z D sh Z u;have:=ep.1 h _ (rZ Z);unfold RL at this;simp only[u,aK]at this;obtain⟨I,O⟩:=this;have O:P.stoodInHeld z=false:=by simpa using O
 have J:C2 D.zero=some sh:=by
  unfold Bq at u;split at u<;>first
   | (cases u;done)
   | skip
  all_goals (split at u)
  all_goals first
   | (cases u;done)
   | (obtain⟨s,hs,e⟩:=aT.1 u;injection e with e;subst e;exact hs)
 split at I
 ·rename_i gs R;have hlen:gs.size=sh.length:=by have:=wB I;rw[MY J]at this;simpa using this
  refine⟨fun e k w hk=>?_,fun k w ms hk V=>?_⟩
  ·cases k<;>first | (exact hk.elim) | skip
   rename_i xs;have W:=nZ (sh:=sh) hk;have W:xs.size=sh.length:=by simpa using W
   have:=DF e 9998 w xs gs.toList D.zero 0 I fun j hj=>⟨xs[j]'(by simp at hj;omega),by rw[aY];exact cx _⟩;exact (DG R e 9999 w xs).trans (by rw[this];rfl)
  rw[run_findKey_eq w (by rw[R]) k ms];show (Instr.findAsking z k ms 0).run P w=.ok (ta k ms 0) w;generalize 0=i
  induction ms generalizing i with
  | nil=>rfl
  | cons m ms ih=>
   have U:=V m bK;cases k<;>first | (exact hk.elim) | skip
   rename_i xs;obtain⟨mk,mv,mb⟩:=m;cases mk<;>first | (exact U.elim) | skip
   rename_i ys;have hlx:xs.size=sh.length:=by simpa using nZ (sh:=sh) hk
   have hly:ys.size=sh.length:=by simpa using nZ (sh:=sh) U
   have Y:∀(zs:Array Value) (i:Nat) x v,(zs.toList.map PV.im)[i]?=some x->zs[i]?=some v->x=.im v:=fun zs i x v N q2=>by
    rw[aB,jN,q2]at N;injection N with N;exact N.symm
   have:=FD R O I (O8 (sh:=sh) J hk U) xs ys w (Y xs) (Y ys) (by simp) (by simp) (by simp;omega);unfold Instr.findAsking ta;simp only[bJ,this,dm,E4];cases E3 xs.toList ys.toList with
   | true=>rfl
   | false=>exact ih (fun x hx=>V x (cK _ hx)) _
 cases I
end Go.AM
namespace Go.AM
open Go.RowKit
variable {A:qB}
theorem au.ed(hC:bR A.C)(s:AS)(d:Nat)(e:TypeId)(D:TI)(N:d<100000)(O:s.t d=.nl)(R:A.C.T e=some D)(hpos:0<D.size):
  au A s ⟨bq (jH d s).t d (.ow d),bq (jH d s).h d (.row e [])⟩:=by
 intro S rho a w u;have U:a.tmps.getD d undef=.slice none 0 0:=by
  have:=u.tm d trivial;rw[O]at this;generalize a.tmps.getD d undef=v at this;cases this;rfl
 have V:=u.free d (.row e []);obtain⟨info,z,W,h2,h3,h4,h5,h6,h7,h8⟩:=hC.tab e D R;have Y:=V.new hC d (.row e []) N (fun h=>h rfl) (aH _ _ _) w rfl rfl rfl (aF _) (fun _=>False) (fun _ _ _=>rfl) (fun _ h=>h.elim) (.slice none 0 0) (fun g Z=>by cases Z) fun T=>by
  show aC _ _ _ _ _ (bq rho d _ d);rw[aH];exact⟨info,[],W,by omega,⟨by simp,.inl ⟨rfl,rfl⟩⟩,by simp,by simp,by simp⟩
 have I:cc A c_ c_ S (bq rho d (.slice none 0 0)) ⟨(jH d s).t,bq (jH d s).h d (.row e [])⟩ a w:=Y.s5 (fun _ _=>trivial) (fun k=>⟨fun _=>by by_cases e:k=d;exact .inr e;exact .inl e,fun _=>trivial⟩);refine⟨S,_,{ I with tm:=fun j _=>?_ }⟩;by_cases J:j=d
 ·subst J;show br _ _ _ _ _ _ (bq _ _ _ _) _;rw[aH];exact .ow j _ fun _=>⟨trivial,by rw[aH];exact U⟩
 show br _ _ _ _ _ _ (bq _ _ _ _) _;rw[a_ _ _ J];exact I.tm j trivial
theorem au.gn(hC:bR A.C)(s:AS)(d:Nat){y:PV}{fz:List (Nat×AB)}(h:AM.gn s.h (s.t d) fun z D=>z=y/\D=fz):au A s ⟨bq s.t d (.p y),app s.h fz⟩:=by
 intro S rho a w u;obtain⟨z,D,S',⟨rfl,rfl⟩,I,hp,hS,hF,_⟩:=iR hC u (h:=s.h) (fun _=>.inl rfl) (u.tm d trivial) h;refine⟨S',rho,{ I with tm:=fun j _=>?_ }⟩;by_cases J:j=d
 ·subst J;show br _ _ _ _ _ _ (bq _ _ _ _) _;rw[aH];exact .p _ _ hp
 show br _ _ _ _ _ _ (bq _ _ _ _) _;rw[a_ _ _ J];exact I.tm j trivial
theorem au.nil(hC:bR A.C)(s:AS)(d:Nat)(h:s.t d=.nl):au A s ⟨bq s.t d (.p (.sl [])),s.h⟩:=au.gn hC s d (y:=.sl []) (fz:=[]) (by rw[h];exact⟨rfl,rfl⟩)
theorem au.own(hC:bR A.C)(s:AS)(d:Nat){id:Nat}{e:TypeId}{es:List (List PV)}(h:s.t d=.ow id)(u:s.h id=.row e es):au A s ⟨bq s.t d (.p (.sl es)),bq s.h id (.jr es)⟩:=au.gn hC s d (y:=.sl es) (fz:=[(id,.jr es)]) (by rw[h];simp only[AM.gn,AM.mP];rw[u];exact⟨rfl,rfl⟩)
theorem au.Qe(s:AS)(i d:Nat)(hid:i≠d)(z:d<100000):au A s (nE i d s):=fun S _ _ _ u=>⟨S,_,u.rename i d hid z⟩
theorem au.uU(hC:bR A.C)(s:AS)(id j d:Nat)(e:TypeId)(I:TI)(cs:List AV)(Z:d<100000)(hid:id≠d)(hb:s.h id=.box cs)(hn:cs[j]?=some .nl)(hT:A.C.T e=some I)(hpos:0<I.size):
  au A s ⟨(jH d s).t,bq (bq (jH d s).h d (.row e [])) id (.box ((cs.map (sc d)).set j (.ow d)))⟩:=by
 intro S rho a w J;have wm:=J.free d (.row e []);obtain⟨info,z,h1,h2,h3,h4,h5,h6,h7,h8⟩:=hC.tab e I hT;have bD:=wm.new hC d (.row e []) Z (fun h=>h rfl) (aH _ _ _) w rfl rfl rfl (aF _) (fun _=>False) (fun _ _ _=>rfl) (fun _ h=>h.elim) (.slice none 0 0) (fun g hg=>by cases hg) fun T=>by
  show aC _ _ _ _ _ (bq rho d _ d);rw[aH];exact⟨info,[],h1,by omega,⟨by simp,.inl ⟨rfl,rfl⟩⟩,by simp,by simp,by simp⟩
 have R:cc A c_ c_ S (bq rho d (.slice none 0 0)) ⟨(jH d s).t,bq (jH d s).h d (.row e [])⟩ a w:=bD.s5 (fun _ _=>trivial) (fun k=>⟨fun _=>by by_cases e:k=d;exact .inr e;exact .inl e,fun _=>trivial⟩);have a7:(bq (jH d s).h d (.row e [])) id=.box (cs.map (sc d)):=by
  rw[a_ _ _ hid];show bq (fun k=>yO d (s.h k)) d .none id=_;rw[a_ _ _ hid,hb];rfl
 refine⟨S,_,R.write hC id trivial (by show ((bq (jH d s).h d (.row e [])) id).live;rw[a7];trivial) _ (fun _ h=>by cases h) w rfl rfl rfl rfl (fun _ _=>rfl) fun T=>?_⟩;have D:=R.hp id trivial;have D:fU S w A.C.P c_ (bq rho d (.slice none 0 0)) (bq (jH d s).h d (.row e [])) id ((bq (jH d s).h d (.row e [])) id):=D;rw[a7]at D;obtain⟨g,ty,c,k1,k2,k3,U⟩:=D;refine⟨g,ty,c,k1,k2,by rw[k3,dz],fun i x u hi V=>?_⟩;by_cases W:i=j
 ·subst W;have Y:(cs.map (sc d))[i]?=some .nl:=by rw[aB,hn];rfl
  rw[ga (aA Y)]at hi;injection hi with hi;subst hi;obtain⟨N,O⟩:=U i _ u Y V;refine⟨N,.ow d u fun _=>⟨trivial,?_⟩⟩;rw[aH];cases O;rfl
 rw[jL (fun e=>W e.symm)]at hi;obtain⟨N,O⟩:=U i x u hi V;exact⟨N,O.dH T⟩
theorem au.uV(hC:bR A.C)(s:AS)(id j i:Nat)(e:TypeId)(es:List (List PV))(cs:List AV)(hid:id≠i)(hb:s.h id=.box cs)(R:cs[j]?=some (.ow i))(Y:s.h i=.row e es):
  au A s ⟨s.t,bq (bq s.h i (.jr es)) id (.box (cs.set j (.p (.sl es))))⟩:=by
 intro S rho a w I;have J:=I.Ca hC i trivial Y;have a7:(bq s.h i (.jr es)) id=.box cs:=by rw[a_ _ _ hid];exact hb
 refine⟨_,_,J.write hC id trivial (by show ((bq s.h i (.jr es)) id).live;rw[a7];trivial) _ (fun _ h=>by cases h) w rfl rfl rfl rfl (fun _ _=>rfl) fun T=>?_⟩;have z:=J.hp id trivial;have z:fU _ w A.C.P c_ rho (bq s.h i (.jr es)) id ((bq s.h i (.jr es)) id):=z;rw[a7]at z;have D:=J.hp i trivial;have D:fU _ w A.C.P c_ rho (bq s.h i (.jr es)) i ((bq s.h i (.jr es)) i):=D;rw[aH]at D;obtain⟨g,Z,c,k1,k2,k3,U⟩:=z;refine⟨g,Z,c,k1,k2,by rw[k3,dz],fun q x u hi V=>?_⟩;by_cases W:q=j
 ·subst W;rw[ga (aA R)]at hi;injection hi with hi;subst hi;obtain⟨N,O⟩:=U q _ u R V;refine⟨N,.p _ _ ?_⟩;rw[(O.cW (by rw[aH];trivial)).2];exact D
 rw[jL (fun e=>W e.symm)]at hi;obtain⟨N,O⟩:=U q x u hi V;exact⟨N,O.dH T⟩
end Go.AM
namespace Go.AM
open Go.RowKit
def r_:List HC->List Nat->List AV
 | [],_=>[]
 | .p x::r,ns=>.p x::r_ r ns
 | .row _ _::r,n::ns=>.ow n::r_ r ns
 | .row _ _::r,[]=>.junk::r_ r []
def BB:List HC->List Nat->List (Nat×AB)
 | [],_=>[]
 | .p _::r,ns=>BB r ns
 | .row e es::r,n::ns=>(n,.row e es)::BB r ns
 | .row _ _::_,[]=>[]
def rowsOf:List HC->Nat
 | []=>0
 | .p _::r=>rowsOf r
 | .row _ _::r=>rowsOf r+1
def kW:List (Nat×AB)->AS->AS
 | [],s=>s
 | (d,b)::r,s=>kW r ⟨(jH d s).t,bq (jH d s).h d b⟩
theorem wC:∀{cs:List HC} {ns:List Nat},rowsOf cs=ns.length->(BB cs ns).map (·.1)=ns
 | [],ns,h=>by cases ns with | nil=>rfl | cons n ns=>simp[rowsOf]at h
 | .p x::cs,ns,h=>by show (BB cs ns).map _=_;exact wC h
 | .row e es::cs,[],h=>by simp[rowsOf]at h
 | .row e es::cs,n::ns,h=>by
  simp only[rowsOf,cH,yK]at h;simp[BB,wC h]
theorem Jd:∀{cs:List HC} {ns:List Nat} {n:Nat} {b:AB},(n,b)∈BB cs ns->∃(j:Nat) (e:TypeId) (es:List (List PV)),cs[j]?=some (.row e es)/\b=.row e es/\(r_ cs ns)[j]?=some (.ow n)
 | [],ns,n,b,h=>by cases h
 | .p x::cs,ns,n,b,h=>by
  obtain⟨j,e,es,u,z,D⟩:=Jd (cs:=cs) (ns:=ns) h;exact⟨j+1,e,es,u,z,D⟩
 | .row e es::cs,[],n,b,h=>by cases h
 | .row e es::cs,m::ns,n,b,h=>by
  rcases aE.1 h with h | h
  ·injection h with u z;subst u z;exact⟨0,e,es,rfl,rfl,rfl⟩
  obtain⟨j,e,es,u,z,D⟩:=Jd (cs:=cs) (ns:=ns) h;exact⟨j+1,e,es,u,z,D⟩
theorem DH:∀{cs:List HC} {ns:List Nat} {j:Nat} {x:AV},rowsOf cs=ns.length->(r_ cs ns)[j]?=some x->(∃z,cs[j]?=some (.p z)/\x=.p z)\/∃n e es,cs[j]?=some (.row e es)/\x=.ow n/\(n,.row e es)∈BB cs ns
 | [],ns,j,x,_,h=>by simp[r_]at h
 | .p y::cs,ns,0,x,_,h=>by simp[r_]at h;exact .inl ⟨y,rfl,h.symm⟩
 | .p y::cs,ns,j+1,x,u,h=>by
  have:=DH (cs:=cs) (ns:=ns) (j:=j) u (by simpa [r_] using h);exact this
 | .row e es::cs,[],j,x,u,_=>by simp[rowsOf]at u
 | .row e es::cs,n::ns,0,x,_,h=>by simp[r_]at h;exact .inr ⟨n,e,es,rfl,h.symm,by simp[BB]⟩
 | .row e es::cs,n::ns,j+1,x,u,h=>by
  simp only[rowsOf,cH,yK]at u;rcases DH (cs:=cs) (ns:=ns) (j:=j) u (by simpa [r_] using h) with h | ⟨m,e',D,I,J,N⟩
  ·exact .inl h
  exact .inr ⟨m,e',D,I,J,by simp[BB,N]⟩
theorem yS:∀{cs:List HC} {ns:List Nat},(r_ cs ns).length=cs.length
 | [],_=>rfl
 | .p x::cs,ns=>by simp[r_,yS (cs:=cs)]
 | .row e es::cs,[]=>by simp[r_,yS (cs:=cs)]
 | .row e es::cs,n::ns=>by simp[r_,yS (cs:=cs)]
theorem xz{A:qB}{S:Nat->Prop}{rho:Nat->Value}{a:Act}{w:World}:∀(l:List (Nat×AB)) (L:Nat->Prop) (s:AS),cc A c_ L S rho s a w->cc A c_ (fun k=>L k/\∀p∈l,p.1≠k) S rho (kW l s) a w
 | [],L,s,sim=>sim.s5 (fun _ h=>h) (fun i=>⟨fun h=>h.1,fun h=>⟨h,by simp⟩⟩)
 | (d,b)::l,L,s,sim=>(xz l _ _ (sim.Qd d b)).s5 (fun _ h=>h) (fun i=>⟨fun ⟨z,u⟩=>⟨⟨z,fun e=>u (d,b) (by simp) e.symm⟩,fun p hp=>u p (by simp[hp])⟩,fun ⟨⟨z,u⟩,h3⟩=>⟨z,fun p hp=>by
   rcases aE.1 hp with h | h
   ·subst h;exact fun e=>u e.symm
   exact h3 p h⟩⟩)
theorem qT:∀(l:List (Nat×AB)) (s:AS) (k:Nat),(∀p∈l,p.1≠k)->(∀d,yO d (s.h k)=s.h k)->(kW l s).h k=s.h k
 | [],s,k,_,_=>rfl
 | (d,b)::l,s,k,h,hs=>by
  have hk:k≠d:=fun e=>h (d,b) (by simp) e.symm;have u:bq (jH d s).h d b k=s.h k:=by
   rw[a_ _ _ hk];show bq (fun k=>yO d (s.h k)) d .none k=_;rw[a_ _ _ hk];exact hs d
  show (kW l ⟨(jH d s).t,bq (jH d s).h d b⟩).h k=_;rw[qT l _ k (fun p hp=>h p (by simp[hp])) (fun z=>by show yO z (bq (jH d s).h d b k)=bq (jH d s).h d b k;rw[u];exact hs z)];exact u
theorem zQ:∀(l:List (Nat×AB)) (s:AS) (k:Nat) (b:AB),(l.map (·.1)).Nodup->(∀d,yO d b=b)->(k,b)∈l->(kW l s).h k=b
 | [],s,k,b,_,_,h=>by cases h
 | (d,z)::l,s,k,b,hn,hb,h=>by
  simp only[fJ,nT]at hn;show (kW l ⟨(jH d s).t,bq (jH d s).h d z⟩).h k=_;rcases aE.1 h with h | h
  ·injection h with h1 h2;subst h1 h2;rw[qT l _ k (fun p hp e=>hn.1 (bF.2 ⟨p,hp,e⟩)) (fun u=>by show yO u (bq (jH k s).h k b k)=bq (jH k s).h k b k;rw[aH];exact hb u)];exact aH _ _ _
  exact zQ l _ k b hn.2 hb h
theorem qp:∀{l:List Nat},fb l=true->l.Nodup
 | [],_=>by simp
 | n::l,h=>by
  simp[fb]at h;refine nT.2 ⟨fun u=>?_,qp h.2.2⟩;rw[mV.2 u]at h;cases h.1
theorem au.open{A:qB}(hC:bR A.C)(s:AS)(id:Nat)(ns:List Nat){cs:List HC}(hb:s.h id=.a7 cs)(Y:rowsOf cs=ns.length)(hg:fb ns=true)(hid:Fo id ns=false):
  au A s ⟨(kW (BB cs ns) s).t,bq (kW (BB cs ns) s).h id (.box (r_ cs ns))⟩:=by
 intro S rho a w qG;have Yq:=wC Y;have Oj:((BB cs ns).map (·.1)).Nodup:=by rw[Yq];exact qp hg
 have oL:∀n,n∈ns↔∃b,(n,b)∈BB cs ns:=fun n=>by rw[show (n∈ns)=(n∈(BB cs ns).map (·.1)) by rw[Yq]];simp
 have Z:¬id∈ns:=fun h=>by rw[mV.2 h]at hid;cases hid
 have I:=xz (BB cs ns) c_ s qG;have I:cc A c_ (fun k=>¬k∈ns) S rho (kW (BB cs ns) s) a w:=I.s5 (fun _ h=>h) (fun i=>⟨fun h=>⟨trivial,fun p hp e=>h (by rw[oL,<-e];exact⟨p.2,hp⟩)⟩,fun ⟨_,h⟩ R=>by obtain⟨b,gZ⟩:=(oL i).1 R;exact h _ gZ rfl⟩);obtain⟨J,GV⟩:∃J,J=kW (BB cs ns) s:=⟨_,rfl⟩;have zR:J.h id=.a7 cs:=by
  rw[GV,qT _ _ id (fun p hp e=>Z (by rw[oL,<-e];exact⟨p.2,hp⟩)) (fun d=>by rw[hb];rfl),hb]
 have Uq:∀n b,(n,b)∈BB cs ns->J.h n=b:=fun n b R=>by
  obtain⟨j,e,es,_,rfl,_⟩:=Jd R;rw[GV];exact zQ _ _ n _ Oj (fun d=>rfl) R
 rw[<-GV]at I ⊢;have hh:=I.hp id Z;rw[zR]at hh;obtain⟨g,ty,c,k1,U⟩:=hh;have Kt:bY (rho id)=some g:=by rw[k1];rfl
 have b_:(J.h id).live:=by rw[zR];trivial
 have place:∀n,n∈ns->∃(j:Nat) (e:TypeId) (es:List (List PV)) (u:Value),cs[j]?=some (.row e es)/\(r_ cs ns)[j]?=some (.ow n)/\c[j]?=some u/\J.h n=.row e es/\(n,AB.row e es)∈BB cs ns:=fun n R=>by
  obtain⟨b,gZ⟩:=(oL n).1 R;obtain⟨j,e,es,O,rfl,h3⟩:=Jd gZ;obtain⟨u,W⟩:=ky U.sz.symm (aA O);exact⟨j,e,es,u,O,h3,W,Uq n _ gZ,gZ⟩
 obtain⟨F,hF⟩:∃F:Nat->Value,∀n,n∈ns->∃(j:Nat) (e:TypeId) (es:List (List PV)),cs[j]?=some (.row e es)/\(r_ cs ns)[j]?=some (.ow n)/\c[j]?=some (F n)/\J.h n=.row e es/\(n,AB.row e es)∈BB cs ns:=by
  have ex:∀n,∃u:Value,n∈ns->∃(j:Nat) (e:TypeId) (es:List (List PV)),cs[j]?=some (.row e es)/\(r_ cs ns)[j]?=some (.ow n)/\c[j]?=some u/\J.h n=.row e es/\(n,AB.row e es)∈BB cs ns:=fun n=>by
   by_cases R:n∈ns
   ·obtain⟨j,e,es,u,h⟩:=place n R;exact⟨u,fun _=>⟨j,e,es,h⟩⟩
   exact⟨undef,fun h=>(R h).elim⟩
  exact⟨fun n=>(ex n).choose,fun n=>(ex n).choose_spec⟩
 have O_:∀{cs:List HC} {ns:List Nat} {i j n:Nat},rowsOf cs=ns.length->fb ns=true->(r_ cs ns)[i]?=some (.ow n)->(r_ cs ns)[j]?=some (.ow n)->i=j:=by
  intro cs ns i j n Y hg O h2;have S_:∀{cs:List HC} {ns:List Nat},rowsOf cs=ns.length->dO (r_ cs ns)=ns:=by
   intro cs
   induction cs with
   | nil=>intro ns h;cases ns with | nil=>rfl | cons n ns=>simp[rowsOf]at h
   | cons x cs ih=>
    intro ns h;cases x with
    | p x=>exact ih h
    | row e es=>
     cases ns with
     | nil=>simp[rowsOf]at h
     | cons n ns=>
      simp only[rowsOf,cH,yK]at h;show n::dO (r_ cs ns)=_;rw[ih h]
  exact pF (by rw[S_ Y];exact hg) O h2
 obtain⟨rho',Qt⟩:∃rho':Nat->Value,rho'=fun k=>if k∈ns then F k else rho k:=⟨_,rfl⟩;have Ta:∀k,k∈ns->rho' k=F k:=fun k hk=>by rw[Qt];exact ae hk
 have HM:∀k,¬k∈ns->rho' k=rho k:=fun k hk=>by rw[Qt];exact aa hk
 have VF:∀k,(k=id/\bq J.h id (.box (r_ cs ns)) k=.box (r_ cs ns))\/(k≠id/\bq J.h id (.box (r_ cs ns)) k=J.h k):=fun k=>by
  by_cases e:k=id
  ·subst e;exact .inl ⟨rfl,aH _ _ _⟩
  exact .inr ⟨e,a_ _ _ e⟩
 have T:mQ S S w w (fun k=>¬k∈ns) c_ rho rho' J.h (bq J.h id (.box (r_ cs ns))):=⟨fun _ h=>h,fun _ _=>rfl,fun j D=>⟨by
   rcases VF j with⟨rfl,h⟩ | ⟨_,h⟩
   ·rw[zR];trivial
   ·rw[h]at D;exact D,fun hn=>⟨trivial,HM j hn⟩⟩,fun j e D=>by
   rcases VF j with⟨_,h⟩ | ⟨_,h⟩
   ·rw[h]at D;cases D
   rw[h]at D;exact D⟩
 have N:∀j k,(bq J.h id (.box (r_ cs ns)) j).live->hasB w (bq J.h id (.box (r_ cs ns)) j) (rho' j) k->∃o,¬o∈ns/\(J.h o).live/\hasB w (J.h o) (rho o) k/\(if j∈ns then o=id else o=j):=fun j k Y ho=>by
  by_cases D:j∈ns
  ·obtain⟨i,e,es,O,h2,h3,h4,h5⟩:=hF j D;have Zr:j≠id:=fun e=>Z (e▸D);rw[a_ _ _ Zr,h4,Ta j D]at ho;refine⟨id,Z,b_,?_,by rw[ae D]⟩;rw[zR];exact .inr <| .inl ⟨cs,g,rfl,Kt,c,ty,_,i,_,F j,U.hp,O,trivial,h3,aD rfl ho⟩
  rw[HM j D]at ho;rcases VF j with⟨rfl,h⟩ | ⟨_,h⟩
  ·rw[h]at ho;exact⟨j,D,b_,.inl (aD rfl ho),by rw[aa D]⟩
  rw[h]at Y ho;exact⟨j,D,Y,ho,by rw[aa D]⟩
 exact⟨S,rho',
 {tm:=fun j D=>(I.tm j D).dH T
  sz:=I.sz,df:=I.df,nb:=I.nb
  pn:=fun k hk=>by rw[HM k fun h=>by have:=pG hg h;omega];exact I.pn k hk
  ev:=I.ev,s0:=I.s0,st:=I.st,sb:=I.sb
  hp:=fun j _=>by
   show fU _ _ _ _ _ _ _ (bq J.h id (.box (r_ cs ns)) j);rcases VF j with⟨rfl,h⟩ | ⟨cU,h⟩
   ·rw[h];refine⟨g,ty,c,by rw[HM j Z];exact k1,U.hp,by rw[yS];exact U.sz,fun i x u hi W=>?_⟩;rcases DH Y hi with⟨z,O,rfl⟩ | ⟨n,e,es,O,rfl,h3⟩
    ·exact⟨(U.cell i _ u O W).1,.p _ _ (U.cell i _ u O W).2⟩
    refine⟨(U.cell i _ u O W).1,.ow n u fun _=>⟨trivial,?_⟩⟩;have R:n∈ns:=(oL n).2 ⟨_,h3⟩;obtain⟨i',e',dA,q1,q2,q3,q4,q5⟩:=hF n R;have:=O_ Y hg q2 hi;subst this;rw[Ta n R];rw[q3]at W;injection W with W;exact W.symm
   rw[h];by_cases D:j∈ns
   ·obtain⟨i,e,es,O,h2,h3,h4,h5⟩:=hF j D;rw[h4];show aC _ _ _ _ _ (rho' j);rw[Ta j D];exact (U.cell i _ _ O h3).2
   exact (I.hp j D).dH T (fun _ _ _=>rfl) (fun _=>HM j D)
  dj:=fun i j k _ _ li lj hi D=>by
   obtain⟨o,o1,o2,o3,o4⟩:=N i k li hi;obtain⟨p,p1,p2,p3,p4⟩:=N j k lj D;have:=I.dj o p k o1 p1 o2 p2 o3 p3;subst this;by_cases ei:i∈ns
   ·rw[ae ei]at o4;subst o4;have hi:hasB w (bq J.h o (.box (r_ cs ns)) i) (rho' i) k:=hi;obtain⟨i1,e1,Vx,q1,q2,q3,q4,q5⟩:=hF i ei;have Yr:bY (F i)=some k:=by
     rw[a_ _ _ (fun e=>Z (by rw[<-e];exact ei)),q4,Ta i ei]at hi;exact aD rfl hi
    by_cases V:j∈ns
    ·have D:hasB w (bq J.h o (.box (r_ cs ns)) j) (rho' j) k:=D;obtain⟨j1,e2,oz,r1,r2,r3,r4,r5⟩:=hF j V;have W_:bY (F j)=some k:=by
      rw[a_ _ _ (fun e=>Z (by rw[<-e];exact V)),r4,Ta j V]at D;exact aD rfl D
     have:=U.dis i1 j1 _ _ _ _ k q1 r1 q3 r3 trivial trivial Yr W_;subst this;rw[q2]at r2;injection r2 with r2;injection r2
    rw[aa V]at p4;subst p4;exfalso;have D:hasB w (bq J.h o (.box (r_ cs ns)) o) (rho' o) k:=D;rw[aH,HM o V]at D;have D:=aD rfl D;rw[Kt]at D;injection D with D;exact U.top i1 _ _ k q1 q3 trivial Yr D.symm
   rw[aa ei]at o4;by_cases V:j∈ns
   ·rw[ae V]at p4;subst o4;subst p4;exfalso;have hi:hasB w (bq J.h o (.box (r_ cs ns)) o) (rho' o) k:=hi;have D:hasB w (bq J.h o (.box (r_ cs ns)) j) (rho' j) k:=D;obtain⟨j1,e2,oz,r1,r2,r3,r4,r5⟩:=hF j V;have W_:bY (F j)=some k:=by
     rw[a_ _ _ (fun e=>Z (by rw[<-e];exact V)),r4,Ta j V]at D;exact aD rfl D
    rw[aH,HM o ei]at hi;have hi:=aD rfl hi;rw[Kt]at hi;injection hi with hi;exact U.top j1 _ _ k r1 r3 trivial W_ hi.symm
   rw[aa V]at p4;exact o4.symm.trans p4
  lv:=fun i k _ li hi=>by
   obtain⟨o,o1,o2,o3,_⟩:=N i k li hi;exact I.lv o k o1 o2 o3
  fr:=I.fr }⟩
end Go.AM
namespace Go.AM
open Go.RowKit
def cellAt(w:World)(g p:Nat)(u:Value):Prop:=∃(c:Array Value) (ty:TypeId) (m:Nat×Nat),w.heap[g]?=some (.cells c ty m)/\c[p]?=some u
theorem n_{w:World}{g p:Nat}{u v:Value}(h:cellAt w g p u)(k:cellAt w g p v):u=v:=by
 obtain⟨c,ty,m,I,J⟩:=h;obtain⟨c',X6,m',z,D⟩:=k;rw[I]at z;injection z with z;injection z with z;subst z;rw[J]at D;injection D
variable {es:List (List HX)}
theorem eK{w:World}{g a j:Nat}{u:Value}:ew w es g a j u↔∃r e xs,es[a]?=some r/\r[j]?=some (.row e xs)/\cellAt w g (a*r.length+j) u:=
 ⟨fun ⟨r,e,xs,c,z,m,D,I,J,N⟩=>⟨r,e,xs,D,I,c,z,m,J,N⟩,fun ⟨r,e,xs,D,I,c,z,m,J,N⟩=>⟨r,e,xs,c,z,m,D,I,J,N⟩⟩
variable {α:Type} {e:TypeId}
theorem aC.re{β:Type}{P:Program}{w:World}{R:α->Value->Prop}{V:β->Value->Prop}{es:List (List α)}{J:List (List β)}{v:Value}(h:aC P w R e es v)(W:J.length=es.length)
  (hk:∀(a:Nat) r z,es[a]?=some r->J[a]?=some z->z.length=r.length)
  (hc:∀(a:Nat) r z (j:Nat) x O u,es[a]?=some r->J[a]?=some z->r[j]?=some x->z[j]?=some O->(∀g,bY v=some g->cellAt w g (a*r.length+j) u)->R x u->V O u):aC P w V e J v:=by
 obtain⟨i,xs,h1,h2,Y,Z,h5,h6⟩:=h;have old:∀{a:Nat} {z:List β},J[a]?=some z->∃r,es[a]?=some r:=fun {a z} D=>⟨_,aX (by rw[<-W];exact aA D)⟩;refine⟨i,xs,h1,h2,by rw[W];exact Y,fun z oM=>?_,h5,fun a z j O D hj=>?_⟩
 ·obtain⟨a,D⟩:=cI.1 oM;obtain⟨r,I⟩:=old D;rw[hk a r z I D];exact Z r (an I)
 obtain⟨r,I⟩:=old D;have hlen:=hk a r z I D;obtain⟨x,hx⟩:∃x,r[j]?=some x:=⟨_,aX (by rw[<-hlen];exact aA hj)⟩;obtain⟨u,N,Bt⟩:=h6 a r j x I hx;refine⟨u,N,hc a r z j x O u I D hx hj (fun g U=>?_) Bt⟩;have xl:=Z r (an I);rcases Y.2 with⟨hn,_⟩ | ⟨g',cap,cur,hv,_,EZ,k1,k2,k3,k4⟩
 ·rw[hn]at U;cases U
 rw[hv]at U;obtain rfl:=jy.1 U;refine⟨cur,_,_,EZ,?_⟩;rw[xl];rw[<-k4,cV]at N;split at N
 ·simpa using N
 cases N
variable {A:qB}
theorem au.Ys(hC:bR A.C)(s:AS)(id:Nat){es:List (List PV)}(hb:s.h id=.row e es):au A s ⟨s.t,bq s.h id (.ay e (es.map qA))⟩:=by
 intro S rho a w J;have R:∀g k j u,¬ew w (es.map qA) g k j u:=fun g k j u h=>by
  obtain⟨r,e',tb,I,D,_⟩:=eK.1 h;rw[aB]at I;obtain⟨q,_,rfl⟩:=aT.1 I;rw[qA,aB]at D;obtain⟨z,_,U⟩:=aT.1 D;cases U
 have N:=J.hp id trivial;rw[hb]at N;have N:aC A.C.P w (aQ S w) e es (rho id):=N;refine⟨S,rho,J.Dc hC id trivial (by rw[hb];trivial) _ (fun e' h=>by rw[hb];exact h) w rfl rfl rfl rfl (fun _ _=>rfl) (fun T=>?_) (fun g h=>?_)⟩
 ·refine⟨N.re (by simp) (fun k r V I D=>?_) (fun k r V j x x2 u I D W O _ Y=>?_),⟨fun g k j u b _ h=>absurd h (R _ _ _ _),fun g k j k' j' u u' b _ h=>absurd h (R _ _ _ _)⟩⟩
  ·rw[aB,I]at D;injection D with D;rw[<-D,qA,aw]
  rw[aB,I]at D;injection D with D;rw[<-D,qA,aB,W]at O;injection O with O;rw[<-O];exact C6 Y
 rw[eI]at h;rcases h with h | ⟨g',k,j,u,_,h,_⟩
 ·exact .inl h
 exact absurd h (R _ _ _ _)
def Je:HX->Prop
 | .av (.p _)=>True
 | .av .nl=>True
 | .row _ _=>True
 | _=>False
def Jf(es:List (List HX)):Prop:=∀r∈es,∀x∈r,Je x
theorem KH(h:Jf es)(d:Nat):(es.map fun r=>r.map (HX.iT (sc d)))=es:=by
 conv=>rhs;rw[<-List.map_id es]
 refine nW fun r u=>?_;show r.map _=r
 conv=>rhs;rw[<-List.map_id r]
 refine nW fun x z=>?_;have:=h r u x z;cases x with
 | row e es=>rfl
 | av y=>cases y<;>first | rfl | exact this.elim
theorem ju{l:List α}{i a:Nat}{x y:α}(h:(l.set i x)[a]?=some y):(a=i/\y=x/\i<l.length)\/(a≠i/\l[a]?=some y):=by
 by_cases e:a=i
 ·subst e;have u:=aA h;rw[dz]at u;rw[ga u]at h;injection h with h;exact .inl ⟨rfl,h.symm,u⟩
 rw[jL (fun e'=>e e'.symm)]at h;exact .inr ⟨e,h⟩
variable {e':TypeId}
theorem au.Jg(hC:bR A.C)(s:AS)(id i j d:Nat){r:List HX}{xs:List (List PV)}(hd:d<100000)(hid:id≠d)(hb:s.h id=.ay e es)(hs:Jf es)(hr:es[i]?=some r)(hj:r[j]?=some (.row e' xs)):
  au A s ⟨(jH d s).t,bq (bq (jH d s).h d (.row e' xs)) id (.ay e (es.set i (r.set j (.av (.ow d)))))⟩:=by
 intro S rho a w qG;have z:=qG.free d (.row e' xs);obtain⟨D,Xa⟩:∃D,D=bq (jH d s).h d (.row e' xs):=⟨_,rfl⟩;have zR:D id=.ay e es:=by
  rw[Xa,a_ _ _ hid];show bq (fun k=>yO d (s.h k)) d .none id=_;rw[a_ _ _ hid,hb];show AB.ay e _=_;rw[KH hs]
 have Lv:D d=.row e' xs:=by rw[Xa,aH]
 rw[<-Xa]at z ⊢;obtain⟨O,qU⟩:∃O,O=es.set i (r.set j (.av (.ow d))):=⟨_,rfl⟩;rw[<-qU];have hh:=z.hp id hid;have hh:fU S w A.C.P (fun k=>k≠d) rho D id (D id):=hh;rw[zR]at hh;obtain⟨hR,hS⟩:=hh;obtain⟨g,u,hg,Tb,Bt⟩:=hR.E6 hr hj;have Bt:aC A.C.P w (aQ S w) e' xs u:=Bt;have b_:(D id).live:=by rw[zR];trivial
 have gH:∀U k p v,ew w O U k p v->ew w es U k p v/\¬(k=i/\p=j):=by
  intro U k p v hc;obtain⟨q,e2,KI,q1,q2,q3⟩:=eK.1 hc;rw[qU]at q1;rcases ju q1 with⟨rfl,rfl,_⟩ | ⟨hk,q1⟩
  ·rcases ju q2 with⟨_,hx,_⟩ | ⟨hp,q2⟩
   ·cases hx
   exact⟨eK.2 ⟨r,e2,KI,hr,q2,by rw[dz]at q3;exact q3⟩,fun h=>hp h.2⟩
  exact⟨eK.2 ⟨q,e2,KI,q1,q2,q3⟩,fun h=>hk h.1⟩
 have hown:∀b,bY u=some b->hasB w (D id) (rho id) b:=fun b h=>by rw[zR,eI];exact .inr ⟨g,i,j,u,hg,Tb,h⟩
 obtain⟨rho',mh⟩:∃rho',rho'=bq rho d u:=⟨_,rfl⟩;have rd:rho' d=u:=by rw[mh,aH]
 have ro:∀k,k≠d->rho' k=rho k:=fun k h=>by rw[mh,a_ _ _ h]
 have T:mQ S S w w (fun k=>k≠d) c_ rho rho' D (bq D id (.ay e O)):=⟨fun _ h=>h,fun _ _=>rfl,fun k hk=>⟨by
   rcases ba D id (.ay e O) k with⟨rfl,h⟩ | ⟨_,h⟩
   ·rw[zR];trivial
   ·rw[h]at hk;exact hk,fun h=>⟨trivial,ro k h⟩⟩,fun k e2 hk=>by
   rcases ba D id (.ay e O) k with⟨rfl,h⟩ | ⟨_,h⟩
   ·rw[h]at hk;rw[zR];exact hk
   rw[h]at hk;exact hk⟩
 have J:∀k b,(bq D id (.ay e O) k).live->hasB w (bq D id (.ay e O) k) (rho' k) b->∃o,o≠d/\(D o).live/\hasB w (D o) (rho o) b/\(if k=d then o=id/\bY u=some b else o=k/\(k=id->bY u≠some b)):=by
  intro k b hl I;by_cases hk:k=d
  ·subst hk;rw[a_ _ _ (fun e=>hid e.symm),Lv,rd]at I;have I:=aD rfl I;exact⟨id,hid,b_,hown b I,by rw[ae rfl];exact⟨rfl,I⟩⟩
  rcases ba D id (.ay e O) k with⟨rfl,h⟩ | ⟨cU,h⟩
  ·rw[h,ro k hk]at I;rw[eI]at I;refine⟨k,hk,b_,?_,?_⟩
   ·rw[zR,eI];rcases I with I | ⟨U,k',p,v,V,o2,o3⟩
    ·exact .inl I
    exact .inr ⟨U,k',p,v,V,(gH _ _ _ _ o2).1,o3⟩
   rw[aa hk];refine⟨rfl,fun _ Yt=>?_⟩;rcases I with I | ⟨U,k',p,v,V,o2,o3⟩
   ·rw[hg]at I;injection I with I;exact hS.top g i j u b hg Tb Yt I.symm
   rw[hg]at V;injection V with V;subst V;obtain⟨W,c2⟩:=gH _ _ _ _ o2;exact c2 (hS.dis g k' p i j v u b hg W Tb o3 Yt)
  rw[h,ro k hk]at I;rw[h]at hl;exact⟨k,hk,hl,I,by rw[aa hk];exact⟨rfl,fun e=>absurd e cU⟩⟩
 exact⟨S,rho',
 {tm:=fun k hk=>(z.tm k hk).dH T
  sz:=z.sz,df:=z.df,nb:=z.nb
  pn:=fun k hk=>by rw[ro k (by omega)];exact z.pn k hk
  ev:=z.ev,s0:=z.s0,st:=z.st,sb:=z.sb
  hp:=fun k _=>by
   show fU _ _ _ _ _ _ _ (bq D id (.ay e O) k);by_cases hk:k=d
   ·subst hk;rw[a_ _ _ (fun e=>hid e.symm),Lv];show aC _ _ _ _ _ (rho' k);rw[rd];exact Bt
   rcases ba D id (.ay e O) k with⟨rfl,h⟩ | ⟨cU,h⟩
   ·rw[h];show aC _ _ _ _ _ (rho' k)/\v_ _ _ (rho' k);rw[ro k hk];refine⟨hR.re (by rw[qU,dz]) (fun p q q2 R N=>?_) (fun p q q2 m x x2 v R N z3 Y hcell hx=>?_),⟨fun U p m v b W c2 c3=>hS.top U p m v b W (gH _ _ _ _ c2).1 c3,fun U p m p' m' v v' b W c2 c3 c4 c5=>hS.dis U p m p' m' v v' b W (gH _ _ _ _ c2).1 (gH _ _ _ _ c3).1 c4 c5⟩⟩
    ·rw[qU]at N;rcases ju N with⟨rfl,rfl,_⟩ | ⟨_,N⟩
     ·rw[hr]at R;injection R with R;rw[<-R,dz]
     rw[R]at N;injection N with N;rw[N]
    have xA:s_ S w A.C.P (fun k=>k≠d) rho D x v->x2=x->s_ S w A.C.P c_ rho' (bq D k (.ay e O)) x2 v:=fun hx Ur=>by
     rw[Ur];cases x with
     | av y=>exact br.dH T hx
     | row e2 KI=>exact hx
    rw[qU]at N;rcases ju N with⟨rfl,rfl,_⟩ | ⟨_,N⟩
    ·rw[hr]at R;injection R with R;subst R;rcases ju Y with⟨rfl,rfl,_⟩ | ⟨_,Y⟩
     ·obtain⟨q',_,_,W,_,c2⟩:=eK.1 Tb;rw[hr]at W;injection W with W;subst W;have:=n_ (hcell g hg) c2;subst this;exact .ow d _ fun _=>⟨trivial,rd.symm⟩
     rw[z3]at Y;injection Y with Y;exact xA hx Y.symm
    rw[R]at N;injection N with N;subst N;rw[z3]at Y;injection Y with Y;exact xA hx Y.symm
   rw[h];exact (z.hp k hk).dH T (fun _ _ _=>rfl) (fun _=>ro k hk)
  dj:=fun k m b _ _ lk lm hk hm=>by
   obtain⟨o,V,o2,o3,Z⟩:=J k b lk hk;obtain⟨p,p1,p2,p3,p4⟩:=J m b lm hm;have:=z.dj o p b V p1 o2 p2 o3 p3;subst this;by_cases ek:k=d<;>by_cases em:m=d
   ·rw[ek,em]
   ·rw[ae ek]at Z;rw[aa em]at p4;exact absurd Z.2 (p4.2 (p4.1.symm.trans Z.1))
   ·rw[aa ek]at Z;rw[ae em]at p4;exact absurd p4.2 (Z.2 (Z.1.symm.trans p4.1))
   rw[aa ek]at Z;rw[aa em]at p4;exact Z.1.symm.trans p4.1
  lv:=fun k b _ lk hk=>by
   obtain⟨o,V,o2,o3,_⟩:=J k b lk hk;exact z.lv o b V o2 o3
  fr:=z.fr }⟩
theorem au.Qu(hC:bR A.C)(s:AS)(id i j d:Nat){r:List HX}{xs:List (List PV)}(hid:id≠d)(hb:s.h id=.ay e es)(Tc:s.h d=.row e' xs)(hr:es[i]?=some r)(hj:r[j]?=some (.av (.ow d))):
  au A s ⟨s.t,bq (bq s.h d .none) id (.ay e (es.set i (r.set j (.row e' xs))))⟩:=by
 intro S rho a w z;obtain⟨J,qU⟩:∃J,J=es.set i (r.set j (.row e' xs)):=⟨_,rfl⟩;rw[<-qU];have hh:=z.hp id trivial;rw[hb]at hh;obtain⟨hR,hS⟩:=hh;have b_:(s.h id).live:=by rw[hb];trivial
 have HO:(s.h d).live:=by rw[Tc];trivial
 have VG:=z.hp d trivial;rw[Tc]at VG;have VG:aC A.C.P w (aQ S w) e' xs (rho d):=VG;have up:∀k,(k=id/\bq (bq s.h d .none) id (.ay e J) k=.ay e J)\/(k=d/\k≠id/\bq (bq s.h d .none) id (.ay e J) k=.none)\/(k≠d/\k≠id/\bq (bq s.h d .none) id (.ay e J) k=s.h k):=fun k=>by
  by_cases U:k=id
  ·subst U;exact .inl ⟨rfl,aH _ _ _⟩
  by_cases h2:k=d
  ·subst h2;exact .inr (.inl ⟨rfl,U,by rw[a_ _ _ U,aH]⟩)
  exact .inr (.inr ⟨h2,U,by rw[a_ _ _ U,a_ _ _ h2]⟩)
 have T:mQ S S w w c_ c_ rho rho s.h (bq (bq s.h d .none) id (.ay e J)):=⟨fun _ h=>h,fun _ _=>rfl,fun k hk=>⟨by
   rcases up k with⟨rfl,h⟩ | ⟨_,_,h⟩ | ⟨_,_,h⟩
   ·rw[hb];trivial
   ·rw[h]at hk;exact hk.elim
   ·rw[h]at hk;exact hk,fun h=>⟨trivial,rfl⟩⟩,fun k e2 hk=>by
   rcases up k with⟨rfl,h⟩ | ⟨_,_,h⟩ | ⟨_,_,h⟩
   ·rw[h]at hk;rw[hb];exact hk
   ·rw[h]at hk;cases hk
   rw[h]at hk;exact hk⟩
 have hval:∀g u,bY (rho id)=some g->cellAt w g (i*r.length+j) u->u=rho d:=fun g u hg hu=>by
  obtain⟨i0,ws,V,q2,Z,q4,q5,q6⟩:=hR;obtain⟨u2,p1,p2⟩:=q6 i r j _ hr hj;have p2:br S w A.C.P c_ rho s.h (.ow d) u2:=p2;have:=(p2.cW (by rw[Tc];trivial)).2;rw[<-this];have xl:=q4 r (an hr);rcases Z.2 with⟨hn,_⟩ | ⟨g',cap,cur,hv,_,EZ,k1,k2,k3,k4⟩
  ·rw[hn]at hg;cases hg
  rw[hv]at hg;obtain rfl:=jy.1 hg;refine n_ hu ⟨cur,_,_,EZ,?_⟩;rw[xl];rw[<-k4,cV]at p1;split at p1
  ·simpa using p1
  cases p1
 have gH:∀g k p v,bY (rho id)=some g->ew w J g k p v->(ew w es g k p v/\¬(k=i/\p=j))\/(k=i/\p=j/\v=rho d):=by
  intro g k p v hg hc;obtain⟨q,e2,KI,V,q2,Z⟩:=eK.1 hc;rw[qU]at V;rcases ju V with⟨rfl,rfl,_⟩ | ⟨hk,V⟩
  ·rw[dz]at Z;rcases ju q2 with⟨rfl,_,_⟩ | ⟨hp,q2⟩
   ·exact .inr ⟨rfl,rfl,hval g v hg Z⟩
   exact .inl ⟨eK.2 ⟨r,e2,KI,hr,q2,Z⟩,fun h=>hp h.2⟩
  exact .inl ⟨eK.2 ⟨q,e2,KI,V,q2,Z⟩,fun h=>hk h.1⟩
 have N:∀g k p v b,bY (rho id)=some g->ew w es g k p v->bY v=some b->bY (rho d)≠some b:=fun g k p v b U h2 h3 h4=>
  hid (z.dj id d b trivial trivial b_ HO (by rw[hb,eI];exact .inr ⟨g,k,p,v,U,h2,h3⟩) (.inl h4))
 have D:∀k b,(bq (bq s.h d .none) id (.ay e J) k).live->hasB w (bq (bq s.h d .none) id (.ay e J) k) (rho k) b->∃o,(s.h o).live/\hasB w (s.h o) (rho o) b/\(o=k/\k≠d\/o=d/\k=id):=by
  intro k b hl ho;rcases up k with⟨rfl,h⟩ | ⟨_,_,h⟩ | ⟨U,_,h⟩
  ·rw[h,eI]at ho;rcases ho with ho | ⟨g,k',p,v,o1,o2,o3⟩
   ·exact⟨k,b_,.inl ho,.inl ⟨rfl,hid⟩⟩
   rcases gH _ _ _ _ o1 o2 with⟨O,_⟩ | ⟨_,_,rfl⟩
   ·exact⟨k,b_,by rw[hb,eI];exact .inr ⟨g,k',p,v,o1,O,o3⟩,.inl ⟨rfl,hid⟩⟩
   exact⟨d,HO,.inl o3,.inr ⟨rfl,rfl⟩⟩
  ·rw[h]at hl;exact hl.elim
  rw[h]at hl ho;exact⟨k,hl,ho,.inl ⟨rfl,U⟩⟩
 exact⟨S,rho,
 {tm:=fun k hk=>(z.tm k hk).dH T
  sz:=z.sz,df:=z.df,nb:=z.nb,pn:=z.pn
  ev:=z.ev,s0:=z.s0,st:=z.st,sb:=z.sb
  hp:=fun k _=>by
   show fU _ _ _ _ _ _ _ (bq (bq s.h d .none) id (.ay e J) k);rcases up k with⟨rfl,h⟩ | ⟨_,_,h⟩ | ⟨U,cU,h⟩
   ·rw[h];refine⟨hR.re (by rw[qU,dz]) (fun p q q2 R I=>?_) (fun p q q2 m x x2 v R I z3 W hcell Y=>?_),⟨fun g p m v b O c2 c3=>?_,fun g p m p' m' v v' b O c2 c3 c4 c5=>?_⟩⟩
    ·rw[qU]at I;rcases ju I with⟨rfl,rfl,_⟩ | ⟨_,I⟩
     ·rw[hr]at R;injection R with R;rw[<-R,dz]
     rw[R]at I;injection I with I;rw[I]
    ·have xA:s_ S w A.C.P c_ rho s.h x v->x2=x->s_ S w A.C.P c_ rho (bq (bq s.h d .none) k (.ay e J)) x2 v:=fun Y Ur=>by
      rw[Ur];cases x with
      | av y=>exact br.dH T Y
      | row e2 KI=>exact Y
     rw[qU]at I;rcases ju I with⟨rfl,rfl,_⟩ | ⟨_,I⟩
     ·rw[hr]at R;injection R with R;subst R;rcases ju W with⟨rfl,rfl,_⟩ | ⟨_,W⟩
      ·have Y:s_ S w A.C.P c_ rho s.h x v:=Y;rw[hj]at z3;injection z3 with z3;subst z3;have Y:br S w A.C.P c_ rho s.h (.ow d) v:=Y;show aC A.C.P w (aQ S w) e' xs v;rw[(Y.cW (by rw[Tc];trivial)).2];exact VG
      rw[z3]at W;injection W with W;exact xA Y W.symm
     rw[R]at I;injection I with I;subst I;rw[z3]at W;injection W with W;exact xA Y W.symm
    ·rcases gH _ _ _ _ O c2 with⟨V,_⟩ | ⟨_,_,rfl⟩
     ·exact hS.top g p m v b O V c3
     intro Zs;subst Zs;exact hid (z.dj k d b trivial trivial b_ HO (.inl O) (.inl c3))
    rcases gH _ _ _ _ O c2 with⟨V,q2⟩ | ⟨rfl,rfl,rfl⟩<;>rcases gH _ _ _ _ O c3 with⟨Z,q4⟩ | ⟨rfl,rfl,rfl⟩
    ·exact hS.dis g p m p' m' v v' b O V Z c4 c5
    ·exact absurd c5 (N g p m v b O V c4)
    ·exact absurd c4 (N g p' m' v' b O Z c5)
    exact⟨rfl,rfl⟩
   ·rw[h];trivial
   rw[h];exact (z.hp k trivial).dH T (fun _ _ _=>rfl) (fun _=>rfl)
  dj:=fun k m b _ _ lk lm hk hm=>by
   obtain⟨o,o1,o2,o3⟩:=D k b lk hk;obtain⟨p,p1,p2,p3⟩:=D m b lm hm;have:=z.dj o p b trivial trivial o1 p1 o2 p2;subst this;rcases o3 with⟨rfl,o3⟩ | ⟨rfl,o3⟩<;>rcases p3 with⟨rfl,p3⟩ | ⟨h,p3⟩
   ·rfl
   ·exact absurd h o3
   ·exact absurd rfl p3
   rw[o3,p3]
  lv:=fun k b _ lk hk=>by
   obtain⟨o,o1,o2,_⟩:=D k b lk hk;exact z.lv o b trivial o1 o2
  fr:=z.fr }⟩
theorem au.Xb(hC:bR A.C)(s:AS)(id i j:Nat){r:List HX}{ti:TI}(hb:s.h id=.ay e es)(Z:es[i]?=some r)(hj:r[j]?=some (.av .nl))(hT:A.C.T e'=some ti)(hpos:0<ti.size):
  au A s ⟨s.t,bq s.h id (.ay e (es.set i (r.set j (.row e' []))))⟩:=by
 intro S rho a w sim;obtain⟨oz,qU⟩:∃oz,oz=es.set i (r.set j (.row e' [])):=⟨_,rfl⟩;rw[<-qU];have hh:=sim.hp id trivial;rw[hb]at hh;obtain⟨hR,hS⟩:=hh;obtain⟨info,z,h1,h2,_⟩:=hC.tab e' ti hT;have hval:∀g u,bY (rho id)=some g->cellAt w g (i*r.length+j) u->u=.slice none 0 0:=fun g u V hu=>by
  obtain⟨i0,ws,q1,R,W,q4,q5,q6⟩:=hR;obtain⟨u2,p1,p2⟩:=q6 i r j _ Z hj;have p2:br S w A.C.P c_ rho s.h .nl u2:=p2;have:u2=.slice none 0 0:=by cases p2;rfl
  rw[<-this];have xl:=q4 r (an Z);rcases W.2 with⟨hn,_⟩ | ⟨g',cap,cur,hv,_,EZ,k1,k2,k3,k4⟩
  ·rw[hn]at V;cases V
  rw[hv]at V;obtain rfl:=jy.1 V;refine n_ hu ⟨cur,_,_,EZ,?_⟩;rw[xl];rw[<-k4,cV]at p1;split at p1
  ·simpa using p1
  cases p1
 have gH:∀g k p v b,bY (rho id)=some g->ew w oz g k p v->bY v=some b->ew w es g k p v:=by
  intro g k p v b V hc hv;obtain⟨q,e2,KI,q1,R,W⟩:=eK.1 hc;rw[qU]at q1;rcases ju q1 with⟨rfl,rfl,_⟩ | ⟨hk,q1⟩
  ·rw[dz]at W;rcases ju R with⟨rfl,_,_⟩ | ⟨hp,R⟩
   ·rw[hval g v V W]at hv;cases hv
   exact eK.2 ⟨r,e2,KI,Z,R,W⟩
  exact eK.2 ⟨q,e2,KI,q1,R,W⟩
 refine⟨S,rho,sim.Dc hC id trivial (by rw[hb];trivial) _ (fun e2 h=>by rw[hb];exact h) w rfl rfl rfl rfl (fun _ _=>rfl) (fun T=>?_) (fun g h=>?_)⟩
 ·refine⟨hR.re (by rw[qU,dz]) (fun p q R I D=>?_) (fun p q R m x x2 v I D Y J hcell O=>?_),⟨fun g p m v b N c2 U=>hS.top g p m v b N (gH _ _ _ _ _ N c2 U) U,fun g p m p' m' v v' b N c2 U c4 c5=>hS.dis g p m p' m' v v' b N (gH _ _ _ _ _ N c2 c4) (gH _ _ _ _ _ N U c5) c4 c5⟩⟩
  ·rw[qU]at D;rcases ju D with⟨rfl,rfl,_⟩ | ⟨_,D⟩
   ·rw[Z]at I;injection I with I;rw[<-I,dz]
   rw[I]at D;injection D with D;rw[D]
  have xA:s_ S w A.C.P c_ rho s.h x v->x2=x->s_ S w A.C.P c_ rho (bq s.h id (.ay e oz)) x2 v:=fun O Ur=>by
   rw[Ur];cases x with
   | av y=>exact br.dH T O
   | row e2 KI=>exact O
  rw[qU]at D;rcases ju D with⟨rfl,rfl,_⟩ | ⟨_,D⟩
  ·rw[Z]at I;injection I with I;subst I;rcases ju J with⟨rfl,rfl,_⟩ | ⟨_,J⟩
   ·rw[hj]at Y;injection Y with Y;subst Y;have O:br S w A.C.P c_ rho s.h .nl v:=O;have:v=.slice none 0 0:=by cases O;rfl
    rw[this];exact⟨info,[],h1,by omega,⟨by simp,.inl ⟨rfl,rfl⟩⟩,by simp,by simp,by simp⟩
   rw[Y]at J;injection J with J;exact xA O J.symm
  rw[I]at D;injection D with D;subst D;rw[Y]at J;injection J with J;exact xA O J.symm
 rw[eI]at h;rw[hb,eI];rcases h with h | ⟨g',k,p,v,N,c2,U⟩
 ·exact .inl h
 exact .inr ⟨g',k,p,v,N,gH _ _ _ _ _ N c2 U,U⟩
theorem SV.map{l:List α}{f:α->List HX}{g:α->List PV}(h:∀x∈l,(g x).length=(f x).length/\∀(j:Nat) u v,(f x)[j]?=some u->(g x)[j]?=some v->Tj u v):SV (l.map f) (l.map g):=
 ⟨by simp,fun a r q D z=>by
  rw[aB]at D z;obtain⟨x,I,rfl⟩:=aT.1 D;rw[I]at z;injection z with z;subst z;exact h x (an I)⟩
theorem au.Qv(hC:bR A.C)(s:AS)(id:Nat)(J:List (List PV))(hb:s.h id=.ay e es)(O:SV es J):au A s ⟨s.t,bq s.h id (.row e J)⟩:=by
 intro S rho a w z;have hh:=z.hp id trivial;rw[hb]at hh;obtain⟨hR,hS⟩:=hh;have Y:(s.h id).live:=by rw[hb];trivial
 obtain⟨I,hI⟩:∃I:Nat->Prop,I=fun b=>∃g k j u,bY (rho id)=some g/\ew w es g k j u/\bY u=some b:=⟨_,rfl⟩;have Xc:∀b,I b->hasB w (s.h id) (rho id) b:=fun b h=>by rw[hI]at h;rw[hb,eI];exact .inr h
 have Us:∀b,I b->bY (rho id)≠some b:=fun b h N=>by
  rw[hI]at h;obtain⟨g,k,j,u,V,h2,h3⟩:=h;rw[V]at N;injection N with N;exact hS.top g k j u b V h2 h3 N.symm
 have T:mQ S (fun b=>S b\/I b) w w c_ c_ rho rho s.h (bq s.h id (.row e J)):=by
  refine⟨fun b h=>.inl h,fun _ _=>rfl,fun j D=>⟨?_,fun hl=>⟨hl,rfl⟩⟩,fun j e' D=>?_⟩
  ·rcases ba s.h id (.row e J) j with⟨rfl,h⟩ | ⟨_,h⟩
   ·rw[hb];trivial
   rw[h]at D;exact D
  rcases ba s.h id (.row e J) j with⟨rfl,h⟩ | ⟨_,h⟩
  ·rw[h]at D;rw[hb];exact D
  rw[h]at D;exact D
 have Z:∀j,((bq s.h id (.row e J)) j).live->(s.h j).live:=by
  intro j D;rcases ba s.h id (.row e J) j with⟨rfl,h⟩ | ⟨V,h⟩
  ·exact Y
  rw[h]at D;exact D
 have back:∀j g,hasB w (bq s.h id (.row e J) j) (rho j) g->hasB w (s.h j) (rho j) g:=fun j g h=>by
  rcases ba s.h id (.row e J) j with⟨rfl,h'⟩ | ⟨V,h'⟩
  ·rw[h']at h;exact .inl (aD rfl h)
  rw[h']at h;exact h
 exact⟨fun b=>S b\/I b,rho,
 {tm:=fun j D=>(z.tm j D).dH T
  sz:=z.sz,df:=z.df,nb:=z.nb,pn:=z.pn
  ev:=hC.env _ _ _ _ z.ev (fun b h=>.inl h) (fun _ _=>rfl) (aF _)
  s0:=fun b h=>.inl (z.s0 b h)
  st:=fun b h=>h.elim (z.st b) fun h=>(z.lv id b trivial Y (Xc b h)).1
  sb:=fun b h=>h.elim (z.sb b) fun h=>.inr (z.lv id b trivial Y (Xc b h)).2.2
  hp:=fun j D=>by
   rcases ba s.h id (.row e J) j with⟨rfl,h⟩ | ⟨V,h⟩
   ·show fU _ _ _ _ _ _ _ (bq s.h j (.row e J) j);rw[h];refine hR.re O.len (fun p q q2 W z2=>(O.row p q q2 W z2).1) (fun p q q2 m x x2 v W z2 z3 z4 R U=>?_);have:=(O.row p q q2 W z2).2 m x x2 z3 z4;cases this with
    | p x=>exact (br.fK U).mono (fun b h=>.inl h) (fun _ _=>rfl)
    | nl=>
     have U:br S w A.C.P c_ rho s.h .nl v:=U;cases U;exact .nil _ _
    | row e' xs=>
     have U:aC A.C.P w (aQ S w) e' xs v:=U;refine aC.Fa U (fun b h=>.inl h) fun b gZ=>.inr ?_;rw[hI];obtain⟨g,u,g1,g2,_⟩:=hR.E6 W z3;obtain⟨q',_,_,c1,_,c2⟩:=eK.1 g2;rw[W]at c1;injection c1 with c1;subst c1;have:=n_ (R g g1) c2;subst this;exact⟨g,p,m,v,g1,g2,gZ⟩
   show fU _ _ _ _ _ _ _ (bq s.h id (.row e J) j);rw[h];exact (z.hp j D).dH T (fun _ _ _=>rfl) (fun _=>rfl)
  dj:=fun i j g hi D li lj fZ kz=>z.dj i j g hi D (Z i li) (Z j lj) (back i g fZ) (back j g kz)
  lv:=fun i g hi li N=>by
   obtain⟨h3,h4,h5⟩:=z.lv i g hi (Z i li) (back i g N);refine⟨h3,fun h=>h.elim h4 fun h=>?_,h5⟩;have:=z.dj i id g hi trivial (Z i li) Y (back i g N) (Xc g h);subst this;have N:hasB w (bq s.h i (.row e J) i) (rho i) g:=N;rw[aH]at N;exact Us g h (aD rfl N)
  fr:=z.fr }⟩
end Go.AM
namespace Go.AM
open Go.RowKit
theorem mZ{C:Ctx}{o:Oper}{rho:Operand->AV}{h:Nat->AB}{K K':KK}(hk:∀v e n,K v e n->K' v e n)(u:bV C o rho h K):bV C o rho h K':=by
 obtain⟨v,e,n,z,D⟩:=rV (fun _=>.inr rfl) u;exact D _ (hk _ _ _ z)
variable {K':AS->Prop} {s:AS}
theorem HP{C:Ctx}{o:Oper}{K:AS->Prop}(hk:∀s,K s->K' s)(u:zD C o K s):zD C o K' s:=by
 unfold zD at u ⊢;split at u
 ·exact mZ (fun v e n h=>hk _ h) u
 split at u
 ·split at u
  ·split at u
   ·split at u<;>exact hk _ u
   ·split at u<;>exact hk _ u
   exact hk _ u
  exact hk _ u
 refine mZ (fun v e n h=>?_) u;cases n with
 | none=>exact hk _ h
 | some b=>exact h
theorem wD{C:Ctx}{o:Oper}{K:AS->Prop}(hk:∀s,K s->K' s)(u:step C o K s):step C o K' s:=by
 unfold step at u ⊢;split at u
 ·exact⟨hk _ u.1,hk _ u.2⟩
 exact HP hk u
theorem pJ{b:Bool}{p q u z:Prop}(D:p->u)(I:q->z)(h:qn b p q):qn b u z:=by
 cases b<;>simp only[qn]at h ⊢
 ·exact I h
 exact D h
theorem KJ{C:Ctx}{all:List Oper}{K:AS->Prop}(hk:∀s,K s->K' s):∀(l:List Oper) (s:AS),qF C all l K s->qF C all l K' s:=by
 intro l
 induction l with
 | nil=>intro s h;exact hk _ h
 | cons o l ih=>
  intro s h;unfold qF at h ⊢;split at h
  ·exact wD ih h
  split at h
  ·exact h.elim
  split at h
  ·exact h.elim
  split at h
  ·rename_i want _ _ _ _ _ _ _;refine pJ (fun h=>?_) (fun h=>?_) h
   ·split at h
    ·exact wD ih h
    exact ih _ h
   split at h
   ·exact wD ih h
   exact ih _ h
  ·exact ih _ h
  exact h.elim
theorem tQ{C:Ctx}{ap f:Bool}{X:List Nat}{o:Oper}{K:AS->Prop}(hk:∀s,K s->K' s)(u:th C ap X f o K s):th C ap X f o K' s:=by
 unfold th at u ⊢;split at u
 ·refine mZ (fun v e n h=>?_) u;split at h
  ·exact h
  split at h
  ·split at h
   ·exact hk _ h
   exact h
  split at h
  ·exact hk _ h
  exact h
 exact u
theorem KL{C:Ctx}{ap:Bool}{X:List Nat}{all:List Oper}{K:AS->Prop}(hk:∀s,K s->K' s):∀(l:List Oper) (u:List Bool) (s:AS),pI C ap X all u l K s->pI C ap X all u l K' s:=by
 intro l
 induction l with
 | nil=>intro u s h;cases u<;>exact hk _ h
 | cons o l ih=>
  intro u s h;cases u with
  | nil=>exact h
  | cons f u=>
  unfold pI at h ⊢;split at h
  ·exact tQ (ih u) h
  split at h
  ·exact h.elim
  split at h
  ·exact h.elim
  split at h
  ·refine pJ (fun h=>?_) (fun h=>?_) h
   ·split at h
    ·exact tQ (ih u) h
    exact ih u _ h
   split at h
   ·exact tQ (ih u) h
   exact ih u _ h
  ·exact ih u _ h
  exact h.elim
theorem wE{f u:AS->Prop}{K K':Exit->AS->Prop}(z:∀s,f s->u s)(hk:∀e s,K e s->K' e s):∀e s,qo f K e s->qo u K' e s:=by
 intro e s h;cases e<;>first | exact z _ h | exact hk _ _ h
theorem zS{id:Nat}{K K':Exit->AS->Prop}(hk:∀e s,K e s->K' e s):∀e s,Cx id K e s->Cx id K' e s:=by
 intro e s h;cases e<;>first | exact hk _ _ h | exact pJ (hk _ _) (hk _ _) h
variable {A:qB}
theorem qV:∀(c:Code) (K K':Exit->AS->Prop) (s:AS),(∀e s,K e s->K' e s)->Bp A c K s->Bp A c K' s:=by
 intro c
 induction c with
 | skip=>intro K K' s hk h;exact hk _ _ h
 | region id ops draw=>
  intro K K' s hk h;cases draw with
  | false=>exact KJ (hk _) _ _ h
  | true=>obtain⟨X,h⟩:=h;exact⟨X,KL (fun _ h=>hk _ _ h) _ _ _ h⟩
 | seq a b u z=>intro K K' s hk h;exact u _ _ _ (wE (fun s h=>by obtain⟨D,J,N⟩:=h;exact⟨D,J,z _ _ _ hk N⟩) hk) h
 | cond c a b u z=>
  intro K K' s hk h;simp only[Bp]at h ⊢;split at h
  ·exact pJ (u _ _ _ hk) (z _ _ _ hk) h
  exact h
 | block id c ih=>intro K K' s hk h;exact ih _ _ _ (zS hk) h
 | loop c ih=>
  intro K K' s hk h;obtain⟨α,I,m,O,R⟩:=h;exact⟨α,I,m,O,fun x s hi=>ih _ _ _ (wE (fun _ h=>h) hk) (R x s hi)⟩
 | exit id=>intro K K' s hk h;exact hk _ _ h
 | ret=>intro K K' s hk h;exact hk _ _ h
 | rangeFunc=>intro K K' s _ h;exact h.elim
 | scope=>intro K K' s _ h;exact h.elim
 | label=>intro K K' s _ h;exact h.elim
 | goto=>intro K K' s _ h;exact h.elim
 | refuse=>intro K K' s _ h;exact h.elim
def zT{α:Type}(R:α->Prop)(ts:α->List (Nat×AV))(hs:α->List (Nat×AB))(s:AS):Prop:=∃y,R y/\oR (ts y) s.t/\oR (hs y) s.h
variable {α:Type}
theorem zT.go{R:α->Prop}{u:α->List (Nat×AV)}{hs:α->List (Nat×AB)}{f:AS->Prop}(z:∀y,R y->∀t h,f ⟨eJ (u y) t,eJ (hs y) h⟩)(h:zT R u hs s):f s:=by
 obtain⟨y,D,I,J⟩:=h;have:=z y D s.t s.h
 rwa [uS _ _ I,uS _ _ J]at this
theorem cut{c:Code}{f:AS->Prop}{K:Exit->AS->Prop}(R:α->Prop)(u:α->List (Nat×AV))(hs:α->List (Nat×AB))
  (z:∀y,R y->∀t h,f ⟨eJ (u y) t,eJ (hs y) h⟩) (D:Bp A c (qo (zT R u hs) K) s):Bp A c (qo f K) s:=
 qV c _ _ s (wE (fun _ h=>h.go z) fun _ _ h=>h) D
theorem HQ{R:α->Prop}{u:α->List (Nat×AV)}{hs:α->List (Nat×AB)}{K:Exit->AS->Prop}(z:∀y,R y->∀t h,K .normal ⟨eJ (u y) t,eJ (hs y) h⟩):∀e s,qo (zT R u hs) K e s->K e s:=by
 intro e s h;cases e<;>first | exact h | exact zT.go z h
theorem Xd{c:Code}{id:Nat}{K:Exit->AS->Prop}(R:α->Prop)(u:α->List (Nat×AV))(hs:α->List (Nat×AB))
  (z:∀y,R y->∀t h,K .normal ⟨eJ (u y) t,eJ (hs y) h⟩) (D:Bp A c (Cx id (qo (zT R u hs) K)) s):Bp A c (Cx id K) s:=
 qV c _ _ s (zS (HQ z)) D
end Go.AM
namespace Go.AM
open Go.RowKit
def KM(d:Nat)(t:Nat->AV)(j:Nat):AV:=sc d (t j)
def FG(d:Nat)(h:Nat->AB):Nat->AB:=bq (fun k=>yO d (h k)) d .none
def Yu(i d:Nat)(t:Nat->AV)(j:Nat):AV:=rn i d (t j)
def Yv(i d:Nat)(h:Nat->AB)(j:Nat):AB:=match cF j d with
 | true=>Mn i d (h i)
 | false=>match cF j i with
  | true=>.none
  | false=>Mn i d (h j)
def Jh(o:Oper):Bool:=match o.op with
 | .assign _=>false
 | _=>true
def DI:AB->Bool
 | .row _ _=>true
 | .ay _ _=>true
 | _=>false
abbrev TP:=(Nat->AV)->(Nat->AB)->Prop
def SG(G:TP)(K:AS->Prop):Prop:=∀t h,G t h->K ⟨t,h⟩
def Xe(G:TP)(t:Nat->AV)(h:Nat->AB)(d:Nat):AV->Prop
 | .p x=>G (bq t d (.p x)) h
 | .nl=>G (bq t d .nl) h
 | .ow i=>G (bq t d (.ow i)) h
 | .rp i j k=>G (bq t d (.rp i j k)) h
 | .bx i j=>G (bq t d (.bx i j)) h
 | .vw i j k=>G (bq t d (.vw i j k)) h
 | .fn f c=>G (bq t d (.fn f c)) h
 | .tu x=>G (bq t d (.tu x)) h
 | .st x=>G (bq t d (.st x)) h
 | .junk=>G (bq t d .junk) h
def Ji(G:TP)(t:Nat->AV)(d:Option Tmp)(v:AV):List (Nat×AB)->(Nat->AB)->Prop
 | (i,b)::r,h=>Ji G t d v r (bq h i b)
 | [],h=>match d with
  | some d=>Xe G t h d v
  | none=>G t h
def MZ(d:Nat):AV->AV
 | .ow i=>match cF i d with
  | true=>.ow d
  | false=>.ow i
 | .bx i j=>match cF i d with
  | true=>.bx d j
  | false=>.bx i j
 | v=>v
theorem DJ(d:Nat)(v:AV):MZ d v=v:=by
 unfold MZ;split
 ·split
  ·rename_i h;rw[bw.1 h]
  rfl
 ·split
  ·rename_i h;rw[bw.1 h]
  rfl
 rfl
def Yw(G:TP)(d:Option Tmp)(t:Nat->AV)(h:Nat->AB):KK:=fun v e n=>match n with
 | none=>Ji G t d v e h
 | some _=>False
def VH(G:TP)(d:Option Tmp)(dd:Nat)(t:Nat->AV)(h:Nat->AB):KK:=fun v e n=>match n with
 | none=>match tG dd e with
  | true=>Ji G t d v e h
  | false=>False
 | some b=>Ji G t d (MZ dd v) e (bq h dd b)
def Yx(G:TP)(t:Nat->AV)(h:Nat->AB)(d:Nat):AV->Prop
 | .ow i=>match DI (h i) with
  | false=>G (bq t d (.ow i)) h
  | true=>match cF i d with
   | true=>G (bq t d (.ow i)) h
   | false=>G (bq (Yu i d t) d (.ow d)) (Yv i d h)
 | v=>Xe G t h d v
def M0(C:Ctx)(o:Oper)(G:TP)(t:Nat->AV)(h:Nat->AB):Prop:=match OV C o t with
 | true=>Ji G t o.dst (.p (.im (.bool true))) [] h/\Ji G t o.dst (.p (.im (.bool false))) [] h
 | false=>match qQ o.op with
  | true=>match o.dst with
   | some d=>bV C o (ev (KM d t)) (FG d h) (VH G (some d) d (KM d t) (FG d h))
   | none=>bV C o (ev (KM 0 t)) (FG 0 h) (VH G none 0 (KM 0 t) (FG 0 h))
  | false=>match o.op,o.dst with
   | .assign x,some d=>Yx G t h d (ev t x)
   | _,d=>bV C o (ev t) h (Yw G d t h)
def DK(all:List Oper)(o:Oper)(G1 G0:TP)(t:Nat->AV)(h:Nat->AB):Prop:=match o.guard with
 | none=>G1 t h
 | some (g,want)=>match all[g]? with
  | none=>False
  | some og=>match og.dst with
   | none=>False
   | some tg=>match t tg with
    | .p (.im (.bool b))=>@Bool.rec (fun _=>Prop)
     (match want with
      | false=>G1 (bq t tg (jQ false)) h
      | true=>G0 (bq t tg (jQ false)) h)
     (match want with
      | true=>G1 (bq t tg (jQ true)) h
      | false=>G0 (bq t tg (jQ true)) h) b
    | .p (.im (.tuple _))=>G0 t h
    | _=>False
def KN(C:Ctx)(all:List Oper):List Oper->TP->TP
 | [],G,t,h=>G t h
 | o::r,G,t,h=>DK all o (M0 C o (KN C all r G)) (fun t h=>Ji (KN C all r G) t o.dst s6 [] h) t h
section
variable {G:TP} {K:AS->Prop} {t:Nat->AV} {h:Nat->AB} {d:Tmp} {C:Ctx} {o:Oper}
theorem Jj(H:SG G K){v:AV}(q:Xe G t h d v):K ⟨bq t d v,h⟩:=by cases v<;>exact H _ _ q
theorem gA(H:SG G K){d:Option Tmp}{v:AV}:∀(e:List (Nat×AB)) {h:Nat->AB},Ji G t d v e h->K ⟨f_ t d v,app h e⟩
 | (i,b)::r,h,q=>gA H r (h:=bq h i b) q
 | [],h,q=>by cases d with
  | none=>exact H _ _ q
  | some d=>exact Jj H q
theorem Cy(d:Nat)(h:Nat->AB):FG d h d=.none:=by unfold FG;rw[aH]
theorem Jk(H:SG G K){d:Option Tmp}{u:Nat}{v:AV}{e:List (Nat×AB)}{n:Option AB}(z:h u=.none)(q:VH G d u t h v e n):K ⟨f_ t d v,match n with
  | none=>bq (app h e) u .none
  | some b=>app (bq h u b) e⟩:=by
 unfold VH at q;cases n with
 | none=>
  simp only at q ⊢;cases hn:tG u e with
  | false=>rw[hn]at q;exact q.elim
  | true=>
   rw[hn]at q;have:bq (app h e) u .none=app h e:=jO _ _ _ ((mR (h:=h) hn).trans z);rw[this];exact gA H e q
 | some b=>rw[DJ]at q;exact gA H e q
theorem Cz(H:SG G K)(q:M0 C o G t h):step C o K ⟨t,h⟩:=by
 unfold step;unfold M0 at q;cases hn:OV C o t with
 | true=>
  simp only[hn]at q ⊢;exact⟨gA H [] q.1,gA H [] q.2⟩
 | false=>
  simp only[hn]at q ⊢;unfold zD;cases hm:qQ o.op with
  | true=>
   rw[hm]at q;simp only at q ⊢;cases u:o.dst with
   | some d=>
    rw[u]at q;exact mZ (fun v e n hk=>by
     have:=Jk H (Cy _ _) hk;cases n<;>exact this) q
   | none=>
    rw[u]at q;exact mZ (fun v e n hk=>by
     have:=Jk H (Cy _ _) hk;cases n<;>exact this) q
  | false=>
   rw[hm]at q;simp only at q ⊢;split
   ·rename_i x d z u;rw[z,u]at q;simp only at q;unfold Yx at q;split
    ·rename_i i hi;rw[hi]at q;simp only at q;cases hb:h i<;>rw[hb]at q<;>simp only[DI]at q ⊢<;>first | exact H _ _ q | (cases I:cF i d<;>rw[I]at q<;>exact H _ _ q)
    rename_i D;split at q
    ·rename_i i hi;exact absurd hi (D i)
    exact Jj H q
   rename_i D;have hk:bV C o (ev t) h (Yw G o.dst t h):=by
    split at q
    ·rename_i x d z u;exact absurd u (D x d z)
    exact q
   exact mZ (fun v e n hk=>by cases n<;>first | exact gA H e hk | exact hk.elim) hk
theorem FH{all:List Oper}(H:SG G K):∀(l:List Oper) {t:Nat->AV} {h:Nat->AB},KN C all l G t h->qF C all l K ⟨t,h⟩
 | [],t,h,q=>H _ _ q
 | o::r,t,h,q=>by
  have ih:SG (KN C all r G) (qF C all r K):=fun _ _ q=>FH H r q;unfold KN DK at q;unfold qF;split at q
  ·rename_i z;(try simp only[z]);exact Cz ih q
  rename_i g u z
  (try simp only[z])
  split at q
  ·exact q.elim
  rename_i og I
  (try simp only[I])
  split at q
  ·exact q.elim
  rename_i tg J
  (try simp only[J])
  split at q
  ·rename_i b D
   (try simp only[D])
   cases b<;>cases u<;>first | exact Cz ih q | exact gA ih [] q
  ·rename_i xs D
   (try simp only[D])
   exact gA ih [] q
  exact q.elim
end
def VI(C:Ctx)(ap:Bool)(X:List Nat)(f:Bool)(o:Oper)(G:TP)(t:Nat->AV)(h:Nat->AB):KK:=fun v e n=>match tN o.op n o.dst with
 | false=>False
 | true=>match e with
  | []=>match o.dst with
   | some d=>Ji G t (some d) (MZ d v) [] (qK h d n)
   | none=>Ji G t none v [] (qK h 0 n)
  | p::e=>match Nat.beq (cls C ap o.op) 3&&(iV h (p::e)&&(ap||kU h (p::e))&&Ol X f h (p::e)) with
   | false=>False
   | true=>match n with
    | none=>Ji G t o.dst v (p::e) h
    | some b=>match o.dst with
     | some d=>Ji G t (some d) (MZ d v) ((p::e)++[(d,b)]) h
     | none=>Ji G t none v ((p::e)++[(0,b)]) h
def CA(C:Ctx)(ap:Bool)(X:List Nat)(all:List Oper):List Bool->List Oper->TP->TP
 | _,[],G,t,h=>G t h
 | [],_::_,_,_,_=>False
 | f::fl,o::r,G,t,h=>DK all o (fun t h=>match zI C ap X f o (ev t) with
   | true=>bV C o (ev t) h (VI C ap X f o (CA C ap X all fl r G) t h)
   | false=>False) (fun t h=>Ji (CA C ap X all fl r G) t o.dst s6 [] h) t h
def KO:List Oper->TP->TP
 | [],G,t,h=>G t h
 | o::r,G,t,h=>match qQ o.op with
  | true=>match o.dst with
   | some d=>KO r G (KM d t) (FG d h)
   | none=>KO r G (KM 0 t) (FG 0 h)
  | false=>KO r G t h
def xB:List Oper->TP->TP
 | [],G,t,h=>G t h
 | o::r,G,t,h=>match Jh o with
  | true=>xB r G t h
  | false=>match o.dst with
   | none=>False
   | some d=>match t d with
    | .ow i=>match DI (h i) with
     | false=>xB r G t h
     | true=>match cF i d with
      | true=>xB r G t h
      | false=>xB r G (Yu i d t) (Yv i d h)
    | _=>xB r G t h
theorem zU(d:Nat)(b:AB):∀(e:List (Nat×AB)) (h:Nat->AB),app h (e++[(d,b)])=bq (app h e) d b
 | [],h=>rfl
 | (i,x)::r,h=>zU d b r (bq h i x)
section
variable {C:Ctx} {all:List Oper} {G:TP} {K:AS->Prop} {o:Oper} {t:Nat->AV} {h:Nat->AB} {ap:Bool} {X:List Nat} {f:Bool}
theorem Pb(H:SG G K){v:AV}{e:List (Nat×AB)}{n:Option AB}(q:VI C ap X f o G t h v e n):match tN o.op n o.dst with
  | false=>False
  | true=>match Nat.beq (cls C ap o.op) 3 with
   | true=>match iV h e&&(ap||kU h e)&&Ol X f h e with
    | true=>K ⟨f_ t o.dst v,qK (app h e) (o.dst.getD 0) n⟩
    | false=>False
   | false=>match e with
    | []=>K ⟨f_ t o.dst v,qK h (o.dst.getD 0) n⟩
    | _=>False:=by
 unfold VI at q;cases hn:tN o.op n o.dst with
 | false=>rw[hn]at q;exact q.elim
 | true=>
  rw[hn]at q;simp only at q ⊢;cases e with
  | nil=>
   have:K ⟨f_ t o.dst v,qK h (o.dst.getD 0) n⟩:=by
    cases u:o.dst with
    | some d=>rw[u]at q;simp only[DJ]at q;exact gA H [] q
    | none=>rw[u]at q;exact gA H [] q
   simp only[iV,kU,I8,pB,yG];split<;>exact this
  | cons p e=>
   simp only at q;cases h1:Nat.beq (cls C ap o.op) 3 with
   | false=>rw[h1]at q;exact q.elim
   | true=>
    rw[h1]at q;simp only[fu]at q ⊢;cases h2:iV h (p::e)&&(ap||kU h (p::e))&&Ol X f h (p::e) with
    | false=>rw[h2]at q;exact q.elim
    | true=>
     rw[h2]at q;simp only at q ⊢;cases n with
     | none=>exact gA H (p::e) q
     | some b=>
      cases u:o.dst with
      | some d=>
       rw[u]at q;simp only[DJ]at q;have:=gA H _ q;rw[zU]at this;exact this
      | none=>
       rw[u]at q;have:=gA H _ q;rw[zU]at this;exact this
theorem zV(H:SG G K) (q:match zI C ap X f o (ev t) with
   | true=>bV C o (ev t) h (VI C ap X f o G t h)
   | false=>False):th C ap X f o K ⟨t,h⟩:=by
 unfold th;split at q
 ·rename_i u;simp only[u];exact mZ (fun v e n hk=>by
   have:=Pb H hk;unfold tN at this ⊢;cases n<;>cases e<;>exact this) q
 exact q.elim
theorem CB(H:SG G K):∀(u:List Bool) (l:List Oper) {t:Nat->AV} {h:Nat->AB},CA C ap X all u l G t h->pI C ap X all u l K ⟨t,h⟩
 | u,[],t,h,q=>by cases u<;>exact H _ _ q
 | [],_::_,_,_,q=>q.elim
 | f::u,o::r,t,h,q=>by
  have ih:SG (CA C ap X all u r G) (pI C ap X all u r K):=fun _ _ q=>CB H u r q;unfold CA DK at q;unfold pI;split at q
  ·rename_i D;(try simp only[D]);exact zV ih q
  rename_i g z D
  (try simp only[D])
  split at q
  ·exact q.elim
  rename_i og J
  (try simp only[J])
  split at q
  ·exact q.elim
  rename_i tg N
  (try simp only[N])
  split at q
  ·rename_i b I
   (try simp only[I])
   cases b<;>cases z<;>first | exact zV ih q | exact gA ih [] q
  ·rename_i xs I
   (try simp only[I])
   exact gA ih [] q
  exact q.elim
theorem uW(H:SG G K):∀(l:List Oper) {t:Nat->AV} {h:Nat->AB},KO l G t h->K (zN l ⟨t,h⟩)
 | [],_,_,q=>H _ _ q
 | o::r,t,h,q=>by
  unfold KO at q;unfold zN;cases hm:qQ o.op with
  | true=>
   rw[hm]at q;cases u:o.dst with
   | some d=>rw[u]at q;exact uW H r q
   | none=>rw[u]at q;exact uW H r q
  | false=>rw[hm]at q;exact uW H r q
theorem mJ(H:SG G K):∀(l:List Oper) {t:Nat->AV} {h:Nat->AB},xB l G t h->K (Cw l ⟨t,h⟩)
 | [],_,_,q=>H _ _ q
 | o::r,t,h,q=>by
  unfold xB at q;show K (Cw r (zO o _));unfold zO;cases hm:Jh o with
  | true=>
   rw[hm]at q;have:∀x,o.op≠.assign x:=fun x u=>by rw[Jh,u]at hm;cases hm
   split
   ·rename_i x d u _;exact absurd u (this _)
   exact mJ H r q
  | false=>
   rw[hm]at q;simp only at q;split at q
   ·exact q.elim
   rename_i d I;have z:∃x,o.op=.assign x:=by
    unfold Jh at hm;split at hm
    ·rename_i x u;exact⟨x,u⟩
    cases hm
   obtain⟨x,z⟩:=z;rw[z,I];simp only;split at q
   ·rename_i i D
    (try simp only[D])
    cases hb:h i<;>rw[hb]at q<;>simp only[DI]at q ⊢<;>first
     | exact mJ H r q
     | (cases J:cF i d<;>rw[J]at q<;>exact mJ H r q)
   rename_i N
   first
    | exact mJ H r q
    | (
      split
      ·rename_i i D;exact absurd D (N i)
      exact mJ H r q)
end
def HR:Code->Option Nat
 | .seq a _=>HR a
 | .region i _ _=>some i
 | .block _ c=>HR c
 | .cond _ x y=>match HR x with
  | some i=>some i
  | none=>HR y
 | .loop c=>HR c
 | _=>none
def KP(k:Nat):List Nat->Bool
 | []=>false
 | i::r=>match cF i k with
  | true=>true
  | false=>KP k r
def Ut(l:List Nat):Option Nat->Bool
 | some k=>KP k l
 | none=>false
def Pc(f:TP)(K:Exit->TP):Exit->TP
 | .normal=>f
 | .exit i=>K (.exit i)
 | .ret=>K .ret
 | e=>K e
def Pd(id:Nat)(K:Exit->TP):Exit->TP
 | .exit i=>fun t h=>match cF i id with
  | true=>K .normal t h
  | false=>K (.exit i) t h
 | .normal=>K .normal
 | .ret=>K .ret
 | e=>K e
structure Hint where
 M:List Nat
 B:List Nat
 X:List (Nat×List Nat)
 K:List Nat
 F:List (Nat×List Bool)
 S:List Nat
def Pe{α:Type}(d:α)(k:Nat):List (Nat×α)->α
 | []=>d
 | (i,x)::r=>match cF i k with
  | true=>x
  | false=>Pe d k r
def Uu:List Oper->List Bool
 | []=>[]
 | _::r=>true::Uu r
def Uv(Q:Hint)(id:Nat)(l:List Oper):List Bool:=Pe (Uu l) id Q.F
def m_(Q:Hint)(C:Ctx):Code->Bool
 | .region id ops draw=>!draw||(decide ((ops.toList.any fun o=>kA C o.op)=KP id Q.K)&&decide (jT C (KP id Q.K) ops=Uv Q id ops.toList))
 | .seq a b=>m_ Q C a&&m_ Q C b
 | .cond _ a b=>m_ Q C a&&m_ Q C b
 | .block _ c=>m_ Q C c
 | .loop c=>m_ Q C c
 | _=>true
structure LW(Q:Hint)(A:qB)(c:Code)(K:Exit->TP)(t:Nat->AV)(h:Nat->AB):Prop where
 out:m_ Q A.C c=true->Bp A (.loop c) (fun e s=>K e s.t s.h) ⟨t,h⟩
structure SW(Q:Hint)(A:qB)(a b:Code)(K:Exit->TP)(t:Nat->AV)(h:Nat->AB):Prop where
 out:m_ Q A.C a=true->m_ Q A.C b=true->Bp A (.seq a b) (fun e s=>K e s.t s.h) ⟨t,h⟩
structure BW(Q:Hint)(A:qB)(c:Code)(id:Nat)(K:Exit->TP)(t:Nat->AV)(h:Nat->AB):Prop where
 out:m_ Q A.C c=true->Bp A (.block id c) (fun e s=>K e s.t s.h) ⟨t,h⟩
def lA(Q:Hint)(A:qB):Code->(Exit->TP)->TP
 | .skip,K,t,h=>K .normal t h
 | .region id ops draw,K,t,h=>match draw with
  | false=>KN A.C ops.toList ops.toList (K .normal) t h
  | true=>KO ops.toList (CA A.C (KP id Q.K) (Pe [] id Q.X) ops.toList (Uv Q id ops.toList) ops.toList (xB ops.toList (K .normal))) t h
 | .seq a b,K,t,h=>match Ut Q.S (HR b),Ut Q.M (HR b) with
  | true,_=>SW Q A a b K t h
  | false,false=>lA Q A a (Pc (lA Q A b K) K) t h
  | false,true=>lA Q A a (Pc (fun t h=>∃nA,au A ⟨t,h⟩ nA/\lA Q A b K nA.t nA.h) K) t h
 | .cond c a b,K,t,h=>match ev t c with
  | .p (.im (.bool x))=>@Bool.rec (fun _=>Prop) (lA Q A b K t h) (lA Q A a K t h) x
  | _=>False
 | .block id c,K,t,h=>match KP id Q.B with
  | false=>lA Q A c (Pd id K) t h
  | true=>BW Q A c id K t h
 | .loop c,K,t,h=>LW Q A c K t h
 | .exit id,K,t,h=>K (.exit id) t h
 | .ret,K,t,h=>K .ret t h
 | _,_,_,_=>False
variable {Q:Hint} {A:qB}
theorem wF:∀(c:Code) {G:Exit->TP} {K:Exit->AS->Prop} {t:Nat->AV} {h:Nat->AB},m_ Q A.C c=true->(∀e,SG (G e) (K e))->lA Q A c G t h->Bp A c K ⟨t,h⟩:=by
 intro c
 induction c with
 | skip=>intro G K t h u H q;exact H _ _ _ q
 | region id ops draw=>
  intro G K t h u H q;cases draw with
  | false=>exact FH (H .normal) _ q
  | true=>
   simp only[m_,jR,jk,aK,cz]at u;refine⟨Pe [] id Q.X,?_⟩;rw[u.1,u.2];exact uW (fun _ _ q=>CB (fun _ _ q=>mJ (H .normal) _ q) _ _ q) _ q
 | seq a b z D=>
  intro G K t h u H q;simp only[m_,aK]at u;unfold lA at q;split at q
  ·exact qV (.seq a b) _ _ _ (fun e s q=>H e _ _ q) (q.out u.1 u.2)
  ·refine z u.1 (fun e t h q=>?_) q;cases e with
   | normal=>exact⟨_,au.refl _ _,D u.2 H q⟩
   | _=>exact H _ _ _ q
  refine z u.1 (fun e t h q=>?_) q;cases e with
  | normal=>
   obtain⟨I,J,q⟩:=q;exact⟨I,J,D u.2 H q⟩
  | _=>exact H _ _ _ q
 | cond c a b z D=>
  intro G K t h u H q;simp only[m_,aK]at u;unfold lA at q;unfold Bp;split at q
  ·rename_i x N;simp only[N];cases x
   ·exact D u.2 H q
   exact z u.1 H q
  exact q.elim
 | block id c ih=>
  intro G K t h u H q;unfold lA at q;split at q
  ·refine ih u (fun e t h q=>?_) q;cases e with
   | exit i=>
    show qn (cF i id) _ _;simp only[Pd]at q;cases hb:cF i id<;>rw[hb]at q<;>exact H _ _ _ q
   | _=>exact H _ _ _ q
  exact qV (.block id c) _ _ _ (fun e s q=>H e _ _ q) (q.out u)
 | loop c ih=>intro G K t h u H q;exact qV (.loop c) _ _ _ (fun e s q=>H e _ _ q) (q.out u)
 | exit id=>intro G K t h u H q;exact H _ _ _ q
 | ret=>intro G K t h u H q;exact H _ _ _ q
 | rangeFunc=>intro G K t h u H q;exact q.elim
 | scope=>intro G K t h u H q;exact q.elim
 | label=>intro G K t h u H q;exact q.elim
 | goto=>intro G K t h u H q;exact q.elim
 | refuse=>intro G K t h u H q;exact q.elim
theorem ax{c:Code}{K:Exit->TP}{t:Nat->AV}{h:Nat->AB}{α:Type}(R:α->Prop)(z:α->List (Nat×AV))(hs:α->List (Nat×AB))(m:α->Nat)(x0:α)(s0:AS)(I:au A ⟨t,h⟩ s0)(J:R x0)(N:oR (z x0) s0.t)(O:oR (hs x0) s0.h)
  (u:∀x,R x->∀t h,lA Q A c (Pc (fun t h=>∃y D,au A ⟨t,h⟩ D/\R y/\m y<m x/\oR (z y) D.t/\oR (hs y) D.h) K) (eJ (z x) t) (eJ (hs x) h)):LW Q A c K t h:=
 ⟨fun U=>O5 R z hs m x0 s0 I J N O fun x V t h=>wF c U (fun e t h q=>by cases e<;>exact q) (u x V t h)⟩
theorem DL{c:Code}{id:Nat}{K:Exit->TP}{t:Nat->AV}{h:Nat->AB}{α:Type}(R:α->Prop)(u:α->List (Nat×AV))(hs:α->List (Nat×AB))
  (z:∀y,R y->∀t h,K .normal (eJ (u y) t) (eJ (hs y) h)) (D:lA Q A c (Pd id (Pc (fun t h=>∃y,R y/\oR (u y) t/\oR (hs y) h) K)) t h):BW Q A c id K t h:=
 ⟨fun I=>Xd R u hs z (wF c I (K:=Cx id (qo (zT R u hs) fun e s=>K e s.t s.h)) (fun e t h q=>by
  cases e with
  | exit i=>
   show qn (cF i id) _ _;simp only[Pd]at q;cases hb:cF i id<;>rw[hb]at q<;>exact q
  | _=>exact q) D)⟩
theorem zW{G:TP}{t:Nat->AV}{h:Nat->AB}{u:AS}(D:au A ⟨t,h⟩ u)(q:G u.t u.h):∃z,au A ⟨t,h⟩ z/\G z.t z.h:=⟨u,D,q⟩
theorem KQ{G:TP}{t:Nat->AV}{h:Nat->AB}(d:Nat){y:PV}{fz:List (Nat×AB)}(hC:bR A.C)(z:AM.gn h (t d) fun D I=>D=y/\I=fz)(q:G (bq t d (.p y)) (app h fz)):∃u,au A ⟨t,h⟩ u/\G u.t u.h:=⟨_,au.gn hC ⟨t,h⟩ d z,q⟩
theorem zB:(∀(p:Prop) [Decidable p],(decide p=true)=p)/\(∀(p:Prop) [Decidable p],(decide p=false)=¬p)/\(∀(α:Type) [_root_.LE α] (a b:α),(a>=b)=(b<=a))/\(∀(α:Type) [_root_.LT α] (a b:α),(a>b)=(b<a))/\(∀b:Bool,((!b)=true)=(b=false))/\(∀b:Bool,((!b)=false)=(b=true)):=
 ⟨fun p _=>by simp,fun p _=>by simp,fun _ _ _ _=>rfl,fun _ _ _ _=>rfl,fun b=>by simp,fun b=>by simp⟩
class RM(b:Bool)(p q:outParam Prop):Prop where
 yes:b=true->p
 no:b=false->q
instance (priority:=10) Xf {b:Bool}:RM b (b=true) (b=false):=⟨id,id⟩
instance Zt{p:Prop}[Decidable p]:RM (decide p) p (¬p):=⟨fO,of_decide_eq_false⟩
instance Yy{α:Type}[_root_.LE α]{a b:α}[Decidable (a>=b)]:RM (decide (a>=b)) (b<=a) (¬b<=a):=⟨fO,of_decide_eq_false⟩
instance Yz{α:Type}[_root_.LT α]{a b:α}[Decidable (a>b)]:RM (decide (a>b)) (b<a) (¬b<a):=⟨fO,of_decide_eq_false⟩
instance Zu{b:Bool}{p q:Prop}[i:RM b p q]:RM (!b) q p:=⟨fun h=>i.no (by simpa using h),fun h=>i.yes (by simpa using h)⟩
theorem Z{α:Sort _}{a:α}:a=a:=rfl
theorem Y:True:=trivial
theorem wO{p q:Prop}(h:p/\q):p/\q:=h
theorem iW{b:Bool}{P Q p q:Prop}[k:RM b p q](f:p->P)(g:q->Q):@Bool.rec (fun _=>Prop) Q P b:=by
 cases b
 ·exact g (k.no rfl)
 exact f (k.yes rfl)
structure M1 where
 w0:World
 mv:Nat->Prop
 s0:Nat->Prop
 n:Nat
 pin:Nat->Value
def M3 (Q : Hint) (C : Ctx) (fn : Func) (c : Code) (k : Nat) : Bool := !(fn.name == "runtime.NumGoroutine") && (Nat.ble (k + (fn.ntmps - k)) 100000 && (lV C (k + (fn.ntmps - k)) c && m_ Q C c))
variable {fn:Func} {args:List Arg} {fin:List Fin}
theorem Zv(Q:Hint){C:Ctx}(hC:bR C){f:FuncId}{c:Code}{r:AR}(I:C.P.funcs[f]?=some fn)(hb:fn.body=some c)(hk:M3 Q C fn c args.length=true)
  (K:M1->Exit->TP) (J:∀p e t h,K p e t h->∃u,au ⟨C,p.w0,p.mv,p.s0,p.n,p.pin⟩ ⟨t,h⟩ u/\Ku C fn.results.toList args r fin e u)
  (h:∀p:M1,∃z,au ⟨C,p.w0,p.mv,p.s0,p.n,p.pin⟩ ⟨xu args,oQ args⟩ z/\lA Q ⟨C,p.w0,p.mv,p.s0,p.n,p.pin⟩ c (K p) z.t z.h):af C f args r fin:=by
 simp only[M3,aK,jj,Nat.ble_eq]at hk;refine Rs hC I hb hk.1 (by omega) fun A N O S rho a w D=>?_;obtain⟨_,w0,mv,s0,n,pin⟩:=A;subst N;obtain⟨z,R,U⟩:=h ⟨w0,mv,s0,n,pin⟩;obtain⟨S',rho',V⟩:=R S rho a w D;have:=KE hC c (fun e s=>∃u,au ⟨_,w0,mv,s0,n,pin⟩ s u/\Ku _ fn.results.toList args r fin e u) z (by show lV _ _ c=true;rw[O];exact hk.2.2.1) (wF c hk.2.2.2 (fun e t h q=>J _ e t h q) U) S' rho' a w V;refine wp_mono this fun e W w' Y=>?_;obtain⟨Z,RC,s3,gp,s4,Zx,hk⟩:=Y;obtain⟨S5,Xg,Kh⟩:=Zx Z RC W w' gp;exact⟨S5,Xg,s4,Kh,hk⟩
theorem Zy(Q:Hint){C:Ctx}(hC:bR C){f:FuncId}{c:Code}{r:AR}(z:C.P.funcs[f]?=some fn)(hb:fn.body=some c)(hk:M3 Q C fn c args.length=true)
  (h:∀p:M1,∃u,au ⟨C,p.w0,p.mv,p.s0,p.n,p.pin⟩ ⟨xu args,oQ args⟩ u/\lA Q ⟨C,p.w0,p.mv,p.s0,p.n,p.pin⟩ c (fun e t h=>Ku C fn.results.toList args r fin e ⟨t,h⟩) u.t u.h):af C f args r fin:=
 Zv Q hC z hb hk _ (fun _ _ _ _ q=>⟨_,au.refl _ _,q⟩) h
theorem sd(Q:Hint){C:Ctx}(hC:bR C){f:FuncId}{c:Code}{r:AR}(u:C.P.funcs[f]?=some fn)(hb:fn.body=some c)(hk:M3 Q C fn c args.length=true)
  (h:∀p:M1,lA Q ⟨C,p.w0,p.mv,p.s0,p.n,p.pin⟩ c (fun e t h=>Ku C fn.results.toList args r fin e ⟨t,h⟩) (xu args) (oQ args)):af C f args r fin:=
 Zy Q hC u hb hk fun p=>⟨_,au.refl _ _,h p⟩
theorem fW{C:Ctx}(hC:bR C){f:FuncId}{c:Code}{r:AR}(u:C.P.funcs[f]?=some fn)(hb:fn.body=some c)(hk:M3 ⟨[],[],[],[],[],[]⟩ C fn c args.length=true)
  (h:∀p:M1,lA ⟨[],[],[],[],[],[]⟩ ⟨C,p.w0,p.mv,p.s0,p.n,p.pin⟩ c (fun e t h=>Ku C fn.results.toList args r fin e ⟨t,h⟩) (xu args) (oQ args)):af C f args r fin:=sd _ hC u hb hk h
end Go.AM
namespace Go.AM
open Go.RowKit
def uX (C : Ctx) (f : FuncId) : Prop := ∃ fn : Func, C.P.funcs[f]? = some fn ∧ (fn.name == "runtime.NumGoroutine") = false ∧ fn.body.isNone = false
theorem yT{S:Nat->Prop}{w:World}{P:Program}{u:List Value}{vs:Array Value}(z:(u.map fun a=>Arg.pv (.im a)).length=vs.size)(I:∀(j:Nat) x v,(u.map fun a=>Arg.pv (.im a))[j]?=some x->vs[j]?=some v->G2 S w P x v):vs=u.toArray:=by
 apply ph;apply jM;intro i;by_cases hi:i<u.length
 ·have J:(u.map fun a=>Arg.pv (.im a))[i]?=some (.pv (.im u[i])):=by rw[aB,aX hi];rfl
  have D:i<vs.size:=by rw[<-z];simpa using hi
  have N:=I i _ vs[i] J (cx D);have O:vs[i]=u[i]:=by
   have:aQ S w (.im u[i]) vs[i]:=N;generalize vs[i]=v at this;cases this;rfl
  rw[jN,cx D,O];simp[hi]
 rw[fI (by simpa [<-z] using hi)];rw[fI (by simpa using hi)]
theorem DM{S:Nat->Prop}{w:World}{P:Program}:∀l:List Value,fx S w P (l.map fun a=>Arg.pv (.im a)) [] l:=by
 intro l
 induction l with
 | nil=>trivial
 | cons a l ih=>exact ih
theorem uY{w:World}:∀(l:List Value) (i g:Nat),¬dG w (l.map fun a=>Arg.pv (.im a)) [] l i g:=by
 intro l
 induction l with
 | nil=>exact fun i g h=>h
 | cons a l ih=>
  intro i g h;cases i with
  | zero=>exact h
  | succ i=>exact ih i g h
theorem FI{w w':World}(l:List Value):uy w w' (l.map fun a=>Arg.pv (.im a)) [] l.toArray:=⟨fun i g h=>(uY l i g h).elim,fun i j g h=>(uY l i g h).elim⟩
theorem wG{C:Ctx}{f:FuncId}(u:List Value)(r:Value)(D:uX C f)(h:∀S w,C.E S w->(∀b,S b->b<w.heap.size)->Calls C.P f u.toArray w fun e w'=>e=.returned r/\Below w.heap.size w w'):
  af C f (u.map fun a=>.pv (.im a)) (.p (.im r)) []:=by
 refine⟨D,fun S w vs I hS J N _=>?_⟩;have O:=yT J N;subst O;exact (h S w I hS).mono fun e w' ⟨R,hb⟩=>⟨r,S,R,⟨hb.os,hb.tape,hb.output,hb.size,fun k hk _=>hb.block k hk⟩,fun _ h=>h,fun b z=>cG (hS b z) hb.size,fun b z=>.inl z,.im r,DM u,FI u,fun g h=>by cases h⟩
theorem FJ{C:Ctx}(hC:bR C){f:FuncId}(I:List Value)(e:TypeId)(xs:List Value)(N:TI)(W:C.T e=some N)(u:N.size=1)(Y:∀v∈xs,v.oneCell'=true)(hlen:xs.length<=maxLen)(Z:uX C f)
  (h:∀S w,C.E S w->(∀b,S b->b<w.heap.size)->Calls C.P f I.toArray w fun e' w'=>e'=.returned (.slice (some ⟨w.heap.size,0,none⟩) xs.length xs.length)/\w'=w.alloc (.cells xs.toArray e)):
  af C f (I.map fun a=>.pv (.im a)) (.own e (xs.map fun v=>[.im v])) []:=by
 refine⟨Z,fun S w vs hE hS hl O _=>?_⟩;have LX:=yT hl O;subst LX;obtain⟨info,z,h1,J,_⟩:=hC.tab e N W;refine (h S w hE hS).mono fun e' w' ⟨he,hw⟩=>?_;subst hw;have Ci:(w.alloc (.cells xs.toArray e)).heap[w.heap.size]?=some (.cells xs.toArray e (0,0)):=by unfold World.alloc;exact uO
 have Zz:(w.alloc (.cells xs.toArray e)).heap.size=w.heap.size+1:=kT ..;have hb:Below w.heap.size w (w.alloc (.cells xs.toArray e)):=(Below.refl _ _).alloc (aF _) _;refine⟨_,S,he,⟨hb.os,hb.tape,hb.output,hb.size,fun k hk _=>hb.block k hk⟩,fun _ h=>h,fun b R=>cG (hS b R) hb.size,fun b R=>.inl R,⟨⟨info,xs,h1,by omega,⟨?_,.inr ⟨w.heap.size,xs.length,xs.toArray,?_,ai _,Ci,?_,hlen,?_,?_⟩⟩,?_,Y,?_⟩,?_⟩,DM I,FI I,?_⟩
 ·simp[J,u]
 ·simp
 ·simp
 ·simp[J,u]
 ·simp[J,u]
 ·intro r O;obtain⟨v,_,rfl⟩:=bF.1 O;simp[J,u]
 ·intro a r j x V U;rw[aB]at V;obtain⟨v,hv,rfl⟩:=aT.1 V;cases j with
  | zero=>
   simp at U;subst U;exact⟨v,by rw[J,u,Nat.mul_one,nJ];exact hv,.im v⟩
  | succ j=>simp at U
 ·intro g D hs;injection D with D;have D:w.heap.size=g:=D;have:=hS g hs;omega
 intro g _ D;have D:=aD rfl D;injection D with D;have D:w.heap.size=g:=D;exact⟨by omega,.inl (by omega),fun i=>uY I i g⟩
end Go.AM
