/- Part 7 of the proof of HouseDrillingMatchesSpec. -/
import Derived.Test.YtnpkopkpbgflnaaGreatDoorG06
import Derived.Lib.Bytealg
set_option linter.unusedVariables false
set_option linter.unusedSimpArgs false
set_option maxRecDepth 100000
set_option maxHeartbeats 8000000
namespace Go
abbrev jY:=@List.any_eq_false
abbrev Jw:=@Int.mul_le_mul_of_nonneg_right
end Go
namespace Go.Proofs.YtnpkopkpbgflnaaGreatDoor
namespace M
open Go.AM Go.RowKit Go.Lib
open Reg (aZ cR gQ)
structure cY where
 name:ByteArray
 kind:Int
 group:Int
structure aS where
 name:ByteArray
 pins:List cY
structure Part where
 name:ByteArray
 type:ByteArray
structure nG where
 part:ByteArray
 pin:ByteArray
deriving DecidableEq
structure cw where
 name:ByteArray
 kind:Int
 thick:Int
 grow:Int
structure Body where
 name:ByteArray
 w:Int
 h:Int
 tall:Int
 nozzle:ByteArray
def jJ(p:cY):List PV:=[str p.name,i64 p.kind,i64 p.group]
def kp(t:aS):List PV:=[str t.name,.sl (t.pins.map jJ)]
def uq(p:Part):List PV:=[str p.name,str p.type]
def pf(p:nG):List PV:=[str p.part,str p.pin]
def iX(m:cw):List PV:=[str m.name,i64 m.kind,i64 m.thick,i64 m.grow]
def rj(b:Body):List PV:=[str b.name,i64 b.w,i64 b.h,i64 b.tall,str b.nozzle]
theorem vz:∀a b:List UInt8,(Lib.compareBytes a b<0↔a<b)/\(Lib.compareBytes a b=0↔a=b)
 | [],[]=>by simp[Lib.compareBytes]
 | [],_::_=>by simp[Lib.compareBytes]
 | _::_,[]=>by simp[Lib.compareBytes]
 | x::a,y::b=>by
  have ih:=vz a b;unfold Lib.compareBytes;rw[List.cons_lt_cons_iff,List.cons.injEq];by_cases e:x=y
  ·subst e;have d:¬x<x:=UInt8.lt_irrefl x;simp[d,ih.1,ih.2]
  rcases UInt8.lt_or_lt_of_ne e with h | h
  ·simp[e,h]
  have z:¬x<y:=UInt8.not_lt.2 (UInt8.le_of_lt h);simp[e,h,z]
theorem t_(a b:ByteArray):decide (Lib.compareBytes a.data.toList b.data.toList<0)=cE a b:=by
 rw[kO,pV,decide_eq_true_iff];exact (vz _ _).1
theorem cmp_eq(a b:ByteArray):Lib.compareBytes a.data.toList b.data.toList=0↔a=b:=by
 rw[(vz _ _).2];refine⟨fun h=>?_,fun h=>by rw[h]⟩;obtain⟨⟨x⟩⟩:=a;obtain⟨⟨y⟩⟩:=b;simpa using h
theorem gv(a b:ByteArray):af C 161 [.pv (str a),.pv (str b)] (.p (i64 (Lib.compareBytes a.data.toList b.data.toList))) []:=
 wG [.string a,.string b] _ ⟨_,Tryz.func161,rfl,rfl⟩ fun S w _ _=>(Tryz.strings_Compare a b w).mono fun e w' h=>⟨h.1,by rw[h.2];exact Below.refl _ _⟩
def Ly(f:FuncId):PV:=.im (.func (.func f) #[] #[])
def p6{α:Type}(f:α->ByteArray)(l:List α)(x:ByteArray):Nat:=(l.filter fun y=>cE (f y) x).length
def dX{α:Type}(f:α->ByteArray)(l:List α)(x:ByteArray):Bool:=l.any fun y=>decide (f y=x)
def ee{α:Type}(f:α->ByteArray)(l:List α)(x:ByteArray):Int:=fy (fun y=>decide (f y=x)) l 0
def dC{α:Type}(f:α->ByteArray)(l:List α):Prop:=l.Pairwise fun a b=>cE (f a) (f b)=true
variable {α:Type}
theorem cS{f:α->ByteArray}{l:List α}(h:dC f l){i j:Nat}{a b:α}(d:l[i]?=some a)(hb:l[j]?=some b)(z:i<j):cE (f a) (f b)=true:=by
 obtain⟨hi,rfl⟩:=aU.1 d;obtain⟨D,rfl⟩:=aU.1 hb;exact jU.1 h i j hi D z
theorem mK{f:α->ByteArray}{l:List α}{x:ByteArray}{i:Nat}(hi:i<=l.length)(z:∀(k:Nat) y,k<i->l[k]?=some y->cE (f y) x=true)(D:∀(k:Nat) y,i<=k->l[k]?=some y->cE (f y) x=false):p6 f l x=i:=by
 unfold p6;rw[<-nO i l,iD,bG];have I:(l.take i).filter (fun y=>cE (f y) x)=l.take i:=List.filter_eq_self.2 fun y d=>by
  obtain⟨k,hk⟩:=cI.1 d;rw[cV]at hk;split at hk
  ·exact z k y (by assumption) hk
  cases hk
 have J:(l.drop i).filter (fun y=>cE (f y) x)=[]:=List.filter_eq_nil_iff.2 fun y d=>by
  obtain⟨k,hk⟩:=cI.1 d;rw[eE]at hk;rw[D (i+k) y (by omega) hk];decide
 rw[I,J,aV];simp;omega
theorem eP{f:α->ByteArray}{l:List α}{x:ByteArray}:dX f l x=true↔∃y∈l,f y=x:=by simp[dX]
theorem jZ{a b:ByteArray}(h:a=b):cE a b=false:=by rw[h,nh]
theorem vA{f:α->ByteArray}{l:List α}{x:ByteArray}{y:α}{a:Nat}(hs:dC f l)(I:∀(k:Nat) z,k<a->l[k]?=some z->cE (f z) x=true)(D:l[a]?=some y)(J:cE (f y) x=false)(N:¬f y=x):dX f l x=false:=by
 rw[cy];intro O;obtain⟨z,R,d⟩:=eP.1 O;obtain⟨k,hk⟩:=cI.1 R;rcases jP k a with h | h | h
 ·have:=I k z h hk;rw[jZ d]at this;cases this
 ·subst h;rw[D]at hk;injection hk with hk;exact N (by rw[hk];exact d)
 have:=cS hs D hk h;rw[d,J]at this;cases this
theorem lE{f:α->ByteArray}{l:List α}{x:ByteArray}(hs:dC f l):ee f l x=if dX f l x=true then (p6 f l x:Int) else -1:=by
 split
 ·rename_i h;obtain⟨y,J,I⟩:=eP.1 h;obtain⟨k,hk⟩:=cI.1 J;have HV:=(aU.1 hk).1;have b:p6 f l x=k:=mK (by omega) (fun j z D d=>by rw[<-I];exact cS hs d hk D) (fun j z D d=>by
   by_cases e:j=k
   ·subst e;rw[hk]at d;injection d with d;rw[<-d];exact jZ I
   rw[cy];intro N;have:=fc (cS hs hk d (by omega)) N;rw[jZ I]at this;cases this)
  rw[b,ee,cX (p:=fun y=>decide (f y=x)) hk (by simp[I]) (fun z d=>?_)]
  ·omega
  obtain⟨j,D⟩:=cI.1 d;rw[cV]at D;split at D
  ·have:=cS hs D hk (by assumption);simp only[dI];intro e;rw[e,I,nh]at this;cases this
  cases D
 rename_i h;exact bW fun z d=>by
  simp only[dI];exact fun e=>h (eP.2 ⟨z,d,e⟩)
theorem rk{f:α->ByteArray}{l:List α}{x:ByteArray}(h:0<=ee f l x):∃(k:Nat) (y:α),ee f l x=k/\l[k]?=some y/\f y=x:=by
 have key:∀(l:List α) (n:Nat),fy (fun y=>decide (f y=x)) l n=-1\/∃(k:Nat) (y:α),fy (fun y=>decide (f y=x)) l n=((n+k:Nat):Int)/\l[k]?=some y/\f y=x:=by
  intro l
  induction l with
  | nil=>exact fun n=>.inl rfl
  | cons a l ih=>
   intro n;rw[fy];cases h:decide (f a=x) with
   | true=>exact .inr ⟨0,a,rfl,rfl,by simpa using h⟩
   | false=>
    rcases ih (n+1) with e | ⟨k,y,d,z,D⟩
    ·exact .inl e
    exact .inr ⟨k+1,y,by simp only;rw[d];congr 1;omega,by simpa using z,D⟩
 rcases key l 0 with e | ⟨k,y,d,z,D⟩
 ·rw[ee,e]at h;omega
 exact⟨k,y,by rw[ee,d,aY],z,D⟩
theorem iY{f:α->ByteArray}{l:List α}{x:ByteArray}:decide (ee f l x<0)=!dX f l x:=by
 cases h:dX f l x with
 | true=>
  obtain⟨y,hy,QD⟩:=eP.1 h;simp only[jR,dI];intro d;have e:(l.any fun y=>decide (f y=x))=true:=h;rw[<-ib _ l 0]at e;have e2:fy (fun y=>decide (f y=x)) l 0<0:=d;simp at e;omega
 | false=>
  simp only[Bool.not_false,cz];rw[ee,bW fun z D=>by
   simp only[dI];exact fun e=>by rw[eP.2 ⟨z,D,e⟩]at h;cases h]
  decide
theorem Jx(p:aS)(s:ByteArray):af C 244 [.pv (.ag (kp p)),.pv (str s)] (.p (i64 (Lib.compareBytes p.name.data.toList s.data.toList))) []:=by
 refine fW hC Tryz.func244 rfl (by kernel_rfl) fun _=>?_;refine⟨_,_,(gv p.name s),?_,trivial⟩;rfl
theorem H_(l:List aS)(x:ByteArray)(hs:dC aS.name l)(hN:l.length<=1000000000):af C 243 [.pv (.sl (l.map kp)),.pv (str x),.pv (Ly 244)] (.tu [i64 (p6 aS.name l x),bool (dX aS.name l x)]) []:=by
 refine fW hC Tryz.func243 rfl (by kernel_rfl) fun _=>?_;have W:=ak l kp;refine ax (fun p:Nat×Nat=>p.1<=p.2/\p.2<=l.length/\(∀(k:Nat) y,k<p.1->l[k]?=some y->cE (aS.name y) x=true)/\(∀(k:Nat) y,p.2<=k->l[k]?=some y->cE (aS.name y) x=false)) (fun p=>[(0,.p (.sl (l.map kp))),(1,.p (str x)),(2,.p (Ly 244)),(8,.p (i64 l.length)),(9,.p (i64 p.1)),(10,.p (i64 p.2))]) (fun _=>[]) (fun p=>p.2-p.1) (0,l.length) _ (au.refl _ _) ⟨ai _,aF _,fun k y h=>by omega,fun k y U d=>by have:=(aU.1 d).1;simp only at U;omega⟩ ⟨rfl,rfl,rfl,bc (by rw[W]),rfl,bc (by rw[W]),trivial⟩ trivial fun ⟨a,b⟩ hi t h=>?_;obtain⟨q1,V,N,R⟩:=hi;simp only at q1 V N R;apply iW<;>intro U<;>try simp only[zB]at U
 ·have J:=q_ (a:=a) (b:=b) (by omega);obtain⟨y,I⟩:=aj (l:=l) (i:=(a+b) / 2) (by omega);refine⟨⟨by simp only;omega,by simp only;omega⟩,⟨by decide,by decide⟩,⟨by simp only;rw[J];omega,by simp only;rw[J];omega⟩,(kp y),(idx J I),_,_,(Jx y x),?_⟩;have hc:=t_ y.name x;apply iW<;>intro d
  ·have d:cE (aS.name y) x=true:=by rw[<-hc];exact aP d
   refine⟨⟨by simp only;rw[J];omega,by simp only;rw[J];omega⟩,((a+b) / 2+1,b),_,au.refl _ _,⟨by simp only;omega,V,fun k z hk D=>?_,R⟩,by simp only;omega,⟨rfl,rfl,rfl,rfl,bc (by simp only;rw[J];omega),Z,Y⟩,trivial⟩;by_cases e:k=(a+b) / 2
   ·subst e;rw[I]at D;injection D with D;subst D;exact d
   exact fc (cS hs D I (by simp only at hk;omega)) d
  have d:cE (aS.name y) x=false:=by rw[<-hc];exact aL d
  refine⟨(a,(a+b) / 2),_,au.refl _ _,⟨by simp only;omega,by simp only;omega,N,fun k z hk D=>?_⟩,by simp only;omega,⟨rfl,rfl,rfl,rfl,rfl,bc J,trivial⟩,trivial⟩;by_cases e:k=(a+b) / 2
  ·subst e;rw[I]at D;injection D with D;subst D;exact d
  rw[cy];intro gY;rw[fc (cS hs I D (by simp only at hk;omega)) gY]at d;cases d
 have e:a=b:=by omega
 subst e;have hb:=mK V N R;apply iW<;>intro d<;>try simp only[zB]at d
 ·obtain⟨y,I⟩:=aj (l:=l) (i:=a) (by omega);refine⟨(kp y),(idx rfl I),_,_,(Jx y x),?_,trivial⟩;have hq:=cmp_eq y.name x;have O:dX aS.name l x=decide (Lib.compareBytes y.name.data.toList x.data.toList=0):=by
   by_cases e:y.name=x
   ·rw[aP (hq.2 e)];exact eP.2 ⟨y,an I,e⟩
   rw[aL (fun h=>e (hq.1 h))];exact vA hs N I (R a y (aF _) I) e
  rw[hb,O];rfl
 refine⟨?_,trivial⟩;have O:dX aS.name l x=false:=by
  rw[cy];intro O;obtain⟨z,D,K2⟩:=eP.1 O;obtain⟨k,hk⟩:=cI.1 D;have:=N k z (by have:=(aU.1 hk).1;omega) hk;rw[jZ K2]at this;cases this
 rw[hb,O];rfl
theorem Jy(p:cY)(s:ByteArray):af C 246 [.pv (.ag (jJ p)),.pv (str s)] (.p (i64 (Lib.compareBytes p.name.data.toList s.data.toList))) []:=by
 refine fW hC Tryz.func246 rfl (by kernel_rfl) fun _=>?_;refine⟨_,_,(gv p.name s),?_,trivial⟩;rfl
theorem Ia(l:List cY)(x:ByteArray)(hs:dC cY.name l)(hN:l.length<=1000000000):af C 245 [.pv (.sl (l.map jJ)),.pv (str x),.pv (Ly 246)] (.tu [i64 (p6 cY.name l x),bool (dX cY.name l x)]) []:=by
 refine fW hC Tryz.func245 rfl (by kernel_rfl) fun _=>?_;have W:=ak l jJ;refine ax (fun p:Nat×Nat=>p.1<=p.2/\p.2<=l.length/\(∀(k:Nat) y,k<p.1->l[k]?=some y->cE (cY.name y) x=true)/\(∀(k:Nat) y,p.2<=k->l[k]?=some y->cE (cY.name y) x=false)) (fun p=>[(0,.p (.sl (l.map jJ))),(1,.p (str x)),(2,.p (Ly 246)),(8,.p (i64 l.length)),(9,.p (i64 p.1)),(10,.p (i64 p.2))]) (fun _=>[]) (fun p=>p.2-p.1) (0,l.length) _ (au.refl _ _) ⟨ai _,aF _,fun k y h=>by omega,fun k y U d=>by have:=(aU.1 d).1;simp only at U;omega⟩ ⟨rfl,rfl,rfl,bc (by rw[W]),rfl,bc (by rw[W]),trivial⟩ trivial fun ⟨a,b⟩ hi t h=>?_;obtain⟨q1,V,N,R⟩:=hi;simp only at q1 V N R;apply iW<;>intro U<;>try simp only[zB]at U
 ·have J:=q_ (a:=a) (b:=b) (by omega);obtain⟨y,I⟩:=aj (l:=l) (i:=(a+b) / 2) (by omega);refine⟨⟨by simp only;omega,by simp only;omega⟩,⟨by decide,by decide⟩,⟨by simp only;rw[J];omega,by simp only;rw[J];omega⟩,(jJ y),(idx J I),_,_,(Jy y x),?_⟩;have hc:=t_ y.name x;apply iW<;>intro d
  ·have d:cE (cY.name y) x=true:=by rw[<-hc];exact aP d
   refine⟨⟨by simp only;rw[J];omega,by simp only;rw[J];omega⟩,((a+b) / 2+1,b),_,au.refl _ _,⟨by simp only;omega,V,fun k z hk D=>?_,R⟩,by simp only;omega,⟨rfl,rfl,rfl,rfl,bc (by simp only;rw[J];omega),Z,Y⟩,trivial⟩;by_cases e:k=(a+b) / 2
   ·subst e;rw[I]at D;injection D with D;subst D;exact d
   exact fc (cS hs D I (by simp only at hk;omega)) d
  have d:cE (cY.name y) x=false:=by rw[<-hc];exact aL d
  refine⟨(a,(a+b) / 2),_,au.refl _ _,⟨by simp only;omega,by simp only;omega,N,fun k z hk D=>?_⟩,by simp only;omega,⟨rfl,rfl,rfl,rfl,rfl,bc J,trivial⟩,trivial⟩;by_cases e:k=(a+b) / 2
  ·subst e;rw[I]at D;injection D with D;subst D;exact d
  rw[cy];intro gY;rw[fc (cS hs I D (by simp only at hk;omega)) gY]at d;cases d
 have e:a=b:=by omega
 subst e;have hb:=mK V N R;apply iW<;>intro d<;>try simp only[zB]at d
 ·obtain⟨y,I⟩:=aj (l:=l) (i:=a) (by omega);refine⟨(jJ y),(idx rfl I),_,_,(Jy y x),?_,trivial⟩;have hq:=cmp_eq y.name x;have O:dX cY.name l x=decide (Lib.compareBytes y.name.data.toList x.data.toList=0):=by
   by_cases e:y.name=x
   ·rw[aP (hq.2 e)];exact eP.2 ⟨y,an I,e⟩
   rw[aL (fun h=>e (hq.1 h))];exact vA hs N I (R a y (aF _) I) e
  rw[hb,O];rfl
 refine⟨?_,trivial⟩;have O:dX cY.name l x=false:=by
  rw[cy];intro O;obtain⟨z,D,K2⟩:=eP.1 O;obtain⟨k,hk⟩:=cI.1 D;have:=N k z (by have:=(aU.1 hk).1;omega) hk;rw[jZ K2]at this;cases this
 rw[hb,O];rfl
theorem Gb(p:Part)(s:ByteArray):af C 346 [.pv (.ag (uq p)),.pv (str s)] (.p (i64 (Lib.compareBytes p.name.data.toList s.data.toList))) []:=by
 refine fW hC Tryz.func346 rfl (by kernel_rfl) fun _=>?_;refine⟨_,_,(gv p.name s),?_,trivial⟩;rfl
theorem Gc(l:List Part)(x:ByteArray)(hs:dC Part.name l)(hN:l.length<=1000000000):af C 224 [.pv (.sl (l.map uq)),.pv (str x),.pv (Ly 346)] (.tu [i64 (p6 Part.name l x),bool (dX Part.name l x)]) []:=by
 refine fW hC Tryz.func224 rfl (by kernel_rfl) fun _=>?_;have W:=ak l uq;refine ax (fun p:Nat×Nat=>p.1<=p.2/\p.2<=l.length/\(∀(k:Nat) y,k<p.1->l[k]?=some y->cE (Part.name y) x=true)/\(∀(k:Nat) y,p.2<=k->l[k]?=some y->cE (Part.name y) x=false)) (fun p=>[(0,.p (.sl (l.map uq))),(1,.p (str x)),(2,.p (Ly 346)),(8,.p (i64 l.length)),(9,.p (i64 p.1)),(10,.p (i64 p.2))]) (fun _=>[]) (fun p=>p.2-p.1) (0,l.length) _ (au.refl _ _) ⟨ai _,aF _,fun k y h=>by omega,fun k y U d=>by have:=(aU.1 d).1;simp only at U;omega⟩ ⟨rfl,rfl,rfl,bc (by rw[W]),rfl,bc (by rw[W]),trivial⟩ trivial fun ⟨a,b⟩ hi t h=>?_;obtain⟨q1,V,N,R⟩:=hi;simp only at q1 V N R;apply iW<;>intro U<;>try simp only[zB]at U
 ·have J:=q_ (a:=a) (b:=b) (by omega);obtain⟨y,I⟩:=aj (l:=l) (i:=(a+b) / 2) (by omega);refine⟨⟨by simp only;omega,by simp only;omega⟩,⟨by decide,by decide⟩,⟨by simp only;rw[J];omega,by simp only;rw[J];omega⟩,(uq y),(idx J I),_,_,(Gb y x),?_⟩;have hc:=t_ y.name x;apply iW<;>intro d
  ·have d:cE (Part.name y) x=true:=by rw[<-hc];exact aP d
   refine⟨⟨by simp only;rw[J];omega,by simp only;rw[J];omega⟩,((a+b) / 2+1,b),_,au.refl _ _,⟨by simp only;omega,V,fun k z hk D=>?_,R⟩,by simp only;omega,⟨rfl,rfl,rfl,rfl,bc (by simp only;rw[J];omega),Z,Y⟩,trivial⟩;by_cases e:k=(a+b) / 2
   ·subst e;rw[I]at D;injection D with D;subst D;exact d
   exact fc (cS hs D I (by simp only at hk;omega)) d
  have d:cE (Part.name y) x=false:=by rw[<-hc];exact aL d
  refine⟨(a,(a+b) / 2),_,au.refl _ _,⟨by simp only;omega,by simp only;omega,N,fun k z hk D=>?_⟩,by simp only;omega,⟨rfl,rfl,rfl,rfl,rfl,bc J,trivial⟩,trivial⟩;by_cases e:k=(a+b) / 2
  ·subst e;rw[I]at D;injection D with D;subst D;exact d
  rw[cy];intro gY;rw[fc (cS hs I D (by simp only at hk;omega)) gY]at d;cases d
 have e:a=b:=by omega
 subst e;have hb:=mK V N R;apply iW<;>intro d<;>try simp only[zB]at d
 ·obtain⟨y,I⟩:=aj (l:=l) (i:=a) (by omega);refine⟨(uq y),(idx rfl I),_,_,(Gb y x),?_,trivial⟩;have hq:=cmp_eq y.name x;have O:dX Part.name l x=decide (Lib.compareBytes y.name.data.toList x.data.toList=0):=by
   by_cases e:y.name=x
   ·rw[aP (hq.2 e)];exact eP.2 ⟨y,an I,e⟩
   rw[aL (fun h=>e (hq.1 h))];exact vA hs N I (R a y (aF _) I) e
  rw[hb,O];rfl
 refine⟨?_,trivial⟩;have O:dX Part.name l x=false:=by
  rw[cy];intro O;obtain⟨z,D,K2⟩:=eP.1 O;obtain⟨k,hk⟩:=cI.1 D;have:=N k z (by have:=(aU.1 hk).1;omega) hk;rw[jZ K2]at this;cases this
 rw[hb,O];rfl
theorem Jz(p:cw)(s:ByteArray):af C 234 [.pv (.ag (iX p)),.pv (str s)] (.p (i64 (Lib.compareBytes p.name.data.toList s.data.toList))) []:=by
 refine fW hC Tryz.func234 rfl (by kernel_rfl) fun _=>?_;refine⟨_,_,(gv p.name s),?_,trivial⟩;rfl
theorem Ib(l:List cw)(x:ByteArray)(hs:dC cw.name l)(hN:l.length<=1000000000):af C 233 [.pv (.sl (l.map iX)),.pv (str x),.pv (Ly 234)] (.tu [i64 (p6 cw.name l x),bool (dX cw.name l x)]) []:=by
 refine fW hC Tryz.func233 rfl (by kernel_rfl) fun _=>?_;have W:=ak l iX;refine ax (fun p:Nat×Nat=>p.1<=p.2/\p.2<=l.length/\(∀(k:Nat) y,k<p.1->l[k]?=some y->cE (cw.name y) x=true)/\(∀(k:Nat) y,p.2<=k->l[k]?=some y->cE (cw.name y) x=false)) (fun p=>[(0,.p (.sl (l.map iX))),(1,.p (str x)),(2,.p (Ly 234)),(8,.p (i64 l.length)),(9,.p (i64 p.1)),(10,.p (i64 p.2))]) (fun _=>[]) (fun p=>p.2-p.1) (0,l.length) _ (au.refl _ _) ⟨ai _,aF _,fun k y h=>by omega,fun k y U d=>by have:=(aU.1 d).1;simp only at U;omega⟩ ⟨rfl,rfl,rfl,bc (by rw[W]),rfl,bc (by rw[W]),trivial⟩ trivial fun ⟨a,b⟩ hi t h=>?_;obtain⟨q1,V,N,R⟩:=hi;simp only at q1 V N R;apply iW<;>intro U<;>try simp only[zB]at U
 ·have J:=q_ (a:=a) (b:=b) (by omega);obtain⟨y,I⟩:=aj (l:=l) (i:=(a+b) / 2) (by omega);refine⟨⟨by simp only;omega,by simp only;omega⟩,⟨by decide,by decide⟩,⟨by simp only;rw[J];omega,by simp only;rw[J];omega⟩,(iX y),(idx J I),_,_,(Jz y x),?_⟩;have hc:=t_ y.name x;apply iW<;>intro d
  ·have d:cE (cw.name y) x=true:=by rw[<-hc];exact aP d
   refine⟨⟨by simp only;rw[J];omega,by simp only;rw[J];omega⟩,((a+b) / 2+1,b),_,au.refl _ _,⟨by simp only;omega,V,fun k z hk D=>?_,R⟩,by simp only;omega,⟨rfl,rfl,rfl,rfl,bc (by simp only;rw[J];omega),Z,Y⟩,trivial⟩;by_cases e:k=(a+b) / 2
   ·subst e;rw[I]at D;injection D with D;subst D;exact d
   exact fc (cS hs D I (by simp only at hk;omega)) d
  have d:cE (cw.name y) x=false:=by rw[<-hc];exact aL d
  refine⟨(a,(a+b) / 2),_,au.refl _ _,⟨by simp only;omega,by simp only;omega,N,fun k z hk D=>?_⟩,by simp only;omega,⟨rfl,rfl,rfl,rfl,rfl,bc J,trivial⟩,trivial⟩;by_cases e:k=(a+b) / 2
  ·subst e;rw[I]at D;injection D with D;subst D;exact d
  rw[cy];intro gY;rw[fc (cS hs I D (by simp only at hk;omega)) gY]at d;cases d
 have e:a=b:=by omega
 subst e;have hb:=mK V N R;apply iW<;>intro d<;>try simp only[zB]at d
 ·obtain⟨y,I⟩:=aj (l:=l) (i:=a) (by omega);refine⟨(iX y),(idx rfl I),_,_,(Jz y x),?_,trivial⟩;have hq:=cmp_eq y.name x;have O:dX cw.name l x=decide (Lib.compareBytes y.name.data.toList x.data.toList=0):=by
   by_cases e:y.name=x
   ·rw[aP (hq.2 e)];exact eP.2 ⟨y,an I,e⟩
   rw[aL (fun h=>e (hq.1 h))];exact vA hs N I (R a y (aF _) I) e
  rw[hb,O];rfl
 refine⟨?_,trivial⟩;have O:dX cw.name l x=false:=by
  rw[cy];intro O;obtain⟨z,D,K2⟩:=eP.1 O;obtain⟨k,hk⟩:=cI.1 D;have:=N k z (by have:=(aU.1 hk).1;omega) hk;rw[jZ K2]at this;cases this
 rw[hb,O];rfl
theorem JA(p:Body)(s:ByteArray):af C 241 [.pv (.ag (rj p)),.pv (str s)] (.p (i64 (Lib.compareBytes p.name.data.toList s.data.toList))) []:=by
 refine fW hC Tryz.func241 rfl (by kernel_rfl) fun _=>?_;refine⟨_,_,(gv p.name s),?_,trivial⟩;rfl
theorem Ic(l:List Body)(x:ByteArray)(hs:dC Body.name l)(hN:l.length<=1000000000):af C 240 [.pv (.sl (l.map rj)),.pv (str x),.pv (Ly 241)] (.tu [i64 (p6 Body.name l x),bool (dX Body.name l x)]) []:=by
 refine fW hC Tryz.func240 rfl (by kernel_rfl) fun _=>?_;have W:=ak l rj;refine ax (fun p:Nat×Nat=>p.1<=p.2/\p.2<=l.length/\(∀(k:Nat) y,k<p.1->l[k]?=some y->cE (Body.name y) x=true)/\(∀(k:Nat) y,p.2<=k->l[k]?=some y->cE (Body.name y) x=false)) (fun p=>[(0,.p (.sl (l.map rj))),(1,.p (str x)),(2,.p (Ly 241)),(8,.p (i64 l.length)),(9,.p (i64 p.1)),(10,.p (i64 p.2))]) (fun _=>[]) (fun p=>p.2-p.1) (0,l.length) _ (au.refl _ _) ⟨ai _,aF _,fun k y h=>by omega,fun k y U d=>by have:=(aU.1 d).1;simp only at U;omega⟩ ⟨rfl,rfl,rfl,bc (by rw[W]),rfl,bc (by rw[W]),trivial⟩ trivial fun ⟨a,b⟩ hi t h=>?_;obtain⟨q1,V,N,R⟩:=hi;simp only at q1 V N R;apply iW<;>intro U<;>try simp only[zB]at U
 ·have J:=q_ (a:=a) (b:=b) (by omega);obtain⟨y,I⟩:=aj (l:=l) (i:=(a+b) / 2) (by omega);refine⟨⟨by simp only;omega,by simp only;omega⟩,⟨by decide,by decide⟩,⟨by simp only;rw[J];omega,by simp only;rw[J];omega⟩,(rj y),(idx J I),_,_,(JA y x),?_⟩;have hc:=t_ y.name x;apply iW<;>intro d
  ·have d:cE (Body.name y) x=true:=by rw[<-hc];exact aP d
   refine⟨⟨by simp only;rw[J];omega,by simp only;rw[J];omega⟩,((a+b) / 2+1,b),_,au.refl _ _,⟨by simp only;omega,V,fun k z hk D=>?_,R⟩,by simp only;omega,⟨rfl,rfl,rfl,rfl,bc (by simp only;rw[J];omega),Z,Y⟩,trivial⟩;by_cases e:k=(a+b) / 2
   ·subst e;rw[I]at D;injection D with D;subst D;exact d
   exact fc (cS hs D I (by simp only at hk;omega)) d
  have d:cE (Body.name y) x=false:=by rw[<-hc];exact aL d
  refine⟨(a,(a+b) / 2),_,au.refl _ _,⟨by simp only;omega,by simp only;omega,N,fun k z hk D=>?_⟩,by simp only;omega,⟨rfl,rfl,rfl,rfl,rfl,bc J,trivial⟩,trivial⟩;by_cases e:k=(a+b) / 2
  ·subst e;rw[I]at D;injection D with D;subst D;exact d
  rw[cy];intro gY;rw[fc (cS hs I D (by simp only at hk;omega)) gY]at d;cases d
 have e:a=b:=by omega
 subst e;have hb:=mK V N R;apply iW<;>intro d<;>try simp only[zB]at d
 ·obtain⟨y,I⟩:=aj (l:=l) (i:=a) (by omega);refine⟨(rj y),(idx rfl I),_,_,(JA y x),?_,trivial⟩;have hq:=cmp_eq y.name x;have O:dX Body.name l x=decide (Lib.compareBytes y.name.data.toList x.data.toList=0):=by
   by_cases e:y.name=x
   ·rw[aP (hq.2 e)];exact eP.2 ⟨y,an I,e⟩
   rw[aL (fun h=>e (hq.1 h))];exact vA hs N I (R a y (aF _) I) e
  rw[hb,O];rfl
 refine⟨?_,trivial⟩;have O:dX Body.name l x=false:=by
  rw[cy];intro O;obtain⟨z,D,K2⟩:=eP.1 O;obtain⟨k,hk⟩:=cI.1 D;have:=N k z (by have:=(aU.1 hk).1;omega) hk;rw[jZ K2]at this;cases this
 rw[hb,O];rfl
theorem p7(l:List aS)(x:ByteArray)(hs:dC aS.name l)(z:l.length<=1000000000):af C 149 [.pv (.sl (l.map kp)),.pv (str x)] (.p (i64 (ee aS.name l x))) []:=by
 refine fW hC Tryz.func149 rfl (by kernel_rfl) fun _=>?_;have hp:=lE (x:=x) hs;refine⟨_,_,(H_ l x hs z),iW ?_ ?_⟩<;>intro d
 ·refine⟨?_,trivial⟩;rw[hp,aa (by simp[d])];rfl
 refine⟨?_,trivial⟩;rw[hp,ae (by simpa using d)]
theorem xN(t:aS)(x:ByteArray)(hs:dC cY.name t.pins)(z:t.pins.length<=1000000000):af C 150 [.pv (.ag (kp t)),.pv (str x)] (.p (i64 (ee cY.name t.pins x))) []:=by
 refine fW hC Tryz.func150 rfl (by kernel_rfl) fun _=>?_;have hp:=lE (x:=x) hs;refine⟨_,_,(Ia t.pins x hs z),iW ?_ ?_⟩<;>intro d
 ·refine⟨?_,trivial⟩;rw[hp,aa (by simp[d])];rfl
 refine⟨?_,trivial⟩;rw[hp,ae (by simpa using d)]
theorem Eo(l:List Part)(x:ByteArray)(hs:dC Part.name l)(z:l.length<=1000000000):af C 231 [.pv (.sl (l.map uq)),.pv (str x)] (.p (i64 (ee Part.name l x))) []:=by
 refine fW hC Tryz.func231 rfl (by kernel_rfl) fun _=>?_;have hp:=lE (x:=x) hs;refine⟨_,_,(Gc l x hs z),iW ?_ ?_⟩<;>intro d
 ·refine⟨?_,trivial⟩;rw[hp,aa (by simp[d])];rfl
 refine⟨?_,trivial⟩;rw[hp,ae (by simpa using d)]
theorem ao{f:Nat->Int}{i n:Nat}{c:Int}(h:∀k,k<i->f k=0)(hn:i<n)(e:f i=c)(d:c≠0):aG f 0 n=c:=by
 rw[jC (by rw[e];exact d) (fun k _ hk=>h k hk) (ai _) (by omega),e]
theorem bO{f:Nat->Int}{i:Nat}(h:∀k,k<i->f k=0)(e:f i=0):∀k,k<i+1->f k=0:=fun k hk=>by
 by_cases e':k=i
 ·rw[e'];exact e
 exact h k (by omega)
theorem dK{l:List α}{f:α->ByteArray}{i:Nat}{a b:α}(d:l[i]?=some a)(hb:l[i-1]?=some b)(z:0<i):bg (l.map f) i=(cE (f a) (f b)||decide (f a=f b)):=by
 simp only[bg,aB,d,hb,fG];rw[aP z];rfl
theorem fA{l:List ByteArray}{i:Nat}(h:i=0):bg l i=false:=by
 subst h;unfold bg;split<;>simp
theorem j_{f:α->List PV}{n:Nat}{l:List α}(h:∀x,(f x).length=n):∀r∈l.map f,r.length=n:=fun r d=>by
 obtain⟨z,_,rfl⟩:=bF.1 d;exact h z
def p8(a b:Int):Int:=if a=0 then b else a
theorem dF{a b:Int}(h:a=0):p8 a b=b:=ae h
theorem cu{a b c:Int}(h:a=c)(d:c≠0):p8 a b=c:=by rw[p8,aa (by rw[h];exact d),h]
def oB(l:List cY)(i:Nat):Int:=match l[i]? with
 | some x=>if ct x.name=true then (if dR x.kind 1 7=true then (if dR x.group 0 200=true then (if bg (l.map cY.name) i=true then 8 else 0) else 1) else 4) else 5
 | none=>0
def iM(p q:cY):Bool:=decide (0<p.group)&&decide (q.group=p.group)&&!decide (q.kind=p.kind)
theorem K3{p q:cY}(d:0<p.group)(z:p.group=q.group)(D:¬p.kind=q.kind):iM p q=true:=by
 have I:¬q.kind=p.kind:=fun e=>D e.symm;simp[iM,d,z.symm,I]
theorem Ah{p q:cY}(h:¬(0<p.group/\p.group=q.group/\¬p.kind=q.kind)):iM p q=false:=by
 rw[cy];intro d;simp[iM]at d;exact h ⟨d.1.1,d.1.2.symm,fun e=>d.2 e.symm⟩
def kX(l:List cY)(i:Nat):Int:=match l[i]? with
 | some x=>if (l.take i).any (iM x)=true then 12 else 0
 | none=>0
def fE(l:List cY):Int:=if l.length=0 then 9 else if 200<l.length then 2 else p8 (aG (oB l) 0 l.length) (aG (kX l) 0 l.length)
def oq(x:aS):Int:=if ct x.name=true then fE x.pins else 5
def iF(l:List aS)(i:Nat):Int:=match l[i]? with
 | some x=>p8 (oq x) (if bg (l.map aS.name) i=true then 8 else 0)
 | none=>0
def cD(l:List aS):Int:=if 200<l.length then 2 else aG (iF l) 0 l.length
def Ai(l:List cY):Prop:=l.length<=1048576/\∀x∈l,bE x.name
def vB(l:List aS):Prop:=l.length<=1048576/\∀x∈l,bE x.name/\Ai x.pins
theorem bE.le{s:ByteArray}(h:bE s):s.size<=9223372036854775807:=by unfold bE at h;omega
theorem Pv(q p:cY):af C 343 [.pv (.ag (jJ q)),.pv (.ip (jJ p))] (.p (bool (iM p q))) []:=by
 refine fW hC Tryz.func343 rfl (by kernel_rfl) fun _=>?_;apply iW<;>intro d
 ·apply iW<;>intro z
  ·refine⟨?_,trivial⟩;simp[bool,iM,d,z]
  refine⟨?_,trivial⟩;simp[bool,iM,d,z]
 refine⟨?_,trivial⟩;simp[bool,iM,d]
theorem Gd(l:List cY)(hN:l.length<=140737488355328)(p:cY):af C 418 [.pv (.sl (l.map jJ)),.pv (.fn 343 [.ip (jJ p)])] (.p (i64 (fy (iM p) l 0))) []:=by
 refine fW hC Tryz.func418 rfl (by kernel_rfl) fun _=>?_;have I:=ak l jJ;refine ax (fun i:Nat=>i<=l.length/\∀z∈l.take i,iM p z=false) (fun i=>[(0,.p (.sl (l.map jJ))),(1,.p (.fn 343 [.ip (jJ p)])),(7,.p (i64 (l.map jJ).length)),(8,.p (i64 i))]) (fun _=>[]) (fun i=>l.length-i) 0 _ (au.refl _ _) ⟨ai _,by simp⟩ ⟨Z,Z,Z,Z,Y⟩ trivial fun i hi t h=>?_;apply iW<;>intro J
 ·rw[I]at J;obtain⟨r,D⟩:=aj (l:=l) (i:=i) (by omega);refine⟨(jJ r),(idx rfl D),_,_,(Pv r p),iW ?_ ?_⟩<;>intro d
  ·refine⟨?_,trivial⟩;rw[cX D d hi.2,aY]
  exact⟨wO (by omega),(i+1),_,au.refl _ _,⟨by omega,cN D d hi.2⟩,by omega,⟨Z,Z,Z,Z,Y⟩,trivial⟩
 rw[I]at J;refine⟨?_,trivial⟩;have d:=hi.2;rw[aW (by omega)]at d;rw[bW d];rfl
theorem Aj(l:List cY)(d:l.length<=140737488355328)(p:cY):af C 342 [.pv (.sl (l.map jJ)),.pv (.fn 343 [.ip (jJ p)])] (.p (bool (l.any (iM p)))) []:=by
 refine fW hC Tryz.func342 rfl (by kernel_rfl) fun _=>?_;refine⟨_,_,(Gd l d p),?_,trivial⟩;rw[<-ib _ l 0];rfl
theorem yn(l:List cY)(ho:Ai l):af C 226 [.pv (.sl (l.map jJ))] (.p (i64 (fE l))) []:=by
 refine fW hC Tryz.func226 rfl (by kernel_rfl) fun _=>?_;have R:=ak l jJ;apply iW<;>intro J
 ·refine⟨?_,trivial⟩;rw[fE,ae (by have:(((l.map jJ).length:Nat):Int)=0:=J;omega)];rfl
 have J:¬l.length=0:=fun e=>J (by show (((l.map jJ).length:Nat):Int)=0;omega);apply iW<;>intro g1
 ·refine⟨?_,trivial⟩;rw[fE,aa J,ae (by omega)];rfl
 rw[fE,aa J,aa (by omega)];refine ax (fun i:Nat=>i<=l.length/\∀k,k<i->oB l k=0) (fun i=>[(0,.p (.sl (l.map jJ))),(13,.p (.sl (l.map jJ))),(14,.p (i64 l.length)),(15,.p (i64 i))]) (fun _=>[]) (fun i=>l.length-i) 0 _ (au.refl _ _) ⟨ai _,fun k h=>by omega⟩ ⟨rfl,rfl,ah (fun n:Nat=>AV.p (i64 n)) R,Z,Y⟩ trivial fun i hi t h=>?_;apply iW<;>intro h1
 ·obtain⟨x,D⟩:=aj (l:=l) (i:=i) (by omega);have d:oB l i=(if ct x.name=true then (if dR x.kind 1 7=true then (if dR x.group 0 200=true then (if bg (l.map cY.name) i=true then 8 else 0) else 1) else 4) else 5):=by simp only[oB,D]
  refine⟨(jJ x),(idx rfl D),?_⟩;obtain so:=ho.2 x (an D);refine⟨_,_,(eY x.name so.le),iW ?_ ?_⟩<;>intro U
  ·refine⟨?_,trivial⟩;rw[aa (by simp[U])]at d;rw[ao hi.2 (by omega) d (by decide)];rfl
  rw[ae (by simpa using U)]at d;apply iW<;>intro a2
  ·refine⟨?_,trivial⟩;rw[aa (by simp[dR];omega)]at d;rw[ao hi.2 (by omega) d (by decide)];rfl
  apply iW<;>intro a3
  ·refine⟨?_,trivial⟩;rw[aa (by simp[dR];omega)]at d;rw[ao hi.2 (by omega) d (by decide)];rfl
  rw[ae (by rw[dB];omega)]at d;apply iW<;>intro a4
  ·refine⟨?_,trivial⟩;rw[aa (by simp[dR];omega)]at d;rw[ao hi.2 (by omega) d (by decide)];rfl
  apply iW<;>intro a5
  ·refine⟨?_,trivial⟩;rw[aa (by simp[dR];omega)]at d;rw[ao hi.2 (by omega) d (by decide)];rfl
  rw[ae (by rw[dB];omega)]at d;apply iW<;>intro o1
  ·obtain⟨z,V⟩:=aj (l:=l) (i:=i-1) (by omega);rw[dK (f:=cY.name) D V (by omega)]at d;refine⟨wO (by omega),(jJ z),(idx (show (i:Int)-1=((i-1:Nat):Int) by omega) V),iW ?_ ?_⟩<;>intro I
   ·refine⟨?_,trivial⟩;have I:(cE (cY.name x) (cY.name z)||decide (cY.name x=cY.name z))=true:=by simpa [cE] using I
    rw[I,ae rfl]at d;rw[ao hi.2 (by omega) d (by decide)];rfl
   have I:(cE (cY.name x) (cY.name z)||decide (cY.name x=cY.name z))=false:=by simpa [cE] using I
   rw[I,aa (by decide)]at d;exact⟨wO (by omega),(i+1),_,au.refl _ _,⟨by omega,bO hi.2 d⟩,by omega,⟨Z,Z,Z,Z,Y⟩,trivial⟩
  have h0:i=0:=by omega
  rw[fA h0,aa (by decide)]at d;exact⟨wO (by omega),(i+1),_,au.refl _ _,⟨by omega,bO hi.2 d⟩,by omega,⟨Z,Z,Z,Z,Y⟩,trivial⟩
 skip;have O:aG (oB l) 0 l.length=0:=aI fun k _ hk=>hi.2 k (by omega);rw[dF O];refine ax (fun i:Nat=>i<=l.length/\∀k,k<i->kX l k=0) (fun i=>[(0,.p (.sl (l.map jJ))),(58,.p (.sl (l.map jJ))),(59,.p (i64 l.length)),(60,.p (i64 i))]) (fun _=>[]) (fun i=>l.length-i) 0 _ (au.refl _ _) ⟨ai _,fun k h=>by omega⟩ ⟨rfl,rfl,ah (fun n:Nat=>AV.p (i64 n)) R,Z,Y⟩ trivial fun i hi t h=>?_;apply iW<;>intro h1
 ·obtain⟨x,D⟩:=aj (l:=l) (i:=i) (by omega);have d:kX l i=(if (l.take i).any (iM x)=true then 12 else 0):=by simp only[kX,D]
  refine⟨(jJ x),(idx rfl D),?_⟩;have et:(l.map jJ).take i=(l.take i).map jJ:=iC.symm;refine⟨⟨by omega,by omega,by omega,j_ fun _=>rfl⟩,?_⟩;have N:=Aj (l.take i) (by rw[aV];omega) x;rw[<-et]at N;refine⟨_,_,N,iW ?_ ?_⟩<;>intro W
  ·refine⟨?_,trivial⟩;rw[ae W]at d;rw[ao hi.2 (by omega) d (by decide)];rfl
  rw[aa (by simp[W])]at d;exact⟨wO (by omega),(i+1),_,au.refl _ _,⟨by omega,bO hi.2 d⟩,by omega,⟨Z,Z,Z,Z,Y⟩,trivial⟩
 refine⟨?_,trivial⟩;have O:aG (kX l) 0 l.length=0:=aI fun k _ hk=>hi.2 k (by omega);rw[O];rfl
theorem wP(l:List aS)(U:vB l):af C 130 [.pv (.sl (l.map kp))] (.p (i64 (cD l))) []:=by
 refine fW hC Tryz.func130 rfl (by kernel_rfl) fun _=>?_;have V:=ak l kp;apply iW<;>intro g1
 ·refine⟨?_,trivial⟩;rw[cD,ae (by omega)];rfl
 rw[cD,aa (by omega)];refine ax (fun i:Nat=>i<=l.length/\∀k,k<i->iF l k=0) (fun i=>[(0,.p (.sl (l.map kp))),(9,.p (.sl (l.map kp))),(10,.p (i64 l.length)),(11,.p (i64 i))]) (fun _=>[]) (fun i=>l.length-i) 0 _ (au.refl _ _) ⟨ai _,fun k h=>by omega⟩ ⟨rfl,rfl,ah (fun n:Nat=>AV.p (i64 n)) V,Z,Y⟩ trivial fun i hi t h=>?_;apply iW<;>intro h1
 ·obtain⟨x,J⟩:=aj (l:=l) (i:=i) (by omega);have d:iF l i=p8 (oq x) (if bg (l.map aS.name) i=true then 8 else 0):=by simp only[iF,J]
  refine⟨(kp x),(idx rfl J),?_⟩;obtain⟨W,sp⟩:=U.2 x (an J);refine⟨_,_,(eY x.name W.le),iW ?_ ?_⟩<;>intro N
  ·refine⟨?_,trivial⟩;rw[cu (c:=5) (by rw[oq,aa (by simp[N])]) (by decide)]at d;rw[ao hi.2 (by omega) d (by decide)];rfl
  have O:oq x=fE x.pins:=by rw[oq,ae (by simpa using N)]
  refine⟨_,_,(yn x.pins sp),iW ?_ ?_⟩<;>intro D
  ·have D:fE x.pins≠0:=by simpa using D
   rw[cu O D]at d;refine⟨?_,trivial⟩;rw[ao hi.2 (by omega) d D]
  have D:fE x.pins=0:=by simpa using D
  rw[dF (by rw[O,D])]at d;apply iW<;>intro o1
  ·obtain⟨z,R⟩:=aj (l:=l) (i:=i-1) (by omega);rw[dK (f:=aS.name) J R (by omega)]at d;refine⟨wO (by omega),(kp z),(idx (show (i:Int)-1=((i-1:Nat):Int) by omega) R),iW ?_ ?_⟩<;>intro I
   ·refine⟨?_,trivial⟩;have I:(cE (aS.name x) (aS.name z)||decide (aS.name x=aS.name z))=true:=by simpa [cE] using I
    rw[I,ae rfl]at d;rw[ao hi.2 (by omega) d (by decide)];rfl
   have I:(cE (aS.name x) (aS.name z)||decide (aS.name x=aS.name z))=false:=by simpa [cE] using I
   rw[I,aa (by decide)]at d;exact⟨wO (by omega),(i+1),_,au.refl _ _,⟨by omega,bO hi.2 d⟩,by omega,⟨Z,Z,Z,Z,Y⟩,trivial⟩
  have h0:i=0:=by omega
  rw[fA h0,aa (by decide)]at d;exact⟨wO (by omega),(i+1),_,au.refl _ _,⟨by omega,bO hi.2 d⟩,by omega,⟨Z,Z,Z,Z,Y⟩,trivial⟩
 refine⟨?_,trivial⟩;have z0:aG (iF l) 0 l.length=0:=aI fun k _ hk=>hi.2 k (by omega);rw[z0];rfl
theorem Ak(y:aS)(so:bE y.name)(sp:Ai y.pins):af C 268 [.pv (.ag (kp y))] (.p (i64 (oq y))) []:=by
 refine fW hC Tryz.func268 rfl (by kernel_rfl) fun _=>?_;have W:=ak y.pins jJ;refine⟨_,_,(rf y.name so.le),iW ?_ ?_⟩<;>intro g0
 ·refine⟨?_,trivial⟩;rw[oq,aa (by simp[g0])];rfl
 rw[oq,ae (by simpa using g0)];apply iW<;>intro N
 ·refine⟨?_,trivial⟩;rw[fE,ae (by have:(((y.pins.map jJ).length:Nat):Int)=0:=N;omega)];rfl
 have N:¬y.pins.length=0:=fun e=>N (by show (((y.pins.map jJ).length:Nat):Int)=0;omega);apply iW<;>intro g2
 ·refine⟨?_,trivial⟩;rw[fE,aa N,ae (by omega)];rfl
 rw[fE,aa N,aa (by omega)];refine ax (fun i:Nat=>i<=y.pins.length/\∀k,k<i->oB y.pins k=0) (fun i=>[(1,.bx 1 0),(25,.p (.sl (y.pins.map jJ))),(26,.p (i64 y.pins.length)),(27,.p (i64 i))]) (fun _=>[(1,.box [.p (str y.name),.p (.sl (y.pins.map jJ))])]) (fun i=>y.pins.length-i) 0 _ (au.refl _ _) ⟨ai _,fun k h=>by omega⟩ ⟨rfl,rfl,ah (fun n:Nat=>AV.p (i64 n)) W,Z,Y⟩ ⟨Z,Y⟩ fun i hi t h=>?_;apply iW<;>intro h1
 ·obtain⟨x,D⟩:=aj (l:=y.pins) (i:=i) (by omega);have d:oB y.pins i=(if ct x.name=true then (if dR x.kind 1 7=true then (if dR x.group 0 200=true then (if bg (y.pins.map cY.name) i=true then 8 else 0) else 1) else 4) else 5):=by simp only[oB,D]
  refine⟨(jJ x),(idx rfl D),?_⟩;obtain Nx:=sp.2 x (an D);refine⟨_,_,(rf x.name Nx.le),iW ?_ ?_⟩<;>intro a1
  ·refine⟨?_,trivial⟩;rw[aa (by simp[a1])]at d;rw[ao hi.2 (by omega) d (by decide)];rfl
  rw[ae (by simpa using a1)]at d;refine⟨_,_,(rb x.kind 1 7),iW ?_ ?_⟩<;>intro a2
  ·refine⟨?_,trivial⟩;rw[aa (by simp[a2])]at d;rw[ao hi.2 (by omega) d (by decide)];rfl
  rw[ae (by simpa using a2)]at d;refine⟨_,_,(rb x.group 0 200),iW ?_ ?_⟩<;>intro a3
  ·refine⟨?_,trivial⟩;rw[aa (by simp[a3])]at d;rw[ao hi.2 (by omega) d (by decide)];rfl
  rw[ae (by simpa using a3)]at d;apply iW<;>intro o1
  ·obtain⟨z,I⟩:=aj (l:=y.pins) (i:=i-1) (by omega);rw[dK (f:=cY.name) D I (by omega)]at d;refine⟨wO (by omega),(jJ z),(idx (show (i:Int)-1=((i-1:Nat):Int) by omega) I),iW ?_ ?_⟩<;>intro J
   ·refine⟨?_,trivial⟩;have J:(cE (cY.name x) (cY.name z)||decide (cY.name x=cY.name z))=true:=by simpa [cE] using J
    rw[J,ae rfl]at d;rw[ao hi.2 (by omega) d (by decide)];rfl
   have J:(cE (cY.name x) (cY.name z)||decide (cY.name x=cY.name z))=false:=by simpa [cE] using J
   rw[J,aa (by decide)]at d;exact⟨wO (by omega),(i+1),_,au.refl _ _,⟨by omega,bO hi.2 d⟩,by omega,⟨Z,Z,Z,Z,Y⟩,⟨Z,Y⟩⟩
  have h0:i=0:=by omega
  rw[fA h0,aa (by decide)]at d;exact⟨wO (by omega),(i+1),_,au.refl _ _,⟨by omega,bO hi.2 d⟩,by omega,⟨Z,Z,Z,Z,Y⟩,⟨Z,Y⟩⟩
 skip;have R:aG (oB y.pins) 0 y.pins.length=0:=aI fun k _ hk=>hi.2 k (by omega);rw[dF R];refine ax (fun i:Nat=>i<=y.pins.length/\∀k,k<i->kX y.pins k=0) (fun i=>[(1,.bx 1 0),(64,.p (.sl (y.pins.map jJ))),(65,.p (i64 y.pins.length)),(66,.p (i64 i))]) (fun _=>[(1,.box [.p (str y.name),.p (.sl (y.pins.map jJ))])]) (fun i=>y.pins.length-i) 0 _ (au.refl _ _) ⟨ai _,fun k h=>by omega⟩ ⟨rfl,rfl,ah (fun n:Nat=>AV.p (i64 n)) W,Z,Y⟩ ⟨Z,Y⟩ fun i hi t h=>?_;apply iW<;>intro h1
 ·obtain⟨x,D⟩:=aj (l:=y.pins) (i:=i) (by omega);have d:kX y.pins i=(if (y.pins.take i).any (iM x)=true then 12 else 0):=by simp only[kX,D]
  refine⟨(jJ x),(idx rfl D),?_⟩;have O:(y.pins.map jJ).take i=(y.pins.take i).map jJ:=iC.symm;have el:((y.pins.map jJ).take i).length=i:=by rw[aV];omega
  refine⟨⟨by omega,by omega,by omega,j_ fun _=>rfl⟩,?_⟩;refine ax (fun j:Nat=>j<=i/\∀z∈(y.pins.take i).take j,iM x z=false) (fun j=>[(1,.bx 1 0),(64,.p (.sl (y.pins.map jJ))),(65,.p (i64 y.pins.length)),(66,.p (i64 i)),(6,.bx 6 0),(74,.p (.sl ((y.pins.map jJ).take i))),(75,.p (i64 i)),(76,.p (i64 j))]) (fun _=>[(1,.box [.p (str y.name),.p (.sl (y.pins.map jJ))]),(6,.box ((jJ x).map .p))]) (fun j=>i-j) 0 _ (au.refl _ _) ⟨ai _,by simp⟩ ⟨rfl,rfl,rfl,rfl,rfl,rfl,ah (fun n:Nat=>AV.p (i64 n)) el,Z,Y⟩ ⟨Z,Z,Y⟩ fun j hj t h=>?_;apply iW<;>intro b1
  ·obtain⟨q,U⟩:=aj (l:=y.pins.take i) (i:=j) (by rw[aV];omega);have hb:iM x q=true->aG (kX y.pins) 0 y.pins.length=12:=fun V=>by
    rw[ae (gz.2 ⟨q,an U,V⟩)]at d;exact ao hi.2 (by omega) d (by decide)
   rw[O];refine⟨(jJ q),(idx rfl U),?_⟩;have go:iM x q=false->∀z∈(y.pins.take i).take (j+1),iM x z=false:=fun V=>cN U (by simp[V]) hj.2;apply iW<;>intro c1
   ·apply iW<;>intro c2
    ·apply iW<;>intro c3
     ·refine⟨?_,trivial⟩;rw[hb (K3 c1 c2 c3)];rfl
     rw[<-O];exact⟨wO (by omega),(j+1),_,au.refl _ _,⟨by omega,go (Ah fun h=>h.2.2 c3)⟩,by omega,⟨Z,Z,Z,Z,Z,Z,Z,Z,Y⟩,⟨Z,Z,Y⟩⟩
    rw[<-O];exact⟨wO (by omega),(j+1),_,au.refl _ _,⟨by omega,go (Ah fun h=>c2 h.2.1)⟩,by omega,⟨Z,Z,Z,Z,Z,Z,Z,Z,Y⟩,⟨Z,Z,Y⟩⟩
   rw[<-O];exact⟨wO (by omega),(j+1),_,au.refl _ _,⟨by omega,go (Ah fun h=>c1 h.1)⟩,by omega,⟨Z,Z,Z,Z,Z,Z,Z,Z,Y⟩,⟨Z,Z,Y⟩⟩
  have ej:j=i:=by omega
  have I:(y.pins.take i).any (iM x)=false:=by
   rw[jY];intro z I;have:=hj.2 z (by rw[ej,aW (by rw[aV];omega)];exact I);simp[this]
  rw[aa (by simp[I])]at d;exact⟨wO (by omega),(i+1),_,au.refl _ _,⟨by omega,bO hi.2 d⟩,by omega,⟨Z,Z,Z,Z,Y⟩,⟨Z,Y⟩⟩
 refine⟨?_,trivial⟩;have R:aG (kX y.pins) 0 y.pins.length=0:=aI fun k _ hk=>hi.2 k (by omega);rw[R];rfl
theorem yo(l:List aS)(O:vB l):af C 165 [.pv (.sl (l.map kp))] (.p (i64 (cD l))) []:=by
 refine fW hC Tryz.func165 rfl (by kernel_rfl) fun _=>?_;have R:=ak l kp;apply iW<;>intro g1
 ·refine⟨?_,trivial⟩;rw[cD,ae (by omega)];rfl
 rw[cD,aa (by omega)];refine ax (fun i:Nat=>i<=l.length/\∀k,k<i->iF l k=0) (fun i=>[(0,.p (.sl (l.map kp))),(9,.p (.sl (l.map kp))),(10,.p (i64 l.length)),(11,.p (i64 i))]) (fun _=>[]) (fun i=>l.length-i) 0 _ (au.refl _ _) ⟨ai _,fun k h=>by omega⟩ ⟨rfl,rfl,ah (fun n:Nat=>AV.p (i64 n)) R,Z,Y⟩ trivial fun i hi t h=>?_;apply iW<;>intro h1
 ·obtain⟨x,J⟩:=aj (l:=l) (i:=i) (by omega);have d:iF l i=p8 (oq x) (if bg (l.map aS.name) i=true then 8 else 0):=by simp only[iF,J]
  refine⟨(kp x),(idx rfl J),?_⟩;obtain⟨U,sp⟩:=O.2 x (an J);refine⟨_,_,(Ak x U sp),iW ?_ ?_⟩<;>intro D
  ·have D:oq x≠0:=by simpa using D
   rw[cu rfl D]at d;refine⟨?_,trivial⟩;rw[ao hi.2 (by omega) d D]
  have D:oq x=0:=by simpa using D
  rw[dF D]at d;apply iW<;>intro o1
  ·obtain⟨z,N⟩:=aj (l:=l) (i:=i-1) (by omega);rw[dK (f:=aS.name) J N (by omega)]at d;refine⟨wO (by omega),(kp z),(idx (show (i:Int)-1=((i-1:Nat):Int) by omega) N),iW ?_ ?_⟩<;>intro I
   ·refine⟨?_,trivial⟩;have I:(cE (aS.name x) (aS.name z)||decide (aS.name x=aS.name z))=true:=by simpa [cE] using I
    rw[I,ae rfl]at d;rw[ao hi.2 (by omega) d (by decide)];rfl
   have I:(cE (aS.name x) (aS.name z)||decide (aS.name x=aS.name z))=false:=by simpa [cE] using I
   rw[I,aa (by decide)]at d;exact⟨wO (by omega),(i+1),_,au.refl _ _,⟨by omega,bO hi.2 d⟩,by omega,⟨Z,Z,Z,Z,Y⟩,trivial⟩
  have V:i=0:=by omega
  rw[fA V,aa (by decide)]at d;exact⟨wO (by omega),(i+1),_,au.refl _ _,⟨by omega,bO hi.2 d⟩,by omega,⟨Z,Z,Z,Z,Y⟩,trivial⟩
 refine⟨?_,trivial⟩;have W:aG (iF l) 0 l.length=0:=aI fun k _ hk=>hi.2 k (by omega);rw[W];rfl
structure Net where
 name:ByteArray
 pins:List nG
 ports:List ByteArray
structure wQ where
 parts:List Part
 nets:List Net
def Al(n:Net):List PV:=[str n.name,.sl (n.pins.map pf),strs n.ports]
def GX(x:wQ):List PV:=[.sl (x.parts.map uq),.sl (x.nets.map Al)]
theorem fa{f:Nat->Int}:∀{n i:Nat},aG f i n=0->∀k,i<=k->k<i+n->f k=0
 | 0,i,_,k,h1,h2=>by omega
 | n+1,i,h,k,h1,h2=>by
  rw[aG]at h;split at h
  ·rename_i d;by_cases e:k=i
   ·rw[e];exact d
   exact fa h k (by omega) (by omega)
  rename_i d;exact absurd h d
theorem ez{a b:Int}(h:p8 a b=0):a=0/\b=0:=by
 unfold p8 at h;split at h
 ·rename_i d;exact⟨d,h⟩
 rename_i d;exact absurd h d
theorem CE{a b:ByteArray}(h:cE a b=false)(J:¬a=b):cE b a=true:=by
 rw[pV];have z:¬a.data.toList<b.data.toList:=fun e=>by rw[pV.2 e]at h;cases h
 have D:¬a.data.toList=b.data.toList:=fun e=>J ((cmp_eq a b).1 ((vz _ _).2.2 e));rcases List.le_total a.data.toList b.data.toList with I | I
 ·exact absurd (List.le_antisymm I (List.not_lt.1 z)) D
 rcases Classical.em (b.data.toList<a.data.toList) with d | d
 ·exact d
 exact absurd (List.le_antisymm (List.not_lt.1 d) (List.not_lt.1 z)) D
theorem lF{f:α->ByteArray}{l:List α}(h:∀i,i<l.length->bg (l.map f) i=false):dC f l:=by
 unfold dC;rw[jU];intro i j hi z D;obtain⟨d,rfl⟩:∃d,j=i+1+d:=⟨j-i-1,by omega⟩;have step:∀k (hk:k+1<l.length),cE (f l[k]) (f l[k+1])=true:=fun k hk=>by
  have:=h (k+1) hk;rw[dK (aX hk) (aX (show k+1-1<l.length by omega)) (by omega),gV]at this;exact CE this.1 (by simpa using this.2)
 clear D
 induction d with
 | zero=>exact step i z
 | succ d ih=>exact fc (ih (by omega) step) (step (i+1+d) z)
structure kE(t:List aS):Prop where
 len:t.length<=200
 ord:dC aS.name t
 pins:∀x∈t,dC cY.name x.pins/\x.pins.length<=200
theorem p9{t:List aS}(h:cD t=0):kE t:=by
 unfold cD at h;split at h
 ·cases h
 have key:=fun k hk=>ez (fa h k (ai _) (by rw[aY];exact hk) |> (fun e=>by
  obtain⟨x,D⟩:=aj (l:=t) (i:=k) hk;exact e:iF t k=0->iF t k=0) |> (fun e=>by
  obtain⟨x,D⟩:=aj (l:=t) (i:=k) hk;simp only[iF,D]at e;exact (by rw[show t[k]=x from Option.some.inj ((aX hk).symm.trans D)];exact e:p8 (oq t[k]) (if bg (t.map aS.name) k=true then 8 else 0)=0)))
 refine⟨by omega,lF fun i hi=>?_,fun x D=>?_⟩
 ·have:=(key i hi).2;cases e:bg (t.map aS.name) i with
  | false=>rfl
  | true=>rw[e]at this;cases this
 obtain⟨k,hk⟩:=cI.1 D;have I:=(aU.1 hk).1;have d:=(key k I).1;rw[show t[k]=x from Option.some.inj ((aX I).symm.trans hk),oq]at d;split at d
 ·unfold fE at d;split at d
  ·cases d
  split at d
  ·cases d
  refine⟨lF fun i hi=>?_,by omega⟩;have z:=fa (ez d).1 i (ai _) (by omega);obtain⟨y,J⟩:=aj (l:=x.pins) (i:=i) hi;simp only[oB,J]at z;split at z
  ·split at z
   ·split at z
    ·cases e:bg (x.pins.map cY.name) i with
     | false=>rfl
     | true=>rw[e]at z;cases z
    cases z
   cases z
  cases z
 cases d
def kd(t:List aS)(l:List Part)(i:Nat):Int:=match l[i]? with
 | some x=>if gh x.name=true then (if dX aS.name t x.type=true then (if bg (l.map Part.name) i=true then 8 else 0) else 9) else 5
 | none=>0
def dL(t:List aS)(l:List Part):Int:=if 1000<l.length then 2 else aG (kd t l) 0 l.length
structure oU(t:List aS)(l:List Part):Prop where
 len:l.length<=1000
 ord:dC Part.name l
 typ:∀x∈l,dX aS.name t x.type=true
theorem Am{t:List aS}{l:List Part}(h:dL t l=0):oU t l:=by
 unfold dL at h;split at h
 ·cases h
 have key:∀i x,l[i]?=some x->dX aS.name t x.type=true/\bg (l.map Part.name) i=false:=fun i x z=>by
  have d:=fa h i (ai _) (by rw[aY];exact (aU.1 z).1);simp only[kd,z]at d;split at d
  ·split at d
   ·rename_i D;cases e:bg (l.map Part.name) i with
    | false=>exact⟨D,rfl⟩
    | true=>rw[e]at d;cases d
   cases d
  cases d
 refine⟨by omega,lF fun i hi=>(key i _ (aX hi)).2,fun x z=>?_⟩;obtain⟨k,hk⟩:=cI.1 z;exact (key k x hk).1
def jl(t:List aS)(l:List Part)(p:nG):Bool:=decide (0<=ee Part.name l p.part)&&(match l[(ee Part.name l p.part).toNat]? with
 | some q=>(match t[(ee aS.name t q.type).toNat]? with
  | some y=>decide (0<=ee cY.name y.pins p.pin)
  | none=>false)
 | none=>false)
def Oo(p q:nG):Bool:=cE p.part q.part||(decide (p.part=q.part)&&cE p.pin q.pin)
def Ny(p q:nG):Int:=if Lib.compareBytes p.part.data.toList q.part.data.toList=0 then Lib.compareBytes p.pin.data.toList q.pin.data.toList else Lib.compareBytes p.part.data.toList q.part.data.toList
theorem Nz(a b:ByteArray):(Lib.compareBytes a.data.toList b.data.toList<=0)↔cE b a=false:=by
 constructor
 ·intro h;rw[cy];intro d;rcases Int.lt_or_eq_of_le h with z | z
  ·have D:cE a b=true:=by rw[<-t_];exact aP z
   have:=fc D d;rw[nh]at this;cases this
  rw[(cmp_eq a b).1 z,nh]at d;cases d
 intro h;by_cases e:a=b
 ·exact Int.le_of_eq ((cmp_eq a b).2 e)
 have D:=CE h (fun e'=>e e'.symm);have:=(t_ a b).trans D;have:=fO this;omega
theorem Pw(p q:nG):(Ny p q<=0)↔Oo q p=false:=by
 unfold Ny Oo;by_cases e:p.part=q.part
 ·rw[ae ((cmp_eq _ _).2 e),Nz,e,nh];simp
 rw[aa (fun h=>e ((cmp_eq _ _).1 h)),Nz,aL (fun h=>e h.symm)];simp
def cL(l:List Net)(p:nG):Bool:=l.any fun n=>n.pins.any fun q=>decide (q=p)
def vC(l:List nG)(k:Nat):Bool:=match l[k]?,l[k-1]? with
 | some a,some b=>decide (0<k)&&!Oo b a
 | _,_=>false
def s7(t:List aS)(parts:List Part)(seen:nG->Bool)(l:List nG)(k:Nat):Int:=match l[k]? with
 | some p=>if jl t parts p=true then (if vC l k=true then 8 else if seen p=true then 7 else 0) else 9
 | none=>0
def dY(t:List aS)(parts:List Part)(seen:nG->Bool)(l:List nG):Int:=if 500<l.length then 2 else aG (s7 t parts seen l) 0 l.length
theorem QE{l:List nG}{i:Nat}{a b:nG}(d:l[i]?=some a)(hb:l[i-1]?=some b)(z:0<i):vC l i=!Oo b a:=by
 simp only[vC,d,hb];rw[aP z];rfl
theorem UN{l:List nG}{i:Nat}(h:i=0):vC l i=false:=by
 subst h;unfold vC;split<;>simp
theorem xO(l:List aS)(x:ByteArray)(hN:l.length<=140737488355328):af C 270 [.pv (.sl (l.map kp)),.pv (str x)] (.p (i64 (ee aS.name l x))) []:=by
 refine fW hC Tryz.func270 rfl (by kernel_rfl) fun _=>?_;have I:=ak l kp;refine ax (fun i:Nat=>i<=l.length/\∀z∈l.take i,decide (z.name=x)=false) (fun i=>[(1,.p (str x)),(7,.p (.sl (l.map kp))),(8,.p (i64 (l.map kp).length)),(9,.p (i64 i))]) (fun _=>[]) (fun i=>l.length-i) 0 _ (au.refl _ _) ⟨ai _,by simp⟩ ⟨Z,Z,Z,Z,Y⟩ trivial fun i hi t h=>?_;apply iW<;>intro J
 ·rw[I]at J;obtain⟨r,D⟩:=aj (l:=l) (i:=i) (by omega);refine⟨(kp r),(idx rfl D),iW ?_ ?_⟩<;>intro d
  ·refine⟨?_,trivial⟩;rw[ee,cX (p:=fun y=>decide (aS.name y=x)) D (aP d) hi.2,aY]
  exact⟨wO (by omega),(i+1),_,au.refl _ _,⟨by omega,cN (p:=fun y=>decide (aS.name y=x)) D (aL d) hi.2⟩,by omega,⟨Z,Z,Z,Z,Y⟩,trivial⟩
 rw[I]at J;refine⟨?_,trivial⟩;have d:=hi.2;rw[aW (by omega)]at d;rw[ee,bW (p:=fun y=>decide (aS.name y=x)) d];rfl
theorem Ge(l:List Part)(x:ByteArray)(hN:l.length<=140737488355328):af C 367 [.pv (.sl (l.map uq)),.pv (str x)] (.p (i64 (ee Part.name l x))) []:=by
 refine fW hC Tryz.func367 rfl (by kernel_rfl) fun _=>?_;have I:=ak l uq;refine ax (fun i:Nat=>i<=l.length/\∀z∈l.take i,decide (z.name=x)=false) (fun i=>[(1,.p (str x)),(7,.p (.sl (l.map uq))),(8,.p (i64 (l.map uq).length)),(9,.p (i64 i))]) (fun _=>[]) (fun i=>l.length-i) 0 _ (au.refl _ _) ⟨ai _,by simp⟩ ⟨Z,Z,Z,Z,Y⟩ trivial fun i hi t h=>?_;apply iW<;>intro J
 ·rw[I]at J;obtain⟨r,D⟩:=aj (l:=l) (i:=i) (by omega);refine⟨(uq r),(idx rfl D),iW ?_ ?_⟩<;>intro d
  ·refine⟨?_,trivial⟩;rw[ee,cX (p:=fun y=>decide (Part.name y=x)) D (aP d) hi.2,aY]
  exact⟨wO (by omega),(i+1),_,au.refl _ _,⟨by omega,cN (p:=fun y=>decide (Part.name y=x)) D (aL d) hi.2⟩,by omega,⟨Z,Z,Z,Z,Y⟩,trivial⟩
 rw[I]at J;refine⟨?_,trivial⟩;have d:=hi.2;rw[aW (by omega)]at d;rw[ee,bW (p:=fun y=>decide (Part.name y=x)) d];rfl
theorem Ie(y:aS)(x:ByteArray)(hN:y.pins.length<=140737488355328):af C 368 [.pv (.ag (kp y)),.pv (str x)] (.p (i64 (ee cY.name y.pins x))) []:=by
 refine fW hC Tryz.func368 rfl (by kernel_rfl) fun _=>?_;have I:=ak y.pins jJ;refine ax (fun i:Nat=>i<=y.pins.length/\∀z∈y.pins.take i,decide (z.name=x)=false) (fun i=>[(1,.p (str x)),(8,.p (.sl (y.pins.map jJ))),(9,.p (i64 (y.pins.map jJ).length)),(10,.p (i64 i))]) (fun _=>[]) (fun i=>y.pins.length-i) 0 _ (au.refl _ _) ⟨ai _,by simp⟩ ⟨Z,Z,Z,Z,Y⟩ trivial fun i hi t h=>?_;apply iW<;>intro J
 ·rw[I]at J;obtain⟨r,D⟩:=aj (l:=y.pins) (i:=i) (by omega);refine⟨(jJ r),(idx rfl D),iW ?_ ?_⟩<;>intro d
  ·refine⟨?_,trivial⟩;rw[ee,cX (p:=fun y=>decide (cY.name y=x)) D (aP d) hi.2,aY]
  exact⟨wO (by omega),(i+1),_,au.refl _ _,⟨by omega,cN (p:=fun y=>decide (cY.name y=x)) D (aL d) hi.2⟩,by omega,⟨Z,Z,Z,Z,Y⟩,trivial⟩
 rw[I]at J;refine⟨?_,trivial⟩;have d:=hi.2;rw[aW (by omega)]at d;rw[ee,bW (p:=fun y=>decide (cY.name y=x)) d];rfl
theorem Ep(l:List Body)(x:ByteArray)(hN:l.length<=140737488355328):af C 282 [.pv (.sl (l.map rj)),.pv (str x)] (.p (i64 (ee Body.name l x))) []:=by
 refine fW hC Tryz.func282 rfl (by kernel_rfl) fun _=>?_;have I:=ak l rj;refine ax (fun i:Nat=>i<=l.length/\∀z∈l.take i,decide (z.name=x)=false) (fun i=>[(1,.p (str x)),(7,.p (.sl (l.map rj))),(8,.p (i64 (l.map rj).length)),(9,.p (i64 i))]) (fun _=>[]) (fun i=>l.length-i) 0 _ (au.refl _ _) ⟨ai _,by simp⟩ ⟨Z,Z,Z,Z,Y⟩ trivial fun i hi t h=>?_;apply iW<;>intro J
 ·rw[I]at J;obtain⟨r,D⟩:=aj (l:=l) (i:=i) (by omega);refine⟨(rj r),(idx rfl D),iW ?_ ?_⟩<;>intro d
  ·refine⟨?_,trivial⟩;rw[ee,cX (p:=fun y=>decide (Body.name y=x)) D (aP d) hi.2,aY]
  exact⟨wO (by omega),(i+1),_,au.refl _ _,⟨by omega,cN (p:=fun y=>decide (Body.name y=x)) D (aL d) hi.2⟩,by omega,⟨Z,Z,Z,Z,Y⟩,trivial⟩
 rw[I]at J;refine⟨?_,trivial⟩;have d:=hi.2;rw[aW (by omega)]at d;rw[ee,bW (p:=fun y=>decide (Body.name y=x)) d];rfl
theorem Er(t:List aS)(l:List Part)(p:nG)(d:kE t)(hp:oU t l):af C 135 [.pv (.sl (t.map kp)),.pv (.sl (l.map uq)),.pv (.ag (pf p))] (.p (bool (jl t l p))) []:=by
 refine fW hC Tryz.func135 rfl (by kernel_rfl) fun _=>?_;have hl:=hp.len;have ye:=d.len;refine⟨_,_,(Eo l p.part hp.ord (by omega)),iW ?_ ?_⟩<;>intro z
 ·obtain⟨k,q,I,hk,hq⟩:=rk z;have N:=hp.typ q (an hk);have O:0<=ee aS.name t q.type:=by
   have:=iY (f:=aS.name) (l:=t) (x:=q.type);rw[N]at this;have:=of_decide_eq_false this;omega
  obtain⟨m,y,J,D,hy⟩:=rk O;have R:=d.pins y (an D);have U:jl t l p=decide (0<=ee cY.name y.pins p.pin):=by
   unfold jl;rw[aP z,I,bU,hk];simp only;rw[J,bU,D];rfl
  refine⟨(uq q),(idx I hk),_,_,(p7 t q.type d.ord (by omega)),(kp y),(idx J D),_,_,(xN y p.pin R.1 (by omega)),?_,trivial⟩;rw[U];rfl
 refine⟨?_,trivial⟩;rw[jl,aL z];rfl
theorem Gf(t:List aS)(x:wQ)(p:nG)(D:kE t)(hp:oU t x.parts):af C 271 [.pv (.sl (t.map kp)),.pv (.ag (GX x)),.pv (.ag (pf p))] (.p (bool (jl t x.parts p))) []:=by
 refine fW hC Tryz.func271 rfl (by kernel_rfl) fun _=>?_;have hl:=hp.len;have ye:=D.len;refine⟨_,_,(Ge x.parts p.part (by omega)),iW ?_ ?_⟩<;>intro d
 ·obtain⟨k,q,I,hk,hq⟩:=rk d;have N:=hp.typ q (an hk);have O:0<=ee aS.name t q.type:=by
   have:=iY (f:=aS.name) (l:=t) (x:=q.type);rw[N]at this;have:=of_decide_eq_false this;omega
  obtain⟨m,y,J,z,hy⟩:=rk O;have hP:=D.pins y (an z);have R:jl t x.parts p=decide (0<=ee cY.name y.pins p.pin):=by
   unfold jl;rw[aP d,I,bU,hk];simp only;rw[J,bU,z];rfl
  refine⟨(uq q),(idx I hk),_,_,(xO t q.type (by omega)),(kp y),(idx J z),_,_,(Ie y p.pin (by omega)),?_,trivial⟩;rw[R];rfl
 refine⟨?_,trivial⟩;rw[jl,aL d];rfl
theorem K4(t:List aS)(x:wQ)(p:nG)(d:kE t)(hp:oU t x.parts):af C 134 [.pv (.ag (pf p)),.pv (.ip [.sl (t.map kp)]),.pv (.ip (GX x))] (.p (bool (jl t x.parts p))) []:=by
 refine fW hC Tryz.func134 rfl (by kernel_rfl) fun _=>?_;refine⟨_,_,(Er t x.parts p d hp),?_,trivial⟩;rfl
theorem vD(p q:nG):af C 230 [.pv (.ag (pf p)),.pv (.ag (pf q))] (.p (i64 (Ny p q))) []:=by
 refine fW hC Tryz.func230 rfl (by kernel_rfl) fun _=>?_;refine⟨_,_,(gv p.part q.part),iW ?_ ?_⟩<;>intro h
 ·refine⟨?_,trivial⟩;rw[Ny,aa (by simpa using h)]
 refine⟨_,_,(gv p.pin q.pin),?_,trivial⟩;rw[Ny,ae (by simpa using h)]
theorem Gg(p q:nG):af C 272 [.pv (.ag (pf p)),.pv (.ag (pf q))] (.p (bool (Oo p q))) []:=by
 refine fW hC Tryz.func272 rfl (by kernel_rfl) fun _=>?_;apply iW<;>intro d
 ·refine⟨?_,trivial⟩;have d:cE p.part q.part=true:=d;simp[bool,Oo,d]
 have d:cE p.part q.part=false:=by simpa [cE] using d
 apply iW<;>intro z
 ·refine⟨?_,trivial⟩;rw[Oo,d,aP z];rfl
 refine⟨?_,trivial⟩;rw[Oo,d,aL z];rfl
theorem NA(p q:nG):(decide (p.part=q.part)&&(decide (p.pin=q.pin)&&true))=decide (q=p):=by
 rw[kO];cases p;cases q;simp only[yG,aK,cz,nG.mk.injEq];exact⟨fun h=>⟨h.1.symm,h.2.symm⟩,fun h=>⟨h.1.symm,h.2.symm⟩⟩
theorem K5(l:List nG)(p:nG)(hN:l.length<=140737488355328):af C 427 [.pv (.sl (l.map pf)),.pv (.ag (pf p))] (.p (i64 (fy (fun q=>decide (q=p)) l 0))) []:=by
 refine fW hC Tryz.func427 rfl (by kernel_rfl) fun _=>?_;have I:=ak l pf;refine ax (fun i:Nat=>i<=l.length/\∀z∈l.take i,decide (z=p)=false) (fun i=>[(0,.p (.sl (l.map pf))),(3,.bx 3 0),(7,.p (i64 (l.map pf).length)),(8,.p (i64 i))]) (fun _=>[(3,.box ((pf p).map .p))]) (fun i=>l.length-i) 0 _ (au.refl _ _) ⟨ai _,by simp⟩ ⟨Z,Z,Z,Z,Y⟩ ⟨Z,Y⟩ fun i hi t h=>?_;apply iW<;>intro J
 ·rw[I]at J;obtain⟨r,D⟩:=aj (l:=l) (i:=i) (by omega);have N:=NA p r;refine⟨(pf r),(idx rfl D),iW ?_ ?_⟩<;>intro d<;>try simp only[zB]at d
  ·refine⟨?_,trivial⟩;have d:decide (r=p)=true:=by rw[<-N];exact d
   rw[cX (p:=fun q=>decide (q=p)) D d hi.2,aY]
  have d:decide (r=p)=false:=by rw[<-N];simpa using d
  exact⟨wO (by omega),(i+1),_,au.refl _ _,⟨by omega,cN (p:=fun q=>decide (q=p)) D d hi.2⟩,by omega,⟨Z,Z,Z,Z,Y⟩,⟨Z,Y⟩⟩
 rw[I]at J;refine⟨?_,trivial⟩;have d:=hi.2;rw[aW (by omega)]at d;rw[bW (p:=fun q=>decide (q=p)) d];rfl
theorem Es(l:List nG)(p:nG)(d:l.length<=140737488355328):af C 369 [.pv (.sl (l.map pf)),.pv (.ag (pf p))] (.p (bool (l.any fun q=>decide (q=p)))) []:=by
 refine fW hC Tryz.func369 rfl (by kernel_rfl) fun _=>?_;refine⟨_,_,(K5 l p d),?_,trivial⟩;rw[<-ib _ l 0];rfl
theorem Gh(l:List Net)(p:nG)(hN:l.length<=140737488355328)(N:∀n∈l,n.pins.length<=140737488355328):af C 273 [.pv (.sl (l.map Al)),.pv (.ag (pf p))] (.p (bool (cL l p))) []:=by
 refine fW hC Tryz.func273 rfl (by kernel_rfl) fun _=>?_;have D:=ak l Al;refine ax (fun i:Nat=>i<=l.length/\cL (l.take i) p=false) (fun i=>[(3,.bx 3 0),(7,.p (.sl (l.map Al))),(8,.p (i64 (l.map Al).length)),(9,.p (i64 i))]) (fun _=>[(3,.box ((pf p).map .p))]) (fun i=>l.length-i) 0 _ (au.refl _ _) ⟨ai _,rfl⟩ ⟨Z,Z,Z,Z,Y⟩ ⟨Z,Y⟩ fun i hi t h=>?_;apply iW<;>intro I
 ·rw[D]at I;obtain⟨n,z⟩:=aj (l:=l) (i:=i) (by omega);refine⟨(Al n),(idx rfl z),_,_,(Es n.pins p (N n (an z))),iW ?_ ?_⟩<;>intro d
  ·refine⟨?_,trivial⟩;rw[cL,gz.2 ⟨n,an z,d⟩];rfl
  refine⟨wO (by omega),(i+1),_,au.refl _ _,⟨by omega,?_⟩,by omega,⟨Z,Z,Z,Z,Y⟩,⟨Z,Y⟩⟩;have J:=hi.2;unfold cL at J ⊢;rw[aN z,mz,J];simp only[vg,List.any_nil,nX,jk];simpa using d
 rw[D]at I;refine⟨?_,trivial⟩;have d:=hi.2;rw[aW (by omega)]at d;rw[d];rfl
structure dw where
 name:ByteArray
 cd:List aZ
structure iZ where
 kind:Int
 name:ByteArray
 x:Int
 y:Int
 pts:List (Int×Int)
 nx:Int
 ny:Int
inductive Steps where
 | nil
 | cons (s:iZ) (sub:Steps) (rest:Steps)
def BN(t:dw):List PV:=[str t.name,cd t.cd]
def pg(s:iZ)(sub:List (List PV)):List PV:=[i64 s.kind,str s.name,i64 s.x,i64 s.y,.sl (s.pts.map sp),i64 s.nx,i64 s.ny,.sl sub]
def Steps.rows:Steps->List (List PV)
 | .nil=>[]
 | .cons s sub rest=>pg s sub.rows::rest.rows
structure ic where
 unit:Int
 tools:List dw
 steps:Steps
def di(p:ic):List PV:=[i64 p.unit,.sl (p.tools.map BN),.sl p.steps.rows]
def ig(n u:Int):Bool:=decide (-1000000<=n*u)&&decide (n*u<=1000000)
variable {u:Int}
theorem Ig{n:Int}(h1:1<=u):dR n (Int.tdiv (-1000000) u) (Int.tdiv 1000000 u)=ig n u:=by
 have d:Int.tdiv 1000000 u=1000000 / u:=DU (by decide);have z:Int.tdiv (-1000000) u=-(1000000 / u):=by rw[Int.neg_tdiv,d]
 have D:n<=1000000 / u↔n*u<=1000000:=Int.le_ediv_iff_mul_le (by omega);have I:-n<=1000000 / u↔-n*u<=1000000:=Int.le_ediv_iff_mul_le (by omega);rw[Int.neg_mul]at I;have J:-(1000000 / u)<=n↔-1000000<=n*u:=by omega
 unfold dR ig;rw[d,z];congr 1
 ·exact decide_eq_decide.2 J
 exact decide_eq_decide.2 D
theorem R3{n:Int}(d:-1000000<=n/\n<=1000000)(hu:1<=u/\u<=1000):-1000000000<=n*u/\n*u<=1000000000:=by
 have h1:n*u<=1000000*u:=Jw d.2 (by omega);have h2:-1000000*u<=n*u:=Jw d.1 (by omega);omega
theorem Px{n:Int}(z:1<=u)(h:ig n u=true):-1000000<=n/\n<=1000000:=by
 simp only[ig,aK,cz]at h;rcases Int.le_total 0 n with d | d
 ·have:n*1<=n*u:=Int.mul_le_mul_of_nonneg_left z d;omega
 have:n*u<=n*1:=Int.mul_le_mul_of_nonpos_left d z;omega
theorem mL(n u:Int)(D:1<=u/\u<=1000):af C 237 [.pv (i64 n),.pv (i64 u)] (.p (bool (ig n u))) []:=by
 refine fW hC Tryz.func237 rfl (by kernel_rfl) fun _=>?_;have e:=Ig (n:=n) D.1;have d:Int.tdiv 1000000 u=1000000 / u:=DU (by decide);have z:Int.tdiv (-1000000) u=-(1000000 / u):=by rw[Int.neg_tdiv,d]
 have b1:1000000 / u<=1000000:=Int.ediv_le_self _ (by decide);have b2:0<=1000000 / u:=Int.ediv_nonneg (by decide) (by omega);refine⟨fun h=>by have h:u=0:=h;omega,⟨by rw[z];omega,by rw[z];omega⟩,fun h=>by have h:u=0:=h;omega,⟨by rw[d];omega,by rw[d];omega⟩,_,_,(ey n (Int.tdiv (-1000000) u) (Int.tdiv 1000000 u)),?_,trivial⟩;rw[e]
theorem oV(n u:Int)(z:1<=u/\u<=1000):af C 277 [.pv (i64 n),.pv (i64 u)] (.p (bool (ig n u))) []:=by
 refine fW hC Tryz.func277 rfl (by kernel_rfl) fun _=>?_;refine⟨_,_,(wH n),iW ?_ ?_⟩<;>intro d
 ·have d:-1000000<=n/\n<=1000000:=by simpa [Reg.kC] using d
  have hm:=R3 d z;refine⟨wO (by omega),_,_,(wH (n*u)),?_,trivial⟩;rfl
 refine⟨?_,trivial⟩;have I:ig n u=false:=by
  rw[cy];intro h;have D:Reg.kC n=true:=by simpa [Reg.kC] using Px z.1 h
  rw[d]at D;cases D
 rw[I];rfl
def jD(p:Int×Int)(u:Int):Bool:=ig p.1 u&&ig p.2 u
theorem iG(p:Int×Int)(u:Int)(d:1<=u/\u<=1000):af C 351 [.pv (.ag (sp p)),.pv (i64 u)] (.p (bool (jD p u))) []:=by
 refine fW hC Tryz.func351 rfl (by kernel_rfl) fun _=>?_;refine⟨_,_,(mL p.1 u d),iW ?_ ?_⟩<;>intro h
 ·refine⟨_,_,(mL p.2 u d),?_,trivial⟩;rw[jD,h];rfl
 refine⟨?_,trivial⟩;rw[jD,show ig p.1 u=false by simpa using h];rfl
theorem nj(p:Int×Int)(u:Int)(d:1<=u/\u<=1000):af C 372 [.pv (.ag (sp p)),.pv (i64 u)] (.p (bool (jD p u))) []:=by
 refine fW hC Tryz.func372 rfl (by kernel_rfl) fun _=>?_;refine⟨_,_,(oV p.1 u d),iW ?_ ?_⟩<;>intro h
 ·refine⟨_,_,(oV p.2 u d),?_,trivial⟩;rw[jD,h];rfl
 refine⟨?_,trivial⟩;rw[jD,show ig p.1 u=false by simpa using h];rfl
def mD(u:Int)(l:List aZ)(i:Nat):Int:=match l[i]? with
 | some r=>if ig r.x0 u=true then (if ig r.y0 u=true then (if ig r.x1 u=true then (if ig r.y1 u=true then (if r.x1<=r.x0 then 13 else if r.y1<=r.y0 then 13 else 0) else 1) else 1) else 1) else 1
 | none=>0
def nm(u:Int)(l:List aZ):Int:=if l.length=0 then 9 else if 2000<l.length then 2 else aG (mD u l) 0 l.length
def rm(u:Int)(t:dw):Int:=if vy t.name=true then nm u t.cd else 5
def Et(t:dw):Prop:=bE t.name/\t.cd.length<=1048576
theorem An(y:dw)(u:Int)(D:1<=u/\u<=1000)(ho:Et y):af C 142 [.pv (.ag (BN y)),.pv (i64 u)] (.p (i64 (rm u y))) []:=by
 refine fW hC Tryz.func142 rfl (by kernel_rfl) fun _=>?_;have lm:=ak y.cd rc;refine⟨_,_,(F_ y.name ho.1.le),iW ?_ ?_⟩<;>intro I
 ·refine⟨?_,trivial⟩;rw[rm,aa (by simp[I])];rfl
 rw[rm,ae (by simpa using I)];apply iW<;>intro z
 ·refine⟨?_,trivial⟩;rw[nm,ae (by have:(((y.cd.map rc).length:Nat):Int)=0:=z;omega)];rfl
 have z:¬y.cd.length=0:=fun e=>z (by show (((y.cd.map rc).length:Nat):Int)=0;omega);apply iW<;>intro g2
 ·refine⟨?_,trivial⟩;rw[nm,aa z,ae (by omega)];rfl
 rw[nm,aa z,aa (by omega)];refine ax (fun i:Nat=>i<=y.cd.length/\∀k,k<i->mD u y.cd k=0) (fun i=>[(1,.p (i64 u)),(20,.p (.sl (y.cd.map rc))),(21,.p (i64 y.cd.length)),(22,.p (i64 i))]) (fun _=>[]) (fun i=>y.cd.length-i) 0 _ (au.refl _ _) ⟨ai _,fun k h=>by omega⟩ ⟨rfl,rfl,ah (fun n:Nat=>AV.p (i64 n)) lm,Z,Y⟩ trivial fun i hi t h=>?_;apply iW<;>intro h1
 ·obtain⟨x,J⟩:=aj (l:=y.cd) (i:=i) (by omega);have d:mD u y.cd i=(if ig x.x0 u=true then (if ig x.y0 u=true then (if ig x.x1 u=true then (if ig x.y1 u=true then (if x.x1<=x.x0 then 13 else if x.y1<=x.y0 then 13 else 0) else 1) else 1) else 1) else 1):=by simp only[mD,J]
  refine⟨(rc x),(idx rfl J),_,_,(mL x.x0 u D),iW ?_ ?_⟩<;>intro N
  ·refine⟨?_,trivial⟩;rw[aa (by simp[N])]at d;rw[ao hi.2 (by omega) d (by decide)];rfl
  rw[ae (by simpa using N)]at d;refine⟨_,_,(mL x.y0 u D),iW ?_ ?_⟩<;>intro O
  ·refine⟨?_,trivial⟩;rw[aa (by simp[O])]at d;rw[ao hi.2 (by omega) d (by decide)];rfl
  rw[ae (by simpa using O)]at d;refine⟨_,_,(mL x.x1 u D),iW ?_ ?_⟩<;>intro R
  ·refine⟨?_,trivial⟩;rw[aa (by simp[R])]at d;rw[ao hi.2 (by omega) d (by decide)];rfl
  rw[ae (by simpa using R)]at d;refine⟨_,_,(mL x.y1 u D),iW ?_ ?_⟩<;>intro U
  ·refine⟨?_,trivial⟩;rw[aa (by simp[U])]at d;rw[ao hi.2 (by omega) d (by decide)];rfl
  rw[ae (by simpa using U)]at d;apply iW<;>intro V
  ·refine⟨?_,trivial⟩;rw[ae V]at d;rw[ao hi.2 (by omega) d (by decide)];rfl
  rw[aa V]at d;apply iW<;>intro W
  ·refine⟨?_,trivial⟩;rw[ae W]at d;rw[ao hi.2 (by omega) d (by decide)];rfl
  rw[aa W]at d;exact⟨wO (by omega),(i+1),_,au.refl _ _,⟨by omega,bO hi.2 d⟩,by omega,⟨Z,Z,Z,Z,Y⟩,trivial⟩
 refine⟨?_,trivial⟩;have z0:aG (mD u y.cd) 0 y.cd.length=0:=aI fun k _ hk=>hi.2 k (by omega);rw[z0];rfl
theorem s8(l:List aZ)(u:Int)(D:1<=u/\u<=1000)(ho:l.length<=1048576):af C 172 [.pv (cd l),.pv (i64 u)] (.p (i64 (nm u l))) []:=by
 refine fW hC Tryz.func172 rfl (by kernel_rfl) fun _=>?_;have lm:=ak l rc;apply iW<;>intro z
 ·refine⟨?_,trivial⟩;rw[nm,ae (by have:(((l.map rc).length:Nat):Int)=0:=z;omega)];rfl
 have z:¬l.length=0:=fun e=>z (by show (((l.map rc).length:Nat):Int)=0;omega);apply iW<;>intro g2
 ·refine⟨?_,trivial⟩;rw[nm,aa z,ae (by omega)];rfl
 rw[nm,aa z,aa (by omega)];refine ax (fun i:Nat=>i<=l.length/\∀k,k<i->mD u l k=0) (fun i=>[(0,.p (cd l)),(1,.p (i64 u)),(5,.p (i64 i))]) (fun _=>[]) (fun i=>l.length-i) 0 _ (au.refl _ _) ⟨ai _,fun k h=>by omega⟩ ⟨Z,Z,Z,Y⟩ trivial fun i hi t h=>?_;apply iW<;>intro h1
 ·obtain⟨x,I⟩:=aj (l:=l) (i:=i) (by omega);have d:mD u l i=(if ig x.x0 u=true then (if ig x.y0 u=true then (if ig x.x1 u=true then (if ig x.y1 u=true then (if x.x1<=x.x0 then 13 else if x.y1<=x.y0 then 13 else 0) else 1) else 1) else 1) else 1):=by simp only[mD,I]
  refine⟨(rc x),(idx rfl I),_,_,(oV x.x0 u D),iW ?_ ?_⟩<;>intro J
  ·refine⟨?_,trivial⟩;rw[aa (by simp[J])]at d;rw[ao hi.2 (by omega) d (by decide)];rfl
  rw[ae (by simpa using J)]at d;refine⟨_,_,(oV x.y0 u D),iW ?_ ?_⟩<;>intro N
  ·refine⟨?_,trivial⟩;rw[aa (by simp[N])]at d;rw[ao hi.2 (by omega) d (by decide)];rfl
  rw[ae (by simpa using N)]at d;refine⟨_,_,(oV x.x1 u D),iW ?_ ?_⟩<;>intro O
  ·refine⟨?_,trivial⟩;rw[aa (by simp[O])]at d;rw[ao hi.2 (by omega) d (by decide)];rfl
  rw[ae (by simpa using O)]at d;refine⟨_,_,(oV x.y1 u D),iW ?_ ?_⟩<;>intro R
  ·refine⟨?_,trivial⟩;rw[aa (by simp[R])]at d;rw[ao hi.2 (by omega) d (by decide)];rfl
  rw[ae (by simpa using R)]at d;apply iW<;>intro U
  ·refine⟨?_,trivial⟩;rw[ae U]at d;rw[ao hi.2 (by omega) d (by decide)];rfl
  rw[aa U]at d;apply iW<;>intro V
  ·refine⟨?_,trivial⟩;rw[ae V]at d;rw[ao hi.2 (by omega) d (by decide)];rfl
  rw[aa V]at d;exact⟨wO (by omega),(i+1),_,au.refl _ _,⟨by omega,bO hi.2 d⟩,by omega,⟨Z,Z,Z,Y⟩,trivial⟩
 refine⟨?_,trivial⟩;have W:aG (mD u l) 0 l.length=0:=aI fun k _ hk=>hi.2 k (by omega);rw[W];rfl
def Ao(l:List (Int×Int))(i:Nat):Bool:=match l[i]?,l[(i+1) % l.length]? with
 | some a,some b=>!(decide (a.1=b.1)==decide (a.2=b.2))
 | _,_=>true
def BO(l:List (Int×Int)):Bool:=decide (4<=l.length)&&rh (Ao l) l.length
theorem JB(a b:Nat):((a:Int)+1).tmod (b:Int)=(((a+1) % b:Nat):Int):=by
 rw[show ((a:Int)+1)=((a+1:Nat):Int) by omega];exact (Int.ofNat_tmod _ _).symm
theorem Gi(l:List (Int×Int))(hN:l.length<=1048576):af C 354 [.pv (.sl (l.map sp))] (.p (bool (BO l))) []:=by
 refine fW hC Tryz.func354 rfl (by kernel_rfl) fun _=>?_;have z:=ak l sp;apply iW<;>intro g1
 ·refine⟨?_,trivial⟩;rw[BO,aL (by omega)];rfl
 refine ax (fun i:Nat=>i<=l.length/\rh (Ao l) i=true) (fun i=>[(0,.p (.sl (l.map sp))),(9,.p (.sl (l.map sp))),(10,.p (i64 (l.map sp).length)),(11,.p (i64 i))]) (fun _=>[]) (fun i=>l.length-i) 0 _ (au.refl _ _) ⟨ai _,rfl⟩ ⟨Z,Z,Z,Z,Y⟩ trivial fun i hi t h=>?_;apply iW<;>intro h1
 ·obtain⟨a,D⟩:=aj (l:=l) (i:=i) (by omega);have O:(i+1) % l.length<l.length:=pk _ (by omega);obtain⟨b,hb⟩:=aj (l:=l) (i:=(i+1) % l.length) O;have I:Ao l i=!(decide (a.1=b.1)==decide (a.2=b.2)):=by simp only[Ao,D,hb]
  have J:=JB i l.length;rw[<-z]at J;refine⟨(sp a),(idx rfl D),wO (by omega),fun e=>by have e:(((l.map sp).length:Nat):Int)=0:=e;omega,(sp b),(idx (J.trans (by rw[z])) hb),iW ?_ ?_⟩<;>intro d
  ·have d:(decide (a.1=b.1)==decide (a.2=b.2))=true:=by simpa using d
   refine⟨?_,trivial⟩;rw[BO,ri (by rw[I,d];rfl) (by omega:i<l.length),sE];rfl
  have d:(decide (a.1=b.1)==decide (a.2=b.2))=false:=by simpa using d
  exact⟨wO (by omega),(i+1),_,au.refl _ _,⟨by omega,by rw[rh,hi.2,I,d];rfl⟩,by omega,⟨Z,Z,Z,Z,Y⟩,trivial⟩
 have e:i=l.length:=by omega
 have N:=hi.2;rw[e]at N;refine⟨?_,trivial⟩;rw[BO,N,aP (by omega)];rfl
theorem Ap(l:List (Int×Int))(u:Int)(R:1<=u/\u<=1000)(hN:l.length<=1048576):af C 373 [.pv (.sl (l.map sp)),.pv (i64 u)] (.p (i64 (if (l.any fun p=>!jD p u)=true then 1 else if 2000<l.length then 2 else if BO l=true then 0 else 3))) []:=by
 refine sd ⟨[],[],[],[],[(13,[true,true,true,true,true,true,true,true,false,true,false,false,true,true,false,true])],[]⟩ hC Tryz.func373 rfl (by kernel_rfl) fun _=>?_;have J:=ak l sp;refine ax (fun i:Nat=>i<=l.length/\∀z∈l.take i,(!jD z u)=false) (fun i=>[(0,.p (.sl (l.map sp))),(1,.p (i64 u)),(5,.p (i64 i))]) (fun _=>[]) (fun i=>l.length-i) 0 _ (au.refl _ _) ⟨ai _,by simp⟩ ⟨Z,Z,Z,Y⟩ trivial fun i hi t h=>?_;apply iW<;>intro h1
 ·obtain⟨a,D⟩:=aj (l:=l) (i:=i) (by omega);refine⟨(sp a),(idx rfl D),_,_,(nj a u R),iW ?_ ?_⟩<;>intro I
  ·refine⟨?_,trivial⟩;rw[ae (gz.2 ⟨a,an D,by simpa using I⟩)];rfl
  exact⟨wO (by omega),(i+1),_,au.refl _ _,⟨by omega,cN (p:=fun z=>!jD z u) D (by simpa using I) hi.2⟩,by omega,⟨Z,Z,Z,Y⟩,trivial⟩
 have U:(l.any fun p=>!jD p u)=false:=by
  rw[jY];intro z V;have:=hi.2 z (by rw[aW (by omega)];exact V);rw[this];decide
 rw[aa (by rw[U];decide)];apply iW<;>intro g2
 ·refine⟨?_,trivial⟩;rw[ae (by omega)];rfl
 rw[aa (by omega)];apply iW<;>intro g3
 ·refine⟨?_,trivial⟩;rw[aa (by rw[BO,aL (by omega)];simp)];rfl
 refine ax (fun i:Nat=>i<=l.length/\rh (Ao l) i=true) (fun i=>[(0,.p (.sl (l.map sp))),(6,.p (i64 i))]) (fun _=>[]) (fun i=>l.length-i) 0 _ (au.refl _ _) ⟨ai _,rfl⟩ ⟨Z,Z,Y⟩ trivial fun i hi t h=>?_;apply iW<;>intro I
 ·obtain⟨a,D⟩:=aj (l:=l) (i:=i) (by omega);have W:(i+1) % l.length<l.length:=pk _ (by omega);obtain⟨b,hb⟩:=aj (l:=l) (i:=(i+1) % l.length) W;have N:Ao l i=!(decide (a.1=b.1)==decide (a.2=b.2)):=by simp only[Ao,D,hb]
  have O:=JB i l.length;rw[<-J]at O;refine⟨(sp a),(idx rfl D),wO (by omega),fun e=>by have e:(((l.map sp).length:Nat):Int)=0:=e;omega,(sp b),(idx (O.trans (by rw[J])) hb),iW ?_ ?_⟩<;>intro d
  ·have d:(decide (a.1=b.1)==decide (a.2=b.2))=true:=by simpa using d
   refine⟨?_,trivial⟩;rw[aa (by rw[BO,ri (by rw[N,d];rfl) (by omega:i<l.length),sE];decide)];rfl
  have d:(decide (a.1=b.1)==decide (a.2=b.2))=false:=by simpa using d
  exact⟨wO (by omega),(i+1),_,au.refl _ _,⟨by omega,by rw[rh,hi.2,N,d];rfl⟩,by omega,⟨Z,Z,Y⟩,trivial⟩
 have e:i=l.length:=by omega
 have d:=hi.2;rw[e]at d;refine⟨?_,trivial⟩;rw[ae (by rw[BO,d,aP (by omega)];rfl)];rfl
end M
end Go.Proofs.YtnpkopkpbgflnaaGreatDoor
