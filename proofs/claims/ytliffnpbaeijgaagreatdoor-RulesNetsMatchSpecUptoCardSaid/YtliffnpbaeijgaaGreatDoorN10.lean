/- Part 10 of the proof of RulesNetsMatchSpec. -/
import Derived.Test.YtliffnpbaeijgaaGreatDoorN09
import Derived.Lib.Bytealg
set_option linter.unusedVariables false
set_option linter.unusedSimpArgs false
set_option maxRecDepth 100000
set_option maxHeartbeats 8000000
namespace Go
abbrev Bb:=@Bool.not_false
abbrev Bc:=@List.any_eq_false
end Go
namespace Go.Proofs.YtliffnpbaeijgaaGreatDoor
namespace M
open Go.AM Go.RowKit Go.Lib
open Reg (aB cw aR)
structure eV where
 name:ByteArray
 kind:Int
 group:Int
structure bG where
 name:ByteArray
 pins:List eV
structure Part where
 name:ByteArray
 type:ByteArray
structure HI where
 part:ByteArray
 pin:ByteArray
deriving DecidableEq
def uj(p:eV):List PV:=[str p.name,i64 p.kind,i64 p.group]
def vU(t:bG):List PV:=[str t.name,.sl (t.pins.map uj)]
def yV(p:Part):List PV:=[str p.name,str p.type]
def Gm(p:HI):List PV:=[str p.part,str p.pin]
theorem acw:∀a b:List UInt8,(Lib.compareBytes a b<0↔a<b)/\(Lib.compareBytes a b=0↔a=b)
 | [],[]=>by simp[Lib.compareBytes]
 | [],_::_=>by simp[Lib.compareBytes]
 | _::_,[]=>by simp[Lib.compareBytes]
 | x::a,y::b=>by
  have ih:=acw a b;unfold Lib.compareBytes;rw[List.cons_lt_cons_iff,List.cons.injEq];by_cases e:x=y
  ·subst e;have u:¬x<x:=UInt8.lt_irrefl x;simp[u,ih.1,ih.2]
  rcases UInt8.lt_or_lt_of_ne e with h | h
  ·simp[e,h]
  have z:¬x<y:=UInt8.not_lt.2 (UInt8.le_of_lt h);simp[e,h,z]
theorem sW(a b:ByteArray):decide (Lib.compareBytes a.data.toList b.data.toList<0)=eG a b:=by
 rw[Ax,rB,decide_eq_true_iff];exact (acw _ _).1
theorem cmp_eq(a b:ByteArray):Lib.compareBytes a.data.toList b.data.toList=0↔a=b:=by
 rw[(acw _ _).2];refine⟨fun h=>?_,fun h=>by rw[h]⟩;obtain⟨⟨x⟩⟩:=a;obtain⟨⟨y⟩⟩:=b;simpa using h
theorem gA(a b:ByteArray):ai C 109 [.pv (str a),.pv (str b)] (.p (i64 (Lib.compareBytes a.data.toList b.data.toList))) []:=
 tO [.string a,.string b] _ ⟨_,Tryz.func109,rfl,rfl⟩ fun S w _ _=>(Tryz.strings_Compare a b w).mono fun e w' h=>⟨h.1,by rw[h.2];exact Mt _ _⟩
def MG(f:FuncId):PV:=.im (.func (.func f) #[] #[])
def pU{α:Type}(f:α->ByteArray)(l:List α)(x:ByteArray):Nat:=(l.filter fun y=>eG (f y) x).length
def dX{α:Type}(f:α->ByteArray)(l:List α)(x:ByteArray):Bool:=l.any fun y=>decide (f y=x)
def jE{α:Type}(f:α->ByteArray)(l:List α)(x:ByteArray):Int:=eM (fun y=>decide (f y=x)) l 0
def cM{α:Type}(f:α->ByteArray)(l:List α):Prop:=l.Pairwise fun a b=>eG (f a) (f b)=true
variable {α:Type}
theorem cx{f:α->ByteArray}{l:List α}(h:cM f l){i j:Nat}{a b:α}(u:l[i]?=some a)(hb:l[j]?=some b)(z:i<j):eG (f a) (f b)=true:=by
 obtain⟨hi,rfl⟩:=az.1 u;obtain⟨D,rfl⟩:=az.1 hb;exact FZ.1 h i j hi D z
theorem lJ{f:α->ByteArray}{l:List α}{x:ByteArray}{i:Nat}(hi:i<=l.length)(z:∀(k:Nat) y,k<i->l[k]?=some y->eG (f y) x=true)(D:∀(k:Nat) y,i<=k->l[k]?=some y->eG (f y) x=false):pU f l x=i:=by
 unfold pU;rw[<-nj i l,nt,bJ];have e1:(l.take i).filter (fun y=>eG (f y) x)=l.take i:=mc.2 fun y u=>by
  obtain⟨k,hk⟩:=ca.1 u;rw[dM]at hk;split at hk
  ·exact z k y (by assumption) hk
  cases hk
 have e2:(l.drop i).filter (fun y=>eG (f y) x)=[]:=Gz.2 fun y u=>by
  obtain⟨k,hk⟩:=ca.1 u;rw[aW]at hk;rw[D (i+k) y (by omega) hk];decide
 rw[e1,e2,cE];simp;omega
theorem dB{f:α->ByteArray}{l:List α}{x:ByteArray}:dX f l x=true↔∃y∈l,f y=x:=by simp[dX]
theorem kQ{a b:ByteArray}(h:a=b):eG a b=false:=by rw[h,iH]
theorem uk{f:α->ByteArray}{l:List α}{x:ByteArray}{y:α}{a:Nat}(I:cM f l)(J:∀(k:Nat) z,k<a->l[k]?=some z->eG (f z) x=true)(D:l[a]?=some y)(L:eG (f y) x=false)(N:¬f y=x):dX f l x=false:=by
 rw[cu];intro O;obtain⟨z,R,u⟩:=dB.1 O;obtain⟨k,hk⟩:=ca.1 R;rcases iq k a with h | h | h
 ·have:=J k z h hk;rw[kQ u]at this;cases this
 ·subst h;rw[D]at hk;injection hk with hk;exact N (by rw[hk];exact u)
 have:=cx I D hk h;rw[u,L]at this;cases this
theorem kd{f:α->ByteArray}{l:List α}{x:ByteArray}(J:cM f l):jE f l x=if dX f l x=true then (pU f l x:Int) else -1:=by
 split
 ·rename_i h;obtain⟨y,L,I⟩:=dB.1 h;obtain⟨k,hk⟩:=ca.1 L;have KR:=(az.1 hk).1;have b:pU f l x=k:=lJ (by omega) (fun j z D u=>by rw[<-I];exact cx J u hk D) (fun j z D u=>by
   by_cases e:j=k
   ·subst e;rw[hk]at u;injection u with u;rw[<-u];exact kQ I
   rw[cu];intro N;have:=dK (cx J hk u (by omega)) N;rw[kQ I]at this;cases this)
  rw[b,jE,hD (p:=fun y=>decide (f y=x)) hk (by simp[I]) (fun z u=>?_)]
  ·omega
  obtain⟨j,D⟩:=ca.1 u;rw[dM]at D;split at D
  ·have:=cx J D hk (by assumption);simp only[dG];intro e;rw[e,I,iH]at this;cases this
  cases D
 rename_i h;exact cT fun z u=>by
  simp only[dG];exact fun e=>h (dB.2 ⟨z,u,e⟩)
theorem xp{f:α->ByteArray}{l:List α}{x:ByteArray}(h:0<=jE f l x):∃(k:Nat) (y:α),jE f l x=k/\l[k]?=some y/\f y=x:=by
 have key:∀(l:List α) (n:Nat),eM (fun y=>decide (f y=x)) l n=-1\/∃(k:Nat) (y:α),eM (fun y=>decide (f y=x)) l n=((n+k:Nat):Int)/\l[k]?=some y/\f y=x:=by
  intro l
  induction l with
  | nil=>exact fun n=>.inl rfl
  | cons a l ih=>
   intro n;rw[eM];cases h:decide (f a=x) with
   | true=>exact .inr ⟨0,a,rfl,rfl,by simpa using h⟩
   | false=>
    rcases ih (n+1) with e | ⟨k,y,e1,e2,u⟩
    ·exact .inl e
    exact .inr ⟨k+1,y,by simp only;rw[e1];congr 1;omega,by simpa using e2,u⟩
 rcases key l 0 with e | ⟨k,y,e1,e2,u⟩
 ·rw[jE,e]at h;omega
 exact⟨k,y,by rw[jE,e1,fX],e2,u⟩
theorem oz{f:α->ByteArray}{l:List α}{x:ByteArray}:decide (jE f l x<0)=!dX f l x:=by
 cases h:dX f l x with
 | true=>
  obtain⟨y,hy,S8⟩:=dB.1 h;simp only[ir,dG];intro u;have e:(l.any fun y=>decide (f y=x))=true:=h;rw[<-eZ _ l 0]at e;have e2:eM (fun y=>decide (f y=x)) l 0<0:=u;simp at e;omega
 | false=>
  simp only[Bb,fV];rw[jE,cT fun z D=>by
   simp only[dG];exact fun e=>by rw[dB.2 ⟨z,D,e⟩]at h;cases h]
  decide
theorem MH(p:bG)(s:ByteArray):ai C 108 [.pv (.ag (vU p)),.pv (str s)] (.p (i64 (Lib.compareBytes p.name.data.toList s.data.toList))) []:=by
 refine fW hC Tryz.func108 rfl (by kernel_rfl) fun _=>?_;refine⟨_,_,(gA p.name s),?_,trivial⟩;rfl
theorem KZ(l:List bG)(x:ByteArray)(R:cM bG.name l)(hN:l.length<=1000000000):ai C 107 [.pv (.sl (l.map vU)),.pv (str x),.pv (MG 108)] (.tu [i64 (pU bG.name l x),bool (dX bG.name l x)]) []:=by
 refine fW hC Tryz.func107 rfl (by kernel_rfl) fun _=>?_;have W:=an l vU;refine aP (fun p:Nat×Nat=>p.1<=p.2/\p.2<=l.length/\(∀(k:Nat) y,k<p.1->l[k]?=some y->eG (bG.name y) x=true)/\(∀(k:Nat) y,p.2<=k->l[k]?=some y->eG (bG.name y) x=false)) (fun p=>[(0,.p (.sl (l.map vU))),(1,.p (str x)),(2,.p (MG 108)),(8,.p (i64 l.length)),(9,.p (i64 p.1)),(10,.p (i64 p.2))]) (fun _=>[]) (fun p=>p.2-p.1) (0,l.length) _ (aA.refl _ _) ⟨ak _,aG _,fun k y h=>by omega,fun k y U u=>by have:=(az.1 u).1;simp only at U;omega⟩ ⟨rfl,rfl,rfl,bI (by rw[W]),rfl,bI (by rw[W]),trivial⟩ trivial fun ⟨a,b⟩ hi t h=>?_;obtain⟨q1,V,L,O⟩:=hi;simp only at q1 V L O;apply iW<;>intro U<;>try simp only[zB]at U
 ·have J:=qp (a:=a) (b:=b) (by omega);obtain⟨y,I⟩:=ax (l:=l) (i:=(a+b) / 2) (by omega);refine⟨⟨by simp only;omega,by simp only;omega⟩,⟨by decide,by decide⟩,⟨by simp only;rw[J];omega,by simp only;rw[J];omega⟩,(vU y),(idx J I),_,_,(MH y x),?_⟩;have hc:=sW y.name x;apply iW<;>intro u
  ·have u:eG (bG.name y) x=true:=by rw[<-hc];exact nq u
   refine⟨⟨by simp only;rw[J];omega,by simp only;rw[J];omega⟩,((a+b) / 2+1,b),_,aA.refl _ _,⟨by simp only;omega,V,fun k z hk D=>?_,O⟩,by simp only;omega,⟨rfl,rfl,rfl,rfl,bI (by simp only;rw[J];omega),Z,Y⟩,trivial⟩;by_cases e:k=(a+b) / 2
   ·subst e;rw[I]at D;injection D with D;subst D;exact u
   exact dK (cx R D I (by simp only at hk;omega)) u
  have u:eG (bG.name y) x=false:=by rw[<-hc];exact fJ u
  refine⟨(a,(a+b) / 2),_,aA.refl _ _,⟨by simp only;omega,by simp only;omega,L,fun k z hk D=>?_⟩,by simp only;omega,⟨rfl,rfl,rfl,rfl,rfl,bI J,trivial⟩,trivial⟩;by_cases e:k=(a+b) / 2
  ·subst e;rw[I]at D;injection D with D;subst D;exact u
  rw[cu];intro eX;rw[dK (cx R I D (by simp only at hk;omega)) eX]at u;cases u
 have e:a=b:=by omega
 subst e;have hb:=lJ V L O;apply iW<;>intro u<;>try simp only[zB]at u
 ·obtain⟨y,I⟩:=ax (l:=l) (i:=a) (by omega);refine⟨(vU y),(idx rfl I),_,_,(MH y x),?_,trivial⟩;have hq:=cmp_eq y.name x;have N:dX bG.name l x=decide (Lib.compareBytes y.name.data.toList x.data.toList=0):=by
   by_cases e:y.name=x
   ·rw[nq (hq.2 e)];exact dB.2 ⟨y,aj I,e⟩
   rw[fJ (fun h=>e (hq.1 h))];exact uk R L I (O a y (aG _) I) e
  rw[hb,N];rfl
 refine⟨?_,trivial⟩;have N:dX bG.name l x=false:=by
  rw[cu];intro N;obtain⟨z,D,KY⟩:=dB.1 N;obtain⟨k,hk⟩:=ca.1 D;have:=L k z (by have:=(az.1 hk).1;omega) hk;rw[kQ KY]at this;cases this
 rw[hb,N];rfl
theorem MI(p:eV)(s:ByteArray):ai C 143 [.pv (.ag (uj p)),.pv (str s)] (.p (i64 (Lib.compareBytes p.name.data.toList s.data.toList))) []:=by
 refine fW hC Tryz.func143 rfl (by kernel_rfl) fun _=>?_;refine⟨_,_,(gA p.name s),?_,trivial⟩;rfl
theorem K1(l:List eV)(x:ByteArray)(R:cM eV.name l)(hN:l.length<=1000000000):ai C 142 [.pv (.sl (l.map uj)),.pv (str x),.pv (MG 143)] (.tu [i64 (pU eV.name l x),bool (dX eV.name l x)]) []:=by
 refine fW hC Tryz.func142 rfl (by kernel_rfl) fun _=>?_;have W:=an l uj;refine aP (fun p:Nat×Nat=>p.1<=p.2/\p.2<=l.length/\(∀(k:Nat) y,k<p.1->l[k]?=some y->eG (eV.name y) x=true)/\(∀(k:Nat) y,p.2<=k->l[k]?=some y->eG (eV.name y) x=false)) (fun p=>[(0,.p (.sl (l.map uj))),(1,.p (str x)),(2,.p (MG 143)),(8,.p (i64 l.length)),(9,.p (i64 p.1)),(10,.p (i64 p.2))]) (fun _=>[]) (fun p=>p.2-p.1) (0,l.length) _ (aA.refl _ _) ⟨ak _,aG _,fun k y h=>by omega,fun k y U u=>by have:=(az.1 u).1;simp only at U;omega⟩ ⟨rfl,rfl,rfl,bI (by rw[W]),rfl,bI (by rw[W]),trivial⟩ trivial fun ⟨a,b⟩ hi t h=>?_;obtain⟨q1,V,L,O⟩:=hi;simp only at q1 V L O;apply iW<;>intro U<;>try simp only[zB]at U
 ·have J:=qp (a:=a) (b:=b) (by omega);obtain⟨y,I⟩:=ax (l:=l) (i:=(a+b) / 2) (by omega);refine⟨⟨by simp only;omega,by simp only;omega⟩,⟨by decide,by decide⟩,⟨by simp only;rw[J];omega,by simp only;rw[J];omega⟩,(uj y),(idx J I),_,_,(MI y x),?_⟩;have hc:=sW y.name x;apply iW<;>intro u
  ·have u:eG (eV.name y) x=true:=by rw[<-hc];exact nq u
   refine⟨⟨by simp only;rw[J];omega,by simp only;rw[J];omega⟩,((a+b) / 2+1,b),_,aA.refl _ _,⟨by simp only;omega,V,fun k z hk D=>?_,O⟩,by simp only;omega,⟨rfl,rfl,rfl,rfl,bI (by simp only;rw[J];omega),Z,Y⟩,trivial⟩;by_cases e:k=(a+b) / 2
   ·subst e;rw[I]at D;injection D with D;subst D;exact u
   exact dK (cx R D I (by simp only at hk;omega)) u
  have u:eG (eV.name y) x=false:=by rw[<-hc];exact fJ u
  refine⟨(a,(a+b) / 2),_,aA.refl _ _,⟨by simp only;omega,by simp only;omega,L,fun k z hk D=>?_⟩,by simp only;omega,⟨rfl,rfl,rfl,rfl,rfl,bI J,trivial⟩,trivial⟩;by_cases e:k=(a+b) / 2
  ·subst e;rw[I]at D;injection D with D;subst D;exact u
  rw[cu];intro eX;rw[dK (cx R I D (by simp only at hk;omega)) eX]at u;cases u
 have e:a=b:=by omega
 subst e;have hb:=lJ V L O;apply iW<;>intro u<;>try simp only[zB]at u
 ·obtain⟨y,I⟩:=ax (l:=l) (i:=a) (by omega);refine⟨(uj y),(idx rfl I),_,_,(MI y x),?_,trivial⟩;have hq:=cmp_eq y.name x;have N:dX eV.name l x=decide (Lib.compareBytes y.name.data.toList x.data.toList=0):=by
   by_cases e:y.name=x
   ·rw[nq (hq.2 e)];exact dB.2 ⟨y,aj I,e⟩
   rw[fJ (fun h=>e (hq.1 h))];exact uk R L I (O a y (aG _) I) e
  rw[hb,N];rfl
 refine⟨?_,trivial⟩;have N:dX eV.name l x=false:=by
  rw[cu];intro N;obtain⟨z,D,KY⟩:=dB.1 N;obtain⟨k,hk⟩:=ca.1 D;have:=L k z (by have:=(az.1 hk).1;omega) hk;rw[kQ KY]at this;cases this
 rw[hb,N];rfl
theorem II(p:Part)(s:ByteArray):ai C 141 [.pv (.ag (yV p)),.pv (str s)] (.p (i64 (Lib.compareBytes p.name.data.toList s.data.toList))) []:=by
 refine fW hC Tryz.func141 rfl (by kernel_rfl) fun _=>?_;refine⟨_,_,(gA p.name s),?_,trivial⟩;rfl
theorem IJ(l:List Part)(x:ByteArray)(R:cM Part.name l)(hN:l.length<=1000000000):ai C 140 [.pv (.sl (l.map yV)),.pv (str x),.pv (MG 141)] (.tu [i64 (pU Part.name l x),bool (dX Part.name l x)]) []:=by
 refine fW hC Tryz.func140 rfl (by kernel_rfl) fun _=>?_;have W:=an l yV;refine aP (fun p:Nat×Nat=>p.1<=p.2/\p.2<=l.length/\(∀(k:Nat) y,k<p.1->l[k]?=some y->eG (Part.name y) x=true)/\(∀(k:Nat) y,p.2<=k->l[k]?=some y->eG (Part.name y) x=false)) (fun p=>[(0,.p (.sl (l.map yV))),(1,.p (str x)),(2,.p (MG 141)),(8,.p (i64 l.length)),(9,.p (i64 p.1)),(10,.p (i64 p.2))]) (fun _=>[]) (fun p=>p.2-p.1) (0,l.length) _ (aA.refl _ _) ⟨ak _,aG _,fun k y h=>by omega,fun k y U u=>by have:=(az.1 u).1;simp only at U;omega⟩ ⟨rfl,rfl,rfl,bI (by rw[W]),rfl,bI (by rw[W]),trivial⟩ trivial fun ⟨a,b⟩ hi t h=>?_;obtain⟨q1,V,L,O⟩:=hi;simp only at q1 V L O;apply iW<;>intro U<;>try simp only[zB]at U
 ·have J:=qp (a:=a) (b:=b) (by omega);obtain⟨y,I⟩:=ax (l:=l) (i:=(a+b) / 2) (by omega);refine⟨⟨by simp only;omega,by simp only;omega⟩,⟨by decide,by decide⟩,⟨by simp only;rw[J];omega,by simp only;rw[J];omega⟩,(yV y),(idx J I),_,_,(II y x),?_⟩;have hc:=sW y.name x;apply iW<;>intro u
  ·have u:eG (Part.name y) x=true:=by rw[<-hc];exact nq u
   refine⟨⟨by simp only;rw[J];omega,by simp only;rw[J];omega⟩,((a+b) / 2+1,b),_,aA.refl _ _,⟨by simp only;omega,V,fun k z hk D=>?_,O⟩,by simp only;omega,⟨rfl,rfl,rfl,rfl,bI (by simp only;rw[J];omega),Z,Y⟩,trivial⟩;by_cases e:k=(a+b) / 2
   ·subst e;rw[I]at D;injection D with D;subst D;exact u
   exact dK (cx R D I (by simp only at hk;omega)) u
  have u:eG (Part.name y) x=false:=by rw[<-hc];exact fJ u
  refine⟨(a,(a+b) / 2),_,aA.refl _ _,⟨by simp only;omega,by simp only;omega,L,fun k z hk D=>?_⟩,by simp only;omega,⟨rfl,rfl,rfl,rfl,rfl,bI J,trivial⟩,trivial⟩;by_cases e:k=(a+b) / 2
  ·subst e;rw[I]at D;injection D with D;subst D;exact u
  rw[cu];intro eX;rw[dK (cx R I D (by simp only at hk;omega)) eX]at u;cases u
 have e:a=b:=by omega
 subst e;have hb:=lJ V L O;apply iW<;>intro u<;>try simp only[zB]at u
 ·obtain⟨y,I⟩:=ax (l:=l) (i:=a) (by omega);refine⟨(yV y),(idx rfl I),_,_,(II y x),?_,trivial⟩;have hq:=cmp_eq y.name x;have N:dX Part.name l x=decide (Lib.compareBytes y.name.data.toList x.data.toList=0):=by
   by_cases e:y.name=x
   ·rw[nq (hq.2 e)];exact dB.2 ⟨y,aj I,e⟩
   rw[fJ (fun h=>e (hq.1 h))];exact uk R L I (O a y (aG _) I) e
  rw[hb,N];rfl
 refine⟨?_,trivial⟩;have N:dX Part.name l x=false:=by
  rw[cu];intro N;obtain⟨z,D,KY⟩:=dB.1 N;obtain⟨k,hk⟩:=ca.1 D;have:=L k z (by have:=(az.1 hk).1;omega) hk;rw[kQ KY]at this;cases this
 rw[hb,N];rfl
theorem rE(l:List bG)(x:ByteArray)(u:cM bG.name l)(D:l.length<=1000000000):ai C 52 [.pv (.sl (l.map vU)),.pv (str x)] (.p (i64 (jE bG.name l x))) []:=by
 refine fW hC Tryz.func52 rfl (by kernel_rfl) fun _=>?_;have hp:=kd (x:=x) u;refine⟨_,_,(KZ l x u D),iW ?_ ?_⟩<;>intro z
 ·refine⟨?_,trivial⟩;rw[hp,aa (by simp[z])];rfl
 refine⟨?_,trivial⟩;rw[hp,ae (by simpa using z)]
theorem zS(t:bG)(x:ByteArray)(u:cM eV.name t.pins)(D:t.pins.length<=1000000000):ai C 85 [.pv (.ag (vU t)),.pv (str x)] (.p (i64 (jE eV.name t.pins x))) []:=by
 refine fW hC Tryz.func85 rfl (by kernel_rfl) fun _=>?_;have hp:=kd (x:=x) u;refine⟨_,_,(K1 t.pins x u D),iW ?_ ?_⟩<;>intro z
 ·refine⟨?_,trivial⟩;rw[hp,aa (by simp[z])];rfl
 refine⟨?_,trivial⟩;rw[hp,ae (by simpa using z)]
theorem Gn(l:List Part)(x:ByteArray)(u:cM Part.name l)(D:l.length<=1000000000):ai C 84 [.pv (.sl (l.map yV)),.pv (str x)] (.p (i64 (jE Part.name l x))) []:=by
 refine fW hC Tryz.func84 rfl (by kernel_rfl) fun _=>?_;have hp:=kd (x:=x) u;refine⟨_,_,(IJ l x u D),iW ?_ ?_⟩<;>intro z
 ·refine⟨?_,trivial⟩;rw[hp,aa (by simp[z])];rfl
 refine⟨?_,trivial⟩;rw[hp,ae (by simpa using z)]
theorem aM{f:Nat->Int}{i n:Nat}{c:Int}(h:∀k,k<i->f k=0)(hn:i<n)(e:f i=c)(u:c≠0):bw f 0 n=c:=by
 rw[nT (by rw[e];exact u) (fun k _ hk=>h k hk) (ak _) (by omega),e]
theorem eQ{f:Nat->Int}{i:Nat}(h:∀k,k<i->f k=0)(e:f i=0):∀k,k<i+1->f k=0:=fun k hk=>by
 by_cases e':k=i
 ·rw[e'];exact e
 exact h k (by omega)
theorem kR{l:List α}{f:α->ByteArray}{i:Nat}{a b:α}(u:l[i]?=some a)(hb:l[i-1]?=some b)(z:0<i):cg (l.map f) i=(eG (f a) (f b)||decide (f a=f b)):=by
 simp only[cg,aD,u,hb,mZ];rw[nq z];rfl
theorem pV{l:List ByteArray}{i:Nat}(h:i=0):cg l i=false:=by
 subst h;unfold cg;split<;>simp
theorem xq{f:α->List PV}{n:Nat}{l:List α}(h:∀x,(f x).length=n):∀r∈l.map f,r.length=n:=fun r u=>by
 obtain⟨z,_,rfl⟩:=aZ.1 u;exact h z
def xr(a b:Int):Int:=if a=0 then b else a
theorem mr{a b:Int}(h:a=0):xr a b=b:=ae h
theorem fM{a b c:Int}(h:a=c)(u:c≠0):xr a b=c:=by rw[xr,aa (by rw[h];exact u),h]
def yW(l:List eV)(i:Nat):Int:=match l[i]? with
 | some x=>if gV x.name=true then (if gT x.kind 1 7=true then (if gT x.group 0 200=true then (if cg (l.map eV.name) i=true then 8 else 0) else 1) else 4) else 5
 | none=>0
def se(p q:eV):Bool:=decide (0<p.group)&&decide (q.group=p.group)&&!decide (q.kind=p.kind)
theorem aha{p q:eV}(u:0<p.group)(z:p.group=q.group)(D:¬p.kind=q.kind):se p q=true:=by
 have I:¬q.kind=p.kind:=fun e=>D e.symm;simp[se,u,z.symm,I]
theorem aea{p q:eV}(h:¬(0<p.group/\p.group=q.group/\¬p.kind=q.kind)):se p q=false:=by
 rw[cu];intro u;simp[se]at u;exact h ⟨u.1.1,u.1.2.symm,fun e=>u.2 e.symm⟩
def xt(l:List eV)(i:Nat):Int:=match l[i]? with
 | some x=>if (l.take i).any (se x)=true then 12 else 0
 | none=>0
def jd(l:List eV):Int:=if l.length=0 then 9 else if 200<l.length then 2 else xr (bw (yW l) 0 l.length) (bw (xt l) 0 l.length)
def zT(x:bG):Int:=if gV x.name=true then jd x.pins else 5
def nD(l:List bG)(i:Nat):Int:=match l[i]? with
 | some x=>xr (zT x) (if cg (l.map bG.name) i=true then 8 else 0)
 | none=>0
def eA(l:List bG):Int:=if 200<l.length then 2 else bw (nD l) 0 l.length
def Gp(l:List eV):Prop:=l.length<=1048576/\∀x∈l,bK x.name
def Gq(l:List bG):Prop:=l.length<=1048576/\∀x∈l,bK x.name/\Gp x.pins
theorem bK.le{s:ByteArray}(h:bK s):s.size<=9223372036854775807:=by unfold bK at h;omega
theorem Ug(q p:eV):ai C 137 [.pv (.ag (uj q)),.pv (.ip (uj p))] (.p (bool (se p q))) []:=by
 refine fW hC Tryz.func137 rfl (by kernel_rfl) fun _=>?_;apply iW<;>intro u
 ·apply iW<;>intro z
  ·refine⟨?_,trivial⟩;simp[bool,se,u,z]
  refine⟨?_,trivial⟩;simp[bool,se,u,z]
 refine⟨?_,trivial⟩;simp[bool,se,u]
theorem IK(l:List eV)(hN:l.length<=140737488355328)(p:eV):ai C 176 [.pv (.sl (l.map uj)),.pv (.fn 137 [.ip (uj p)])] (.p (i64 (eM (se p) l 0))) []:=by
 refine fW hC Tryz.func176 rfl (by kernel_rfl) fun _=>?_;have I:=an l uj;refine aP (fun i:Nat=>i<=l.length/\∀z∈l.take i,se p z=false) (fun i=>[(0,.p (.sl (l.map uj))),(1,.p (.fn 137 [.ip (uj p)])),(7,.p (i64 (l.map uj).length)),(8,.p (i64 i))]) (fun _=>[]) (fun i=>l.length-i) 0 _ (aA.refl _ _) ⟨ak _,by simp⟩ ⟨Z,Z,Z,Z,Y⟩ trivial fun i hi t h=>?_;apply iW<;>intro J
 ·rw[I]at J;obtain⟨r,D⟩:=ax (l:=l) (i:=i) (by omega);refine⟨(uj r),(idx rfl D),_,_,(Ug r p),iW ?_ ?_⟩<;>intro u
  ·refine⟨?_,trivial⟩;rw[hD D u hi.2,fX]
  exact⟨wO (by omega),(i+1),_,aA.refl _ _,⟨by omega,iu D u hi.2⟩,by omega,⟨Z,Z,Z,Z,Y⟩,trivial⟩
 rw[I]at J;refine⟨?_,trivial⟩;have u:=hi.2;rw[kG (by omega)]at u;rw[cT u];rfl
theorem Cb(l:List eV)(u:l.length<=140737488355328)(p:eV):ai C 136 [.pv (.sl (l.map uj)),.pv (.fn 137 [.ip (uj p)])] (.p (bool (l.any (se p)))) []:=by
 refine fW hC Tryz.func136 rfl (by kernel_rfl) fun _=>?_;refine⟨_,_,(IK l u p),?_,trivial⟩;rw[<-eZ _ l 0];rfl
theorem Ap(l:List eV)(V:Gp l):ai C 79 [.pv (.sl (l.map uj))] (.p (i64 (jd l))) []:=by
 refine fW hC Tryz.func79 rfl (by kernel_rfl) fun _=>?_;have N:=an l uj;apply iW<;>intro J
 ·refine⟨?_,trivial⟩;rw[jd,ae (by have:(((l.map uj).length:Nat):Int)=0:=J;omega)];rfl
 have J:¬l.length=0:=fun e=>J (by show (((l.map uj).length:Nat):Int)=0;omega);apply iW<;>intro g1
 ·refine⟨?_,trivial⟩;rw[jd,aa J,ae (by omega)];rfl
 rw[jd,aa J,aa (by omega)];refine aP (fun i:Nat=>i<=l.length/\∀k,k<i->yW l k=0) (fun i=>[(0,.p (.sl (l.map uj))),(13,.p (.sl (l.map uj))),(14,.p (i64 l.length)),(15,.p (i64 i))]) (fun _=>[]) (fun i=>l.length-i) 0 _ (aA.refl _ _) ⟨ak _,fun k h=>by omega⟩ ⟨rfl,rfl,ar (fun n:Nat=>AV.p (i64 n)) N,Z,Y⟩ trivial fun i hi t h=>?_;apply iW<;>intro W
 ·obtain⟨x,D⟩:=ax (l:=l) (i:=i) (by omega);have u:yW l i=(if gV x.name=true then (if gT x.kind 1 7=true then (if gT x.group 0 200=true then (if cg (l.map eV.name) i=true then 8 else 0) else 1) else 4) else 5):=by simp only[yW,D]
  refine⟨(uj x),(idx rfl D),?_⟩;obtain so:=V.2 x (aj D);refine⟨_,_,(eN x.name so.le),iW ?_ ?_⟩<;>intro O
  ·refine⟨?_,trivial⟩;rw[aa (by simp[O])]at u;rw[aM hi.2 (by omega) u (by decide)];rfl
  rw[ae (by simpa using O)]at u;apply iW<;>intro a2
  ·refine⟨?_,trivial⟩;rw[aa (by simp[gT];omega)]at u;rw[aM hi.2 (by omega) u (by decide)];rfl
  apply iW<;>intro a3
  ·refine⟨?_,trivial⟩;rw[aa (by simp[gT];omega)]at u;rw[aM hi.2 (by omega) u (by decide)];rfl
  rw[ae (by rw[cd];omega)]at u;apply iW<;>intro a4
  ·refine⟨?_,trivial⟩;rw[aa (by simp[gT];omega)]at u;rw[aM hi.2 (by omega) u (by decide)];rfl
  apply iW<;>intro a5
  ·refine⟨?_,trivial⟩;rw[aa (by simp[gT];omega)]at u;rw[aM hi.2 (by omega) u (by decide)];rfl
  rw[ae (by rw[cd];omega)]at u;apply iW<;>intro o1
  ·obtain⟨z,R⟩:=ax (l:=l) (i:=i-1) (by omega);rw[kR (f:=eV.name) D R (by omega)]at u;refine⟨wO (by omega),(uj z),(idx (show (i:Int)-1=((i-1:Nat):Int) by omega) R),iW ?_ ?_⟩<;>intro I
   ·refine⟨?_,trivial⟩;have I:(eG (eV.name x) (eV.name z)||decide (eV.name x=eV.name z))=true:=by simpa [eG] using I
    rw[I,ae rfl]at u;rw[aM hi.2 (by omega) u (by decide)];rfl
   have I:(eG (eV.name x) (eV.name z)||decide (eV.name x=eV.name z))=false:=by simpa [eG] using I
   rw[I,aa (by decide)]at u;exact⟨wO (by omega),(i+1),_,aA.refl _ _,⟨by omega,eQ hi.2 u⟩,by omega,⟨Z,Z,Z,Z,Y⟩,trivial⟩
  have h0:i=0:=by omega
  rw[pV h0,aa (by decide)]at u;exact⟨wO (by omega),(i+1),_,aA.refl _ _,⟨by omega,eQ hi.2 u⟩,by omega,⟨Z,Z,Z,Z,Y⟩,trivial⟩
 skip;have L:bw (yW l) 0 l.length=0:=bR fun k _ hk=>hi.2 k (by omega);rw[mr L];refine aP (fun i:Nat=>i<=l.length/\∀k,k<i->xt l k=0) (fun i=>[(0,.p (.sl (l.map uj))),(58,.p (.sl (l.map uj))),(59,.p (i64 l.length)),(60,.p (i64 i))]) (fun _=>[]) (fun i=>l.length-i) 0 _ (aA.refl _ _) ⟨ak _,fun k h=>by omega⟩ ⟨rfl,rfl,ar (fun n:Nat=>AV.p (i64 n)) N,Z,Y⟩ trivial fun i hi t h=>?_;apply iW<;>intro W
 ·obtain⟨x,D⟩:=ax (l:=l) (i:=i) (by omega);have u:xt l i=(if (l.take i).any (se x)=true then 12 else 0):=by simp only[xt,D]
  refine⟨(uj x),(idx rfl D),?_⟩;have et:(l.map uj).take i=(l.take i).map uj:=cS.symm;refine⟨⟨by omega,by omega,by omega,xq fun _=>rfl⟩,?_⟩;have jx:=Cb (l.take i) (by rw[cE];omega) x;rw[<-et]at jx;refine⟨_,_,jx,iW ?_ ?_⟩<;>intro U
  ·refine⟨?_,trivial⟩;rw[ae U]at u;rw[aM hi.2 (by omega) u (by decide)];rfl
  rw[aa (by simp[U])]at u;exact⟨wO (by omega),(i+1),_,aA.refl _ _,⟨by omega,eQ hi.2 u⟩,by omega,⟨Z,Z,Z,Z,Y⟩,trivial⟩
 refine⟨?_,trivial⟩;have L:bw (xt l) 0 l.length=0:=bR fun k _ hk=>hi.2 k (by omega);rw[L];rfl
theorem yX(l:List bG)(R:Gq l):ai C 38 [.pv (.sl (l.map vU))] (.p (i64 (eA l))) []:=by
 refine fW hC Tryz.func38 rfl (by kernel_rfl) fun _=>?_;have U:=an l vU;apply iW<;>intro g1
 ·refine⟨?_,trivial⟩;rw[eA,ae (by omega)];rfl
 rw[eA,aa (by omega)];refine aP (fun i:Nat=>i<=l.length/\∀k,k<i->nD l k=0) (fun i=>[(0,.p (.sl (l.map vU))),(9,.p (.sl (l.map vU))),(10,.p (i64 l.length)),(11,.p (i64 i))]) (fun _=>[]) (fun i=>l.length-i) 0 _ (aA.refl _ _) ⟨ak _,fun k h=>by omega⟩ ⟨rfl,rfl,ar (fun n:Nat=>AV.p (i64 n)) U,Z,Y⟩ trivial fun i hi t h=>?_;apply iW<;>intro h1
 ·obtain⟨x,J⟩:=ax (l:=l) (i:=i) (by omega);have u:nD l i=xr (zT x) (if cg (l.map bG.name) i=true then 8 else 0):=by simp only[nD,J]
  refine⟨(vU x),(idx rfl J),?_⟩;obtain⟨V,sp⟩:=R.2 x (aj J);refine⟨_,_,(eN x.name V.le),iW ?_ ?_⟩<;>intro L
  ·refine⟨?_,trivial⟩;rw[fM (c:=5) (by rw[zT,aa (by simp[L])]) (by decide)]at u;rw[aM hi.2 (by omega) u (by decide)];rfl
  have N:zT x=jd x.pins:=by rw[zT,ae (by simpa using L)]
  refine⟨_,_,(Ap x.pins sp),iW ?_ ?_⟩<;>intro D
  ·have D:jd x.pins≠0:=by simpa using D
   rw[fM N D]at u;refine⟨?_,trivial⟩;rw[aM hi.2 (by omega) u D]
  have D:jd x.pins=0:=by simpa using D
  rw[mr (by rw[N,D])]at u;apply iW<;>intro o1
  ·obtain⟨z,O⟩:=ax (l:=l) (i:=i-1) (by omega);rw[kR (f:=bG.name) J O (by omega)]at u;refine⟨wO (by omega),(vU z),(idx (show (i:Int)-1=((i-1:Nat):Int) by omega) O),iW ?_ ?_⟩<;>intro I
   ·refine⟨?_,trivial⟩;have I:(eG (bG.name x) (bG.name z)||decide (bG.name x=bG.name z))=true:=by simpa [eG] using I
    rw[I,ae rfl]at u;rw[aM hi.2 (by omega) u (by decide)];rfl
   have I:(eG (bG.name x) (bG.name z)||decide (bG.name x=bG.name z))=false:=by simpa [eG] using I
   rw[I,aa (by decide)]at u;exact⟨wO (by omega),(i+1),_,aA.refl _ _,⟨by omega,eQ hi.2 u⟩,by omega,⟨Z,Z,Z,Z,Y⟩,trivial⟩
  have W:i=0:=by omega
  rw[pV W,aa (by decide)]at u;exact⟨wO (by omega),(i+1),_,aA.refl _ _,⟨by omega,eQ hi.2 u⟩,by omega,⟨Z,Z,Z,Z,Y⟩,trivial⟩
 refine⟨?_,trivial⟩;have z0:bw (nD l) 0 l.length=0:=bR fun k _ hk=>hi.2 k (by omega);rw[z0];rfl
theorem aeb(y:bG)(so:bK y.name)(sp:Gp y.pins):ai C 53 [.pv (.ag (vU y))] (.p (i64 (zT y))) []:=by
 refine fW hC Tryz.func53 rfl (by kernel_rfl) fun _=>?_;have W:=an y.pins uj;refine⟨_,_,(abG y.name so.le),iW ?_ ?_⟩<;>intro g0
 ·refine⟨?_,trivial⟩;rw[zT,aa (by simp[g0])];rfl
 rw[zT,ae (by simpa using g0)];apply iW<;>intro L
 ·refine⟨?_,trivial⟩;rw[jd,ae (by have:(((y.pins.map uj).length:Nat):Int)=0:=L;omega)];rfl
 have L:¬y.pins.length=0:=fun e=>L (by show (((y.pins.map uj).length:Nat):Int)=0;omega);apply iW<;>intro g2
 ·refine⟨?_,trivial⟩;rw[jd,aa L,ae (by omega)];rfl
 rw[jd,aa L,aa (by omega)];refine aP (fun i:Nat=>i<=y.pins.length/\∀k,k<i->yW y.pins k=0) (fun i=>[(1,.bx 1 0),(25,.p (.sl (y.pins.map uj))),(26,.p (i64 y.pins.length)),(27,.p (i64 i))]) (fun _=>[(1,.box [.p (str y.name),.p (.sl (y.pins.map uj))])]) (fun i=>y.pins.length-i) 0 _ (aA.refl _ _) ⟨ak _,fun k h=>by omega⟩ ⟨rfl,rfl,ar (fun n:Nat=>AV.p (i64 n)) W,Z,Y⟩ ⟨Z,Y⟩ fun i hi t h=>?_;apply iW<;>intro h1
 ·obtain⟨x,D⟩:=ax (l:=y.pins) (i:=i) (by omega);have u:yW y.pins i=(if gV x.name=true then (if gT x.kind 1 7=true then (if gT x.group 0 200=true then (if cg (y.pins.map eV.name) i=true then 8 else 0) else 1) else 4) else 5):=by simp only[yW,D]
  refine⟨(uj x),(idx rfl D),?_⟩;obtain O:=sp.2 x (aj D);refine⟨_,_,(abG x.name O.le),iW ?_ ?_⟩<;>intro a1
  ·refine⟨?_,trivial⟩;rw[aa (by simp[a1])]at u;rw[aM hi.2 (by omega) u (by decide)];rfl
  rw[ae (by simpa using a1)]at u;refine⟨_,_,(abF x.kind 1 7),iW ?_ ?_⟩<;>intro a2
  ·refine⟨?_,trivial⟩;rw[aa (by simp[a2])]at u;rw[aM hi.2 (by omega) u (by decide)];rfl
  rw[ae (by simpa using a2)]at u;refine⟨_,_,(abF x.group 0 200),iW ?_ ?_⟩<;>intro a3
  ·refine⟨?_,trivial⟩;rw[aa (by simp[a3])]at u;rw[aM hi.2 (by omega) u (by decide)];rfl
  rw[ae (by simpa using a3)]at u;apply iW<;>intro o1
  ·obtain⟨z,I⟩:=ax (l:=y.pins) (i:=i-1) (by omega);rw[kR (f:=eV.name) D I (by omega)]at u;refine⟨wO (by omega),(uj z),(idx (show (i:Int)-1=((i-1:Nat):Int) by omega) I),iW ?_ ?_⟩<;>intro J
   ·refine⟨?_,trivial⟩;have J:(eG (eV.name x) (eV.name z)||decide (eV.name x=eV.name z))=true:=by simpa [eG] using J
    rw[J,ae rfl]at u;rw[aM hi.2 (by omega) u (by decide)];rfl
   have J:(eG (eV.name x) (eV.name z)||decide (eV.name x=eV.name z))=false:=by simpa [eG] using J
   rw[J,aa (by decide)]at u;exact⟨wO (by omega),(i+1),_,aA.refl _ _,⟨by omega,eQ hi.2 u⟩,by omega,⟨Z,Z,Z,Z,Y⟩,⟨Z,Y⟩⟩
  have h0:i=0:=by omega
  rw[pV h0,aa (by decide)]at u;exact⟨wO (by omega),(i+1),_,aA.refl _ _,⟨by omega,eQ hi.2 u⟩,by omega,⟨Z,Z,Z,Z,Y⟩,⟨Z,Y⟩⟩
 skip;have R:bw (yW y.pins) 0 y.pins.length=0:=bR fun k _ hk=>hi.2 k (by omega);rw[mr R];refine aP (fun i:Nat=>i<=y.pins.length/\∀k,k<i->xt y.pins k=0) (fun i=>[(1,.bx 1 0),(64,.p (.sl (y.pins.map uj))),(65,.p (i64 y.pins.length)),(66,.p (i64 i))]) (fun _=>[(1,.box [.p (str y.name),.p (.sl (y.pins.map uj))])]) (fun i=>y.pins.length-i) 0 _ (aA.refl _ _) ⟨ak _,fun k h=>by omega⟩ ⟨rfl,rfl,ar (fun n:Nat=>AV.p (i64 n)) W,Z,Y⟩ ⟨Z,Y⟩ fun i hi t h=>?_;apply iW<;>intro h1
 ·obtain⟨x,D⟩:=ax (l:=y.pins) (i:=i) (by omega);have u:xt y.pins i=(if (y.pins.take i).any (se x)=true then 12 else 0):=by simp only[xt,D]
  refine⟨(uj x),(idx rfl D),?_⟩;have N:(y.pins.map uj).take i=(y.pins.take i).map uj:=cS.symm;have el:((y.pins.map uj).take i).length=i:=by rw[cE];omega
  refine⟨⟨by omega,by omega,by omega,xq fun _=>rfl⟩,?_⟩;refine aP (fun j:Nat=>j<=i/\∀z∈(y.pins.take i).take j,se x z=false) (fun j=>[(1,.bx 1 0),(64,.p (.sl (y.pins.map uj))),(65,.p (i64 y.pins.length)),(66,.p (i64 i)),(6,.bx 6 0),(74,.p (.sl ((y.pins.map uj).take i))),(75,.p (i64 i)),(76,.p (i64 j))]) (fun _=>[(1,.box [.p (str y.name),.p (.sl (y.pins.map uj))]),(6,.box ((uj x).map .p))]) (fun j=>i-j) 0 _ (aA.refl _ _) ⟨ak _,by simp⟩ ⟨rfl,rfl,rfl,rfl,rfl,rfl,ar (fun n:Nat=>AV.p (i64 n)) el,Z,Y⟩ ⟨Z,Z,Y⟩ fun j hj t h=>?_;apply iW<;>intro b1
  ·obtain⟨q,U⟩:=ax (l:=y.pins.take i) (i:=j) (by rw[cE];omega);have hb:se x q=true->bw (xt y.pins) 0 y.pins.length=12:=fun V=>by
    rw[ae (wy.2 ⟨q,aj U,V⟩)]at u;exact aM hi.2 (by omega) u (by decide)
   rw[N];refine⟨(uj q),(idx rfl U),?_⟩;have go:se x q=false->∀z∈(y.pins.take i).take (j+1),se x z=false:=fun V=>iu U (by simp[V]) hj.2;apply iW<;>intro c1
   ·apply iW<;>intro c2
    ·apply iW<;>intro c3
     ·refine⟨?_,trivial⟩;rw[hb (aha c1 c2 c3)];rfl
     rw[<-N];exact⟨wO (by omega),(j+1),_,aA.refl _ _,⟨by omega,go (aea fun h=>h.2.2 c3)⟩,by omega,⟨Z,Z,Z,Z,Z,Z,Z,Z,Y⟩,⟨Z,Z,Y⟩⟩
    rw[<-N];exact⟨wO (by omega),(j+1),_,aA.refl _ _,⟨by omega,go (aea fun h=>c2 h.2.1)⟩,by omega,⟨Z,Z,Z,Z,Z,Z,Z,Z,Y⟩,⟨Z,Z,Y⟩⟩
   rw[<-N];exact⟨wO (by omega),(j+1),_,aA.refl _ _,⟨by omega,go (aea fun h=>c1 h.1)⟩,by omega,⟨Z,Z,Z,Z,Z,Z,Z,Z,Y⟩,⟨Z,Z,Y⟩⟩
  have ej:j=i:=by omega
  have I:(y.pins.take i).any (se x)=false:=by
   rw[Bc];intro z I;have:=hj.2 z (by rw[ej,kG (by rw[cE];omega)];exact I);simp[this]
  rw[aa (by simp[I])]at u;exact⟨wO (by omega),(i+1),_,aA.refl _ _,⟨by omega,eQ hi.2 u⟩,by omega,⟨Z,Z,Z,Z,Y⟩,⟨Z,Y⟩⟩
 refine⟨?_,trivial⟩;have R:bw (xt y.pins) 0 y.pins.length=0:=bR fun k _ hk=>hi.2 k (by omega);rw[R];rfl
theorem adR(l:List bG)(N:Gq l):ai C 19 [.pv (.sl (l.map vU))] (.p (i64 (eA l))) []:=by
 refine fW hC Tryz.func19 rfl (by kernel_rfl) fun _=>?_;have O:=an l vU;apply iW<;>intro g1
 ·refine⟨?_,trivial⟩;rw[eA,ae (by omega)];rfl
 rw[eA,aa (by omega)];refine aP (fun i:Nat=>i<=l.length/\∀k,k<i->nD l k=0) (fun i=>[(0,.p (.sl (l.map vU))),(9,.p (.sl (l.map vU))),(10,.p (i64 l.length)),(11,.p (i64 i))]) (fun _=>[]) (fun i=>l.length-i) 0 _ (aA.refl _ _) ⟨ak _,fun k h=>by omega⟩ ⟨rfl,rfl,ar (fun n:Nat=>AV.p (i64 n)) O,Z,Y⟩ trivial fun i hi t h=>?_;apply iW<;>intro h1
 ·obtain⟨x,J⟩:=ax (l:=l) (i:=i) (by omega);have u:nD l i=xr (zT x) (if cg (l.map bG.name) i=true then 8 else 0):=by simp only[nD,J]
  refine⟨(vU x),(idx rfl J),?_⟩;obtain⟨R,sp⟩:=N.2 x (aj J);refine⟨_,_,(aeb x R sp),iW ?_ ?_⟩<;>intro D
  ·have D:zT x≠0:=by simpa using D
   rw[fM rfl D]at u;refine⟨?_,trivial⟩;rw[aM hi.2 (by omega) u D]
  have D:zT x=0:=by simpa using D
  rw[mr D]at u;apply iW<;>intro o1
  ·obtain⟨z,L⟩:=ax (l:=l) (i:=i-1) (by omega);rw[kR (f:=bG.name) J L (by omega)]at u;refine⟨wO (by omega),(vU z),(idx (show (i:Int)-1=((i-1:Nat):Int) by omega) L),iW ?_ ?_⟩<;>intro I
   ·refine⟨?_,trivial⟩;have I:(eG (bG.name x) (bG.name z)||decide (bG.name x=bG.name z))=true:=by simpa [eG] using I
    rw[I,ae rfl]at u;rw[aM hi.2 (by omega) u (by decide)];rfl
   have I:(eG (bG.name x) (bG.name z)||decide (bG.name x=bG.name z))=false:=by simpa [eG] using I
   rw[I,aa (by decide)]at u;exact⟨wO (by omega),(i+1),_,aA.refl _ _,⟨by omega,eQ hi.2 u⟩,by omega,⟨Z,Z,Z,Z,Y⟩,trivial⟩
  have U:i=0:=by omega
  rw[pV U,aa (by decide)]at u;exact⟨wO (by omega),(i+1),_,aA.refl _ _,⟨by omega,eQ hi.2 u⟩,by omega,⟨Z,Z,Z,Z,Y⟩,trivial⟩
 refine⟨?_,trivial⟩;have V:bw (nD l) 0 l.length=0:=bR fun k _ hk=>hi.2 k (by omega);rw[V];rfl
structure Net where
 name:ByteArray
 pins:List HI
 ports:List ByteArray
structure DP where
 parts:List Part
 nets:List Net
def Uh(n:Net):List PV:=[str n.name,.sl (n.pins.map Gm),strs n.ports]
def S9(x:DP):List PV:=[.sl (x.parts.map yV),.sl (x.nets.map Uh)]
theorem cP{f:Nat->Int}:∀{n i:Nat},bw f i n=0->∀k,i<=k->k<i+n->f k=0
 | 0,i,_,k,h1,h2=>by omega
 | n+1,i,h,k,h1,h2=>by
  rw[bw]at h;split at h
  ·rename_i u;by_cases e:k=i
   ·rw[e];exact u
   exact cP h k (by omega) (by omega)
  rename_i u;exact absurd h u
theorem dp{a b:Int}(h:xr a b=0):a=0/\b=0:=by
 unfold xr at h;split at h
 ·rename_i u;exact⟨u,h⟩
 rename_i u;exact absurd h u
theorem ED{a b:ByteArray}(h:eG a b=false)(J:¬a=b):eG b a=true:=by
 rw[rB];have z:¬a.data.toList<b.data.toList:=fun e=>by rw[rB.2 e]at h;cases h
 have D:¬a.data.toList=b.data.toList:=fun e=>J ((cmp_eq a b).1 ((acw _ _).2.2 e));rcases List.le_total a.data.toList b.data.toList with I | I
 ·exact absurd (List.le_antisymm I (List.not_lt.1 z)) D
 rcases Classical.em (b.data.toList<a.data.toList) with u | u
 ·exact u
 exact absurd (List.le_antisymm (List.not_lt.1 u) (List.not_lt.1 z)) D
theorem ke{f:α->ByteArray}{l:List α}(h:∀i,i<l.length->cg (l.map f) i=false):cM f l:=by
 unfold cM;rw[FZ];intro i j hi u z;obtain⟨d,rfl⟩:∃d,j=i+1+d:=⟨j-i-1,by omega⟩;have step:∀k (hk:k+1<l.length),eG (f l[k]) (f l[k+1])=true:=fun k hk=>by
  have:=h (k+1) hk;rw[kR (oX hk) (oX (show k+1-1<l.length by omega)) (by omega),wj]at this;exact ED this.1 (by simpa using this.2)
 clear z
 induction d with
 | zero=>exact step i u
 | succ d ih=>exact dK (ih (by omega) step) (step (i+1+d) u)
structure qq(t:List bG):Prop where
 len:t.length<=200
 ord:cM bG.name t
 pins:∀x∈t,cM eV.name x.pins/\x.pins.length<=200
theorem Cc{t:List bG}(h:eA t=0):qq t:=by
 unfold eA at h;split at h
 ·cases h
 have key:=fun k hk=>dp (cP h k (ak _) (by rw[fX];exact hk) |> (fun e=>by
  obtain⟨x,D⟩:=ax (l:=t) (i:=k) hk;exact e:nD t k=0->nD t k=0) |> (fun e=>by
  obtain⟨x,D⟩:=ax (l:=t) (i:=k) hk;simp only[nD,D]at e;exact (by rw[show t[k]=x from Option.some.inj ((oX hk).symm.trans D)];exact e:xr (zT t[k]) (if cg (t.map bG.name) k=true then 8 else 0)=0)))
 refine⟨by omega,ke fun i hi=>?_,fun x D=>?_⟩
 ·have:=(key i hi).2;cases e:cg (t.map bG.name) i with
  | false=>rfl
  | true=>rw[e]at this;cases this
 obtain⟨k,hk⟩:=ca.1 D;have I:=(az.1 hk).1;have u:=(key k I).1;rw[show t[k]=x from Option.some.inj ((oX I).symm.trans hk),zT]at u;split at u
 ·unfold jd at u;split at u
  ·cases u
  split at u
  ·cases u
  refine⟨ke fun i hi=>?_,by omega⟩;have z:=cP (dp u).1 i (ak _) (by omega);obtain⟨y,J⟩:=ax (l:=x.pins) (i:=i) hi;simp only[yW,J]at z;split at z
  ·split at z
   ·split at z
    ·cases e:cg (x.pins.map eV.name) i with
     | false=>rfl
     | true=>rw[e]at z;cases z
    cases z
   cases z
  cases z
 cases u
def um(t:List bG)(l:List Part)(i:Nat):Int:=match l[i]? with
 | some x=>if si x.name=true then (if dX bG.name t x.type=true then (if cg (l.map Part.name) i=true then 8 else 0) else 9) else 5
 | none=>0
def iI(t:List bG)(l:List Part):Int:=if 1000<l.length then 2 else bw (um t l) 0 l.length
structure uo(t:List bG)(l:List Part):Prop where
 len:l.length<=1000
 ord:cM Part.name l
 typ:∀x∈l,dX bG.name t x.type=true
theorem Cd{t:List bG}{l:List Part}(h:iI t l=0):uo t l:=by
 unfold iI at h;split at h
 ·cases h
 have key:∀i x,l[i]?=some x->dX bG.name t x.type=true/\cg (l.map Part.name) i=false:=fun i x z=>by
  have u:=cP h i (ak _) (by rw[fX];exact (az.1 z).1);simp only[um,z]at u;split at u
  ·split at u
   ·rename_i D;cases e:cg (l.map Part.name) i with
    | false=>exact⟨D,rfl⟩
    | true=>rw[e]at u;cases u
   cases u
  cases u
 refine⟨by omega,ke fun i hi=>(key i _ (oX hi)).2,fun x z=>?_⟩;obtain⟨k,hk⟩:=ca.1 z;exact (key k x hk).1
def rF(t:List bG)(l:List Part)(p:HI):Bool:=decide (0<=jE Part.name l p.part)&&(match l[(jE Part.name l p.part).toNat]? with
 | some q=>(match t[(jE bG.name t q.type).toNat]? with
  | some y=>decide (0<=jE eV.name y.pins p.pin)
  | none=>false)
 | none=>false)
def Yq(p q:HI):Bool:=eG p.part q.part||(decide (p.part=q.part)&&eG p.pin q.pin)
def Rq(p q:HI):Int:=if Lib.compareBytes p.part.data.toList q.part.data.toList=0 then Lib.compareBytes p.pin.data.toList q.pin.data.toList else Lib.compareBytes p.part.data.toList q.part.data.toList
theorem Rr(a b:ByteArray):(Lib.compareBytes a.data.toList b.data.toList<=0)↔eG b a=false:=by
 constructor
 ·intro h;rw[cu];intro u;rcases Int.lt_or_eq_of_le h with z | z
  ·have D:eG a b=true:=by rw[<-sW];exact nq z
   have:=dK D u;rw[iH]at this;cases this
  rw[(cmp_eq a b).1 z,iH]at u;cases u
 intro h;by_cases e:a=b
 ·exact Int.le_of_eq ((cmp_eq a b).2 e)
 have D:=ED h (fun e'=>e e'.symm);have:=(sW a b).trans D;have:=iY this;omega
theorem Ui(p q:HI):(Rq p q<=0)↔Yq q p=false:=by
 unfold Rq Yq;by_cases e:p.part=q.part
 ·rw[ae ((cmp_eq _ _).2 e),Rr,e,iH];simp
 rw[aa (fun h=>e ((cmp_eq _ _).1 h)),Rr,fJ (fun h=>e h.symm)];simp
def gN(l:List Net)(p:HI):Bool:=l.any fun n=>n.pins.any fun q=>decide (q=p)
def Ce(l:List HI)(k:Nat):Bool:=match l[k]?,l[k-1]? with
 | some a,some b=>decide (0<k)&&!Yq b a
 | _,_=>false
def Gr(t:List bG)(parts:List Part)(seen:HI->Bool)(l:List HI)(k:Nat):Int:=match l[k]? with
 | some p=>if rF t parts p=true then (if Ce l k=true then 8 else if seen p=true then 7 else 0) else 9
 | none=>0
def fN(t:List bG)(parts:List Part)(seen:HI->Bool)(l:List HI):Int:=if 500<l.length then 2 else bw (Gr t parts seen l) 0 l.length
theorem ZU{l:List HI}{i:Nat}{a b:HI}(u:l[i]?=some a)(hb:l[i-1]?=some b)(z:0<i):Ce l i=!Yq b a:=by
 simp only[Ce,u,hb];rw[nq z];rfl
theorem acP{l:List HI}{i:Nat}(h:i=0):Ce l i=false:=by
 subst h;unfold Ce;split<;>simp
theorem adB(l:List bG)(x:ByteArray)(hN:l.length<=140737488355328):ai C 55 [.pv (.sl (l.map vU)),.pv (str x)] (.p (i64 (jE bG.name l x))) []:=by
 refine fW hC Tryz.func55 rfl (by kernel_rfl) fun _=>?_;have I:=an l vU;refine aP (fun i:Nat=>i<=l.length/\∀z∈l.take i,decide (z.name=x)=false) (fun i=>[(1,.p (str x)),(7,.p (.sl (l.map vU))),(8,.p (i64 (l.map vU).length)),(9,.p (i64 i))]) (fun _=>[]) (fun i=>l.length-i) 0 _ (aA.refl _ _) ⟨ak _,by simp⟩ ⟨Z,Z,Z,Z,Y⟩ trivial fun i hi t h=>?_;apply iW<;>intro J
 ·rw[I]at J;obtain⟨r,D⟩:=ax (l:=l) (i:=i) (by omega);refine⟨(vU r),(idx rfl D),iW ?_ ?_⟩<;>intro u
  ·refine⟨?_,trivial⟩;rw[jE,hD (p:=fun y=>decide (bG.name y=x)) D (nq u) hi.2,fX]
  exact⟨wO (by omega),(i+1),_,aA.refl _ _,⟨by omega,iu (p:=fun y=>decide (bG.name y=x)) D (fJ u) hi.2⟩,by omega,⟨Z,Z,Z,Z,Y⟩,trivial⟩
 rw[I]at J;refine⟨?_,trivial⟩;have u:=hi.2;rw[kG (by omega)]at u;rw[jE,cT (p:=fun y=>decide (bG.name y=x)) u];rfl
theorem afD(l:List Part)(x:ByteArray)(hN:l.length<=140737488355328):ai C 112 [.pv (.sl (l.map yV)),.pv (str x)] (.p (i64 (jE Part.name l x))) []:=by
 refine fW hC Tryz.func112 rfl (by kernel_rfl) fun _=>?_;have I:=an l yV;refine aP (fun i:Nat=>i<=l.length/\∀z∈l.take i,decide (z.name=x)=false) (fun i=>[(1,.p (str x)),(7,.p (.sl (l.map yV))),(8,.p (i64 (l.map yV).length)),(9,.p (i64 i))]) (fun _=>[]) (fun i=>l.length-i) 0 _ (aA.refl _ _) ⟨ak _,by simp⟩ ⟨Z,Z,Z,Z,Y⟩ trivial fun i hi t h=>?_;apply iW<;>intro J
 ·rw[I]at J;obtain⟨r,D⟩:=ax (l:=l) (i:=i) (by omega);refine⟨(yV r),(idx rfl D),iW ?_ ?_⟩<;>intro u
  ·refine⟨?_,trivial⟩;rw[jE,hD (p:=fun y=>decide (Part.name y=x)) D (nq u) hi.2,fX]
  exact⟨wO (by omega),(i+1),_,aA.refl _ _,⟨by omega,iu (p:=fun y=>decide (Part.name y=x)) D (fJ u) hi.2⟩,by omega,⟨Z,Z,Z,Z,Y⟩,trivial⟩
 rw[I]at J;refine⟨?_,trivial⟩;have u:=hi.2;rw[kG (by omega)]at u;rw[jE,cT (p:=fun y=>decide (Part.name y=x)) u];rfl
theorem ago(y:bG)(x:ByteArray)(hN:y.pins.length<=140737488355328):ai C 113 [.pv (.ag (vU y)),.pv (str x)] (.p (i64 (jE eV.name y.pins x))) []:=by
 refine fW hC Tryz.func113 rfl (by kernel_rfl) fun _=>?_;have I:=an y.pins uj;refine aP (fun i:Nat=>i<=y.pins.length/\∀z∈y.pins.take i,decide (z.name=x)=false) (fun i=>[(1,.p (str x)),(8,.p (.sl (y.pins.map uj))),(9,.p (i64 (y.pins.map uj).length)),(10,.p (i64 i))]) (fun _=>[]) (fun i=>y.pins.length-i) 0 _ (aA.refl _ _) ⟨ak _,by simp⟩ ⟨Z,Z,Z,Z,Y⟩ trivial fun i hi t h=>?_;apply iW<;>intro J
 ·rw[I]at J;obtain⟨r,D⟩:=ax (l:=y.pins) (i:=i) (by omega);refine⟨(uj r),(idx rfl D),iW ?_ ?_⟩<;>intro u
  ·refine⟨?_,trivial⟩;rw[jE,hD (p:=fun y=>decide (eV.name y=x)) D (nq u) hi.2,fX]
  exact⟨wO (by omega),(i+1),_,aA.refl _ _,⟨by omega,iu (p:=fun y=>decide (eV.name y=x)) D (fJ u) hi.2⟩,by omega,⟨Z,Z,Z,Z,Y⟩,trivial⟩
 rw[I]at J;refine⟨?_,trivial⟩;have u:=hi.2;rw[kG (by omega)]at u;rw[jE,cT (p:=fun y=>decide (eV.name y=x)) u];rfl
theorem Gs(t:List bG)(l:List Part)(p:HI)(u:qq t)(hp:uo t l):ai C 43 [.pv (.sl (t.map vU)),.pv (.sl (l.map yV)),.pv (.ag (Gm p))] (.p (bool (rF t l p))) []:=by
 refine fW hC Tryz.func43 rfl (by kernel_rfl) fun _=>?_;have hl:=hp.len;have Hd:=u.len;refine⟨_,_,(Gn l p.part hp.ord (by omega)),iW ?_ ?_⟩<;>intro z
 ·obtain⟨k,q,e1,hk,hq⟩:=xp z;have I:=hp.typ q (aj hk);have J:0<=jE bG.name t q.type:=by
   have:=oz (f:=bG.name) (l:=t) (x:=q.type);rw[I]at this;have:=of_decide_eq_false this;omega
  obtain⟨m,y,e2,D,hy⟩:=xp J;have L:=u.pins y (aj D);have N:rF t l p=decide (0<=jE eV.name y.pins p.pin):=by
   unfold rF;rw[nq z,e1,FY,hk];simp only;rw[e2,FY,D];rfl
  refine⟨(yV q),(idx e1 hk),_,_,(rE t q.type u.ord (by omega)),(vU y),(idx e2 D),_,_,(zS y p.pin L.1 (by omega)),?_,trivial⟩;rw[N];rfl
 refine⟨?_,trivial⟩;rw[rF,fJ z];rfl
theorem adC(t:List bG)(x:DP)(p:HI)(D:qq t)(hp:uo t x.parts):ai C 56 [.pv (.sl (t.map vU)),.pv (.ag (S9 x)),.pv (.ag (Gm p))] (.p (bool (rF t x.parts p))) []:=by
 refine fW hC Tryz.func56 rfl (by kernel_rfl) fun _=>?_;have hl:=hp.len;have Hd:=D.len;refine⟨_,_,(afD x.parts p.part (by omega)),iW ?_ ?_⟩<;>intro u
 ·obtain⟨k,q,e1,hk,hq⟩:=xp u;have I:=hp.typ q (aj hk);have J:0<=jE bG.name t q.type:=by
   have:=oz (f:=bG.name) (l:=t) (x:=q.type);rw[I]at this;have:=of_decide_eq_false this;omega
  obtain⟨m,y,e2,z,hy⟩:=xp J;have hP:=D.pins y (aj z);have L:rF t x.parts p=decide (0<=jE eV.name y.pins p.pin):=by
   unfold rF;rw[nq u,e1,FY,hk];simp only;rw[e2,FY,z];rfl
  refine⟨(yV q),(idx e1 hk),_,_,(adB t q.type (by omega)),(vU y),(idx e2 z),_,_,(ago y p.pin (by omega)),?_,trivial⟩;rw[L];rfl
 refine⟨?_,trivial⟩;rw[rF,fJ u];rfl
theorem Oz(t:List bG)(x:DP)(p:HI)(u:qq t)(hp:uo t x.parts):ai C 42 [.pv (.ag (Gm p)),.pv (.ip [.sl (t.map vU)]),.pv (.ip (S9 x))] (.p (bool (rF t x.parts p))) []:=by
 refine fW hC Tryz.func42 rfl (by kernel_rfl) fun _=>?_;refine⟨_,_,(Gs t x.parts p u hp),?_,trivial⟩;rfl
theorem xu(p q:HI):ai C 83 [.pv (.ag (Gm p)),.pv (.ag (Gm q))] (.p (i64 (Rq p q))) []:=by
 refine fW hC Tryz.func83 rfl (by kernel_rfl) fun _=>?_;refine⟨_,_,(gA p.part q.part),iW ?_ ?_⟩<;>intro h
 ·refine⟨?_,trivial⟩;rw[Rq,aa (by simpa using h)]
 refine⟨_,_,(gA p.pin q.pin),?_,trivial⟩;rw[Rq,ae (by simpa using h)]
theorem afE(p q:HI):ai C 57 [.pv (.ag (Gm p)),.pv (.ag (Gm q))] (.p (bool (Yq p q))) []:=by
 refine fW hC Tryz.func57 rfl (by kernel_rfl) fun _=>?_;apply iW<;>intro u
 ·refine⟨?_,trivial⟩;have u:eG p.part q.part=true:=u;simp[bool,Yq,u]
 have u:eG p.part q.part=false:=by simpa [eG] using u
 apply iW<;>intro z
 ·refine⟨?_,trivial⟩;rw[Yq,u,nq z];rfl
 refine⟨?_,trivial⟩;rw[Yq,u,fJ z];rfl
theorem Xe(p q:HI):(decide (p.part=q.part)&&(decide (p.pin=q.pin)&&true))=decide (q=p):=by
 rw[Ax];cases p;cases q;simp only[qJ,aJ,fV,HI.mk.injEq];exact⟨fun h=>⟨h.1.symm,h.2.symm⟩,fun h=>⟨h.1.symm,h.2.symm⟩⟩
theorem ahb(l:List HI)(p:HI)(hN:l.length<=140737488355328):ai C 163 [.pv (.sl (l.map Gm)),.pv (.ag (Gm p))] (.p (i64 (eM (fun q=>decide (q=p)) l 0))) []:=by
 refine fW hC Tryz.func163 rfl (by kernel_rfl) fun _=>?_;have I:=an l Gm;refine aP (fun i:Nat=>i<=l.length/\∀z∈l.take i,decide (z=p)=false) (fun i=>[(0,.p (.sl (l.map Gm))),(3,.bx 3 0),(7,.p (i64 (l.map Gm).length)),(8,.p (i64 i))]) (fun _=>[(3,.box ((Gm p).map .p))]) (fun i=>l.length-i) 0 _ (aA.refl _ _) ⟨ak _,by simp⟩ ⟨Z,Z,Z,Z,Y⟩ ⟨Z,Y⟩ fun i hi t h=>?_;apply iW<;>intro J
 ·rw[I]at J;obtain⟨r,D⟩:=ax (l:=l) (i:=i) (by omega);have L:=Xe p r;refine⟨(Gm r),(idx rfl D),iW ?_ ?_⟩<;>intro u<;>try simp only[zB]at u
  ·refine⟨?_,trivial⟩;have u:decide (r=p)=true:=by rw[<-L];exact u
   rw[hD (p:=fun q=>decide (q=p)) D u hi.2,fX]
  have u:decide (r=p)=false:=by rw[<-L];simpa using u
  exact⟨wO (by omega),(i+1),_,aA.refl _ _,⟨by omega,iu (p:=fun q=>decide (q=p)) D u hi.2⟩,by omega,⟨Z,Z,Z,Z,Y⟩,⟨Z,Y⟩⟩
 rw[I]at J;refine⟨?_,trivial⟩;have u:=hi.2;rw[kG (by omega)]at u;rw[cT (p:=fun q=>decide (q=p)) u];rfl
theorem acx(l:List HI)(p:HI)(u:l.length<=140737488355328):ai C 114 [.pv (.sl (l.map Gm)),.pv (.ag (Gm p))] (.p (bool (l.any fun q=>decide (q=p)))) []:=by
 refine fW hC Tryz.func114 rfl (by kernel_rfl) fun _=>?_;refine⟨_,_,(ahb l p u),?_,trivial⟩;rw[<-eZ _ l 0];rfl
theorem afG(l:List Net)(p:HI)(hN:l.length<=140737488355328)(L:∀n∈l,n.pins.length<=140737488355328):ai C 58 [.pv (.sl (l.map Uh)),.pv (.ag (Gm p))] (.p (bool (gN l p))) []:=by
 refine fW hC Tryz.func58 rfl (by kernel_rfl) fun _=>?_;have D:=an l Uh;refine aP (fun i:Nat=>i<=l.length/\gN (l.take i) p=false) (fun i=>[(3,.bx 3 0),(7,.p (.sl (l.map Uh))),(8,.p (i64 (l.map Uh).length)),(9,.p (i64 i))]) (fun _=>[(3,.box ((Gm p).map .p))]) (fun i=>l.length-i) 0 _ (aA.refl _ _) ⟨ak _,rfl⟩ ⟨Z,Z,Z,Z,Y⟩ ⟨Z,Y⟩ fun i hi t h=>?_;apply iW<;>intro I
 ·rw[D]at I;obtain⟨n,z⟩:=ax (l:=l) (i:=i) (by omega);refine⟨(Uh n),(idx rfl z),_,_,(acx n.pins p (L n (aj z))),iW ?_ ?_⟩<;>intro u
  ·refine⟨?_,trivial⟩;rw[gN,wy.2 ⟨n,aj z,u⟩];rfl
  refine⟨wO (by omega),(i+1),_,aA.refl _ _,⟨by omega,?_⟩,by omega,⟨Z,Z,Z,Z,Y⟩,⟨Z,Y⟩⟩;have J:=hi.2;unfold gN at J ⊢;rw[bq z,kN,J];simp only[uc,List.any_nil,wz,ph];simpa using u
 rw[D]at I;refine⟨?_,trivial⟩;have u:=hi.2;rw[kG (by omega)]at u;rw[u];rfl
def vI(p:HI):Value:=.agg #[.string p.part,.string p.pin]
theorem A7(p q:HI):Dj (vI p) (vI q)=decide (p=q):=by
 show (decide (p.part=q.part)&&(decide (p.pin=q.pin)&&true))=_;rw[Xe,Ax,decide_eq_true_iff,decide_eq_true_iff];exact eq_comm
def nG(es:List (Value×PV)):Prop:=∀e∈es,∃p:HI,e.1=vI p
theorem zY{es:List (Value×PV)}{p:HI}{v:PV}(h:nG es):nG (iS es (vI p) v):=by
 induction es with
 | nil=>intro e z;rw[iS,Fp]at z;exact⟨p,by rw[z]⟩
 | cons a r ih=>
  intro e z;obtain⟨k',u⟩:=a;rw[iS]at z;split at z
  ·rcases L8.1 z with D | D
   ·exact⟨p,by rw[D]⟩
   exact h e (cD _ D)
  rcases L8.1 z with D | D
  ·exact h e (by rw[D];exact bW)
  exact ih (fun e z=>h e (cD _ z)) e D
theorem RB{es:List (Value×PV)}(h:nG es)(p n:HI)(v:PV):gz (iS es (vI p) v) (vI n)=if n=p then some v else gz es (vI n):=by
 induction es with
 | nil=>
  simp only[iS,gz,A7];by_cases e:n=p<;>simp[e]
 | cons a r ih=>
  obtain⟨D,u⟩:=a;obtain⟨q,z⟩:=h (D,u) bW;have z:D=vI q:=z;subst z;have ih:=ih fun e I=>h e (cD _ I);simp only[iS,A7];by_cases e:p=q
  ·subst e;simp only[decide_true,gz,A7];by_cases e2:n=p<;>simp[e2]
  rw[fJ e];simp only[gz,A7,ih];by_cases e2:n=q
  ·subst e2;have J:¬n=p:=fun h=>e h.symm;simp[J]
  rw[fJ e2]
def mP(es:List (Value×PV)):List HI->List (Value×PV)
 | []=>es
 | p::r=>mP (iS es (vI p) (bool true)) r
theorem zZ(p:HI):∀(l:List HI) (es:List (Value×PV)),mP es (l++[p])=iS (mP es l) (vI p) (bool true)
 | [],_=>rfl
 | _::r,_=>zZ p r _
theorem z7:∀(l:List HI) {es:List (Value×PV)},nG es->nG (mP es l)
 | [],_,h=>h
 | _::r,_,h=>z7 r (zY h)
theorem IU(n:HI):∀(l:List HI) {es:List (Value×PV)},nG es->gz (mP es l) (vI n)=if (l.any fun q=>decide (q=n))=true then some (bool true) else gz es (vI n)
 | [],_,_=>rfl
 | p::r,es,h=>by
  rw[mP,IU n r (zY h),RB h,uc];by_cases e:n=p
  ·subst e;simp
  rw[aa e,fJ (fun e2=>e e2.symm),ph]
theorem vJ(t:List bG)(x:DP)(l:List HI)(es:List (Value×PV))(seen:HI->Bool)(W:qq t)(hp:uo t x.parts)(hk:nG es)(hs:∀p:HI,gz es (vI p)=if seen p=true then some (bool true) else none)(hN:l.length<=140737488355328):
  ai C 41 [.pv (.sl (l.map Gm)),.pv (.fn 42 [.ip [.sl (t.map vU)],.ip (S9 x)]),.map (.st [0,0]) es] (.p (i64 (fN t x.parts seen l))) [.map (if fN t x.parts seen l=0 then mP es l else es)]:=by
 refine fW hC Tryz.func41 rfl (by kernel_rfl) fun _=>?_;have L:=an l Gm;apply iW<;>intro g1
 ·have e:fN t x.parts seen l=2:=by rw[fN,ae (by omega)]
  refine⟨?_,?_,trivial⟩
  all_goals first | (rw[e];rfl) | (rw[e,aa (by decide)])
 have ZX:fN t x.parts seen l=bw (Gr t x.parts seen l) 0 l.length:=by rw[fN,aa (by omega)]
 rw[ZX];refine aP (fun i:Nat=>i<=l.length/\∀k,k<i->Gr t x.parts seen l k=0) (fun i=>[(0,.p (.sl (l.map Gm))),(1,.p (.fn 42 [.ip [.sl (t.map vU)],.ip (S9 x)])),(2,.ow 100002),(14,.p (.sl (l.map Gm))),(15,.p (i64 l.length)),(16,.p (i64 i))]) (fun _=>[(100002,.map (.st [0,0]) es)]) (fun i=>l.length-i) 0 _ (aA.refl _ _) ⟨ak _,fun k h=>by omega⟩ ⟨rfl,rfl,rfl,rfl,ar (fun n:Nat=>AV.p (i64 n)) L,Z,Y⟩ ⟨Z,Y⟩ fun i hi tt h=>?_;apply iW<;>intro h1
 ·obtain⟨p,I⟩:=ax (l:=l) (i:=i) (by omega);have u:Gr t x.parts seen l i=(if rF t x.parts p=true then (if Ce l i=true then 8 else if seen p=true then 7 else 0) else 9):=by simp only[Gr,I]
  have q:=hs p;have D:∀{c:Int},Gr t x.parts seen l i=c->c≠0->bw (Gr t x.parts seen l) 0 l.length=c:=fun e J=>aM hi.2 (by omega) e J;refine⟨(Gm p),(idx rfl I),_,_,(Oz t x p W hp),iW ?_ ?_⟩<;>intro N
  ·rw[aa (by simp[N])]at u;refine⟨?_,?_,trivial⟩
   all_goals first | (rw[D u (by decide)];rfl) | (rw[D u (by decide),aa (by decide)])
  rw[ae (by simpa using N)]at u;have tail:Ce l i=false->Gr t x.parts seen l i=(if seen p=true then 7 else 0):=fun J=>by rw[u,J,aa (by decide)]
  apply iW<;>intro a2
  ·obtain⟨z,O⟩:=ax (l:=l) (i:=i-1) (by omega);have R:=ZU I O (by omega);have U:=Ui p z;refine⟨wO (by omega),(Gm z),(idx (show (i:Int)-1=((i-1:Nat):Int) by omega) O),_,_,(xu p z),iW ?_ ?_⟩<;>intro V
   ·rw[R,U.1 V,ae (by decide)]at u;refine⟨?_,?_,trivial⟩
    all_goals first | (rw[D u (by decide)];rfl) | (rw[D u (by decide),aa (by decide)])
   have a4:Yq z p=true:=by
    cases e:Yq z p with
    | true=>rfl
    | false=>exact absurd (U.2 e) V
   have u:=tail (by rw[R,a4];rfl);cases hS:seen p with
   | true=>
    rw[hS]at q u;rw[ae rfl]at u;refine⟨(some (bool true)),q,?_,?_,trivial⟩
    all_goals first | (rw[D u (by decide)];rfl) | (rw[D u (by decide),aa (by decide)])
   | false=>
    rw[hS]at q u;rw[aa (by decide)]at u;exact⟨none,q,wO (by omega),(i+1),_,aA.refl _ _,⟨by omega,eQ hi.2 u⟩,by omega,⟨Z,Z,Z,Z,Z,Z,Y⟩,⟨Z,Y⟩⟩
  have u:=tail (acP (by omega));cases hS:seen p with
  | true=>
   rw[hS]at q u;rw[ae rfl]at u;refine⟨(some (bool true)),q,?_,?_,trivial⟩
   all_goals first | (rw[D u (by decide)];rfl) | (rw[D u (by decide),aa (by decide)])
  | false=>
   rw[hS]at q u;rw[aa (by decide)]at u;exact⟨none,q,wO (by omega),(i+1),_,aA.refl _ _,⟨by omega,eQ hi.2 u⟩,by omega,⟨Z,Z,Z,Z,Z,Z,Y⟩,⟨Z,Y⟩⟩
 have z0:bw (Gr t x.parts seen l) 0 l.length=0:=bR fun k _ hk=>hi.2 k (by omega);rw[z0,ae rfl];refine aP (fun i:Nat=>i<=l.length) (fun i=>[(2,.ow 100002),(44,.p (.sl (l.map Gm))),(45,.p (i64 l.length)),(46,.p (i64 i))]) (fun i=>[(100002,.map (.st [0,0]) (mP es (l.take i)))]) (fun i=>l.length-i) 0 _ (aA.refl _ _) (ak _) ⟨rfl,rfl,ar (fun n:Nat=>AV.p (i64 n)) L,Z,Y⟩ ⟨Z,Y⟩ fun i hi tt h=>?_;apply iW<;>intro h2
 ·obtain⟨p,I⟩:=ax (l:=l) (i:=i) (by omega);have To:=zZ p (l.take i) es;rw[<-bq I]at To;exact⟨(Gm p),(idx rfl I),wO (by omega),(i+1),_,aA.refl _ _,by omega,by omega,⟨Z,Z,Z,Z,Y⟩,⟨by rw[To];rfl,trivial⟩⟩
 have e:l.take i=l:=kG (by omega);refine⟨?_,?_,trivial⟩
 all_goals first | rfl | (rw[e];rfl)
def OC(t:List bG)(x:DP)(i:Nat):Int:=match x.nets[i]? with
 | some n=>if si n.name=true then (if n.pins.length=0 then 9 else xr (fN t x.parts (gN (x.nets.take i)) n.pins) (if 0<n.ports.length then 3 else if cg (x.nets.map Net.name) i=true then 8 else 0)) else 5
 | none=>0
def y9(t:List bG)(x:DP):Int:=if 1000<x.nets.length then 2 else bw (OC t x) 0 x.nets.length
def jf(t:List bG)(x:DP):Int:=xr (eA t) (xr (iI t x.parts) (y9 t x))
structure Gy(x:DP):Prop where
 parts:x.parts.length<=1048576/\∀p∈x.parts,bK p.name/\bK p.type
 nets:x.nets.length<=1048576/\∀n∈x.nets,bK n.name/\n.pins.length<=1048576/\n.ports.length<=1048576
theorem Ul{t:List bG}{y:ByteArray}(h:jE bG.name t y<0):¬dX bG.name t y=true:=fun e=>by
 have:=oz (f:=bG.name) (l:=t) (x:=y);rw[nq h,e]at this;cases this
theorem Um{t:List bG}{y:ByteArray}(h:¬jE bG.name t y<0):dX bG.name t y=true:=by
 have:=oz (f:=bG.name) (l:=t) (x:=y);rw[fJ h]at this;cases e:dX bG.name t y with
 | true=>rfl
 | false=>rw[e]at this;cases this
theorem y_(t:List bG)(l:List Part)(J:qq t)(hN:l.length<=1048576)(R:∀p∈l,bK p.name/\bK p.type):ai C 39 [.pv (.sl (t.map vU)),.pv (.sl (l.map yV)),.pv (MG 40)] (.p (i64 (iI t l))) []:=by
 refine fW hC Tryz.func39 rfl (by kernel_rfl) fun _=>?_;have U:=an l yV;have eX:=J.len;apply iW<;>intro g1
 ·refine⟨?_,trivial⟩;rw[iI,ae (by omega)];rfl
 rw[iI,aa (by omega)];refine aP (fun i:Nat=>i<=l.length/\∀k,k<i->um t l k=0) (fun i=>[(0,.p (.sl (t.map vU))),(1,.p (.sl (l.map yV))),(2,.p (MG 40)),(12,.p (.sl (l.map yV))),(13,.p (i64 l.length)),(14,.p (i64 i))]) (fun _=>[]) (fun i=>l.length-i) 0 _ (aA.refl _ _) ⟨ak _,fun k h=>by omega⟩ ⟨rfl,rfl,rfl,rfl,ar (fun n:Nat=>AV.p (i64 n)) U,Z,Y⟩ trivial fun i hi tt h=>?_;apply iW<;>intro h1
 ·obtain⟨x,I⟩:=ax (l:=l) (i:=i) (by omega);have u:um t l i=(if si x.name=true then (if dX bG.name t x.type=true then (if cg (l.map Part.name) i=true then 8 else 0) else 9) else 5):=by simp only[um,I]
  obtain⟨V,so2⟩:=R x (aj I);refine⟨(yV x),(idx rfl I),_,_,(kM x.name V),iW ?_ ?_⟩<;>intro L
  ·refine⟨?_,trivial⟩;rw[aa (by simp[L])]at u;rw[aM hi.2 (by omega) u (by decide)];rfl
  rw[ae (by simpa using L)]at u;refine⟨_,_,(rE t x.type J.ord (by omega)),iW ?_ ?_⟩<;>intro N
  ·refine⟨?_,trivial⟩;rw[aa (Ul N)]at u;rw[aM hi.2 (by omega) u (by decide)];rfl
  rw[ae (Um N)]at u;apply iW<;>intro o1
  ·obtain⟨z,O⟩:=ax (l:=l) (i:=i-1) (by omega);rw[kR (f:=Part.name) I O (by omega)]at u;refine⟨wO (by omega),(yV z),(idx (show (i:Int)-1=((i-1:Nat):Int) by omega) O),iW ?_ ?_⟩<;>intro D
   ·refine⟨?_,trivial⟩;have D:(eG (Part.name x) (Part.name z)||decide (Part.name x=Part.name z))=true:=by simpa [eG] using D
    rw[D,ae rfl]at u;rw[aM hi.2 (by omega) u (by decide)];rfl
   have D:(eG (Part.name x) (Part.name z)||decide (Part.name x=Part.name z))=false:=by simpa [eG] using D
   rw[D,aa (by decide)]at u;exact⟨wO (by omega),(i+1),_,aA.refl _ _,⟨by omega,eQ hi.2 u⟩,by omega,⟨Z,Z,Z,Z,Z,Z,Y⟩,trivial⟩
  have W:i=0:=by omega
  rw[pV W,aa (by decide)]at u;exact⟨wO (by omega),(i+1),_,aA.refl _ _,⟨by omega,eQ hi.2 u⟩,by omega,⟨Z,Z,Z,Z,Z,Z,Y⟩,trivial⟩
 refine⟨?_,trivial⟩;have z0:bw (um t l) 0 l.length=0:=bR fun k _ hk=>hi.2 k (by omega);rw[z0];rfl
theorem Ar(t:List bG)(x:DP)(W:Gq t)(hxo:Gy x):ai C 16 [.pv (.sl (t.map vU)),.pv (.ag (S9 x))] (.p (i64 (jf t x))) []:=by
 refine fW hC Tryz.func16 rfl (by kernel_rfl) fun _=>?_;have lm:=an x.nets Uh;obtain⟨⟨ZP,Hf⟩,hn1,hn2⟩:=hxo;refine⟨_,_,(yX t W),iW ?_ ?_⟩<;>intro J
 ·have J:eA t≠0:=by simpa using J
  refine⟨?_,trivial⟩;rw[jf,fM rfl J]
 have J:eA t=0:=by simpa using J
 have ht:=Cc J;rw[jf,mr J];refine⟨_,_,(y_ t x.parts ht ZP Hf),iW ?_ ?_⟩<;>intro L
 ·have L:iI t x.parts≠0:=by simpa using L
  refine⟨?_,trivial⟩;rw[fM rfl L]
 have L:iI t x.parts=0:=by simpa using L
 have hp:=Cd L;rw[mr L];apply iW<;>intro g3
 ·refine⟨?_,trivial⟩;rw[y9,ae (by omega)];rfl
 rw[y9,aa (by omega)];refine aP (fun p:Nat×List (Value×PV)=>p.1<=x.nets.length/\(∀k,k<p.1->OC t x k=0)/\nG p.2/\∀q:HI,gz p.2 (vI q)=if gN (x.nets.take p.1) q=true then some (bool true) else none) (fun p=>[(2,.p (.ip [.sl (t.map vU)])),(3,.p (.ip (S9 x))),(7,.ow 27),(29,.p (.sl (x.nets.map Uh))),(30,.p (i64 x.nets.length)),(31,.p (i64 p.1))]) (fun p=>[(27,.map (.st [0,0]) p.2)]) (fun p=>x.nets.length-p.1) (0,[]) _ (aA.trans (aA.iT hC _ 2 (y:=.ip [.sl (t.map vU)]) (fz:=[(2,.nd [.sl (t.map vU)])]) ⟨rfl,rfl⟩) (aA.iT hC _ 3 (y:=.ip (S9 x)) (fz:=[(3,.nd (S9 x))]) ⟨rfl,rfl⟩)) ⟨ak _,fun k h=>by simp only at h;omega,fun e he=>(by cases he),fun q=>rfl⟩ ⟨rfl,rfl,rfl,rfl,ar (fun n:Nat=>AV.p (i64 n)) lm,Z,Y⟩ ⟨Z,Y⟩ fun ⟨i,es⟩ hi tt h=>?_;obtain⟨q1,O,U,q4⟩:=hi;simp only at q1 O U q4;apply iW<;>intro h1<;>try simp only[zB]at h1
 ·obtain⟨n,R⟩:=ax (l:=x.nets) (i:=i) (by omega);have u:OC t x i=(if si n.name=true then (if n.pins.length=0 then 9 else xr (fN t x.parts (gN (x.nets.take i)) n.pins) (if 0<n.ports.length then 3 else if cg (x.nets.map Net.name) i=true then 8 else 0)) else 5):=by simp only[OC,R]
  obtain⟨so,sp,sq⟩:=hn2 n (aj R);have lp:=an n.pins Gm;have lq:=an n.ports fun s=>[str s];have D:∀{c:Int},OC t x i=c->c≠0->bw (OC t x) 0 x.nets.length=c:=fun e h0=>aM O (by omega) e h0;refine⟨(Uh n),(idx rfl R),_,_,(kM n.name so),iW ?_ ?_⟩<;>intro a1
  ·refine⟨?_,trivial⟩;rw[aa (by simp[a1])]at u;rw[D u (by decide)];rfl
  rw[ae (by simpa using a1)]at u;apply iW<;>intro V
  ·have V:(((n.pins.map Gm).length:Nat):Int)=0:=V;refine⟨?_,trivial⟩;rw[ae (by omega)]at u;rw[D u (by decide)];rfl
  have V:¬(((n.pins.map Gm).length:Nat):Int)=0:=V;rw[aa (by omega)]at u;refine⟨_,_,(vJ t x n.pins es (gN (x.nets.take i)) ht hp U q4 (by omega)),iW ?_ ?_⟩<;>intro I
  ·have I:fN t x.parts (gN (x.nets.take i)) n.pins≠0:=by simpa using I
   refine⟨?_,trivial⟩;rw[fM rfl I]at u;rw[D u I]
  have I:fN t x.parts (gN (x.nets.take i)) n.pins=0:=by simpa using I
  rw[mr I]at u;apply iW<;>intro a4
  ·refine⟨?_,trivial⟩;rw[ae (by omega)]at u;rw[D u (by decide)];rfl
  rw[aa (by omega)]at u;have keys:nG (if fN t x.parts (gN (x.nets.take i)) n.pins=0 then mP es n.pins else es):=by rw[ae I];exact z7 _ U
  have ZY:∀q:HI,gz (if fN t x.parts (gN (x.nets.take i)) n.pins=0 then mP es n.pins else es) (vI q)=if gN (x.nets.take (i+1)) q=true then some (bool true) else none:=fun q=>by
   rw[ae I,IU q _ U,q4 q,bq R];have e:gN (x.nets.take i++[n]) q=(gN (x.nets.take i) q||n.pins.any fun p=>decide (p=q)):=by simp[gN]
   rw[e];cases (n.pins.any fun p=>decide (p=q))<;>cases gN (x.nets.take i) q<;>rfl
  apply iW<;>intro o1<;>try simp only[zB]at o1
  ·obtain⟨z,hz⟩:=ax (l:=x.nets) (i:=i-1) (by omega);rw[kR (f:=Net.name) R hz (by omega)]at u;refine⟨wO (by omega),(Uh z),(idx (show (i:Int)-1=((i-1:Nat):Int) by omega) hz),iW ?_ ?_⟩<;>intro N
   ·refine⟨?_,trivial⟩;have N:(eG (Net.name n) (Net.name z)||decide (Net.name n=Net.name z))=true:=by simpa [eG] using N
    rw[N,ae rfl]at u;rw[D u (by decide)];rfl
   have N:(eG (Net.name n) (Net.name z)||decide (Net.name n=Net.name z))=false:=by simpa [eG] using N
   rw[N,aa (by decide)]at u;exact⟨⟨by dsimp only;omega,by dsimp only;omega⟩,(i+1,if fN t x.parts (gN (x.nets.take i)) n.pins=0 then mP es n.pins else es),_,aA.refl _ _,⟨by dsimp only;omega,eQ O u,keys,ZY⟩,by dsimp only;omega,⟨Z,Z,Z,Z,Z,Z,Y⟩,⟨Z,Y⟩⟩
  rw[pV (by omega),aa (by decide)]at u;exact⟨⟨by dsimp only;omega,by dsimp only;omega⟩,(i+1,if fN t x.parts (gN (x.nets.take i)) n.pins=0 then mP es n.pins else es),_,aA.refl _ _,⟨by dsimp only;omega,eQ O u,keys,ZY⟩,by dsimp only;omega,⟨Z,Z,Z,Z,Z,Z,Y⟩,⟨Z,Y⟩⟩
 refine⟨?_,trivial⟩;rw[bR fun k _ hk=>O k (by omega)];rfl
theorem aec(t:List bG)(y:DP)(ht:qq t)(hxo:Gy y):ai C 20 [.pv (.sl (t.map vU)),.pv (.ag (S9 y))] (.p (i64 (xr (iI t y.parts) (y9 t y)))) []:=by
 refine fW hC Tryz.func20 rfl (by kernel_rfl) fun _=>?_;have lm:=an y.parts yV;have lm2:=an y.nets Uh;obtain⟨⟨ZP,ho⟩,hn1,V⟩:=hxo;have eX:=ht.len;apply iW<;>intro g1
 ·refine⟨?_,trivial⟩;rw[iI,ae (by omega)];rfl
 have Bv:iI t y.parts=bw (um t y.parts) 0 y.parts.length:=by rw[iI,aa (by omega)]
 have O:∀{c:Int},bw (um t y.parts) 0 y.parts.length=c->c≠0->xr (iI t y.parts) (y9 t y)=c:=fun e D=>fM (Bv.trans e) D;refine aP (fun i:Nat=>i<=y.parts.length/\∀k,k<i->um t y.parts k=0) (fun i=>[(0,.p (.sl (t.map vU))),(3,.bx 3 0),(16,.p (.sl (y.parts.map yV))),(17,.p (i64 y.parts.length)),(18,.p (i64 i))]) (fun _=>[(3,.box ((S9 y).map .p))]) (fun i=>y.parts.length-i) 0 _ (aA.refl _ _) ⟨ak _,fun k h=>by omega⟩ ⟨rfl,rfl,rfl,ar (fun n:Nat=>AV.p (i64 n)) lm,Z,Y⟩ ⟨Z,Y⟩ fun i hi tt h=>?_;apply iW<;>intro h1
 ·obtain⟨x,L⟩:=ax (l:=y.parts) (i:=i) (by omega);have u:um t y.parts i=(if si x.name=true then (if dX bG.name t x.type=true then (if cg (y.parts.map Part.name) i=true then 8 else 0) else 9) else 5):=by simp only[um,L]
  obtain⟨so,so2⟩:=ho x (aj L);refine⟨(yV x),(idx rfl L),_,_,(adA x.name so),iW ?_ ?_⟩<;>intro W
  ·refine⟨?_,trivial⟩;rw[aa (by simp[W])]at u;rw[O (aM hi.2 (by omega) u (by decide)) (by decide)];rfl
  rw[ae (by simpa using W)]at u;refine⟨_,_,(adB t x.type (by omega)),iW ?_ ?_⟩<;>intro R
  ·refine⟨?_,trivial⟩;rw[aa (Ul R)]at u;rw[O (aM hi.2 (by omega) u (by decide)) (by decide)];rfl
  rw[ae (Um R)]at u;apply iW<;>intro o1
  ·obtain⟨z,N⟩:=ax (l:=y.parts) (i:=i-1) (by omega);rw[kR (f:=Part.name) L N (by omega)]at u;refine⟨wO (by omega),(yV z),(idx (show (i:Int)-1=((i-1:Nat):Int) by omega) N),iW ?_ ?_⟩<;>intro I
   ·refine⟨?_,trivial⟩;have I:(eG (Part.name x) (Part.name z)||decide (Part.name x=Part.name z))=true:=by simpa [eG] using I
    rw[I,ae rfl]at u;rw[O (aM hi.2 (by omega) u (by decide)) (by decide)];rfl
   have I:(eG (Part.name x) (Part.name z)||decide (Part.name x=Part.name z))=false:=by simpa [eG] using I
   rw[I,aa (by decide)]at u;exact⟨wO (by omega),(i+1),_,aA.refl _ _,⟨by omega,eQ hi.2 u⟩,by omega,⟨Z,Z,Z,Z,Z,Y⟩,⟨Z,Y⟩⟩
  have D:i=0:=by omega
  rw[pV D,aa (by decide)]at u;exact⟨wO (by omega),(i+1),_,aA.refl _ _,⟨by omega,eQ hi.2 u⟩,by omega,⟨Z,Z,Z,Z,Z,Y⟩,⟨Z,Y⟩⟩
 have z0:iI t y.parts=0:=Bv.trans (bR fun k _ hk=>hi.2 k (by omega));have hp:=Cd z0;rw[mr z0];apply iW<;>intro g3
 ·refine⟨?_,trivial⟩;rw[y9,ae (by omega)];rfl
 rw[y9,aa (by omega)];refine aP (fun i:Nat=>i<=y.nets.length/\∀k,k<i->OC t y k=0) (fun i=>[(0,.p (.sl (t.map vU))),(3,.bx 3 0),(55,.p (.sl (y.nets.map Uh))),(56,.p (i64 y.nets.length)),(57,.p (i64 i))]) (fun _=>[(3,.box ((S9 y).map .p))]) (fun i=>y.nets.length-i) 0 _ (aA.refl _ _) ⟨ak _,fun k h=>by omega⟩ ⟨rfl,rfl,rfl,ar (fun n:Nat=>AV.p (i64 n)) lm2,Z,Y⟩ ⟨Z,Y⟩ fun i hi tt h=>?_;apply iW<;>intro h2
 ·obtain⟨n,L⟩:=ax (l:=y.nets) (i:=i) (by omega);have u:OC t y i=(if si n.name=true then (if n.pins.length=0 then 9 else xr (fN t y.parts (gN (y.nets.take i)) n.pins) (if 0<n.ports.length then 3 else if cg (y.nets.map Net.name) i=true then 8 else 0)) else 5):=by simp only[OC,L]
  obtain⟨so,sp,sq⟩:=V n (aj L);have lp:=an n.pins Gm;have lq:=an n.ports fun s=>[str s];have J:∀{c:Int},OC t y i=c->c≠0->bw (OC t y) 0 y.nets.length=c:=fun e D=>aM hi.2 (by omega) e D;refine⟨(Uh n),(idx rfl L),_,_,(adA n.name so),iW ?_ ?_⟩<;>intro W
  ·refine⟨?_,trivial⟩;rw[aa (by simp[W])]at u;rw[J u (by decide)];rfl
  rw[ae (by simpa using W)]at u;apply iW<;>intro R
  ·have R:(((n.pins.map Gm).length:Nat):Int)=0:=R;refine⟨?_,trivial⟩;rw[ae (by omega)]at u;rw[J u (by decide)];rfl
  have R:¬(((n.pins.map Gm).length:Nat):Int)=0:=R;rw[aa (by omega)]at u;apply iW<;>intro a3
  ·refine⟨?_,trivial⟩;rw[fM (c:=2) (by rw[fN,ae (by omega)]) (by decide)]at u;rw[J u (by decide)];rfl
  have hnp:fN t y.parts (gN (y.nets.take i)) n.pins=bw (Gr t y.parts (gN (y.nets.take i)) n.pins) 0 n.pins.length:=by rw[fN,aa (by omega)]
  have acR:∀{c:Int},bw (Gr t y.parts (gN (y.nets.take i)) n.pins) 0 n.pins.length=c->c≠0->bw (OC t y) 0 y.nets.length=c:=fun e D=>J (u.trans (fM (hnp.trans e) D)) D;have et:(y.nets.map Uh).take i=(y.nets.take i).map Uh:=cS.symm;have nQ:∀p:HI,ai C 58 [.pv (.sl ((y.nets.map Uh).take i)),.pv (.ag (Gm p))] (.p (bool (gN (y.nets.take i) p))) []:=fun p=>by
   rw[et];exact afG _ p (by rw[cE];omega) fun m hm=>aS (V m (Ay hm)).2.1 (by decide)
  refine aP (fun j:Nat=>j<=n.pins.length/\∀k,k<j->Gr t y.parts (gN (y.nets.take i)) n.pins k=0) (fun j=>[(0,.p (.sl (t.map vU))),(3,.bx 3 0),(55,.p (.sl (y.nets.map Uh))),(56,.p (i64 y.nets.length)),(57,.p (i64 i)),(7,.p (i64 i)),(8,.bx 8 0),(78,.p (.sl (n.pins.map Gm))),(79,.p (i64 n.pins.length)),(80,.p (i64 j))]) (fun _=>[(3,.box ((S9 y).map .p)),(8,.box ((Uh n).map .p))]) (fun j=>n.pins.length-j) 0 _ (aA.refl _ _) ⟨ak _,fun k h=>by omega⟩ ⟨rfl,rfl,rfl,rfl,rfl,rfl,rfl,rfl,ar (fun n:Nat=>AV.p (i64 n)) lp,Z,Y⟩ ⟨Z,Z,Y⟩ fun j hj tt h=>?_;apply iW<;>intro h3
  ·obtain⟨p,U⟩:=ax (l:=n.pins) (i:=j) (by omega);have df:Gr t y.parts (gN (y.nets.take i)) n.pins j=(if rF t y.parts p=true then (if Ce n.pins j=true then 8 else if gN (y.nets.take i) p=true then 7 else 0) else 9):=by simp only[Gr,U]
   have Un:∀{c:Int},Gr t y.parts (gN (y.nets.take i)) n.pins j=c->c≠0->bw (OC t y) 0 y.nets.length=c:=fun e D=>acR (aM hj.2 (by omega) e D) D;refine⟨(Gm p),(idx rfl U),_,_,(adC t y p ht hp),iW ?_ ?_⟩<;>intro b1
   ·refine⟨?_,trivial⟩;rw[aa (by simp[b1])]at df;rw[Un df (by decide)];rfl
   rw[ae (by simpa using b1)]at df;have tail:Ce n.pins j=false->Gr t y.parts (gN (y.nets.take i)) n.pins j=(if gN (y.nets.take i) p=true then 7 else 0):=fun D=>by rw[df,D,aa (by decide)]
   apply iW<;>intro b2
   ·obtain⟨z,N⟩:=ax (l:=n.pins) (i:=j-1) (by omega);have hu:=ZU U N (by omega);refine⟨wO (by omega),(Gm z),(idx (show (j:Int)-1=((j-1:Nat):Int) by omega) N),_,_,(afE z p),iW ?_ ?_⟩<;>intro b3
    ·refine⟨?_,trivial⟩;rw[hu,ae (by simp[b3])]at df;rw[Un df (by decide)];rfl
    have df:=tail (by rw[hu];simpa using b3);refine⟨⟨by omega,by omega,by omega,xq fun _=>rfl⟩,_,_,(nQ p),iW ?_ ?_⟩<;>intro b4
    ·refine⟨?_,trivial⟩;rw[ae b4]at df;rw[Un df (by decide)];rfl
    rw[aa (by simp[b4])]at df;exact⟨wO (by omega),(j+1),_,aA.refl _ _,⟨by omega,eQ hj.2 df⟩,by omega,⟨Z,Z,Z,Z,Z,Z,Z,Z,Z,Z,Y⟩,⟨Z,Z,Y⟩⟩
   have df:=tail (acP (by omega));refine⟨⟨by omega,by omega,by omega,xq fun _=>rfl⟩,_,_,(nQ p),iW ?_ ?_⟩<;>intro b4
   ·refine⟨?_,trivial⟩;rw[ae b4]at df;rw[Un df (by decide)];rfl
   rw[aa (by simp[b4])]at df;exact⟨wO (by omega),(j+1),_,aA.refl _ _,⟨by omega,eQ hj.2 df⟩,by omega,⟨Z,Z,Z,Z,Z,Z,Z,Z,Z,Z,Y⟩,⟨Z,Z,Y⟩⟩
  have z1:=hnp.trans (bR fun k _ hk=>hj.2 k (by omega));rw[mr z1]at u;apply iW<;>intro a4
  ·refine⟨?_,trivial⟩;rw[ae (by omega)]at u;rw[J u (by decide)];rfl
  rw[aa (by omega)]at u;apply iW<;>intro o1
  ·obtain⟨z,N⟩:=ax (l:=y.nets) (i:=i-1) (by omega);rw[kR (f:=Net.name) L N (by omega)]at u;refine⟨wO (by omega),(Uh z),(idx (show (i:Int)-1=((i-1:Nat):Int) by omega) N),iW ?_ ?_⟩<;>intro I
   ·refine⟨?_,trivial⟩;have I:(eG (Net.name n) (Net.name z)||decide (Net.name n=Net.name z))=true:=by simpa [eG] using I
    rw[I,ae rfl]at u;rw[aM hi.2 (by omega) u (by decide)];rfl
   have I:(eG (Net.name n) (Net.name z)||decide (Net.name n=Net.name z))=false:=by simpa [eG] using I
   rw[I,aa (by decide)]at u;exact⟨wO (by omega),(i+1),_,aA.refl _ _,⟨by omega,eQ hi.2 u⟩,by omega,⟨Z,Z,Z,Z,Z,Y⟩,⟨Z,Y⟩⟩
  have D:i=0:=by omega
  rw[pV D,aa (by decide)]at u;exact⟨wO (by omega),(i+1),_,aA.refl _ _,⟨by omega,eQ hi.2 u⟩,by omega,⟨Z,Z,Z,Z,Z,Y⟩,⟨Z,Y⟩⟩
 refine⟨?_,trivial⟩;rw[bR fun k _ hk=>hi.2 k (by omega)];rfl
theorem abH(t:List bG)(x:DP)(z:Gq t)(D:Gy x):ai C 11 [.pv (.sl (t.map vU)),.pv (.ag (S9 x))] (.p (i64 (jf t x))) []:=by
 refine fW hC Tryz.func11 rfl (by kernel_rfl) fun _=>?_;refine⟨_,_,(adR t z),iW ?_ ?_⟩<;>intro u
 ·have u:eA t≠0:=by simpa using u
  refine⟨?_,trivial⟩;rw[jf,fM rfl u]
 have u:eA t=0:=by simpa using u
 rw[jf,mr u];refine⟨_,_,(aec t x (Cc u) D),?_,trivial⟩;rfl
open Go.ChangeShapes
variable {H:Type} {enc:TypeId×Value->H} {w:World} {S:Nat->Prop}
def UB{γ:Type}(OK:γ->Prop):γ->Nat->Prop:=fun r n=>n<=1048576->OK r
variable {γ:Type}
theorem MS{u:γ->Prop}:∀r m n,m<=n->UB u r m->UB u r n:=fun _ _ _ h k z=>k (aS h z)
theorem uv{t:TypeId}{k:Nat}{f:γ->List PV}{B u:γ->Nat->Prop}(h:Sp enc w S t k f B)(hb:∀r n,B r n->u r n):Sp enc w S t k f u:=fun n cs x z=>by
 obtain⟨xs,l1,l2,D,r,e,b⟩:=h n cs x z;exact⟨xs,l1,l2,D,r,e,hb _ _ b⟩
theorem us:Sp enc w S 9 1 (fun s=>[str s]) (UB bK):=uv Xc fun _ _ h u=>Xd (aS h u)
theorem ui:Sp enc w S 3 1 (fun n=>[i64 n]) (UB fun _=>True):=uv An fun _ _ _ _=>trivial
def ic{γ:Type}(OK:γ->Prop)(l:List γ):Prop:=l.length<=1048576/\∀r∈l,OK r
theorem iJ{t e:TypeId}{k:Nat}{f:γ->List PV}{u:γ->Prop}(D:Tryz.prog.underlying t=some (.slice e))(I:Tryz.prog.cellsOf e=k)(hk:0<k)(hS:∀b,b<w.heap.size->S b)(J:Sp enc w S e k f (UB u)):Sp enc w S t 1 (fun l:List γ=>[.sl (l.map f)]) (UB (ic u)):=
 uv (sV D I hk hS MS J) fun _ _ h z=>⟨aS h.1 z,fun r L=>h.2 r L z⟩
theorem Xl:Sp enc w S 128 3 uj (UB (fun x=>bK x.name)):=fun n cs x h=>by
 obtain⟨hl,ds,e,ld,q⟩:=cU (S:=S) (ks:=fun i=>match i with | _=>1) (hk:=dI (by kernel_rfl)) (Qs:=fun i xs d=>match i with
   | 0=>∃r:ByteArray,xs=[str r]/\UB bK r (Rows.uptoBulk d)
   | 1=>∃r:Int,xs=[i64 r]/\UB (fun _=>True) r (Rows.uptoBulk d)
   | _=>∃r:Int,xs=[i64 r]/\UB (fun _=>True) r (Rows.uptoBulk d)) Tryz.underlying128 (fun i f u=>by
  match i,u with
  | 0,u=>cases u;exact us
  | 1,u=>cases u;exact ui
  | 2,u=>cases u;exact ui
  | n+3,u=>cases u) h
 have hl:cs.length=3:=hl.trans (by kernel_rfl);obtain⟨x0,c0,_,N,O,D,R,U⟩:=q 0 _ rfl;obtain⟨x1,c1,_,V,W,I,e1,b1⟩:=q 1 _ rfl;obtain⟨x2,c2,_,Y,Z,J,e2,b2⟩:=q 2 _ rfl;cases R;cases e1;cases e2;have z:bL S w 0 ([str D]++([i64 I]++([i64 J]))) cs:=bL.join N (bL.join V (Y));have L:=bE O;have j1:=bE W;have j2:=bE Z;rw[<-e]at L j1 j2;exact⟨_,rfl,hl,fun i c v h1 h2=>z i c v h1 (by rw[fX];exact h2),⟨D,I,J⟩,rfl,fun hn=>U (aS L hn)⟩
theorem Xm(hS:∀b,b<w.heap.size->S b):Sp enc w S 125 2 vU (UB (fun x=>bK x.name/\Gp x.pins)):=fun n cs x h=>by
 obtain⟨hl,ds,e,ld,q⟩:=cU (S:=S) (ks:=fun i=>match i with | _=>1) (hk:=dI (by kernel_rfl)) (Qs:=fun i xs d=>match i with
   | 0=>∃r:ByteArray,xs=[str r]/\UB bK r (Rows.uptoBulk d)
   | _=>∃r:List eV,xs=[.sl (r.map uj)]/\UB (ic (fun x:eV=>bK x.name)) r (Rows.uptoBulk d)) Tryz.underlying125 (fun i f u=>by
  match i,u with
  | 0,u=>cases u;exact us
  | 1,u=>cases u;exact iJ (k:=3) Tryz.underlying123 (by kernel_rfl) (by decide) hS (Xl)
  | n+2,u=>cases u) h
 have hl:cs.length=2:=hl.trans (by kernel_rfl);obtain⟨x0,c0,_,O,R,D,U,V⟩:=q 0 _ rfl;obtain⟨x1,c1,_,W,Y,I,e1,Z⟩:=q 1 _ rfl;cases U;cases e1;have z:bL S w 0 ([str D]++([.sl (I.map uj)])) cs:=bL.join O (W);have J:=bE R;have L:=bE Y;rw[<-e]at J L;exact⟨_,rfl,hl,fun i c v h1 h2=>z i c v h1 (by rw[fX];exact h2),⟨D,I⟩,rfl,fun N=>⟨V (aS J N),Z (aS L N)⟩⟩
theorem Xn:Sp enc w S 80 2 yV (UB (fun x=>bK x.name/\bK x.type)):=fun n cs x h=>by
 obtain⟨hl,ds,e,ld,q⟩:=cU (S:=S) (ks:=fun i=>match i with | _=>1) (hk:=dI (by kernel_rfl)) (Qs:=fun i xs d=>match i with
   | 0=>∃r:ByteArray,xs=[str r]/\UB bK r (Rows.uptoBulk d)
   | _=>∃r:ByteArray,xs=[str r]/\UB bK r (Rows.uptoBulk d)) Tryz.underlying80 (fun i f u=>by
  match i,u with
  | 0,u=>cases u;exact us
  | 1,u=>cases u;exact us
  | n+2,u=>cases u) h
 have hl:cs.length=2:=hl.trans (by kernel_rfl);obtain⟨x0,c0,_,O,R,D,U,V⟩:=q 0 _ rfl;obtain⟨x1,c1,_,W,Y,I,e1,Z⟩:=q 1 _ rfl;cases U;cases e1;have z:bL S w 0 ([str D]++([str I])) cs:=bL.join O (W);have J:=bE R;have L:=bE Y;rw[<-e]at J L;exact⟨_,rfl,hl,fun i c v h1 h2=>z i c v h1 (by rw[fX];exact h2),⟨D,I⟩,rfl,fun N=>⟨V (aS J N),Z (aS L N)⟩⟩
theorem Z0:Sp enc w S 49 2 Gm (UB (fun _=>True)):=fun n cs x h=>by
 obtain⟨hl,ds,e,ld,q⟩:=cU (S:=S) (ks:=fun i=>match i with | _=>1) (hk:=dI (by kernel_rfl)) (Qs:=fun i xs d=>match i with
   | 0=>∃r:ByteArray,xs=[str r]/\UB bK r (Rows.uptoBulk d)
   | _=>∃r:ByteArray,xs=[str r]/\UB bK r (Rows.uptoBulk d)) Tryz.underlying49 (fun i f u=>by
  match i,u with
  | 0,u=>cases u;exact us
  | 1,u=>cases u;exact us
  | n+2,u=>cases u) h
 have hl:cs.length=2:=hl.trans (by kernel_rfl);obtain⟨x0,c0,_,J,L,D,N,b0⟩:=q 0 _ rfl;obtain⟨x1,c1,_,O,R,I,e1,b1⟩:=q 1 _ rfl;cases N;cases e1;have z:bL S w 0 ([str D]++([str I])) cs:=bL.join J (O);have U:=bE L;have V:=bE R;rw[<-e]at U V;exact⟨_,rfl,hl,fun i c v W Y=>z i c v W (by rw[fX];exact Y),⟨D,I⟩,rfl,fun hn=>trivial⟩
theorem Z1(hS:∀b,b<w.heap.size->S b):Sp enc w S 63 3 Uh (UB (fun n=>bK n.name/\n.pins.length<=1048576/\n.ports.length<=1048576)):=fun n cs x h=>by
 obtain⟨hl,ds,e,ld,q⟩:=cU (S:=S) (ks:=fun i=>match i with | _=>1) (hk:=dI (by kernel_rfl)) (Qs:=fun i xs d=>match i with
   | 0=>∃r:ByteArray,xs=[str r]/\UB bK r (Rows.uptoBulk d)
   | 1=>∃r:List HI,xs=[.sl (r.map Gm)]/\UB (ic (fun _=>True)) r (Rows.uptoBulk d)
   | _=>∃r:List ByteArray,xs=[strs r]/\UB (ic bK) r (Rows.uptoBulk d)) Tryz.underlying63 (fun i f u=>by
  match i,u with
  | 0,u=>cases u;exact us
  | 1,u=>cases u;exact iJ (k:=2) Tryz.underlying46 (by kernel_rfl) (by decide) hS (Z0)
  | 2,u=>cases u;exact iJ (k:=1) tZ (by kernel_rfl) (by decide) hS us
  | n+3,u=>cases u) h
 have hl:cs.length=3:=hl.trans (by kernel_rfl);obtain⟨x0,c0,_,U,V,I,W,Y⟩:=q 0 _ rfl;obtain⟨x1,c1,_,Z,i1,J,e1,b1⟩:=q 1 _ rfl;obtain⟨x2,c2,_,r2,i2,L,e2,b2⟩:=q 2 _ rfl;cases W;cases e1;cases e2;have z:bL S w 0 ([str I]++([.sl (J.map Gm)]++([strs L]))) cs:=bL.join U (bL.join Z (r2));have N:=bE V;have O:=bE i1;have R:=bE i2;rw[<-e]at N O R;exact⟨_,rfl,hl,fun i c v h1 h2=>z i c v h1 (by rw[fX];exact h2),⟨I,J,L⟩,rfl,fun D=>⟨Y (aS N D),(b1 (aS O D)).1,(b2 (aS R D)).1⟩⟩
theorem Xo(hS:∀b,b<w.heap.size->S b):Sp enc w S 26 2 S9 (UB Gy):=fun n cs x h=>by
 obtain⟨hl,ds,e,ld,q⟩:=cU (S:=S) (ks:=fun i=>match i with | _=>1) (hk:=dI (by kernel_rfl)) (Qs:=fun i xs d=>match i with
   | 0=>∃r:List Part,xs=[.sl (r.map yV)]/\UB (ic (fun x:Part=>bK x.name/\bK x.type)) r (Rows.uptoBulk d)
   | _=>∃r:List Net,xs=[.sl (r.map Uh)]/\UB (ic (fun n:Net=>bK n.name/\n.pins.length<=1048576/\n.ports.length<=1048576)) r (Rows.uptoBulk d)) Tryz.underlying26 (fun i f u=>by
  match i,u with
  | 0,u=>cases u;exact iJ (k:=2) Tryz.underlying23 (by kernel_rfl) (by decide) hS (Xn)
  | 1,u=>cases u;exact iJ (k:=3) Tryz.underlying24 (by kernel_rfl) (by decide) hS (Z1 hS)
  | n+2,u=>cases u) h
 have hl:cs.length=2:=hl.trans (by kernel_rfl);obtain⟨x0,c0,_,O,R,D,U,V⟩:=q 0 _ rfl;obtain⟨x1,c1,_,W,Y,I,e1,Z⟩:=q 1 _ rfl;cases U;cases e1;have z:bL S w 0 ([.sl (D.map yV)]++([.sl (I.map Uh)])) cs:=bL.join O (W);have J:=bE R;have L:=bE Y;rw[<-e]at J L;exact⟨_,rfl,hl,fun i c v h1 h2=>z i c v h1 (by rw[fX];exact h2),⟨D,I⟩,rfl,fun N=>⟨V (aS J N),Z (aS L N)⟩⟩
theorem aiu(hS:∀b,b<w.heap.size->S b):Sp enc w S 22 1 (fun l:List bG=>[.sl (l.map vU)]) (UB Gq):=iJ (k:=2) Tryz.underlying22 (by kernel_rfl) (by decide) hS (Xm hS)
end M
end Go.Proofs.YtliffnpbaeijgaaGreatDoor
