/- Part 12 of the proof of RulesNetsMatchSpec. -/
import Derived.Test.YtliffnpbaeijgaaGreatDoorN11
set_option linter.unusedVariables false
set_option linter.unusedSimpArgs false
set_option maxRecDepth 100000
set_option maxHeartbeats 8000000
namespace Go
abbrev Bi:=@List.map_singleton
abbrev M8:=@List.filterMap_append
abbrev GU:=@List.filterMap_cons_some
abbrev xX:=@List.filterMap_nil
abbrev uK:=@List.filterMap_cons_none
end Go
namespace Go.Proofs.YtliffnpbaeijgaaGreatDoor
namespace M
open Go.AM Go.RowKit Go.Lib
open Reg (aB Full dq oW yr bM lh ew gW through VQ eL b8 jJ Ng)
theorem adg:∀a b:List UInt8,(Lib.compareBytes a b<0↔a<b)/\(Lib.compareBytes a b=0↔a=b)
 | [],[]=>by simp[Lib.compareBytes]
 | [],_::_=>by simp[Lib.compareBytes]
 | _::_,[]=>by simp[Lib.compareBytes]
 | x::a,y::b=>by
  have ih:=adg a b;unfold Lib.compareBytes;rw[List.cons_lt_cons_iff,List.cons.injEq];by_cases e:x=y
  ·subst e;have u:¬x<x:=UInt8.lt_irrefl x;simp[u,ih.1,ih.2]
  rcases UInt8.lt_or_lt_of_ne e with h | h
  ·simp[e,h]
  have z:¬x<y:=UInt8.not_lt.2 (UInt8.le_of_lt h);simp[e,h,z]
theorem afS(a b:ByteArray):Lib.compareBytes a.data.toList b.data.toList=0↔a=b:=by
 rw[(adg _ _).2];refine⟨fun h=>?_,fun h=>by rw[h]⟩;obtain⟨⟨x⟩⟩:=a;obtain⟨⟨y⟩⟩:=b;simpa using h
theorem ag2(a b:ByteArray):Lib.compareBytes a.data.toList b.data.toList<0↔eG a b=true:=by
 rw[rB];exact (adg _ _).1
theorem ahV(p q:ByteArray×ByteArray):(I_ p q<=0)↔(eG p.1 q.1||(decide (p.1=q.1)&&(eG p.2 q.2||decide (p.2=q.2))))=true:=by
 have z:=afS p.1 q.1;have D:=ag2 p.1 q.1;have I:=afS p.2 q.2;have J:=ag2 p.2 q.2;rw[I_,lZ,aJ,lZ,fV,fV,<-z,<-D,<-I,<-J];generalize Lib.compareBytes p.1.data.toList q.1.data.toList=u;generalize Lib.compareBytes p.2.data.toList q.2.data.toList=v;split<;>omega
theorem aeo(a:yr)(L:M6 a)(i:Nat)(hi:i<a.lands.length):ai C 62 [.pv (.ag (uR a)),.pv (i64 i)] (.p (i64 (iN a.coppers.length a.lands i))) []:=by
 have lm:=an a.lands lc;have Z:=an a.coppers fun r=>[aE r];have RA:=L.cop;have af4:=L.lan;obtain⟨l,hl⟩:=ax hi;obtain⟨s1,s2⟩:=L.str l (aj hl);have u:∀v,(if (si l.part&&gV l.pin)=true then (if (Reg.within l.layer 0 (a.coppers.length-1)&&(Reg.iZ l.x&&Reg.iZ l.y))=true then (match a.lands[i-1]? with
   | some q=>if 0<i/\I_ (l.part,l.pin) (q.part,q.pin)<=0 then 8 else 0
   | none=>0) else 1) else 5)=v->iN a.coppers.length a.lands i=v:=fun v z=>by simp only[iN,hl];exact z
 refine fW hC Tryz.func62 rfl (by kernel_rfl) fun _=>?_;refine⟨(lc l),(idx rfl hl),_,_,(afA l.part s1),iW ?_ ?_⟩<;>intro D
 ·refine⟨?_,trivial⟩;rw[u 5 (by rw[aa (by rw[D];simp)])];rfl
 refine⟨_,_,(adu l.pin (by unfold bK at s2;omega)),iW ?_ ?_⟩<;>intro I
 ·refine⟨?_,trivial⟩;rw[u 5 (by rw[aa (by rw[I];simp)])];rfl
 refine⟨wO (by omega),_,_,(ad4 l.layer 0 (((a.coppers.map fun r=>[aE r]).length:Int)-1)),?_⟩;rw[Z];apply iW<;>intro N
 ·refine⟨?_,trivial⟩;rw[u 1 (by rw[ae (by rw[D,I];rfl),aa (by rw[N];simp)])];rfl
 refine⟨_,_,(aeN l.x l.y),iW ?_ ?_⟩<;>intro R
 ·refine⟨?_,trivial⟩;rw[u 1 (by rw[ae (by rw[D,I];rfl),aa (by rw[N,R];simp)])];rfl
 have u:∀v,(match a.lands[i-1]? with
   | some q=>if 0<i/\I_ (l.part,l.pin) (q.part,q.pin)<=0 then 8 else 0
   | none=>0)=v->iN a.coppers.length a.lands i=v:=fun v z=>u v (by rw[ae (by rw[D,I];rfl),ae (by rw[N,R];rfl)];exact z)
 apply iW<;>intro g5
 ·obtain⟨q,U⟩:=ax (l:=a.lands) (i:=i-1) (by omega);have u:∀v,(if (eG l.part q.part||(decide (l.part=q.part)&&(eG l.pin q.pin||decide (l.pin=q.pin))))=true then 8 else 0)=v->iN a.coppers.length a.lands i=v:=fun v z=>u v (by
   rw[U];show (if 0<i/\I_ (l.part,l.pin) (q.part,q.pin)<=0 then (8:Int) else 0)=v;have:=ahV (l.part,l.pin) (q.part,q.pin);simp only at this;by_cases c:(eG l.part q.part||(decide (l.part=q.part)&&(eG l.pin q.pin||decide (l.pin=q.pin))))=true
   ·rw[ae c]at z;rw[ae ⟨by omega,this.2 c⟩,z]
   rw[aa c]at z;rw[aa (fun e=>c (this.1 e.2)),z])
  refine⟨wO (by omega),(lc q),(idx (show ((i:Int)-1)=((i-1:Nat):Int) by omega) U),iW ?_ ?_⟩<;>intro V
  ·have J:eG l.part q.part=true:=V;refine⟨?_,trivial⟩;rw[u 8 (by rw[ae (by rw[J];rfl)])];rfl
  have J:eG l.part q.part=false:=by simpa [eG] using V
  apply iW<;>intro W
  ·apply iW<;>intro Y
   ·have O:(eG l.pin q.pin||decide (l.pin=q.pin))=true:=by simpa [eG] using Y
    refine⟨?_,trivial⟩;rw[u 8 (by rw[ae (by rw[O,nq W];simp)])];rfl
   have O:(eG l.pin q.pin||decide (l.pin=q.pin))=false:=by simpa [eG] using Y
   refine⟨?_,trivial⟩;rw[u 0 (by rw[aa (by rw[J,O];simp)])];rfl
  refine⟨?_,trivial⟩;rw[u 0 (by rw[aa (by rw[J,fJ W];simp)])];rfl
 have u:iN a.coppers.length a.lands i=0:=u 0 (by
  split
  ·rw[aa (by omega)]
  rfl)
 refine⟨?_,trivial⟩;rw[u];rfl
def nC(a:yr):Int:=if a.coppers.length=0 then 9 else if 16<a.coppers.length then 2 else
 if jJ a.coppers≠0 then jJ a.coppers else
 if Reg.bA a.outline≠0 then Reg.bA a.outline else
 if 2000<Ng a.outline.length a.coppers then 2 else
 if b8 a≠0 then b8 a else fQ a
theorem drop_cons{α:Type}{l:List α}{i:Nat}{x:α}(h:l[i]?=some x):l.drop i=x::l.drop (i+1):=by
 obtain⟨u,z⟩:=az.1 h;rw[l_ u,z]
theorem adS(a:yr)(L:M6 a):ai C 21 [.pv (.ag (uR a))] (.p (i64 (nC a))) []:=by
 have lk:=an a.coppers fun r=>[aE r];have lo:=an a.outline rc;have lb:=an a.bores bc;have ll:=an a.lands lc;have RA:=L.cop;have af8:=L.out;have an5:=L.bor;have af4:=L.lan;obtain⟨F,u⟩:∃F,F=nC a:=⟨_,rfl⟩;rw[<-u];rw[nC]at u;refine fW hC Tryz.func21 rfl (by kernel_rfl) fun _=>?_;apply iW<;>intro g1
 ·rw[ae (by omega)]at u;refine⟨?_,trivial⟩;rw[u];rfl
 rw[aa (by omega)]at u;apply iW<;>intro g2
 ·rw[ae (by omega)]at u;refine⟨?_,trivial⟩;rw[u];rfl
 rw[aa (by omega)]at u;obtain⟨M,hM⟩:∃M,M=Ng a.outline.length a.coppers:=⟨_,rfl⟩;rw[<-hM]at u;refine aP (fun x:Nat×Int=>Ng x.2 (a.coppers.drop x.1)=M/\jJ (a.coppers.drop x.1)=jJ a.coppers/\0<=x.2/\x.2<=1048576+1048576*x.1) (fun x=>[(1,.bx 1 0),(3,.p (i64 x.2)),(4,.p (i64 x.1))]) (fun x=>[(1,.box ((uR a).map .p))]) (fun x=>a.coppers.length-x.1) (0,a.outline.length) _ (aA.refl _ _) ⟨hM.symm,rfl,by simp only;omega,by simp only;omega⟩ ⟨rfl,ar (fun m:Nat=>AV.p (i64 m)) lo,Z,Y⟩ ⟨Z,Y⟩ fun ⟨i,n⟩ hx t h=>?_;obtain⟨N,J,q3,q4⟩:=hx;simp only at N J q3 q4;apply iW<;>intro g3<;>try simp only[zB]at g3
 ·obtain⟨r,O⟩:=ax (l:=a.coppers) (i:=i) (by omega);have Ah:=L.rcs r (aj O);have lr:=an r rc;rw[drop_cons O]at N J;rw[jJ]at J;refine⟨[aE r],(idx rfl O),_,_,(abq r),iW ?_ ?_⟩<;>intro D
  ·have D:Reg.bA r≠0:=by simpa using D
   rw[ae D]at J;rw[<-J,ae D]at u;refine⟨?_,trivial⟩;rw[u]
  have D:Reg.bA r=0:=by simpa using D
  rw[aa (by simpa using D)]at J;exact⟨[aE r],(idx rfl O),wO (by omega),wO (by omega),(i+1,n+r.length),_,aA.refl _ _,⟨N,J,by simp only;omega,by simp only;omega⟩,by simp only;omega,⟨rfl,ar (fun m:Nat=>AV.p (i64 (n+m))) lr,Z,Y⟩,⟨Z,Y⟩⟩
 rw[jR (by omega)]at N J;have N:n=M:=N;have J:jJ a.coppers=0:=J.symm;rw[aa (by simpa using J)]at u;refine⟨_,_,(abq a.outline),iW ?_ ?_⟩<;>intro D
 ·have D:Reg.bA a.outline≠0:=by simpa using D
  rw[ae D]at u;refine⟨?_,trivial⟩;rw[u]
 have D:Reg.bA a.outline=0:=by simpa using D
 rw[aa (by simpa using D)]at u;apply iW<;>intro g5<;>try simp only[zB]at g5
 ·rw[ae (by omega)]at u;refine⟨?_,trivial⟩;rw[u];rfl
 rw[aa (by omega)]at u;have R:b8 a=if 500<a.bores.length then 2 else eL a.coppers.length a.bores:=rfl;apply iW<;>intro g6
 ·rw[ae (by omega)]at R;rw[R,ae (by decide)]at u;refine⟨?_,trivial⟩;rw[u];rfl
 rw[aa (by omega)]at R;rw[R]at u;refine aP (fun i:Nat=>eL a.coppers.length (a.bores.drop i)=eL a.coppers.length a.bores/\i<=a.bores.length) (fun i=>[(1,.bx 1 0),(7,.p (i64 i))]) (fun i=>[(1,.box ((uR a).map .p))]) (fun i=>a.bores.length-i) 0 _ (aA.refl _ _) ⟨rfl,ak _⟩ ⟨Z,Z,Y⟩ ⟨Z,Y⟩ fun i hi t h=>?_;obtain⟨z,i2⟩:=hi;apply iW<;>intro g7
 ·obtain⟨b,hb⟩:=ax (l:=a.bores) (i:=i) (by omega);rw[Reg.ON hb]at z;have sq:(lh b).2=if gW b=true then 0 else 1:=by rw[lh];split<;>rfl
  rw[sq]at z;refine⟨(bc b),(idx rfl hb),_,_,(adf b),?_⟩;by_cases c:gW b=true
  ·rw[ae c]at z ⊢;rw[aa (by decide)]at z;refine⟨wO (by omega),_,_,(ad4 b.lo 0 (((a.coppers.map fun r=>[aE r]).length:Int)-1)),?_⟩;rw[lk];apply iW<;>intro U
   ·rw[aa (by rw[U];simp)]at z;rw[<-z,ae (by decide)]at u;refine⟨?_,trivial⟩;rw[u];rfl
   refine⟨wO (by omega),_,_,(ad4 b.hi b.lo (((a.coppers.map fun r=>[aE r]).length:Int)-1)),?_⟩;rw[lk];apply iW<;>intro V
   ·rw[aa (by rw[V];simp)]at z;rw[<-z,ae (by decide)]at u;refine⟨?_,trivial⟩;rw[u];rfl
   rw[ae (by rw[U,V];rfl)]at z;exact⟨wO (by omega),(i+1),_,aA.refl _ _,⟨z,by omega⟩,by omega,⟨Z,Z,Y⟩,⟨Z,Y⟩⟩
  rw[aa c]at z ⊢;rw[ae (by decide)]at z;rw[<-z,ae (by decide)]at u;refine⟨?_,trivial⟩;rw[u]
 rw[jR (by omega)]at z;have z:eL a.coppers.length a.bores=0:=z.symm;rw[z,aa (by decide)]at u;apply iW<;>intro U
 ·rw[fQ,ae (by omega)]at u;refine⟨?_,trivial⟩;rw[u];rfl
 rw[fQ,aa (by omega)]at u;refine aP (fun i:Nat=>i<=a.lands.length/\∀k,k<i->iN a.coppers.length a.lands k=0) (fun i=>[(1,.bx 1 0),(10,.p (i64 i))]) (fun i=>[(1,.box ((uR a).map .p))]) (fun i=>a.lands.length-i) 0 _ (aA.refl _ _) ⟨ak _,by omega⟩ ⟨Z,Z,Y⟩ ⟨Z,Y⟩ fun i hi t h=>?_;obtain⟨i2,W⟩:=hi;apply iW<;>intro V
 ·have eX:i<a.lands.length:=by omega
  refine⟨_,_,(aeo a L i eX),iW ?_ ?_⟩<;>intro I
  ·have I:iN a.coppers.length a.lands i≠0:=by simpa using I
   rw[nT (m:=i) I (fun k _ hk=>W k hk) (by omega) (by omega)]at u;refine⟨?_,trivial⟩;rw[u]
  have I:iN a.coppers.length a.lands i=0:=by simpa using I
  exact⟨wO (by omega),(i+1),_,aA.refl _ _,⟨by omega,fun k hk=>by by_cases e:k=i;exact e▸I;exact W k (by omega)⟩,by omega,⟨Z,Z,Y⟩,⟨Z,Y⟩⟩
 rw[bR fun k _ hk=>W k (by omega)]at u;refine⟨?_,trivial⟩;rw[u];rfl
end M
namespace Reg
def x9(w:Int)(p q:Bool):Bool:=(decide (w=1)&&(p||q)||(decide (w=2)&&p)&&q)||(decide (w=3)&&p)&&!q
theorem aaS(w:Int):x9 w false false=false:=by simp[x9]
def ay(s:cw)(x:Int):Bool:=s.any fun p=>decide (p.1<=x)&&decide (x<p.2)
variable {s:cw}
theorem aaa{x:Int}:ay s x=true↔cover s x:=by simp[ay,cover]
theorem aep(h:Canon s)(x:Int):ay s x=par (cm s) x:=by
 rw[Ax,aaa,dL h]
def q9(xs:List Int)(s:cw):List Int:=s.foldl (fun xs p=>put (put xs p.1) p.2) xs
theorem aax:∀(s:cw) (xs:List Int),ct xs->ct (q9 xs s)/\∀y,y∈q9 xs s↔y∈xs\/∃p∈s,y=p.1\/y=p.2
 | [],xs,h=>⟨h,fun y=>by simp[q9]⟩
 | p::s,xs,h=>by
  obtain⟨u,z⟩:=aax s (put (put xs p.1) p.2) (B0 _ _ (B0 _ _ h));refine⟨u,fun y=>?_⟩;show y∈q9 (put (put xs p.1) p.2) s↔_;rw[z,F4,F4];simp only[L8,exists_eq_or_imp];constructor
  ·rintro (((h | h) | h) | h)
   ·exact .inl h
   ·exact .inr (.inl (.inl h))
   ·exact .inr (.inl (.inr h))
   exact .inr (.inr h)
  rintro (h | ((h | h) | h))
  ·exact .inl (.inl (.inl h))
  ·exact .inl (.inl (.inr h))
  ·exact .inl (.inr h)
  exact .inr h
def BT(w:Int)(a b:cw)(xs:List Int):Nat->cw
 | 0=>[]
 | i+1=>if x9 w (ay a (xs.getD i 0)) (ay b (xs.getD i 0))=true then jo (BT w a b xs i) (xs.getD i 0) (xs.getD (i+1) 0) else BT w a b xs i
def r8(a b:cw):List Int:=q9 (q9 [] a) b
def mixed(w:Int)(a b:cw):cw:=BT w a b (r8 a b) ((r8 a b).length-1)
theorem afm(a b:cw):ct (r8 a b)/\∀y,y∈r8 a b↔(∃p∈a,y=p.1\/y=p.2)\/∃p∈b,y=p.1\/y=p.2:=by
 obtain⟨u,z⟩:=aax a [] List.Pairwise.nil;obtain⟨D,I⟩:=aax b _ u;exact⟨D,fun y=>by rw[r8,I,z];simp⟩
theorem adI{xs:List Int}(z:ct xs)(D:∀p∈s,p.1∈xs/\p.2∈xs){k:Nat}{u v x:Int}(I:xs[k]?=some u)(J:xs[k+1]?=some v)(h1:u<=x)(h2:x<v):ay s u=ay s x:=by
 rw[Ax,aaa,aaa];constructor
 ·rintro⟨p,hp,a,b⟩;have L:=gap z I J (D p hp).1;have N:=gap z I J (D p hp).2;exact⟨p,hp,by omega,by omega⟩
 rintro⟨p,hp,a,b⟩;have L:=gap z I J (D p hp).1;have N:=gap z I J (D p hp).2;exact⟨p,hp,by omega,by omega⟩
theorem acH{xs:List Int}(I:ct xs){a c:Int}(D:xs[0]?=some a)(z:c∈xs):a<=c:=by
 cases xs with
 | nil=>cases z
 | cons u t=>
  simp at D;subst D;rcases L8.1 z with rfl | z
  ·exact pq _
  exact Int.le_of_lt ((pw.1 I).1 c z)
theorem adJ{xs:List Int}(u:ct xs){a c:Int}(z:xs[xs.length-1]?=some a)(D:c∈xs):c<=a:=by
 obtain⟨j,I⟩:=ca.1 D;obtain⟨J,L⟩:=az.1 z;obtain⟨N,O⟩:=az.1 I;rcases AF j (xs.length-1) with e | e
 ·have:=FZ.1 u j _ N J e;omega
 have:j=xs.length-1:=by omega
 subst this;rw[L]at O;omega
theorem adK{xs:List Int}(u:ct xs){k:Nat}{a b:Int}(z:xs[k]?=some a)(hb:xs[k+1]?=some b):a<b:=by
 obtain⟨D,a2⟩:=az.1 z;obtain⟨I,b2⟩:=az.1 hb;have:=FZ.1 u k (k+1) D I (by omega);omega
theorem adL(w:Int){a b:cw}{xs:List Int}(I:ct xs)(N:∀p∈a,p.1∈xs/\p.2∈xs)(hb:∀p∈b,p.1∈xs/\p.2∈xs):∀(k:Nat) (y:Int),xs[k]?=some y ->
  Canon (BT w a b xs k)/\∀x,cover (BT w a b xs k) x↔x<y/\x9 w (ay a x) (ay b x)=true
 | 0,y,hy=>by
  refine⟨trivial,fun x=>⟨fun h=>absurd h (gX x),fun ⟨z,u⟩=>?_⟩⟩;have no:∀s:cw,(∀p∈s,p.1∈xs/\p.2∈xs)->ay s x=false:=fun s U=>by
   rw[cu];intro h;obtain⟨p,hp,L,_⟩:=aaa.1 h;have:=acH I hy (U p hp).1;omega
  rw[no a N,no b hb,aaS]at u;cases u
 | k+1,y,hy=>by
  obtain⟨D,J⟩:∃D,xs[k]?=some D:=by
   have:=(az.1 hy).1;exact⟨_,oX (by omega)⟩
  obtain⟨O,R⟩:=adL w I N hb k D J;have V:=adK I J hy;rw[BT,getD_some J,getD_some hy];have go:∀x,D<=x->x<y->(x9 w (ay a D) (ay b D)=x9 w (ay a x) (ay b x)):=fun x z u=>by
   rw[adI I N J hy z u,adI I hb J hy z u]
  by_cases c:x9 w (ay a D) (ay b D)=true
  ·rw[ae c];obtain⟨W,Y,_⟩:=F3 (BT w a b xs k) D y O V;refine⟨W,fun x=>?_⟩;rw[Y,R];constructor
   ·rintro (⟨z,u⟩ | ⟨z,u⟩)
    ·exact⟨by omega,u⟩
    exact⟨u,(go x z u)▸c⟩
   rintro⟨z,u⟩;by_cases L:x<D
   ·exact .inl ⟨L,u⟩
   exact .inr ⟨by omega,z⟩
  rw[aa c];refine⟨O,fun x=>?_⟩;rw[R];constructor
  ·rintro⟨z,u⟩;exact⟨by omega,u⟩
  rintro⟨z,u⟩;refine⟨?_,u⟩;by_cases L:x<D
  ·exact L
  exact absurd ((go x (by omega) z).trans u) c
theorem afT(w:Int){a b:cw}(N:Canon a)(hb:Canon b):Canon (mixed w a b)/\∀x,par (cm (mixed w a b)) x=x9 w (par (cm a) x) (par (cm b) x):=by
 obtain⟨I,u⟩:=afm a b;have z:∀p∈a,p.1∈r8 a b/\p.2∈r8 a b:=fun p hp=>⟨(u _).2 (.inl ⟨p,hp,.inl rfl⟩),(u _).2 (.inl ⟨p,hp,.inr rfl⟩)⟩;have D:∀p∈b,p.1∈r8 a b/\p.2∈r8 a b:=fun p hp=>⟨(u _).2 (.inr ⟨p,hp,.inl rfl⟩),(u _).2 (.inr ⟨p,hp,.inr rfl⟩)⟩;have key:Canon (mixed w a b)/\∀x,cover (mixed w a b) x↔x9 w (ay a x) (ay b x)=true:=by
  rcases Gb (r8 a b).length with J | J
  ·have e:r8 a b=[]:=GS.1 J;have O:a=[]:=AP.2 fun p hp=>by have:=(z p hp).1;rw[e]at this;cases this
   have R:b=[]:=AP.2 fun p hp=>by have:=(D p hp).1;rw[e]at this;cases this
   subst O;subst R;refine⟨trivial,fun x=>⟨fun h=>absurd h (gX x),fun h=>?_⟩⟩;have h:x9 w false false=true:=h;rw[aaS]at h;cases h
  obtain⟨y,L⟩:∃y,(r8 a b)[(r8 a b).length-1]?=some y:=⟨_,oX (by omega)⟩;obtain⟨U,V⟩:=adL w I z D _ y L;refine⟨U,fun x=>(V x).trans ⟨fun h=>h.2,fun h=>⟨?_,h⟩⟩⟩;by_cases W:x<y
  ·exact W
  have no:∀s:cw,(∀p∈s,p.1∈r8 a b/\p.2∈r8 a b)->ay s x=false:=fun s Y=>by
   rw[cu];intro h;obtain⟨p,hp,_,h4⟩:=aaa.1 h;have:=adJ I L (Y p hp).2;omega
  rw[no a z,no b D,aaS]at h;cases h
 refine⟨key.1,fun x=>?_⟩;rw[Ax,dL key.1,key.2,aep N,aep hb]
def yk(w:Int)(a b:List aB)(ys:List Int):Nat->List aR
 | 0=>[]
 | k+1=>fj (yk w a b ys k) ⟨ys.getD k 0,ys.getD (k+1) 0,mixed w (rowOf a (ys.getD k 0)) (rowOf b (ys.getD k 0))⟩
def afU(w:Int)(a b:List aB):List aR:=yk w a b (cr (a++b)) ((cr (a++b)).length-1)
def aaC(w:Int)(a b:List aB):List aB:=told (afU w a b)
theorem afV{l all:List aB}(hl:∀r∈l,r∈all){k:Nat}{u v:Int}(I:(cr all)[k]?=some u)(J:(cr all)[k+1]?=some v){x z:Int}(h1:u<=z)(h2:z<v):l.any (oV x u)=l.any (oV x z):=by
 obtain⟨L,N⟩:=gY all;rw[Ax,wy,wy];have go:∀r∈l,(oV x u r=true↔oV x z r=true):=fun r D=>by
  have g1:=gap L I J ((N r.y0).2 ⟨r,hl r D,.inl rfl⟩);have g2:=gap L I J ((N r.y1).2 ⟨r,hl r D,.inr rfl⟩);rw[dC,dC];omega
 constructor
 ·rintro⟨r,D,h⟩;exact⟨r,D,(go r D).1 h⟩
 rintro⟨r,D,h⟩;exact⟨r,D,(go r D).2 h⟩
theorem acI(w:Int){a b:List aB}(L:∀r∈a,Full r)(hb:∀r∈b,Full r):∀(k:Nat) (y:Int),(cr (a++b))[k]?=some y ->
  dF (yk w a b (cr (a++b)) k)/\(∀t∈yk w a b (cr (a++b)) k,t.y1<=y)/\∀x z,at' (yk w a b (cr (a++b)) k) x z=(decide (z<y)&&x9 w (a.any (oV x z)) (b.any (oV x z)))
 | 0,y,hy=>by
  obtain⟨D,O⟩:=gY (a++b);refine⟨trivial,fun t R=>(by cases R),fun x z=>?_⟩;show false=_;symm;rw[F1];by_cases U:z<y
  ·right;have no:∀l:List aB,(∀r∈l,r∈a++b)->l.any (oV x z)=false:=fun l hl=>by
    rw[cu];intro hp;obtain⟨r,V,h⟩:=wy.1 hp;obtain⟨_,_,h3,_⟩:=dC.1 h;have:=acH D hy ((O r.y0).2 ⟨r,hl r V,.inl rfl⟩);omega
   rw[no a fun r h=>q_ _ h,no b fun r h=>tJ _ h,aaS]
  left;exact fJ U
 | k+1,y,hy=>by
  obtain⟨D,O⟩:=gY (a++b);obtain⟨u,I⟩:∃u,(cr (a++b))[k]?=some u:=by
   have:=(az.1 hy).1;exact⟨_,oX (by omega)⟩
  obtain⟨W,Y,Z⟩:=acI w L hb k u I;have eX:=adK D I hy;rw[yk,getD_some I,getD_some hy];obtain⟨m1,m2⟩:=afT w (HW a u (fun r D=>(L r D).1)).1 (HW b u (fun r D=>(hb r D).1)).1;obtain⟨p1,p2,p3,p4⟩:=rO (b:=⟨u,y,mixed w (rowOf a u) (rowOf b u)⟩) W eX m1 Y;refine⟨p1,p2,fun x z=>?_⟩;rw[p3,Z,at_one];show (decide (z<u)&&x9 w (a.any (oV x z)) (b.any (oV x z))||decide (u<=z)&&decide (z<y)&&par (cm (mixed w (rowOf a u) (rowOf b u))) x)=_;rw[m2,Ur L,Ur hb];by_cases N:z<u
  ·rw[nq N,fJ (by omega:¬u<=z),nq (by omega:z<y)];simp
  by_cases J:z<y
  ·rw[fJ N,nq (by omega:u<=z),nq J];simp only[uh,ph,tG];rw[afV (fun r h=>q_ _ h) I hy (by omega) J,afV (fun r h=>tJ _ h) I hy (by omega) J]
  rw[fJ N,fJ J];simp
theorem agt(w:Int){a b:List aB}(N:∀r∈a,Full r)(hb:∀r∈b,Full r):dF (afU w a b)/\∀x z,at' (afU w a b) x z=x9 w (a.any (oV x z)) (b.any (oV x z)):=by
 obtain⟨O,D⟩:=gY (a++b);rcases Gb (cr (a++b)).length with I | I
 ·have e:cr (a++b)=[]:=GS.1 I;have no:a++b=[]:=AP.2 fun r u=>by
   have:=(D r.y0).2 ⟨r,u,.inl rfl⟩;rw[e]at this;cases this
  obtain⟨e1,e2⟩:=List.append_eq_nil_iff.1 no;subst e1;subst e2;exact⟨trivial,fun x z=>(aaS w).symm⟩
 obtain⟨y,J⟩:∃y,(cr (a++b))[(cr (a++b)).length-1]?=some y:=⟨_,oX (by omega)⟩;obtain⟨R,h2,U⟩:=acI w N hb _ y J;refine⟨R,fun x z=>?_⟩;show at' (yk w a b (cr (a++b)) ((cr (a++b)).length-1)) x z=_;rw[U];by_cases L:z<y
 ·rw[nq L,tG]
 rw[fJ L,uh];have no:∀l:List aB,(∀r∈l,r∈a++b)->l.any (oV x z)=false:=fun l hl=>by
  rw[cu];intro hp;obtain⟨r,u,h⟩:=wy.1 hp;obtain⟨_,_,_,h5⟩:=dC.1 h;have:=adJ O J ((D r.y1).2 ⟨r,hl r u,.inr rfl⟩);omega
 rw[no a fun r h=>q_ _ h,no b fun r h=>tJ _ h,aaS]
theorem agu{w:Int}{k:Bool->Bool->Bool}(hk:∀p q,x9 w p q=k p q){a b:List aB}(u:∀r∈a,Full r)(hb:∀r∈b,Full r):afU w a b=oB k (cH a) (cH b):=by
 obtain⟨z,D⟩:=agt w u hb;obtain⟨I,J,_⟩:=b7 u;obtain⟨L,N,_⟩:=b7 hb;obtain⟨O,R,_⟩:=xD (k:=k) ((hk false false).symm.trans (aaS w)) I L;exact Cx _ _ z O fun x y=>by rw[D,R,hk,J,N]
theorem ahf{a b:List aB}(u:∀r∈a,Full r)(hb:∀r∈b,Full r):afU 3 a b=iL (cH a) (cH b):=agu (fun p q=>by cases p<;>cases q<;>rfl) u hb
end Reg
namespace M
open Go.AM Go.RowKit
open Reg (aB cw)
theorem aeq{xs:List Int}{s:cw}{i:Nat}{p:Int×Int}(h:s[i]?=some p):Reg.q9 xs (s.take (i+1))=Reg.put (Reg.put (Reg.q9 xs (s.take i)) p.1) p.2:=by
 rw[FX,h,Reg.q9,Reg.q9,u7];rfl
theorem mj:∀(s:cw) (xs:List Int),(Reg.q9 xs s).length<=xs.length+2*s.length
 | [],xs=>by simp[Reg.q9]
 | p::s,xs=>by
  have h1:=mj s (Reg.put (Reg.put xs p.1) p.2);have h2:=B2 p.1 xs;have h3:=B2 p.2 (Reg.put xs p.1);simp only[bN];have e:Reg.q9 xs (p::s)=Reg.q9 (Reg.put (Reg.put xs p.1) p.2) s:=rfl;rw[e];omega
theorem abo(w:Int)(a b:cw)(xs:List Int):∀k,(Reg.BT w a b xs k).length<=k
 | 0=>aG _
 | k+1=>by
  have ih:=abo w a b xs k;rw[Reg.BT];split
  ·have:=DJ (Reg.BT w a b xs k) (xs.getD k 0) (xs.getD (k+1) 0);omega
  omega
theorem ahg(a b:cw)(w:Int)(Hh:a.length+b.length<=4398046511104):ai C 165 [.pv (n5 a),.pv (n5 b),.pv (i64 w)] (.p (n5 (Reg.mixed w a b))) []:=by
 refine fW hC Tryz.func165 rfl (by kernel_rfl) fun _=>?_;have la:=an a sp;have lb:=an b sp;refine aP (fun i:Nat=>i<=a.length) (fun i=>[(0,.p (n5 a)),(1,.p (n5 b)),(2,.p (i64 w)),(7,.p (ints (Reg.q9 [] (a.take i)))),(8,.p (i64 i))]) (fun _=>[]) (fun i=>a.length-i) 0 _ (aA.nil hC _ 7 rfl) (ak _) ⟨Z,Z,Z,Z,Z,Y⟩ trivial fun i hi t h=>?_;apply iW<;>intro h1
 ·rw[la]at h1;obtain⟨p,hp⟩:=ax (l:=a) (i:=i) (by omega);have hL:=mj (a.take i) [];have YV:=gK i a;have U:=(Reg.aax (a.take i) [] List.Pairwise.nil).1;refine⟨(sp p),(idx rfl hp),?_⟩;have hL3:=B2 p.1 (Reg.q9 [] (a.take i));refine⟨_,_,(abU _ p.1 U (by simp only[kv]at hL;omega)),(sp p),(idx rfl hp),_,_,(abU _ p.2 (Reg.B0 _ _ U) (by simp only[kv]at hL;omega)),wO (by omega),(i+1),_,aA.refl _ _,by omega,by omega,⟨rfl,rfl,rfl,?_,Z,Y⟩,trivial⟩;rw[aeq hp];rfl
 rw[la]at h1;have ea:a.take i=a:=kG (by omega);refine aP (fun j:Nat=>j<=b.length) (fun j=>[(0,.p (n5 a)),(1,.p (n5 b)),(2,.p (i64 w)),(7,.p (ints (Reg.q9 (Reg.q9 [] (a.take i)) (b.take j)))),(9,.p (i64 j))]) (fun _=>[]) (fun j=>b.length-j) 0 _ (aA.refl _ _) (ak _) ⟨Z,Z,Z,Z,Z,Y⟩ trivial fun j hj t h=>?_;apply iW<;>intro h2
 ·rw[lb]at h2;obtain⟨p,hp⟩:=ax (l:=b) (i:=j) (by omega);have hL:=mj (b.take j) (Reg.q9 [] (a.take i));have O:=mj (a.take i) [];have YV:=gK j b;have hL4:=gK i a;have U:=(Reg.aax (b.take j) _ (Reg.aax (a.take i) [] List.Pairwise.nil).1).1;refine⟨(sp p),(idx rfl hp),?_⟩;have hL3:=B2 p.1 (Reg.q9 (Reg.q9 [] (a.take i)) (b.take j));simp only[kv]at O;refine⟨_,_,(abU _ p.1 U (by omega)),(sp p),(idx rfl hp),_,_,(abU _ p.2 (Reg.B0 _ _ U) (by omega)),wO (by omega),(j+1),_,aA.refl _ _,by omega,by omega,⟨rfl,rfl,rfl,?_,Z,Y⟩,trivial⟩;rw[aeq hp];rfl
 rw[lb]at h2;have eb:b.take j=b:=kG (by omega);obtain⟨X,hX⟩:∃X,X=Reg.q9 (Reg.q9 [] (a.take i)) (b.take j):=⟨_,rfl⟩;have lX:=an X fun n=>[i64 n];refine aP (fun k:Nat=>k<=X.length-1) (fun k=>[(0,.p (n5 a)),(1,.p (n5 b)),(2,.p (i64 w)),(7,.p (ints X)),(10,.p (n5 (Reg.BT w a b X k))),(11,.p (i64 ((k:Int)+1)))]) (fun _=>[]) (fun k=>X.length-k) 0 _ (aA.nil hC _ 10 rfl) (ak _) ⟨rfl,rfl,rfl,by rw[hX];rfl,Z,Z,Y⟩ trivial fun k hk t h=>?_;have O:=mj (a.take i) [];have hL1:=mj (b.take j) (Reg.q9 [] (a.take i));have YV:=gK j b;have hL4:=gK i a;rw[<-hX]at hL1;simp only[kv]at O;have hM:=abo w a b X k;apply iW<;>intro h3
 ·rw[lX]at h3;obtain⟨y,u⟩:=ax (l:=X) (i:=k) (by omega);obtain⟨J,z⟩:=ax (l:=X) (i:=k+1) (by omega);have L:(k:Int)+1-1=(k:Nat):=by omega
  have I:(k:Int)+1=((k+1:Nat):Int):=by omega
  refine⟨wO (by omega),[i64 y],(idx L u),_,_,(acf a y (by omega)),wO (by omega),[i64 y],(idx L u),_,_,(acf b y (by omega)),?_⟩;have ia:Reg.ay a y=ay a y:=rfl;have ib:Reg.ay b y=ay b y:=rfl;apply iW<;>intro W
  ·apply iW<;>intro N
   ·refine⟨wO (by omega),[i64 y],(idx L u),[i64 J],(idx I z),_,_,(aaP _ y J (by omega)),wO (by omega),(k+1),_,aA.refl _ _,by omega,by omega,⟨rfl,rfl,rfl,rfl,?_,bI (by omega),trivial⟩,trivial⟩;rw[Reg.BT,A2 u,A2 z,ae (show Reg.x9 w (Reg.ay a y) (Reg.ay b y)=true by show Reg.x9 w (ay a y) (ay b y)=true;rw[W,N];rfl)];rfl
   apply iW<;>intro D
   ·refine⟨wO (by omega),[i64 y],(idx L u),[i64 J],(idx I z),_,_,(aaP _ y J (by omega)),wO (by omega),(k+1),_,aA.refl _ _,by omega,by omega,⟨rfl,rfl,rfl,rfl,?_,bI (by omega),trivial⟩,trivial⟩;rw[Reg.BT,A2 u,A2 z,ae (show Reg.x9 w (Reg.ay a y) (Reg.ay b y)=true by show Reg.x9 w (ay a y) (ay b y)=true;rw[W,N,D];rfl)];rfl
   apply iW<;>intro R
   ·exfalso;omega
   apply iW<;>intro V
   ·exfalso;omega
   refine⟨wO (by omega),(k+1),_,aA.refl _ _,by omega,by omega,⟨rfl,rfl,rfl,rfl,?_,bI (by omega),trivial⟩,trivial⟩;rw[Reg.BT,A2 u,A2 z,aa (show ¬Reg.x9 w (Reg.ay a y) (Reg.ay b y)=true by show ¬Reg.x9 w (ay a y) (ay b y)=true;rw[W,N,D];decide)];rfl
  apply iW<;>intro N
  ·apply iW<;>intro D
   ·apply iW<;>intro R
    ·refine⟨wO (by omega),[i64 y],(idx L u),[i64 J],(idx I z),_,_,(aaP _ y J (by omega)),wO (by omega),(k+1),_,aA.refl _ _,by omega,by omega,⟨rfl,rfl,rfl,rfl,?_,bI (by omega),trivial⟩,trivial⟩;rw[Reg.BT,A2 u,A2 z,ae (show Reg.x9 w (Reg.ay a y) (Reg.ay b y)=true by show Reg.x9 w (ay a y) (ay b y)=true;rw[N,D,R];rfl)];rfl
    apply iW<;>intro V
    ·exfalso;omega
    refine⟨wO (by omega),(k+1),_,aA.refl _ _,by omega,by omega,⟨rfl,rfl,rfl,rfl,?_,bI (by omega),trivial⟩,trivial⟩;rw[Reg.BT,A2 u,A2 z,aa (show ¬Reg.x9 w (Reg.ay a y) (Reg.ay b y)=true by show ¬Reg.x9 w (ay a y) (ay b y)=true;rw[N,D,R];decide)];rfl
   apply iW<;>intro V
   ·exfalso;omega
   refine⟨wO (by omega),(k+1),_,aA.refl _ _,by omega,by omega,⟨rfl,rfl,rfl,rfl,?_,bI (by omega),trivial⟩,trivial⟩;rw[Reg.BT,A2 u,A2 z,aa (show ¬Reg.x9 w (Reg.ay a y) (Reg.ay b y)=true by show ¬Reg.x9 w (ay a y) (ay b y)=true;rw[N,D];cases ay b y<;>decide)];rfl
  apply iW<;>intro D
  ·apply iW<;>intro R
   ·apply iW<;>intro V
    ·refine⟨wO (by omega),[i64 y],(idx L u),[i64 J],(idx I z),_,_,(aaP _ y J (by omega)),wO (by omega),(k+1),_,aA.refl _ _,by omega,by omega,⟨rfl,rfl,rfl,rfl,?_,bI (by omega),trivial⟩,trivial⟩;rw[Reg.BT,A2 u,A2 z,ae (show Reg.x9 w (Reg.ay a y) (Reg.ay b y)=true by show Reg.x9 w (ay a y) (ay b y)=true;rw[D,R,V];rfl)];rfl
    refine⟨wO (by omega),(k+1),_,aA.refl _ _,by omega,by omega,⟨rfl,rfl,rfl,rfl,?_,bI (by omega),trivial⟩,trivial⟩;rw[Reg.BT,A2 u,A2 z,aa (show ¬Reg.x9 w (Reg.ay a y) (Reg.ay b y)=true by show ¬Reg.x9 w (ay a y) (ay b y)=true;rw[D,R,V];decide)];rfl
   refine⟨wO (by omega),(k+1),_,aA.refl _ _,by omega,by omega,⟨rfl,rfl,rfl,rfl,?_,bI (by omega),trivial⟩,trivial⟩;rw[Reg.BT,A2 u,A2 z,aa (show ¬Reg.x9 w (Reg.ay a y) (Reg.ay b y)=true by show ¬Reg.x9 w (ay a y) (ay b y)=true;rw[D,R];cases ay b y<;>decide)];rfl
  refine⟨wO (by omega),(k+1),_,aA.refl _ _,by omega,by omega,⟨rfl,rfl,rfl,rfl,?_,bI (by omega),trivial⟩,trivial⟩;rw[Reg.BT,A2 u,A2 z,aa (show ¬Reg.x9 w (Reg.ay a y) (Reg.ay b y)=true by show ¬Reg.x9 w (ay a y) (ay b y)=true;simp[Reg.x9,W,N,D])];rfl
 rw[lX]at h3;refine⟨?_,trivial⟩;have L:k=X.length-1:=by omega
 rw[L,hX,ea,eb];rfl
theorem afn(w:Int)(s t:cw):(Reg.mixed w s t).length<=2*(s.length+t.length):=by
 have h1:=abo w s t (Reg.r8 s t) ((Reg.r8 s t).length-1);have h2:=mj t (Reg.q9 [] s);have u:=mj s [];simp only[kv]at u;have e:(Reg.r8 s t).length=(Reg.q9 (Reg.q9 [] s) t).length:=rfl;show (Reg.BT w s t (Reg.r8 s t) ((Reg.r8 s t).length-1)).length<=_;omega
theorem aeI(w:Int)(a b:List aB)(ys:List Int):∀k,(Reg.yk w a b ys k).length<=k:=by
 intro k
 induction k with
 | zero=>simp[Reg.yk]
 | succ k ih=>rw[Reg.yk];have:=F5 (Reg.yk w a b ys k) ⟨ys.getD k 0,ys.getD (k+1) 0,Reg.mixed w (Reg.rowOf a (ys.getD k 0)) (Reg.rowOf b (ys.getD k 0))⟩;omega
theorem ahh(w:Int)(a b:List aB)(ys:List Int):∀k,∀t∈Reg.yk w a b ys k,t.xs.length<=2*(a.length+b.length):=by
 intro k
 induction k with
 | zero=>simp[Reg.yk]
 | succ k ih=>
  rw[Reg.yk];refine Ii _ _ _ ih ?_;have h1:=afn w (Reg.rowOf a (ys.getD k 0)) (Reg.rowOf b (ys.getD k 0));have h2:=wV a (ys.getD k 0);have h3:=wV b (ys.getD k 0);show (Reg.mixed _ _ _).length<=_;omega
theorem afo(a b:List aB)(w:Int)(Hh:a.length+b.length<=4398046511104)(u:(Reg.cr (a++b)).length<=3000000000000)(hr:(Reg.aaC w a b).length<=4398046511104):ai C 122 [.pv (aE a),.pv (aE b),.pv (i64 w)] (.p (aE (Reg.aaC w a b))) []:=by
 refine FP ⟨[],[],[],[9],[],[]⟩ hC Tryz.func122 rfl (by kernel_rfl) fun _=>?_;have L:=an a rc;have N:=an b rc;refine⟨⟨T8 a,by rw[L];simp;omega,by rw[L];omega⟩,⟨T8 b,by rw[N];simp;omega,by rw[N];omega⟩,?_⟩;have O:=adr (a++b) (by rw[bJ];omega);rw[aE,E8]at O;refine⟨_,_,O,?_⟩;obtain⟨ys,D⟩:∃ys,ys=Reg.cr (a++b):=⟨_,rfl⟩;have hL:=ox (a++b);rw[<-D,bJ]at hL;rw[<-D]at u;have R:=an ys fun n=>[i64 n];refine aP (fun k:Nat=>k<=ys.length-1) (fun k=>[(0,.p (aE a)),(1,.p (aE b)),(2,.p (i64 w)),(8,.p (ints ys)),(9,.ow 9),(10,.p (i64 ((k:Int)+1)))]) (fun k=>[(9,.row 191 ((Reg.yk w a b ys k).map bd))]) (fun k=>ys.length-k) 0 _ (aA.eK hC _ 9 191 _ (by decide) rfl rfl (by decide)) (ak _) ⟨rfl,rfl,rfl,by rw[D];rfl,Z,Z,Y⟩ ⟨Z,Y⟩ fun k hk t h=>?_;have bl:=aeI w a b ys k;have bx:=ahh w a b ys k;apply iW<;>intro U
 ·rw[R]at U;obtain⟨y,u⟩:=ax (l:=ys) (i:=k) (by omega);obtain⟨V,W⟩:=ax (l:=ys) (i:=k+1) (by omega);have I:(k:Int)+1-1=(k:Nat):=by omega
  have J:(k:Int)+1=((k+1:Nat):Int):=by omega
  have ra:=wV a y;have rb:=wV b y;refine⟨wO (by omega),[i64 y],(idx I u),[i64 V],(idx J W),wO (by omega),[i64 y],(idx I u),_,_,(ad1 a y (by omega)),wO (by omega),[i64 y],(idx I u),_,_,(ad1 b y (by omega)),_,_,(ahg _ _ w (by omega)),_,_,(ads _ ⟨y,V,Reg.mixed w (Reg.rowOf a y) (Reg.rowOf b y)⟩ (by omega) (fun t z=>by have:=bx t z;omega)),wO (by omega),(k+1),_,aA.refl _ _,by omega,by omega,⟨rfl,rfl,rfl,rfl,rfl,bI (by omega),trivial⟩,⟨?_,trivial⟩⟩;rw[Reg.yk,A2 u,A2 W];rfl
 rw[R]at U;have e:k=ys.length-1:=by omega
 have z:Reg.told (Reg.yk w a b ys k)=Reg.aaC w a b:=by rw[e,D];rfl
 refine⟨_,_,(afz _ (by omega) (fun t z=>by have:=bx t z;omega) (by rw[z];exact hr)),?_,trivial⟩;rw[z]
end M
namespace Reg
def HN(l:List aB):aB:=l.getD 0 kW
def aaI(x:aB)(l:List (List aB)):Nat->Nat
 | 0=>0
 | k+1=>if before x (HN (l.getD k []))=true then aaI x l k else k+1
def aer(l:List (List aB))(r:List aB):List (List aB):=(l.take (aaI (HN r) l l.length)++[r])++l.drop (aaI (HN r) l l.length)
theorem ahW{l:List (List aB)}{r:List aB}(h:∀t,l.getLast?=some t->before (HN r) (HN t)=false):aer l r=l++[r]:=by
 have e:aaI (HN r) l l.length=l.length:=by
  cases hn:l.length with
  | zero=>rfl
  | succ k=>
   rw[aaI];have hk:l[k]?=some l[k]:=oX (by omega);rw[aa];rw[dc,hk];have:=h l[k] (by rw[jS,show l.length-1=k by omega];exact hk);simp only[Fs,this];simp
 rw[aer,e,nu,List.drop_length,aq]
def aa4(r:List aB)(s:List Bool×List (List aB))(i:Nat):List Bool×List (List aB):=
 if s.1.getD i true=true then s else ((aaB (c9 r) r.length r.length 0 (s.1.set i true,[i])).1,aer s.2 (t_ ((aaB (c9 r) r.length r.length 0 (s.1.set i true,[i])).2.map fun k=>r.getD k kW)))
def b9(r:List aB)(i:Nat):List Bool×List (List aB):=(List.range i).foldl (aa4 r) (List.replicate r.length false,[])
def abp(r:List aB):List (List aB):=(b9 r r.length).2
theorem HO(r:List aB)(i:Nat):b9 r (i+1)=aa4 r (b9 r i) i:=by simp[b9,rG,u7]
theorem agv{a b:aB}:before a b=false↔¬(a.y0<b.y0\/(a.y0=b.y0/\a.x0<b.x0)):=by
 rw[<-Bool.not_eq_true,vL]
theorem agw{l:List aB}(hl:∀r∈l,Full r){q:aB}(O:q∈l)(h:∀r∈l,q.y0<r.y0\/(q.y0=r.y0/\q.x0<=r.x0)):(HN (t_ l)).y0=q.y0/\(HN (t_ l)).x0=q.x0:=by
 obtain⟨I,J,_⟩:=b7 hl;have R:=hl q O;have z:at' (cH l) q.x0 q.y0=true:=by
  rw[J,wy];exact⟨q,O,dC.2 ⟨pq _,R.1,pq _,R.2⟩⟩
 rw[t_];cases e:cH l with
 | nil=>rw[e]at z;cases z
 | cons b s=>
  rw[e]at I J z;have hb:=I.head;cases ex:b.xs with
  | nil=>exact absurd ex hb.ne
  | cons p t=>
   have e1:HN (told (b::s))=⟨p.1,b.y0,p.2,b.y1⟩:=by simp[HN,told,ex]
   rw[e1];show b.y0=q.y0/\p.1=q.x0;have L:=hb.can;rw[ex]at L;have hp:=L.head;have V:=hb.lt;have D:at' (b::s) p.1 b.y0=true:=zb.2 ⟨b,bW,pq _,V,(dL hb.can _).2 ⟨p,by rw[ex];exact bW,pq _,hp⟩⟩;rw[J,wy]at D;obtain⟨r,W,Y⟩:=D;obtain⟨r1,r2,r3,r4⟩:=dC.1 Y;have hqr:=h r W;obtain⟨c,N,c1,c2,Z⟩:=zb.1 z;have eb:c=b:=by
    rcases L8.1 N with g | g
    ·exact g
    have:=I.j_ c g;omega
   subst eb;obtain⟨u,U,u1,u2⟩:=(dL hb.can _).1 Z;rw[ex]at U;have:p.1<=u.1:=by
    rcases L8.1 U with g | g
    ·rw[g];exact pq _
    have:=L.behind u g;omega
   omega
variable {s:List aR}
theorem aca(h:dF s):∀i,i<=(told s).length ->
  (b9 (told s) i).1=((List.range i).foldl (aaR (c9 (told s)) (told s).length) (List.replicate (told s).length false,[])).1 /\
  (b9 (told s) i).2=((List.range i).foldl (aaR (c9 (told s)) (told s).length) (List.replicate (told s).length false,[])).2.map fun L=>t_ (L.map fun k=>(told s).getD k kW)
 | 0,_=>⟨rfl,rfl⟩
 | i+1,hi=>by
  obtain⟨O,N⟩:=aca h i (by omega);have V:=afO h;obtain⟨_,_,M,R,m2⟩:=abW V i (by omega);obtain⟨_,_,M',D,I⟩:=abW V (i+1) hi;rw[HO];have W:(List.range (i+1)).foldl (aaR (c9 (told s)) (told s).length) (List.replicate (told s).length false,[])=aaR (c9 (told s)) (told s).length ((List.range i).foldl (aaR (c9 (told s)) (told s).length) (List.replicate (told s).length false,[])) i:=by
   rw[rG,u7];rfl
  rw[W]at D ⊢;generalize (List.range i).foldl (aaR (c9 (told s)) (told s).length) (List.replicate (told s).length false,[])=w at O N R D ⊢;generalize b9 (told s) i=v at O N ⊢;rw[aa4,aaR]at *;rw[O];by_cases c:w.1.getD i true=true
  ·rw[ae c,ae c];exact⟨O,N⟩
  rw[aa c]at D ⊢;rw[aa c];refine⟨rfl,?_⟩;generalize aaB (c9 (told s)) (told s).length (told s).length 0 (w.1.set i true,[i])=z at D ⊢;show aer v.2 (t_ (z.2.map _))=_;have J:∀k,k<(told s).length->(told s)[k]?=some ((told s).getD k kW):=fun k hk=>by rw[dc,oX hk];rfl
  have fl:=nW h;have ord:∀a b,a<b->b<(told s).length->before ((told s).getD a kW) ((told s).getD b kW)=true:=fun a b h1 h2=>by
   obtain⟨a1,a2⟩:=az.1 (J a (by omega));obtain⟨b1,b2⟩:=az.1 (J b h2);have:=FZ.1 (Lk h) a b a1 b1 h1;rw[a2,b2]at this;exact this
  have hd:∀(r:Nat) (L:List Nat),r<(told s).length->kV (ET s) r=r->(∀k,k∈L↔k<(told s).length/\kV (ET s) k=r)->
    (HN (t_ (L.map fun k=>(told s).getD k kW))).y0=((told s).getD r kW).y0/\(HN (t_ (L.map fun k=>(told s).getD k kW))).x0=((told s).getD r kW).x0:=fun r L U hp Y=>by
   refine agw (fun q Z=>?_) (aZ.2 ⟨r,(Y r).2 ⟨U,hp⟩,rfl⟩) fun q Z=>?_
   ·obtain⟨k,hk,rfl⟩:=aZ.1 Z;exact fl _ (aj (J k ((Y k).1 hk).1))
   obtain⟨k,hk,rfl⟩:=aZ.1 Z;obtain⟨k1,k2⟩:=(Y k).1 hk;have:=V.tops.le k k1;by_cases e:r=k
   ·subst e;exact .inr ⟨rfl,pq _⟩
   have:=vL.1 (ord r k (by omega) k1);omega
  have u:w.2++[z.2]=(dy (kV (ET s)) (i+1)).map M':=D;rw[kp]at u I;by_cases pi:kV (ET s) i=i
  ·rw[ae pi]at u I;rw[E8]at u;have zi:=(List.append_inj u (by rw[R];simp)).2;have zi:z.2=M' i:=by simpa using zi
   have mz:=I i (tJ _ (Fp.2 rfl));rw[<-zi]at mz;rw[ahW,N,E8]
   ·rfl
   intro t ht;rw[N,R,Mu]at ht;obtain⟨r,U,rfl⟩:=aZ.1 (List.mem_of_getLast? ht);obtain⟨r1,r2⟩:=mem_keys.1 U;obtain⟨a1,a2⟩:=hd i z.2 (by omega) pi mz;obtain⟨b1,b2⟩:=hd r (M r) (by omega) r2 (m2 r U);have o:=vL.1 (ord r i r1 (by omega));rw[agv];simp only[Function.comp]at *;omega
  rw[aa pi]at u;have:=ar List.length u;rw[R]at this;simp at this
theorem acJ(h:dF s):abp (told s)=(iO s).map told:=by
 rw[abp,(aca h _ (aG _)).2,<-afj h];rfl
theorem aes(h:dF s):cH (told s)=s:=by
 obtain⟨u,z,_⟩:=b7 (nW h);exact Cx _ _ u h fun x y=>by rw[z,Ct h]
theorem aiW{t:List aR}(u:dF s)(z:dF t):aaC 3 (told s) (told t)=told (iL s t):=by rw[aaC,ahf (nW u) (nW z),aes u,aes z]
theorem aet{K:Nat}:∀{l:List Int} {a:Int},ct (a::l)->(∀y∈a::l,y<=K)->(l.length:Int)<=K-a
 | [],a,_,h=>by have:=h a (by simp);simp only[kv];omega
 | b::l,a,hr,h=>by
  have ih:=aet (l:=l) (a:=b) (pw.1 hr).2 (fun y u=>h y (by simp at u ⊢;exact .inr u));have h1:=(pw.1 hr).1 b (by simp);simp only[bN];omega
theorem aeY{l:List aB}{K:Nat}(I:∀r∈l,Full r)(hk:∀r∈l,RK K r):(cr l).length<=2*K+1:=by
 obtain⟨J,L⟩:=gY l;have z:∀y∈cr l,-(K:Int)<=y/\y<=K:=fun y u=>by
  obtain⟨r,D,e⟩:=(L y).1 u;have a:=I r D;obtain⟨b1,b2,b3,b4⟩:=hk r D;have:=a.2;rcases e with e | e<;>omega
 generalize cr l=ys at *;cases ys with
 | nil=>simp
 | cons a ys=>
  have h4:=aet J fun y u=>(z y u).2;have h5:=(z a (by simp)).1;simp only[bN];omega
theorem aix(h:dF s)(u:s≠[]):told s≠[]:=fun e=>u (ahL h e)
theorem acK{l:List aB}(z:∀r∈l,Full r)(I:l≠[]):t_ l≠[]:=by
 obtain⟨J,L,_⟩:=b7 z;refine aix J fun e=>?_;cases l with
 | nil=>exact I rfl
 | cons r l=>
  have u:=L r.x0 r.y0;rw[e]at u;have D:=z r (by simp);have N:oV r.x0 r.y0 r=true:=dC.2 ⟨by omega,D.1,by omega,D.2⟩;rw[uc,N,Ft]at u;cases u
def YIn(YQ:List Int)(l:List aB):Prop:=∀r∈l,r.y0∈YQ/\r.y1∈YQ
theorem getD_in{ys:List Int}{k:Nat}(h:k<ys.length):ys.getD k 0∈ys:=by
 rw[dc,oX h];exact na h
theorem YIn.mono{u z:List Int}{l:List aB}(h:YIn u l)(k:∀y∈u,y∈z):YIn z l:=fun r D=>⟨k _ (h r D).1,k _ (h r D).2⟩
end Reg
namespace M
open Go.AM Go.RowKit
open Reg (aB cw aR dF gy Full RK told cH aaC iL)
theorem afX(a b:List aB)(u:a.length+b.length<=4398046511104)(z:(Reg.cr (a++b)).length<=3000000000000)(D:(aaC 3 a b).length<=4398046511104):ai C 63 [.pv (aE a),.pv (aE b)] (.p (aE (aaC 3 a b))) []:=by
 refine fW hC Tryz.func63 rfl (by kernel_rfl) fun _=>?_;refine⟨_,_,(afo a b 3 u z D),?_,trivial⟩;rfl
theorem afY{s t:List aR}(z:dF s)(D:dF t)(ks:gy 1400000 s)(I:gy 1400000 t):(Reg.cr (told s++told t)).length<=3000000000000:=by
 have:=Reg.aeY (K:=1400000) (l:=told s++told t) (fun r u=>by
  rcases fC.1 u with h | h
  ·exact Reg.nW z r h
  ·exact Reg.nW D r h) (fun r u=>by
  rcases fC.1 u with h | h
  ·exact Reg.ux z ks r h
  exact Reg.ux D I r h)
 omega
theorem ahX{s t:List aR}(u:dF s)(z:dF t)(ks:gy 1400000 s)(D:gy 1400000 t)(I:(told s).length+(told t).length<=4398046511104):ai C 63 [.pv (aE (told s)),.pv (aE (told t))] (.p (aE (told (iL s t)))) []:=by
 obtain⟨J,a2,L⟩:=Reg.oC u z;have h:=afX (told s) (told t) I (afY u z ks D) (by rw[Reg.aiW u z];exact Reg.aav J (L _ ks D))
 rwa [Reg.aiW u z]at h
theorem aeZ{l:List aB}(u:∀r∈l,Full r)(hk:∀r∈l,RK 1400000 r)(z:l.length<=4398046511104):ai C 64 [.pv (aE l)] (.p (aE (told (cH l)))) []:=by
 obtain⟨D,_,I⟩:=Reg.b7 u;have hh:=Reg.aeY (K:=1400000) u hk;exact ab8 l z (by omega) (Reg.aav D (I _ hk))
end M
namespace Reg
end Reg
namespace M
open Go.AM Go.RowKit Go.Lib
open Reg (aB Full VQ uD)
def adT(r:aB):Prop:=(-4611686018427387000<=r.x0/\r.x0<=4611686018427387000)/\(-4611686018427387000<=r.y0/\r.y0<=4611686018427387000)/\(-4611686018427387000<=r.x1/\r.x1<=4611686018427387000)/\(-4611686018427387000<=r.y1/\r.y1<=4611686018427387000)
open Reg (aR dF told cH t_ py q8 HG c9 HN kW aaI aer aaW abi aaB abL aa4 b9 abp)
def rgs(l:List (List aB)):PV:=.sl (l.map fun r=>[aE r])
theorem ahj(a b:aB)(J:adT a)(hb:adT b):ai C 65 [.pv (.ag (rc a)),.pv (.ag (rc b))] (.p (bool (HG a b))) []:=by
 unfold adT at J hb;refine fW hC Tryz.func65 rfl (by kernel_rfl) fun _=>?_;refine⟨wO (by omega),wO (by omega),?_⟩;have e:HG a b=((decide (0<min a.x1 b.x1-max a.x0 b.x0)&&decide (0<=min a.y1 b.y1-max a.y0 b.y0))||(decide (0<=min a.x1 b.x1-max a.x0 b.x0)&&decide (0<min a.y1 b.y1-max a.y0 b.y0))):=rfl;rw[e];generalize min a.x1 b.x1-max a.x0 b.x0=u;generalize min a.y1 b.y1-max a.y0 b.y0=v;apply iW<;>intro z
 ·apply iW<;>intro I
  ·refine⟨?_,trivial⟩;simp[bool,z,I]
  apply iW<;>intro D
  ·refine⟨?_,trivial⟩;simp[bool,z,I,D]
  refine⟨?_,trivial⟩;simp[bool,z,I,D]
 apply iW<;>intro D
 ·refine⟨?_,trivial⟩;simp[bool,z,D]
 refine⟨?_,trivial⟩;simp[bool,z,D]
theorem acL(l:List (List aB)):∀r∈l.map (fun r=>[aE r]),r.length=1:=by
 intro r u;obtain⟨n,_,rfl⟩:=aZ.1 u;rfl
theorem ag3{r:List aB}{x:aB}(h:r[0]?=some x):HN r=x:=by rw[HN,dc,h];rfl
theorem agx(l:List (List aB))(r:List aB)(U:r≠[])(hl:∀q∈l,q≠[])(hN:l.length<=1000000):ai C 66 [.pv (rgs l),.pv (aE r)] (.p (rgs (aer l r))) []:=by
 refine FP ⟨[],[0],[],[],[],[]⟩ hC Tryz.func66 rfl (by kernel_rfl) fun _=>?_;have u:=an l fun r=>[aE r];obtain⟨x,L⟩:=ax (l:=r) (i:=0) (by cases r with | nil=>exact absurd rfl U | cons _ _=>simp);refine Ak (fun k:Nat=>k<=l.length/\aaI (HN r) l l.length=k) (fun k=>[(0,.p (rgs l)),(1,.p (aE r)),(5,.p (i64 k))]) (fun _=>[]) (fun k hk t h=>?_) ?_
 ·obtain⟨N,D⟩:=hk;have hp:aer l r=(l.take k++[r])++l.drop k:=by rw[aer,D]
  refine⟨⟨by decide,by omega,by rw[u];omega,acL l⟩,⟨x8 (acL l),by simp only[lU,cE,u];omega,by simp only[lU,cE,u];omega⟩,⟨by simp,by simp[u];omega,by simp[u];omega⟩,⟨by omega,by rw[u];omega,by omega,acL l⟩,⟨x8 (acL l),by simp[u];omega,by simp[u];omega⟩,?_,trivial⟩;rw[hp];simp[rgs,cS,fI];rw[kG (by simp)]
 refine aP (fun k:Nat=>k<=l.length/\aaI (HN r) l l.length=aaI (HN r) l k) (fun k=>[(0,.p (rgs l)),(1,.p (aE r)),(5,.p (i64 k))]) (fun _=>[]) (fun k=>k) l.length _ (aA.refl _ _) ⟨aG _,rfl⟩ ⟨rfl,rfl,ar (fun m:Nat=>AV.p (i64 m)) u,trivial⟩ trivial fun k hk t h=>?_;obtain⟨N,D⟩:=hk;apply iW<;>intro h1
 ·obtain⟨m,rfl⟩:∃m,k=m+1:=⟨k-1,by omega⟩;obtain⟨q,I⟩:=ax (l:=l) (i:=m) (by omega);have J:=hl q (aj I);obtain⟨z,O⟩:=ax (l:=q) (i:=0) (by cases q with | nil=>exact absurd rfl J | cons _ _=>simp);have hp:aaI (HN r) l (m+1)=if Reg.before x z=true then aaI (HN r) l m else m+1:=by
   rw[aaI,ag3 L,dc,I,Fs,ag3 O]
  refine⟨(rc x),(idx (i:=0) rfl L),wO (by omega),[aE q],(idx (show ((m+1:Nat):Int)-1=(m:Nat) by omega) I),(rc z),(idx (i:=0) rfl O),_,_,(ad7 x z),iW ?_ ?_⟩<;>intro R
  ·rw[ae R]at hp;exact⟨wO (by omega),m,_,aA.refl _ _,⟨by omega,by rw[D,hp]⟩,by omega,⟨rfl,rfl,bI (by omega),trivial⟩,trivial⟩
  rw[aa (by rw[R];decide)]at hp;refine⟨m+1,⟨N,by rw[D,hp]⟩,⟨Z,Z,Z,Y⟩,trivial⟩
 have e:k=0:=by omega
 subst e;refine⟨0,⟨ak _,by rw[D];rfl⟩,⟨Z,Z,Z,Y⟩,trivial⟩
end M
namespace Reg
variable {D0:List Bool}
theorem aco{n:Nat}{i:Nat}(hl:D0.length=n)(hi:i<n)(u:D0.getD i true=false):abL n D0 (D0.set i true,[i]):=
 ⟨by show (D0.set i true).length=n;rw[aQ,hl],by simp,fun k hk=>by rw[Fp.1 hk];exact⟨hi,u⟩,fun k hk=>by
  show (D0.set i true).getD k true=true↔_;rw[L2 (by rw[hl];exact hi),Fp];by_cases e:k=i<;>simp[e]⟩
theorem acM{n:Nat}(q:Nat->Nat->Bool):∀(f i:Nat) (s:List Bool×List Nat),abL n D0 s->abL n D0 (aaB q n f i s)/\∃t,(aaB q n f i s).2=s.2++t
 | 0,i,s,h=>⟨h,[],by simp[aaB]⟩
 | f+1,i,s,h=>by
  rw[aaB];split
  ·obtain⟨u,_,z,D⟩:=ac_ (q:=q (s.2.getD i 0)) (List.range n) s h (fun k hk=>wx.1 hk);obtain⟨I,J,L⟩:=acM q f (i+1) (abi (q (s.2.getD i 0)) n s) u;refine⟨I,z++J,?_⟩;rw[L,abi,D,d_]
  exact⟨h,[],by simp⟩
theorem aeu(r:List aB):∀i,(b9 r i).2.length<=i
 | 0=>by simp[b9]
 | i+1=>by
  have h:=aeu r i;rw[HO,aa4];split
  ·omega
  simp only[aer,bJ,cE,lU,ij];omega
theorem abO(r:List aB):∀i,i<=r.length->(b9 r i).1.length=r.length
 | 0,_=>by simp[b9]
 | i+1,hi=>by
  have ih:=abO r i (by omega);rw[HO,aa4];split
  ·exact ih
  rename_i u;exact (acM _ _ _ _ (aco ih (by omega) (by simpa using u))).1.len
theorem ahZ{r:List aB}{s:List Bool×List Nat}(b:abL r.length D0 s):∀q∈s.2.map (fun k=>r.getD k kW),q∈r:=fun q u=>by
 obtain⟨k,hk,rfl⟩:=aZ.1 u;have:=(b.mem k hk).1;rw[dc,oX this];exact na this
theorem piece_ne{r:List aB}(h:∀q∈r,Full q):∀i,i<=r.length->∀q∈(b9 r i).2,q≠[]
 | 0,_=>fun q z=>by simp[b9]at z
 | i+1,hi=>fun q z=>by
  have ih:=piece_ne h i (by omega);rw[HO,aa4]at z;split at z
  ·exact ih q z
  rename_i J;have D:q∈(b9 r i).2\/q=t_ ((aaB (c9 r) r.length r.length 0 ((b9 r i).1.set i true,[i])).2.map fun k=>r.getD k kW):=by
   simp only[aer,fC,Fp]at z;rcases z with (z | z) | z
   ·exact .inl (Ay z)
   ·exact .inr z
   exact .inl (fY z)
  rcases D with D | D
  ·exact ih q D
  rw[D];have L:=aco (n:=r.length) (D0:=(b9 r i).1) (i:=i) (abO r i (by omega)) (by omega) (by simpa using J);obtain⟨N,t,I⟩:=acM (c9 r) r.length 0 _ L;refine acK (fun u O=>h u (ahZ N u O)) fun e=>?_;rw[MV]at e;rw[e]at I;exact absurd I (by simp)
theorem aiy(q:Nat->Nat->Bool)(n f i:Nat)(s:List Bool×List Nat)(h:¬i<s.2.length):aaB q n f i s=s:=by
 cases f with
 | zero=>rfl
 | succ f=>rw[aaB,aa h]
theorem aev{n k:Nat}(h:k<n):(List.range n).drop k=k::(List.range n).drop (k+1):=by
 rw[l_ (by simpa using h),List.getElem_range]
end Reg
namespace M
open Go.AM Go.RowKit Go.Lib
open Reg (aB aR dF gy Full RK told cH t_ HG c9 HN kW aer aaW abi aaB abL aa4 b9 abp)
def bits(l:List Bool):List (List PV):=l.map fun b=>[bool b]
theorem aa_(l:List Bool):(bits l).length=l.length:=E5 ..
theorem aaD{l:List Bool}{i:Int}{k:Nat}{b:Bool}(h:i=k)(u:l[k]?=some b):(bits l)[i.toNat]?=some [bool b]:=by
 rw[h,FY,bits,aD,u];rfl
theorem abP(l:List Bool)(k:Nat)(b:Bool):(bits l).set k [bool b]=bits (l.set k b):=by rw[bits,bits,w_]
def abQ(r:List aB)(o:List Nat):List (List PV):=(o.map fun k=>r.getD k kW).map rc
theorem ae0(r:List aB)(o:List Nat):(abQ r o).length=o.length:=by rw[abQ,E5,E5]
theorem ahk{r:List aB}{o:List Nat}{i:Int}{k m:Nat}{q:aB}(h:i=k)(u:o[k]?=some m)(z:r[m]?=some q):(abQ r o)[i.toNat]?=some (rc q):=by
 rw[h,FY,abQ,aD,aD,u];simp only[mZ,dc,z,Fs]
theorem agy{r:List aB}{o:List Nat}{m:Nat}{q:aB}(u:r[m]?=some q):abQ r o++[rc q]=abQ r (o++[m]):=by
 rw[abQ,abQ,E8,E8,Bi,Bi,dc,u,Fs]
theorem aba{l:List Bool}{k:Nat}{b d:Bool}(h:l[k]?=some b):l.getD k d=b:=by rw[dc,h];rfl
theorem adh{l:List aB}{k:Nat}{b d:aB}(h:l[k]?=some b):l.getD k d=b:=by rw[dc,h];rfl
structure aew(r:List aB):Prop where
 few:r.length<=2000
 full:∀q∈r,Full q
 inK:∀q∈r,RK 1400000 q
theorem ah0{r:List aB}(h:aew r){q:aB}(u:q∈r):adT q:=by
 have z:=h.full q u;have D:=h.inK q u;unfold RK at D;unfold Full at z;unfold adT;omega
theorem acQ(r:List aB)(ok:aew r):ai C 26 [.pv (aE r)] (.p (rgs (abp r))) []:=by
 have lm:=an r rc;have few:=ok.few;refine fW hC Tryz.func26 rfl (by kernel_rfl) fun _=>?_;refine⟨⟨by omega,by omega,by dsimp only;omega,by omega⟩,?_⟩;have h0:(List.replicate (r.map rc).length [bool false])=bits (b9 r 0).1:=by rw[bits,b9];simp
 refine aP (fun i:Nat=>i<=r.length) (fun i=>[(0,.p (aE r)),(3,.ow 3),(4,.p (rgs (b9 r i).2)),(5,.p (i64 i))]) (fun i=>[(3,.row 4 (bits (b9 r i).1))]) (fun i=>r.length-i) 0 _ (aA.nil hC _ 4 rfl) (ak _) ⟨Z,Z,Z,Z,Y⟩ ⟨ar (AB.row _) h0,trivial⟩ fun i hi t h=>?_;apply iW<;>intro h1
 ·rw[lm]at h1;have hd:=Reg.abO r i hi;have qH:=Reg.aeu r i;have I:=Reg.piece_ne ok.full i hi;have J:=Reg.HO r i;obtain⟨d,u⟩:=ax (l:=(b9 r i).1) (i:=i) (by omega);obtain⟨q0,W⟩:=ax (l:=r) (i:=i) (by omega);generalize b9 r i=s at *;obtain⟨D0,L⟩:=s;have hd:D0.length=r.length:=hd;have qH:L.length<=i:=qH;have I:∀q∈L,q≠[]:=I;have u:D0[i]?=some d:=u;have lD:=aa_ D0;have eD:=aba (d:=true) u;refine⟨⟨by omega,by dsimp only;omega⟩,[bool d],(aaD rfl u),iW ?_ ?_⟩<;>intro h2
  ·rw[aa4,ae (by rw[eD];exact h2)]at J;exact⟨wO (by omega),(i+1),_,aA.refl _ _,by omega,by omega,⟨rfl,rfl,by rw[J];rfl,Z,Y⟩,⟨by rw[J];rfl,trivial⟩⟩
  have hdf:D0.getD i true=false:=by rw[eD];simpa using h2
  have wh:=Reg.aco (n:=r.length) hd (by omega) hdf;obtain⟨F,hF⟩:∃F,F=aaB (c9 r) r.length r.length 0 (D0.set i true,[i]):=⟨_,rfl⟩;rw[aa4,aa (by rw[hdf];decide),<-hF]at J;refine⟨⟨by omega,by dsimp only;omega⟩,[bool d],(aaD rfl u),(rc q0),(idx rfl W),?_⟩;refine aP (fun x:Nat×List Bool×List Nat=>aaB (c9 r) r.length (r.length-x.1) x.1 x.2=F/\abL r.length D0 x.2/\x.1<=x.2.2.length) (fun x=>[(0,.p (aE r)),(3,.ow 3),(4,.p (rgs L)),(5,.p (i64 i)),(6,.ow 6),(7,.p (i64 x.1))]) (fun x=>[(3,.row 4 (bits x.2.1)),(6,.row 90 (abQ r x.2.2))]) (fun x=>r.length-x.1) (0,D0.set i true,[i]) _ (aA.refl _ _) ⟨hF.symm,wh,ak _⟩ ⟨Z,Z,Z,Z,Z,Z,Y⟩ ⟨ar (AB.row _) (abP D0 i true),ar (AB.row _) (by rw[abQ,Bi,adh W];rfl),trivial⟩ fun ⟨at',D,o⟩ hx t h=>?_;obtain⟨x1,x2,x3⟩:=hx;simp only at x1 x2 x3;have lo:=ae0 r o;have ole:=x2.le;simp only at ole;apply iW<;>intro h3<;>try simp only[zB]at h3
  ·rw[lo]at h3;obtain⟨m,hm⟩:=ax (l:=o) (i:=at') (by omega);have hmn:=(x2.mem m (aj hm)).1;obtain⟨qm,N⟩:=ax (l:=r) (i:=m) hmn;have ah1:aaB (c9 r) r.length (r.length-at') at' (D,o)=aaB (c9 r) r.length (r.length-(at'+1)) (at'+1) (abi (c9 r m) r.length (D,o)):=by
    rw[show r.length-at'=(r.length-(at'+1))+1 by omega,aaB,ae (by simp only;omega),dc,hm];rfl
   rw[ah1]at x1;refine aP (fun y:Nat×List Bool×List Nat=>((List.range r.length).drop y.1).foldl (aaW (c9 r m)) y.2=abi (c9 r m) r.length (D,o)/\abL r.length D0 y.2/\y.2.2[at']?=some m/\y.1<=r.length) (fun y=>[(0,.p (aE r)),(3,.ow 3),(4,.p (rgs L)),(5,.p (i64 i)),(6,.ow 6),(7,.p (i64 at')),(8,.p (i64 y.1))]) (fun y=>[(3,.row 4 (bits y.2.1)),(6,.row 90 (abQ r y.2.2))]) (fun y=>r.length-y.1) (0,D,o) _ (aA.refl _ _) ⟨rfl,x2,hm,ak _⟩ ⟨Z,Z,Z,Z,Z,Z,Z,Y⟩ ⟨Z,Z,Y⟩ fun ⟨k,E,p⟩ hy t h=>?_;obtain⟨y1,y2,y3,y4⟩:=hy;simp only at y1 y2 y3 y4;have lp:=ae0 r p;have lE:=aa_ E;have eE:E.length=r.length:=y2.len;have ple:=y2.le;simp only at ple;have ajH:=(az.1 y3).1;apply iW<;>intro O<;>try simp only[zB]at O
   ·rw[lm]at O;have O:k<r.length:=by omega
    obtain⟨e,he⟩:=ax (l:=E) (i:=k) (by omega);obtain⟨qk,z⟩:=ax (l:=r) (i:=k) (by omega);have gE:=aba (d:=true) he;have htn:c9 r m k=HG qm qk:=by rw[c9,adh N,adh z]
    rw[Reg.aev O,jN]at y1;obtain⟨R,_,tl,b3⟩:=Reg.agW (q:=c9 r m) y2 O;have U:(aaW (c9 r m) (E,p) k).2[at']?=some m:=by rw[b3,dN ajH];exact y3
    refine⟨⟨by omega,by dsimp only;omega⟩,[bool e],(aaD rfl he),iW ?_ ?_⟩<;>intro V
    ·have V:e=false:=by simpa using V
     refine⟨⟨by omega,by dsimp only;omega⟩,(rc qm),(ahk rfl y3 N),(rc qk),(idx rfl z),_,_,(ahj qm qk (ah0 ok (List.mem_of_getElem? N)) (ah0 ok (List.mem_of_getElem? z))),iW ?_ ?_⟩<;>intro h6
     ·have hk:aaW (c9 r m) (E,p) k=(E.set k true,p++[k]):=by rw[aaW,ae ⟨by simp only;rw[gE,V],by rw[htn,h6]⟩]
      rw[hk]at y1 R U;exact⟨⟨by omega,by dsimp only;omega⟩,[bool e],(aaD rfl he),(rc qk),(idx rfl z),⟨fun r hr=>by simp at hr;subst hr;rfl,by simp only[lp,List.length_cons,List.length_nil,List.length_set,List.length_replicate];omega,by simp only[lp,List.length_cons,List.length_nil,List.length_set,List.length_replicate];omega⟩,wO (by omega),(k+1,E.set k true,p++[k]),_,aA.refl _ _,⟨y1,R,U,by simp only;omega⟩,by simp only;omega,⟨Z,Z,Z,Z,Z,Z,Z,Y⟩,⟨congrArg (AB.row _) (abP E k true),congrArg (AB.row _) (agy z),trivial⟩⟩
     have hk:aaW (c9 r m) (E,p) k=(E,p):=by rw[aaW,aa (fun c=>by rw[htn,h6]at c;exact absurd c.2 (by decide))]
     rw[hk]at y1 R U;exact⟨wO (by omega),(k+1,E,p),_,aA.refl _ _,⟨y1,R,U,by simp only;omega⟩,by simp only;omega,⟨Z,Z,Z,Z,Z,Z,Z,Y⟩,⟨Z,Z,Y⟩⟩
    have V:e=true:=by simpa using V
    have hk:aaW (c9 r m) (E,p) k=(E,p):=by rw[aaW,aa (fun c=>by simp only at c;rw[gE,V]at c;exact absurd c.1 (by decide))]
    rw[hk]at y1 R U;exact⟨wO (by omega),(k+1,E,p),_,aA.refl _ _,⟨y1,R,U,by simp only;omega⟩,by simp only;omega,⟨Z,Z,Z,Z,Z,Z,Z,Y⟩,⟨Z,Z,Y⟩⟩
   rw[lm]at O;rw[jR (by rw[xF];omega)]at y1;have y1:(E,p)=abi (c9 r m) r.length (D,o):=y1;rw[<-y1]at x1;exact⟨wO (by omega),(at'+1,E,p),_,aA.refl _ _,⟨x1,y2,by simp only;omega⟩,by simp only;omega,⟨Z,Z,Z,Z,Z,Z,Y⟩,⟨Z,Z,Y⟩⟩
  rw[lo]at h3;rw[Reg.aiy _ _ _ _ _ (by simpa using h3)]at x1;rw[<-x1]at J;have own:=Reg.ahZ x2;have nem:(o.map fun k=>r.getD k kW)≠[]:=fun e=>by
   rw[MV]at e;obtain⟨_,t,c2⟩:=Reg.acM (c9 r) r.length 0 _ wh;rw[<-hF,<-x1,e]at c2;exact absurd c2 (by simp)
  have ajb:=aeZ (l:=o.map fun k=>r.getD k kW) (fun q hq=>ok.full q (own q hq)) (fun q hq=>ok.inK q (own q hq)) (by rw[E5];omega);have als:=agx L (t_ (o.map fun k=>r.getD k kW)) (Reg.acK (fun q hq=>ok.full q (own q hq)) nem) I (by omega);exact⟨_,_,ajb,_,_,als,wO (by omega),(i+1),_,aA.refl _ _,by omega,by omega,⟨rfl,rfl,by rw[J];rfl,Z,Y⟩,⟨by rw[J];rfl,trivial⟩⟩
 rw[lm]at h1;have e:i=r.length:=by omega
 refine⟨?_,trivial⟩;rw[e];rfl
open Reg (iL iO dq oW yr Piece bM ew through dm mE kX gf Jj pN ny n9 jj VV)
variable {bs:List dq}
theorem agz{i:Nat}{b:dq}(k:Int)(h:bs[i]?=some b):dm (bs.take (i+1)) k=if through b k=true then dm (bs.take i) k++[bM b] else dm (bs.take i) k:=by
 rw[bq h,dm,dm,nt,E8];by_cases c:through b k=true
 ·rw[ae c,kJ,ae c];rfl
 rw[aa c,kJ,aa c];simp
theorem Pm(bs:List dq)(k:Int):(dm bs k).length<=bs.length:=by rw[dm,E5];exact wH _ _
structure ae1(bs:List dq):Prop where
 few:bs.length<=500
 ok:∀b∈bs,ew b=true
theorem ah2(h:∀b∈bs,ew b=true)(k:Int):(∀q∈dm bs k,Full q)/\∀q∈dm bs k,RK 1400000 q:=by
 refine⟨fun q u=>?_,fun q u=>?_⟩
 ·obtain⟨b,hb,rfl⟩:=aZ.1 u;exact Reg.mC (h b (l5.1 hb).1)
 obtain⟨b,hb,rfl⟩:=aZ.1 u;have:=Reg.uC (h b (l5.1 hb).1);unfold RK at this ⊢;omega
theorem adM{r:List aB}(h:Reg.bA r=0):told (cH r)=r:=by
 unfold Reg.bA at h;split at h
 ·split at h
  ·split at h
   ·assumption
   cases h
  cases h
 rename_i c;exact absurd h c
theorem abR(a:yr)(ok:ae1 a.bores)(k:Nat)(r:List aB)(z:a.coppers[k]?=some r)(D:Reg.bA r=0):ai C 25 [.pv (.ag (uR a)),.pv (i64 k)] (.p (aE (told (mE a.bores k r)))) []:=by
 have lb:=an a.bores bc;have few:=ok.few;have J:=aff D;have dr:=C6 ok.ok few k D;obtain⟨O,hk⟩:=ah2 ok.ok (k:Int);obtain⟨R,_,U⟩:=Reg.b7 O;have hl:=Pm a.bores k;have L:=aeZ O hk (by omega);have SY:=Reg.aav R (U _ hk);have u:=ahX J.sok R (J.ink.up (by omega)) (U _ hk) (by
  have:=J.len;rw[adM D];have N:=ab_ (dm a.bores k) (by omega);have h3:(told (cH (dm a.bores k))).length<=500*1000000*2:=by
   have e:=zP (Reg.dw (dm a.bores k) (Reg.cr (dm a.bores k)) ((Reg.cr (dm a.bores k)).length-1)) (fun t W=>by have:=KP (dm a.bores k) (Reg.cr (dm a.bores k)) _ t W;omega);have e2:=sS (dm a.bores k) (Reg.cr (dm a.bores k)) ((Reg.cr (dm a.bores k)).length-1);have e3:=ox (dm a.bores k);have e4:(Reg.dw (dm a.bores k) (Reg.cr (dm a.bores k)) ((Reg.cr (dm a.bores k)).length-1)).length*1000000<=1000*1000000:=cq _ (by omega);have e5:told (cH (dm a.bores k))=told (Reg.dw (dm a.bores k) (Reg.cr (dm a.bores k)) ((Reg.cr (dm a.bores k)).length-1)):=rfl;rw[e5];omega
  omega)
 rw[adM D]at u;refine FP ⟨[7],[],[],[],[],[]⟩ hC Tryz.func25 rfl (by kernel_rfl) fun _=>?_;refine aP (fun i:Nat=>i<=a.bores.length) (fun i=>[(1,.p (i64 k)),(2,.bx 2 0),(5,.ow 5),(6,.p (i64 i))]) (fun i=>[(2,.box ((uR a).map .p)),(5,.row 90 ((dm (a.bores.take i) k).map rc))]) (fun i=>a.bores.length-i) 0 _ (aA.eK hC _ 5 90 _ (by decide) rfl rfl (by decide)) (ak _) ⟨Z,Z,Z,Z,Y⟩ ⟨Z,Z,Y⟩ fun i hi t h=>?_;have V:=an (dm (a.bores.take i) k) rc;have Hd:=Pm (a.bores.take i) k;rw[cE]at Hd;apply iW<;>intro h1
 ·obtain⟨b,hb⟩:=ax (l:=a.bores) (i:=i) (by omega);have I:=agz (k:Int) hb;refine⟨(bc b),(idx rfl hb),_,_,(abn b k),iW ?_ ?_⟩<;>intro N
  ·rw[ae N]at I;exact⟨(bc b),(idx rfl hb),_,_,(tn b (ok.ok b (aj hb))),⟨fun r z=>by simp at z;subst z;rfl,by simp only[V,bN,kv,aQ,bX];omega,by simp only[V,bN,kv,aQ,bX];omega⟩,wO (by omega),(i+1),_,aA.refl _ _,by omega,by omega,⟨Z,Z,Z,Z,Y⟩,⟨rfl,by rw[I,E8];rfl,trivial⟩⟩
  rw[aa (by rw[N];decide)]at I;exact⟨wO (by omega),(i+1),_,aA.refl _ _,by omega,by omega,⟨Z,Z,Z,Z,Y⟩,⟨rfl,by rw[I];rfl,trivial⟩⟩
 have e:a.bores.take i=a.bores:=kG (by omega);rw[e]at *;refine abA (aA.own (by exact hC) _ 5 (id:=5) (by exact rfl) (by exact rfl)) ?_;refine⟨[aE r],(idx rfl z),_,_,L,_,_,u,?_,trivial⟩;rfl
open Reg (b8 jJ Ng)
theorem agA{i:Nat}(hi:i<bs.length)(h:n9 bs i=true):jj bs 0=true:=by
 rw[jj,wy];exact⟨i,by rw[List.mem_range'_1];omega,h⟩
theorem ahl(h:∀i,i<bs.length->n9 bs i=false):jj bs 0=false:=by
 rw[jj,Bc];intro i hi;rw[List.mem_range'_1]at hi;rw[h i (by omega)];decide
theorem aiz{i k:Nat}{x y:dq}(u:bs[i]?=some x)(hk:k<i)(z:bs[k]?=some y)(h:ny x y=true):n9 bs i=true:=by
 rw[n9,wy];refine⟨y,aj (i:=k) (by rw[dM,ae hk,z]),?_⟩;rw[dc,u];exact h
theorem ajc{i:Nat}{x:dq}(u:bs[i]?=some x)(h:∀k y,k<i->bs[k]?=some y->ny x y=false):n9 bs i=false:=by
 rw[n9,Bc];intro y z;obtain⟨k,hk⟩:=ca.1 z;rw[dM]at hk;split at hk
 ·rw[dc,u];have:=h k y (by assumption) hk;simp[this]
 cases hk
theorem agB(a:yr):gw a=if nC a≠0 then nC a else if jj a.bores 0=true then 12 else if pN a=true then 0 else 2:=by
 unfold gw nC;by_cases I:a.coppers.length=0
 ·rw[ae I,ae I,ae (by decide)]
 rw[aa I,aa I];by_cases J:16<a.coppers.length
 ·rw[ae J,ae J,ae (by decide)]
 rw[aa J,aa J];by_cases u:jJ a.coppers≠0
 ·rw[ae u,ae u,ae u]
 rw[aa u,aa u];by_cases z:Reg.bA a.outline≠0
 ·rw[ae z,ae z,ae z]
 rw[aa z,aa z];by_cases L:2000<Ng a.outline.length a.coppers
 ·rw[ae L,ae L,ae (by decide)]
 rw[aa L,aa L];by_cases D:b8 a≠0
 ·rw[ae D,ae D,ae D]
 rw[aa D,aa D]
theorem ahm{a:yr}(h:nC a=0):a.coppers.length<=16/\(∀r∈a.coppers,Reg.bA r=0)/\ae1 a.bores:=by
 unfold nC at h;split at h
 ·cases h
 split at h
 ·cases h
 rename_i g2;split at h
 ·rename_i g;exact absurd h g
 rename_i z;split at h
 ·rename_i g;exact absurd h g
 split at h
 ·cases h
 split at h
 ·rename_i g;exact absurd h g
 rename_i u;have u:b8 a=0:=by simpa using u
 refine⟨by omega,Reg.rX (by simpa using z),?_⟩;rw[b8]at u;split at u
 ·cases u
 exact⟨by omega,fun b hb=>xZ (Reg.Ln u b hb)⟩
theorem aeJ(a:yr)(ho:M6 a):ai C 12 [.pv (.ag (uR a))] (.p (i64 (gw a))) []:=by
 have lk:=an a.coppers fun r=>[aE r];have lb:=an a.bores bc;obtain⟨F,u⟩:∃F,F=gw a:=⟨_,rfl⟩;rw[<-u];rw[agB]at u;have hpa:=adS a ho;refine fW hC Tryz.func12 rfl (by kernel_rfl) fun _=>?_;refine⟨_,_,hpa,iW ?_ ?_⟩<;>intro J
 ·have J:nC a≠0:=by simpa using J
  rw[ae J]at u;refine⟨?_,trivial⟩;rw[u]
 have J:nC a=0:=by simpa using J
 rw[aa (by simpa using J)]at u;obtain⟨RA,aad,ok⟩:=ahm J;have few:=ok.few;refine aP (fun i:Nat=>i<=a.bores.length/\∀j,j<i->n9 a.bores j=false) (fun i=>[(1,.bx 1 0),(4,.p (i64 i))]) (fun _=>[(1,.box ((uR a).map .p))]) (fun i=>a.bores.length-i) 0 _ (aA.refl _ _) ⟨ak _,by omega⟩ ⟨Z,Z,Y⟩ ⟨Z,Y⟩ fun i hi t h=>?_;obtain⟨i1,i2⟩:=hi;apply iW<;>intro g1
 ·have h1:i<a.bores.length:=by omega
  obtain⟨x,L⟩:=ax h1;have xo:=ok.ok x (aj L);refine aP (fun k:Nat=>k<=i/\∀j y,j<k->a.bores[j]?=some y->ny x y=false) (fun k=>[(1,.bx 1 0),(4,.p (i64 i)),(5,.p (i64 k))]) (fun _=>[(1,.box ((uR a).map .p))]) (fun k=>i-k) 0 _ (aA.refl _ _) ⟨ak _,by omega⟩ ⟨Z,Z,Z,Y⟩ ⟨Z,Y⟩ fun k hk t h=>?_;obtain⟨k1,k2⟩:=hk;apply iW<;>intro g2
  ·have h2:k<i:=by omega
   obtain⟨y,N⟩:=ax (l:=a.bores) (i:=k) (by omega);have yo:=ok.ok y (aj N);have ce:=ahU xo yo;have I:ny x y=false->∀j z,j<k+1->a.bores[j]?=some z->ny x z=false:=fun c j z hj O=>by
    by_cases e:j=k
    ·subst e;rw[N]at O;injection O with O;rw[<-O];exact c
    exact k2 j z (by omega) O
   refine⟨(bc x),(idx rfl L),(bc y),(idx rfl N),_,_,(afQ x y),iW ?_ ?_⟩<;>intro g3
   ·refine⟨(bc x),(idx rfl L),_,_,(tn x xo),(bc y),(idx rfl N),_,_,(tn y yo),_,_,(afl (bM x) (bM y)),iW ?_ ?_⟩<;>intro g4
    ·rw[ae (agA h1 (aiz L h2 N (by rw[<-ce,g3,g4];rfl)))]at u;refine⟨?_,trivial⟩;rw[u];rfl
    have m:=I (by rw[<-ce,g3,g4];rfl);exact⟨wO (by omega),(k+1),_,aA.refl _ _,⟨by omega,m⟩,by omega,⟨Z,Z,Z,Y⟩,⟨Z,Y⟩⟩
   have m:=I (by rw[<-ce,g3];rfl);exact⟨wO (by omega),(k+1),_,aA.refl _ _,⟨by omega,m⟩,by omega,⟨Z,Z,Z,Y⟩,⟨Z,Y⟩⟩
  have rn:=ajc L fun j y hj N=>k2 j y (by omega) N;exact⟨wO (by omega),(i+1),_,aA.refl _ _,⟨by omega,fun j hj=>by by_cases e:j=i;exact e▸rn;exact i2 j (by omega)⟩,by omega,⟨Z,Z,Y⟩,⟨Z,Y⟩⟩
 rw[aa (by rw[ahl fun j hj=>i2 j (by omega)];decide)]at u;refine aP (fun x:Nat×Nat=>Jj a.bores x.1 (a.coppers.drop x.1)=Jj a.bores 0 a.coppers/\x.2+(gf a.bores x.1 (a.coppers.drop x.1)).length=(gf a.bores 0 a.coppers).length/\x.2<=2000*x.1/\x.1<=a.coppers.length) (fun x=>[(1,.bx 1 0),(6,.p (i64 x.2)),(7,.p (i64 x.1))]) (fun _=>[(1,.box ((uR a).map .p))]) (fun x=>a.coppers.length-x.1) (0,0) _ (aA.refl _ _) ⟨rfl,by simp,aG _,ak _⟩ ⟨Z,Z,Z,Y⟩ ⟨Z,Y⟩ fun ⟨D,n⟩ L t h=>?_;obtain⟨x1,R,x3,x4⟩:=L;simp only at x1 R x3 x4;apply iW<;>intro g5<;>try simp only[zB]at g5
 ·obtain⟨r,hr⟩:=ax (l:=a.coppers) (i:=D) (by omega);have U:=aad r (aj hr);have dr:=C6 ok.ok few D U;rw[drop_at hr,Jj]at x1;rw[drop_at hr,gf,bJ,E5]at R;have Y8:=abR a ok D r hr U;have qH:=acQ (told (mE a.bores D r));have hrt:=Reg.acJ dr.sok;have hpf:=Reg.O5 (mE a.bores D r);have ld:=an (told (mE a.bores D r)) rc;refine⟨_,_,Y8,iW ?_ ?_⟩<;>intro g6
  ·rw[fJ (by omega),uh]at x1;have hd:pN a=false:=by unfold pN;rw[<-x1];rfl
   rw[aa (by rw[hd];decide)]at u;refine⟨?_,trivial⟩;rw[u];rfl
  have V:(told (mE a.bores D r)).length<=2000:=by omega
  rw[nq V,tG]at x1;have W:=qH ⟨V,Reg.nW dr.sok,fun q hq=>by
   have:=Reg.ux dr.sok dr.ink q hq;unfold RK at this ⊢;omega⟩
  have lq:(((iO (mE a.bores D r)).map told).map fun r=>[aE r]).length=(iO (mE a.bores D r)).length:=by rw[E5,E5]
  rw[hrt]at W;exact⟨_,_,W,wO (by omega),wO (by omega),(D+1,n+(iO (mE a.bores D r)).length),_,aA.refl _ _,⟨x1,by simp only;rw[show (((D+1:Nat):Int))=(D:Int)+1 by omega];omega,by simp only;omega,by simp only;omega⟩,by simp only;omega,⟨rfl,ar (fun m:Nat=>AV.p (i64 (n+m))) lq,Z,Y⟩,⟨Z,Y⟩⟩
 rw[jR (by omega)]at x1 R;have x1:Jj a.bores 0 a.coppers=true:=x1.symm;have R:n=(gf a.bores 0 a.coppers).length:=by have:(gf a.bores D []).length=0:=rfl;omega
 have hd:pN a=decide (n<=2000):=by unfold pN;rw[x1,tG,<-R]
 rw[hd]at u;apply iW<;>intro g6<;>try simp only[zB]at g6
 ·rw[aa (by simp;omega)]at u;refine⟨?_,trivial⟩;rw[u];rfl
 rw[ae (by simp;omega)]at u;refine⟨?_,trivial⟩;rw[u];rfl
open Reg (dW vR aX yb a7 kV Lx fP Ac zp Js)
def aaE(t:List bG)(x:DP)(a:yr):Int:=if jf t x≠0 then jf t x else gw a
theorem adi{t:List bG}{x:DP}{a:yr}(h:aaE t x a=0):jf t x=0/\gw a=0:=by
 rw[aaE]at h;split at h
 ·rename_i c;exact absurd h c
 rename_i c;exact⟨by simpa using c,h⟩
theorem adW(t:List bG)(x:DP)(a:yr)(u:Gq t)(z:Gy x)(J:M6 a):ai C 8 [.pv (.sl (t.map vU)),.pv (.ag (S9 x)),.pv (.ag (uR a))] (.tu [if aaE t x a=0 then .ip (SC a) else .im (.pointer none),i64 (aaE t x a)]) []:=by
 have D:=Jx a J;have e1:jf t x≠0->aaE t x a=jf t x:=fun g=>by rw[aaE,ae g]
 have e2:jf t x=0->aaE t x a=gw a:=fun g=>by rw[aaE,aa (by simpa using g)]
 by_cases b:aaE t x a=0
 ·obtain⟨L,I⟩:=adi b;rw[ae b,b];rw[SD,ae I,I]at D;refine fW hC Tryz.func8 rfl (by kernel_rfl) fun _=>?_;refine⟨_,_,(Ar t x u z),iW ?_ ?_⟩<;>intro g
  ·exact absurd L (by simpa using g)
  refine⟨_,_,D,?_,trivial⟩;rfl
 rw[aa b];refine fW hC Tryz.func8 rfl (by kernel_rfl) fun _=>?_;refine⟨_,_,(Ar t x u z),iW ?_ ?_⟩<;>intro g
 ·have g:jf t x≠0:=by simpa using g
  refine⟨?_,trivial⟩;rw[e1 g]
 have g:jf t x=0:=by simpa using g
 rw[SD,aa (fun c=>b (by rw[e2 g,c]))]at D;refine⟨_,_,D,?_,trivial⟩;rw[e2 g]
def afp(l:List ByteArray)(v:ByteArray):Bool:=l.any fun w=>decide (w=v)
theorem ah3{l:List ByteArray}{v:ByteArray}:afp l v=true↔v∈l:=by simp[afp]
def acS(l:List ByteArray)(v:ByteArray):List ByteArray:=if afp l v=true then l else l++[v]
def ksS(vs:List ByteArray):List ByteArray:=vs.foldl acS []
def sE(u:ByteArray):Value×Value:=(.string u,.bool true)
theorem af0(v:ByteArray):∀l:List ByteArray,afH (l.map sE) (.string v) (.bool true)=(acS l v).map sE
 | []=>rfl
 | u::r=>by
  show (match decide (v=u) with
   | true=>(Value.string v,Value.bool true)::r.map sE
   | false=>(Value.string u,Value.bool true)::afH (r.map sE) (.string v) (.bool true))=_
  by_cases e:v=u
  ·subst e;rw[nq rfl,acS,afp,uc,nq rfl];rfl
  have h:afp (u::r) v=afp r v:=by rw[afp,uc,fJ (fun c=>e c.symm),ph];rfl
  rw[fJ e];simp only[af0 v r];rw[acS,acS,h];cases afp r v<;>rfl
def mpS(l:List ByteArray):List (Value×PV):=(l.map sE).map mpE
theorem af1(l:List ByteArray)(v:ByteArray):iS (mpS l) (.string v) (bool true)=mpS (acS l v):=by
 unfold mpS;rw[<-af0];exact aa5 _ _ _
theorem aiA{l:List ByteArray}{v u:ByteArray}:u∈acS l v↔u∈l\/u=v:=by
 unfold acS;split
 ·rename_i h;exact⟨.inl,fun k=>k.elim id fun e=>by rw[e];exact ah3.1 h⟩
 simp
theorem af2{u:ByteArray}:∀(vs l:List ByteArray),u∈vs.foldl acS l↔u∈l\/u∈vs
 | [],l=>by simp
 | v::r,l=>by
  rw[jN,af2 r,aiA,L8,or_assoc]
variable {vs:List ByteArray}
theorem aje{u:ByteArray}:u∈ksS vs↔u∈vs:=by rw[ksS,af2];simp
theorem ae2{v:ByteArray}:∀r:List ByteArray,(∀u∈r,u=v)->r.foldl acS [v]=[v]
 | [],_=>rfl
 | w::r,h=>by
  have e:=h w bW;subst e;rw[jN,show acS [w] w=[w] by simp[acS,afp]];exact ae2 r fun u z=>h u (cD _ z)
def HQ:List ByteArray->ByteArray
 | []=>bC
 | v::r=>if (r.all fun u=>decide (u=v))=true then v else bC
theorem aiB(h:(ksS vs).length=1):ksS vs=[HQ vs]:=by
 obtain⟨w,z⟩:=List.length_eq_one_iff.1 h;have all:∀u,u∈vs↔u=w:=fun u=>by rw[<-aje,z,Fp]
 cases vs with
 | nil=>exact absurd ((all w).2 rfl) (by simp)
 | cons v r=>
  have e:v=w:=(all v).1 bW;have D:(r.all fun u=>decide (u=v))=true:=dY.2 fun u I=>nq (by rw[e];exact (all u).1 (cD _ I));rw[z,HQ,ae D,e]
theorem aiC(h:(ksS vs).length≠1):HQ vs=bC:=by
 cases vs with
 | nil=>rfl
 | cons v r=>
  rw[HQ];split
  ·rename_i c;refine absurd ?_ h;have:ksS (v::r)=[v]:=by
    rw[ksS,jN,show acS [] v=[v] from rfl];exact ae2 r fun u z=>iY (dY.1 c u z)
   rw[this];rfl
  rfl
def ab0(p:ByteArray×ByteArray):HI:=⟨p.1,p.2⟩
def nameAt(t:List bG)(x:DP)(q:HI):Option ByteArray:=match aaA x.nets q x.nets.length with
 | some k=>some (match x.nets[k]? with
  | some n=>n.name
  | none=>bC)
 | none=>if ((tx t x x.parts).any fun r=>decide (r=q))=true then some bC else none
def c8(t:List bG)(x:DP)(l:List (ByteArray×ByteArray)):List ByteArray:=(l.map ab0).filterMap (nameAt t x)
theorem aex{t:List bG}{x:DP}{l:List (ByteArray×ByteArray)}{j:Nat}{p:ByteArray×ByteArray}{v:ByteArray}(hp:l[j]?=some p)(h:nameAt t x (ab0 p)=some v):ksS (c8 t x (l.take (j+1)))=acS (ksS (c8 t x (l.take j))) v:=by
 rw[bq hp,c8,E8,M8,eH,xB,GU h,xX,ksS,u7];rfl
theorem agC{t:List bG}{x:DP}{l:List (ByteArray×ByteArray)}{j:Nat}{p:ByteArray×ByteArray}(hp:l[j]?=some p)(h:nameAt t x (ab0 p)=none):ksS (c8 t x (l.take (j+1)))=ksS (c8 t x (l.take j)):=by
 rw[bq hp,c8,E8,M8,eH,xB,uK h,xX,aq];rfl
theorem aaT{l:List Net}{p:HI}{k:Nat}:∀{n:Nat},aaA l p n=some k->∃y,l[k]?=some y/\(y.pins.any fun q=>decide (q=p))=true
 | 0,h=>by cases h
 | n+1,h=>by
  unfold aaA at h;split at h
  ·rename_i y u;split at h
   ·rename_i c;injection h with h;subst h;exact⟨y,u,c⟩
   exact aaT h
  exact aaT h
theorem af3(bs:List dq)(n:Nat):∀(L:List (List Nat)) (s:(List Int×List Int)×List dW),(L.foldl (Js bs n) s).2.length<=s.2.length+L.length/\((∀g∈s.2,g.pins=[])->∀g∈(L.foldl (Js bs n) s).2,g.pins=[])
 | [],s=>⟨aG _,fun h=>h⟩
 | l::r,s=>by
  obtain⟨h1,z⟩:=af3 bs n r (Js bs n s l);have e:(Js bs n s l).2.length<=s.2.length+1/\((∀g∈s.2,g.pins=[])->∀g∈(Js bs n s l).2,g.pins=[]):=by
   simp only[Js];split
   ·refine⟨by rw[bJ];exact aG _,fun h g u=>?_⟩;rcases fC.1 u with u | u
    ·exact h g u
    rw[Fp.1 u]
   exact⟨by omega,fun h=>h⟩
  rw[jN,bN];exact⟨by omega,fun h=>z (e.2 h)⟩
theorem ae3(bs:List dq)(ps:List Piece)(o:List Int×List Int):∀(l:List oW) (s:vR) (m:Nat),(∀g∈s.groups,g.pins.length<=m)->(l.foldl (Ac bs ps o) s).groups.length=s.groups.length/\∀g∈(l.foldl (Ac bs ps o) s).groups,g.pins.length<=m+l.length
 | [],s,m,h=>⟨rfl,h⟩
 | x::l,s,m,h=>by
  have e:(Ac bs ps o s x).groups.length=s.groups.length/\∀g∈(Ac bs ps o s x).groups,g.pins.length<=m+1:=by
   simp only[Ac];split
   ·refine⟨by rw[aQ],fun g u=>?_⟩;rcases m_ u with u | u
    ·have:=h g u;omega
    rw[u,zp];rw[bJ];have:∀k:Nat,(s.groups.getD k ⟨[],[],[]⟩).pins.length<=m:=fun k=>by
     rw[dc];cases hk:s.groups[k]? with
     | none=>exact ak _
     | some y=>exact h y (aj hk)
    exact Nat.add_le_add_right (this _) 1
   exact⟨rfl,fun g u=>by have:=h g u;omega⟩
  obtain⟨z,D⟩:=ae3 bs ps o l (Ac bs ps o s x) (m+1) e.2;rw[jN,bN];exact⟨z.trans e.1,fun g u=>by have:=D g u;omega⟩
theorem acp{a:yr}(z:ahO a):(aX a).placed.groups.length<=2500/\∀g∈(aX a).placed.groups,g.pins.length<=1000:=by
 obtain⟨F,D⟩:∃F,F=yb a.bores (aX a).pieces.length (a7 (kV (Lx (aX a).pieces.length a.bores.length (aX a).fP)) ((aX a).pieces.length+a.bores.length)):=⟨_,rfl⟩;have I:=af3 a.bores (aX a).pieces.length (a7 (kV (Lx (aX a).pieces.length a.bores.length (aX a).fP)) ((aX a).pieces.length+a.bores.length)) ((List.replicate (aX a).pieces.length 0,List.replicate a.bores.length 0),[]);have k1:=Reg.qA (kV (Lx (aX a).pieces.length a.bores.length (aX a).fP)) ((aX a).pieces.length+a.bores.length);have k2:=Reg.tb (kV (Lx (aX a).pieces.length a.bores.length (aX a).fP)) ((aX a).pieces.length+a.bores.length);have J:F.2.length<=2500/\∀g∈F.2,g.pins=[]:=by
  rw[D];refine⟨aS I.1 ?_,I.2 fun g u=>by cases u⟩;have:=z.few;have:=z.art.few;simp only[kv];omega
 have e:(aX a).placed=a.lands.foldl (Ac a.bores (aX a).pieces F.1) ⟨F.2,[],[]⟩:=by rw[D];rfl
 obtain⟨L,N⟩:=ae3 a.bores (aX a).pieces F.1 a.lands ⟨F.2,[],[]⟩ 0 fun g u=>by rw[J.2 g u];exact aG _
 have:=z.art.lan;rw[e];exact⟨by rw[L];exact J.1,fun g u=>by have:=N g u;omega⟩
end M
end Go.Proofs.YtliffnpbaeijgaaGreatDoor
