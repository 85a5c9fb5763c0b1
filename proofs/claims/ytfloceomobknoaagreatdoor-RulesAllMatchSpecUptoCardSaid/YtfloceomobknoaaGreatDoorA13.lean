/- Part 13 of the proof of RulesAllMatchSpec. -/
import Derived.Test.YtfloceomobknoaaGreatDoorA12
set_option linter.unusedVariables false
set_option linter.unusedSimpArgs false
set_option maxRecDepth 100000
set_option maxHeartbeats 8000000
namespace Go
abbrev afW:=@List.map_singleton
abbrev afE:=@List.any_eq_false
end Go
namespace Go.Proofs.YtfloceomobknoaaGreatDoor
namespace M
open Go.AM Go.RowKit Go.Lib
open Reg (ae Full aS fo fS aa ee bO cJ through fT c_ bT db sa)
theorem vY:∀a b:List UInt8,(Lib.compareBytes a b<0↔a<b)/\(Lib.compareBytes a b=0↔a=b)
 | [],[]=>by simp[Lib.compareBytes]
 | [],_::_=>by simp[Lib.compareBytes]
 | _::_,[]=>by simp[Lib.compareBytes]
 | x::a,y::b=>by
  have ih:=vY a b;unfold Lib.compareBytes;rw[List.cons_lt_cons_iff,List.cons.injEq];by_cases e:x=y
  ·subst e;have z:¬x<x:=UInt8.lt_irrefl x;simp[z,ih.1,ih.2]
  rcases UInt8.lt_or_lt_of_ne e with h | h
  ·simp[e,h]
  have D:¬x<y:=UInt8.not_lt.2 (UInt8.le_of_lt h);simp[e,h,D]
theorem FT(a b:ByteArray):Lib.compareBytes a.data.toList b.data.toList=0↔a=b:=by
 rw[(vY _ _).2];refine⟨fun h=>?_,fun h=>by rw[h]⟩;obtain⟨⟨x⟩⟩:=a;obtain⟨⟨y⟩⟩:=b;simpa using h
theorem Jl(a b:ByteArray):Lib.compareBytes a.data.toList b.data.toList<0↔mO a b=true:=by
 rw[xM];exact (vY _ _).1
theorem NW(p q:ByteArray×ByteArray):(AO p q<=0)↔(mO p.1 q.1||(decide (p.1=q.1)&&(mO p.2 q.2||decide (p.2=q.2))))=true:=by
 have z:=FT p.1 q.1;have D:=Jl p.1 q.1;have I:=FT p.2 q.2;have J:=Jl p.2 q.2;rw[AO,adZ,aaZ,adZ,aaH,aaH,<-z,<-D,<-I,<-J];generalize Lib.compareBytes p.1.data.toList q.1.data.toList=u;generalize Lib.compareBytes p.2.data.toList q.2.data.toList=v;split<;>omega
theorem z7(a:fS)(N:ly a)(i:Nat)(hi:i<a.lands.length):af C 188 [.pv (.ag (dX a)),.pv (i64 i)] (.p (i64 (dQ a.coppers.length a.lands i))) []:=by
 have lm:=ai a.lands lc;have lk:=ai a.coppers fun r=>[aj r];have KH:=N.cop;have SU:=N.lan;obtain⟨l,hl⟩:=ak hi;obtain⟨s1,s2⟩:=N.str l (aad hl);have z:∀v,(if (lh l.part&&iU l.pin)=true then (if (Reg.within l.layer 0 (a.coppers.length-1)&&(Reg.kR l.x&&Reg.kR l.y))=true then (match a.lands[i-1]? with
   | some q=>if 0<i/\AO (l.part,l.pin) (q.part,q.pin)<=0 then 8 else 0
   | none=>0) else 1) else 5)=v->dQ a.coppers.length a.lands i=v:=fun v D=>by simp only[dQ,hl];exact D
 refine fW hC Tryz.func188 rfl (by kernel_rfl) fun _=>?_;refine⟨(lc l),(idx rfl hl),_,_,(wH l.part s1),iW ?_ ?_⟩<;>intro I
 ·refine⟨?_,trivial⟩;rw[z 5 (by rw[aaa (by rw[I];simp)])];rfl
 refine⟨_,_,(qz l.pin (by unfold ue at s2;omega)),iW ?_ ?_⟩<;>intro J
 ·refine⟨?_,trivial⟩;rw[z 5 (by rw[aaa (by rw[J];simp)])];rfl
 refine⟨wO (by omega),_,_,(xU l.layer 0 (((a.coppers.map fun r=>[aj r]).length:Int)-1)),?_⟩;rw[lk];apply iW<;>intro O
 ·refine⟨?_,trivial⟩;rw[z 1 (by rw[aap (by rw[I,J];rfl),aaa (by rw[O];simp)])];rfl
 refine⟨_,_,(Br l.x l.y),iW ?_ ?_⟩<;>intro U
 ·refine⟨?_,trivial⟩;rw[z 1 (by rw[aap (by rw[I,J];rfl),aaa (by rw[O,U];simp)])];rfl
 have z:∀v,(match a.lands[i-1]? with
   | some q=>if 0<i/\AO (l.part,l.pin) (q.part,q.pin)<=0 then 8 else 0
   | none=>0)=v->dQ a.coppers.length a.lands i=v:=fun v D=>z v (by rw[aap (by rw[I,J];rfl),aap (by rw[O,U];rfl)];exact D)
 apply iW<;>intro g5
 ·obtain⟨q,V⟩:=ak (l:=a.lands) (i:=i-1) (by omega);have z:∀v,(if (mO l.part q.part||(decide (l.part=q.part)&&(mO l.pin q.pin||decide (l.pin=q.pin))))=true then 8 else 0)=v->dQ a.coppers.length a.lands i=v:=fun v D=>z v (by
   rw[V];show (if 0<i/\AO (l.part,l.pin) (q.part,q.pin)<=0 then (8:Int) else 0)=v;have:=NW (l.part,l.pin) (q.part,q.pin);simp only at this;by_cases c:(mO l.part q.part||(decide (l.part=q.part)&&(mO l.pin q.pin||decide (l.pin=q.pin))))=true
   ·rw[aap c]at D;rw[aap ⟨by omega,this.2 c⟩,D]
   rw[aaa c]at D;rw[aaa (fun e=>c (this.1 e.2)),D])
  refine⟨wO (by omega),(lc q),(idx (show ((i:Int)-1)=((i-1:Nat):Int) by omega) V),iW ?_ ?_⟩<;>intro W
  ·have L:mO l.part q.part=true:=W;refine⟨?_,trivial⟩;rw[z 8 (by rw[aap (by rw[L];rfl)])];rfl
  have L:mO l.part q.part=false:=by simpa [mO] using W
  apply iW<;>intro Y
  ·apply iW<;>intro Z
   ·have R:(mO l.pin q.pin||decide (l.pin=q.pin))=true:=by simpa [mO] using Z
    refine⟨?_,trivial⟩;rw[z 8 (by rw[aap (by rw[R,acd Y];simp)])];rfl
   have R:(mO l.pin q.pin||decide (l.pin=q.pin))=false:=by simpa [mO] using Z
   refine⟨?_,trivial⟩;rw[z 0 (by rw[aaa (by rw[L,R];simp)])];rfl
  refine⟨?_,trivial⟩;rw[z 0 (by rw[aaa (by rw[L,aaz Y];simp)])];rfl
 have z:dQ a.coppers.length a.lands i=0:=z 0 (by
  split
  ·rw[aaa (by omega)]
  rfl)
 refine⟨?_,trivial⟩;rw[z];rfl
def fv(a:fS):Int:=if a.coppers.length=0 then 9 else if 16<a.coppers.length then 2 else
 if db a.coppers≠0 then db a.coppers else
 if Reg.aF a.outline≠0 then Reg.aF a.outline else
 if 2000<sa a.outline.length a.coppers then 2 else
 if bT a≠0 then bT a else c8 a
theorem drop_cons{α:Type}{l:List α}{i:Nat}{x:α}(h:l[i]?=some x):l.drop i=x::l.drop (i+1):=by
 obtain⟨z,D⟩:=aao.1 h;rw[acX z,D]
theorem xw(a:fS)(N:ly a):af C 105 [.pv (.ag (dX a))] (.p (i64 (fv a))) []:=by
 have lk:=ai a.coppers fun r=>[aj r];have lo:=ai a.outline rc;have lb:=ai a.bores bc;have ll:=ai a.lands lc;have KH:=N.cop;have Yg:=N.out;have abB:=N.bor;have SU:=N.lan;obtain⟨F,z⟩:∃F,F=fv a:=⟨_,rfl⟩;rw[<-z];rw[fv]at z;refine fW hC Tryz.func105 rfl (by kernel_rfl) fun _=>?_;apply iW<;>intro g1
 ·rw[aap (by omega)]at z;refine⟨?_,trivial⟩;rw[z];rfl
 rw[aaa (by omega)]at z;apply iW<;>intro g2
 ·rw[aap (by omega)]at z;refine⟨?_,trivial⟩;rw[z];rfl
 rw[aaa (by omega)]at z;obtain⟨M,hM⟩:∃M,M=sa a.outline.length a.coppers:=⟨_,rfl⟩;rw[<-hM]at z;refine aJ (fun x:Nat×Int=>sa x.2 (a.coppers.drop x.1)=M/\db (a.coppers.drop x.1)=db a.coppers/\0<=x.2/\x.2<=1048576+1048576*x.1) (fun x=>[(1,.bx 1 0),(3,.p (i64 x.2)),(4,.p (i64 x.1))]) (fun x=>[(1,.box ((dX a).map .p))]) (fun x=>a.coppers.length-x.1) (0,a.outline.length) _ (au.refl _ _) ⟨hM.symm,rfl,by simp only;omega,by simp only;omega⟩ ⟨rfl,adV (fun m:Nat=>AV.p (i64 m)) lo,Z,Y⟩ ⟨Z,Y⟩ fun ⟨i,n⟩ hx t h=>?_;obtain⟨O,L,q3,q4⟩:=hx;simp only at O L q3 q4;apply iW<;>intro g3<;>try simp only[zB]at g3
 ·obtain⟨r,R⟩:=ak (l:=a.coppers) (i:=i) (by omega);have xj:=N.rcs r (aad R);have lr:=ai r rc;rw[drop_cons R]at O L;rw[db]at L;refine⟨[aj r],(idx rfl R),_,_,(kS r),iW ?_ ?_⟩<;>intro I
  ·have I:Reg.aF r≠0:=by simpa using I
   rw[aap I]at L;rw[<-L,aap I]at z;refine⟨?_,trivial⟩;rw[z]
  have I:Reg.aF r=0:=by simpa using I
  rw[aaa (by simpa using I)]at L;exact⟨[aj r],(idx rfl R),wO (by omega),wO (by omega),(i+1,n+r.length),_,au.refl _ _,⟨O,L,by simp only;omega,by simp only;omega⟩,by simp only;omega,⟨rfl,adV (fun m:Nat=>AV.p (i64 (n+m))) lr,Z,Y⟩,⟨Z,Y⟩⟩
 rw[ab1 (by omega)]at O L;have O:n=M:=O;have L:db a.coppers=0:=L.symm;rw[aaa (by simpa using L)]at z;refine⟨_,_,(kS a.outline),iW ?_ ?_⟩<;>intro I
 ·have I:Reg.aF a.outline≠0:=by simpa using I
  rw[aap I]at z;refine⟨?_,trivial⟩;rw[z]
 have I:Reg.aF a.outline=0:=by simpa using I
 rw[aaa (by simpa using I)]at z;apply iW<;>intro g5<;>try simp only[zB]at g5
 ·rw[aap (by omega)]at z;refine⟨?_,trivial⟩;rw[z];rfl
 rw[aaa (by omega)]at z;have U:bT a=if 500<a.bores.length then 2 else c_ a.coppers.length a.bores:=rfl;apply iW<;>intro g6
 ·rw[aap (by omega)]at U;rw[U,aap (by decide)]at z;refine⟨?_,trivial⟩;rw[z];rfl
 rw[aaa (by omega)]at U;rw[U]at z;refine aJ (fun i:Nat=>c_ a.coppers.length (a.bores.drop i)=c_ a.coppers.length a.bores/\i<=a.bores.length) (fun i=>[(1,.bx 1 0),(7,.p (i64 i))]) (fun i=>[(1,.box ((dX a).map .p))]) (fun i=>a.bores.length-i) 0 _ (au.refl _ _) ⟨rfl,aaj _⟩ ⟨Z,Z,Y⟩ ⟨Z,Y⟩ fun i hi t h=>?_;obtain⟨D,i2⟩:=hi;apply iW<;>intro g7
 ·obtain⟨b,hb⟩:=ak (l:=a.bores) (i:=i) (by omega);rw[Reg.BC hb]at D;have sq:(ee b).2=if cJ b=true then 0 else 1:=by rw[ee];split<;>rfl
  rw[sq]at D;refine⟨(bc b),(idx rfl hb),_,_,(vX b),?_⟩;by_cases c:cJ b=true
  ·rw[aap c]at D ⊢;rw[aaa (by decide)]at D;refine⟨wO (by omega),_,_,(xU b.lo 0 (((a.coppers.map fun r=>[aj r]).length:Int)-1)),?_⟩;rw[lk];apply iW<;>intro V
   ·rw[aaa (by rw[V];simp)]at D;rw[<-D,aap (by decide)]at z;refine⟨?_,trivial⟩;rw[z];rfl
   refine⟨wO (by omega),_,_,(xU b.hi b.lo (((a.coppers.map fun r=>[aj r]).length:Int)-1)),?_⟩;rw[lk];apply iW<;>intro W
   ·rw[aaa (by rw[W];simp)]at D;rw[<-D,aap (by decide)]at z;refine⟨?_,trivial⟩;rw[z];rfl
   rw[aap (by rw[V,W];rfl)]at D;exact⟨wO (by omega),(i+1),_,au.refl _ _,⟨D,by omega⟩,by omega,⟨Z,Z,Y⟩,⟨Z,Y⟩⟩
  rw[aaa c]at D ⊢;rw[aap (by decide)]at D;rw[<-D,aap (by decide)]at z;refine⟨?_,trivial⟩;rw[z]
 rw[ab1 (by omega)]at D;have D:c_ a.coppers.length a.bores=0:=D.symm;rw[D,aaa (by decide)]at z;apply iW<;>intro V
 ·rw[c8,aap (by omega)]at z;refine⟨?_,trivial⟩;rw[z];rfl
 rw[c8,aaa (by omega)]at z;refine aJ (fun i:Nat=>i<=a.lands.length/\∀k,k<i->dQ a.coppers.length a.lands k=0) (fun i=>[(1,.bx 1 0),(10,.p (i64 i))]) (fun i=>[(1,.box ((dX a).map .p))]) (fun i=>a.lands.length-i) 0 _ (au.refl _ _) ⟨aaj _,by omega⟩ ⟨Z,Z,Y⟩ ⟨Z,Y⟩ fun i hi t h=>?_;obtain⟨i2,i3⟩:=hi;apply iW<;>intro W
 ·have eF:i<a.lands.length:=by omega
  refine⟨_,_,(z7 a N i eF),iW ?_ ?_⟩<;>intro J
  ·have J:dQ a.coppers.length a.lands i≠0:=by simpa using J
   rw[gY (m:=i) J (fun k _ hk=>i3 k hk) (by omega) (by omega)]at z;refine⟨?_,trivial⟩;rw[z]
  have J:dQ a.coppers.length a.lands i=0:=by simpa using J
  exact⟨wO (by omega),(i+1),_,au.refl _ _,⟨by omega,fun k hk=>by by_cases e:k=i;exact e▸J;exact i3 k (by omega)⟩,by omega,⟨Z,Z,Y⟩,⟨Z,Y⟩⟩
 rw[eZ fun k _ hk=>i3 k (by omega)]at z;refine⟨?_,trivial⟩;rw[z];rfl
open Reg (an bE told aB bR dN dO en cN dD bg kX zQ mW pE kL qR nN cB lU)
def NX(l:List (List ae)):PV:=.sl (l.map fun r=>[aj r])
theorem K2(a b:ae)(J:jZ a)(hb:jZ b):af C 189 [.pv (.ag (rc a)),.pv (.ag (rc b))] (.p (bool (en a b))) []:=by
 unfold jZ at J hb;refine fW hC Tryz.func189 rfl (by kernel_rfl) fun _=>?_;refine⟨wO (by omega),wO (by omega),?_⟩;have e:en a b=((decide (0<min a.x1 b.x1-max a.x0 b.x0)&&decide (0<=min a.y1 b.y1-max a.y0 b.y0))||(decide (0<=min a.x1 b.x1-max a.x0 b.x0)&&decide (0<min a.y1 b.y1-max a.y0 b.y0))):=rfl;rw[e];generalize min a.x1 b.x1-max a.x0 b.x0=u;generalize min a.y1 b.y1-max a.y0 b.y0=v;apply iW<;>intro z
 ·apply iW<;>intro I
  ·refine⟨?_,trivial⟩;simp[bool,z,I]
  apply iW<;>intro D
  ·refine⟨?_,trivial⟩;simp[bool,z,I,D]
  refine⟨?_,trivial⟩;simp[bool,z,I,D]
 apply iW<;>intro D
 ·refine⟨?_,trivial⟩;simp[bool,z,D]
 refine⟨?_,trivial⟩;simp[bool,z,D]
theorem uO(l:List (List ae)):∀r∈l.map (fun r=>[aj r]),r.length=1:=by
 intro r z;obtain⟨n,_,rfl⟩:=adS.1 z;rfl
theorem Jm{r:List ae}{x:ae}(h:r[0]?=some x):dD r=x:=by rw[dD,ad4,h];rfl
theorem HU(l:List (List ae))(r:List ae)(V:r≠[])(hl:∀q∈l,q≠[])(hN:l.length<=1000000):af C 190 [.pv (NX l),.pv (aj r)] (.p (NX (zQ l r))) []:=by
 refine uX ⟨[],[0],[],[],[],[]⟩ hC Tryz.func190 rfl (by kernel_rfl) fun _=>?_;have D:=ai l fun r=>[aj r];obtain⟨x,N⟩:=ak (l:=r) (i:=0) (by cases r with | nil=>exact absurd rfl V | cons _ _=>simp);refine p7 (fun k:Nat=>k<=l.length/\kX (dD r) l l.length=k) (fun k=>[(0,.p (NX l)),(1,.p (aj r)),(5,.p (i64 k))]) (fun _=>[]) (fun k hk t h=>?_) ?_
 ·obtain⟨O,I⟩:=hk;have hp:zQ l r=(l.take k++[r])++l.drop k:=by rw[zQ,I]
  refine⟨⟨by decide,by omega,by rw[D];omega,uO l⟩,⟨gJ (uO l),by simp only[aaN,aat,D];omega,by simp only[aaN,aat,D];omega⟩,⟨by simp,by simp[D];omega,by simp[D];omega⟩,⟨by omega,by rw[D];omega,by omega,uO l⟩,⟨gJ (uO l),by simp[D];omega,by simp[D];omega⟩,?_,trivial⟩;rw[hp];simp[NX,aco,acb];rw[adW (by simp)]
 refine aJ (fun k:Nat=>k<=l.length/\kX (dD r) l l.length=kX (dD r) l k) (fun k=>[(0,.p (NX l)),(1,.p (aj r)),(5,.p (i64 k))]) (fun _=>[]) (fun k=>k) l.length _ (au.refl _ _) ⟨aam _,rfl⟩ ⟨rfl,rfl,adV (fun m:Nat=>AV.p (i64 m)) D,trivial⟩ trivial fun k hk t h=>?_;obtain⟨O,I⟩:=hk;apply iW<;>intro h1
 ·obtain⟨m,rfl⟩:∃m,k=m+1:=⟨k-1,by omega⟩;obtain⟨q,J⟩:=ak (l:=l) (i:=m) (by omega);have L:=hl q (aad J);obtain⟨z,R⟩:=ak (l:=q) (i:=0) (by cases q with | nil=>exact absurd rfl L | cons _ _=>simp);have hp:kX (dD r) l (m+1)=if Reg.before x z=true then kX (dD r) l m else m+1:=by
   rw[kX,Jm N,ad4,J,acy,Jm R]
  refine⟨(rc x),(idx (i:=0) rfl N),wO (by omega),[aj q],(idx (show ((m+1:Nat):Int)-1=(m:Nat) by omega) J),(rc z),(idx (i:=0) rfl R),_,_,(yL x z),iW ?_ ?_⟩<;>intro U
  ·rw[aap U]at hp;exact⟨wO (by omega),m,_,au.refl _ _,⟨by omega,by rw[I,hp]⟩,by omega,⟨rfl,rfl,a8 (by omega),trivial⟩,trivial⟩
  rw[aaa (by rw[U];decide)]at hp;refine⟨m+1,⟨O,by rw[I,hp]⟩,⟨Z,Z,Z,Y⟩,trivial⟩
 have e:k=0:=by omega
 subst e;refine⟨0,⟨aaj _,by rw[I];rfl⟩,⟨Z,Z,Z,Y⟩,trivial⟩
end M
namespace Reg
variable {D0:List Bool}
theorem s5{n:Nat}{i:Nat}(hl:D0.length=n)(hi:i<n)(z:D0.getD i true=false):qR n D0 (D0.set i true,[i]):=
 ⟨by show (D0.set i true).length=n;rw[aaM,hl],by simp,fun k hk=>by rw[ab_.1 hk];exact⟨hi,z⟩,fun k hk=>by
  show (D0.set i true).getD k true=true↔_;rw[jx (by rw[hl];exact hi),ab_];by_cases e:k=i<;>simp[e]⟩
theorem uP{n:Nat}(q:Nat->Nat->Bool):∀(f i:Nat) (s:List Bool×List Nat),qR n D0 s->qR n D0 (kL q n f i s)/\∃t,(kL q n f i s).2=s.2++t
 | 0,i,s,h=>⟨h,[],by simp[kL]⟩
 | f+1,i,s,h=>by
  rw[kL];split
  ·obtain⟨z,_,D,I⟩:=vP (q:=q (s.2.getD i 0)) (List.range n) s h (fun k hk=>abD.1 hk);obtain⟨J,L,N⟩:=uP q f (i+1) (pE (q (s.2.getD i 0)) n s) z;refine⟨J,D++L,?_⟩;rw[N,pE,I,abx]
  exact⟨h,[],by simp⟩
theorem z8(r:List ae):∀i,(cB r i).2.length<=i
 | 0=>by simp[cB]
 | i+1=>by
  have h:=z8 r i;rw[iz,nN];split
  ·omega
  simp only[zQ,acv,aat,aaN,abS];omega
theorem qU(r:List ae):∀i,i<=r.length->(cB r i).1.length=r.length
 | 0,_=>by simp[cB]
 | i+1,hi=>by
  have ih:=qU r i (by omega);rw[iz,nN];split
  ·exact ih
  rename_i z;exact (uP _ _ _ _ (s5 ih (by omega) (by simpa using z))).1.len
theorem NY{r:List ae}{s:List Bool×List Nat}(b:qR r.length D0 s):∀q∈s.2.map (fun k=>r.getD k bg),q∈r:=fun q z=>by
 obtain⟨k,hk,rfl⟩:=adS.1 z;have:=(b.mem k hk).1;rw[ad4,acg this];exact adn this
theorem piece_ne{r:List ae}(h:∀q∈r,Full q):∀i,i<=r.length->∀q∈(cB r i).2,q≠[]
 | 0,_=>fun q z=>by simp[cB]at z
 | i+1,hi=>fun q z=>by
  have ih:=piece_ne h i (by omega);rw[iz,nN]at z;split at z
  ·exact ih q z
  rename_i J;have D:q∈(cB r i).2\/q=bR ((kL (cN r) r.length r.length 0 ((cB r i).1.set i true,[i])).2.map fun k=>r.getD k bg):=by
   simp only[zQ,abi,ab_]at z;rcases z with (z | z) | z
   ·exact .inl (acM z)
   ·exact .inr z
   exact .inl (abq z)
  rcases D with D | D
  ·exact ih q D
  rw[D];have L:=s5 (n:=r.length) (D0:=(cB r i).1) (i:=i) (qU r i (by omega)) (by omega) (by simpa using J);obtain⟨N,t,I⟩:=uP (cN r) r.length 0 _ L;refine uH (fun u O=>h u (NY N u O)) fun e=>?_;rw[abO]at e;rw[e]at I;exact absurd I (by simp)
theorem P2(q:Nat->Nat->Bool)(n f i:Nat)(s:List Bool×List Nat)(h:¬i<s.2.length):kL q n f i s=s:=by
 cases f with
 | zero=>rfl
 | succ f=>rw[kL,aaa h]
theorem z_{n k:Nat}(h:k<n):(List.range n).drop k=k::(List.range n).drop (k+1):=by
 rw[acX (by simpa using h),List.getElem_range]
end Reg
namespace M
open Go.AM Go.RowKit Go.Lib
open Reg (ae an bE cv Full RK told aB bR en cN dD bg zQ mW pE kL qR nN cB lU)
def bits(l:List Bool):List (List PV):=l.map fun b=>[bool b]
theorem oC(l:List Bool):(bits l).length=l.length:=aej ..
theorem kM{l:List Bool}{i:Int}{k:Nat}{b:Bool}(h:i=k)(z:l[k]?=some b):(bits l)[i.toNat]?=some [bool b]:=by
 rw[h,ad2,bits,aak,z];rfl
theorem qV(l:List Bool)(k:Nat)(b:Bool):(bits l).set k [bool b]=bits (l.set k b):=by rw[bits,bits,ad8]
def qW(r:List ae)(o:List Nat):List (List PV):=(o.map fun k=>r.getD k bg).map rc
theorem B3(r:List ae)(o:List Nat):(qW r o).length=o.length:=by rw[qW,aej,aej]
theorem aeu{r:List ae}{o:List Nat}{i:Int}{k m:Nat}{q:ae}(h:i=k)(z:o[k]?=some m)(D:r[m]?=some q):(qW r o)[i.toNat]?=some (rc q):=by
 rw[h,ad2,qW,aak,aak,z];simp only[ab6,ad4,D,acy]
theorem HV{r:List ae}{o:List Nat}{m:Nat}{q:ae}(z:r[m]?=some q):qW r o++[rc q]=qW r (o++[m]):=by
 rw[qW,qW,abE,abE,afW,afW,ad4,z,acy]
theorem oD{l:List Bool}{k:Nat}{b d:Bool}(h:l[k]?=some b):l.getD k d=b:=by rw[ad4,h];rfl
theorem vZ{l:List ae}{k:Nat}{b d:ae}(h:l[k]?=some b):l.getD k d=b:=by rw[ad4,h];rfl
structure Aa(r:List ae):Prop where
 jB:r.length<=2000
 full:∀q∈r,Full q
 inK:∀q∈r,RK 1400000 q
theorem NZ{r:List ae}(h:Aa r){q:ae}(z:q∈r):jZ q:=by
 have D:=h.full q z;have I:=h.inK q z;unfold RK at I;unfold Full at D;unfold jZ;omega
theorem uQ(r:List ae)(ok:Aa r):af C 109 [.pv (aj r)] (.p (NX (lU r))) []:=by
 have lm:=ai r rc;have jB:=ok.jB;refine fW hC Tryz.func109 rfl (by kernel_rfl) fun _=>?_;refine⟨⟨by omega,by omega,by dsimp only;omega,by omega⟩,?_⟩;have h0:(List.replicate (r.map rc).length [bool false])=bits (cB r 0).1:=by rw[bits,cB];simp
 refine aJ (fun i:Nat=>i<=r.length) (fun i=>[(0,.p (aj r)),(3,.ow 3),(4,.p (NX (cB r i).2)),(5,.p (i64 i))]) (fun i=>[(3,.row 4 (bits (cB r i).1))]) (fun i=>r.length-i) 0 _ (au.nil hC _ 4 rfl) (aaj _) ⟨Z,Z,Z,Z,Y⟩ ⟨adV (AB.row _) h0,trivial⟩ fun i hi t h=>?_;apply iW<;>intro h1
 ·rw[lm]at h1;have hd:=Reg.qU r i hi;have qg:=Reg.z8 r i;have Yq:=Reg.piece_ne ok.full i hi;have z:=Reg.iz r i;obtain⟨d,R⟩:=ak (l:=(cB r i).1) (i:=i) (by omega);obtain⟨q0,ZL⟩:=ak (l:=r) (i:=i) (by omega);generalize cB r i=s at *;obtain⟨D0,L⟩:=s;have hd:D0.length=r.length:=hd;have qg:L.length<=i:=qg;have Yq:∀q∈L,q≠[]:=Yq;have R:D0[i]?=some d:=R;have lD:=oC D0;have eD:=oD (d:=true) R;refine⟨⟨by omega,by dsimp only;omega⟩,[bool d],(kM rfl R),iW ?_ ?_⟩<;>intro h2
  ·rw[nN,aap (by rw[eD];exact h2)]at z;exact⟨wO (by omega),(i+1),_,au.refl _ _,by omega,by omega,⟨rfl,rfl,by rw[z];rfl,Z,Y⟩,⟨by rw[z];rfl,trivial⟩⟩
  have ZM:D0.getD i true=false:=by rw[eD];simpa using h2
  have xl:=Reg.s5 (n:=r.length) hd (by omega) ZM;obtain⟨F,hF⟩:∃F,F=kL (cN r) r.length r.length 0 (D0.set i true,[i]):=⟨_,rfl⟩;rw[nN,aaa (by rw[ZM];decide),<-hF]at z;refine⟨⟨by omega,by dsimp only;omega⟩,[bool d],(kM rfl R),(rc q0),(idx rfl ZL),?_⟩;refine aJ (fun x:Nat×List Bool×List Nat=>kL (cN r) r.length (r.length-x.1) x.1 x.2=F/\qR r.length D0 x.2/\x.1<=x.2.2.length) (fun x=>[(0,.p (aj r)),(3,.ow 3),(4,.p (NX L)),(5,.p (i64 i)),(6,.ow 6),(7,.p (i64 x.1))]) (fun x=>[(3,.row 4 (bits x.2.1)),(6,.row 87 (qW r x.2.2))]) (fun x=>r.length-x.1) (0,D0.set i true,[i]) _ (au.refl _ _) ⟨hF.symm,xl,aaj _⟩ ⟨Z,Z,Z,Z,Z,Z,Y⟩ ⟨adV (AB.row _) (qV D0 i true),adV (AB.row _) (by rw[qW,afW,vZ ZL];rfl),trivial⟩ fun ⟨at',D,o⟩ hx t h=>?_;obtain⟨x1,U,x3⟩:=hx;simp only at x1 U x3;have lo:=B3 r o;have ole:=U.le;simp only at ole;apply iW<;>intro h3<;>try simp only[zB]at h3
  ·rw[lo]at h3;obtain⟨m,hm⟩:=ak (l:=o) (i:=at') (by omega);have hmn:=(U.mem m (aad hm)).1;obtain⟨qm,Om⟩:=ak (l:=r) (i:=m) hmn;have N0:kL (cN r) r.length (r.length-at') at' (D,o)=kL (cN r) r.length (r.length-(at'+1)) (at'+1) (pE (cN r m) r.length (D,o)):=by
    rw[show r.length-at'=(r.length-(at'+1))+1 by omega,kL,aap (by simp only;omega),ad4,hm];rfl
   rw[N0]at x1;refine aJ (fun y:Nat×List Bool×List Nat=>((List.range r.length).drop y.1).foldl (mW (cN r m)) y.2=pE (cN r m) r.length (D,o)/\qR r.length D0 y.2/\y.2.2[at']?=some m/\y.1<=r.length) (fun y=>[(0,.p (aj r)),(3,.ow 3),(4,.p (NX L)),(5,.p (i64 i)),(6,.ow 6),(7,.p (i64 at')),(8,.p (i64 y.1))]) (fun y=>[(3,.row 4 (bits y.2.1)),(6,.row 87 (qW r y.2.2))]) (fun y=>r.length-y.1) (0,D,o) _ (au.refl _ _) ⟨rfl,U,hm,aaj _⟩ ⟨Z,Z,Z,Z,Z,Z,Z,Y⟩ ⟨Z,Z,Y⟩ fun ⟨k,E,p⟩ hy t h=>?_;obtain⟨y1,V,y3,y4⟩:=hy;simp only at y1 V y3 y4;have lp:=B3 r p;have lE:=oC E;have eE:E.length=r.length:=V.len;have ple:=V.le;simp only at ple;have VJ:=(aao.1 y3).1;apply iW<;>intro I<;>try simp only[zB]at I
   ·rw[lm]at I;have I:k<r.length:=by omega
    obtain⟨e,he⟩:=ak (l:=E) (i:=k) (by omega);obtain⟨qk,W⟩:=ak (l:=r) (i:=k) (by omega);have gE:=oD (d:=true) he;have ZN:cN r m k=en qm qk:=by rw[cN,vZ Om,vZ W]
    rw[Reg.z_ I,aaq]at y1;obtain⟨J,_,tl,b3⟩:=Reg.Jf (q:=cN r m) V I;have N:(mW (cN r m) (E,p) k).2[at']?=some m:=by rw[b3,aaE VJ];exact y3
    refine⟨⟨by omega,by dsimp only;omega⟩,[bool e],(kM rfl he),iW ?_ ?_⟩<;>intro O
    ·have O:e=false:=by simpa using O
     refine⟨⟨by omega,by dsimp only;omega⟩,(rc qm),(aeu rfl y3 Om),(rc qk),(idx rfl W),_,_,(K2 qm qk (NZ ok (List.mem_of_getElem? Om)) (NZ ok (List.mem_of_getElem? W))),iW ?_ ?_⟩<;>intro h6
     ·have hk:mW (cN r m) (E,p) k=(E.set k true,p++[k]):=by rw[mW,aap ⟨by simp only;rw[gE,O],by rw[ZN,h6]⟩]
      rw[hk]at y1 J N;exact⟨⟨by omega,by dsimp only;omega⟩,[bool e],(kM rfl he),(rc qk),(idx rfl W),⟨fun r hr=>by simp at hr;subst hr;rfl,by simp only[lp,List.length_cons,List.length_nil,List.length_set,List.length_replicate];omega,by simp only[lp,List.length_cons,List.length_nil,List.length_set,List.length_replicate];omega⟩,wO (by omega),(k+1,E.set k true,p++[k]),_,au.refl _ _,⟨y1,J,N,by simp only;omega⟩,by simp only;omega,⟨Z,Z,Z,Z,Z,Z,Z,Y⟩,⟨congrArg (AB.row _) (qV E k true),congrArg (AB.row _) (HV W),trivial⟩⟩
     have hk:mW (cN r m) (E,p) k=(E,p):=by rw[mW,aaa (fun c=>by rw[ZN,h6]at c;exact absurd c.2 (by decide))]
     rw[hk]at y1 J N;exact⟨wO (by omega),(k+1,E,p),_,au.refl _ _,⟨y1,J,N,by simp only;omega⟩,by simp only;omega,⟨Z,Z,Z,Z,Z,Z,Z,Y⟩,⟨Z,Z,Y⟩⟩
    have O:e=true:=by simpa using O
    have hk:mW (cN r m) (E,p) k=(E,p):=by rw[mW,aaa (fun c=>by simp only at c;rw[gE,O]at c;exact absurd c.1 (by decide))]
    rw[hk]at y1 J N;exact⟨wO (by omega),(k+1,E,p),_,au.refl _ _,⟨y1,J,N,by simp only;omega⟩,by simp only;omega,⟨Z,Z,Z,Z,Z,Z,Z,Y⟩,⟨Z,Z,Y⟩⟩
   rw[lm]at I;rw[ab1 (by rw[abV];omega)]at y1;have y1:(E,p)=pE (cN r m) r.length (D,o):=y1;rw[<-y1]at x1;exact⟨wO (by omega),(at'+1,E,p),_,au.refl _ _,⟨x1,V,by simp only;omega⟩,by simp only;omega,⟨Z,Z,Z,Z,Z,Z,Y⟩,⟨Z,Z,Y⟩⟩
  rw[lo]at h3;rw[Reg.P2 _ _ _ _ _ (by simpa using h3)]at x1;rw[<-x1]at z;have own:=Reg.NY U;have nem:(o.map fun k=>r.getD k bg)≠[]:=fun e=>by
   rw[abO]at e;obtain⟨_,t,c2⟩:=Reg.uP (cN r) r.length 0 _ xl;rw[<-hF,<-x1,e]at c2;exact absurd c2 (by simp)
  have NR:=vR (l:=o.map fun k=>r.getD k bg) (fun q hq=>ok.full q (own q hq)) (fun q hq=>ok.inK q (own q hq)) (by rw[aej];omega);have Yr:=HU L (bR (o.map fun k=>r.getD k bg)) (Reg.uH (fun q hq=>ok.full q (own q hq)) nem) Yq (by omega);exact⟨_,_,NR,_,_,Yr,wO (by omega),(i+1),_,au.refl _ _,by omega,by omega,⟨rfl,rfl,by rw[z];rfl,Z,Y⟩,⟨by rw[z];rfl,trivial⟩⟩
 rw[lm]at h1;have e:i=r.length:=by omega
 refine⟨?_,trivial⟩;rw[e];rfl
open Reg (bN cV aS fo fS Piece aa bO through bq bU gO bG qL eG eO aeH da I7)
variable {bs:List aS}
theorem HW{i:Nat}{b:aS}(k:Int)(h:bs[i]?=some b):bq (bs.take (i+1)) k=if through b k=true then bq (bs.take i) k++[aa b] else bq (bs.take i) k:=by
 rw[aZ h,bq,bq,acA,abE];by_cases c:through b k=true
 ·rw[aap c,aby,aap c];rfl
 rw[aaa c,aby,aaa c];simp
theorem B4(bs:List aS)(k:Int):(bq bs k).length<=bs.length:=by rw[bq,aej];exact adb _ _
structure B5(bs:List aS):Prop where
 jB:bs.length<=500
 ok:∀b∈bs,bO b=true
theorem N1(h:∀b∈bs,bO b=true)(k:Int):(∀q∈bq bs k,Full q)/\∀q∈bq bs k,RK 1400000 q:=by
 refine⟨fun q z=>?_,fun q z=>?_⟩
 ·obtain⟨b,hb,rfl⟩:=adS.1 z;exact Reg.bX (h b (adu.1 hb).1)
 obtain⟨b,hb,rfl⟩:=adS.1 z;have:=Reg.er (h b (adu.1 hb).1);unfold RK at this ⊢;omega
theorem nF{r:List ae}(h:Reg.aF r=0):told (aB r)=r:=by
 unfold Reg.aF at h;split at h
 ·split at h
  ·split at h
   ·assumption
   cases h
  cases h
 rename_i c;exact absurd h c
theorem qX(a:fS)(ok:B5 a.bores)(k:Nat)(r:List ae)(z:a.coppers[k]?=some r)(D:Reg.aF r=0):af C 108 [.pv (.ag (dX a)),.pv (i64 k)] (.p (aj (told (bU a.bores k r)))) []:=by
 have lb:=ai a.bores bc;have jB:=ok.jB;have J:=ph D;have dr:=jV ok.ok jB k D;obtain⟨N,hk⟩:=N1 ok.ok (k:Int);obtain⟨O,_,R⟩:=Reg.aR N;have hl:=B4 a.bores k;have W:=vR N hk (by omega);have RJ:=Reg.fj O (R _ hk);have U:=mL J.sok O (J.ink.up (by omega)) (R _ hk) (by
  have:=J.len;rw[nF D];have L:=rW (bq a.bores k) (by omega);have h3:(told (aB (bq a.bores k))).length<=500*1000000*2:=by
   have e:=nq (Reg.cg (bq a.bores k) (Reg.aE (bq a.bores k)) ((Reg.aE (bq a.bores k)).length-1)) (fun t ht=>by have:=oW (bq a.bores k) (Reg.aE (bq a.bores k)) _ t ht;omega);have e2:=gK (bq a.bores k) (Reg.aE (bq a.bores k)) ((Reg.aE (bq a.bores k)).length-1);have e3:=dm (bq a.bores k);have e4:(Reg.cg (bq a.bores k) (Reg.aE (bq a.bores k)) ((Reg.aE (bq a.bores k)).length-1)).length*1000000<=1000*1000000:=abf _ (by omega);have e5:told (aB (bq a.bores k))=told (Reg.cg (bq a.bores k) (Reg.aE (bq a.bores k)) ((Reg.aE (bq a.bores k)).length-1)):=rfl;rw[e5];omega
  omega)
 rw[nF D]at U;refine uX ⟨[7],[],[],[],[],[]⟩ hC Tryz.func108 rfl (by kernel_rfl) fun _=>?_;refine aJ (fun i:Nat=>i<=a.bores.length) (fun i=>[(1,.p (i64 k)),(2,.bx 2 0),(5,.ow 5),(6,.p (i64 i))]) (fun i=>[(2,.box ((dX a).map .p)),(5,.row 87 ((bq (a.bores.take i) k).map rc))]) (fun i=>a.bores.length-i) 0 _ (au.dk hC _ 5 87 _ (by decide) rfl rfl (by decide)) (aaj _) ⟨Z,Z,Z,Z,Y⟩ ⟨Z,Z,Y⟩ fun i hi t h=>?_;have V:=ai (bq (a.bores.take i) k) rc;have F4:=B4 (a.bores.take i) k;rw[aat]at F4;apply iW<;>intro h1
 ·obtain⟨b,hb⟩:=ak (l:=a.bores) (i:=i) (by omega);have I:=HW (k:Int) hb;refine⟨(bc b),(idx rfl hb),_,_,(pJ b k),iW ?_ ?_⟩<;>intro L
  ·rw[aap L]at I;exact⟨(bc b),(idx rfl hb),_,_,(di b (ok.ok b (aad hb))),⟨fun r z=>by simp at z;subst z;rfl,by simp only[V,aaB,acs,aaM,aan];omega,by simp only[V,aaB,acs,aaM,aan];omega⟩,wO (by omega),(i+1),_,au.refl _ _,by omega,by omega,⟨Z,Z,Z,Z,Y⟩,⟨rfl,by rw[I,abE];rfl,trivial⟩⟩
  rw[aaa (by rw[L];decide)]at I;exact⟨wO (by omega),(i+1),_,au.refl _ _,by omega,by omega,⟨Z,Z,Z,Z,Y⟩,⟨rfl,by rw[I];rfl,trivial⟩⟩
 have e:a.bores.take i=a.bores:=adW (by omega);rw[e]at *;refine qy (au.own (by exact hC) _ 5 (id:=5) (by exact rfl) (by exact rfl)) ?_;refine⟨[aj r],(idx rfl z),_,_,W,_,_,U,?_,trivial⟩;rfl
open Reg (BR fT afd aC E1 uo nM a_ coreS P4)
def nQ(b:Break):List PV:=[i64 b.kind,i64 b.a,i64 b.b,i64 b.is,i64 b.need,i64 b.spot.1,i64 b.spot.2]
theorem af4(bs:List aS)(ps:List Piece)(o:List Int×List Int):∀(l:List Reg.fo) (s:Reg.qN),(l.foldl (Reg.uA bs ps o) s).groups.length=s.groups.length
 | [],s=>rfl
 | x::l,s=>by
  rw[aaq,af4 bs ps o l];simp only[Reg.uA];split
  ·rw[aaM]
  rfl
theorem agL(a:fS):(aC a).placed.groups.length=(Reg.jn a.bores (aC a).pieces.length (Reg.aP (Reg.cQ (Reg.jm (aC a).pieces.length a.bores.length (aC a).bB)) ((aC a).pieces.length+a.bores.length))).2.length:=af4 _ _ _ _ _
theorem afM{a:fS}(I:Ft a){nets:List ByteArray}(J:nets.length=(aC a).placed.groups.length){i:Nat}(hi:i<(aC a).pieces.length):∃(k:Nat) (s:ByteArray),(aC a).ofPiece[i]?=some (k:Int)/\(aC a).ofPiece.getD i 0=(k:Int)/\nets[k]?=some s/\aft nets (k:Int)=s:=by
 obtain⟨k,g,z,L,_⟩:=I.gr.a i hi;have hk:=(aao.1 L).1;have z:(aC a).ofPiece[i]?=some (k:Int):=z;rw[<-agL,<-J]at hk;obtain⟨s,D⟩:=ak hk;exact⟨k,s,z,by rw[ad4,z];rfl,D,by rw[aft,ad2,ad4,D];rfl⟩
theorem S8(t:TypeId)(o:List Break)(b:Break):AB.row t ((o.map nQ)++[nQ b])=AB.row t ((o++[b]).map nQ):=by rw[abE];rfl
theorem agA(r:cP)(hg:zd r)(a:fS)(J:Ft a)(nets:List ByteArray)(hn:nets.length=(aC a).placed.groups.length):af C 70 [.pv (.ag (rl r)),.pv (.ip (kW a)),.pv (strs nets)] (.own 47 ((aeE r (aC a) nets 0 (aC a).pieces).map nQ)) []:=by
 have R:=ai (aC a).pieces jb;have jB:=J.jB;obtain⟨G,hG⟩:∃G,G=aeE r (aC a) nets 0 (aC a).pieces:=⟨_,rfl⟩;rw[<-hG];refine uX ⟨[5],[],[],[],[],[]⟩ hC Tryz.func70 rfl (by kernel_rfl) fun _=>?_;refine aJ (fun x:Nat×List Break=>x.2++aeE r (aC a) nets x.1 ((aC a).pieces.drop x.1)=G/\x.2.length<=2000*x.1/\x.1<=(aC a).pieces.length) (fun x=>[(1,.p (.ip (kW a))),(2,.p (strs nets)),(3,.p (.ip (rl r))),(7,.ow 7),(18,.p (.sl ((aC a).pieces.map jb))),(19,.p (i64 (aC a).pieces.length)),(20,.p (i64 x.1))]) (fun x=>[(7,.row 47 (x.2.map nQ))]) (fun x=>(aC a).pieces.length-x.1) (0,[]) _ ((au.dk (by exact hC) _ 7 47 _ (by decide) (by exact rfl) (by exact rfl) (by decide)).trans (au.gD (by exact hC) _ 3 (y:=.ip (rl r)) (fz:=[(3,.jd (rl r))]) (by exact⟨rfl,rfl⟩))) ⟨by rw[hG];rfl,by simp,aaj _⟩ ⟨rfl,rfl,rfl,rfl,rfl,adV (fun m:Nat=>AV.p (i64 m)) R,Z,Y⟩ ⟨Z,Y⟩ fun ⟨i,o⟩ hx t h=>?_;obtain⟨x1,x2,x3⟩:=hx;simp only at x1 x2 x3;apply iW<;>intro g1<;>try simp only[zB]at g1
 ·obtain⟨p,hp⟩:=ak (l:=(aC a).pieces) (i:=i) (by omega);have L:=J.pc p (aad hp);obtain⟨gi,U,i1,i2,i3,i4⟩:=afM J hn (i:=i) (by omega);rw[drop_at hp,aeE]at x1;refine⟨(jb p),(idx rfl hp),?_⟩;refine xp 9 (y:=.ip (jb p)) (fz:=[(9,.jd (jb p))]) (by exact hC) (by exact⟨rfl,rfl⟩) ?_;refine⟨wO (by omega),?_⟩;refine aJ (fun y:Nat×List Break=>y.2++(aeX r (aC a) nets i p y.1 ((aC a).pieces.drop y.1)++aeE r (aC a) nets (i+1) ((aC a).pieces.drop (i+1)))=G/\y.2.length<=2000*i+y.1/\i+1<=y.1/\y.1<=(aC a).pieces.length) (fun y=>[(1,.p (.ip (kW a))),(2,.p (strs nets)),(3,.p (.ip (rl r))),(7,.ow 7),(8,.p (i64 i)),(9,.p (.ip (jb p))),(10,.p (i64 y.1)),(18,.p (.sl ((aC a).pieces.map jb))),(19,.p (i64 (aC a).pieces.length)),(20,.p (i64 i))]) (fun y=>[(7,.row 47 (y.2.map nQ))]) (fun y=>(aC a).pieces.length-y.1) (i+1,o) _ (au.refl _ _) ⟨x1,by simp only;omega,by simp only;omega,by simp only;omega⟩ ⟨Z,Z,Z,Z,Z,Z,Z,Z,Z,Z,Y⟩ ⟨Z,Y⟩ fun ⟨k,o'⟩ hy t h=>?_;obtain⟨z,VP,VQ,VR⟩:=hy;simp only at z VP VQ VR;apply iW<;>intro V<;>try simp only[zB]at V
  ·rw[R]at V;obtain⟨q,N⟩:=ak (l:=(aC a).pieces) (i:=k) (by omega);have O:=J.pc q (aad N);obtain⟨gk,W,k1,k2,k3,k4⟩:=afM J hn (i:=k) (by omega);rw[drop_at N,aeX]at z;refine⟨(jb q),(idx rfl N),iW ?_ ?_⟩<;>intro g3
   ·have I:q.layer=p.layer:=g3;rw[aap I,aff,i2,k2,i4,k4]at z;refine⟨[i64 gi],(idx rfl i1),[i64 gk],(idx rfl k1),iW ?_ ?_⟩<;>intro g4
    ·rw[aap g4,acZ]at z;exact⟨wO (by omega),(k+1,o'),_,au.refl _ _,⟨z,by simp only;omega,by simp only;omega,by simp only;omega⟩,by simp only;omega,⟨Z,Z,Z,Z,Z,Z,Z,Z,Z,Z,Y⟩,⟨Z,Y⟩⟩
    rw[aaa g4]at z;have hga:=agw (told p.set) (told q.set) (fun r D=>by
     obtain⟨a1,a2,a3,a4⟩:=Reg.Q8 (Reg.bP L.sok r D) (Reg.fR L.sok L.ink r D);exact⟨⟨by omega,by omega⟩,⟨by omega,by omega⟩,⟨by omega,by omega⟩,⟨by omega,by omega⟩⟩) (fun r D=>by
     obtain⟨a1,a2,a3,a4⟩:=Reg.Q8 (Reg.bP O.sok r D) (Reg.fR O.sok O.ink r D);exact⟨⟨by omega,by omega⟩,⟨by omega,by omega⟩,⟨by omega,by omega⟩,⟨by omega,by omega⟩⟩) (by have:=L.jB;omega) (by have:=O.jB;omega)
    generalize afd (told p.set) (told q.set)=Q0 at *;have b8:=agv r hg U W p.layer Q0.src.1 Q0.src.2;generalize aeZ r U W p.layer Q0.src.1 Q0.src.2=need at *;refine⟨(jb q),(idx rfl N),_,_,hga,[str U],(idx rfl i3),[str W],(idx rfl k3),_,_,b8,iW ?_ ?_⟩<;>intro g5
    ·rw[aap g5]at z;exact⟨⟨fun r D=>by simp at D;subst D;rfl,by simp only[aej,aaM,aan,acv,aaB,acs];omega,by simp only[aej,aaM,aan,acv,aaB,acs];omega⟩,wO (by omega),(k+1,o'++[⟨1,i,k,Q0.dist,need,Q0.src⟩]),_,au.refl _ _,⟨by rw[<-z];simp only[abx,ac3,aaI,acZ],by simp only[acv,abS];omega,by simp only;omega,by simp only;omega⟩,by simp only;omega,⟨Z,Z,Z,Z,Z,Z,Z,Z,Z,Z,Y⟩,⟨by rw[abE];rfl,trivial⟩⟩
    rw[aaa g5,acZ]at z;exact⟨wO (by omega),(k+1,o'),_,au.refl _ _,⟨z,by simp only;omega,by simp only;omega,by simp only;omega⟩,by simp only;omega,⟨Z,Z,Z,Z,Z,Z,Z,Z,Z,Z,Y⟩,⟨Z,Y⟩⟩
   have I:¬q.layer=p.layer:=g3;rw[aaa I,acZ]at z;exact⟨wO (by omega),(i+1,o'),_,au.refl _ _,⟨z,by simp only;omega,by simp only;omega⟩,by simp only;omega,⟨Z,Z,Z,Z,Z,Z,Z,Y⟩,⟨Z,Y⟩⟩
  rw[R]at V;rw[ab1 (show (aC a).pieces.length<=k by omega),aeX,acZ]at z;exact⟨wO (by omega),(i+1,o'),_,au.refl _ _,⟨z,by simp only;omega,by simp only;omega⟩,by simp only;omega,⟨Z,Z,Z,Z,Z,Z,Z,Y⟩,⟨Z,Y⟩⟩
 rw[ab1 (by omega),aeE,acw]at x1;have x1:o=G:=x1;rw[<-x1];exact⟨Z,Z,Y⟩
open Reg (ff dy at' gT eJ)
theorem Jn{s:List an}(I:bE s)(ks:cv 1000000 s){n:Int}(z:0<=n):bE (coreS s n n n n)/\cv 1000000 (coreS s n n n n):=by
 have D:=Reg.pe I (l:=n) (r:=n) (d:=n) (u:=n) z z z z;exact⟨D.1,Dd D.1 I ks fun x y J=>(D.2.1 x y).1 J x y (by omega) (by omega) (by omega) (by omega)⟩
theorem xc(s:List an)(D:bE s)(ks:cv 1000000 s)(hn:(told s).length<=1000000)(n:Int)(z:0<=n)(I:n<=100000):af C 53 [.pv (aj (told s)),.pv (i64 n)] (.p (aj (told (coreS s n n n n)))) []:=by
 have lm:=ai (told s) rc;have e:=Reg.FE D z;rw[<-e];refine fW hC Tryz.func53 rfl (by kernel_rfl) fun _=>?_;apply iW<;>intro g
 ·refine⟨?_,trivial⟩;rw[Reg.xT,aap (by omega)];rfl
 have J:told s≠[]:=fun c=>g (by rw[c];rfl);have R:s≠[]:=fun c=>J (by rw[c];rfl);obtain⟨U,b2,b3⟩:=Reg.pG D R;have V:=b3 _ ks;have wf:=Reg.l6 U z;have wk:RK 1100000 (ff (dy (told s)) n):=by
  unfold RK at V ⊢;simp only[ff];omega
 obtain⟨W,_⟩:=Reg.gz wf;have w3:cv 1100000 (aB [ff (dy (told s)) n]):=(Reg.aR (l:=[ff (dy (told s)) n]) (fun q L=>by rw[ab_.1 L];exact wf)).2.2 _ fun q L=>by rw[ab_.1 L];exact wk
 have Y:=Reg.qS wf;obtain⟨l1,_,l3⟩:=Reg.b6 W D;have N:=l3 _ w3 (ks.up (by omega));have ll:=Reg.vQ (K:=1100000) l1 N;have Z:=mL W D (w3.up (by omega)) (ks.up (by omega)) (by rw[Y,abS];omega);rw[Y]at Z;have S9:=HQ _ l1 (N.up (by omega)) n z I;obtain⟨O,_,s3⟩:=Reg.bW l1 z z z z;have sk:=s3 _ _ N I I I I;have sl:=Reg.vQ (K:=1200000) O sk;have S_:=mL D O (ks.up (by omega)) (sk.up (by omega)) (by omega);refine⟨_,_,(Dv (told s) J (by omega)),_,_,(vS (dy (told s)) n (sW (by unfold RK at V ⊢;omega) U) z (by omega)),_,_,Z,_,_,S9,_,_,S_,?_,trivial⟩;rw[Reg.xT,aaa (fun c=>J (adN.1 c)),Reg.wZ D R z];have e2:Reg.bR ((told (bN (aB [ff (dy (told s)) n]) s)).map fun q=>ff q n)=told (a_ (bN (aB [ff (dy (told s)) n]) s) n n n n):=rfl;rw[e2,Reg.FC D O]
theorem Dz(o p:List an)(R:bE o)(U:cv 1000000 o)(no:(told o).length<=1000000)(hp:bE p)(kp:cv 1000000 p)(np:(told p).length<=1000000)(z:Int)(h0:0<=z)(h1:z<=100000):af C 55 [.pv (aj (told o)),.pv (aj (told p)),.pv (i64 z)] (.p (i64 (dL (fun n=>decide (bN p (coreS o n n n n)=[])) z))) []:=by
 obtain⟨H,V⟩:∃H:Int->Bool,H=fun n=>decide (bN p (coreS o n n n n)=[]):=⟨_,rfl⟩;rw[<-V];refine fW hC Tryz.func55 rfl (by kernel_rfl) fun _=>?_;refine aJ (fun x:Nat×Int×Int=>gn H x.1 x.2.1 x.2.2=dL H z/\(x.2.2-x.2.1).toNat<=x.1/\-1<=x.2.1/\x.2.1<=x.2.2/\x.2.2<=z) (fun x=>[(0,.p (aj (told o))),(1,.p (aj (told p))),(7,.p (i64 x.2.1)),(8,.p (i64 x.2.2))]) (fun _=>[]) (fun x=>x.1) ((z+1).toNat,-1,z) _ (au.refl _ _) ⟨rfl,by simp only;omega,by simp only;omega,by simp only;omega,by simp only;omega⟩ ⟨Z,Z,Z,Z,Y⟩ trivial fun ⟨n,low,high⟩ hx t h=>?_;obtain⟨x1,W,x3,x4,x5⟩:=hx;simp only at x1 W x3 x4 x5;apply iW<;>intro g<;>try simp only[zB]at g
 ·have hf:=pA (d:=high-low) (by omega);have hm:=NQ x3 g;rw[nB H g W,<-hm]at x1;obtain⟨m,J⟩:∃m,m=(low+high+1).tdiv 2:=⟨_,rfl⟩;have m0:0<=m:=by omega
  have m1:m<=100000:=by omega
  obtain⟨L,c2⟩:=Jn R U m0;have cl:=Reg.vQ (K:=1000000) L c2;have D:=xc o R U no m m0 m1;have I:=mL hp L (kp.up (by omega)) (c2.up (by omega)) (by omega);have N:=told_none (Reg.b6 hp L).1;have O:=ai (told (bN p (coreS o m m m m))) rc;have hk:H m=decide (bN p (coreS o m m m m)=[]):=by rw[V]
  rw[J]at D I N O hk;refine⟨⟨by (try dsimp only);omega,by (try dsimp only);omega⟩,⟨by (try dsimp only);omega,by (try dsimp only);omega⟩,by decide,⟨by (try dsimp only);omega,by (try dsimp only);omega⟩,_,_,D,_,_,I,iW ?_ ?_⟩<;>intro k
  ·rw[aap (by rw[hk];exact acd (N.1 (by omega)))]at x1;exact⟨(n-1,(low+high+1).tdiv 2,high),_,au.refl _ _,⟨x1,by simp only;omega,by simp only;omega,by simp only;omega,by simp only;omega⟩,by simp only;omega,⟨Z,Z,Z,Z,Y⟩,trivial⟩
  rw[aaa (by rw[hk];simpa using fun c=>k (by have:=N.2 c;omega))]at x1;exact⟨⟨by (try dsimp only);omega,by (try dsimp only);omega⟩,(n-1,low,(low+high+1).tdiv 2-1),_,au.refl _ _,⟨x1,by simp only;omega,by simp only;omega,by simp only;omega,by simp only;omega⟩,by simp only;omega,⟨Z,Z,Z,Z,Y⟩,trivial⟩
 rw[pB H g]at x1;refine⟨?_,trivial⟩;rw[x1]
theorem pK(l:List Break):af C 51 [.pv (.sl (l.map nQ))] (.tu [.sl ((mI l).1.map nQ),i64 (mI l).2]) []:=by
 have z:=ai l nQ;refine fW hC Tryz.func51 rfl (by kernel_rfl) fun _=>?_;apply iW<;>intro g
 ·rw[z]at g;rw[mI,aap (by omega)];refine⟨?_,trivial⟩;rfl
 rw[z]at g;rw[mI,aaa (by omega)];refine⟨?_,trivial⟩;rfl
open Reg (dJ noR af3)
theorem agM{s:List an}(I:bE s)(ks:cv 1000000 s)(hn:s≠[]){w:Int}(h0:1<=w)(h1:w<=100000):
  ∃A N z V,A=bN (aB [ff (dy (told s)) w]) s/\bE A/\cv 1100000 A/\aB ((told A).map (noR w))=N/\bE N/\cv 1200000 N/\z=bN s N/\bE z/\cv 1000000 z/\aB ((told z).map (af3 w))=V/\bE V/\cv 1100000 V/\bN s V=E1 s w:=by
 obtain⟨b1,b2,b3⟩:=Reg.pG I hn;have bk:=b3 _ ks;have wf:=Reg.l6 b1 (n:=w) (by omega);have wk:RK 1100000 (ff (dy (told s)) w):=by
  unfold RK at bk ⊢;simp only[ff];omega
 obtain⟨w1,_⟩:=Reg.gz wf;have w3:cv 1100000 (aB [ff (dy (told s)) w]):=(Reg.aR (l:=[ff (dy (told s)) w]) (fun q L=>by rw[ab_.1 L];exact wf)).2.2 _ fun q L=>by rw[ab_.1 L];exact wk
 have hl:=Reg.b6 w1 I;have e:=fun aN=>Reg.FD I wf (l:=0) (r:=w-1) (d:=0) (u:=w-1) (by omega) (by omega) (by omega) (by omega) aN;have aN:∀x y,at' s x y=true->(ff (dy (told s)) w).x0<=x-0/\x+(w-1)<(ff (dy (told s)) w).x1/\(ff (dy (told s)) w).y0<=y-0/\y+(w-1)<(ff (dy (told s)) w).y1:=fun x y hx=>by
  obtain⟨g1,g2,g3,g4⟩:=Reg.aQ.1 (b2 x y hx);exact⟨by show (dy (told s)).x0-w<=_;omega,by show _<(dy (told s)).x1+w;omega,by show (dy (told s)).y0-w<=_;omega,by show _<(dy (told s)).y1+w;omega⟩
 have e:=e aN;have O:E1 s w=bN s (a_ (coreS s 0 (w-1) 0 (w-1)) 0 (w-1) 0 (w-1)):=by rw[Reg.E1,aaa (by omega)]
 obtain⟨A,U⟩:∃A,A=bN (aB [ff (dy (told s)) w]) s:=⟨_,rfl⟩;rw[<-U]at hl e;have W:=hl.2.2 _ w3 (ks.up (by omega));have n1:noR w=dJ (w-1) 0 (w-1) 0:=funext fun q=>by simp only[noR,dJ,ae.mk.injEq];omega
 have n2:af3 w=dJ 0 (w-1) 0 (w-1):=funext fun q=>by simp only[af3,dJ,ae.mk.injEq];omega
 have J:=Reg.bW hl.1 (l:=w-1) (r:=0) (d:=w-1) (u:=0) (by omega) (by omega) (by omega) (by omega);have Y:aB ((told A).map (noR w))=a_ A (w-1) 0 (w-1) 0:=by rw[n1];rfl
 obtain⟨N,hN⟩:∃N,N=a_ A (w-1) 0 (w-1) 0:=⟨_,rfl⟩;rw[<-hN]at J e Y;have sk:=J.2.2 1100000 100000 W (by omega) (by omega) (by omega) (by omega);have cs:=(Reg.b6 I J.1).1;have R:=I1 I J.1 ks;obtain⟨z,hC⟩:∃z,z=bN s N:=⟨_,rfl⟩;rw[<-hC]at cs R e;rw[<-e]at O;have D:=Reg.bW cs (l:=0) (r:=w-1) (d:=0) (u:=w-1) (by omega) (by omega) (by omega) (by omega);have Z:aB ((told z).map (af3 w))=a_ z 0 (w-1) 0 (w-1):=by rw[n2];rfl
 obtain⟨V,hV⟩:∃V,V=a_ z 0 (w-1) 0 (w-1):=⟨_,rfl⟩;rw[<-hV]at D Z O;exact⟨A,N,z,V,U,hl.1,W,Y,J.1,sk,hC,cs,R,Z,D.1,D.2.2 1000000 100000 R (by omega) (by omega) (by omega) (by omega),O.symm⟩
theorem afN(s:List an)(I:bE s)(ks:cv 1000000 s)(hn:(told s).length<=1000000)(w:Int)(h0:0<=w)(h1:w<=100000):af C 38 [.pv (aj (told s)),.pv (i64 w)] (.p (aj (told (E1 s w)))) []:=by
 have lm:=ai (told s) rc;refine fW hC Tryz.func38 rfl (by kernel_rfl) fun _=>?_;apply iW<;>intro g0
 ·refine⟨?_,trivial⟩;rw[Reg.E1,aap (by omega)];rfl
 apply iW<;>intro g
 ·refine⟨?_,trivial⟩;have e:told s=[]:=adN.1 (by omega);have e2:s=[]:=Reg.qD I e;rw[e2,Reg.E1];split<;>rfl
 have b8:told s≠[]:=fun c=>g (by rw[c];rfl);have ZO:s≠[]:=fun c=>b8 (by rw[c];rfl);obtain⟨b1,b2,b3⟩:=Reg.pG I ZO;have bk:=b3 _ ks;have wf:=Reg.l6 b1 h0;have w1:=(Reg.gz wf).1;have ZP:=Reg.qS wf;have wk:RK 1100000 (ff (dy (told s)) w):=by
  unfold RK at bk ⊢;simp only[ff];omega
 have w3:cv 1100000 (aB [ff (dy (told s)) w]):=(Reg.aR (l:=[ff (dy (told s)) w]) (fun q z=>by rw[ab_.1 z];exact wf)).2.2 _ fun q z=>by rw[ab_.1 z];exact wk
 obtain⟨A,N,D,V,eA,R,kA,eN,sN,kN,eC,U,kC,eV,sV,kV,eT⟩:=agM I ks ZO (w:=w) (by omega) h1;have FU:=mL w1 I (w3.up (by omega)) (ks.up (by omega)) (by rw[ZP,abS];omega);rw[ZP,<-eA]at FU;have lA:=Reg.vQ (K:=1100000) R kA;have lN:=Reg.vQ (K:=1200000) sN kN;have lC:=Reg.vQ (K:=1000000) U kC;have lV:=Reg.vQ (K:=1100000) sV kV;have W:=Reg.bP R;have rA:=Reg.fR R kA;have fC:=Reg.bP U;have rC:=Reg.fR U kC;have hN:=vR (l:=(told A).map (noR w)) (fun q z=>by
  obtain⟨p,hp,rfl⟩:=adS.1 z;have:=W p hp;unfold Full at this ⊢;simp only[noR];omega) (fun q z=>by
  obtain⟨p,hp,rfl⟩:=adS.1 z;have:=rA p hp;have:=W p hp;unfold RK Full at *;simp only[noR];omega) (by rw[aej];omega)
 rw[eN]at hN;have hV:=vR (l:=(told D).map (af3 w)) (fun q z=>by
  obtain⟨p,hp,rfl⟩:=adS.1 z;have:=fC p hp;unfold Full at this ⊢;simp only[af3];omega) (fun q z=>by
  obtain⟨p,hp,rfl⟩:=adS.1 z;have:=rC p hp;have:=fC p hp;unfold RK Full at *;simp only[af3];omega) (by rw[aej];omega)
 rw[eV]at hV;have Qo:=mL I sN (ks.up (by omega)) (kN.up (by omega)) (by omega);rw[<-eC]at Qo;have F4:=mL I sV (ks.up (by omega)) (kV.up (by omega)) (by omega);rw[eT]at F4;refine⟨_,_,(Dv (told s) b8 (by omega)),_,_,(vS (dy (told s)) w (sW (by unfold RK at bk ⊢;omega) b1) h0 (by omega)),_,_,FU,?_⟩;have la:=ai (told A) rc;refine aJ (fun i:Nat=>i<=(told A).length) (fun i=>[(0,.p (aj (told s))),(1,.p (i64 w)),(5,.p (aj (told A))),(6,.ow 6),(7,.p (i64 i))]) (fun i=>[(6,.row 87 ((((told A).take i).map (noR w)).map rc))]) (fun i=>(told A).length-i) 0 _ (au.dk hC _ 6 87 _ (by decide) rfl rfl (by decide)) (aaj _) ⟨Z,Z,Z,Z,Z,Y⟩ ⟨Z,Y⟩ fun i hi t h=>?_;have J:=ai (((told A).take i).map (noR w)) rc;have ZG:(((told A).take i).map (noR w)).length<=i:=by rw[aej,aat];omega
 apply iW<;>intro g1
 ·rw[la]at g1;obtain⟨q,z⟩:=ak (l:=told A) (i:=i) (by omega);have L:=aad z;have r0:=rA q L;unfold RK at r0;have f0:=W q L;unfold Full at f0;exact⟨(rc q),(idx rfl z),wO (by omega),wO (by omega),wO (by omega),wO (by omega),⟨fun r O=>by simp at O;subst O;rfl,by simp only[J,aaB,acs,aaM,aan];omega,by simp only[J,aaB,acs,aaM,aan];omega⟩,wO (by omega),(i+1),_,au.refl _ _,by omega,by omega,⟨Z,Z,Z,Z,Z,Y⟩,⟨by rw[aZ z,abE,abE];rfl,trivial⟩⟩
 rw[la]at g1;have e2:(told A).take i=told A:=adW (by omega);rw[e2];refine⟨_,_,hN,_,_,Qo,?_⟩;have lc:=ai (told D) rc;refine aJ (fun i:Nat=>i<=(told D).length) (fun i=>[(0,.p (aj (told s))),(1,.p (i64 w)),(9,.p (aj (told D))),(10,.ow 10),(11,.p (i64 i))]) (fun i=>[(10,.row 87 ((((told D).take i).map (af3 w)).map rc))]) (fun i=>(told D).length-i) 0 _ (au.dk hC _ 10 87 _ (by decide) rfl rfl (by decide)) (aaj _) ⟨Z,Z,Z,Z,Z,Y⟩ ⟨Z,Y⟩ fun j hj t h=>?_;have J:=ai (((told D).take j).map (af3 w)) rc;have ZG:(((told D).take j).map (af3 w)).length<=j:=by rw[aej,aat];omega
 apply iW<;>intro g2
 ·rw[lc]at g2;obtain⟨q,z⟩:=ak (l:=told D) (i:=j) (by omega);have L:=aad z;have r0:=rC q L;unfold RK at r0;have f0:=fC q L;unfold Full at f0;exact⟨(rc q),(idx rfl z),wO (by omega),wO (by omega),wO (by omega),wO (by omega),⟨fun r O=>by simp at O;subst O;rfl,by simp only[J,aaB,acs,aaM,aan];omega,by simp only[J,aaB,acs,aaM,aan];omega⟩,wO (by omega),(j+1),_,au.refl _ _,by omega,by omega,⟨Z,Z,Z,Z,Z,Y⟩,⟨by rw[aZ z,abE,abE];rfl,trivial⟩⟩
 rw[lc]at g2;have e3:(told D).take j=told D:=adW (by omega);rw[e3];refine⟨_,_,hV,_,_,F4,?_,trivial⟩;rfl
open Reg (afl aeY afg jD aeW ag1 xu PIn)
theorem ago{r:ae}(h:P4 1000000000 r):jZ r:=by
 unfold P4 at h;unfold jZ;omega
theorem af5(a b:List ae)(ha:a≠[])(hb:b≠[])(W:∀r∈a,P4 1000000000 r)(mb:∀r∈b,P4 1000000000 r)(na:a.length<=4398046511104)(nb:b.length<=4398046511104):af C 113 [.pv (aj a),.pv (aj b)] (.p (i64 (afl a b))) []:=by
 have J:=ai a rc;have L:=ai b rc;obtain⟨x0,N⟩:=ak (l:=a) (i:=0) (adj.2 ha);obtain⟨y0,D⟩:=ak (l:=b) (i:=0) (adj.2 hb);have O:=ago (W x0 (aad N));have R:=ago (mb y0 (aad D));refine fW hC Tryz.func113 rfl (by kernel_rfl) fun _=>?_;refine⟨(rc x0),(idx (i:=0) rfl N),(rc y0),(idx (i:=0) rfl D),_,_,(afD x0 y0 O R),?_⟩;refine aJ (fun x:Nat×Int=>(a.drop x.1).foldl (fun n x=>b.foldl (fun n y=>min n (fT x y)) n) x.2=afl a b) (fun x=>[(0,.p (aj a)),(1,.p (aj b)),(5,.p (i64 x.2)),(6,.p (i64 x.1))]) (fun _=>[]) (fun x=>a.length-x.1) (0,fT x0 y0) _ (au.refl _ _) (by rw[afl,Jm N,Jm D];rfl) ⟨Z,Z,Z,Z,Y⟩ trivial fun ⟨i,n⟩ z t h=>?_;dsimp only at z;apply iW<;>intro g
 ·rw[J]at g;obtain⟨x,U⟩:=ak (l:=a) (i:=i) (by omega);have mx:=ago (W x (aad U));rw[drop_at U,aaq]at z;refine aJ (fun y:Nat×Int=>(b.drop y.1).foldl (fun n y=>min n (fT x y)) y.2=b.foldl (fun n y=>min n (fT x y)) n) (fun y=>[(0,.p (aj a)),(1,.p (aj b)),(5,.p (i64 y.2)),(6,.p (i64 i)),(7,.p (i64 y.1))]) (fun _=>[]) (fun y=>b.length-y.1) (0,n) _ (au.refl _ _) rfl ⟨Z,Z,Z,Z,Z,Y⟩ trivial fun ⟨j,m⟩ I t h=>?_;dsimp only at I;apply iW<;>intro g2
  ·rw[L]at g2;obtain⟨y,V⟩:=ak (l:=b) (i:=j) (by omega);have my:=ago (mb y (aad V));rw[drop_at V,aaq]at I;exact⟨(rc x),(idx rfl U),(rc y),(idx rfl V),_,_,(afD x y mx my),wO (by omega),(j+1,min m (fT x y)),_,au.refl _ _,I,by dsimp only;omega,⟨Z,Z,Z,Z,Z,Y⟩,trivial⟩
  rw[L]at g2;rw[ab1 (by omega)]at I;have I:m=_:=I;rw[<-I]at z;exact⟨wO (by omega),(i+1,m),_,au.refl _ _,z,by dsimp only;omega,⟨Z,Z,Z,Z,Y⟩,trivial⟩
 rw[J]at g;rw[ab1 (by omega)]at z;have z:n=_:=z;refine⟨?_,trivial⟩;rw[z]
theorem afO(a b:List ae)(n:Int)(hn:0<=n/\n<=10000000000)(ma:∀r∈a,P4 1000000000 r)(mb:∀r∈b,P4 1000000000 r)(na:a.length<=4398046511104)(nb:b.length<=4398046511104):af C 114 [.pv (aj a),.pv (aj b),.pv (i64 n)] (.tu [.ag (pt (afg a b n).2),bool (afg a b n).1]) []:=by
 have R:=ai a rc;have U:=ai b rc;refine fW hC Tryz.func114 rfl (by kernel_rfl) fun _=>?_;refine aJ (fun x:Nat×Bool×Int×Int=>(a.drop x.1).foldl (fun s x=>b.foldl (fun s y=>aeY n s x y) s) x.2=afg a b n) (fun x=>[(0,.p (aj a)),(1,.p (aj b)),(2,.p (i64 n)),(6,.bx 6 0),(8,.bx 8 0),(9,.p (bool x.2.1)),(10,.p (i64 x.1))]) (fun x=>[(6,.box [.p (i64 0),.p (i64 0)]),(8,.box [.p (i64 x.2.2.1),.p (i64 x.2.2.2)])]) (fun x=>a.length-x.1) (0,false,0,0) _ (au.refl _ _) rfl ⟨Z,Z,Z,Z,Z,Z,Z,Y⟩ ⟨Z,Z,Y⟩ fun ⟨i,st⟩ L t h=>?_;dsimp only at L;apply iW<;>intro g
 ·rw[R]at g;obtain⟨x,N⟩:=ak (l:=a) (i:=i) (by omega);have mx:=ma x (aad N);unfold P4 at mx;rw[drop_at N,aaq]at L;refine aJ (fun y:Nat×Bool×Int×Int=>(b.drop y.1).foldl (fun s y=>aeY n s x y) y.2=b.foldl (fun s y=>aeY n s x y) st) (fun y=>[(0,.p (aj a)),(1,.p (aj b)),(2,.p (i64 n)),(6,.bx 6 0),(8,.bx 8 0),(9,.p (bool y.2.1)),(10,.p (i64 i)),(11,.p (i64 y.1))]) (fun y=>[(6,.box [.p (i64 0),.p (i64 0)]),(8,.box [.p (i64 y.2.2.1),.p (i64 y.2.2.2)])]) (fun y=>b.length-y.1) (0,st) _ (au.refl _ _) rfl ⟨Z,Z,Z,Z,Z,Z,Z,Z,Y⟩ ⟨Z,Z,Y⟩ fun ⟨j,J,D,z⟩ I t h=>?_;dsimp only at I;apply iW<;>intro g2
  ·rw[U]at g2;obtain⟨y,O⟩:=ak (l:=b) (i:=j) (by omega);have my:=mb y (aad O);unfold P4 at my;rw[drop_at O,aaq]at I;have eP:jD x y n=(max x.x0 (y.x0-n),max x.y0 (y.y0-n)):=rfl;have eS:aeY n (J,D,z) x y=if min x.x1 (y.x1+n)-1<max x.x0 (y.x0-n)\/min x.y1 (y.y1+n)-1<max x.y0 (y.y0-n) then (J,D,z) else
    if J=false\/(max x.y0 (y.y0-n)<z\/max x.y0 (y.y0-n)=z/\max x.x0 (y.x0-n)<D) then (true,max x.x0 (y.x0-n),max x.y0 (y.y0-n)) else (J,D,z):=by
    simp only[aeY,eP,aeW,adZ,aaZ,aaH]
   rw[eS]at I;refine⟨(rc x),(idx rfl N),(rc y),(idx rfl O),wO (by omega),(rc x),(idx rfl N),(rc y),(idx rfl O),wO (by omega),(rc x),(idx rfl N),(rc y),(idx rfl O),wO (by omega),wO (by omega),?_⟩;have no:(min x.x1 (y.x1+n)-1<max x.x0 (y.x0-n)\/min x.y1 (y.y1+n)-1<max x.y0 (y.y0-n))->(b.drop (j+1)).foldl (fun s y=>aeY n s x y) (J,D,z)=b.foldl (fun s y=>aeY n s x y) st:=fun c=>by rw[aap c]at I;exact I
   have V:¬(min x.x1 (y.x1+n)-1<max x.x0 (y.x0-n)\/min x.y1 (y.y1+n)-1<max x.y0 (y.y0-n))->¬(J=false\/(max x.y0 (y.y0-n)<z\/max x.y0 (y.y0-n)=z/\max x.x0 (y.x0-n)<D))->(b.drop (j+1)).foldl (fun s y=>aeY n s x y) (J,D,z)=b.foldl (fun s y=>aeY n s x y) st:=fun c d=>by rw[aaa c,aaa d]at I;exact I
   have yes:¬(min x.x1 (y.x1+n)-1<max x.x0 (y.x0-n)\/min x.y1 (y.y1+n)-1<max x.y0 (y.y0-n))->(J=false\/(max x.y0 (y.y0-n)<z\/max x.y0 (y.y0-n)=z/\max x.x0 (y.x0-n)<D))->(b.drop (j+1)).foldl (fun s y=>aeY n s x y) (true,max x.x0 (y.x0-n),max x.y0 (y.y0-n))=b.foldl (fun s y=>aeY n s x y) st:=fun c d=>by rw[aaa c,aap d]at I;exact I
   apply iW<;>intro c1
   ·exact⟨wO (by omega),(j+1,J,D,z),_,au.refl _ _,no (.inl c1),by dsimp only;omega,⟨Z,Z,Z,Z,Z,Z,Z,Z,Y⟩,⟨Z,Z,Y⟩⟩
   refine⟨(rc x),(idx rfl N),(rc y),(idx rfl O),wO (by omega),wO (by omega),iW ?_ ?_⟩<;>intro c2
   ·exact⟨wO (by omega),(j+1,J,D,z),_,au.refl _ _,no (.inr c2),by dsimp only;omega,⟨Z,Z,Z,Z,Z,Z,Z,Z,Y⟩,⟨Z,Z,Y⟩⟩
   have c:¬(min x.x1 (y.x1+n)-1<max x.x0 (y.x0-n)\/min x.y1 (y.y1+n)-1<max x.y0 (y.y0-n)):=fun c=>c.elim c1 c2;apply iW<;>intro c3
   ·exact⟨wO (by omega),(j+1,true,max x.x0 (y.x0-n),max x.y0 (y.y0-n)),_,au.refl _ _,yes c (.inl c3),by dsimp only;omega,⟨Z,Z,Z,Z,Z,Z,Z,Z,Y⟩,⟨Z,Z,Y⟩⟩
   subst c3;apply iW<;>intro W
   ·exact⟨wO (by omega),(j+1,true,max x.x0 (y.x0-n),max x.y0 (y.y0-n)),_,au.refl _ _,yes c (.inr (.inl W)),by dsimp only;omega,⟨Z,Z,Z,Z,Z,Z,Z,Z,Y⟩,⟨Z,Z,Y⟩⟩
   apply iW<;>intro c5
   ·apply iW<;>intro c6
    ·exact⟨wO (by omega),(j+1,true,max x.x0 (y.x0-n),max x.y0 (y.y0-n)),_,au.refl _ _,yes c (.inr (.inr ⟨c5,c6⟩)),by dsimp only;omega,⟨Z,Z,Z,Z,Z,Z,Z,Z,Y⟩,⟨Z,Z,Y⟩⟩
    refine⟨wO (by omega),(j+1,true,D,z),_,au.refl _ _,?_⟩;exact⟨V c (fun d=>by
                 rcases d with d | d | d;· cases d
                 ·exact W d
                 exact c6 d.2),by dsimp only;omega,⟨Z,Z,Z,Z,Z,Z,Z,Z,Y⟩,⟨Z,Z,Y⟩⟩
   refine⟨wO (by omega),(j+1,true,D,z),_,au.refl _ _,?_⟩;exact⟨V c (fun d=>by
                rcases d with d | d | d;· cases d
                ·exact W d
                exact c5 d.1),by dsimp only;omega,⟨Z,Z,Z,Z,Z,Z,Z,Z,Y⟩,⟨Z,Z,Y⟩⟩
  rw[U]at g2;rw[ab1 (by omega)]at I;have I:(J,D,z)=_:=I;rw[<-I]at L;exact⟨wO (by omega),(i+1,J,D,z),_,au.refl _ _,L,by dsimp only;omega,⟨Z,Z,Z,Z,Z,Z,Z,Y⟩,⟨Z,Z,Y⟩⟩
 rw[R]at g;rw[ab1 (by omega)]at L;have L:st=_:=L;refine⟨?_,trivial⟩;rw[<-L];rfl
theorem ahr{a b:List ae}(I:a≠[])(hb:b≠[]){K:Int}(z:∀r∈a,P4 K r)(D:∀r∈b,P4 K r):0<=afl a b/\afl a b<=2*K+1:=by
 rw[afl,Reg.afJ];rcases (Reg.FH (Reg.aeA a b) (fT (dD a) (dD b))).2.2 with e | e
 ·rw[e];exact Reg.Nw (z _ (Reg.head_mem I)) (D _ (Reg.head_mem hb))
 obtain⟨x,J,y,L,e⟩:=Reg.afa.1 e;rw[<-e];exact Reg.Nw (z x J) (D y L)
theorem ahh{K n:Int}(z:0<=n){x y:ae}(D:P4 K x)(I:P4 K y){s:Bool×Int×Int}(h:PIn K s.2):PIn K (aeY n s x y).2:=by
 have:=Reg.agj z D I;rw[aeY];split
 ·exact h
 split
 ·exact this
 exact h
theorem afA{α β:Type}(P:α->Prop)(f:α->β->α):∀(l:List β) (s:α),(∀s x,x∈l->P s->P (f s x))->P s->P (l.foldl f s)
 | [],s,_,h=>h
 | x::l,s,hf,h=>afA P f l (f s x) (fun s y z=>hf s y (aaw _ z)) (hf s x adU h)
theorem ahi{a b:List ae}{K n:Int}(z:0<=K)(D:0<=n)(I:∀r∈a,P4 K r)(J:∀r∈b,P4 K r):PIn K (afg a b n).2:=
 afA (fun s:Bool×Int×Int=>PIn K s.2) _ a _ (fun s x L h=>afA (fun s:Bool×Int×Int=>PIn K s.2) _ b s (fun s y N h=>ahh D (I x L) (J y N) h) h) ⟨⟨by show -K<=0;omega,z⟩,⟨by show -K<=0;omega,z⟩⟩
theorem ag4(a b:List ae)(N:a≠[])(hb:b≠[])(I:∀r∈a,P4 2000000 r)(J:∀r∈b,P4 2000000 r)(na:a.length<=4398046511104)(nb:b.length<=4398046511104):af C 44 [.pv (aj a),.pv (aj b)] (.p (.ag (gc (ag1 a b)))) []:=by
 have up:∀r:ae,P4 2000000 r->P4 1000000000 r:=fun r h=>by unfold P4 at h ⊢;omega
 have z:=fun r D=>up r (I r D);have L:=fun r D=>up r (J r D);have R:=ahr N hb I J;have hp:=ahi (n:=afl a b) (by omega) R.1 I J;obtain⟨S,hS⟩:∃S,S=afg a b (afl a b):=⟨_,rfl⟩;have O:=afO a b (afl a b) ⟨by omega,by omega⟩ z L na nb;rw[<-hS]at hp O;unfold PIn at hp;have U:=afO b [xu S.2] (afl a b) ⟨by omega,by omega⟩ L (fun r D=>by
  rw[ab_.1 D];unfold P4;simp only[xu];omega) nb (by simp)
 refine fW hC Tryz.func44 rfl (by kernel_rfl) fun _=>?_;refine⟨_,_,(af5 a b N hb z L na nb),_,_,O,wO (by omega),wO (by omega),_,_,U,wO (by omega),?_,trivial⟩;rw[ag1,<-hS];rfl
open Reg (aU)
theorem ahs{y:ByteArray}(h:lh y=true):y≠M4:=by
 rintro rfl;exact absurd h (by decide)
theorem agB{r:cP}(D:zd r){c:Class}(I:c∈r.classes)(x:ByteArray):(hasB c.nets x&&!decide (x=M4))=hasB c.nets x:=by
 by_cases z:x=M4
 ·have:hasB c.nets x=false:=by
   rw[aaV];exact fun h=>ahs ((D.cl c I).2.2.1 x (Et.1 h)) z
  rw[this];rfl
 rw[aaz z];simp
theorem ag5{l:List ae}(h:Reg.aF l=0)(x y:Int):aL (Reg.rowOf l y) x=l.any (M3 x y):=by
 have z:∀r∈l,r.x0<r.x1:=by
  unfold Reg.aF at h;by_cases D:Reg.cz l=0
  ·exact fun r z=>((Reg.jK D).2 r z).2.1
  rw[aaa D]at h;exact absurd h D
 have L:=(Reg.iS l y z).2 x;rw[abb,aL,aci,aci];refine Iff.trans ?_ (L.trans ?_)
 ·simp[Reg.cover]
 constructor
 ·rintro⟨r,I,J,h3⟩;exact⟨r,I,by simp[M3];omega⟩
 rintro⟨r,I,J⟩;refine⟨r,I,?_⟩;simp[M3]at J;omega
theorem af6(r:cP)(I:zd r)(x:ByteArray):af C 148 [.pv (.ag (rl r)),.pv (str x)] (.p (.ag (kl (aeR r.classes x)))) []:=by
 refine fW hC Tryz.func148 rfl (by kernel_rfl) fun _=>?_;have lm:=ai r.classes kl;have nc:=I.nc;refine aJ (fun i:Nat=>i<=r.classes.length/\∀c∈r.classes.take i,(hasB c.nets x&&!decide (x=M4))=false) (fun i=>[(1,.p (str x)),(2,.bx 2 0),(4,.bx 4 0),(5,.p (i64 i))]) (fun _=>[(2,.box (C_ r)),(4,.box [.p (str M4),.nl,.p (i64 0),.p (i64 0)])]) (fun i=>r.classes.length-i) 0 _ (au.refl _ _) ⟨aaj _,by simp⟩ ⟨Z,Z,Z,Z,Y⟩ ⟨Z,Z,Y⟩ fun i hi t h=>?_;obtain⟨q1,J⟩:=hi;apply iW<;>intro h1
 ·obtain⟨c,D⟩:=ak (l:=r.classes) (i:=i) (by omega);have L:=aad D;obtain⟨c1,c2,c3,c4,c5⟩:=I.cl c L;refine⟨(kl c),(idx rfl D),_,_,(Eu c.nets x (by omega)),iW ?_ ?_⟩<;>intro N
  ·refine⟨(kl c),(idx rfl D),?_,trivial⟩;rw[aeR,agQ D (by rw[agB I L,N]) J];rfl
  refine⟨wO (by omega),(i+1),_,au.refl _ _,⟨by omega,fun d z=>?_⟩,by omega,⟨Z,Z,Z,Z,Y⟩,⟨Z,Z,Y⟩⟩;rw[aZ D,abi,ab_]at z;rcases z with z | z
  ·exact J d z
  rw[z,agB I L];simpa using N
 have e:i=r.classes.length:=by omega
 refine⟨?_,trivial⟩;rw[e,abU]at J;rw[aeR,ac1.2 (fun y O=>by rw[J y O];decide)];rfl
theorem afF(r:cP)(D:zd r)(x:ByteArray):af C 146 [.pv (.ag (rl r)),.pv (str x)] (.p (i64 (ae2 r x))) []:=by
 refine fW hC Tryz.func146 rfl (by kernel_rfl) fun _=>?_;refine⟨_,_,(af6 r D x),iW ?_ ?_⟩<;>intro z
 ·refine⟨?_,trivial⟩;rw[ae2,aap z]
 refine⟨?_,trivial⟩;rw[ae2,aaa z]
theorem agp(r:cP)(D:zd r)(x:ByteArray):af C 68 [.pv (.ag (rl r)),.pv (str x)] (.p (i64 (E3 r x))) []:=by
 refine fW hC Tryz.func68 rfl (by kernel_rfl) fun _=>?_;refine⟨_,_,(af6 r D x),iW ?_ ?_⟩<;>intro z
 ·refine⟨?_,trivial⟩;rw[E3,aap z]
 refine⟨?_,trivial⟩;rw[E3,aaa z]
theorem agq(s:ByteArray)(I:ue s):af C 140 [.pv (str s)] (.p (bool (afe s))) []:=by
 have D:s.size<4294967281:=I;refine fW hC Tryz.func140 rfl (by kernel_rfl) fun _=>?_;apply iW<;>intro z
 ·have z:s=M4:=by simpa [M4] using z
  refine⟨?_,trivial⟩;rw[afe,acd z];rfl
 have z:¬s=M4:=by simpa [M4] using z
 refine⟨_,_,(wH s D),?_,trivial⟩;rw[afe,aaz z,abv]
theorem agN(r:cP)(I:zd r)(a b:ByteArray)(layer x y:Int):af C 71 [.pv (.ag (rl r)),.pv (str a),.pv (str b),.pv (i64 layer),.pv (.ag [i64 x,i64 y])] (.p (i64 (aeZ r a b layer x y))) []:=by
 refine fW hC Tryz.func71 rfl (by kernel_rfl) fun _=>?_;have lm:=ai r.areas arr;have na:=I.na;refine aJ (fun i:Nat=>i<=r.areas.length) (fun i=>[(1,.p (str a)),(2,.p (str b)),(3,.p (i64 layer)),(5,.bx 5 0),(9,.bx 9 0),(11,.p (i64 (max 0 (aey layer x y (r.areas.take i) (-1))))),(12,.p (bool (decide (0<=aey layer x y (r.areas.take i) (-1))))),(13,.p (i64 i))]) (fun _=>[(5,.box (C_ r)),(9,.box [.p (i64 x),.p (i64 y)])]) (fun i=>r.areas.length-i) 0 _ (au.refl _ _) (aaj _) ⟨Z,Z,Z,Z,Z,Z,Z,Z,Y⟩ ⟨Z,Z,Y⟩ fun i hi t h=>?_;apply iW<;>intro h1
 ·obtain⟨c,L⟩:=ak (l:=r.areas) (i:=i) (by omega);obtain⟨g1,N,W⟩:=I.ar c (aad L);have g4:0<=c.clearance:=by simp[cL]at W;omega
  have hl:=yY N;have J:=ag5 N x y;have O:aey layer x y (r.areas.take (i+1)) (-1)=(if meets layer x y c=true then max (aey layer x y (r.areas.take i) (-1)) c.clearance else aey layer x y (r.areas.take i) (-1)):=by rw[aZ L,afx];rfl
  have no:meets layer x y c=false->aey layer x y (r.areas.take (i+1)) (-1)=aey layer x y (r.areas.take i) (-1):=fun h=>by rw[O,aaa (by rw[h];decide)]
  have yes:meets layer x y c=true->aey layer x y (r.areas.take (i+1)) (-1)=max (aey layer x y (r.areas.take i) (-1)) c.clearance:=fun h=>by rw[O,aap h]
  have y1:meets layer x y c=true->max (max 0 (aey layer x y (r.areas.take i) (-1))) c.clearance=max 0 (aey layer x y (r.areas.take (i+1)) (-1)):=fun h=>by rw[yes h];omega
  have R:meets layer x y c=true->true=decide (0<=aey layer x y (r.areas.take (i+1)) (-1)):=fun h=>by rw[yes h];symm;rw[aaH];omega
  refine⟨(arr c),(idx rfl L),iW ?_ ?_⟩<;>intro z
  ·have on:onB c layer=true:=by rw[onB,acd (by omega:c.layer<0)];rfl
   refine⟨_,_,(tP c.region x y (by omega)),iW ?_ ?_⟩<;>intro D
   ·have m:meets layer x y c=true:=by rw[meets,on,<-J,D];rfl
    exact⟨wO (by omega),(i+1),_,au.refl _ _,by omega,by omega,⟨rfl,rfl,rfl,rfl,rfl,a8 (y1 m),afB (R m),Z,Y⟩,⟨Z,Z,Y⟩⟩
   have m:meets layer x y c=false:=by rw[meets,on,<-J];simpa using D
   exact⟨wO (by omega),(i+1),_,au.refl _ _,by omega,by omega,⟨rfl,rfl,rfl,rfl,rfl,a8 (by rw[no m]),afB (by rw[no m]),Z,Y⟩,⟨Z,Z,Y⟩⟩
  apply iW<;>intro U
  ·have on:onB c layer=true:=by rw[onB,acd U,ads]
   refine⟨_,_,(tP c.region x y (by omega)),iW ?_ ?_⟩<;>intro D
   ·have m:meets layer x y c=true:=by rw[meets,on,<-J,D];rfl
    exact⟨wO (by omega),(i+1),_,au.refl _ _,by omega,by omega,⟨rfl,rfl,rfl,rfl,rfl,a8 (y1 m),afB (R m),Z,Y⟩,⟨Z,Z,Y⟩⟩
   have m:meets layer x y c=false:=by rw[meets,on,<-J];simpa using D
   exact⟨wO (by omega),(i+1),_,au.refl _ _,by omega,by omega,⟨rfl,rfl,rfl,rfl,rfl,a8 (by rw[no m]),afB (by rw[no m]),Z,Y⟩,⟨Z,Z,Y⟩⟩
  have on:onB c layer=false:=by rw[onB,aaz (by omega:¬c.layer<0),aaz U];rfl
  have m:meets layer x y c=false:=by rw[meets,on];rfl
  exact⟨wO (by omega),(i+1),_,au.refl _ _,by omega,by omega,⟨rfl,rfl,rfl,rfl,rfl,a8 (by rw[no m]),afB (by rw[no m]),Z,Y⟩,⟨Z,Z,Y⟩⟩
 have e:i=r.areas.length:=by omega
 subst e;have V:r.areas.take r.areas.length=r.areas:=abU;apply iW<;>intro z
 ·have z:0<=aey layer x y (r.areas.take r.areas.length) (-1):=by simpa using z
  refine⟨?_,trivial⟩;rw[V]at z ⊢;rw[aeZ,aap z];congr 2;omega
 have z:¬0<=aey layer x y (r.areas.take r.areas.length) (-1):=by simpa using z
 refine⟨_,_,(afF r I a),_,_,(afF r I b),?_,trivial⟩;rw[V]at z;rw[aeZ,aaa z];rfl
open Reg (cJ)
theorem Jo{n:Int}{b:aS}(h:Reg.qF n b):bE (aB [aa b])/\cv 1000000 (aB [aa b])/\Full (aa b)/\told (aB [aa b])=[aa b]:=by
 have f:=Reg.bX (ky h);have D:=h.ok;simp only[cJ,aaZ,Reg.c7,Reg.kR,aaH]at D;have I:=f;obtain⟨f1,f2⟩:=I;refine⟨(Reg.gz f).1,(Reg.aR (l:=[aa b]) (fun q z=>by rw[ab_.1 z];exact f)).2.2 _ fun q z=>?_,f,Reg.qS f⟩;rw[ab_.1 z];unfold RK;omega
theorem N2{i:Nat}{layer:Int}{j:Nat}{y:aS}(h:bs[j]?=some y)(S:List an):dM bs i layer j (bs.drop j) S=dM bs i layer (j+1) (bs.drop (j+1)) (if j≠i/\through y layer=true then uo S (aB [aa y]) else S):=by
 rw[drop_at h,dM]
def DA:Break:=⟨0,0,0,0,0,(0,0)⟩
def P3:List Break->Break×Bool
 | []=>(DA,false)
 | b::_=>(b,true)
theorem K4(r:cP)(hg:zd r)(a:fS)(W:iD a)(i:Nat)(b:aS)(hb:a.bores[i]?=some b)(k:Nat)(c:List ae)(hc:a.coppers[k]?=some c):af C 50 [.pv (.ag (rl r)),.pv (.ag (dX a)),.pv (i64 i),.pv (i64 k)] (.tu [.ag (nQ (P3 (lS r.ring a.bores a.coppers i b k)).1),bool (P3 (lS r.ring a.bores a.coppers i b k)).2]) []:=by
 have lb:=ai a.bores bc;have jB:=W.jB;have HY:=hg.nums;simp only[gM,cL,aaZ,aaH]at HY;have gb:=W.bor b (aad hb);have uW:=ky gb;obtain⟨q1,q2,O,qt⟩:=Jo gb;have V:=ph (W.reg c (aad hc));have ct:=nF (W.reg c (aad hc));have ZR:a.coppers.getD (k:Int).toNat []=c:=by rw[ad2,ad4,hc];rfl
 have N3:=Reg.FI V.full O;have K5:jZ (aa b):=sW (by
  have:=Reg.er uW;unfold RK at this ⊢;omega) O
 have Yt:∀p∈c,jZ p:=fun p hp=>sW (by
  have:=V.rk p hp;unfold RK at this ⊢;omega) (V.full p hp)
 obtain⟨G,J⟩:∃G,G=lS r.ring a.bores a.coppers i b k:=⟨_,rfl⟩;rw[<-J];rw[lS,ZR,qP,fF,ZR]at J;refine fW hC Tryz.func50 rfl (by kernel_rfl) fun _=>?_;refine⟨(bc b),(idx rfl hb),_,_,(di b uW),[aj c],(idx rfl hc),_,_,(FK c (aa b) Yt K5 (by have:=V.len;omega)),iW ?_ ?_⟩<;>intro g1
 ·rw[aap (acz fun e=>by have:=N3.2 e;rw[g1]at this;cases this)]at J;rw[J];exact And.intro rfl trivial
 have g1:(c.any fun p=>en p (aa b))=true:=by simpa using g1
 rw[aaa (N3.1 g1)]at J;refine⟨[aj c],(idx rfl hc),?_⟩;refine aJ (fun x:Nat×List an=>dM a.bores i k x.1 (a.bores.drop x.1) x.2=dM a.bores i k 0 a.bores (aB c)/\bE x.2/\cv 1000000 x.2) (fun x=>[(2,.p (i64 i)),(3,.p (i64 k)),(4,.bx 4 0),(5,.bx 5 0),(8,.bx 8 0),(10,.bx 10 0),(11,.p (aj (told x.2))),(12,.p (i64 x.1))]) (fun _=>[(4,.box (C_ r)),(5,.box ((dX a).map .p)),(8,.box ((nQ DA).map .p)),(10,.box ((rc (aa b)).map .p))]) (fun x=>a.bores.length-x.1) (0,aB c) _ (au.refl _ _) ⟨rfl,V.sok,V.ink⟩ ⟨rfl,rfl,rfl,rfl,rfl,rfl,by rw[ct];rfl,Z,Y⟩ ⟨Z,Z,Z,Z,Y⟩ fun ⟨j,S⟩ hx t h=>?_;obtain⟨x1,D,N⟩:=hx;simp only at x1 D N;apply iW<;>intro g2<;>try simp only[zB]at g2
 ·obtain⟨y,I⟩:=ak (l:=a.bores) (i:=j) (by omega);have gy:=W.bor y (aad I);obtain⟨y1,y2,yf,yt⟩:=Jo gy;rw[N2 I]at x1;have skip:¬(j≠i/\through y k=true)->dM a.bores i k (j+1) (a.bores.drop (j+1)) S=dM a.bores i k 0 a.bores (aB c):=fun e=>by rw[aaa e]at x1;exact x1
  apply iW<;>intro g3<;>try simp only[zB]at g3
  ·refine⟨(bc y),(idx rfl I),iW ?_ ?_⟩<;>intro g4
   ·refine⟨(bc y),(idx rfl I),iW ?_ ?_⟩<;>intro g5
    ·rw[aap ⟨by omega,by simp only[through];rw[acd g4,acd g5];rfl⟩]at x1;obtain⟨o1,_,o3⟩:=Reg.kH D y1;have sl:=Reg.vQ (K:=1000000) D N;have Wt:=S6 D y1 (N.up (by omega)) (y2.up (by omega)) (by rw[yt,abS];omega);rw[yt]at Wt;exact⟨(bc y),(idx rfl I),_,_,(di y (ky gy)),_,_,Wt,wO (by omega),(j+1,uo S (aB [aa y])),_,au.refl _ _,⟨x1,o1,o3 _ N y2⟩,by simp only;omega,⟨Z,Z,Z,Z,Z,Z,Z,Z,Y⟩,⟨Z,Z,Z,Z,Y⟩⟩
    have x1:=skip (fun e=>g5 (by have:=e.2;simp only[through,aaZ,aaH]at this;exact this.2));exact⟨wO (by omega),(j+1,S),_,au.refl _ _,⟨x1,D,N⟩,by simp only;omega,⟨Z,Z,Z,Z,Z,Z,Z,Z,Y⟩,⟨Z,Z,Z,Z,Y⟩⟩
   have x1:=skip (fun e=>g4 (by have:=e.2;simp only[through,aaZ,aaH]at this;exact this.1));exact⟨wO (by omega),(j+1,S),_,au.refl _ _,⟨x1,D,N⟩,by simp only;omega,⟨Z,Z,Z,Z,Z,Z,Z,Z,Y⟩,⟨Z,Z,Z,Z,Y⟩⟩
  have x1:=skip (fun e=>by omega);exact⟨wO (by omega),(j+1,S),_,au.refl _ _,⟨x1,D,N⟩,by simp only;omega,⟨Z,Z,Z,Z,Z,Z,Z,Z,Y⟩,⟨Z,Z,Z,Z,Y⟩⟩
 rw[ab1 (by omega),dM]at x1;rw[<-x1]at J;have L:0<=r.ring:=by omega
 have wf:=Reg.l6 O L;have wo:=NP O L;have wt:=Reg.qS wf;obtain⟨s1,s2,s3⟩:=Reg.bW q1 L L L L;have sk:cv 1100000 (a_ (aB [aa b]) r.ring r.ring r.ring r.ring):=s3 1000000 100000 q2 (by omega) (by omega) (by omega) (by omega);obtain⟨l1,_,l3⟩:=Reg.b6 s1 q1;have lk:=l3 _ sk (q2.up (by omega));obtain⟨f1,f2⟩:=Reg.pH O D L;obtain⟨_,_,f3⟩:=Reg.b6 l1 D;have fk:=f3 _ lk (N.up (by omega));have N4:=mL s1 q1 (sk.up (by omega)) (q2.up (by omega)) (by rw[qt,<-wo,wt];simp);rw[qt,<-wo,wt]at N4;have sl:=Reg.vQ (K:=1000000) D N;have U:(told (bN (aB [ff (aa b) r.ring]) (aB [aa b]))).length<=16:=by
  have:=Reg.BP (a:=[ff (aa b) r.ring]) (b:=[aa b]) (fun q hq=>by rw[ab_.1 hq];exact wf) (fun q hq=>by rw[ab_.1 hq];exact O);simpa using this
 rw[wo]at U N4;have N5:=mL l1 D (lk.up (by omega)) (N.up (by omega)) (by omega);have ez:jr (aB [aa b]) S r.ring=eJ (aa b) S r.ring:=rfl;rw[ez]at J;have N5:af C 54 [.pv (aj (told (bN (a_ (aB [aa b]) r.ring r.ring r.ring r.ring) (aB [aa b])))),.pv (aj (told S))] (.p (aj (told (eJ (aa b) S r.ring)))) []:=N5;have fk:cv 1100000 (eJ (aa b) S r.ring):=fk;have Oq:=FJ O D L;have ZE:eJ (aa b) S r.ring≠[]->1<=gT (told (eJ (aa b) S r.ring)) (aa b)/\gT (told (eJ (aa b) S r.ring)) (aa b)<=r.ring:=fun hn=>⟨(Reg.afz O D L hn).1,(Reg.afz O D L hn).2.1⟩;have heq:(fun n:Int=>decide (n<0)||decide (jr (aB [aa b]) S n=[]))=fun n=>decide (n<0)||decide (eJ (aa b) S n=[]):=rfl;rw[heq]at J;generalize dL (fun n=>decide (n<0)||decide (eJ (aa b) S n=[])) r.ring=gr at *;generalize eJ (aa b) S r.ring=M at *;have lz:=told_none f1;have lM:=ai (told M) rc;have lMs:=Reg.fj f1 (fk.up (by omega));have VL:∀p∈told M,jZ p:=fun p hp=>sW (by
  have:=Reg.fR f1 fk p hp;unfold RK at this ⊢;omega) (Reg.bP f1 p hp)
 refine⟨_,_,(vS (aa b) r.ring K5 L (by omega)),_,_,N4,_,_,N5,iW ?_ ?_⟩<;>intro g6
 ·rw[aap (lz.1 (by omega))]at J;rw[J];exact And.intro rfl trivial
 have b8:M≠[]:=fun e=>g6 (by have:=lz.2 e;omega);rw[aaa b8]at J;obtain⟨R,mt,em,Ta⟩:=zT f1 b8;have h0:(told M)[0]?=some R:=by rw[em];rfl
 have ehd:dD (told M)=R:=by rw[dD,em];rfl
 have IM:(told M).foldl (fun n z=>min n (fT z (aa b))) (fT R (aa b))=gT (told M) (aa b):=by rw[gT,ehd]
 have Oq:=Oq b8;refine⟨(rc R),(idx (i:=0) rfl h0),_,_,(vT R (aa b) (VL R (aad h0)) K5),?_⟩;refine aJ (fun y:Nat×Int=>((told M).drop y.1).foldl (fun n z=>min n (fT z (aa b))) y.2=gT (told M) (aa b)) (fun y=>[(2,.p (i64 i)),(3,.p (i64 k)),(4,.bx 4 0),(8,.bx 8 0),(10,.bx 10 0),(13,.p (aj (told M))),(14,.p (i64 y.2)),(15,.p (i64 y.1))]) (fun _=>[(4,.box (C_ r)),(8,.box ((nQ DA).map .p)),(10,.box ((rc (aa b)).map .p))]) (fun y=>(told M).length-y.1) (0,fT R (aa b)) _ (au.refl _ _) IM ⟨Z,Z,Z,Z,Z,Z,Z,Z,Y⟩ ⟨Z,Z,Z,Y⟩ fun ⟨j,v⟩ I t h=>?_;simp only at I;apply iW<;>intro g7<;>try simp only[zB]at g7
 ·obtain⟨z,hz⟩:=ak (l:=told M) (i:=j) (by omega);rw[drop_at hz,aaq]at I;exact⟨(rc z),(idx rfl hz),_,_,(vT z (aa b) (VL z (aad hz)) K5),wO (by omega),(j+1,min v (fT z (aa b))),_,au.refl _ _,I,by simp only;omega,⟨Z,Z,Z,Z,Z,Z,Z,Z,Y⟩,⟨Z,Z,Z,Y⟩⟩
 rw[ab1 (by omega)]at I;have I:v=gT (told M) (aa b):=I;have JC:-9000000000000000000<=v/\v<=9000000000000000000:=by
  obtain⟨e1,e2⟩:=ZE b8;omega
 refine⟨wO (by omega),_,_,(uK (told M) R h0),?_⟩;rw[J];refine⟨?_,trivial⟩;have e1:v-1=gr:=by rw[I];exact Oq
 rw[e1];show _=[PV.ag (nQ ⟨3,i,k,gr,r.ring,jq M⟩),bool true];rw[<-Ta];rfl
open Reg (bT db sa)
theorem K6{i:Nat}(hi:i<bs.length)(h:aeH bs i=true):da bs 0=true:=by
 rw[da,aci];exact⟨i,by rw[List.mem_range'_1];omega,h⟩
theorem N6(h:∀i,i<bs.length->aeH bs i=false):da bs 0=false:=by
 rw[da,afE];intro i hi;rw[List.mem_range'_1]at hi;rw[h i (by omega)];decide
theorem P5{i k:Nat}{x y:aS}(z:bs[i]?=some x)(hk:k<i)(D:bs[k]?=some y)(h:eO x y=true):aeH bs i=true:=by
 rw[aeH,aci];refine⟨y,aad (i:=k) (by rw[aa7,aap hk,D]),?_⟩;rw[ad4,z];exact h
theorem Tb{i:Nat}{x:aS}(z:bs[i]?=some x)(h:∀k y,k<i->bs[k]?=some y->eO x y=false):aeH bs i=false:=by
 rw[aeH,afE];intro y D;obtain⟨k,hk⟩:=ab8.1 D;rw[aa7]at hk;split at hk
 ·rw[ad4,z];have:=h k y (by assumption) hk;simp[this]
 cases hk
theorem HZ(a:fS):dc a=if fv a≠0 then fv a else if da a.bores 0=true then 12 else if eG a=true then 0 else 2:=by
 unfold dc fv;by_cases J:a.coppers.length=0
 ·rw[aap J,aap J,aap (by decide)]
 rw[aaa J,aaa J];by_cases L:16<a.coppers.length
 ·rw[aap L,aap L,aap (by decide)]
 rw[aaa L,aaa L];by_cases z:db a.coppers≠0
 ·rw[aap z,aap z,aap z]
 rw[aaa z,aaa z];by_cases D:Reg.aF a.outline≠0
 ·rw[aap D,aap D,aap D]
 rw[aaa D,aaa D];by_cases N:2000<sa a.outline.length a.coppers
 ·rw[aap N,aap N,aap (by decide)]
 rw[aaa N,aaa N];by_cases I:bT a≠0
 ·rw[aap I,aap I,aap I]
 rw[aaa I,aaa I]
theorem K7{a:fS}(h:fv a=0):a.coppers.length<=16/\(∀r∈a.coppers,Reg.aF r=0)/\B5 a.bores:=by
 unfold fv at h;split at h
 ·cases h
 split at h
 ·cases h
 rename_i g2;split at h
 ·rename_i g;exact absurd h g
 rename_i D;split at h
 ·rename_i g;exact absurd h g
 split at h
 ·cases h
 split at h
 ·rename_i g;exact absurd h g
 rename_i z;have z:bT a=0:=by simpa using z
 refine⟨by omega,Reg.jo (by simpa using D),?_⟩;rw[bT]at z;split at z
 ·cases z
 exact⟨by omega,fun b hb=>ky (Reg.sM z b hb)⟩
theorem AW(a:fS)(ho:ly a):af C 41 [.pv (.ag (dX a))] (.p (i64 (dc a))) []:=by
 have lk:=ai a.coppers fun r=>[aj r];have lb:=ai a.bores bc;obtain⟨F,D⟩:∃F,F=dc a:=⟨_,rfl⟩;rw[<-D];rw[HZ]at D;have UQ:=xw a ho;refine fW hC Tryz.func41 rfl (by kernel_rfl) fun _=>?_;refine⟨_,_,UQ,iW ?_ ?_⟩<;>intro L
 ·have L:fv a≠0:=by simpa using L
  rw[aap L]at D;refine⟨?_,trivial⟩;rw[D]
 have L:fv a=0:=by simpa using L
 rw[aaa (by simpa using L)]at D;obtain⟨KH,HA,ok⟩:=K7 L;have jB:=ok.jB;refine aJ (fun i:Nat=>i<=a.bores.length/\∀j,j<i->aeH a.bores j=false) (fun i=>[(1,.bx 1 0),(4,.p (i64 i))]) (fun _=>[(1,.box ((dX a).map .p))]) (fun i=>a.bores.length-i) 0 _ (au.refl _ _) ⟨aaj _,by omega⟩ ⟨Z,Z,Y⟩ ⟨Z,Y⟩ fun i hi t h=>?_;obtain⟨i1,i2⟩:=hi;apply iW<;>intro g1
 ·have h1:i<a.bores.length:=by omega
  obtain⟨x,N⟩:=ak h1;have xo:=ok.ok x (aad N);refine aJ (fun k:Nat=>k<=i/\∀j y,j<k->a.bores[j]?=some y->eO x y=false) (fun k=>[(1,.bx 1 0),(4,.p (i64 i)),(5,.p (i64 k))]) (fun _=>[(1,.box ((dX a).map .p))]) (fun k=>i-k) 0 _ (au.refl _ _) ⟨aaj _,by omega⟩ ⟨Z,Z,Z,Y⟩ ⟨Z,Y⟩ fun k hk t h=>?_;obtain⟨k1,k2⟩:=hk;apply iW<;>intro g2
  ·have h2:k<i:=by omega
   obtain⟨y,O⟩:=ak (l:=a.bores) (i:=k) (by omega);have yo:=ok.ok y (aad O);have ce:=NV xo yo;have J:eO x y=false->∀j z,j<k+1->a.bores[j]?=some z->eO x z=false:=fun c j z hj R=>by
    by_cases e:j=k
    ·subst e;rw[O]at R;injection R with R;rw[<-R];exact c
    exact k2 j z (by omega) R
   refine⟨(bc x),(idx rfl N),(bc y),(idx rfl O),_,_,(FQ x y),iW ?_ ?_⟩<;>intro g3
   ·refine⟨(bc x),(idx rfl N),_,_,(di x xo),(bc y),(idx rfl O),_,_,(di y yo),_,_,(Dy (aa x) (aa y)),iW ?_ ?_⟩<;>intro g4
    ·rw[aap (K6 h1 (P5 N h2 O (by rw[<-ce,g3,g4];rfl)))]at D;refine⟨?_,trivial⟩;rw[D];rfl
    have m:=J (by rw[<-ce,g3,g4];rfl);exact⟨wO (by omega),(k+1),_,au.refl _ _,⟨by omega,m⟩,by omega,⟨Z,Z,Z,Y⟩,⟨Z,Y⟩⟩
   have m:=J (by rw[<-ce,g3];rfl);exact⟨wO (by omega),(k+1),_,au.refl _ _,⟨by omega,m⟩,by omega,⟨Z,Z,Z,Y⟩,⟨Z,Y⟩⟩
  have rn:=Tb N fun j y hj O=>k2 j y (by omega) O;exact⟨wO (by omega),(i+1),_,au.refl _ _,⟨by omega,fun j hj=>by by_cases e:j=i;exact e▸rn;exact i2 j (by omega)⟩,by omega,⟨Z,Z,Y⟩,⟨Z,Y⟩⟩
 rw[aaa (by rw[N6 fun j hj=>i2 j (by omega)];decide)]at D;refine aJ (fun x:Nat×Nat=>qL a.bores x.1 (a.coppers.drop x.1)=qL a.bores 0 a.coppers/\x.2+(bG a.bores x.1 (a.coppers.drop x.1)).length=(bG a.bores 0 a.coppers).length/\x.2<=2000*x.1/\x.1<=a.coppers.length) (fun x=>[(1,.bx 1 0),(6,.p (i64 x.2)),(7,.p (i64 x.1))]) (fun _=>[(1,.box ((dX a).map .p))]) (fun x=>a.coppers.length-x.1) (0,0) _ (au.refl _ _) ⟨rfl,by simp,aam _,aaj _⟩ ⟨Z,Z,Z,Y⟩ ⟨Z,Y⟩ fun ⟨I,n⟩ N t h=>?_;obtain⟨x1,U,x3,x4⟩:=N;simp only at x1 U x3 x4;apply iW<;>intro g5<;>try simp only[zB]at g5
 ·obtain⟨r,V⟩:=ak (l:=a.coppers) (i:=I) (by omega);have TC:=HA r (aad V);have W:=jV ok.ok jB I TC;rw[drop_at V,qL]at x1;rw[drop_at V,bG,acv,aej]at U;have O1:=qX a ok I r V TC;have qg:=uQ (told (bU a.bores I r));have Yi:=Reg.uG W.sok;have YW:=Reg.BQ (bU a.bores I r);have ld:=ai (told (bU a.bores I r)) rc;refine⟨_,_,O1,iW ?_ ?_⟩<;>intro g6
  ·rw[aaz (by omega),abp]at x1;have hd:eG a=false:=by unfold eG;rw[<-x1];rfl
   rw[aaa (by rw[hd];decide)]at D;refine⟨?_,trivial⟩;rw[D];rfl
  have Ue:(told (bU a.bores I r)).length<=2000:=by omega
  rw[acd Ue,adr]at x1;have TD:=qg ⟨Ue,Reg.bP W.sok,fun q hq=>by
   have:=Reg.fR W.sok W.ink q hq;unfold RK at this ⊢;omega⟩
  have lq:(((cV (bU a.bores I r)).map told).map fun r=>[aj r]).length=(cV (bU a.bores I r)).length:=by rw[aej,aej]
  rw[Yi]at TD;exact⟨_,_,TD,wO (by omega),wO (by omega),(I+1,n+(cV (bU a.bores I r)).length),_,au.refl _ _,⟨x1,by simp only;rw[show (((I+1:Nat):Int))=(I:Int)+1 by omega];omega,by simp only;omega,by simp only;omega⟩,by simp only;omega,⟨rfl,adV (fun m:Nat=>AV.p (i64 (n+m))) lq,Z,Y⟩,⟨Z,Y⟩⟩
 rw[ab1 (by omega)]at x1 U;have x1:qL a.bores 0 a.coppers=true:=x1.symm;have U:n=(bG a.bores 0 a.coppers).length:=by have:(bG a.bores I []).length=0:=rfl;omega
 have hd:eG a=decide (n<=2000):=by unfold eG;rw[x1,adr,<-U]
 rw[hd]at D;apply iW<;>intro g6<;>try simp only[zB]at g6
 ·rw[aaa (by simp;omega)]at D;refine⟨?_,trivial⟩;rw[D];rfl
 rw[aap (by simp;omega)]at D;refine⟨?_,trivial⟩;rw[D];rfl
end M
end Go.Proofs.YtfloceomobknoaaGreatDoor
