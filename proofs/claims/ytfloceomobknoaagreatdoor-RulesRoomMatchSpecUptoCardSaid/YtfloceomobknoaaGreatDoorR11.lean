/- Part 11 of the proof of RulesRoomMatchSpec. -/
import Derived.Test.YtfloceomobknoaaGreatDoorR10
set_option linter.unusedVariables false
set_option linter.unusedSimpArgs false
set_option maxRecDepth 100000
set_option maxHeartbeats 8000000
namespace Go
abbrev adj:=@List.length_eq_zero_iff
abbrev adO:=@List.Nodup.length_le_of_subset
abbrev adk:=@List.foldl_nil
abbrev aeh:=@List.mem_iff_getElem
end Go
namespace Go.Proofs.YtfloceomobknoaaGreatDoor
namespace Reg
def gR(w:Int)(p q:Bool):Bool:=(decide (w=1)&&(p||q)||(decide (w=2)&&p)&&q)||(decide (w=3)&&p)&&!q
theorem mJ(w:Int):gR w false false=false:=by simp[gR]
def aL(s:aU)(x:Int):Bool:=s.any fun p=>decide (p.1<=x)&&decide (x<p.2)
variable {s:aU}
theorem jw{x:Int}:aL s x=true↔cover s x:=by simp[aL,cover]
theorem zK(h:Canon s)(x:Int):aL s x=par (bw s) x:=by
 rw[abb,jw,cu h]
def fH(xs:List Int)(s:aU):List Int:=s.foldl (fun xs p=>put (put xs p.1) p.2) xs
theorem jX:∀(s:aU) (xs:List Int),bF xs->bF (fH xs s)/\∀y,y∈fH xs s↔y∈xs\/∃p∈s,y=p.1\/y=p.2
 | [],xs,h=>⟨h,fun y=>by simp[fH]⟩
 | p::s,xs,h=>by
  obtain⟨z,D⟩:=jX s (put (put xs p.1) p.2) (iG _ _ (iG _ _ h));refine⟨z,fun y=>?_⟩;show y∈fH (put (put xs p.1) p.2) s↔_;rw[D,tO,tO];simp only[adq,exists_eq_or_imp];constructor
  ·rintro (((h | h) | h) | h)
   ·exact .inl h
   ·exact .inr (.inl (.inl h))
   ·exact .inr (.inl (.inr h))
   exact .inr (.inr h)
  rintro (h | ((h | h) | h))
  ·exact .inl (.inl (.inl h))
  ·exact .inl (.inl (.inr h))
  ·exact .inl (.inr h)
  exact .inr h
def ahR(w:Int)(a b:aU)(xs:List Int):Nat->aU
 | 0=>[]
 | i+1=>if gR w (aL a (xs.getD i 0)) (aL b (xs.getD i 0))=true then dG (ahR w a b xs i) (xs.getD i 0) (xs.getD (i+1) 0) else ahR w a b xs i
def fI(a b:aU):List Int:=fH (fH [] a) b
def mixed(w:Int)(a b:aU):aU:=ahR w a b (fI a b) ((fI a b).length-1)
theorem Dp(a b:aU):bF (fI a b)/\∀y,y∈fI a b↔(∃p∈a,y=p.1\/y=p.2)\/∃p∈b,y=p.1\/y=p.2:=by
 obtain⟨z,D⟩:=jX a [] List.Pairwise.nil;obtain⟨I,J⟩:=jX b _ z;exact⟨I,fun y=>by rw[fI,J,D];simp⟩
theorem wT{xs:List Int}(z:bF xs)(D:∀p∈s,p.1∈xs/\p.2∈xs){k:Nat}{u v x:Int}(I:xs[k]?=some u)(J:xs[k+1]?=some v)(h1:u<=x)(h2:x<v):aL s u=aL s x:=by
 rw[abb,jw,jw];constructor
 ·rintro⟨p,hp,a,b⟩;have L:=Q0 z I J (D p hp).1;have N:=Q0 z I J (D p hp).2;exact⟨p,hp,by omega,by omega⟩
 rintro⟨p,hp,a,b⟩;have L:=Q0 z I J (D p hp).1;have N:=Q0 z I J (D p hp).2;exact⟨p,hp,by omega,by omega⟩
theorem uD{xs:List Int}(I:bF xs){a c:Int}(D:xs[0]?=some a)(z:c∈xs):a<=c:=by
 cases xs with
 | nil=>cases z
 | cons u t=>
  simp at D;subst D;rcases adq.1 z with rfl | z
  ·exact aaD _
  exact Int.le_of_lt ((abw.1 I).1 c z)
theorem wU{xs:List Int}(z:bF xs){a c:Int}(D:xs[xs.length-1]?=some a)(I:c∈xs):c<=a:=by
 obtain⟨j,J⟩:=ab8.1 I;obtain⟨L,N⟩:=aao.1 D;obtain⟨O,R⟩:=aao.1 J;rcases abm j (xs.length-1) with e | e
 ·have:=abk.1 z j _ O L e;omega
 have:j=xs.length-1:=by omega
 subst this;rw[N]at R;omega
theorem wV{xs:List Int}(z:bF xs){k:Nat}{a b:Int}(D:xs[k]?=some a)(hb:xs[k+1]?=some b):a<b:=by
 obtain⟨I,a2⟩:=aao.1 D;obtain⟨J,b2⟩:=aao.1 hb;have:=abk.1 z k (k+1) I J (by omega);omega
theorem wW(w:Int){a b:aU}{xs:List Int}(L:bF xs)(O:∀p∈a,p.1∈xs/\p.2∈xs)(hb:∀p∈b,p.1∈xs/\p.2∈xs):∀(k:Nat) (y:Int),xs[k]?=some y ->
  Canon (ahR w a b xs k)/\∀x,cover (ahR w a b xs k) x↔x<y/\gR w (aL a x) (aL b x)=true
 | 0,y,hy=>by
  refine⟨trivial,fun x=>⟨fun h=>absurd h (eQ x),fun ⟨D,z⟩=>?_⟩⟩;have no:∀s:aU,(∀p∈s,p.1∈xs/\p.2∈xs)->aL s x=false:=fun s V=>by
   rw[aaV];intro h;obtain⟨p,hp,N,_⟩:=jw.1 h;have:=uD L hy (V p hp).1;omega
  rw[no a O,no b hb,mJ]at z;cases z
 | k+1,y,hy=>by
  obtain⟨I,J⟩:∃I,xs[k]?=some I:=by
   have:=(aao.1 hy).1;exact⟨_,acg (by omega)⟩
  obtain⟨R,U⟩:=wW w L O hb k I J;have W:=wV L J hy;rw[ahR,getD_some J,getD_some hy];have go:∀x,I<=x->x<y->(gR w (aL a I) (aL b I)=gR w (aL a x) (aL b x)):=fun x D z=>by
   rw[wT L O J hy D z,wT L hb J hy D z]
  by_cases c:gR w (aL a I) (aL b I)=true
  ·rw[aap c];obtain⟨Y,Z,_⟩:=tN (ahR w a b xs k) I y R W;refine⟨Y,fun x=>?_⟩;rw[Z,U];constructor
   ·rintro (⟨D,z⟩ | ⟨D,z⟩)
    ·exact⟨by omega,z⟩
    exact⟨z,(go x D z)▸c⟩
   rintro⟨D,z⟩;by_cases N:x<I
   ·exact .inl ⟨N,z⟩
   exact .inr ⟨by omega,D⟩
  rw[aaa c];refine⟨R,fun x=>?_⟩;rw[U];constructor
  ·rintro⟨D,z⟩;exact⟨by omega,z⟩
  rintro⟨D,z⟩;refine⟨?_,z⟩;by_cases N:x<I
  ·exact N
  exact absurd ((go x (by omega) D).trans z) c
theorem Fx(w:Int){a b:aU}(O:Canon a)(hb:Canon b):Canon (mixed w a b)/\∀x,par (bw (mixed w a b)) x=gR w (par (bw a) x) (par (bw b) x):=by
 obtain⟨J,z⟩:=Dp a b;have D:∀p∈a,p.1∈fI a b/\p.2∈fI a b:=fun p hp=>⟨(z _).2 (.inl ⟨p,hp,.inl rfl⟩),(z _).2 (.inl ⟨p,hp,.inr rfl⟩)⟩;have I:∀p∈b,p.1∈fI a b/\p.2∈fI a b:=fun p hp=>⟨(z _).2 (.inr ⟨p,hp,.inl rfl⟩),(z _).2 (.inr ⟨p,hp,.inr rfl⟩)⟩;have key:Canon (mixed w a b)/\∀x,cover (mixed w a b) x↔gR w (aL a x) (aL b x)=true:=by
  rcases adI (fI a b).length with L | L
  ·have e:fI a b=[]:=adj.1 L;have R:a=[]:=abH.2 fun p hp=>by have:=(D p hp).1;rw[e]at this;cases this
   have U:b=[]:=abH.2 fun p hp=>by have:=(I p hp).1;rw[e]at this;cases this
   subst R;subst U;refine⟨trivial,fun x=>⟨fun h=>absurd h (eQ x),fun h=>?_⟩⟩;have h:gR w false false=true:=h;rw[mJ]at h;cases h
  obtain⟨y,N⟩:∃y,(fI a b)[(fI a b).length-1]?=some y:=⟨_,acg (by omega)⟩;obtain⟨V,W⟩:=wW w J D I _ y N;refine⟨V,fun x=>(W x).trans ⟨fun h=>h.2,fun h=>⟨?_,h⟩⟩⟩;by_cases Y:x<y
  ·exact Y
  have no:∀s:aU,(∀p∈s,p.1∈fI a b/\p.2∈fI a b)->aL s x=false:=fun s Z=>by
   rw[aaV];intro h;obtain⟨p,hp,_,h4⟩:=jw.1 h;have:=wU J N (Z p hp).2;omega
  rw[no a D,no b I,mJ]at h;cases h
 refine⟨key.1,fun x=>?_⟩;rw[abb,cu key.1,key.2,zK O,zK hb]
def gS(w:Int)(a b:List ae)(ys:List Int):Nat->List an
 | 0=>[]
 | k+1=>cA (gS w a b ys k) ⟨ys.getD k 0,ys.getD (k+1) 0,mixed w (rowOf a (ys.getD k 0)) (rowOf b (ys.getD k 0))⟩
def BU(w:Int)(a b:List ae):List an:=gS w a b (aE (a++b)) ((aE (a++b)).length-1)
def aeB(w:Int)(a b:List ae):List ae:=told (BU w a b)
theorem Fy{l all:List ae}(hl:∀r∈l,r∈all){k:Nat}{u v:Int}(I:(aE all)[k]?=some u)(J:(aE all)[k+1]?=some v){x z:Int}(h1:u<=z)(h2:z<v):l.any (dE x u)=l.any (dE x z):=by
 obtain⟨L,N⟩:=cT all;rw[abb,aci,aci];have go:∀r∈l,(dE x u r=true↔dE x z r=true):=fun r D=>by
  have g1:=Q0 L I J ((N r.y0).2 ⟨r,hl r D,.inl rfl⟩);have g2:=Q0 L I J ((N r.y1).2 ⟨r,hl r D,.inr rfl⟩);rw[aQ,aQ];omega
 constructor
 ·rintro⟨r,D,h⟩;exact⟨r,D,(go r D).1 h⟩
 rintro⟨r,D,h⟩;exact⟨r,D,(go r D).2 h⟩
theorem uE(w:Int){a b:List ae}(N:∀r∈a,Full r)(hb:∀r∈b,Full r):∀(k:Nat) (y:Int),(aE (a++b))[k]?=some y ->
  bE (gS w a b (aE (a++b)) k)/\(∀t∈gS w a b (aE (a++b)) k,t.y1<=y)/\∀x z,at' (gS w a b (aE (a++b)) k) x z=(decide (z<y)&&gR w (a.any (dE x z)) (b.any (dE x z)))
 | 0,y,hy=>by
  obtain⟨J,R⟩:=cT (a++b);refine⟨trivial,fun t U=>(by cases U),fun x z=>?_⟩;show false=_;symm;rw[abF];by_cases V:z<y
  ·right;have no:∀l:List ae,(∀r∈l,r∈a++b)->l.any (dE x z)=false:=fun l hl=>by
    rw[aaV];intro hp;obtain⟨r,W,h⟩:=aci.1 hp;obtain⟨_,_,h3,_⟩:=aQ.1 h;have:=uD J hy ((R r.y0).2 ⟨r,hl r W,.inl rfl⟩);omega
   rw[no a fun r h=>abY _ h,no b fun r h=>adt _ h,mJ]
  left;exact aaC V
 | k+1,y,hy=>by
  obtain⟨J,R⟩:=cT (a++b);obtain⟨D,I⟩:∃D,(aE (a++b))[k]?=some D:=by
   have:=(aao.1 hy).1;exact⟨_,acg (by omega)⟩
  obtain⟨Y,Z,i3⟩:=uE w N hb k D I;have eF:=wV J I hy;rw[gS,getD_some I,getD_some hy];obtain⟨m1,m2⟩:=Fx w (iS a D (fun r J=>(N r J).1)).1 (iS b D (fun r J=>(hb r J).1)).1;obtain⟨p1,p2,p3,p4⟩:=jT (b:=⟨D,y,mixed w (rowOf a D) (rowOf b D)⟩) Y eF m1 Z;refine⟨p1,p2,fun x z=>?_⟩;rw[p3,i3,at_one];show (decide (z<D)&&gR w (a.any (dE x z)) (b.any (dE x z))||decide (D<=z)&&decide (z<y)&&par (bw (mixed w (rowOf a D) (rowOf b D))) x)=_;rw[m2,Db N,Db hb];by_cases O:z<D
  ·rw[aaA O,aaC (by omega:¬D<=z),aaA (by omega:z<y)];simp
  by_cases L:z<y
  ·rw[aaC O,aaA (by omega:D<=z),aaA L];simp only[aaI,abv,adr];rw[Fy (fun r h=>abY _ h) I hy (by omega) L,Fy (fun r h=>adt _ h) I hy (by omega) L]
  rw[aaC O,aaC L];simp
theorem HK(w:Int){a b:List ae}(O:∀r∈a,Full r)(hb:∀r∈b,Full r):bE (BU w a b)/\∀x z,at' (BU w a b) x z=gR w (a.any (dE x z)) (b.any (dE x z)):=by
 obtain⟨R,I⟩:=cT (a++b);rcases adI (aE (a++b)).length with J | J
 ·have e:aE (a++b)=[]:=adj.1 J;have no:a++b=[]:=abH.2 fun r D=>by
   have:=(I r.y0).2 ⟨r,D,.inl rfl⟩;rw[e]at this;cases this
  obtain⟨e1,e2⟩:=List.append_eq_nil_iff.1 no;subst e1;subst e2;exact⟨trivial,fun x z=>(mJ w).symm⟩
 obtain⟨y,L⟩:∃y,(aE (a++b))[(aE (a++b)).length-1]?=some y:=⟨_,acg (by omega)⟩;obtain⟨U,h2,V⟩:=uE w O hb _ y L;refine⟨U,fun x z=>?_⟩;show at' (gS w a b (aE (a++b)) ((aE (a++b)).length-1)) x z=_;rw[V];by_cases N:z<y
 ·rw[aaA N,adr]
 rw[aaC N,aaI];have no:∀l:List ae,(∀r∈l,r∈a++b)->l.any (dE x z)=false:=fun l hl=>by
  rw[aaV];intro hp;obtain⟨r,D,h⟩:=aci.1 hp;obtain⟨_,_,_,h5⟩:=aQ.1 h;have:=wU R L ((I r.y1).2 ⟨r,hl r D,.inr rfl⟩);omega
 rw[no a fun r h=>abY _ h,no b fun r h=>adt _ h,mJ]
theorem zL{w:Int}{k:Bool->Bool->Bool}(hk:∀p q,gR w p q=k p q){a b:List ae}(z:∀r∈a,Full r)(hb:∀r∈b,Full r):BU w a b=ik k (aB a) (aB b):=by
 obtain⟨D,I⟩:=HK w z hb;obtain⟨J,L,_⟩:=aR z;obtain⟨N,O,_⟩:=aR hb;obtain⟨R,U,_⟩:=lO (k:=k) ((hk false false).symm.trans (mJ w)) J N;exact iK _ _ D R fun x y=>by rw[I,U,hk,L,O]
theorem PY{a b:List ae}(z:∀r∈a,Full r)(hb:∀r∈b,Full r):BU 1 a b=uo (aB a) (aB b):=zL (fun p q=>by cases p<;>cases q<;>rfl) z hb
theorem aj7{a b:List ae}(z:∀r∈a,Full r)(hb:∀r∈b,Full r):BU 2 a b=nM (aB a) (aB b):=zL (fun p q=>by cases p<;>cases q<;>rfl) z hb
theorem KU{a b:List ae}(z:∀r∈a,Full r)(hb:∀r∈b,Full r):BU 3 a b=bN (aB a) (aB b):=zL (fun p q=>by cases p<;>cases q<;>rfl) z hb
end Reg
namespace M
open Go.AM Go.RowKit
open Reg (ae aU)
theorem zM{xs:List Int}{s:aU}{i:Nat}{p:Int×Int}(h:s[i]?=some p):Reg.fH xs (s.take (i+1))=Reg.put (Reg.put (Reg.fH xs (s.take i)) p.1) p.2:=by
 rw[ad2,h,Reg.fH,Reg.fH,abZ];rfl
theorem fc:∀(s:aU) (xs:List Int),(Reg.fH xs s).length<=xs.length+2*s.length
 | [],xs=>by simp[Reg.fH]
 | p::s,xs=>by
  have h1:=fc s (Reg.put (Reg.put xs p.1) p.2);have h2:=iH p.1 xs;have h3:=iH p.2 (Reg.put xs p.1);simp only[aaB];have e:Reg.fH xs (p::s)=Reg.fH (Reg.put (Reg.put xs p.1) p.2) s:=rfl;rw[e];omega
theorem pD(w:Int)(a b:aU)(xs:List Int):∀k,(Reg.ahR w a b xs k).length<=k
 | 0=>aam _
 | k+1=>by
  have ih:=pD w a b xs k;rw[Reg.ahR];split
  ·have:=rU (Reg.ahR w a b xs k) (xs.getD k 0) (xs.getD (k+1) 0);omega
  omega
theorem KV(a b:aU)(w:Int)(qb:a.length+b.length<=4398046511104):af C 203 [.pv (fD a),.pv (fD b),.pv (i64 w)] (.p (fD (Reg.mixed w a b))) []:=by
 refine fW hC Tryz.func203 rfl (by kernel_rfl) fun _=>?_;have la:=ai a sp;have lb:=ai b sp;refine aJ (fun i:Nat=>i<=a.length) (fun i=>[(0,.p (fD a)),(1,.p (fD b)),(2,.p (i64 w)),(7,.p (ints (Reg.fH [] (a.take i)))),(8,.p (i64 i))]) (fun _=>[]) (fun i=>a.length-i) 0 _ (au.nil hC _ 7 rfl) (aaj _) ⟨Z,Z,Z,Z,Z,Y⟩ trivial fun i hi t h=>?_;apply iW<;>intro h1
 ·rw[la]at h1;obtain⟨p,hp⟩:=ak (l:=a) (i:=i) (by omega);have hL:=fc (a.take i) [];have OV:=acA i a;have R:=(Reg.jX (a.take i) [] List.Pairwise.nil).1;refine⟨(sp p),(idx rfl hp),?_⟩;have V7:=iH p.1 (Reg.fH [] (a.take i));refine⟨_,_,(ru _ p.1 R (by simp only[acs]at hL;omega)),(sp p),(idx rfl hp),_,_,(ru _ p.2 (Reg.iG _ _ R) (by simp only[acs]at hL;omega)),wO (by omega),(i+1),_,au.refl _ _,by omega,by omega,⟨rfl,rfl,rfl,?_,Z,Y⟩,trivial⟩;rw[zM hp];rfl
 rw[la]at h1;have ea:a.take i=a:=adW (by omega);refine aJ (fun j:Nat=>j<=b.length) (fun j=>[(0,.p (fD a)),(1,.p (fD b)),(2,.p (i64 w)),(7,.p (ints (Reg.fH (Reg.fH [] (a.take i)) (b.take j)))),(9,.p (i64 j))]) (fun _=>[]) (fun j=>b.length-j) 0 _ (au.refl _ _) (aaj _) ⟨Z,Z,Z,Z,Z,Y⟩ trivial fun j hj t h=>?_;apply iW<;>intro h2
 ·rw[lb]at h2;obtain⟨p,hp⟩:=ak (l:=b) (i:=j) (by omega);have hL:=fc (b.take j) (Reg.fH [] (a.take i));have Yl:=fc (a.take i) [];have OV:=acA j b;have hL4:=acA i a;have R:=(Reg.jX (b.take j) _ (Reg.jX (a.take i) [] List.Pairwise.nil).1).1;refine⟨(sp p),(idx rfl hp),?_⟩;have V7:=iH p.1 (Reg.fH (Reg.fH [] (a.take i)) (b.take j));simp only[acs]at Yl;refine⟨_,_,(ru _ p.1 R (by omega)),(sp p),(idx rfl hp),_,_,(ru _ p.2 (Reg.iG _ _ R) (by omega)),wO (by omega),(j+1),_,au.refl _ _,by omega,by omega,⟨rfl,rfl,rfl,?_,Z,Y⟩,trivial⟩;rw[zM hp];rfl
 rw[lb]at h2;have eb:b.take j=b:=adW (by omega);obtain⟨X,hX⟩:∃X,X=Reg.fH (Reg.fH [] (a.take i)) (b.take j):=⟨_,rfl⟩;have lX:=ai X fun n=>[i64 n];refine aJ (fun k:Nat=>k<=X.length-1) (fun k=>[(0,.p (fD a)),(1,.p (fD b)),(2,.p (i64 w)),(7,.p (ints X)),(10,.p (fD (Reg.ahR w a b X k))),(11,.p (i64 ((k:Int)+1)))]) (fun _=>[]) (fun k=>X.length-k) 0 _ (au.nil hC _ 10 rfl) (aaj _) ⟨rfl,rfl,rfl,by rw[hX];rfl,Z,Z,Y⟩ trivial fun k hk t h=>?_;have Yl:=fc (a.take i) [];have hL1:=fc (b.take j) (Reg.fH [] (a.take i));have OV:=acA j b;have hL4:=acA i a;rw[<-hX]at hL1;simp only[acs]at Yl;have hM:=pD w a b X k;apply iW<;>intro h3
 ·rw[lX]at h3;obtain⟨y,D⟩:=ak (l:=X) (i:=k) (by omega);obtain⟨J,z⟩:=ak (l:=X) (i:=k+1) (by omega);have L:(k:Int)+1-1=(k:Nat):=by omega
  have V:(k:Int)+1=((k+1:Nat):Int):=by omega
  refine⟨wO (by omega),[i64 y],(idx L D),_,_,(sI a y (by omega)),wO (by omega),[i64 y],(idx L D),_,_,(sI b y (by omega)),?_⟩;have ia:Reg.aL a y=aL a y:=rfl;have ib:Reg.aL b y=aL b y:=rfl;apply iW<;>intro W
  ·apply iW<;>intro N
   ·refine⟨wO (by omega),[i64 y],(idx L D),[i64 J],(idx V z),_,_,(ae_ _ y J (by omega)),wO (by omega),(k+1),_,au.refl _ _,by omega,by omega,⟨rfl,rfl,rfl,rfl,?_,a8 (by omega),trivial⟩,trivial⟩;rw[Reg.ahR,cO D,cO z,aap (show Reg.gR w (Reg.aL a y) (Reg.aL b y)=true by show Reg.gR w (aL a y) (aL b y)=true;rw[W,N];rfl)];rfl
   apply iW<;>intro I
   ·refine⟨wO (by omega),[i64 y],(idx L D),[i64 J],(idx V z),_,_,(ae_ _ y J (by omega)),wO (by omega),(k+1),_,au.refl _ _,by omega,by omega,⟨rfl,rfl,rfl,rfl,?_,a8 (by omega),trivial⟩,trivial⟩;rw[Reg.ahR,cO D,cO z,aap (show Reg.gR w (Reg.aL a y) (Reg.aL b y)=true by show Reg.gR w (aL a y) (aL b y)=true;rw[W,N,I];rfl)];rfl
   apply iW<;>intro O
   ·exfalso;omega
   apply iW<;>intro U
   ·exfalso;omega
   refine⟨wO (by omega),(k+1),_,au.refl _ _,by omega,by omega,⟨rfl,rfl,rfl,rfl,?_,a8 (by omega),trivial⟩,trivial⟩;rw[Reg.ahR,cO D,cO z,aaa (show ¬Reg.gR w (Reg.aL a y) (Reg.aL b y)=true by show ¬Reg.gR w (aL a y) (aL b y)=true;rw[W,N,I];decide)];rfl
  apply iW<;>intro N
  ·apply iW<;>intro I
   ·apply iW<;>intro O
    ·refine⟨wO (by omega),[i64 y],(idx L D),[i64 J],(idx V z),_,_,(ae_ _ y J (by omega)),wO (by omega),(k+1),_,au.refl _ _,by omega,by omega,⟨rfl,rfl,rfl,rfl,?_,a8 (by omega),trivial⟩,trivial⟩;rw[Reg.ahR,cO D,cO z,aap (show Reg.gR w (Reg.aL a y) (Reg.aL b y)=true by show Reg.gR w (aL a y) (aL b y)=true;rw[N,I,O];rfl)];rfl
    apply iW<;>intro U
    ·exfalso;omega
    refine⟨wO (by omega),(k+1),_,au.refl _ _,by omega,by omega,⟨rfl,rfl,rfl,rfl,?_,a8 (by omega),trivial⟩,trivial⟩;rw[Reg.ahR,cO D,cO z,aaa (show ¬Reg.gR w (Reg.aL a y) (Reg.aL b y)=true by show ¬Reg.gR w (aL a y) (aL b y)=true;rw[N,I,O];decide)];rfl
   apply iW<;>intro U
   ·exfalso;omega
   refine⟨wO (by omega),(k+1),_,au.refl _ _,by omega,by omega,⟨rfl,rfl,rfl,rfl,?_,a8 (by omega),trivial⟩,trivial⟩;rw[Reg.ahR,cO D,cO z,aaa (show ¬Reg.gR w (Reg.aL a y) (Reg.aL b y)=true by show ¬Reg.gR w (aL a y) (aL b y)=true;rw[N,I];cases aL b y<;>decide)];rfl
  apply iW<;>intro I
  ·apply iW<;>intro O
   ·apply iW<;>intro U
    ·refine⟨wO (by omega),[i64 y],(idx L D),[i64 J],(idx V z),_,_,(ae_ _ y J (by omega)),wO (by omega),(k+1),_,au.refl _ _,by omega,by omega,⟨rfl,rfl,rfl,rfl,?_,a8 (by omega),trivial⟩,trivial⟩;rw[Reg.ahR,cO D,cO z,aap (show Reg.gR w (Reg.aL a y) (Reg.aL b y)=true by show Reg.gR w (aL a y) (aL b y)=true;rw[I,O,U];rfl)];rfl
    refine⟨wO (by omega),(k+1),_,au.refl _ _,by omega,by omega,⟨rfl,rfl,rfl,rfl,?_,a8 (by omega),trivial⟩,trivial⟩;rw[Reg.ahR,cO D,cO z,aaa (show ¬Reg.gR w (Reg.aL a y) (Reg.aL b y)=true by show ¬Reg.gR w (aL a y) (aL b y)=true;rw[I,O,U];decide)];rfl
   refine⟨wO (by omega),(k+1),_,au.refl _ _,by omega,by omega,⟨rfl,rfl,rfl,rfl,?_,a8 (by omega),trivial⟩,trivial⟩;rw[Reg.ahR,cO D,cO z,aaa (show ¬Reg.gR w (Reg.aL a y) (Reg.aL b y)=true by show ¬Reg.gR w (aL a y) (aL b y)=true;rw[I,O];cases aL b y<;>decide)];rfl
  refine⟨wO (by omega),(k+1),_,au.refl _ _,by omega,by omega,⟨rfl,rfl,rfl,rfl,?_,a8 (by omega),trivial⟩,trivial⟩;rw[Reg.ahR,cO D,cO z,aaa (show ¬Reg.gR w (Reg.aL a y) (Reg.aL b y)=true by show ¬Reg.gR w (aL a y) (aL b y)=true;simp[Reg.gR,W,N,I])];rfl
 rw[lX]at h3;refine⟨?_,trivial⟩;have L:k=X.length-1:=by omega
 rw[L,hX,ea,eb];rfl
theorem Dq(w:Int)(s t:aU):(Reg.mixed w s t).length<=2*(s.length+t.length):=by
 have h1:=pD w s t (Reg.fI s t) ((Reg.fI s t).length-1);have h2:=fc t (Reg.fH [] s);have z:=fc s [];simp only[acs]at z;have e:(Reg.fI s t).length=(Reg.fH (Reg.fH [] s) t).length:=rfl;show (Reg.ahR w s t (Reg.fI s t) ((Reg.fI s t).length-1)).length<=_;omega
theorem AU(w:Int)(a b:List ae)(ys:List Int):∀k,(Reg.gS w a b ys k).length<=k:=by
 intro k
 induction k with
 | zero=>simp[Reg.gS]
 | succ k ih=>rw[Reg.gS];have:=tR (Reg.gS w a b ys k) ⟨ys.getD k 0,ys.getD (k+1) 0,Reg.mixed w (Reg.rowOf a (ys.getD k 0)) (Reg.rowOf b (ys.getD k 0))⟩;omega
theorem KW(w:Int)(a b:List ae)(ys:List Int):∀k,∀t∈Reg.gS w a b ys k,t.xs.length<=2*(a.length+b.length):=by
 intro k
 induction k with
 | zero=>simp[Reg.gS]
 | succ k ih=>
  rw[Reg.gS];refine yO _ _ _ ih ?_;have h1:=Dq w (Reg.rowOf a (ys.getD k 0)) (Reg.rowOf b (ys.getD k 0));have h2:=fQ a (ys.getD k 0);have h3:=fQ b (ys.getD k 0);show (Reg.mixed _ _ _).length<=_;omega
theorem uF(a b:List ae)(w:Int)(qb:a.length+b.length<=4398046511104)(z:(Reg.aE (a++b)).length<=3000000000000)(W:(Reg.aeB w a b).length<=4398046511104):af C 136 [.pv (aj a),.pv (aj b),.pv (i64 w)] (.p (aj (Reg.aeB w a b))) []:=by
 refine uX ⟨[],[],[],[9],[],[]⟩ hC Tryz.func136 rfl (by kernel_rfl) fun _=>?_;have N:=ai a rc;have O:=ai b rc;refine⟨⟨C4 a,by rw[N];simp;omega,by rw[N];omega⟩,⟨C4 b,by rw[O];simp;omega,by rw[O];omega⟩,?_⟩;have R:=wB (a++b) (by rw[acv];omega);rw[aj,abE]at R;refine⟨_,_,R,?_⟩;obtain⟨ys,J⟩:∃ys,ys=Reg.aE (a++b):=⟨_,rfl⟩;have hL:=dm (a++b);rw[<-J,acv]at hL;rw[<-J]at z;have lm:=ai ys fun n=>[i64 n];refine aJ (fun k:Nat=>k<=ys.length-1) (fun k=>[(0,.p (aj a)),(1,.p (aj b)),(2,.p (i64 w)),(8,.p (ints ys)),(9,.ow 9),(10,.p (i64 ((k:Int)+1)))]) (fun k=>[(9,.row 196 ((Reg.gS w a b ys k).map bd))]) (fun k=>ys.length-k) 0 _ (au.dk hC _ 9 196 _ (by decide) rfl rfl (by decide)) (aaj _) ⟨rfl,rfl,rfl,by rw[J];rfl,Z,Z,Y⟩ ⟨Z,Y⟩ fun k hk t h=>?_;have bl:=AU w a b ys k;have bx:=KW w a b ys k;apply iW<;>intro U
 ·rw[lm]at U;obtain⟨y,z⟩:=ak (l:=ys) (i:=k) (by omega);obtain⟨V,I⟩:=ak (l:=ys) (i:=k+1) (by omega);have L:(k:Int)+1-1=(k:Nat):=by omega
  have QT:(k:Int)+1=((k+1:Nat):Int):=by omega
  have ra:=fQ a y;have rb:=fQ b y;refine⟨wO (by omega),[i64 y],(idx L z),[i64 V],(idx QT I),wO (by omega),[i64 y],(idx L z),_,_,(xK a y (by omega)),wO (by omega),[i64 y],(idx L z),_,_,(xK b y (by omega)),_,_,(KV _ _ w (by omega)),_,_,(wC _ ⟨y,V,Reg.mixed w (Reg.rowOf a y) (Reg.rowOf b y)⟩ (by omega) (fun t D=>by have:=bx t D;omega)),wO (by omega),(k+1),_,au.refl _ _,by omega,by omega,⟨rfl,rfl,rfl,rfl,rfl,a8 (by omega),trivial⟩,⟨?_,trivial⟩⟩;rw[Reg.gS,cO z,cO I];rfl
 rw[lm]at U;have e:k=ys.length-1:=by omega
 have D:Reg.told (Reg.gS w a b ys k)=Reg.aeB w a b:=by rw[e,J];rfl
 refine⟨_,_,(Es _ (by omega) (fun t D=>by have:=bx t D;omega) (by rw[D];exact W)),?_,trivial⟩;rw[D]
end M
namespace Reg
structure HL(E:List (Nat×Nat))(u:List Int):Prop where
 uf:UF u
 edge:∀e∈E,e.1<u.length/\e.2<u.length/\kU u e.1 e.2
 cl:∀S:Nat->Prop,(∀e∈E,S e.1↔S e.2)->∀i k,kU u i k->(S i↔S k)
theorem Fz(n:Nat):HL [] (iota n):=
 ⟨ny n,fun e z=>(by cases z),fun S _ i k ⟨r,D,I⟩=>by rw[BI D,BI I]⟩
theorem FA{E:List (Nat×Nat)}{u:List Int}(h:HL E u){i k:Nat}(hi:i<u.length)(hk:k<u.length):HL (E++[(i,k)]) (gj u i k):=by
 have a:=fU i u i h.uf hi (aam _);have b:=fU k (cw i u i).1 k a.uf (by rw[a.len];exact hk) (aam _);have O:∀m q,eh (cw k (cw i u i).1 k).1 m q↔eh u m q:=fun m q=>(b.same m q).trans (a.same m q);have Y:=(O _ _).2 a.root;have Z:=(b.same _ _).2 b.root;have D:=fun p q=>PI O p q;have len:(cw k (cw i u i).1 k).1.length=u.length:=by rw[b.len,a.len]
 have J:∀p q,p<u.length->q<u.length->(kU (gj u i k) p q↔kU u p q\/(kU u p i/\kU u q k)\/(kU u p k/\kU u q i)):=fun p q hp I=>by
  rw[gj,KI b.uf Y Z (by rw[len];exact hp) (by rw[len];exact I),D,D,D,D,D]
 obtain⟨j1,R⟩:=mC h.uf hi hk;have self:∀m,m<u.length->kU u m m:=fun m hm=>by
  obtain⟨r,U⟩:=h.uf.root m hm;exact⟨r,U,U⟩
 refine⟨j1,fun e z=>?_,fun S hS p q V=>?_⟩
 ·rw[R];rcases abi.1 z with z | z
  ·obtain⟨e1,e2,e3⟩:=h.edge e z;exact⟨e1,e2,(J _ _ e1 e2).2 (.inl e3)⟩
  rw[ab_.1 z];exact⟨hi,hk,(J _ _ hi hk).2 (.inr (.inl ⟨self i hi,self k hk⟩))⟩
 obtain⟨r,RO,iO⟩:=id V;have hp:=RO.lt;have I:=iO.lt;rw[R]at hp I;have c:=h.cl S fun e z=>hS e (abY _ z);have W:S i↔S k:=hS (i,k) (adt _ (ab_.2 rfl));rcases (J p q hp I).1 V with g | ⟨L,N⟩ | ⟨L,N⟩
 ·exact c p q g
 ·exact (c p i L).trans (W.trans (c q k N).symm)
 exact (c p k L).trans (W.symm.trans (c q i N).symm)
def mW(q:Nat->Bool)(s:List Bool×List Nat)(k:Nat):List Bool×List Nat:=if s.1.getD k true=false/\q k=true then (s.1.set k true,s.2++[k]) else s
def pE(q:Nat->Bool)(n:Nat)(s:List Bool×List Nat):List Bool×List Nat:=(List.range n).foldl (mW q) s
def kL(q:Nat->Nat->Bool)(n:Nat):Nat->Nat->List Bool×List Nat->List Bool×List Nat
 | 0,_,s=>s
 | f+1,i,s=>if i<s.2.length then kL q n f (i+1) (pE (q (s.2.getD i 0)) n s) else s
def mK(q:Nat->Nat->Bool)(n:Nat)(s:List Bool×List (List Nat))(i:Nat):List Bool×List (List Nat):=
 if s.1.getD i true=true then s else ((kL q n n 0 (s.1.set i true,[i])).1,s.2++[(kL q n n 0 (s.1.set i true,[i])).2])
def NI(q:Nat->Nat->Bool)(n:Nat):List (List Nat):=((List.range n).foldl (mK q n) (List.replicate n false,[])).2
structure qR(n:Nat)(D0:List Bool)(s:List Bool×List Nat):Prop where
 len:s.1.length=n
 nod:s.2.Nodup
 mem:∀k∈s.2,k<n/\D0.getD k true=false
 done:∀k,k<n->(s.1.getD k true=true↔D0.getD k true=true\/k∈s.2)
variable {D0:List Bool}
theorem qR.le{n:Nat}{s:List Bool×List Nat}(h:qR n D0 s):s.2.length<=n:=by
 have:=adO h.nod (l₂:=List.range n) fun k hk=>abD.2 (h.mem k hk).1;simpa using this
theorem jx{l:List Bool}{k j:Nat}(hk:k<l.length):(l.set k true).getD j true=if j=k then true else l.getD j true:=by
 rw[aav,ahw hk,aav];split<;>rfl
theorem Jf{n:Nat}{q:Nat->Bool}{s:List Bool×List Nat}(h:qR n D0 s){k:Nat}(hk:k<n):
  qR n D0 (mW q s k)/\(∀x,x∈(mW q s k).2↔x∈s.2\/(x=k/\q k=true/\D0.getD k true=false))/\(∃t,(mW q s k).2=s.2++t):=by
 rw[mW];by_cases c:s.1.getD k true=false/\q k=true
 ·rw[aap c];have D:¬(D0.getD k true=true\/k∈s.2):=fun g=>by
   have:=(h.done k hk).2 g;rw[c.1]at this;cases this
  have I:D0.getD k true=false:=by
   cases e:D0.getD k true with
   | false=>rfl
   | true=>exact absurd (.inl e) D
  refine⟨⟨by show (s.1.set k true).length=n;rw[aaM,h.len],?_,fun x z=>?_,fun x z=>?_⟩,fun x=>?_,[k],rfl⟩
  ·show (s.2++[k]).Nodup;rw[abV];refine⟨h.nod,by simp,fun a J b hb=>?_⟩;rw[ab_.1 hb];exact fun e=>D (.inr (e▸J))
  ·rcases abi.1 z with z | z
   ·exact h.mem x z
   rw[ab_.1 z];exact⟨hk,I⟩
  ·show (s.1.set k true).getD x true=true↔_;rw[jx (by rw[h.len];exact hk)];by_cases e:x=k
   ·rw[aap e];exact⟨fun _=>.inr (adt _ (ab_.2 e)),fun _=>rfl⟩
   rw[aaa e,h.done x z];constructor
   ·rintro (g | g)
    ·exact .inl g
    exact .inr (abY _ g)
   rintro (g | g)
   ·exact .inl g
   rcases abi.1 g with g | g
   ·exact .inr g
   exact absurd (ab_.1 g) e
  show x∈s.2++[k]↔_;rw[abi,ab_];exact⟨fun g=>g.elim .inl fun e=>.inr ⟨e,c.2,I⟩,fun g=>g.elim .inl fun e=>.inr e.1⟩
 rw[aaa c];refine⟨h,fun x=>⟨.inl,fun g=>g.elim id fun ⟨e,D,I⟩=>?_⟩,[],by simp⟩;subst e;cases e:s.1.getD x true with
 | false=>exact absurd ⟨e,D⟩ c
 | true=>
  rcases (h.done x hk).1 e with g | g
  ·rw[I]at g;cases g
  exact g
theorem vP{n:Nat}{q:Nat->Bool}:∀(l:List Nat) (s:List Bool×List Nat),qR n D0 s->(∀k∈l,k<n)->
  qR n D0 (l.foldl (mW q) s)/\(∀x,x∈(l.foldl (mW q) s).2↔x∈s.2\/(x∈l/\q x=true/\D0.getD x true=false))/\(∃t,(l.foldl (mW q) s).2=s.2++t)
 | [],s,h,_=>⟨h,fun x=>by simp,[],by simp⟩
 | k::l,s,h,hl=>by
  obtain⟨D,I,t,J⟩:=Jf (q:=q) h (hl k adU);obtain⟨L,N,v,O⟩:=vP l _ D fun x R=>hl x (aaw _ R);refine⟨L,fun x=>?_,t++v,?_⟩
  ·show x∈(l.foldl (mW q) (mW q s k)).2↔_;rw[N,I,adq];constructor
   ·rintro ((g | ⟨rfl,g⟩) | ⟨g,z⟩)
    ·exact .inl g
    ·exact .inr ⟨.inl rfl,g⟩
    exact .inr ⟨.inr g,z⟩
   rintro (g | ⟨rfl | g,z⟩)
   ·exact .inl (.inl g)
   ·exact .inl (.inr ⟨rfl,z⟩)
   exact .inr ⟨g,z⟩
  show (l.foldl (mW q) (mW q s k)).2=_;rw[O,J,abx]
structure Ym(p:Nat->Nat)(q:Nat->Nat->Bool)(n:Nat):Prop where
 tops:Dg p n
 edge:∀a b,a<n->b<n->q a b=true->p a=p b
 cl:∀S:Nat->Prop,(∀a b,a<n->b<n->S a->q a b=true->S b)->∀k,k<n->S (p k)->S k
theorem Jg{p:Nat->Nat}{q:Nat->Nat->Bool}{n:Nat}(I:Ym p q n){r:Nat}(V:r<n)(N:∀k,k<n->p k=r->D0.getD k true=false):
  ∀(f i:Nat) (s:List Bool×List Nat),qR n D0 s->n<=f+i->r∈s.2->(∀k∈s.2,p k=r)->(∀j,j<i->j<s.2.length->∀b,b<n->q (s.2.getD j 0) b=true->b∈s.2)->
   qR n D0 (kL q n f i s)/\∀k,k∈(kL q n f i s).2↔k<n/\p k=r
 | f,i,s,h,hf,h0,h1,h2=>by
  have fin:s.2.length<=i->qR n D0 s/\∀k,k∈s.2↔k<n/\p k=r:=fun hi=>by
   refine⟨h,fun k=>⟨fun hk=>⟨(h.mem k hk).1,h1 k hk⟩,fun ⟨hk,e⟩=>?_⟩⟩;refine I.cl (fun x=>x∈s.2) (fun a b ha hb D z=>?_) k hk (by rw[e];exact h0);obtain⟨j,J⟩:=ab8.1 D;obtain⟨W,j2⟩:=aao.1 J;exact h2 j (by omega) W b hb (by rw[aav,J];exact z)
  match f,hf with
  | 0,hf=>exact fin (by have:=h.le;omega)
  | f+1,hf=>
   rw[kL];by_cases c:i<s.2.length
   ·rw[aap c];have Y:s.2[i]?=some s.2[i]:=acg c;have O:s.2.getD i 0=s.2[i]:=by rw[aav,Y];rfl
    have D:s.2[i]∈s.2:=adn c;obtain⟨Z,L,t,b3⟩:=vP (q:=q (s.2.getD i 0)) (List.range n) s h fun k hk=>abD.1 hk;refine Jg I V N f (i+1) _ Z (by omega) ((L r).2 (.inl h0)) (fun k hk=>?_) (fun j J hl b hb z=>?_)
    ·rcases (L k).1 hk with g | ⟨g1,R,_⟩
     ·exact h1 k g
     rw[O]at R;rw[<-I.edge _ _ (h.mem _ D).1 (abD.1 g1) R];exact h1 _ D
    have e3:(pE (q (s.2.getD i 0)) n s).2=s.2++t:=b3;have U:j<s.2.length:=by omega
    rw[e3,aav,aaE U,<-aav]at z;refine (L b).2 ?_;by_cases e:j=i
    ·subst e;refine .inr ⟨abD.2 hb,z,N b hb ?_⟩;rw[O]at z;rw[<-I.edge _ _ (h.mem _ D).1 hb z];exact h1 _ D
    exact .inl (h2 j (by omega) U b hb z)
   rw[aaa c];exact fin (by omega)
theorem rF{p:Nat->Nat}{q:Nat->Nat->Bool}{n:Nat}(I:Ym p q n):∀i,i<=n ->
  ((List.range i).foldl (mK q n) (List.replicate n false,[])).1.length=n /\
  (∀k,k<n->(((List.range i).foldl (mK q n) (List.replicate n false,[])).1.getD k true=true↔p k<i))/\
  ∃M:Nat->List Nat,((List.range i).foldl (mK q n) (List.replicate n false,[])).2=(cd p i).map M/\∀r∈cd p i,∀k,k∈M r↔k<n/\p k=r
 | 0,_=>by
  refine⟨by simp,fun k hk=>?_,fun _=>[],rfl,fun r D=>?_⟩
  ·simp[aav,hk]
  cases D
 | i+1,hi=>by
  obtain⟨l1,z,M,L,N⟩:=rF I i (by omega);rw[abM,abZ];generalize (List.range i).foldl (mK q n) (List.replicate n false,[])=s at l1 z L ⊢;simp only[aaq,adk];have tp:=I.tops.le i (by omega);rw[fE];by_cases c:p i=i
  ·have J:s.1.getD i true=false:=by
    cases e:s.1.getD i true with
    | false=>rfl
    | true=>have:=(z i (by omega)).1 e;omega
   have U:(mK q n s i)=((kL q n n 0 (s.1.set i true,[i])).1,s.2++[(kL q n n 0 (s.1.set i true,[i])).2]):=by
    rw[mK,aaa (by rw[J];simp)]
   obtain⟨O,R⟩:=Jg I (D0:=s.1) (r:=i) (by omega) (fun k hk e=>by
     cases g:s.1.getD k true with
     | false=>rfl
     | true=>have:=(z k hk).1 g;omega) n 0 (s.1.set i true,[i])
    ⟨by show (s.1.set i true).length=n;rw[aaM,l1],by simp,fun k hk=>by rw[ab_.1 hk];exact⟨by omega,J⟩,fun k hk=>by
     show (s.1.set i true).getD k true=true↔_;rw[jx (by rw[l1];omega),ab_];by_cases e:k=i<;>simp[e]⟩ (by omega) (by simp) (fun k hk=>by rw[ab_.1 hk];exact c) (fun j hj=>by omega)
   rw[aap c,U];refine⟨O.len,fun k hk=>?_,fun r=>if r=i then (kL q n n 0 (s.1.set i true,[i])).2 else M r,?_,fun r D k=>?_⟩
   ·rw[O.done k hk,z k hk,R k];constructor
    ·rintro (g | g)<;>omega
    intro g;by_cases e:p k=i
    ·exact .inr ⟨hk,e⟩
    exact .inl (by omega)
   ·show s.2++_=_;rw[L,abE];congr 1
    ·refine aaG fun r D=>?_;rw[aaa (by have:=(mem_keys.1 D).1;omega)]
    simp
   show k∈(if r=i then _ else _)↔_;by_cases e:r=i
   ·rw[aap e,e];exact R k
   rw[aaa e];refine N r ?_ k;rcases abi.1 D with g | g
   ·exact g
   exact absurd (ab_.1 g) e
  have J:s.1.getD i true=true:=(z i (by omega)).2 (by omega);rw[aaa c,mK,aap J];refine⟨l1,fun k hk=>?_,M,L,N⟩;rw[z k hk];constructor
  ·intro g;omega
  intro g;by_cases e:p k=i
  ·have:=I.tops.top k hk;rw[e]at this;exact absurd this c
  omega
def dN(a b:ae):Int:=min a.x1 b.x1-max a.x0 b.x0
def dO(a b:ae):Int:=min a.y1 b.y1-max a.y0 b.y0
def en(a b:ae):Bool:=(decide (0<dN a b)&&decide (0<=dO a b))||(decide (0<=dN a b)&&decide (0<dO a b))
theorem jY{a b:ae}:en a b=true↔(0<dN a b/\0<=dO a b)\/(0<=dN a b/\0<dO a b):=by simp[en]
theorem zN(a b:ae):en a b=en b a:=by
 have z:dN a b=dN b a:=by simp only[dN];omega
 have D:dO a b=dO b a:=by simp only[dO];omega
 rw[en,en,z,D]
theorem wX:∀{s:aU},Canon s->s.Pairwise fun p q=>p.2<q.1
 | [],_=>List.Pairwise.nil
 | _::_,h=>abw.2 ⟨h.behind,wX h.tail⟩
theorem rG{a b:ae}:kK a b=true↔a.x0<b.x1/\b.x0<a.x1:=by simp[kK]
theorem zO(all:List ae){g f e:Nat}(N:∀a b,g<=a->a<b->b<f->(all.getD a bg).x1<(all.getD b bg).x0)(O:∀a b,f<=a->a<b->b<e->(all.getD a bg).x1<(all.getD b bg).x0):
  ∀(n:Nat) (u:List Int) (i j:Nat) (E:List (Nat×Nat)),g<=i->f<=j->f<=u.length->e<=u.length->(f-i)+(e-j)<=n->HL E u ->
   ∃D,HL (E++D) (ov all f e n u i j)/\(∀c∈D,(i<=c.1/\c.1<f)/\(j<=c.2/\c.2<e)/\kK (all.getD c.1 bg) (all.getD c.2 bg)=true)/\
    ∀a b,i<=a->a<f->j<=b->b<e->kK (all.getD a bg) (all.getD b bg)=true->(a,b)∈D
 | 0,u,i,j,E,_,_,_,_,hn,h=>⟨[],by rw[acw];exact h,fun c z=>(by cases z),fun a b L I=>by omega⟩
 | n+1,u,i,j,E,hi,hj,hf,he,hn,h=>by
  rw[ov];by_cases c:i<f/\j<e
  ·rw[aap c];obtain⟨D,R,d2,d3,d4⟩:∃D,HL (E++D) (if kK (all.getD i bg) (all.getD j bg)=true then gj u i j else u)/\(∀c∈D,c=(i,j)/\kK (all.getD i bg) (all.getD j bg)=true)/\
     (kK (all.getD i bg) (all.getD j bg)=true->(i,j)∈D)/\(if kK (all.getD i bg) (all.getD j bg)=true then gj u i j else u).length=u.length:=by
    by_cases o:kK (all.getD i bg) (all.getD j bg)=true
    ·rw[aap o];exact⟨[(i,j)],FA h (by omega) (by omega),fun c z=>⟨ab_.1 z,o⟩,fun _=>ab_.2 rfl,(mC h.uf (by omega) (by omega)).2⟩
    rw[aaa o];exact⟨[],by rw[acw];exact h,fun c z=>(by cases z),fun x=>absurd x o,rfl⟩
   generalize (if kK (all.getD i bg) (all.getD j bg)=true then gj u i j else u)=v at R d4 ⊢;by_cases x:(all.getD i bg).x1<(all.getD j bg).x1
   ·rw[aap x,aap x];obtain⟨U,e1,e2,V⟩:=zO all N O n v (i+1) j (E++D) (by omega) hj (by omega) (by omega) (by omega) R;refine⟨D++U,by rw[<-abx];exact e1,fun k hk=>?_,fun a b L I W J o=>?_⟩
    ·rcases abi.1 hk with hk | hk
     ·obtain⟨rfl,o⟩:=d2 k hk;exact⟨⟨aam _,c.1⟩,⟨aam _,c.2⟩,o⟩
     obtain⟨⟨a1,a2⟩,Y,Z⟩:=e2 k hk;exact⟨⟨by omega,a2⟩,Y,Z⟩
    by_cases ea:a=i
    ·subst ea;by_cases eb:b=j
     ·subst eb;exact abY _ (d3 o)
     have:=O j b hj (by omega) J;have:=rG.1 o;omega
    exact adt _ (V a b (by omega) I W J o)
   rw[aaa x,aaa x];obtain⟨U,e1,e2,V⟩:=zO all N O n v i (j+1) (E++D) hi (by omega) (by omega) (by omega) (by omega) R;refine⟨D++U,by rw[<-abx];exact e1,fun k hk=>?_,fun a b L I W J o=>?_⟩
   ·rcases abi.1 hk with hk | hk
    ·obtain⟨rfl,o⟩:=d2 k hk;exact⟨⟨aam _,c.1⟩,⟨aam _,c.2⟩,o⟩
    obtain⟨a1,⟨a2,Y⟩,Z⟩:=e2 k hk;exact⟨a1,⟨by omega,Y⟩,Z⟩
   by_cases eb:b=j
   ·subst eb;by_cases ea:a=i
    ·subst ea;exact abY _ (d3 o)
    have:=N i a hi (by omega) I;have:=rG.1 o;omega
   exact adt _ (V a b L I (by omega) J o)
  rw[aaa c];exact⟨[],by rw[acw];exact h,fun c z=>(by cases z),fun a b L I W J=>by omega⟩
def Dr(all:List ae)(f:Nat)(b:an):Prop:=∀m,m<b.xs.length->∃p,b.xs[m]?=some p/\all.getD (f+m) bg=⟨p.1,b.y0,p.2,b.y1⟩
variable {all:List ae} {s:List an}
theorem KX{f:Nat}{b:an}(h:all.drop f=told (b::s)):Dr all f b:=fun m z=>by
 have e:told (b::s)=b.xs.map (fun p=>(⟨p.1,b.y0,p.2,b.y1⟩:ae))++told s:=by simp[told]
 refine⟨b.xs[m],acg z,?_⟩;rw[aav,<-aas,h,e,aaE (by simpa using z),aak,acg z];rfl
theorem zP{f:Nat}{b:an}(h:Dr all f b)(I:Canon b.xs):∀i j,f<=i->i<j->j<f+b.xs.length->(all.getD i bg).x1<(all.getD j bg).x0:=fun i j h1 h2 h3=>by
 obtain⟨p,J,z⟩:=h (i-f) (by omega);obtain⟨q,L,D⟩:=h (j-f) (by omega);rw[show f+(i-f)=i by omega]at z;rw[show f+(j-f)=j by omega]at D;rw[z,D];obtain⟨N,O⟩:=aao.1 J;obtain⟨R,U⟩:=aao.1 L;have:=abk.1 (wX I) (i-f) (j-f) N R (by omega);rw[O,U]at this;exact this
theorem oz{f:Nat}{b:an}(h:Dr all f b)(D:Canon b.xs){i:Nat}(h1:f<=i)(h2:i<f+b.xs.length):(all.getD i bg).y0=b.y0/\(all.getD i bg).y1=b.y1/\(all.getD i bg).x0<(all.getD i bg).x1:=by
 obtain⟨p,I,z⟩:=h (i-f) (by omega);rw[show f+(i-f)=i by omega]at z;rw[z];exact⟨rfl,rfl,ahL D p (aad I)⟩
theorem BV(all:List ae):∀(s:List an) (p:Option an) (u:List Int) (f g:Nat) (E:List (Nat×Nat)),bE s->u.length=all.length->all.drop f=told s->HL E u ->
  (∀q,p=some q->bE (q::s)/\f=g+q.xs.length/\Dr all g q)->(p=none->f=g)->(∀a,a<g->∀t∈s,(all.getD a bg).y1<t.y0)->
   ∃D,HL (E++D) (pW all p s u f g)/\(∀c∈D,en (all.getD c.1 bg) (all.getD c.2 bg)=true)/\∀a b,f<=b->b<all.length->a<b->en (all.getD a bg) (all.getD b bg)=true->(a,b)∈D
 | [],p,u,f,g,E,Z,hl,hd,h,hp,hn,S4=>by
  refine⟨[],by rw[acw];exact h,fun c z=>(by cases z),fun a b I J=>?_⟩;have:=adV List.length hd;simp[told]at this;omega
 | b::s,p,u,f,g,E,Z,hl,hd,h,hp,hn,S4=>by
  have hb:=Z.head;have V:=KX hd;have el:(told (b::s)).length=b.xs.length+(told s).length:=by simp[told]
  have hfl:f+b.xs.length<=all.length:=by
   have:=adV List.length hd;rw[aaN,el]at this;have b8:=hb.lt;rcases abm all.length f with g1 | g1
   ·have:b.xs.length=0:=by omega
    exact absurd (adj.1 this) hb.ne
   omega
  have Qp:all.drop (f+b.xs.length)=told s:=by
   have e:told (b::s)=b.xs.map (fun p=>(⟨p.1,b.y0,p.2,b.y1⟩:ae))++told s:=by simp[told]
   rw[<-ad8,hd,e,List.drop_append_of_le_length (by simp),aaz (by simp),ab3]
  rw[pW];obtain⟨D,d1,d2,d3,d4⟩:∃D,HL (E++D) (if meets p b=true then ov all f (f+b.xs.length) (f-g+b.xs.length) u g f else u)/\(∀c∈D,en (all.getD c.1 bg) (all.getD c.2 bg)=true)/\
    (∀x y,g<=x->x<f->f<=y->y<f+b.xs.length->en (all.getD x bg) (all.getD y bg)=true->(x,y)∈D)/\(if meets p b=true then ov all f (f+b.xs.length) (f-g+b.xs.length) u g f else u).length=u.length:=by
   cases p with
   | none=>
    have:=hn rfl;exact⟨[],by rw[acw];exact h,fun c z=>(by cases z),fun x y I J=>by omega,rfl⟩
   | some q=>
    obtain⟨q1,q2,q3⟩:=hp q rfl;have R:=q1.head;have qb:=q1.fM b adU;have oF:=R.lt;have JC:=hb.lt;have ty:∀x y,g<=x->x<f->f<=y->y<f+b.xs.length->dO (all.getD x bg) (all.getD y bg)=q.y1-b.y0:=fun x y I J L W=>by
     obtain⟨a1,a2,_⟩:=oz q3 R.can I (by omega);obtain⟨b1,b2,_⟩:=oz V hb.can L W;simp only[dO,a1,a2,b1,b2];omega
    by_cases m:meets (some q) b=true
    ·rw[aap m];have m:q.y1=b.y0:=abJ m;obtain⟨D,e1,e2,e3⟩:=zO all (g:=g) (f:=f) (e:=f+b.xs.length) (by rw[q2];exact zP q3 R.can) (zP V hb.can) (f-g+b.xs.length) u g f E (aam _) (aam _) (by omega) (by omega) (by omega) h;refine⟨D,e1,fun c z=>?_,fun x y I J L W N=>?_,(xP all f _ _ u g f h.uf (by omega) (by omega)).2⟩
     ·obtain⟨⟨c1,c2⟩,⟨Y,c4⟩,o⟩:=e2 c z;have o:=rG.1 o;have y:=ty _ _ c1 c2 Y c4;obtain⟨_,_,a3⟩:=oz q3 R.can c1 (by omega);obtain⟨_,_,b3⟩:=oz V hb.can Y c4;exact jY.2 (.inl ⟨by simp only[dN];omega,by omega⟩)
     have y:=ty _ _ I J L W;refine e3 x _ I J L W (rG.2 ?_);rcases jY.1 N with⟨O,U⟩ | ⟨O,U⟩
     ·simp only[dN]at O;omega
     omega
    rw[aaa m];have m:¬q.y1=b.y0:=fun e=>m (aaA e);refine⟨[],by rw[acw];exact h,fun c z=>(by cases z),fun x y I J L W N=>?_,rfl⟩;have y:=ty _ _ I J L W;rcases jY.1 N with⟨O,U⟩ | ⟨O,U⟩<;>omega
  generalize (if meets p b=true then ov all f (f+b.xs.length) (f-g+b.xs.length) u g f else u)=v at d1 d4 ⊢;have Yn:∀a,a<f->∀t∈s,(all.getD a bg).y1<t.y0:=fun a ha t N=>by
   have I:=Z.fM t N;have J:=hb.lt;rcases abm a g with c | c
   ·have:=S4 a c b adU;omega
   cases p with
   | none=>have:=hn rfl;omega
   | some q=>
    obtain⟨q1,q2,q3⟩:=hp q rfl;have L:=q1.fM b adU;obtain⟨_,a2,_⟩:=oz q3 q1.head.can c (by omega);omega
  obtain⟨D',e1,e2,e3⟩:=BV all s (some b) v (f+b.xs.length) f (E++D) Z.tail (by omega) Qp d1 (fun q R=>by injection R with R;subst R;exact⟨Z,rfl,V⟩) (fun x=>by cases x) Yn;refine⟨D++D',by rw[<-abx];exact e1,fun c z=>?_,fun x y I J L N=>?_⟩
  ·rcases abi.1 z with z | z
   ·exact d2 c z
   exact e2 c z
  rcases abm y (f+b.xs.length) with c | c
  ·obtain⟨b1,b2,b3⟩:=oz V hb.can I c;rcases abm x g with c2 | c2
   ·have l:=S4 x c2 b adU;rcases jY.1 N with⟨O,U⟩ | ⟨O,U⟩<;>simp only[dO]at U<;>omega
   rcases abm x f with Y | Y
   ·exact abY _ (d3 x y c2 Y I c N)
   have l:=zP V hb.can x y Y L c;rcases jY.1 N with⟨O,U⟩ | ⟨O,U⟩<;>simp only[dN]at O<;>omega
  exact adt _ (e3 x y c J L N)
def cN(r:List ae)(a b:Nat):Bool:=en (r.getD a bg) (r.getD b bg)
theorem FB(h:bE s):Ym (cQ (jE s)) (cN (told s)) (told s).length:=by
 obtain⟨D,z,U,L⟩:=BV (told s) s none (iota (told s).length) 0 0 [] h (aeM _) rfl (Fz _) (fun q I=>by cases I) (fun _=>rfl) (fun a N=>by omega);have z:HL D (jE s):=z;have len:=(zv s).2;have J:=rz z.uf;rw[len]at J;refine⟨J,fun a b N hb I=>?_,fun S hS k hk hp=>?_⟩
 ·rcases ada a b with c | c | c
  ·exact (ae8 z.uf (by omega) (by omega)).1 (z.edge _ (L a b (by omega) hb c I)).2.2
  ·rw[c]
  rw[cN,zN]at I;exact ((ae8 z.uf (by omega) (by omega)).1 (z.edge _ (L b a (by omega) N c I)).2.2).symm
 refine (z.cl S (fun e O=>?_) (cQ (jE s) k) k ?_).1 hp
 ·obtain⟨l1,l2,_⟩:=z.edge e O;have R:=U e O;exact⟨fun g=>hS _ _ (by omega) (by omega) g R,fun g=>hS _ _ (by omega) (by omega) g (by rw[cN,zN];exact R)⟩
 have:=J.le k hk;exact (ae8 z.uf (by omega) (by omega)).2 (J.top k hk)
theorem HM{l m:List ae}(hl:∀r∈l,Full r)(h:∀r,r∈l↔r∈m):aB l=aB m:=by
 obtain⟨I,J,_⟩:=aR hl;obtain⟨L,N,_⟩:=aR (l:=m) fun r O=>hl r ((h r).2 O);refine iK _ _ I L fun x y=>?_;rw[J,N,abb,aci,aci];exact⟨fun ⟨r,z,D⟩=>⟨r,(h r).1 z,D⟩,fun ⟨r,z,D⟩=>⟨r,(h r).2 z,D⟩⟩
def Jh(r:List ae):List (List ae):=(NI (cN r) r.length).map fun L=>bR (L.map fun k=>r.getD k bg)
theorem Ds(h:bE s):Jh (told s)=(cV s).map told:=by
 have D:=FB h;obtain⟨_,_,M,I,J⟩:=rF D (told s).length (aam _);rw[Jh,NI,I,cV,ox,aP,abd,abd,abd,abd];refine aaG fun r L=>?_;show told (aB _)=told (aB _);have N:=bP h;have z:=J r L;rw[HM]
 ·intro q O;obtain⟨k,hk,rfl⟩:=adS.1 O;have:=((z k).1 hk).1;exact N _ (by rw[aav,acg this];exact adn this)
 intro q;simp only[adS];constructor
 ·rintro⟨k,hk,e⟩;exact⟨k,dx.2 ((z k).1 hk),e⟩
 rintro⟨k,hk,e⟩;exact⟨k,(z k).2 (dx.1 hk),e⟩
def dD(l:List ae):ae:=l.getD 0 bg
def kX(x:ae)(l:List (List ae)):Nat->Nat
 | 0=>0
 | k+1=>if before x (dD (l.getD k []))=true then kX x l k else k+1
def zQ(l:List (List ae))(r:List ae):List (List ae):=(l.take (kX (dD r) l l.length)++[r])++l.drop (kX (dD r) l l.length)
theorem NJ{l:List (List ae)}{r:List ae}(h:∀t,l.getLast?=some t->before (dD r) (dD t)=false):zQ l r=l++[r]:=by
 have e:kX (dD r) l l.length=l.length:=by
  cases hn:l.length with
  | zero=>rfl
  | succ k=>
   rw[kX];have hk:l[k]?=some l[k]:=acg (by omega);rw[aaa];rw[aav,hk];have:=h l[k] (by rw[ad3,show l.length-1=k by omega];exact hk);simp only[acy,this];simp
 rw[zQ,e,acB,List.drop_length,acw]
def nN(r:List ae)(s:List Bool×List (List ae))(i:Nat):List Bool×List (List ae):=
 if s.1.getD i true=true then s else ((kL (cN r) r.length r.length 0 (s.1.set i true,[i])).1,zQ s.2 (bR ((kL (cN r) r.length r.length 0 (s.1.set i true,[i])).2.map fun k=>r.getD k bg)))
def cB(r:List ae)(i:Nat):List Bool×List (List ae):=(List.range i).foldl (nN r) (List.replicate r.length false,[])
def lU(r:List ae):List (List ae):=(cB r r.length).2
theorem iz(r:List ae)(i:Nat):cB r (i+1)=nN r (cB r i) i:=by simp[cB,abM,abZ]
theorem HN{a b:ae}:before a b=false↔¬(a.y0<b.y0\/(a.y0=b.y0/\a.x0<b.x0)):=by
 rw[<-Bool.not_eq_true,gN]
theorem HO{l:List ae}(hl:∀r∈l,Full r){q:ae}(L:q∈l)(h:∀r∈l,q.y0<r.y0\/(q.y0=r.y0/\q.x0<=r.x0)):(dD (bR l)).y0=q.y0/\(dD (bR l)).x0=q.x0:=by
 obtain⟨D,I,_⟩:=aR hl;have N:=hl q L;have z:at' (aB l) q.x0 q.y0=true:=by
  rw[I,aci];exact⟨q,L,aQ.2 ⟨aaD _,N.1,aaD _,N.2⟩⟩
 rw[bR];cases e:aB l with
 | nil=>rw[e]at z;cases z
 | cons b s=>
  rw[e]at D I z;have hb:=D.head;cases ex:b.xs with
  | nil=>exact absurd ex hb.ne
  | cons p t=>
   have e1:dD (told (b::s))=⟨p.1,b.y0,p.2,b.y1⟩:=by simp[dD,told,ex]
   rw[e1];show b.y0=q.y0/\p.1=q.x0;have J:=hb.can;rw[ex]at J;have hp:=J.head;have U:=hb.lt;have O:at' (b::s) p.1 b.y0=true:=qB.2 ⟨b,adU,aaD _,U,(cu hb.can _).2 ⟨p,by rw[ex];exact adU,aaD _,hp⟩⟩;rw[I,aci]at O;obtain⟨r,V,W⟩:=O;obtain⟨r1,r2,r3,r4⟩:=aQ.1 W;have hqr:=h r V;obtain⟨c,Y,c1,c2,Z⟩:=qB.1 z;have eb:c=b:=by
    rcases adq.1 Y with g | g
    ·exact g
    have:=D.fM c g;omega
   subst eb;obtain⟨u,R,u1,u2⟩:=(cu hb.can _).1 Z;rw[ex]at R;have:p.1<=u.1:=by
    rcases adq.1 R with g | g
    ·rw[g];exact aaD _
    have:=J.behind u g;omega
   omega
theorem sd(h:bE s):∀i,i<=(told s).length ->
  (cB (told s) i).1=((List.range i).foldl (mK (cN (told s)) (told s).length) (List.replicate (told s).length false,[])).1 /\
  (cB (told s) i).2=((List.range i).foldl (mK (cN (told s)) (told s).length) (List.replicate (told s).length false,[])).2.map fun L=>bR (L.map fun k=>(told s).getD k bg)
 | 0,_=>⟨rfl,rfl⟩
 | i+1,hi=>by
  obtain⟨R,J⟩:=sd h i (by omega);have W:=FB h;obtain⟨_,_,M,U,m2⟩:=rF W i (by omega);obtain⟨_,_,M',N,Y⟩:=rF W (i+1) hi;rw[iz];have TB:(List.range (i+1)).foldl (mK (cN (told s)) (told s).length) (List.replicate (told s).length false,[])=mK (cN (told s)) (told s).length ((List.range i).foldl (mK (cN (told s)) (told s).length) (List.replicate (told s).length false,[])) i:=by
   rw[abM,abZ];rfl
  rw[TB]at N ⊢;generalize (List.range i).foldl (mK (cN (told s)) (told s).length) (List.replicate (told s).length false,[])=w at R J U N ⊢;generalize cB (told s) i=v at R J ⊢;rw[nN,mK]at *;rw[R];by_cases c:w.1.getD i true=true
  ·rw[aap c,aap c];exact⟨R,J⟩
  rw[aaa c]at N ⊢;rw[aaa c];refine⟨rfl,?_⟩;generalize kL (cN (told s)) (told s).length (told s).length 0 (w.1.set i true,[i])=z at N ⊢;show zQ v.2 (bR (z.2.map _))=_;have D:∀k,k<(told s).length->(told s)[k]?=some ((told s).getD k bg):=fun k hk=>by rw[aav,acg hk];rfl
  have fl:=bP h;have O:∀a b,a<b->b<(told s).length->before ((told s).getD a bg) ((told s).getD b bg)=true:=fun a b h1 h2=>by
   obtain⟨a1,a2⟩:=aao.1 (D a (by omega));obtain⟨b1,b2⟩:=aao.1 (D b h2);have:=abk.1 (pk h) a b a1 b1 h1;rw[a2,b2]at this;exact this
  have hd:∀(r:Nat) (L:List Nat),r<(told s).length->cQ (jE s) r=r->(∀k,k∈L↔k<(told s).length/\cQ (jE s) k=r)->
    (dD (bR (L.map fun k=>(told s).getD k bg))).y0=((told s).getD r bg).y0/\(dD (bR (L.map fun k=>(told s).getD k bg))).x0=((told s).getD r bg).x0:=fun r L V hp Z=>by
   refine HO (fun q hq=>?_) (adS.2 ⟨r,(Z r).2 ⟨V,hp⟩,rfl⟩) fun q hq=>?_
   ·obtain⟨k,hk,rfl⟩:=adS.1 hq;exact fl _ (aad (D k ((Z k).1 hk).1))
   obtain⟨k,hk,rfl⟩:=adS.1 hq;obtain⟨k1,k2⟩:=(Z k).1 hk;have:=W.tops.le k k1;by_cases e:r=k
   ·subst e;exact .inr ⟨rfl,aaD _⟩
   have:=gN.1 (O r k (by omega) k1);omega
  have I:w.2++[z.2]=(cd (cQ (jE s)) (i+1)).map M':=N;rw[fE]at I Y;by_cases pi:cQ (jE s) i=i
  ·rw[aap pi]at I Y;rw[abE]at I;have zi:=(List.append_inj I (by rw[U];simp)).2;have zi:z.2=M' i:=by simpa using zi
   have mz:=Y i (adt _ (ab_.2 rfl));rw[<-zi]at mz;rw[NJ,J,abE]
   ·rfl
   intro t ht;rw[J,U,abd]at ht;obtain⟨r,V,rfl⟩:=adS.1 (ad4 ht);obtain⟨r1,r2⟩:=mem_keys.1 V;obtain⟨a1,a2⟩:=hd i z.2 (by omega) pi mz;obtain⟨b1,b2⟩:=hd r (M r) (by omega) r2 (m2 r V);have o:=gN.1 (O r i r1 (by omega));rw[HN];simp only[Function.comp]at *;omega
  rw[aaa pi]at I;have:=adV List.length I;rw[U]at this;simp at this
theorem uG(h:bE s):lU (told s)=(cV s).map told:=by
 rw[lU,(sd h _ (aam _)).2,<-Ds h];rfl
theorem pF(h:bE s):aB (told s)=s:=by
 obtain⟨z,D,_⟩:=aR (bP h);exact iK _ _ z h fun x y=>by rw[D,iy h]
theorem Ra{t:List an}(z:bE s)(D:bE t):aeB 1 (told s) (told t)=told (uo s t):=by rw[aeB,PY (bP z) (bP D),pF z,pF D]
theorem akv{t:List an}(z:bE s)(D:bE t):aeB 2 (told s) (told t)=told (nM s t):=by rw[aeB,aj7 (bP z) (bP D),pF z,pF D]
theorem FC{t:List an}(z:bE s)(D:bE t):aeB 3 (told s) (told t)=told (bN s t):=by rw[aeB,KU (bP z) (bP D),pF z,pF D]
theorem qS{r:ae}(h:Full r):told (aB [r])=[r]:=by rw[vC h];rfl
theorem gz{r:ae}(h:Full r):bE (aB [r])/\∀x y,at' (aB [r]) x y=dE x y r:=by
 obtain⟨z,D,_⟩:=aR (l:=[r]) fun q I=>by rw[ab_.1 I];exact h
 exact⟨z,fun x y=>by rw[D];simp⟩
def dp(o q:ae):ae:=⟨min o.x0 q.x0,min o.y0 q.y0,max o.x1 q.x1,max o.y1 q.y1⟩
def dy(r:List ae):ae:=r.foldl dp (dD r)
theorem wY:∀(l:List ae) (o:ae),((l.foldl dp o).x0<=o.x0/\(l.foldl dp o).y0<=o.y0/\o.x1<=(l.foldl dp o).x1/\o.y1<=(l.foldl dp o).y1)/\
  (∀q∈l,(l.foldl dp o).x0<=q.x0/\(l.foldl dp o).y0<=q.y0/\q.x1<=(l.foldl dp o).x1/\q.y1<=(l.foldl dp o).y1)/\∀K,RK K o->(∀q∈l,RK K q)->RK K (l.foldl dp o)
 | [],o=>⟨⟨aaD _,aaD _,aaD _,aaD _⟩,fun q z=>(by cases z),fun K h _=>h⟩
 | p::l,o=>by
  obtain⟨⟨a1,a2,a3,a4⟩,b,c⟩:=wY l (dp o p);have e1:(dp o p).x0=min o.x0 p.x0:=rfl;have e2:(dp o p).y0=min o.y0 p.y0:=rfl;have e3:(dp o p).x1=max o.x1 p.x1:=rfl;have e4:(dp o p).y1=max o.y1 p.y1:=rfl;rw[aaq];refine⟨⟨by omega,by omega,by omega,by omega⟩,fun q z=>?_,fun K hK hl=>c K ?_ fun q z=>hl q (aaw _ z)⟩
  ·rcases adq.1 z with e | z
   ·rw[e];exact⟨by omega,by omega,by omega,by omega⟩
   exact b q z
  have:=hl p adU;unfold RK at *;omega
theorem pG(h:bE s)(L:s≠[]):Full (dy (told s))/\(∀x y,at' s x y=true->dE x y (dy (told s))=true)/\∀K,cv K s->RK K (dy (told s)):=by
 obtain⟨a,b,c⟩:=wY (told s) (dD (told s));have D:dD (told s)∈told s:=by
  have:told s≠[]:=fun e=>L (qD h e);rw[dD,aav,acg (List.length_pos_iff.2 this)];exact adn _
 have f:=bP h _ D;have f1:=f.1;have f2:=f.2;refine⟨⟨?_,?_⟩,fun x y I=>?_,fun K J=>c K (fR h J _ D) fun q z=>fR h J q z⟩
 ·show (List.foldl dp _ _).x0<(List.foldl dp _ _).x1;omega
 ·show (List.foldl dp _ _).y0<(List.foldl dp _ _).y1;omega
 rw[<-iy h,aci]at I;obtain⟨q,z,N⟩:=I;have:=b q z;obtain⟨g1,g2,g3,g4⟩:=aQ.1 N;exact aQ.2 ⟨by show (List.foldl dp _ _).x0<=x;omega,by show x<(List.foldl dp _ _).x1;omega,by show (List.foldl dp _ _).y0<=y;omega,by show y<(List.foldl dp _ _).y1;omega⟩
theorem FD(h:bE s){box:ae}(R:Full box){l r d u:Int}(hl:0<=l)(D:0<=r)(I:0<=d)(J:0<=u)
  (hb:∀x y,at' s x y=true->box.x0<=x-l/\x+r<box.x1/\box.y0<=y-d/\y+u<box.y1):bN s (a_ (bN (aB [box]) s) r l u d)=coreS s l r d u:=by
 obtain⟨U,V⟩:=gz R;obtain⟨W,L,_⟩:=b6 U h;obtain⟨Y,N,_⟩:=bW W D hl J I;obtain⟨e1,e2,_⟩:=b6 h Y;obtain⟨Z,k2,_⟩:=pe h hl D I J;refine iK _ _ e1 Z fun x y=>?_;rw[abb,k2,e2,aaZ,ael];constructor
 ·rintro⟨h1,h2⟩ a b g1 g2 g3 g4;cases qb:at' s a b with
  | true=>rfl
  | false=>
   have ha:=hb x y h1;have:at' (a_ (bN (aB [box]) s) r l u d) x y=true:=(N x y).2 ⟨a,b,by
    rw[L,V,qb,aQ.2 ⟨by omega,by omega,by omega,by omega⟩];rfl,by omega,by omega,by omega,by omega⟩
   rw[h2]at this;cases this
 intro z;refine⟨z x y (by omega) (by omega) (by omega) (by omega),?_⟩;rw[aaV];intro hp;obtain⟨a,b,O,g1,g2,g3,g4⟩:=(N x y).1 hp;rw[L,z a b (by omega) (by omega) (by omega) (by omega)]at O;simp at O
def ff(q:ae)(n:Int):ae:=⟨q.x0-n,q.y0-n,q.x1+n,q.y1+n⟩
theorem l6{q:ae}(h:Full q){n:Int}(h0:0<=n):Full (ff q n):=⟨by have:=h.1;show q.x0-n<q.x1+n;omega,by have:=h.2;show q.y0-n<q.y1+n;omega⟩
def Dt(r:List ae)(n:Int):List ae:=aeB 3 [ff (dy r) n] r
def xT(r:List ae)(n:Int):List ae:=if r.length=0 then [] else aeB 3 r (bR ((Dt r n).map fun q=>ff q n))
theorem wZ(h:bE s)(z:s≠[]){n:Int}(D:0<=n):Dt (told s) n=told (bN (aB [ff (dy (told s)) n]) s):=by
 have f:=l6 (pG h z).1 D;rw[Dt,<-qS f,FC (gz f).1 h,qS f]
theorem FE(h:bE s){n:Int}(z:0<=n):xT (told s) n=told (coreS s n n n n):=by
 rw[xT];by_cases D:s=[]
 ·subst D;rfl
 have I:(told s).length≠0:=fun e=>D (qD h (adj.1 e));obtain⟨J,L,_⟩:=pG h D;have f:=l6 J z;rw[aaa I,wZ h D z];have N:=(b6 (gz f).1 h).1;have e:bR ((told (bN (aB [ff (dy (told s)) n]) s)).map fun q=>ff q n)=told (a_ (bN (aB [ff (dy (told s)) n]) s) n n n n):=rfl;rw[e,FC h (bW N z z z z).1,FD h f z z z z];intro x y O;obtain⟨g1,g2,g3,g4⟩:=aQ.1 (L x y O);exact⟨by show (dy (told s)).x0-n<=_;omega,by show _<(dy (told s)).x1+n;omega,by show (dy (told s)).y0-n<=_;omega,by show _<(dy (told s)).y1+n;omega⟩
def noR(w:Int)(q:ae):ae:=⟨q.x0-w+1,q.y0-w+1,q.x1,q.y1⟩
def af3(w:Int)(q:ae):ae:=⟨q.x0,q.y0,q.x1+w-1,q.y1+w-1⟩
theorem vQ{s:List an}{K:Nat}(h:bE s)(hb:cv K s):(told s).length<=2*K*K:=by
 have h1:=ahe h (by omega) hb;have z:=uj (M:=K) (s:=s) fun t D=>by have:=kT h (by omega) hb t D;omega
 exact aaF z (abf _ (by omega))
theorem zR{K:Nat}:∀{l:List Int} {a:Int},bF (a::l)->(∀y∈a::l,y<=K)->(l.length:Int)<=K-a
 | [],a,_,h=>by have:=h a (by simp);simp only[acs];omega
 | b::l,a,hr,h=>by
  have ih:=zR (l:=l) (a:=b) (abw.1 hr).2 (fun y z=>h y (by simp at z ⊢;exact .inr z));have h1:=(abw.1 hr).1 b (by simp);simp only[aaB];omega
theorem BX{l:List ae}{K:Nat}(J:∀r∈l,Full r)(hk:∀r∈l,RK K r):(aE l).length<=2*K+1:=by
 obtain⟨L,N⟩:=cT l;have D:∀y∈aE l,-(K:Int)<=y/\y<=K:=fun y z=>by
  obtain⟨r,I,e⟩:=(N y).1 z;have a:=J r I;obtain⟨b1,b2,b3,b4⟩:=hk r I;have:=a.2;rcases e with e | e<;>omega
 generalize aE l=ys at *;cases ys with
 | nil=>simp
 | cons a ys=>
  have h4:=zR L fun y z=>(D y z).2;have h5:=(D a (by simp)).1;simp only[aaB];omega
theorem PZ(h:bE s)(z:s≠[]):told s≠[]:=fun e=>z (qD h e)
theorem uH{l:List ae}(D:∀r∈l,Full r)(J:l≠[]):bR l≠[]:=by
 obtain⟨L,N,_⟩:=aR D;refine PZ L fun e=>?_;cases l with
 | nil=>exact J rfl
 | cons r l=>
  have z:=N r.x0 r.y0;rw[e]at z;have I:=D r (by simp);have O:dE r.x0 r.y0 r=true:=aQ.2 ⟨by omega,I.1,by omega,I.2⟩;rw[abK,O,abn]at z;cases z
def Yp(YQ:List Int)(l:List ae):Prop:=∀r∈l,r.y0∈YQ/\r.y1∈YQ
variable {YQ:List Int}
theorem ai4{l:List an}{b:an}(hl:∀t∈l,t.y0∈YQ/\t.y1∈YQ)(hb:b.y0∈YQ/\b.y1∈YQ):∀t∈cA l b,t.y0∈YQ/\t.y1∈YQ:=by
 unfold cA;split
 ·exact hl
 split
 ·rename_i t D;split
  ·intro u z;rcases abi.1 z with h | h
   ·exact hl u ((List.dropLast_sublist l).subset h)
   rw[ab_.1 h];exact⟨(hl t (ad4 D)).1,hb.2⟩
  intro u z;rcases abi.1 z with h | h
  ·exact hl u h
  rw[ab_.1 h];exact hb
 intro u z;rw[ab_.1 z];exact hb
theorem getD_in{ys:List Int}{k:Nat}(h:k<ys.length):ys.getD k 0∈ys:=by
 rw[aav,acg h];exact adn h
theorem aiL(w:Int)(a b:List ae)(ys:List Int):∀k,k<=ys.length-1->∀t∈gS w a b ys k,t.y0∈ys/\t.y1∈ys
 | 0,_=>fun t z=>by cases z
 | k+1,h=>by
  rw[gS];exact ai4 (aiL w a b ys k (by omega)) ⟨getD_in (by omega),getD_in (by omega)⟩
theorem aiF(l:List ae)(ys:List Int):∀k,k<=ys.length-1->∀t∈cg l ys k,t.y0∈ys/\t.y1∈ys
 | 0,_=>fun t z=>by cases z
 | k+1,h=>by
  rw[cg];exact ai4 (aiF l ys k (by omega)) ⟨getD_in (by omega),getD_in (by omega)⟩
theorem aif{l:List ae}(h:Yp YQ l):∀y∈aE l,y∈YQ:=fun y D=>by
 obtain⟨r,z,e⟩:=((cT l).2 y).1 D;rcases e with e | e
 ·rw[e];exact (h r z).1
 rw[e];exact (h r z).2
theorem aji(h:∀t∈s,t.y0∈YQ/\t.y1∈YQ):Yp YQ (told s):=fun r z=>by
 obtain⟨b,hb,p,hp,rfl⟩:=gf.1 z;exact h b hb
theorem ajj{YQ:List Int}(w:Int){a b:List ae}(D:Yp YQ a)(hb:Yp YQ b):Yp YQ (aeB w a b):=by
 have z:=aif (YQ:=YQ) (l:=a++b) fun r I=>by
  rcases abi.1 I with h | h
  ·exact D r h
  exact hb r h
 refine aji fun t J=>?_;have:=aiL w a b _ _ (aam _) t J;exact⟨z _ this.1,z _ this.2⟩
theorem ajT{l:List ae}(h:Yp YQ l):Yp YQ (bR l):=by
 refine aji fun t z=>?_;have:=aiF l _ _ (aam _) t z;exact⟨aif h _ this.1,aif h _ this.2⟩
theorem Yp.mono{z:List Int}{l:List ae}(h:Yp YQ l)(k:∀y∈YQ,y∈z):Yp z l:=fun r D=>⟨k _ (h r D).1,k _ (h r D).2⟩
theorem ajk:∀{s:List an},bE s->(s.map (·.y0)).Nodup
 | [],_=>List.nodup_nil
 | b::s,h=>by
  rw[aa8,aai];refine⟨fun z=>?_,ajk h.tail⟩;obtain⟨t,D,e⟩:=adS.1 z;have h1:=h.fM t D;have h2:=h.head.lt;omega
theorem aj9{s:List an}{K:Nat}(h:bE s)(hb:cv K s)(D:Yp YQ (told s)):(told s).length<=YQ.length*K:=by
 have I:=uj (M:=K) (s:=s) fun t z=>by have:=kT h (by omega) hb t z;omega
 have J:s.length<=YQ.length:=by
  have:=adO (ajk h) (l₂:=YQ) fun y L=>by
   obtain⟨t,z,rfl⟩:=adS.1 L;have N:=(h.mem t z).ne;cases e:t.xs with
   | nil=>exact absurd e N
   | cons p xs=>exact (D ⟨p.1,t.y0,p.2,t.y1⟩ (gf.2 ⟨t,z,p,by rw[e];simp,rfl⟩)).1
  simpa using this
 exact aaF I (abf _ J)
end Reg
namespace M
open Go.AM Go.RowKit
open Reg (ae aU an bE cv Full RK told aB aeB bN uo nM)
theorem FF(a b:List ae)(z:a.length+b.length<=4398046511104)(D:(Reg.aE (a++b)).length<=3000000000000)(I:(aeB 3 a b).length<=4398046511104):af C 54 [.pv (aj a),.pv (aj b)] (.p (aj (aeB 3 a b))) []:=by
 refine fW hC Tryz.func54 rfl (by kernel_rfl) fun _=>?_;refine⟨_,_,(uF a b 3 z D I),?_,trivial⟩;rfl
theorem ajD(a b:List ae)(z:a.length+b.length<=4398046511104)(D:(Reg.aE (a++b)).length<=3000000000000)(I:(aeB 2 a b).length<=4398046511104):af C 145 [.pv (aj a),.pv (aj b)] (.p (aj (aeB 2 a b))) []:=by
 refine fW hC Tryz.func145 rfl (by kernel_rfl) fun _=>?_;refine⟨_,_,(uF a b 2 z D I),?_,trivial⟩;rfl
theorem FG(a b:List ae)(z:a.length+b.length<=4398046511104)(D:(Reg.aE (a++b)).length<=3000000000000)(I:(aeB 1 a b).length<=4398046511104):af C 132 [.pv (aj a),.pv (aj b)] (.p (aj (aeB 1 a b))) []:=by
 refine fW hC Tryz.func132 rfl (by kernel_rfl) fun _=>?_;refine⟨_,_,(uF a b 1 z D I),?_,trivial⟩;rfl
variable {s:List an}
theorem w7{t:List an}(D:bE s)(I:bE t)(ks:cv 1400000 s)(J:cv 1400000 t):(Reg.aE (told s++told t)).length<=3000000000000:=by
 have:=Reg.BX (K:=1400000) (l:=told s++told t) (fun r z=>by
  rcases abi.1 z with h | h
  ·exact Reg.bP D r h
  ·exact Reg.bP I r h) (fun r z=>by
  rcases abi.1 z with h | h
  ·exact Reg.fR D ks r h
  exact Reg.fR I J r h)
 omega
theorem mL{t:List an}(z:bE s)(D:bE t)(ks:cv 1400000 s)(I:cv 1400000 t)(J:(told s).length+(told t).length<=4398046511104):af C 54 [.pv (aj (told s)),.pv (aj (told t))] (.p (aj (told (bN s t)))) []:=by
 obtain⟨L,a2,N⟩:=Reg.b6 z D;have h:=FF (told s) (told t) J (w7 z D ks I) (by rw[Reg.FC z D];exact Reg.fj L (N _ ks I))
 rwa [Reg.FC z D]at h
theorem akr{t:List an}(z:bE s)(D:bE t)(ks:cv 1400000 s)(I:cv 1400000 t)(J:(told s).length+(told t).length<=4398046511104):af C 145 [.pv (aj (told s)),.pv (aj (told t))] (.p (aj (told (nM s t)))) []:=by
 obtain⟨L,a2,N⟩:=Reg.Ky z D;have h:=ajD (told s) (told t) J (w7 z D ks I) (by rw[Reg.akv z D];exact Reg.fj L (N _ ks I))
 rwa [Reg.akv z D]at h
theorem S6{t:List an}(z:bE s)(D:bE t)(ks:cv 1400000 s)(I:cv 1400000 t)(J:(told s).length+(told t).length<=4398046511104):af C 132 [.pv (aj (told s)),.pv (aj (told t))] (.p (aj (told (uo s t)))) []:=by
 obtain⟨L,a2,N⟩:=Reg.kH z D;have h:=FG (told s) (told t) J (w7 z D ks I) (by rw[Reg.Ra z D];exact Reg.fj L (N _ ks I))
 rwa [Reg.Ra z D]at h
theorem vR{l:List ae}(z:∀r∈l,Full r)(hk:∀r∈l,RK 1400000 r)(D:l.length<=4398046511104):af C 93 [.pv (aj l)] (.p (aj (told (aB l)))) []:=by
 obtain⟨I,_,J⟩:=Reg.aR z;have hh:=Reg.BX (K:=1400000) z hk;exact rV l D (by omega) (Reg.fj I (J _ hk))
end M
namespace Reg
end Reg
namespace M
open Go.AM Go.RowKit Go.Lib
open Reg (ae Full fT bA)
def jZ(r:ae):Prop:=(-4611686018427387000<=r.x0/\r.x0<=4611686018427387000)/\(-4611686018427387000<=r.y0/\r.y0<=4611686018427387000)/\(-4611686018427387000<=r.x1/\r.x1<=4611686018427387000)/\(-4611686018427387000<=r.y1/\r.y1<=4611686018427387000)
end M
namespace Reg
end Reg
namespace M
open Reg (ae an bE cv Full told aB ahD bN uo nM a_ coreS at' dE ff aeB fT)
theorem NP{q:ae}(D:Full q){n:Int}(z:0<=n):aB [ff q n]=a_ (aB [q]) n n n n:=by
 obtain⟨U,I⟩:=Reg.gz D;obtain⟨V,W⟩:=Reg.gz (Reg.l6 D z);obtain⟨Y,Z,_⟩:=Reg.bW U z z z z;refine Reg.iK _ _ V Y fun x y=>?_;rw[W,abb,Z];obtain⟨q1,q2⟩:=D;constructor
 ·intro h;obtain⟨J,L,N,O⟩:=Reg.aQ.1 h;simp only[ff]at J L N O;refine⟨max q.x0 (min x (q.x1-1)),max q.y0 (min y (q.y1-1)),?_,by omega,by omega,by omega,by omega⟩;rw[I];exact Reg.aQ.2 ⟨by omega,by omega,by omega,by omega⟩
 rintro⟨a,b,R,h2,h3,h4,h5⟩;rw[I]at R;obtain⟨J,L,N,O⟩:=Reg.aQ.1 R;refine Reg.aQ.2 ?_;simp only[ff];exact⟨by omega,by omega,by omega,by omega⟩
open Go.AM Go.RowKit Go.Lib
open Reg (RK dy dp dD dJ en dN dO)
theorem vS(q:ae)(n:Int)(z:jZ q)(h0:0<=n)(h1:n<=1000000):af C 94 [.pv (.ag (rc q)),.pv (i64 n)] (.p (.ag (rc (ff q n)))) []:=by
 unfold jZ at z;refine fW hC Tryz.func94 rfl (by kernel_rfl) fun _=>?_;refine⟨wO (by omega),wO (by omega),wO (by omega),wO (by omega),?_,trivial⟩;rfl
theorem sW{q:ae}(h:RK 2000000 q)(f:Full q):jZ q:=by
 obtain⟨a,b⟩:=f;unfold RK at h;unfold jZ;omega
theorem HQ(s:List an)(D:bE s)(ks:cv 1200000 s)(n:Int)(I:0<=n)(h1:n<=100000):af C 135 [.pv (aj (told s)),.pv (i64 n)] (.p (aj (told (a_ s n n n n)))) []:=by
 have lm:=ai (told s) rc;have R:=Reg.fj D (ks.up (by omega));have J:=Reg.bP D;have hk:=Reg.fR D ks;have U:=vR (l:=(told s).map fun q=>ff q n) (fun q z=>by
  obtain⟨p,hp,rfl⟩:=adS.1 z;exact Reg.l6 (J p hp) I) (fun q z=>by
  obtain⟨p,hp,rfl⟩:=adS.1 z;have:=hk p hp;unfold RK at this ⊢;simp only[ff];omega) (by rw[aej];exact R)
 have e:a_ s n n n n=aB ((told s).map fun q=>ff q n):=rfl;rw[e];refine fW hC Tryz.func135 rfl (by kernel_rfl) fun _=>?_;refine aJ (fun i:Nat=>i<=(told s).length) (fun i=>[(0,.p (aj (told s))),(1,.p (i64 n)),(5,.ow 5),(6,.p (i64 i))]) (fun i=>[(5,.row 87 ((((told s).take i).map fun q=>ff q n).map rc))]) (fun i=>(told s).length-i) 0 _ (au.dk hC _ 5 87 _ (by decide) rfl rfl (by decide)) (aaj _) ⟨Z,Z,Z,Z,Y⟩ ⟨Z,Y⟩ fun i hi t h=>?_;have L:=ai (((told s).take i).map fun q=>ff q n) rc;have ZG:(((told s).take i).map fun q=>ff q n).length<=i:=by rw[aej,aat];omega
 apply iW<;>intro g
 ·rw[lm]at g;obtain⟨q,z⟩:=ak (l:=told s) (i:=i) (by omega);have N:=aad z;exact⟨(rc q),(idx rfl z),_,_,(vS q n (sW (by have:=hk q N;unfold RK at this ⊢;omega) (J q N)) I (by omega)),⟨fun r O=>by simp at O;subst O;rfl,by simp only[L,aaB,acs,aaM,aan];omega,by simp only[L,aaB,acs,aaM,aan];omega⟩,wO (by omega),(i+1),_,au.refl _ _,by omega,by omega,⟨Z,Z,Z,Z,Y⟩,⟨by rw[aZ z,abE,abE];rfl,trivial⟩⟩
 rw[lm]at g;have e2:(told s).take i=told s:=adW (by omega);rw[e2]at *;refine⟨_,_,U,?_,trivial⟩;rfl
theorem Dv(r:List ae)(I:r≠[])(hN:r.length<=4398046511104):af C 95 [.pv (aj r)] (.p (.ag (rc (dy r)))) []:=by
 have lm:=ai r rc;obtain⟨x,D⟩:=ak (l:=r) (i:=0) (by cases r with | nil=>exact absurd rfl I | cons _ _=>simp);have J:dD r=x:=by rw[dD,aav,D];rfl
 have e:dy r=r.foldl dp x:=by rw[dy,J]
 rw[e];refine uX ⟨[],[],[],[],[(5,[true,true,true,true,true,true,true,true,true,true,true,true,false,true,false,true,true,true,true,true,false,true,false,true,true,true,true,true,false,true,false,true,true,false,true,false,true,false,true,true])],[]⟩ hC Tryz.func95 rfl (by kernel_rfl) fun _=>?_;refine⟨(rc x),(idx (i:=0) rfl D),?_⟩;refine aJ (fun y:Nat×ae=>(r.drop y.1).foldl dp y.2=r.foldl dp x) (fun y=>[(0,.p (aj r)),(2,.bx 2 0),(3,.bx 3 0),(4,.p (i64 y.1))]) (fun y=>[(2,.box [.p (i64 0),.p (i64 0),.p (i64 0),.p (i64 0)]),(3,.box ((rc y.2).map .p))]) (fun y=>r.length-y.1) (0,x) _ (au.refl _ _) rfl ⟨Z,Z,Z,Z,Y⟩ ⟨Z,Z,Y⟩ fun ⟨i,o⟩ hi t h=>?_;simp only at hi;apply iW<;>intro g<;>try simp only[zB]at g
 ·obtain⟨q,z⟩:=ak (l:=r) (i:=i) (by omega);rw[drop_at z,aaq]at hi;exact⟨(rc q),(idx rfl z),(rc q),(idx rfl z),(rc q),(idx rfl z),(rc q),(idx rfl z),wO (by omega),(i+1,dp o q),_,au.refl _ _,hi,by simp only;omega,⟨Z,Z,Z,Z,Y⟩,⟨Z,Z,Y⟩⟩
 rw[aaz (by omega)]at hi;have hi:o=r.foldl dp x:=hi;refine⟨?_,trivial⟩;rw[<-hi];rfl
end M
namespace Reg
def mS(l:List Int)(n:Int):Bool:=l.any fun x=>decide (x=n)
theorem oA{l:List Int}{n:Int}:mS l n=true↔n∈l:=by simp[mS]
def fZ(l:List Int)(n:Int):Nat->Nat
 | 0=>0
 | k+1=>if n<l.getD k 0 then fZ l n k else k+1
def oB(l:List Int)(n:Int):List Int:=if 0<fZ l n l.length/\l.getD (fZ l n l.length-1) 0=n then l else (l.take (fZ l n l.length)++[n])++l.drop (fZ l n l.length)
theorem uL(l:List Int)(n:Int):∀k,k<=l.length->fZ l n k<=k/\(∀i,fZ l n k<=i->i<k->n<l.getD i 0)/\(0<fZ l n k->l.getD (fZ l n k-1) 0<=n)
 | 0,_=>⟨aam _,fun i _ h=>by omega,fun h=>by simp[fZ]at h⟩
 | k+1,hk=>by
  rw[fZ];by_cases c:n<l.getD k 0
  ·rw[aap c];obtain⟨h1,D,I⟩:=uL l n k (by omega);refine⟨by omega,fun i z J=>?_,I⟩;by_cases e:i=k
   ·rw[e];exact c
   exact D i z (by omega)
  rw[aaa c];exact⟨aam _,fun i z J=>by omega,fun _=>by simpa using c⟩
theorem jL{l:List Int}(h:bF l){i j:Nat}(hi:i<j)(z:j<l.length):l.getD i 0<l.getD j 0:=by
 have:=abk.1 h i j (by omega) z hi;rw[aav,aav,acg (by omega),acg z];exact this
theorem zU{l:List Int}{i:Nat}(h:i<l.length):l[i]=l.getD i 0:=by rw[aav,acg h];rfl
theorem sX{l:List Int}(h:bF l)(n:Int):bF (oB l n)/\∀x,x∈oB l n↔x∈l\/x=n:=by
 obtain⟨J,D,I⟩:=uL l n l.length (aam _);rw[oB];generalize fZ l n l.length=k at J D I ⊢;by_cases c:0<k/\l.getD (k-1) 0=n
 ·rw[aap c];refine⟨h,fun x=>⟨.inl,fun g=>g.elim id fun e=>?_⟩⟩;rw[e,<-c.2,<-zU (by omega)];exact adn _
 rw[aaa c];have lo:∀a∈l.take k,a<n:=fun a z=>by
  obtain⟨i,hi,rfl⟩:=aeh.1 z;rw[aat]at hi;rw[List.getElem_take,zU (by omega)];have h5:=I (by omega);have h6:¬l.getD (k-1) 0=n:=fun e=>c ⟨by omega,e⟩;by_cases e:i=k-1
  ·rw[e];omega
  have:=jL h (i:=i) (j:=k-1) (by omega) (by omega);omega
 have hi:∀b∈l.drop k,n<b:=fun b hb=>by
  obtain⟨i,hi,rfl⟩:=aeh.1 hb;rw[aaN]at hi;rw[adi,zU (by omega)];exact D _ (by omega) (by omega)
 refine⟨?_,fun x=>?_⟩
 ·rw[bF,abx,ade];refine⟨ac2 (List.take_sublist _ _) h,?_,fun a z b hb=>?_⟩
  ·rw[aee,abw];exact⟨hi,ac2 (List.drop_sublist _ _) h⟩
  have:=lo a z;rcases abi.1 hb with g | g
  ·rw[ab_.1 g];exact this
  have:=hi b g;omega
 rw[abi,abi,ab_];have:x∈l↔x∈l.take k\/x∈l.drop k:=by rw[<-abi,aaU]
 rw[this];constructor
 ·rintro ((g | g) | g)
  ·exact .inl (.inl g)
  ·exact .inr g
  exact .inl (.inr g)
 rintro ((g | g) | g)
 ·exact .inl (.inl g)
 ·exact .inr g
 exact .inl (.inr g)
structure sY where
 seen:List Bool
 pieces:List Int
 bores:List Int
 used:List Bool
 todo:List Int
def pI(s:sY)(p:Int):sY:=if s.seen.getD p.toNat true=true then s else ⟨s.seen.set p.toNat true,oB s.pieces p,s.bores,s.used,s.todo++[p]⟩
def nO(T:List (List Int))(x:Int)(s:sY)(j:Nat):sY:=if s.used.getD j true=true\/mS (T.getD j []) x=false then s else (T.getD j []).foldl pI ⟨s.seen,s.pieces,oB s.bores j,s.used.set j true,s.todo⟩
def p_(T:List (List Int)):Nat->Nat->sY->sY
 | 0,_,s=>s
 | f+1,i,s=>if i<s.todo.length then p_ T f (i+1) ((List.range T.length).foldl (nO T (s.todo.getD i 0)) s) else s
def eH(T:List (List Int))(n i:Nat)(seen:List Bool):sY:=p_ T n 0 ⟨seen.set i true,[(i:Int)],[],List.replicate T.length false,[(i:Int)]⟩
structure jc(T:List (List Int))(n:Nat)(D0:List Bool)(s:sY):Prop where
 len:s.seen.length=n
 ulen:s.used.length=T.length
 nod:s.todo.Nodup
 mem:∀p∈s.todo,(0<=p/\p<n)/\D0.getD p.toNat true=false
 done:∀p:Int,0<=p->p<n->(s.seen.getD p.toNat true=true↔D0.getD p.toNat true=true\/p∈s.todo)
 pr:bF s.pieces
 pm:∀p,p∈s.pieces↔p∈s.todo
 br:bF s.bores
 bm:∀x,x∈s.bores↔∃j:Nat,x=j/\j<T.length/\s.used.getD j true=true
structure iZ(s t:sY):Prop where
 todo:∃v,t.todo=s.todo++v
 used:∀j,s.used.getD j true=true->t.used.getD j true=true
theorem iZ.refl(s:sY):iZ s s:=⟨⟨[],by simp⟩,fun _ h=>h⟩
variable {s:sY}
theorem iZ.trans{t u:sY}(h:iZ s t)(k:iZ t u):iZ s u:=by
 obtain⟨v,z⟩:=h.todo;obtain⟨w,D⟩:=k.todo;exact⟨⟨v++w,by rw[D,z,abx]⟩,fun j I=>k.used j (h.used j I)⟩
theorem iZ.mem{t:sY}(h:iZ s t){p:Int}(hp:p∈s.todo):p∈t.todo:=by
 obtain⟨v,z⟩:=h.todo;rw[z];exact abY _ hp
theorem Ji{T:List (List Int)}{n:Nat}{D0:List Bool}(h:jc T n D0 s){p:Int}(z:0<=p)(D:p<n):
  jc T n D0 (pI s p)/\iZ s (pI s p)/\(∀x,x∈(pI s p).todo↔x∈s.todo\/(x=p/\D0.getD p.toNat true=false))/\(pI s p).used=s.used:=by
 rw[pI];by_cases c:s.seen.getD p.toNat true=true
 ·rw[aap c];refine⟨h,iZ.refl s,fun x=>⟨.inl,fun g=>g.elim id fun ⟨e,g⟩=>?_⟩,rfl⟩;rcases (h.done p z D).1 c with k | k
  ·rw[g]at k;cases k
  rw[e];exact k
 rw[aaa c];have I:¬(D0.getD p.toNat true=true\/p∈s.todo):=fun g=>c ((h.done p z D).2 g);have J:D0.getD p.toNat true=false:=by
  cases e:D0.getD p.toNat true with
  | false=>rfl
  | true=>exact absurd (.inl e) I
 obtain⟨L,N⟩:=sX h.pr p;refine⟨⟨by show (s.seen.set _ true).length=n;rw[aaM,h.len],h.ulen,?_,fun x O=>?_,fun x x0 R=>?_,L,fun x=>?_,h.br,h.bm⟩,⟨⟨[p],rfl⟩,fun _ g=>g⟩,fun x=>?_,rfl⟩
 ·show (s.todo++[p]).Nodup;rw[abV];refine⟨h.nod,by simp,fun a U b hb=>?_⟩;rw[ab_.1 hb];exact fun e=>I (.inr (e▸U))
 ·rcases abi.1 O with g | g
  ·exact h.mem x g
  rw[ab_.1 g];exact⟨⟨z,D⟩,J⟩
 ·show (s.seen.set p.toNat true).getD x.toNat true=true↔_\/x∈s.todo++[p];rw[jx (by rw[h.len];omega),abi,ab_];by_cases e:x.toNat=p.toNat
  ·rw[aap e];exact⟨fun _=>.inr (.inr (by omega)),fun _=>rfl⟩
  rw[aaa e,h.done x x0 R];constructor
  ·rintro (g | g)
   ·exact .inl g
   exact .inr (.inl g)
  rintro (g | g | g)
  ·exact .inl g
  ·exact .inr g
  exact absurd (by rw[g]) e
 ·show x∈oB s.pieces p↔x∈s.todo++[p];rw[N,h.pm,abi,ab_]
 show x∈s.todo++[p]↔_;rw[abi,ab_];exact⟨fun g=>g.elim .inl fun e=>.inr ⟨e,J⟩,fun g=>g.elim .inl fun e=>.inr e.1⟩
theorem zV{T:List (List Int)}{n:Nat}{D0:List Bool}:∀(l:List Int) (s:sY),jc T n D0 s->(∀p∈l,0<=p/\p<n)->
  jc T n D0 (l.foldl pI s)/\iZ s (l.foldl pI s)/\(∀x,x∈(l.foldl pI s).todo↔x∈s.todo\/(x∈l/\D0.getD x.toNat true=false))/\(l.foldl pI s).used=s.used
 | [],s,h,_=>⟨h,iZ.refl s,fun x=>by simp,rfl⟩
 | p::l,s,h,hl=>by
  obtain⟨D,pn⟩:=hl p adU;obtain⟨I,J,L,N⟩:=Ji h D pn;obtain⟨O,R,U,V⟩:=zV l _ I fun x W=>hl x (aaw _ W);refine⟨O,J.trans R,fun x=>?_,V.trans N⟩;show x∈(l.foldl pI (pI s p)).todo↔_;rw[U,L,adq];constructor
  ·rintro ((g | ⟨g,z⟩) | ⟨g,z⟩)
   ·exact .inl g
   ·exact .inr ⟨.inl g,by rw[g];exact z⟩
   exact .inr ⟨.inr g,z⟩
  rintro (g | ⟨g | g,z⟩)
  ·exact .inl (.inl g)
  ·exact .inl (.inr ⟨g,by rw[<-g];exact z⟩)
  exact .inr ⟨g,z⟩
end Reg
end Go.Proofs.YtfloceomobknoaaGreatDoor
