/- Part 13 of the proof of RulesNetsMatchSpec. -/
import Derived.Test.YtliffnpbaeijgaaGreatDoorN12
set_option linter.unusedVariables false
set_option linter.unusedSimpArgs false
set_option maxRecDepth 100000
set_option maxHeartbeats 8000000
namespace Go.Proofs.YtliffnpbaeijgaaGreatDoor
namespace M
open Go.AM Go.RowKit Go.Lib
open Reg (aB dq oW yr Piece dW aX)
def HB(t:List bG)(x:DP)(gs:List dW):List ByteArray:=gs.map fun g=>HQ (c8 t x g.pins)
def adj(t:List bG)(x:DP)(a:yr):List ByteArray×Int:=if aaE t x a=0 then (HB t x (aX a).placed.groups,0) else ([],aaE t x a)
def ab1(t:List bG)(x:DP)(gs:List dW)(i:Nat):List ByteArray:=HB t x (gs.take i)++List.replicate (gs.length-i) bC
def sc1(l:List ByteArray):List (List PV):=l.map fun s=>[str s]
theorem aiD(l:List ByteArray)(i:Nat)(v:ByteArray):(sc1 l).set i [str v]=sc1 (l.set i v):=by rw[sc1,sc1,w_]
theorem ah4(t:List bG)(x:DP)(gs:List dW){i:Nat}(h:i<=gs.length):(ab1 t x gs i).length=gs.length:=by
 rw[ab1,HB,bJ,E5,cE,bX];omega
theorem ah5(t:List bG)(x:DP){gs:List dW}{i:Nat}{g:dW}(h:gs[i]?=some g):(ab1 t x gs i).set i (HQ (c8 t x g.pins))=ab1 t x gs (i+1):=by
 have hi:=(az.1 h).1;have e:gs.length-i=(gs.length-(i+1))+1:=by omega
 have l:(HB t x (gs.take i)).length=i:=by rw[HB,E5,cE];omega
 rw[ab1,ab1,e,List.replicate_succ,bq h];have:(HB t x (gs.take i)++bC::List.replicate (gs.length-(i+1)) bC).set i (HQ (c8 t x g.pins))=HB t x (gs.take i)++HQ (c8 t x g.pins)::List.replicate (gs.length-(i+1)) bC:=by
  rw[List.set_append_right _ _ (by omega),l,jL,List.set_cons_zero]
 rw[this,HB,HB,E8,d_];rfl
theorem ah6(t:List bG)(x:DP){gs:List dW}{i:Nat}{g:dW}(h:gs[i]?=some g)(u:HQ (c8 t x g.pins)=bC):ab1 t x gs i=ab1 t x gs (i+1):=by
 have hi:=(az.1 h).1;have e:gs.length-i=(gs.length-(i+1))+1:=by omega
 rw[ab1,ab1,e,List.replicate_succ,bq h,HB,HB,E8,d_,eH,u];rfl
theorem afq(t:List bG)(x:DP)(a:yr)(hto:Gq t)(R:Gy x)(ha:M6 a):ai C 4 [.pv (.sl (t.map vU)),.pv (.ag (S9 x)),.pv (.ag (uR a))] (.tu [strs (adj t x a).1,i64 (adj t x a).2]) []:=by
 have U:=adW t x a hto R ha;by_cases b:aaE t x a=0
 case neg=>
  rw[aa b]at U;rw[adj,aa b];refine FP ⟨[25],[],[],[],[],[]⟩ hC Tryz.func4 rfl (by kernel_rfl) fun _=>?_;refine⟨_,_,U,iW ?_ ?_⟩<;>intro g
  ·refine⟨?_,trivial⟩;rfl
  exact absurd (by simpa using g) b
 rw[ae b,b]at U;rw[adj,ae b];obtain⟨h1,h2⟩:=adi b;have gd:=abV h2;obtain⟨few,W⟩:=acp gd;obtain⟨⟨ZP,Hf⟩,hn1,hn2⟩:=R;have hN:x.nets.length<=1048576:=hn1;have hP:∀n∈x.nets,n.pins.length<=1048576:=fun n hn=>(hn2 n hn).2.1;have t0:eA t=0:=(dp h1).1;have ht:=Cc t0;have hp:=Cd (dp (dp h1).2).1;have ahP:=aee x hN hP;have ah8:=aeH t x ht hp hN hP;obtain⟨L,hL⟩:∃L,L=tx t x x.parts:=⟨_,rfl⟩;have Jj:L.length<=200000:=by
  have:=acg ht x x.parts;have:=hp.len;rw[hL];omega
 rw[<-hL]at ah8;have lL:=an L Gm;obtain⟨gs,vt⟩:∃gs,gs=(aX a).placed.groups:=⟨_,rfl⟩;have J:SC a=uR a++[.sl ((aX a).drilled.map fun s=>[a_ s]),.sl ((aX a).pieces.map mJ),.sl ((aX a).fP.map fun l=>[ints l]),.sl (gs.map DZ),ints (aX a).ofPiece,ints (aX a).ofBore,ints (aX a).placed.ofLand,.sl ((aX a).placed.atLand.map jx)]:=by rw[vt];rfl
 rw[J]at U;rw[<-vt]at few W ⊢;have lg:=an gs DZ;have emp:(List.replicate gs.length [str bC])=sc1 (ab1 t x gs 0):=by
  rw[ab1,uz,HB,xB,ur,Nat.sub_zero,sc1,Ba]
 refine FP ⟨[25],[],[],[],[],[]⟩ hC Tryz.func4 rfl (by kernel_rfl) fun _=>?_;refine⟨_,_,U,_,_,ahP,_,_,ah8,?_⟩;refine aP (fun i:Nat=>i<=L.length) (fun i=>[(4,.bx 4 0),(8,.p (.ip (SC a))),(10,.p (.mp (.st [0,0]) (Kv x.nets x.nets.length))),(11,.ow 35),(38,.p (.sl (L.map Gm))),(39,.p (i64 L.length)),(40,.p (i64 i))]) (fun i=>[(4,.box ((S9 x).map .p)),(35,.map (.st [0,0]) (mP [] (L.take i)))]) (fun i=>L.length-i) 0 _ (aA.refl _ _) (ak _) ⟨rfl,by rw[J];rfl,rfl,rfl,rfl,ar (fun n:Nat=>AV.p (i64 n)) lL,Z,Y⟩ ⟨Z,Z,Y⟩ fun i hi s h=>?_;apply iW<;>intro c1
 ·obtain⟨p,qH⟩:=ax (l:=L) (i:=i) (by omega);refine⟨(Gm p),(idx rfl qH),wO (by omega),(i+1),_,aA.refl _ _,by omega,by omega,⟨Z,Z,Z,Z,Z,Z,Z,Y⟩,⟨rfl,?_,trivial⟩⟩;rw[bq qH];exact ar (AB.map _) (zZ p _ _).symm
 have ei:i=L.length:=by omega
 subst ei;rw[nu,J];refine⟨⟨by omega,by omega,by dsimp only;omega,by omega⟩,?_⟩;refine aP (fun i:Nat=>i<=gs.length) (fun i=>[(4,.bx 4 0),(10,.p (.mp (.st [0,0]) (Kv x.nets x.nets.length))),(11,.ow 35),(14,.ow 14),(56,.p (.sl (gs.map DZ))),(57,.p (i64 gs.length)),(58,.p (i64 i))]) (fun i=>[(4,.box ((S9 x).map .p)),(35,.map (.st [0,0]) (mP [] L)),(14,.row 9 (sc1 (ab1 t x gs i)))]) (fun i=>gs.length-i) 0 _ (aA.refl _ _) (ak _) ⟨rfl,rfl,rfl,rfl,rfl,ar (fun n:Nat=>AV.p (i64 n)) lg,Z,Y⟩ ⟨rfl,rfl,ar (AB.row _) (by rw[<-emp];exact ar (fun n=>List.replicate n [str bC]) lg),trivial⟩ fun i hi s h=>?_;apply iW<;>intro c2
 ·obtain⟨g,hg⟩:=ax (l:=gs) (i:=i) (by omega);have fp:=W g (aj hg);have lpp:=an g.pins pc;obtain⟨O,hO⟩:∃O,O=ab1 t x gs i:=⟨_,rfl⟩;have lO:O.length=gs.length:=by rw[hO];exact ah4 t x gs (by omega)
  have lsc:∀l:List ByteArray,(sc1 l).length=l.length:=fun l=>E5 ..;have z:=ah5 t x hg;have N:=ah6 t x hg;rw[<-hO]at z N ⊢;refine⟨(DZ g),(idx rfl hg),?_⟩;refine aP (fun j:Nat=>j<=g.pins.length) (fun j=>[(4,.bx 4 0),(10,.p (.mp (.st [0,0]) (Kv x.nets x.nets.length))),(11,.ow 35),(14,.ow 14),(15,.p (i64 i)),(17,.ow 63),(56,.p (.sl (gs.map DZ))),(57,.p (i64 gs.length)),(58,.p (i64 i)),(65,.p (.sl (g.pins.map pc))),(66,.p (i64 g.pins.length)),(67,.p (i64 j))]) (fun j=>[(4,.box ((S9 x).map .p)),(35,.map (.st [0,0]) (mP [] L)),(14,.row 9 (sc1 O)),(63,.map .str (mpS (ksS (c8 t x (g.pins.take j)))))]) (fun j=>g.pins.length-j) 0 _ (aA.refl _ _) (ak _) ⟨rfl,rfl,rfl,rfl,rfl,rfl,rfl,rfl,rfl,rfl,ar (fun n:Nat=>AV.p (i64 n)) lpp,Z,Y⟩ ⟨Z,Z,Z,Z,Y⟩ fun j hj s h=>?_;apply iW<;>intro c3
  ·obtain⟨p,D⟩:=ax (l:=g.pins) (i:=j) (by omega);have vv:=(aed x.nets (ab0 p) x.nets.length).2;have Vd:=IU (ab0 p) L (es:=[]) (fun e he=>by cases he);refine⟨(pc p),(idx rfl D),?_⟩;cases hI:aaA x.nets (ab0 p) x.nets.length with
   | some k=>
    rw[hI]at vv;obtain⟨n,YM,_⟩:=aaT hI;have I:nameAt t x (ab0 p)=some n.name:=by simp only[nameAt,hI,YM]
    have hk:=aex D I;refine⟨(some (i64 k)),vv,(Uh n),(idx rfl YM),wO (by omega),(j+1),_,aA.refl _ _,by omega,by omega,⟨Z,Z,Z,Z,Z,Z,Z,Z,Z,Z,Z,Z,Y⟩,⟨rfl,rfl,rfl,?_,trivial⟩⟩;show AB.map _ _=AB.map _ (mpS (ksS (c8 t x (g.pins.take (j+1)))));rw[hk];exact ar (AB.map _) (af1 _ _)
   | none=>
    rw[hI]at vv;have I:nameAt t x (ab0 p)=if (L.any fun r=>decide (r=ab0 p))=true then some bC else none:=by simp only[nameAt,hI,hL]
    refine⟨none,vv,?_⟩;cases hE:L.any fun r=>decide (r=ab0 p) with
    | true=>
     rw[hE,ae (rfl:true=true)]at Vd I;have hk:=aex D I;refine⟨(some (bool true)),Vd,wO (by omega),(j+1),_,aA.refl _ _,by omega,by omega,⟨Z,Z,Z,Z,Z,Z,Z,Z,Z,Z,Z,Z,Y⟩,⟨rfl,rfl,rfl,?_,trivial⟩⟩;show AB.map _ _=AB.map _ (mpS (ksS (c8 t x (g.pins.take (j+1)))));rw[hk];exact ar (AB.map _) (af1 _ _)
    | false=>
     rw[hE,aa (by decide)]at Vd I;have hk:=agC D I;refine⟨none,Vd,wO (by omega),(j+1),_,aA.refl _ _,by omega,by omega,⟨Z,Z,Z,Z,Z,Z,Z,Z,Z,Z,Z,Z,Y⟩,⟨rfl,rfl,rfl,?_,trivial⟩⟩;show AB.map _ _=AB.map _ (mpS (ksS (c8 t x (g.pins.take (j+1)))));rw[hk]
  have ej:j=g.pins.length:=by omega
  have etk:g.pins.take j=g.pins:=by rw[ej,nu]
  rw[etk];have v1:=aiB (vs:=c8 t x g.pins);have v0:=aiC (vs:=c8 t x g.pins);obtain⟨V,hV⟩:∃V,V=ksS (c8 t x g.pins):=⟨_,rfl⟩;obtain⟨v,I⟩:∃v,v=HQ (c8 t x g.pins):=⟨_,rfl⟩;rw[<-hV]at v1 v0 ⊢;rw[<-I]at v1 v0 z N;have lV:(V.map sE).length=V.length:=E5 ..;refine abA (aA.ajr (by exact hC) _ 17 63 (V.map sE) (by exact rfl) (by exact rfl) (by exact rfl)) ?_;refine aP (fun y:Nat×Option (Value×Value)×List ByteArray=>y.1<=V.length/\(V.length=1->(y.1=1/\y.2.2=O)\/(y.1=0/\y.2.2=O.set i v))/\(V.length≠1->y.2.2=O)) (fun y=>[(4,.bx 4 0),(10,.p (.mp (.st [0,0]) (Kv x.nets x.nets.length))),(11,.ow 35),(14,.ow 14),(15,.p (i64 i)),(17,.p (.mp .str (V.map sE))),(56,.p (.sl (gs.map DZ))),(57,.p (i64 gs.length)),(58,.p (i64 i)),(91,.bx 91 0)]) (fun y=>[(4,.box ((S9 x).map .p)),(35,.map (.st [0,0]) (mP [] L)),(14,.row 9 (sc1 y.2.2)),(91,.iter .str (V.map sE) y.1 y.2.1)]) (fun y=>y.1) ((V.map sE).length,none,O) _ (aA.refl _ _) ⟨b_ lV,fun c=>.inl ⟨lV.trans c,rfl⟩,fun _=>rfl⟩ ⟨Z,Z,Z,Z,Z,Z,Z,Z,Z,Z,Y⟩ ⟨Z,Z,Z,Z,Y⟩ fun ⟨k,cur,o⟩ hy s h=>?_;obtain⟨y1,y2,y3⟩:=hy;dsimp only at y1 y2 y3;refine⟨fun k0=>?_,fun m q k' hm AI=>?_⟩
  ·refine⟨wO (by omega),(i+1),_,aA.refl _ _,by omega,by omega,⟨Z,Z,Z,Z,Z,Z,Z,Y⟩,⟨rfl,rfl,?_,trivial⟩⟩;have e:o=ab1 t x gs (i+1):=by
    by_cases c:V.length=1
    ·rcases y2 c with⟨e1,_⟩ | ⟨_,e2⟩
     ·omega
     rw[e2,z]
    rw[y3 c,N (v0 c)]
   exact ar (fun l=>AB.row _ (sc1 l)) e
  obtain⟨u,hu,rfl⟩:∃u,V[m]?=some u/\sE u=q:=by rw[aD]at hm;exact qI.1 hm
  have hmV:=(az.1 hu).1;apply iW<;>intro c4
  ·have c:V.length=1:=by omega
   have eu:u=v:=by
    rw[v1 c]at hu;have:m=0:=by omega
    subst this;exact (Option.some.inj hu).symm
   obtain⟨e0,eo⟩:k=1/\o=O:=by
    rcases y2 c with h | ⟨h,_⟩
    ·exact h
    omega
   obtain⟨w,hw⟩:=ax (l:=o) (i:=i) (by rw[eo,lO];omega);refine⟨⟨by omega,by dsimp only;rw[lsc,eo,lO];omega⟩,[str w],(idx rfl hw).2,(k',some (sE u),o.set i u),_,aA.refl _ _,⟨by dsimp only;omega,fun _=>.inr ⟨by dsimp only;omega,by rw[eo,eu]⟩,fun n=>absurd c n⟩,by dsimp only;omega,⟨Z,Z,Z,Z,Z,Z,Z,Z,Z,Z,Y⟩,⟨rfl,rfl,?_,Z,Y⟩⟩;exact ar (AB.row _) (aiD _ _ _)
  have c:¬V.length=1:=by omega
  exact⟨(k',some (sE u),o),_,aA.refl _ _,⟨by dsimp only;omega,fun n=>absurd n c,fun n=>y3 n⟩,by dsimp only;omega,⟨Z,Z,Z,Z,Z,Z,Z,Z,Z,Z,Y⟩,⟨Z,Z,Z,Z,Y⟩⟩
 have ei:i=gs.length:=by omega
 subst ei;refine⟨?_,trivial⟩;rw[ab1,jL,nu,List.replicate_zero,aq];rfl
theorem ae4{t:List bG}{x:DP}(h:jf t x=0){k:Nat}{n:Net}(J:x.nets[k]?=some n):∀q∈n.pins,rF t x.parts q=true/\gN (x.nets.take k) q=false:=by
 have D:=(dp (dp h).2).2;rw[y9]at D;split at D
 ·cases D
 have z:=cP D k (ak _) (by have:=(az.1 J).1;omega);simp only[OC,J]at z;split at z
 case isFalse=>cases z
 split at z
 ·cases z
 have I:=(dp z).1;rw[fN]at I;split at I
 ·cases I
 intro q N;obtain⟨j,L⟩:=il N;have u:=cP I j (ak _) (by have:=(az.1 L).1;omega);simp only[Gr,L]at u;split at u
 case isFalse=>cases u
 rename_i c;split at u
 ·cases u
 split at u
 ·cases u
 rename_i d;exact⟨c,by simpa using d⟩
theorem aez{l:List Net}{p:HI}:∀{n:Nat},aaA l p n=none->∀(k:Nat) y,k<n->l[k]?=some y->(y.pins.any fun q=>decide (q=p))=false
 | 0,_,k,y,hk,_=>by omega
 | n+1,h,k,y,hk,hy=>by
  unfold aaA at h;by_cases e:k=n
  ·subst e;rw[hy]at h;simp only at h;split at h
   ·cases h
   rename_i c;exact cu.2 c
  refine aez (n:=n) ?_ k y (by omega) hy;split at h
  ·split at h
   ·cases h
   exact h
  exact h
def ahn(p:HI)(n:Net):Bool:=n.pins.any fun q=>decide (q=p)
theorem aho{t:List bG}{x:DP}(h:jf t x=0)(p:HI):eM (ahn p) x.nets 0=match aaA x.nets p x.nets.length with
 | some k=>(k:Int)
 | none=>-1:=by
 cases z:aaA x.nets p x.nets.length with
 | none=>
  refine cT fun y u=>?_;obtain⟨k,hk⟩:=il u;exact aez z k y (az.1 hk).1 hk
 | some k=>
  obtain⟨n,D,hp⟩:=aaT z;obtain⟨q,I,e⟩:=wy.1 hp;have e:=iY e;subst e;have J:=(ae4 h D q I).2;rw[hD D hp fun y u=>?_,fX];exact cu.2 fun c=>by
   have:gN (x.nets.take k) q=true:=wy.2 ⟨y,u,c⟩;rw[J]at this;cases this
theorem agD{α:Type}{f:α->ByteArray}{l:List α}(z:cM f l){a b:α}(D:a∈l)(hb:b∈l)(e:f a=f b):a=b:=by
 obtain⟨i,hi⟩:=il D;obtain⟨j,u⟩:=il hb;rcases iq i j with h | h | h
 ·have:=cx z hi u h;rw[e,iH]at this;cases this
 ·subst h;rw[hi]at u;exact Option.some.inj u
 have:=cx z u hi h;rw[e,iH]at this;cases this
theorem af5{α:Type}{f:α->ByteArray}{l:List α}{a:α}(u:a∈l):0<=jE f l (f a):=by
 have:=eZ (fun y=>decide (f y=f a)) l 0;rw[wy.2 ⟨a,u,nq rfl⟩]at this;exact iY this
theorem aiE{t:List bG}{l:List Part}(hp:uo t l)(q:HI):rF t l q=true↔∃p∈l,q∈aaZ p (pk t p):=by
 constructor
 ·intro h;rw[rF,aJ,fV]at h;obtain⟨I,D⟩:=h;obtain⟨k,p,e,hk,J⟩:=xp I;rw[e,FY,hk]at D;simp only at D;split at D
  ·rename_i y L;obtain⟨m,z,_,u,O⟩:=xp (iY D);refine⟨p,aj hk,aZ.2 ⟨z,?_,?_⟩⟩
   ·simp only[pk,L];exact aj u
   rw[J,O]
  cases D
 rintro⟨p,N,R⟩;obtain⟨z,u,e⟩:=aZ.1 R;subst e;have I:=af5 (f:=Part.name) N;obtain⟨k,U,e,hk,J⟩:=xp I;have V:U=p:=agD hp.ord (aj hk) N J;subst V;rw[rF,aJ,fV];refine⟨I,?_⟩;simp only;rw[e,FY,hk];simp only;unfold pk at u;split at u
 ·rename_i y L;simp only[L];exact nq (af5 (f:=eV.name) u)
 cases u
theorem ahp{t:List bG}{x:DP}(hp:uo t x.parts)(q:HI):((tx t x x.parts).any fun r=>decide (r=q))=(rF t x.parts q&&aaQ x q):=by
 rw[Ax,aJ,aiE hp,wy];constructor
 ·rintro⟨r,I,e⟩;have e:=iY e;subst e;obtain⟨p,u,J⟩:=cz.1 I;obtain⟨z,D⟩:=l5.1 J;exact⟨⟨p,u,z⟩,D⟩
 rintro⟨⟨p,u,z⟩,D⟩;exact⟨q,cz.2 ⟨p,u,l5.2 ⟨z,D⟩⟩,nq rfl⟩
theorem agE(x:DP)(p:HI)(hN:x.nets.length<=1048576)(D:∀n∈x.nets,n.pins.length<=1048576):ai C 69 [.pv (.ag (S9 x)),.pv (.ag (Gm p))] (.p (i64 (eM (ahn p) x.nets 0))) []:=by
 refine fW hC Tryz.func69 rfl (by kernel_rfl) fun _=>?_;have I:=an x.nets Uh;refine aP (fun i:Nat=>i<=x.nets.length/\∀y∈x.nets.take i,ahn p y=false) (fun i=>[(3,.bx 3 0),(8,.p (.sl (x.nets.map Uh))),(9,.p (i64 x.nets.length)),(10,.p (i64 i))]) (fun _=>[(3,.box ((Gm p).map .p))]) (fun i=>x.nets.length-i) 0 _ (aA.refl _ _) ⟨ak _,by simp⟩ ⟨rfl,rfl,ar (fun n:Nat=>AV.p (i64 n)) I,Z,Y⟩ ⟨Z,Y⟩ fun i hi s h=>?_;apply iW<;>intro h1
 ·obtain⟨n,z⟩:=ax (l:=x.nets) (i:=i) (by omega);have hn:=D n (aj z);refine⟨(Uh n),(idx rfl z),_,_,(acx n.pins p (by omega)),iW ?_ ?_⟩<;>intro u
  ·refine⟨?_,trivial⟩;rw[hD (p:=ahn p) z u hi.2,fX]
  exact⟨wO (by omega),(i+1),_,aA.refl _ _,⟨by omega,iu (p:=ahn p) z (by simpa [ahn] using u) hi.2⟩,by omega,⟨Z,Z,Z,Z,Y⟩,⟨Z,Y⟩⟩
 refine⟨?_,trivial⟩;have u:=hi.2;rw[kG (by omega)]at u;rw[cT u];rfl
def atR(t:List bG)(x:DP)(q:HI):ByteArray×Bool:=match nameAt t x q with
 | some v=>(v,true)
 | none=>(bC,false)
theorem agF(t:List bG)(x:DP)(q:HI)(R:Gq t)(I:Gy x)(J:jf t x=0):ai C 14 [.pv (.sl (t.map vU)),.pv (.ag (S9 x)),.pv (.ag (Gm q))] (.tu [str (atR t x q).1,bool (atR t x q).2]) []:=by
 have jx:=abH t x R I;rw[J]at jx;have t0:eA t=0:=(dp J).1;have ht:=Cc t0;have hp:=Cd (dp (dp J).2).1;obtain⟨⟨ZP,Hf⟩,U,V⟩:=I;have u:=adC t x q ht hp;have L:=agE x q U fun n hn=>(V n hn).2.1;rw[aho J]at L;have N:=ahp hp q;have z:ai C 30 [.pv (.sl (t.map vU)),.pv (.ag (S9 x)),.pv (.ag (Gm q))] (.tu [str (atR t x q).1,bool (aaA x.nets q x.nets.length).isSome,i64 (if (atR t x q).2=true then 0 else 9)]) []:=by
  cases D:aaA x.nets q x.nets.length with
  | some k=>
   obtain⟨n,W,nQ⟩:=aaT D;obtain⟨r,hr,e⟩:=wy.1 nQ;have e:=iY e;subst e;have Y:=(ae4 J W r hr).1;have O:atR t x r=(n.name,true):=by simp only[atR,nameAt,D,W]
   rw[D]at L;rw[Y]at u;rw[O];refine fW hC Tryz.func30 rfl (by kernel_rfl) fun _=>?_;refine⟨_,_,jx,_,_,u,_,_,L,(Uh n),(idx rfl W),?_,trivial⟩;rfl
  | none=>
   have pd:aaQ x q=true:=by rw[aaQ,D];rfl
   rw[D]at L;rw[pd,qJ]at N;cases hb:rF t x.parts q with
   | true=>
    rw[hb]at N u;have O:atR t x q=(bC,true):=by simp only[atR,nameAt,D,N,if_true]
    rw[O];refine fW hC Tryz.func30 rfl (by kernel_rfl) fun _=>?_;refine⟨_,_,jx,_,_,u,_,_,L,?_,trivial⟩;rfl
   | false=>
    rw[hb]at N u;have O:atR t x q=(bC,false):=by simp[atR,nameAt,D,N]
    rw[O];refine fW hC Tryz.func30 rfl (by kernel_rfl) fun _=>?_;refine⟨_,_,jx,_,_,u,?_,trivial⟩;rfl
 cases Z:(atR t x q).2 with
 | true=>
  rw[Z,ae (rfl:true=true)]at z;refine fW hC Tryz.func14 rfl (by kernel_rfl) fun _=>?_;refine⟨_,_,z,?_,trivial⟩;rfl
 | false=>
  rw[Z,aa (by decide)]at z;refine fW hC Tryz.func14 rfl (by kernel_rfl) fun _=>?_;refine⟨_,_,z,?_,trivial⟩;rfl
end M
namespace Reg
variable {D0:List Bool} {s:Spr}
theorem af6{T:List (List Int)}{n:Nat}(h:L1 T n D0 s){j:Nat}(I:j<T.length):L1 T n D0 ⟨s.seen,s.pieces,aa7 s.bores j,s.used.set j true,s.todo⟩:=by
 obtain⟨J,L⟩:=ach h.br (j:Int);have u:∀i,(s.used.set j true).getD i true=true↔i=j\/s.used.getD i true=true:=fun i=>by
  rw[L2 (by rw[h.ulen];exact I)];by_cases e:i=j<;>simp[e]
 exact⟨h.len,by show (s.used.set j true).length=_;rw[aQ,h.ulen],h.nod,h.mem,h.done,h.pr,h.pm,J,fun y=>by
  show y∈aa7 s.bores j↔∃i:Nat,y=i/\i<T.length/\(s.used.set j true).getD i true=true;rw[L,h.bm];constructor
  ·rintro (⟨i,e,z,D⟩ | e)
   ·exact⟨i,e,z,(u i).2 (.inr D)⟩
   exact⟨j,e,I,(u j).2 (.inl rfl)⟩
  rintro⟨i,e,z,D⟩;rcases (u i).1 D with e2 | e2
  ·exact .inr (by rw[e,e2])
  exact .inl ⟨i,e,z,e2⟩⟩
theorem ah9{T:List (List Int)}{n:Nat}(z:∀j,∀p∈T.getD j [],0<=p/\p<n)(h:L1 T n D0 s){x:Int}{j:Nat}(u:j<T.length):L1 T n D0 (aa2 T x s j)/\K0 s (aa2 T x s j):=by
 rw[aa2];split
 ·exact⟨h,K0.refl s⟩
 have g:=af6 h u;obtain⟨D,I,_,_⟩:=aeg (T.getD j []) _ g (z j);refine⟨D,K0.trans ⟨⟨[],by simp⟩,fun i hi=>?_⟩ I⟩;show (s.used.set j true).getD i true=true;rw[L2 (by rw[h.ulen];exact u)];split
 ·rfl
 exact hi
theorem ae5{T:List (List Int)}{n:Nat}(u:∀j,∀p∈T.getD j [],0<=p/\p<n){x:Int}:∀(l:List Nat) (s:Spr),(∀j∈l,j<T.length)->L1 T n D0 s->L1 T n D0 (l.foldl (aa2 T x) s)
 | [],s,_,h=>h
 | j::l,s,hl,h=>ae5 u l _ (fun i hi=>hl i (cD _ hi)) (ah9 u h (hl j bW)).1
theorem af7{T:List (List Int)}{n:Nat}(u:∀j,∀p∈T.getD j [],0<=p/\p<n):∀(f i:Nat) (s:Spr),L1 T n D0 s->L1 T n D0 (abu T f i s)
 | 0,i,s,h=>h
 | f+1,i,s,h=>by
  rw[abu];split
  ·exact af7 u f (i+1) _ (ae5 u _ _ (fun j z=>wx.1 z) h)
  exact h
theorem ae6{T:List (List Int)}{n:Nat}{i:Nat}(hl:D0.length=n)(hi:i<n)(u:D0.getD i true=false):L1 T n D0 ⟨D0.set i true,[(i:Int)],[],List.replicate T.length false,[(i:Int)]⟩:=
 ⟨by show (D0.set i true).length=n;rw[aQ,hl],bX,by simp,fun p hp=>by
  rw[Fp.1 hp];exact⟨⟨by omega,by omega⟩,by rw[FY];exact u⟩,fun p p0 pn=>by
  show (D0.set i true).getD p.toNat true=true↔_\/p∈[(i:Int)];rw[L2 (by rw[hl];exact hi),Fp];by_cases e:p.toNat=i
  ·rw[ae e];exact⟨fun _=>.inr (by omega),fun _=>rfl⟩
  ·rw[aa e];exact⟨.inl,fun g=>g.elim id fun e2=>absurd (by omega) e⟩,E9 _ _,fun p=>by simp,List.Pairwise.nil,fun x=>by
  constructor
  ·intro h;cases h
  rintro⟨j,_,z,h⟩;rw[dc,MR,ae z]at h;cases h⟩
theorem acV{l:List Int}(h:ct l):l.Nodup:=uF (fun h=>by omega) h
theorem L1.few{T:List (List Int)}{n:Nat}(h:L1 T n D0 s):s.todo.length<=n/\s.pieces.length<=n/\s.bores.length<=T.length:=by
 have u:=h.le;refine⟨u,?_,?_⟩
 ·exact aS (Be (acV h.pr) fun p hp=>(h.pm p).1 hp) u
 have:=Be (acV h.br) (l₂:=(List.range T.length).map fun (j:Nat)=>(j:Int)) fun x z=>by
  obtain⟨j,e,D,_⟩:=(h.bm x).1 z;exact aZ.2 ⟨j,wx.2 D,e.symm⟩
 simpa using this
theorem ah_(T:List (List Int))(f i:Nat)(s:Spr)(h:¬i<s.todo.length):abu T f i s=s:=by
 cases f with
 | zero=>rfl
 | succ f=>rw[abu,aa h]
def w7(T:List (List Int))(n i:Nat):List Bool×List dW:=(List.range i).foldl (aaw T n) (List.replicate n false,[])
theorem acW(T:List (List Int))(n i:Nat):w7 T n (i+1)=aaw T n (w7 T n i) i:=by simp[w7,rG,u7]
def aiF(g:dW):Prop:=g.pins=[]/\g.pieces.length<=1000000/\g.bores.length<=1000000
theorem acd{T:List (List Int)}{n:Nat}(L:n<=100000)(z:T.length<=100000)(D:∀j,∀p∈T.getD j [],0<=p/\p<n):∀i,i<=n->(w7 T n i).1.length=n/\(w7 T n i).2.length<=i/\∀g∈(w7 T n i).2,aiF g
 | 0,_=>by simp[w7]
 | i+1,hi=>by
  obtain⟨I,h2,J⟩:=acd L z D i (by omega);rw[acW,aaw];split
  ·exact⟨I,by omega,J⟩
  rename_i c;have g:=af7 D n 0 _ (ae6 (T:=T) (i:=i) I (by omega) (by simpa using c));obtain⟨_,N,O⟩:=g.few;refine⟨g.len,by simp only[bJ,ij];omega,fun q u=>?_⟩;rcases fC.1 u with u | u
  ·exact J q u
  rw[Fp.1 u];exact⟨rfl,aS N (by omega),aS O (by omega)⟩
end Reg
namespace M
open Go.AM Go.RowKit Go.Lib
open Reg (aB aR aa7 s8 Spr L1 abl aa2 abu ly dW yr)
theorem aaU(l:List Int)(n:Int)(hN:l.length<=1000000):ai C 127 [.pv (ints l),.pv (i64 n)] (.p (bool (Reg.aaV l n))) []:=by
 refine fW hC Tryz.func127 rfl (by kernel_rfl) fun _=>?_;have D:=an l fun n=>[i64 n];refine aP (fun i:Nat=>Reg.aaV (l.drop i) n=Reg.aaV l n) (fun i=>[(0,.p (ints l)),(1,.p (i64 n)),(5,.p (i64 i))]) (fun _=>[]) (fun i=>l.length-i) 0 _ (aA.refl _ _) rfl ⟨Z,Z,Z,Y⟩ trivial fun i hi t h=>?_;apply iW<;>intro I
 ·rw[D]at I;obtain⟨x,u⟩:=ax (l:=l) (i:=i) (by omega);rw[drop_at u]at hi;refine⟨[i64 x],(idx rfl u),iW ?_ ?_⟩<;>intro z
  ·refine⟨?_,trivial⟩;rw[<-hi,Reg.aaV,uc,nq z];rfl
  refine⟨wO (by omega),(i+1),_,aA.refl _ _,?_,by omega,⟨Z,Z,Z,Y⟩,trivial⟩;rw[<-hi,Reg.aaV,Reg.aaV,uc,fJ z,ph]
 rw[jR (by omega)]at hi;refine⟨?_,trivial⟩;rw[<-hi];rfl
theorem adN(l:List Int)(n:Int)(hN:l.length<=1000000):ai C 128 [.pv (ints l),.pv (i64 n)] (.p (ints (aa7 l n))) []:=by
 refine FP ⟨[],[0],[],[],[],[]⟩ hC Tryz.func128 rfl (by kernel_rfl) fun _=>?_;have u:=an l fun n=>[i64 n];refine Ak (fun k:Nat=>k<=l.length/\s8 l n l.length=k) (fun k=>[(0,.p (ints l)),(1,.p (i64 n)),(5,.p (i64 k))]) (fun _=>[]) (fun k hk t h=>?_) ?_
 ·obtain⟨I,z⟩:=hk;have tail:¬(0<k/\l.getD (k-1) 0=n)->aa7 l n=(l.take k++[n])++l.drop k:=fun c=>by rw[aa7,z,aa c]
  apply iW<;>intro O
  ·obtain⟨y,D⟩:=ax (l:=l) (i:=k-1) (by omega);have J:l.getD (k-1) 0=y:=by rw[dc,D];rfl
   refine⟨wO (by omega),[i64 y],(idx (show (k:Int)-1=((k-1:Nat):Int) by omega) D),iW ?_ ?_⟩<;>intro L
   ·refine⟨?_,trivial⟩;rw[aa7,z,ae ⟨by omega,by rw[J];exact L⟩]
   have tail:=tail (fun c=>L (by rw[<-J];exact c.2));refine⟨⟨by decide,by omega,by rw[u];omega,e8 l⟩,⟨x8 (e8 l),by simp only[lU,cE,u];omega,by simp only[lU,cE,u];omega⟩,⟨by simp,by simp[u];omega,by simp[u];omega⟩,⟨by omega,by rw[u];omega,by omega,e8 l⟩,⟨x8 (e8 l),by simp[u];omega,by simp[u];omega⟩,?_,trivial⟩;rw[tail];simp[ints,cS,fI,i64];rw[kG (by simp)]
  have tail:=tail (fun c=>O (by omega));refine⟨⟨by decide,by omega,by rw[u];omega,e8 l⟩,⟨x8 (e8 l),by simp only[lU,cE,u];omega,by simp only[lU,cE,u];omega⟩,⟨by simp,by simp[u];omega,by simp[u];omega⟩,⟨by omega,by rw[u];omega,by omega,e8 l⟩,⟨x8 (e8 l),by simp[u];omega,by simp[u];omega⟩,?_,trivial⟩;rw[tail];simp[ints,cS,fI,i64];rw[kG (by simp)]
 refine aP (fun k:Nat=>k<=l.length/\s8 l n l.length=s8 l n k) (fun k=>[(0,.p (ints l)),(1,.p (i64 n)),(5,.p (i64 k))]) (fun _=>[]) (fun k=>k) l.length _ (aA.refl _ _) ⟨aG _,rfl⟩ ⟨rfl,rfl,ar (fun m:Nat=>AV.p (i64 m)) u,trivial⟩ trivial fun k hk t h=>?_;obtain⟨I,z⟩:=hk;apply iW<;>intro h1
 ·obtain⟨m,rfl⟩:∃m,k=m+1:=⟨k-1,by omega⟩;obtain⟨y,D⟩:=ax (l:=l) (i:=m) (by omega);have hp:s8 l n (m+1)=if n<y then s8 l n m else m+1:=by
   rw[s8,dc,D,Fs]
  refine⟨wO (by omega),[i64 y],(idx (show ((m+1:Nat):Int)-1=(m:Nat) by omega) D),iW ?_ ?_⟩<;>intro N
  ·rw[ae N]at hp;exact⟨wO (by omega),m,_,aA.refl _ _,⟨by omega,by rw[z,hp]⟩,by omega,⟨rfl,rfl,bI (by omega),trivial⟩,trivial⟩
  rw[aa N]at hp;refine⟨m+1,⟨I,by rw[z,hp]⟩,⟨Z,Z,Z,Y⟩,trivial⟩
 have e:k=0:=by omega
 subst e;refine⟨0,⟨ak _,by rw[z];rfl⟩,⟨Z,Z,Z,Y⟩,trivial⟩
def ils(l:List Int):List PV:=[ints l]
theorem ae9{l:List (List Int)}{k:Nat}{b:List Int}(h:l[k]?=some b):l.getD k []=b:=by rw[dc,h];rfl
theorem af_{l:List Bool}{p:Int}{b:Bool}(h0:0<=p)(u:l[p.toNat]?=some b):(bits l)[p.toNat]?=some [bool b]:=by
 rw[bits,aD,u];rfl
theorem ahq{l:List Int}{i:Int}{k:Nat}{v:Int}(h:i=k)(u:l[k]?=some v):(aK l)[i.toNat]?=some [i64 v]:=by
 rw[h,FY,aK,aD,u];rfl
theorem aga(T:List (List Int))(n:Nat)(hn:n<=100000)(hTn:T.length<=100000)(hTl:∀x∈T,x.length<=1000000)(hT:∀j,∀p∈T.getD j [],0<=p/\p<n)(D0:List Bool)(hl:D0.length=n)(i:Nat)(hi:i<n)(hd:D0.getD i true=false)(x0 x1 x2 x3 x4 x5 x6:PV):
  ai C 67 [.pv (.ip [x0,x1,x2,x3,x4,x5,x6,.sl (T.map ils)]),.pv (i64 i),.row 4 (bits D0)] (.p (.ag (PE ⟨(ly T n i D0).pieces,(ly T n i D0).bores,[]⟩))) [.row (bits (ly T n i D0).seen)]:=by
 have lT:=an T ils;have lD:=aa_ D0;obtain⟨d,hdi⟩:=ax (l:=D0) (i:=i) (by omega);have wh:=Reg.ae6 (T:=T) hl hi hd;obtain⟨F,hF⟩:∃F,F=ly T n i D0:=⟨_,rfl⟩;rw[<-hF];rw[ly]at hF;refine ZF ⟨[],[],[],[],[],[]⟩ hC Tryz.func67 rfl (by kernel_rfl) fun _=>⟨_,aA.refl _ _,?_⟩;refine⟨⟨by omega,by (try dsimp only);omega⟩,[bool d],(aaD rfl hdi),⟨by omega,by omega,by (try dsimp only);omega,by omega⟩,?_⟩;have hu:List.replicate (T.map ils).length [bool false]=bits (List.replicate T.length false):=by rw[bits,Ba,lT]
 refine aP (fun x:Nat×Spr=>abu T (n-x.1) x.1 x.2=F/\L1 T n D0 x.2) (fun x=>[(0,.p (.ip [x0,x1,x2,x3,x4,x5,x6,.sl (T.map ils)])),(2,.ow 100002),(6,.bx 6 0),(7,.bx 7 0),(8,.ow 8),(9,.ow 9),(10,.p (i64 x.1))]) (fun x=>[(100002,.row 4 (bits x.2.seen)),(6,.box [.nl,.nl,.nl]),(7,.box [.p (ints x.2.pieces),.p (ints x.2.bores),.p (.im (.slice none 0 0))]),(8,.row 4 (bits x.2.used)),(9,.row 3 (aK x.2.todo))]) (fun x=>n-x.1) (0,⟨D0.set i true,[(i:Int)],[],List.replicate T.length false,[(i:Int)]⟩) _ ((aA.gH (by exact hC) _ 7 1 90000 3 _ _ (by decide) (by decide) (by exact rfl) (by exact rfl) (by exact rfl) (by decide)).trans ((aA.gI (by exact hC) _ 7 1 90000 3 _ _ (by decide) (by exact rfl) (by exact rfl) (by exact rfl)).trans (aA.ZA (by exact hC) _ 7 2 _ (by exact rfl) (by exact rfl)))) ⟨hF.symm,wh⟩ ⟨Z,Z,Z,Z,Z,Z,Z,Y⟩ ⟨ar (AB.row _) (abP D0 i true),rfl,rfl,ar (AB.row _) hu,Z,Y⟩ fun ⟨at',s⟩ hx t h=>?_;obtain⟨D,N⟩:=hx;simp only at D N;have lo:=cA s.todo;obtain⟨few,_,_⟩:=N.few;apply iW<;>intro h1<;>try simp only[zB]at h1
 ·rw[lo]at h1;obtain⟨J,hxv⟩:=ax (l:=s.todo) (i:=at') (by omega);have ah1:abu T (n-at') at' s=abu T (n-(at'+1)) (at'+1) ((List.range T.length).foldl (aa2 T J) s):=by
   rw[show n-at'=(n-(at'+1))+1 by omega,abu,ae (by omega),dc,hxv];rfl
  rw[ah1]at D;obtain⟨R,hR⟩:∃R,R=(List.range T.length).foldl (aa2 T J) s:=⟨_,rfl⟩;rw[<-hR]at D;refine aP (fun y:Nat×Spr=>((List.range T.length).drop y.1).foldl (aa2 T J) y.2=R/\L1 T n D0 y.2/\y.2.todo[at']?=some J) (fun y=>[(0,.p (.ip [x0,x1,x2,x3,x4,x5,x6,.sl (T.map ils)])),(2,.ow 100002),(6,.bx 6 0),(7,.bx 7 0),(8,.ow 8),(9,.ow 9),(10,.p (i64 at')),(11,.p (i64 y.1))]) (fun y=>[(100002,.row 4 (bits y.2.seen)),(6,.box [.nl,.nl,.nl]),(7,.box [.p (ints y.2.pieces),.p (ints y.2.bores),.p (.im (.slice none 0 0))]),(8,.row 4 (bits y.2.used)),(9,.row 3 (aK y.2.todo))]) (fun y=>T.length-y.1) (0,s) _ (aA.refl _ _) ⟨hR.symm,N,hxv⟩ ⟨Z,Z,Z,Z,Z,Z,Z,Z,Y⟩ ⟨Z,Z,Z,Z,Z,Y⟩ fun ⟨j,u⟩ hy t h=>?_;obtain⟨y1,O,V⟩:=hy;simp only at y1 O V;have lu:=cA u.todo;have lus:=aa_ u.used;have uul:=O.ulen;obtain⟨fu1,fu2,fu3⟩:=O.few;have ajH:=(az.1 V).1;apply iW<;>intro U<;>try simp only[zB]at U
  ·rw[lT]at U;have U:j<T.length:=by omega
   obtain⟨L,hL⟩:=ax (l:=T) (i:=j) U;obtain⟨e,he⟩:=ax (l:=u.used) (i:=j) (by omega);have eT:=ae9 hL;have eU:=aba (d:=true) he;have lL:=an L fun n=>[i64 n];have lL2:=hTl L (aj hL);have hTL:=hT j;rw[eT]at hTL;rw[Reg.aev U,jN]at y1;refine⟨⟨by omega,by (try dsimp only);omega⟩,[bool e],(aaD rfl he),iW ?_ ?_⟩<;>intro h3
   ·rw[aa2,ae (.inl (by rw[eU];exact h3))]at y1;exact⟨wO (by omega),(j+1,u),_,aA.refl _ _,⟨y1,O,V⟩,by simp only;omega,⟨Z,Z,Z,Z,Z,Z,Z,Z,Y⟩,⟨Z,Z,Z,Z,Z,Y⟩⟩
   have h3:e=false:=by simpa using h3
   refine⟨(ils L),(idx rfl hL),⟨by omega,by (try dsimp only);omega⟩,[i64 J],(ahq rfl V),_,_,(aaU L J (by omega)),iW ?_ ?_⟩<;>intro h4
   ·rw[aa2,ae (.inr (by rw[eT];exact h4))]at y1;exact⟨wO (by omega),(j+1,u),_,aA.refl _ _,⟨y1,O,V⟩,by simp only;omega,⟨Z,Z,Z,Z,Z,Z,Z,Z,Y⟩,⟨Z,Z,Z,Z,Z,Y⟩⟩
   have hb:=Reg.af6 O U;rw[aa2,aa (by
    rintro (c | c)
    ·rw[eU,h3]at c;cases c
    rw[eT,h4]at c;cases c),eT]at y1
   have hso:=adN u.bores j (by omega);refine⟨⟨by omega,by (try dsimp only);omega⟩,[bool e],(aaD rfl he),_,_,hso,?_⟩;obtain⟨R2,hR2⟩:∃R2,R2=L.foldl abl ⟨u.seen,u.pieces,aa7 u.bores j,u.used.set j true,u.todo⟩:=⟨_,rfl⟩;rw[<-hR2]at y1;refine aP (fun z:Nat×Spr=>(L.drop z.1).foldl abl z.2=R2/\L1 T n D0 z.2/\z.2.todo[at']?=some J) (fun z=>[(0,.p (.ip [x0,x1,x2,x3,x4,x5,x6,.sl (T.map ils)])),(2,.ow 100002),(6,.bx 6 0),(7,.bx 7 0),(8,.ow 8),(9,.ow 9),(10,.p (i64 at')),(11,.p (i64 j)),(12,.p (i64 z.1))]) (fun z=>[(100002,.row 4 (bits z.2.seen)),(6,.box [.nl,.nl,.nl]),(7,.box [.p (ints z.2.pieces),.p (ints z.2.bores),.p (.im (.slice none 0 0))]),(8,.row 4 (bits z.2.used)),(9,.row 3 (aK z.2.todo))]) (fun z=>L.length-z.1) (0,⟨u.seen,u.pieces,aa7 u.bores j,u.used.set j true,u.todo⟩) _ (aA.refl _ _) ⟨hR2.symm,hb,V⟩ ⟨Z,Z,Z,Z,Z,Z,Z,Z,Z,Y⟩ ⟨rfl,rfl,rfl,ar (AB.row _) (abP u.used j true),Z,Y⟩ fun ⟨k,v⟩ hz t h=>?_;obtain⟨I,z2,z3⟩:=hz;simp only at I z2 z3;have lv:=cA v.todo;have lvs:=aa_ v.seen;have vsl:=z2.len;obtain⟨fv1,fv2,fv3⟩:=z2.few;have alz:=(az.1 z3).1;refine⟨(ils L),(idx rfl hL),iW ?_ ?_⟩<;>intro h5<;>try simp only[zB]at h5
   ·rw[lL]at h5;obtain⟨p,hp⟩:=ax (l:=L) (i:=k) (by omega);obtain⟨p0,pn⟩:=hTL p (aj hp);rw[drop_at hp,jN]at I;obtain⟨b,Aj⟩:=ax (l:=v.seen) (i:=p.toNat) (by omega);have eS:=aba (d:=true) Aj;obtain⟨k1,_,_,_⟩:=Reg.agY z2 p0 pn;refine⟨(ils L),(idx rfl hL),[i64 p],(idx rfl hp),⟨by omega,by (try dsimp only);omega⟩,[bool b],(af_ p0 Aj),iW ?_ ?_⟩<;>intro W
    ·have W:b=false:=by simpa using W
     have hk:abl v p=⟨v.seen.set p.toNat true,aa7 v.pieces p,v.bores,v.used,v.todo++[p]⟩:=by rw[abl,aa (by rw[eS,W];decide)]
     rw[hk]at I k1;have alA:=adN v.pieces p (by omega);exact⟨⟨by omega,by (try dsimp only);omega⟩,[bool b],(af_ p0 Aj),_,_,alA,⟨fun r hr=>by simp at hr;subst hr;rfl,by simp only[lv,List.length_cons,List.length_nil,List.length_set,List.length_replicate];omega,by simp only[lv,List.length_cons,List.length_nil,List.length_set,List.length_replicate];omega⟩,wO (by omega),(k+1,Spr.mk (v.seen.set p.toNat true) (aa7 v.pieces p) v.bores v.used (v.todo++[p])),_,aA.refl _ _,⟨I,k1,by show (v.todo++[p])[at']?=some J;rw[List.getElem?_append_left alz];exact z3⟩,by simp only;omega,⟨Z,Z,Z,Z,Z,Z,Z,Z,Z,Y⟩,⟨congrArg (AB.row _) (abP v.seen p.toNat true),rfl,rfl,rfl,congrArg (AB.row _) (mF v.todo p).symm,trivial⟩⟩
    have W:b=true:=by simpa using W
    have hk:abl v p=v:=by rw[abl,ae (by rw[eS,W])]
    rw[hk]at I k1;exact⟨wO (by omega),(k+1,v),_,aA.refl _ _,⟨I,k1,z3⟩,by simp only;omega,⟨Z,Z,Z,Z,Z,Z,Z,Z,Z,Y⟩,⟨Z,Z,Z,Z,Z,Y⟩⟩
   rw[lL]at h5;rw[jR (by omega)]at I;have I:v=R2:=I;rw[<-I]at y1;exact⟨wO (by omega),(j+1,v),_,aA.refl _ _,⟨y1,z2,z3⟩,by simp only;omega,⟨Z,Z,Z,Z,Z,Z,Z,Z,Y⟩,⟨Z,Z,Z,Z,Z,Y⟩⟩
  rw[lT]at U;rw[jR (by rw[xF];omega)]at y1;have y1:u=R:=y1;rw[<-y1]at D;exact⟨wO (by omega),(at'+1,u),_,aA.refl _ _,⟨D,O⟩,by simp only;omega,⟨Z,Z,Z,Z,Z,Z,Z,Y⟩,⟨Z,Z,Z,Z,Z,Y⟩⟩
 rw[lo]at h1;rw[Reg.ah_ _ _ _ _ (by omega)]at D;subst D;refine⟨_,aA.ZA (by exact hC) _ 6 2 _ (by exact rfl) (by exact rfl),?_⟩;exact And.intro rfl (And.intro rfl trivial)
end M
namespace Reg
def aiG(n:Nat)(h:UK):Nat:=if h.bore=true then n+h.num.toNat else h.num.toNat
def ajJ(bs:List dq)(T:List (List Int)):List Nat:=(List.range T.length).filter fun j=>gv bs j&&decide ((T.getD j []).length=0)
def ahr(bs:List dq)(T:List (List Int))(c:Nat->Nat)(n:Nat):List Nat:=dy c n++(ajJ bs T).map fun j=>n+j
theorem agG(bs:List dq)(T:List (List Int))(c:Nat->Nat)(n:Nat):(ahr bs T c n).Nodup:=by
 rw[ahr,ad2];refine⟨CO _ _,?_,fun a u b hb=>?_⟩
 ·rw[rR,gM];refine uF ?_ (pE ga List.pairwise_lt_range);intro a b h;omega
 obtain⟨j,_,rfl⟩:=aZ.1 hb;have:=(mem_keys.1 u).1;omega
variable {bs:List dq}
theorem aeA{T:List (List Int)}{n:Nat}{c:Nat->Nat}(u:agq c T n):kx bs T n=(ahr bs T c n).map fun r=>if r<n then ⟨afh c n r,aeh c T r,[]⟩ else ⟨[],[((r-n:Nat):Int)],[]⟩:=by
 obtain⟨_,_,z⟩:=acm u n (aG _);rw[kx,z,adb,ahr,E8,Mu];congr 1
 ·refine qY fun r D=>?_;rw[ae (mem_keys.1 D).1]
 refine qY fun j _=>?_;show _=(if n+j<n then _ else _);rw[aa (by omega),gG]
theorem aia{T:List (List Int)}{n:Nat}{c:Nat->Nat}(bc:ajE c T n){r:Nat}(z:r∈ahr bs T c n){h:UK}(D:gb h (if r<n then ⟨afh c n r,aeh c T r,[]⟩ else ⟨[],[((r-n:Nat):Int)],[]⟩)=true):r=c (aiG n h):=by
 rw[gb,lZ,aJ,aJ,aa6,aa6,Fq]at D;rw[ahr,fC]at z;by_cases e:r<n
 ·rw[ae e]at D;rcases D with⟨I,u⟩ | ⟨I,u⟩
  ·rw[aiG,ae I];obtain⟨j,J,e2⟩:=aZ.1 (show h.num∈aeh c T r from u);obtain⟨a,O,R⟩:=wy.1 (l5.1 J).2;rw[<-e2,FY,<-bc.e1 j a O];exact (iY R).symm
  rw[aiG,aa (by rw[I];simp)];obtain⟨k,hk,e2⟩:=aZ.1 (show h.num∈afh c n r from u);rw[<-e2,FY];exact (pM.1 hk).2.symm
 rw[aa e]at D;rcases z with z | z
 ·exact absurd (mem_keys.1 z).1 e
 obtain⟨j,J,rfl⟩:=aZ.1 z;rw[gG]at D;rcases D with⟨I,u⟩ | ⟨I,u⟩
 ·rw[aiG,ae I,Fp.1 (show h.num∈[(j:Int)] from u),FY];obtain⟨L,N⟩:=l5.1 J;have L:=wx.1 L;rw[aJ]at N;have U:T.getD j []=[]:=GS.1 (iY N.2);have l1:=bc.tops.le (n+j) (by omega);exact (bc.e2 j L U (c (n+j)) (by omega) (bc.tops.top _ (by omega))).symm
 cases u
theorem agH{T:List (List Int)}{n:Nat}(J:∀x∈T,∀p∈x,0<=p/\p<n){h:UK}{i k:Nat}{g q:dW}(hi:(kx bs T n)[i]?=some g)(hk:(kx bs T n)[k]?=some q)(z:gb h g=true)(D:gb h q=true):i=k:=by
 have bc:=aeU J;generalize kV (Lx n T.length T)=c at bc;rw[aeA bc.pc,aD]at hi hk;obtain⟨r,u,e1⟩:=qI.1 hi;obtain⟨s,I,e2⟩:=qI.1 hk;rw[<-e1]at z;rw[<-e2]at D;have a:=aia bc (aj u) z;have b:=aia bc (aj I) D;rw[<-b]at a;rw[a]at u;exact Sh (agG bs T c n) u I
def bare(g:dW):List Int×List Int:=(g.pieces,g.bores)
theorem aiH{h:UK}{g q:dW}(e:bare g=bare q):gb h g=gb h q:=by
 injection e with e1 e2;rw[gb,gb,e1,e2]
theorem agb(h:UK):∀(gs u:List dW) (k:Nat),gs.map bare=u.map bare->aaH h k gs=aaH h k u
 | [],[],k,_=>rfl
 | [],q::u,k,e=>by cases e
 | g::gs,[],k,e=>by cases e
 | g::gs,q::u,k,e=>by
  rw[eH,eH]at e;injection e with e1 e2;rw[aaH,aaH,aiH e1,agb h gs u (k+1) e2]
def e7(bs:List dq)(ps:List Piece)(gs:List dW)(l:oW):Int:=if (ade bs ps l).2=true then aaH (ade bs ps l).1 0 gs else -1
def ac0(bs:List dq)(ps:List Piece)(gs:List dW)(l:oW):List dW:=
 if 0<=e7 bs ps gs l then gs.set (e7 bs ps gs l).toNat (zp (l.part,l.pin) (gs.getD (e7 bs ps gs l).toNat ⟨[],[],[]⟩)) else gs
theorem aib{gs:List dW}{k:Nat}{p:ByteArray×ByteArray}:(gs.set k (zp p (gs.getD k ⟨[],[],[]⟩))).map bare=gs.map bare:=by
 refine kz fun i=>?_;rw[aD,aD];rcases AF k gs.length with c | c
 ·rw[ky c];by_cases e:i=k
  ·rw[ae e,e,oX c,dc,oX c];rfl
  rw[aa e]
 rw[List.set_eq_of_length_le c]
theorem ae_{ps:List Piece}{o:List Int×List Int}{G:List dW}(z:ahR bs ps)
  (D:∀l,(x_ bs ps l).2=true->∃k:Nat,(if (x_ bs ps l).1.bore=true then o.2 else o.1).getD (x_ bs ps l).1.num.toNat 0=k/\aaH (x_ bs ps l).1 0 G=k):
  ∀(u:List oW) (gs:List dW) (s:vR),gs.map bare=G.map bare->s.groups=gs->u.foldl (ac0 bs ps) gs=(u.foldl (Ac bs ps o) s).groups
 | [],gs,s,_,e=>e.symm
 | l::u,gs,s,hb,e=>by
  rw[jN,jN];obtain⟨I,J⟩:=aiw z l;refine ae_ z D u _ _ ?_ ?_
  ·rw[ac0];split
   ·rw[aib];exact hb
   exact hb
  rw[ac0,e7];show (if (x_ bs ps l).2=true then s.groups.set _ _ else s.groups)=_;by_cases c:(x_ bs ps l).2=true
  ·obtain⟨k,L,N⟩:=D l c;have O:aaH (x_ bs ps l).1 0 gs=k:=by rw[<-N];exact agb _ _ _ 0 hb
   rw[J c];simp only[ae c,O,L,e];rw[ae (Int.natCast_nonneg k)]
  have R:¬(ade bs ps l).2=true:=by rw[I];exact c
  rw[aa c];simp only[aa R];rw[aa (by omega)];exact e
theorem acs(bs:List dq)(ps:List Piece):∀x∈fP bs ps,∀p∈x,0<=p/\p<(ps.length:Int):=fun x u p hp=>by
 obtain⟨b,_,rfl⟩:=aZ.1 u;have:=EY b ps 0 p hp;omega
theorem aaF(bs:List dq)(ps:List Piece):(fP bs ps).length=bs.length:=by rw[fP,E5]
theorem aeB{b:dq}(h:b.plated=false):∀(ps:List Piece) (k:Nat),jv b k ps=[]
 | [],k=>rfl
 | p::ps,k=>by
  rw[jv,aa (by rw[td,h];simp)];exact aeB h ps (k+1)
theorem ac1{ps:List Piece}{j:Nat}(u:j<(fP bs ps).length)(h:gv bs j=false):(fP bs ps).getD j []=[]:=by
 rw[aaF]at u;rw[fP,dc,aD,oX u];refine aeB ?_ ps 0;rw[gv,dc,oX u]at h;exact h
theorem aic{a:yr}(hb:∀b∈a.bores,ew b=true)(I:∀r∈a.coppers,∀q∈r,Full q):(∀p∈(aX a).pieces,dF p.set)/\ahR a.bores (aX a).pieces:=by
 have key:∀p∈(aX a).pieces,dF p.set/\∀b∈a.bores,∀x y,through b p.layer=true->oV x y (bM b)=true->at' p.set x y=false:=fun p hp=>by
  obtain⟨i,r,J,L,N⟩:=C8 hp;obtain⟨O,a2,_⟩:=b7 (I r (aj J));obtain⟨R,U,_⟩:=b7 (l:=dm a.bores (0+i)) fun q V=>by
   obtain⟨b,W,rfl⟩:=aZ.1 V;exact mC (hb b (l5.1 W).1)
  obtain⟨Y,Z,_⟩:=oC O R;obtain⟨d1,_,d3,_⟩:=EV Y N;refine⟨d1,fun b u x y z D=>?_⟩;rw[cu];intro g;have:=d3 x y g;rw[Z,U,aJ,Fq]at this;have h4:=Bc.1 this.2 (bM b) (aZ.2 ⟨b,l5.2 ⟨u,by rw[<-L];exact z⟩,rfl⟩);exact h4 D
 exact⟨fun p hp=>(key p hp).1,fun p hp b u x y z D=>by rw[Ct (key p hp).1];exact (key p hp).2 b u x y z D⟩
theorem ahs{ps:List Piece}(l:oW)(N:(x_ bs ps l).2=true):
  ∃k:Nat,(if (x_ bs ps l).1.bore=true then (yb bs ps.length (a7 (kV (Lx ps.length bs.length (fP bs ps))) (ps.length+bs.length))).1.2 else (yb bs ps.length (a7 (kV (Lx ps.length bs.length (fP bs ps))) (ps.length+bs.length))).1.1).getD (x_ bs ps l).1.num.toNat 0=k /\
   aaH (x_ bs ps l).1 0 (kx bs (fP bs ps) ps.length)=k:=by
 have u:=acs bs ps;have e:=acE (aaF bs ps) u fun j O h=>ac1 O h;have J:=(Jr (fP bs ps) 0 _ (Bf (ps.length+bs.length)) (qz _) (by rw[aaF];omega) u);have ok:=Pa J.1 J.2;have L:∀{k:Nat} {g:dW},(kx bs (fP bs ps) ps.length)[k]?=some g->gb (x_ bs ps l).1 g=true->aaH (x_ bs ps l).1 0 (kx bs (fP bs ps) ps.length)=k:=fun {k g} hk hi=>by
  have:=ahS (m:=0) hk hi fun i q R U=>agH u R hk U hi;rw[fX]at this;exact this
 rcases Jw l ps bs 0 N with⟨m,a,d⟩ | ⟨m,a,_,d,p⟩
 ·obtain⟨k,g,z,D,I⟩:=ok.a m d;have a:(x_ bs ps l).1=⟨false,m⟩:=a;refine⟨k,?_,L (by rw[e];exact D) ?_⟩
  ·rw[a];show List.getD _ (m:Int).toNat 0=_;rw[FY,dc];exact ar (·.getD 0) z
  rw[a];simp[gb,aa6,I]
 obtain⟨k,g,z,D,I⟩:=ok.b m (by omega) p;have a:(x_ bs ps l).1=⟨true,m⟩:=a;refine⟨k,?_,L (by rw[e];exact D) ?_⟩
 ·rw[a];show List.getD _ (m:Int).toNat 0=_;rw[FY,dc];exact ar (·.getD 0) z
 rw[a];simp[gb,aa6,I]
theorem afr{a:yr}(hb:∀b∈a.bores,ew b=true)(u:∀r∈a.coppers,∀q∈r,Full q):
  a.lands.foldl (ac0 a.bores (aX a).pieces) (kx a.bores (aX a).fP (aX a).pieces.length)=(aX a).placed.groups:=by
 obtain⟨_,z⟩:=aic hb u;refine ae_ z (G:=kx a.bores (aX a).fP (aX a).pieces.length) (fun l hl=>ahs l hl) a.lands _ _ rfl ?_;exact (acE (aaF _ _) (acs _ _) fun j D h=>ac1 D h).symm
end Reg
namespace M
open Go.AM Go.RowKit Go.Lib
open Reg (aB Full RK aR dF dq oW yr Piece dW UK told through bM ew ag1 adG py q8 DY Jp Bs W3 ade gb aaH e7 oV)
theorem aht(r:List aB)(q:aB)(O:∀p∈r,adT p)(R:adT q)(hN:r.length<=4398046511104):ai C 28 [.pv (aE r),.pv (.ag (rc q))] (.p (bool (adG r q))) []:=by
 have I:=an r rc;refine fW hC Tryz.func28 rfl (by kernel_rfl) fun _=>?_;refine aP (fun i:Nat=>adG (r.drop i) q=adG r q) (fun i=>[(0,.p (aE r)),(3,.bx 3 0),(5,.p (i64 i))]) (fun _=>[(3,.box ((rc q).map .p))]) (fun i=>r.length-i) 0 _ (aA.refl _ _) rfl ⟨Z,Z,Z,Y⟩ ⟨Z,Y⟩ fun i hi t h=>?_;apply iW<;>intro J
 ·rw[I]at J;obtain⟨p,hp⟩:=ax (l:=r) (i:=i) (by omega);have mp:=O p (aj hp);rw[drop_at hp]at hi;have U:adG (p::r.drop (i+1)) q=(((decide (0<py p q)&&decide (q8 p q=0))||(decide (py p q=0)&&decide (0<q8 p q)))||adG (r.drop (i+1)) q):=rfl;rw[U]at hi;unfold adT at mp R;refine⟨(rc p),(idx rfl hp),(rc p),(idx rfl hp),wO (by omega),(rc p),(idx rfl hp),(rc p),(idx rfl hp),wO (by omega),?_⟩;have V:py p q=min p.x1 q.x1-max p.x0 q.x0:=rfl;have W:q8 p q=min p.y1 q.y1-max p.y0 q.y0:=rfl;rw[V,W]at hi;generalize min p.x1 q.x1-max p.x0 q.x0=u at hi ⊢;generalize min p.y1 q.y1-max p.y0 q.y0=v at hi ⊢;apply iW<;>intro D
  ·apply iW<;>intro L
   ·refine⟨?_,trivial⟩;rw[<-hi,nq D,nq L];rfl
   apply iW<;>intro z
   ·exfalso;omega
   exact⟨wO (by omega),(i+1),_,aA.refl _ _,by rw[<-hi,fJ L,fJ z];simp,by omega,⟨Z,Z,Z,Y⟩,⟨Z,Y⟩⟩
  apply iW<;>intro z
  ·apply iW<;>intro N
   ·refine⟨?_,trivial⟩;rw[<-hi,nq z,nq N];simp;rfl
   exact⟨wO (by omega),(i+1),_,aA.refl _ _,by rw[<-hi,fJ D,fJ N];simp,by omega,⟨Z,Z,Z,Y⟩,⟨Z,Y⟩⟩
  exact⟨wO (by omega),(i+1),_,aA.refl _ _,by rw[<-hi,fJ D,fJ z];simp,by omega,⟨Z,Z,Z,Y⟩,⟨Z,Y⟩⟩
 rw[I]at J;rw[jR (by omega)]at hi;refine⟨?_,trivial⟩;rw[<-hi];rfl
def w8(ps:List Piece):List (List PV):=ps.map fun p=>[i64 p.layer]
def mi(ps:List Piece):List (List PV):=ps.map fun p=>[aE (told p.set)]
def rbc(a:yr)(ps:List Piece)(gs:List dW)(T:List (List Int)):List PV:=uR a++[.sl (w8 ps),.sl (mi ps),.sl (gs.map DZ),.sl (T.map ils)]
theorem adO{l:List aB}(h:∀r∈l,Full r)(x y:Int):ay (Reg.rowOf l y) x=l.any (oV x y):=by
 have D:=(Reg.HW l y fun r I=>(h r I).1).2 x;rw[Ax,ay,wy,wy];refine Iff.trans ?_ (D.trans ?_)
 ·simp[Reg.cover]
 constructor
 ·rintro⟨r,u,z,h3⟩;exact⟨r,u,Reg.dC.2 ⟨by omega,by omega,by omega,by omega⟩⟩
 rintro⟨r,u,z⟩;obtain⟨g1,g2,g3,g4⟩:=Reg.dC.1 z;exact⟨r,u,by omega,by omega⟩
structure aiI(ps:List Piece):Prop where
 few:ps.length<=2000
 sok:∀p∈ps,dF p.set
 len:∀p∈ps,(told p.set).length<=4398046511104
theorem agI(a:yr)(ok:ae1 a.bores)(l:oW)(ps:List Piece)(D:aiI ps)(gs:List dW)(T:List (List Int)):ai C 129 [.pv (.ip (rbc a ps gs T)),.pv (.ag (lc l))] (.tu [.ag (jx (ade a.bores ps l).1),bool (ade a.bores ps l).2]) []:=by
 have lb:=an a.bores bc;have lp:(mi ps).length=ps.length:=E5 ..;have lp2:(w8 ps).length=ps.length:=E5 ..;have few:=D.few;have ajh:=ok.few;obtain⟨R,u⟩:∃R,R=ade a.bores ps l:=⟨_,rfl⟩;rw[<-u];rw[ade]at u;refine fW hC Tryz.func129 rfl (by kernel_rfl) fun _=>?_;refine aP (fun k:Nat=>Bs l k (ps.drop k)=Bs l 0 ps) (fun k=>[(0,.p (.ip (rbc a ps gs T))),(3,.bx 3 0),(4,.bx 4 0),(6,.p (i64 k))]) (fun _=>[(3,.box ((lc l).map .p)),(4,.box [.p (bool false),.p (i64 0)])]) (fun k=>ps.length-k) 0 _ (aA.refl _ _) rfl ⟨Z,Z,Z,Z,Y⟩ ⟨Z,Z,Y⟩ fun k hk t h=>?_;apply iW<;>intro g1
 ·obtain⟨p,hp⟩:=ax (l:=ps) (i:=k) (by omega);have J:=D.sok p (aj hp);have pl:=D.len p (aj hp);rw[drop_at hp,Bs]at hk;have yes:Jp l p=true->R=(⟨false,k⟩,true):=fun h=>by rw[ae h]at hk;rw[<-hk]at u;exact u
  have no:Jp l p=false->Bs l (k+1) (ps.drop (k+1))=Bs l 0 ps:=fun h=>by rw[aa (by rw[h];decide)]at hk;exact hk
  have I:=acv (told p.set) l.x l.y pl;rw[adO (Reg.nW J)]at I;refine⟨[i64 p.layer],(idx rfl hp),iW ?_ ?_⟩<;>intro N
  ·refine⟨[aE (told p.set)],(idx rfl hp),_,_,I,iW ?_ ?_⟩<;>intro O
   ·have L:=yes (by simp only[Jp,aJ,fV];exact⟨N,O⟩);exact And.intro (by rw[L];rfl) trivial
   have z:=no (by simp only[Jp];rw[F1];exact .inr O);exact⟨wO (by omega),(k+1),_,aA.refl _ _,z,by omega,⟨Z,Z,Z,Z,Y⟩,⟨Z,Z,Y⟩⟩
  have z:=no (by simp only[Jp];rw[fJ N,uh]);exact⟨wO (by omega),(k+1),_,aA.refl _ _,z,by omega,⟨Z,Z,Z,Z,Y⟩,⟨Z,Z,Y⟩⟩
 rw[jR (by omega),Bs]at hk;rw[<-hk]at u;refine aP (fun i:Nat=>W3 l i (a.bores.drop i)=W3 l 0 a.bores) (fun i=>[(0,.p (.ip (rbc a ps gs T))),(3,.bx 3 0),(4,.bx 4 0),(7,.p (i64 i))]) (fun _=>[(3,.box ((lc l).map .p)),(4,.box [.p (bool false),.p (i64 0)])]) (fun i=>a.bores.length-i) 0 _ (aA.refl _ _) rfl ⟨Z,Z,Z,Z,Y⟩ ⟨Z,Z,Y⟩ fun i hi t h=>?_;apply iW<;>intro g4
 ·obtain⟨b,hb⟩:=ax (l:=a.bores) (i:=i) (by omega);have U:=ok.ok b (aj hb);rw[drop_at hb,W3]at hi;have yes:DY l b=true->R=(⟨true,i⟩,true):=fun h=>by rw[ae h]at hi;rw[<-hi]at u;exact u
  have no:DY l b=false->W3 l (i+1) (a.bores.drop (i+1))=W3 l 0 a.bores:=fun h=>by rw[aa (by rw[h];decide)]at hi;exact hi
  have I:=acv [bM b] l.x l.y (by simp);rw[adO (fun r hr=>by rw[Fp.1 hr];exact Reg.mC U),uc,List.any_nil,wz]at I;refine⟨(bc b),(idx rfl hb),iW ?_ ?_⟩<;>intro V
  ·refine⟨(bc b),(idx rfl hb),_,_,(abn b l.layer),iW ?_ ?_⟩<;>intro W
   ·refine⟨(bc b),(idx rfl hb),_,_,(tn b U),_,_,I,iW ?_ ?_⟩<;>intro g7
    ·have L:=yes (by simp only[DY,aJ];exact⟨⟨V,W⟩,g7⟩);exact And.intro (by rw[L];rfl) trivial
    have z:=no (by simp only[DY];rw[F1];exact .inr g7);exact⟨wO (by omega),(i+1),_,aA.refl _ _,z,by omega,⟨Z,Z,Z,Z,Y⟩,⟨Z,Z,Y⟩⟩
   have z:=no (by simp only[DY];rw[W,wS,uh]);exact⟨wO (by omega),(i+1),_,aA.refl _ _,z,by omega,⟨Z,Z,Z,Z,Y⟩,⟨Z,Z,Y⟩⟩
  have z:=no (by simp only[DY];rw[V,uh,uh]);exact⟨wO (by omega),(i+1),_,aA.refl _ _,z,by omega,⟨Z,Z,Z,Z,Y⟩,⟨Z,Z,Y⟩⟩
 rw[jR (by omega),W3]at hi;rw[<-hi]at u;exact And.intro (by rw[u];rfl) trivial
theorem adX(a:yr)(h:UK)(ps:List Piece)(gs:List dW)(T:List (List Int))(hg:gs.length<=1000000)(hl:∀g∈gs,g.pieces.length<=1000000/\g.bores.length<=1000000):ai C 130 [.pv (.ip (rbc a ps gs T)),.pv (.ag (jx h))] (.p (i64 (aaH h 0 gs))) []:=by
 have lg:=an gs DZ;obtain⟨u,z⟩:=h;refine fW hC Tryz.func130 rfl (by kernel_rfl) fun _=>?_;refine aP (fun i:Nat=>aaH ⟨u,z⟩ i (gs.drop i)=aaH ⟨u,z⟩ 0 gs) (fun i=>[(0,.p (.ip (rbc a ps gs T))),(3,.bx 3 0),(5,.p (i64 i))]) (fun _=>[(3,.box ((jx ⟨u,z⟩).map .p))]) (fun i=>gs.length-i) 0 _ (aA.refl _ _) rfl ⟨Z,Z,Z,Y⟩ ⟨Z,Y⟩ fun i hi t h'=>?_;apply iW<;>intro g1
 ·obtain⟨g,I⟩:=ax (l:=gs) (i:=i) (by omega);obtain⟨l1,l2⟩:=hl g (aj I);rw[drop_at I,aaH]at hi;have yes:gb ⟨u,z⟩ g=true->aaH ⟨u,z⟩ 0 gs=i:=fun e=>by rw[ae e]at hi;exact hi.symm
  have no:gb ⟨u,z⟩ g=false->aaH ⟨u,z⟩ (i+1) (gs.drop (i+1))=aaH ⟨u,z⟩ 0 gs:=fun e=>by rw[aa (by rw[e];decide)]at hi;exact hi
  cases u with
  | true=>
   refine⟨(DZ g),(idx rfl I),_,_,(aaU g.bores z l2),iW ?_ ?_⟩<;>intro D
   ·have J:=yes (by simp only[gb];rw[D];rfl);refine⟨?_,trivial⟩;rw[J]
   have L:=no (by simp only[gb];rw[D];rfl);exact⟨wO (by omega),(i+1),_,aA.refl _ _,L,by omega,⟨Z,Z,Z,Y⟩,⟨Z,Y⟩⟩
  | false=>
   refine⟨(DZ g),(idx rfl I),_,_,(aaU g.pieces z l1),iW ?_ ?_⟩<;>intro D
   ·have J:=yes (by simp only[gb];rw[D];rfl);refine⟨?_,trivial⟩;rw[J]
   have L:=no (by simp only[gb];rw[D];rfl);exact⟨wO (by omega),(i+1),_,aA.refl _ _,L,by omega,⟨Z,Z,Z,Y⟩,⟨Z,Y⟩⟩
 rw[jR (by omega),aaH]at hi;refine⟨?_,trivial⟩;rw[<-hi];rfl
theorem afs(a:yr)(ok:ae1 a.bores)(l:oW)(ps:List Piece)(z:aiI ps)(gs:List dW)(T:List (List Int))(D:gs.length<=1000000)(hl:∀g∈gs,g.pieces.length<=1000000/\g.bores.length<=1000000):ai C 68 [.pv (.ip (rbc a ps gs T)),.pv (.ag (lc l))] (.p (i64 (e7 a.bores ps gs l))) []:=by
 refine fW hC Tryz.func68 rfl (by kernel_rfl) fun _=>?_;refine⟨_,_,(agI a ok l ps z gs T),iW ?_ ?_⟩<;>intro u
 ·refine⟨?_,trivial⟩;rw[e7,aa (by rw[u];decide)];rfl
 have u:(ade a.bores ps l).2=true:=by simpa using u
 refine⟨_,_,(adX a (ade a.bores ps l).1 ps gs T D hl),?_,trivial⟩;rw[e7,ae u]
end M
end Go.Proofs.YtliffnpbaeijgaaGreatDoor
namespace Go.AM
def PW(x y:PV):Prop:=x=y\/(x=.im (.slice none 0 0)/\y=.sl [])
theorem PW.rep{S:Nat->Prop}{w:World}{x y:PV}{v:Value}(h:PW x y)(u:aO S w x v):aO S w y v:=by
 rcases h with rfl | ⟨rfl,rfl⟩
 ·exact u
 cases u;exact .nil _ _
theorem aA.aiJ{A:rZ}(hC:bP A.C)(s:AS)(id:Nat){e:TypeId}{es:List (List PV)}{r r':List PV}(hb:s.h id=.row e (es++[r]))(hl:r'.length=r.length)(U:∀(j:Nat) x y,r[j]?=some x->r'[j]?=some y->PW x y):aA A s ⟨s.t,a8 s.h id (.row e (es++[r']))⟩:=by
 intro S rho a w J;have N:=J.hp id trivial;rw[hb]at N;have N:aH A.C.P w (aO S w) e (es++[r]) (rho id):=N;have at':∀(k:Nat) q I,(es++[r])[k]?=some q->(es++[r'])[k]?=some I->(q=I)\/(q=r/\I=r'):=fun k q I D z=>by
  by_cases c:k<es.length
  ·rw[dN c]at D z;rw[D]at z;injection z with z;exact .inl z
  rw[du (by omega)]at D z;have hk:k-es.length=0:=by
   have:=(az.1 D).1;simp at this;omega
  rw[hk]at D z;simp at D z;exact .inr ⟨D.symm,z.symm⟩
 refine⟨S,rho,J.write hC id trivial (by rw[hb];trivial) _ (fun e' h=>by rw[hb];exact h) w rfl rfl rfl rfl (fun _ _=>rfl) fun T=>?_⟩;refine N.re (by simp) (fun k q I D z=>?_) fun k q I j x V u D z O L _ R=>?_
 ·rcases at' k q I D z with e | ⟨e1,e2⟩
  ·rw[e]
  rw[e1,e2,hl]
 rcases at' k q I D z with e | ⟨e1,e2⟩
 ·subst e;rw[O]at L;injection L with L;subst L;exact R.mono T.hS T.keep
 subst e1;subst e2;exact (U j x V O L).rep (R.mono T.hS T.keep)
theorem alC{O R U V W Y Z:AV}{z:PV}{ys:List PV}(h:Va [O,R,U,V,W,Y,Z,.p z] ys):∃x0 x1 D I J L N,ys=[x0,x1,D,I,J,L,N,z]:=by
 obtain⟨h1,h2⟩:=h;have u:=h2 7 z rfl
 match ys,h1,u with
 | [x0,x1,D,I,J,L,N,x7],_,u=>
  simp at u;exact⟨x0,x1,D,I,J,L,N,by rw[u]⟩
end Go.AM
namespace Go.Proofs.YtliffnpbaeijgaaGreatDoor
namespace M
open Go.AM Go.RowKit Go.Lib
open Reg (aB Full RK aR dF dq oW yr Piece dW UK told through bM ew w7 aaw ly adE kx gv ac0 e7 zp aiF)
theorem ahv(l:List Bool):∀r∈bits l,∀z∈r,Hk z=true:=fun r D z u=>by
 obtain⟨b,_,rfl⟩:=aZ.1 D;simp at u;subst u;rfl
theorem aid(g:dW):Yv (.ag (PE g)):=fun c z=>by
 simp only[PE,L8,Gc,or_false]at z;rcases z with rfl | rfl | rfl
 ·intro r u;obtain⟨n,_,rfl⟩:=aZ.1 u;exact⟨_,_,rfl⟩
 ·intro r u;obtain⟨n,_,rfl⟩:=aZ.1 u;exact⟨_,_,rfl⟩
 trivial
def aa0(bs:List dq)(T:List (List Int))(gs:List dW)(i:Nat):List dW:=(List.range i).foldl (adE bs T) gs
theorem ac3(bs:List dq)(T:List (List Int))(gs:List dW)(i:Nat):aa0 bs T gs (i+1)=adE bs T (aa0 bs T gs i) i:=by simp[aa0,rG,u7]
variable {gs:List dW}
theorem ace(bs:List dq)(T:List (List Int)){m:Nat}(z:gs.length<=m)(D:∀g∈gs,aiF g):∀i,(aa0 bs T gs i).length<=m+i/\∀g∈aa0 bs T gs i,aiF g
 | 0=>⟨z,D⟩
 | i+1=>by
  obtain⟨a,b⟩:=ace bs T z D i;rw[ac3,adE];split
  ·refine⟨by simp only[bJ,ij];omega,fun g u=>?_⟩;rcases fC.1 u with u | u
   ·exact b g u
   rw[Fp.1 u];exact⟨rfl,by simp,by simp⟩
  exact⟨by omega,b⟩
structure aiK(m:Nat)(gs:List dW):Prop where
 few:gs.length<=1000000
 len:∀g∈gs,g.pieces.length<=1000000/\g.bores.length<=1000000/\g.pins.length<=m
theorem aiL{bs:List dq}{ps:List Piece}{m:Nat}(h:aiK m gs)(l:oW):aiK (m+1) (ac0 bs ps gs l):=by
 rw[ac0];split
 ·refine⟨by rw[aQ];exact h.few,fun g u=>?_⟩;rcases m_ u with u | u
  ·have:=h.len g u;omega
  subst u;have key:∀q:dW,(q.pieces.length<=1000000/\q.bores.length<=1000000/\q.pins.length<=m)->(zp (l.part,l.pin) q).pieces.length<=1000000/\(zp (l.part,l.pin) q).bores.length<=1000000/\(zp (l.part,l.pin) q).pins.length<=m+1:=fun q z=>by
   refine⟨z.1,z.2.1,?_⟩;show (q.pins++[_]).length<=m+1;rw[bJ,ij];omega
  refine key _ ?_;rw[dc];cases e:gs[(e7 bs ps gs l).toNat]? with
  | none=>simp
  | some q=>exact h.len q (aj e)
 exact⟨h.few,fun g u=>by have:=h.len g u;omega⟩
theorem aie{h:UK}:∀(gs:List dW) (k:Nat),0<=Reg.aaH h k gs->(Reg.aaH h k gs).toNat<k+gs.length
 | [],k,h0=>by rw[Reg.aaH]at h0;omega
 | g::gs,k,h0=>by
  rw[Reg.aaH]at h0 ⊢;split
  ·simp only[bN];omega
  rename_i c;rw[aa c]at h0;have:=aie gs (k+1) h0;simp only[bN];omega
theorem ajK{bs:List dq}{ps:List Piece}{l:oW}(u:0<=e7 bs ps gs l):(e7 bs ps gs l).toNat<gs.length:=by
 unfold e7 at u ⊢;split
 ·rename_i c;rw[ae c]at u;have:=aie gs 0 u;omega
 rename_i c;rw[aa c]at u;omega
theorem agJ(a:yr)(ok:ae1 a.bores)(af4:a.lands.length<=1000)(ps:List Piece)(hps:aiI ps)(T:List (List Int))(hTn:T.length=a.bores.length)(hTl:∀x∈T,x.length<=1000000)(hT:∀j,∀p∈T.getD j [],0<=p/\p<ps.length)(R:List dW)(hR:R=a.lands.foldl (ac0 a.bores ps) (kx a.bores T ps.length)):
  ai C 29 [.aU [.p (.sl (a.coppers.map rr)),.p (aE a.outline),.p (.sl (a.bores.map bc)),.p (.sl (a.lands.map lc)),.p (.sl (w8 ps)),.p (.sl (mi ps)),.row 59 [],.p (.sl (T.map ils))]] (.tu []) [.aU [.p (.sl (a.coppers.map rr)),.p (aE a.outline),.p (.sl (a.bores.map bc)),.p (.sl (a.lands.map lc)),.p (.sl (w8 ps)),.p (.sl (mi ps)),.row 59 (R.map DZ),.p (.sl (T.map ils))]]:=by
 have lb:=an a.bores bc;have ll:=an a.lands lc;have lT:=an T ils;have lp:(mi ps).length=ps.length:=E5 ..;have few:=hps.few;have ajh:=ok.few;obtain⟨n,hn⟩:∃n,n=ps.length:=⟨_,rfl⟩;rw[<-hn]at hT hR;refine ZF ⟨[16],[],[(5,[100000,1100000]),(17,[6,1000006,90002,1090002,100000,1100000])],[5,17],[(5,[true,true,false,false,false,true,true,true,false,true,true,true,true,true]),(17,[true,false,false,false,true,true,true,true,true,true,true,true,true,true,true,true,true,true,true,false,true,true,true])],[]⟩ hC Tryz.func29 rfl (by kernel_rfl) fun _=>⟨_,aA.open hC _ 100000 [90002] (by exact rfl) rfl rfl rfl,?_⟩;refine⟨⟨by omega,by omega,by dsimp only;omega,by omega⟩,?_⟩;have h0:(List.replicate (mi ps).length [bool false])=bits (w7 T n 0).1:=by rw[bits,w7,lp,<-hn];simp
 refine aP (fun i:Nat=>i<=n) (fun i=>[(0,.bx 100000 0),(2,.ow 2),(3,.p (i64 i))]) (fun i=>[(100000,.box [.p (.sl (a.coppers.map rr)),.p (aE a.outline),.p (.sl (a.bores.map bc)),.p (.sl (a.lands.map lc)),.p (.sl (w8 ps)),.p (.sl (mi ps)),.ow 90002,.p (.sl (T.map ils))]),(2,.row 4 (bits (w7 T n i).1)),(90002,.row 59 ((w7 T n i).2.map PE))]) (fun i=>n-i) 0 _ (aA.refl _ _) (ak _) ⟨Z,Z,Z,Y⟩ ⟨rfl,ar (AB.row _) h0,Z,Y⟩ fun i hi t h=>?_;obtain⟨f1,f2,f3⟩:=Reg.acd (by omega) (by omega) hT i hi;have J:=Reg.acW T n i;apply iW<;>intro g1
 ·have g1:i<n:=by omega
  generalize w7 T n i=s at *;obtain⟨D,G⟩:=s;simp only at f1 f2 f3;obtain⟨d,hd⟩:=ax (l:=D) (i:=i) (by omega);have eD:=aba (d:=true) hd;have lD:=aa_ D;have lG:=an G PE;refine⟨⟨by omega,by dsimp only;omega⟩,[bool d],(aaD rfl hd),iW ?_ ?_⟩<;>intro W
  ·have W:d=false:=by simpa using W
   rw[aaw,aa (by simp only;rw[eD,W];decide)]at J;refine⟨.ag (PE ⟨(ly T n i D).pieces,(ly T n i D).bores,[]⟩),bits (ly T n i D).seen,(fun ys Wi=>by
    obtain⟨x0,x1,x2,x3,x4,x5,x6,rfl⟩:=alC (by exact Wi);exact aga T n (by omega) (by omega) hTl hT D f1 i (by omega) (by rw[eD,W]) x0 x1 x2 x3 x4 x5 x6),(fun c hc=>by
    change c∈[AV.p (.sl (a.coppers.map rr)),AV.p (aE a.outline),AV.p (.sl (a.bores.map bc)),AV.p (.sl (a.lands.map lc)),AV.p (.sl (w8 ps)),AV.p (.sl (mi ps)),AV.ow 90002,AV.p (.sl (T.map ils))]at hc;simp only[L8,Gc,or_false]at hc;rcases hc with rfl | rfl | rfl | rfl | rfl | rfl | rfl | rfl<;>rfl),aid _,ahv _,?_⟩
   exact⟨⟨fun r V=>by simp at V;subst V;rfl,by simp only[lG,bN,kv,aQ,bX];omega,by simp only[lG,bN,kv,aQ,bX];omega⟩,wO (by omega),i+1,_,aA.N0 _ 38 90002 (by decide) (by decide),by omega,by omega,⟨Z,Z,Z,Y⟩,⟨rfl,by rw[J];rfl,by rw[J,E8];rfl,trivial⟩⟩
  have W:d=true:=by simpa using W
  rw[aaw,ae (by simp only;rw[eD,W])]at J;exact⟨wO (by omega),(i+1),_,aA.refl _ _,by omega,by omega,⟨Z,Z,Z,Y⟩,⟨rfl,by rw[J];rfl,by rw[J];rfl,trivial⟩⟩
 have e:i=n:=by omega
 subst e;obtain⟨G0,hG0⟩:∃G0,G0=(w7 T i i).2:=⟨_,rfl⟩;have hR:R=a.lands.foldl (ac0 a.bores ps) (aa0 a.bores T G0 T.length):=by rw[hR,hG0];rfl
 rw[<-hG0]at f2 f3;have lf:=ace a.bores T f2 f3;refine aP (fun j:Nat=>j<=T.length) (fun j=>[(0,.bx 100000 0),(4,.p (i64 j))]) (fun j=>[(100000,.box [.p (.sl (a.coppers.map rr)),.p (aE a.outline),.p (.sl (a.bores.map bc)),.p (.sl (a.lands.map lc)),.p (.sl (w8 ps)),.p (.sl (mi ps)),.ow 90002,.p (.sl (T.map ils))]),(90002,.row 59 ((aa0 a.bores T G0 j).map PE))]) (fun j=>T.length-j) 0 _ (aA.refl _ _) (ak _) ⟨Z,Z,Y⟩ ⟨rfl,by rw[hG0];rfl,trivial⟩ fun j hj t h=>?_;obtain⟨lf1,lf2⟩:=lf j;have J:=ac3 a.bores T G0 j;generalize hGe:aa0 a.bores T G0 j=G at *;have lG:=an G PE;apply iW<;>intro g3
 ·obtain⟨L,hL⟩:=ax (l:=T) (i:=j) (by omega);obtain⟨b,hb⟩:=ax (l:=a.bores) (i:=j) (by omega);have eT:=ae9 hL;have lL:=an L fun n=>[i64 n];have eb:gv a.bores j=b.plated:=by rw[gv,dc,hb];rfl
  rw[adE,eT,eb]at J;refine⟨(bc b),(idx rfl hb),iW ?_ ?_⟩<;>intro g4
  ·refine⟨(ils L),(idx rfl hL),iW ?_ ?_⟩<;>intro g5
   ·rw[ae ⟨g4,by omega⟩]at J;refine⟨⟨fun r V=>by simp at V;subst V;rfl,by simp only[lG,bN,kv,aQ,bX];omega,by simp only[lG,bN,kv,aQ,bX];omega⟩,wO (by omega),j+1,_,(aA.N0 _ 79 90002 (by decide) (by decide)).trans (aA.aiJ (by exact hC) _ 90002 (e:=59) (es:=G.map PE) (r:=[.im (.slice none 0 0),.sl [[i64 j]],.im (.slice none 0 0)]) (r':=PE ⟨[],[(j:Int)],[]⟩) (by exact rfl) (by exact rfl) (fun k x y N U=>?_)),?_⟩;rotate_left;exact⟨by omega,by omega,⟨Z,Z,Y⟩,⟨rfl,by rw[J,E8];rfl,trivial⟩⟩
    match k,N,U with
    | 0,N,U=>simp[PE]at N U;subst N;subst U;exact .inr ⟨rfl,rfl⟩
    | 1,N,U=>simp[PE]at N U;subst N;subst U;exact .inl rfl
    | 2,N,U=>simp[PE]at N U;subst N;subst U;exact .inl rfl
    | k+3,N,U=>simp at N
   rw[aa (fun c=>g5 (by omega))]at J;exact⟨wO (by omega),(j+1),_,aA.refl _ _,by omega,by omega,⟨Z,Z,Y⟩,⟨rfl,by rw[J];rfl,trivial⟩⟩
  rw[aa (fun c=>by rw[g4]at c;exact absurd c.1 (by decide))]at J;exact⟨wO (by omega),(j+1),_,aA.refl _ _,by omega,by omega,⟨Z,Z,Y⟩,⟨rfl,by rw[J];rfl,trivial⟩⟩
 have e:j=T.length:=by omega
 subst e;have MQ:∀g∈G,g.pins=[]:=fun g hg=>(lf2 g hg).1;have hok:aiK 0 G:=⟨by omega,fun g hg=>by obtain⟨b1,b2,b3⟩:=lf2 g hg;exact⟨b2,b3,by rw[b1];simp⟩⟩;refine aP (fun x:Nat×List dW=>(a.lands.drop x.1).foldl (ac0 a.bores ps) x.2=R/\aiK x.1 x.2/\x.1<=a.lands.length) (fun x=>[(0,.bx 100000 0),(5,.p (i64 x.1))]) (fun x=>[(100000,.box [.p (.sl (a.coppers.map rr)),.p (aE a.outline),.p (.sl (a.bores.map bc)),.p (.sl (a.lands.map lc)),.p (.sl (w8 ps)),.p (.sl (mi ps)),.ow 90002,.p (.sl (T.map ils))]),(90002,.aw 59 (x.2.map gh))]) (fun x=>a.lands.length-x.1) (0,G) _ (aA.toH (by exact hC) _ 90002 (e:=59) (es:=G.map PE) (by exact rfl)) ⟨by rw[hR,hGe];rfl,hok,ak _⟩ ⟨Z,Z,Y⟩ ⟨rfl,ar (AB.aw _) (XQ MQ),trivial⟩ fun ⟨i',gs⟩ hx t h=>?_;obtain⟨O,v2,v3⟩:=hx;simp only at O v2 v3;apply iW<;>intro g6<;>try simp only[zB]at g6
 ·obtain⟨l,hl⟩:=ax (l:=a.lands) (i:=i') (by omega);rw[drop_at hl,jN]at O;have v4:=aiL (bs:=a.bores) (ps:=ps) v2 l;have jy:=afs a ok l ps hps gs T v2.few fun g hg=>⟨(v2.len g hg).1,(v2.len g hg).2.1⟩;refine⟨(lc l),(idx rfl hl),?_⟩;by_cases c:0<=e7 a.bores ps gs l
  ·have klt:=ajK c;have KE:ac0 a.bores ps gs l=gs.set (e7 a.bores ps gs l).toNat (zp (l.part,l.pin) (gs.getD (e7 a.bores ps gs l).toNat ⟨[],[],[]⟩)):=by rw[ac0,ae c]
   rw[KE]at O v4;have ek:((e7 a.bores ps gs l).toNat:Int)=e7 a.bores ps gs l:=jh c;generalize e7 a.bores ps gs l=kk at *;obtain⟨k,rfl⟩:∃k:Nat,kk=k:=⟨kk.toNat,by omega⟩;rw[FY]at O v4 klt;obtain⟨u,hgk⟩:=ax (l:=gs) (i:=k) klt;have egg:gs.getD k ⟨[],[],[]⟩=u:=by rw[dc,hgk];rfl
   rw[egg]at O v4;have qH:=(v2.len u (aj hgk)).2.2;have lgs:(gs.map gh).length=gs.length:=E5 _;have lpp:=an u.pins pc;have aoh:=v2.few;refine⟨[.ip (rbc a ps gs T),.ag (lc l)],_,.cons (.box 100000 0 _ (rbc a ps gs T) (by exact rfl) (.cons (.p _) (.cons (.p _) (.cons (.p _) (.cons (.p _) (.cons (.p _) (.cons (.p _) (.cons (.aw 90002 59 (gs.map gh) (gs.map DZ) (by exact ar (AB.aw _) (by simp only[EZ])) (Ly _)) (.cons (.p _) .nil))))))))) (.cons (.one (.p _)) .nil),jy,rfl,?_⟩;refine abA (aA.UO (by exact hC) _ 90002 k 90200 (e:=59) (by decide) (by decide) (by exact ar (AB.aw _) (by simp only[EZ])) hgk (by exact rfl) (by decide)) ?_;have I:((gs.map gh).set k [.av (.p (ints u.pieces)),.av (.p (ints u.bores)),.av (.ow 90200)])[k]?=some [.av (.p (ints u.pieces)),.av (.p (ints u.bores)),.av (.ow 90200)]:=dZ (by rw[lgs];omega);refine⟨⟨by omega,by simp only[E5,aQ];omega⟩,[.av (.p (ints u.pieces)),.av (.p (ints u.bores)),.av (.ow 90200)],(by first | exact I | (rw[lQ];exact I;rfl) | (rw[lQ,lQ];exact I;rfl;rfl) | (rw[lQ,lQ,lQ];exact I;rfl;rfl;rfl)),⟨fun r V=>by simp at V;subst V;rfl,by simp only[lpp,aQ,bX];omega,by simp only[lpp,aQ,bX];omega⟩,⟨by omega,by simp only[E5,aQ];omega⟩,[.av (.p (ints u.pieces)),.av (.p (ints u.bores)),.av (.ow 90200)],(by first | exact I | (rw[lQ];exact I;rfl) | (rw[lQ,lQ];exact I;rfl;rfl) | (rw[lQ,lQ,lQ];exact I;rfl;rfl;rfl)),wO (by omega),?_⟩;have adl:((gs.map gh).set k [.av (.p (ints u.pieces)),.av (.p (ints u.bores)),.av (.ow 124)]).set k (([.av (.p (ints u.pieces)),.av (.p (ints u.bores)),.av (.ow 124)]:List HX).set 2 (.row 49 ((u.pins++[(l.part,l.pin)]).map pc)))=(gs.set k (zp (l.part,l.pin) u)).map gh:=by
    rw[GA,w_];congr 1;show _=[.av (.p (ints u.pieces)),.av (.p (ints u.bores)),Pc (u.pins++[(l.part,l.pin)])];rw[UP];rfl
   refine⟨(i'+1,gs.set k (zp (l.part,l.pin) u)),_,aA.H7 (by exact hC) _ 90002 k 2 124 (e:=59) (es:=(gs.map gh).set k [.av (.p (ints u.pieces)),.av (.p (ints u.bores)),.av (.ow 124)]) (r:=[.av (.p (ints u.pieces)),.av (.p (ints u.bores)),.av (.ow 124)]) (e':=49) (xs:=(u.pins++[(l.part,l.pin)]).map pc) (by decide) (by exact ar (AB.aw _) (by refine (ar (fun z=>List.set z ((k:Int).toNat) ([.av (.p (ints u.pieces)),.av (.p (ints u.bores)),.av (.ow 124)]:List HX)) (show List.map (fun r=>List.map (HX.dn (sc 124)) r) (List.map (fun r=>List.map (HX.dn (sc 123)) r) ((gs.map gh).set k [.av (.p (ints u.pieces)),.av (.p (ints u.bores)),.av (.ow 90200)]))=(gs.map gh).set k [.av (.p (ints u.pieces)),.av (.p (ints u.bores)),.av (.ow 90200)] by rw[lQ,lQ];all_goals rfl)).trans ?_;rw[FY,GA])) (by exact ar (AB.row _) (by rw[E8];rfl)) (dZ (by rw[lgs];omega)) (by exact rfl),?_⟩;exact⟨⟨O,v4,by simp only;omega⟩,by simp only;omega,⟨Z,Z,Y⟩,⟨rfl,ar (AB.aw _) adl,trivial⟩⟩
  have KE:ac0 a.bores ps gs l=gs:=by rw[ac0,aa c]
  rw[KE]at O v4;refine⟨[.ip (rbc a ps gs T),.ag (lc l)],_,.cons (.box 100000 0 _ (rbc a ps gs T) (by exact rfl) (.cons (.p _) (.cons (.p _) (.cons (.p _) (.cons (.p _) (.cons (.p _) (.cons (.p _) (.cons (.aw 90002 59 (gs.map gh) (gs.map DZ) (by exact ar (AB.aw _) (by simp only[EZ])) (Ly _)) (.cons (.p _) .nil))))))))) (.cons (.one (.p _)) .nil),jy,rfl,?_⟩;refine abA (aA.refl _ _) ?_;apply iW<;>intro g7
  ·exfalso;omega
  exact⟨wO (by omega),(i'+1,gs),_,aA.refl _ _,⟨O,v4,by simp only;omega⟩,by simp only;omega,⟨Z,Z,Y⟩,⟨rfl,ar (AB.aw _) (by simp only[EZ,Sz]),trivial⟩⟩
 rw[jR (by omega)]at O;have O:gs=R:=O;subst O;refine⟨_,aA.QZ (by exact hC) _ 90002 (gs.map DZ) (e:=59) (by exact ar (AB.aw _) (by simp only[EZ,Sz])) (Ly _),?_⟩;exact And.intro rfl (And.intro ⟨Z,Z,Z,Z,Z,Z,Z,Z,Z,Y⟩ trivial)
open Reg (gy mE gf iO aa3 er fP aX abp)
theorem ajL{a:yr}(u:ahO a):aiI (aX a).pieces:=⟨u.few,fun p hp=>(u.pc p hp).sok,fun p hp=>aS (u.pc p hp).few (by decide)⟩
theorem aiM{a:yr}(u:xY a):ae1 a.bores:=⟨u.few,abC u⟩
theorem ac4(b:dq)(ps:List Piece)(k:Nat):er b ps (k+1)=if b.plated=true/\aa3 b (ps.getD k ⟨0,[]⟩)=true then er b ps k++[(k:Int)] else er b ps k:=by
 unfold er;by_cases c:b.plated=true
 ·rw[ae c,ae c,rG,nt,E8];by_cases d:aa3 b (ps.getD k ⟨0,[]⟩)=true
  ·rw[ae ⟨c,d⟩,kJ,ae d];rfl
  rw[aa (fun e=>d e.2),kJ,aa d];simp
 rw[aa c,aa c,aa (fun e=>c e.1)]
theorem adP(b:dq)(ps:List Piece):∀k,(er b ps k).length<=k
 | 0=>by unfold er;split<;>simp
 | k+1=>by
  have:=adP b ps k;rw[ac4];split
  ·rw[bJ,ij];omega
  omega
theorem aif{s:List aR}(h:ac8 s)(u:(told s).length<=2000):aew (told s):=⟨u,Reg.nW h.sok,fun q z=>by
 have:=Reg.ux h.sok h.ink q z;unfold RK at this ⊢;omega⟩
theorem aft(a:yr)(ho:gw a=0):ai C 13 [.pv (.ag (uR a))] (.p (.ip (rbc a (aX a).pieces (aX a).placed.groups (aX a).fP))) []:=by
 have U:=abV ho;obtain⟨_,hd,_⟩:=afC ho;rw[Reg.pN,aJ,fV]at hd;have I:=U.art;have ok:=aiM I;have J:=ajL U;have alD:∀p∈(aX a).pieces,gy 1000000 p.set:=fun p hp=>(U.pc p hp).ink;have ajh:=I.few;have RA:=I.cop;have few:=U.few;have lb:=an a.bores bc;have lk:=an a.coppers fun r=>[aE r];have alE:=agJ a ok I.lan (aX a).pieces J (aX a).fP (Reg.aaF _ _) (fun x hx=>by
   obtain⟨b,_,rfl⟩:=aZ.1 hx;exact aS (Reg.C9 b (aX a).pieces 0) (by omega)) (fun j p hp=>by
   rw[dc]at hp;cases e:(aX a).fP[j]? with
   | none=>rw[e]at hp;cases hp
   | some x=>rw[e]at hp;exact Reg.acs a.bores (aX a).pieces x (aj e) p hp) (aX a).placed.groups (Reg.afr (abC I) fun r z q hq=>(aff (I.reg r z)).full q hq).symm
 have hT':(aX a).fP=a.bores.map fun b=>er b (aX a).pieces (aX a).pieces.length:=qY fun b hb=>(Reg.ags (Reg.mC (abC I b hb)) J.sok).symm;have V:gf a.bores 0 a.coppers=(aX a).pieces:=rfl;clear U;generalize (aX a).fP=T at *;generalize (aX a).pieces=ps at *;generalize (aX a).placed.groups=GG at *;refine FP ⟨[21,22],[],[],[10],[],[]⟩ hC Tryz.func13 rfl (by kernel_rfl) fun _=>?_;refine aP (fun x:Nat×List Piece=>x.2++gf a.bores x.1 (a.coppers.drop x.1)=ps/\x.1<=a.coppers.length) (fun x=>[(1,.bx 1 0),(3,.bx 12 0),(4,.p (i64 x.1))]) (fun x=>[(1,.box ((uR a).map .p)),(12,.box [.p (.sl (a.coppers.map rr)),.p (aE a.outline),.p (.sl (a.bores.map bc)),.p (.sl (a.lands.map lc)),.ow 90000,.ow 90001,.ow 90002,.ow 90003]),(90000,.row 3 (w8 x.2)),(90001,.row 28 (mi x.2)),(90002,.row 59 []),(90003,.row 54 [])]) (fun x=>a.coppers.length-x.1) (0,[]) _ ((aA.vh (by exact hC) _ 12 4 [.p (.sl (a.coppers.map rr)),.p (aE a.outline),.p (.sl (a.bores.map bc)),.p (.sl (a.lands.map lc)),.p (.im (.slice none 0 0)),.p (.im (.slice none 0 0)),.p (.im (.slice none 0 0)),.p (.im (.slice none 0 0))] (by exact rfl) (by exact rfl)).trans ((aA.gH (by exact hC) _ 12 4 90000 3 _ [.p (.sl (a.coppers.map rr)),.p (aE a.outline),.p (.sl (a.bores.map bc)),.p (.sl (a.lands.map lc)),.nl,.p (.im (.slice none 0 0)),.p (.im (.slice none 0 0)),.p (.im (.slice none 0 0))] (by decide) (by decide) (by exact rfl) (by exact rfl) (by exact rfl) (by decide)).trans ((aA.vh (by exact hC) _ 12 5 [.p (.sl (a.coppers.map rr)),.p (aE a.outline),.p (.sl (a.bores.map bc)),.p (.sl (a.lands.map lc)),.ow 90000,.p (.im (.slice none 0 0)),.p (.im (.slice none 0 0)),.p (.im (.slice none 0 0))] (by exact rfl) (by exact rfl)).trans ((aA.gH (by exact hC) _ 12 5 90001 28 _ [.p (.sl (a.coppers.map rr)),.p (aE a.outline),.p (.sl (a.bores.map bc)),.p (.sl (a.lands.map lc)),.ow 90000,.nl,.p (.im (.slice none 0 0)),.p (.im (.slice none 0 0))] (by decide) (by decide) (by exact rfl) (by exact rfl) (by exact rfl) (by decide)).trans ((aA.vh (by exact hC) _ 12 6 [.p (.sl (a.coppers.map rr)),.p (aE a.outline),.p (.sl (a.bores.map bc)),.p (.sl (a.lands.map lc)),.ow 90000,.ow 90001,.p (.im (.slice none 0 0)),.p (.im (.slice none 0 0))] (by exact rfl) (by exact rfl)).trans ((aA.gH (by exact hC) _ 12 6 90002 59 _ [.p (.sl (a.coppers.map rr)),.p (aE a.outline),.p (.sl (a.bores.map bc)),.p (.sl (a.lands.map lc)),.ow 90000,.ow 90001,.nl,.p (.im (.slice none 0 0))] (by decide) (by decide) (by exact rfl) (by exact rfl) (by exact rfl) (by decide)).trans ((aA.vh (by exact hC) _ 12 7 [.p (.sl (a.coppers.map rr)),.p (aE a.outline),.p (.sl (a.bores.map bc)),.p (.sl (a.lands.map lc)),.ow 90000,.ow 90001,.ow 90002,.p (.im (.slice none 0 0))] (by exact rfl) (by exact rfl)).trans (aA.gH (by exact hC) _ 12 7 90003 54 _ [.p (.sl (a.coppers.map rr)),.p (aE a.outline),.p (.sl (a.bores.map bc)),.p (.sl (a.lands.map lc)),.ow 90000,.ow 90001,.ow 90002,.nl] (by decide) (by decide) (by exact rfl) (by exact rfl) (by exact rfl) (by decide))))))))) ⟨V,ak _⟩ ⟨Z,Z,Z,Y⟩ ⟨Z,Z,Z,Z,Z,Z,Y⟩ fun ⟨i,D⟩ hx t h=>?_;obtain⟨x1,x2⟩:=hx;simp only at x1 x2;apply iW<;>intro g1<;>try simp only[zB]at g1
 ·obtain⟨r,z⟩:=ax (l:=a.coppers) (i:=i) (by omega);have W:=I.reg r (aj z);have hfw:=Reg.ad3 hd.1 i r z;rw[show (0:Int)+(i:Int)=i by omega]at hfw;have dr:=C6 (abC I) ajh i W;rw[drop_at z,gf]at x1;have Y8:=abR a ok i r z W;have N:=acQ (told (mE a.bores i r)) (aif dr hfw);have epp:rgs (abp (told (mE a.bores i r)))=.sl (mi ((iO (mE a.bores i r)).map fun s=>(⟨(i:Int),s⟩:Piece))):=by
   rw[Reg.acJ dr.sok,rgs,mi,Mu,Mu];rfl
  rw[epp]at N;obtain⟨u,O⟩:∃u:List Piece,u=(iO (mE a.bores i r)).map fun s=>(⟨(i:Int),s⟩:Piece):=⟨_,rfl⟩;have XO:∀p∈u,p.layer=i:=fun p hp=>by rw[O]at hp;obtain⟨s,_,rfl⟩:=aZ.1 hp;rfl
  have x1:D++(u++gf a.bores ((i:Int)+1) (a.coppers.drop (i+1)))=ps:=by rw[O];exact x1
  rw[<-O]at N;clear epp;have lPP:(mi u).length=u.length:=E5 ..;have tot:D.length+u.length<=ps.length:=by rw[<-x1,bJ,bJ];omega
  refine⟨_,_,Y8,_,_,N,?_⟩;refine aP (fun k:Nat=>k<=u.length) (fun k=>[(1,.bx 1 0),(3,.bx 12 0),(4,.p (i64 i)),(5,.p (.sl (mi u))),(6,.p (i64 k))]) (fun k=>[(1,.box ((uR a).map .p)),(12,.box [.p (.sl (a.coppers.map rr)),.p (aE a.outline),.p (.sl (a.bores.map bc)),.p (.sl (a.lands.map lc)),.ow 90000,.ow 90001,.ow 90002,.ow 90003]),(90000,.row 3 (w8 (D++u.take k))),(90001,.row 28 (mi (D++u.take k))),(90002,.row 59 []),(90003,.row 54 [])]) (fun k=>u.length-k) 0 _ (aA.refl _ _) (ak _) ⟨Z,Z,Z,Z,Z,Y⟩ ⟨rfl,rfl,by rw[uz,aq];rfl,by rw[uz,aq];rfl,Z,Z,Y⟩ fun k hk t h=>?_;have lqs:(D++u.take k).length=D.length+k:=by rw[bJ,cE];omega
  have lpl:(w8 (D++u.take k)).length=D.length+k:=by rw[w8,E5,lqs]
  have R:(mi (D++u.take k)).length=D.length+k:=by rw[mi,E5,lqs]
  apply iW<;>intro g2
  ·obtain⟨p,hp⟩:=ax (l:=u) (i:=k) (by omega);have hl:=XO p (aj hp);refine⟨⟨fun r z=>by simp at z;subst z;rfl,by simp only[lpl,bN,kv,aQ,bX];omega,by simp only[lpl,bN,kv,aQ,bX];omega⟩,[aE (told p.set)],(idx rfl hp),⟨fun r z=>by simp at z;subst z;rfl,by simp only[R,bN,kv,aQ,bX];omega,by simp only[R,bN,kv,aQ,bX];omega⟩,wO (by omega),k+1,_,(aA.N0 _ 37 90000 (by decide) (by decide)).trans (aA.N0 _ 50 90001 (by decide) (by decide)),?_⟩;have e1:D++u.take (k+1)=(D++u.take k)++[p]:=by rw[bq hp,d_]
   have ep1:w8 (D++u.take (k+1))=w8 (D++u.take k)++[[i64 i]]:=by rw[e1,w8,w8,E8,Bi,hl]
   have ep2:mi (D++u.take (k+1))=mi (D++u.take k)++[[aE (told p.set)]]:=by rw[e1,mi,mi,E8,Bi]
   exact⟨by omega,by omega,⟨Z,Z,Z,Z,Z,Y⟩,⟨rfl,rfl,ar (AB.row _) ep1.symm,ar (AB.row _) ep2.symm,Z,Z,Y⟩⟩
  have e:u.take k=u:=kG (by omega);rw[e];exact⟨wO (by omega),(i+1,D++u),_,aA.refl _ _,⟨by rw[d_];exact x1,by simp only;omega⟩,by simp only;omega,⟨Z,Z,Z,Y⟩,⟨Z,Z,Z,Z,Z,Z,Y⟩⟩
 rw[jR (by omega),gf,aq]at x1;have x1:ps=D:=x1.symm;subst x1;clear V;have R:(mi ps).length=ps.length:=E5 ..;refine aP (fun i:Nat=>i<=a.bores.length) (fun i=>[(1,.bx 1 0),(3,.bx 12 0),(7,.p (i64 i))]) (fun i=>[(1,.box ((uR a).map .p)),(12,.box [.p (.sl (a.coppers.map rr)),.p (aE a.outline),.p (.sl (a.bores.map bc)),.p (.sl (a.lands.map lc)),.p (.sl (w8 ps)),.p (.sl (mi ps)),.ow 90002,.ow 90003]),(90002,.row 59 []),(90003,.row 54 (((a.bores.take i).map fun b=>er b ps ps.length).map ils))]) (fun i=>a.bores.length-i) 0 _ ((aA.gI (by exact hC) _ 12 4 90000 3 (w8 ps) [.p (.sl (a.coppers.map rr)),.p (aE a.outline),.p (.sl (a.bores.map bc)),.p (.sl (a.lands.map lc)),.ow 90000,.ow 90001,.ow 90002,.ow 90003] (by decide) (by exact rfl) (by exact rfl) (by exact rfl)).trans (aA.gI (by exact hC) _ 12 5 90001 28 (mi ps) [.p (.sl (a.coppers.map rr)),.p (aE a.outline),.p (.sl (a.bores.map bc)),.p (.sl (a.lands.map lc)),.p (.sl (w8 ps)),.ow 90001,.ow 90002,.ow 90003] (by decide) (by exact rfl) (by exact rfl) (by exact rfl))) (ak _) ⟨Z,Z,Z,Y⟩ ⟨Z,Z,Z,Z,Y⟩ fun i hi t h=>?_;have L:((((a.bores.take i).map fun b=>er b ps ps.length)).map ils).length=i:=by rw[E5,E5,cE];omega
 apply iW<;>intro g2
 ·obtain⟨b,hb⟩:=ax (l:=a.bores) (i:=i) (by omega);have Hg:=ok.ok b (aj hb);have alG:adT (bM b):=by
   have h1:=Reg.uC Hg;obtain⟨h2,h3⟩:=Reg.mC Hg;unfold RK at h1;unfold adT;omega
  refine aP (fun k:Nat=>k<=ps.length/\(b.plated=true\/k=0)) (fun k=>[(1,.bx 1 0),(3,.bx 12 0),(7,.p (i64 i)),(8,.ow 8),(9,.p (i64 k))]) (fun k=>[(1,.box ((uR a).map .p)),(12,.box [.p (.sl (a.coppers.map rr)),.p (aE a.outline),.p (.sl (a.bores.map bc)),.p (.sl (a.lands.map lc)),.p (.sl (w8 ps)),.p (.sl (mi ps)),.ow 90002,.ow 90003]),(90002,.row 59 []),(90003,.row 54 (((a.bores.take i).map fun b=>er b ps ps.length).map ils)),(8,.row 3 (aK (er b ps k)))]) (fun k=>ps.length-k) 0 _ (aA.eK hC _ 8 3 _ (by decide) rfl rfl (by decide)) ⟨ak _,.inr rfl⟩ ⟨Z,Z,Z,Z,Z,Y⟩ ⟨rfl,rfl,rfl,rfl,by (have e0:er b ps 0=[]:=by unfold er;split<;>rfl);rw[e0];rfl,trivial⟩ fun k hk t h=>?_;obtain⟨k1,k2⟩:=hk;have ltt:=adP b ps k;have lct:=cA (er b ps k);have fin:(¬k<ps.length\/¬b.plated=true)->er b ps k=er b ps ps.length:=fun c=>by
   rcases c with c | c
   ·rw[show k=ps.length by omega]
   unfold er;rw[aa c,aa c]
  have tail:∀g3:(¬k<ps.length\/¬b.plated=true),((a.bores.take (i+1)).map fun b=>er b ps ps.length).map ils=(((a.bores.take i).map fun b=>er b ps ps.length).map ils)++[ils (er b ps k)]:=fun g3=>by
   rw[bq hb,E8,E8,fin g3];rfl
  apply iW<;>intro g3
  ·obtain⟨p,hp⟩:=ax (l:=ps) (i:=k) (by omega);have ep:ps.getD k ⟨0,[]⟩=p:=by rw[dc,hp];rfl
   have r9:=ac4 b ps k;rw[ep]at r9;have psk:=J.sok p (aj hp);have psl:=J.len p (aj hp);have alH:∀q∈told p.set,adT q:=fun q hq=>by
    have h1:=Reg.ux psk (alD p (aj hp)) q hq;obtain⟨h2,h3⟩:=Reg.nW psk q hq;unfold RK at h1;unfold adT;omega
   refine⟨(bc b),(idx rfl hb),iW ?_ ?_⟩<;>intro g4
   ·refine⟨(bc b),(idx rfl hb),[i64 p.layer],(idx rfl hp),_,_,(abn b p.layer),?_⟩;have no:aa3 b p=false->er b ps (k+1)=er b ps k:=fun c=>by rw[r9,aa (fun e=>by rw[c]at e;exact absurd e.2 (by decide))]
    apply iW<;>intro g5
    ·refine⟨[aE (told p.set)],(idx rfl hp),(bc b),(idx rfl hb),_,_,(tn b Hg),_,_,(aht (told p.set) (bM b) alH alG psl),iW ?_ ?_⟩<;>intro g6
     ·rw[ae ⟨g4,by simp only[aa3];rw[g5,g6];rfl⟩]at r9;exact⟨⟨fun r z=>by simp at z;subst z;rfl,by simp only[lct,bN,kv,aQ,bX];omega,by simp only[lct,bN,kv,aQ,bX];omega⟩,wO (by omega),(k+1),_,aA.refl _ _,⟨by omega,.inl g4⟩,by omega,⟨Z,Z,Z,Z,Z,Y⟩,⟨rfl,rfl,rfl,rfl,by rw[r9];exact ar (AB.row _) (mF _ _).symm,trivial⟩⟩
     have e:=no (by simp only[aa3];rw[g5,g6];rfl);exact⟨wO (by omega),(k+1),_,aA.refl _ _,⟨by omega,.inl g4⟩,by omega,⟨Z,Z,Z,Z,Z,Y⟩,⟨rfl,rfl,rfl,rfl,by rw[e];rfl,trivial⟩⟩
    have e:=no (by simp only[aa3];rw[g5];rfl);exact⟨wO (by omega),(k+1),_,aA.refl _ _,⟨by omega,.inl g4⟩,by omega,⟨Z,Z,Z,Z,Z,Y⟩,⟨rfl,rfl,rfl,rfl,by rw[e];rfl,trivial⟩⟩
   have e:=tail (.inr (by rw[g4];decide));exact⟨⟨fun r z=>by simp at z;subst z;rfl,by simp only[L,bN,kv,aQ,bX];omega,by simp only[L,bN,kv,aQ,bX];omega⟩,wO (by omega),i+1,_,aA.N0 _ 117 90003 (by decide) (by decide),by omega,by omega,⟨Z,Z,Z,Y⟩,⟨rfl,rfl,rfl,by rw[e];rfl,trivial⟩⟩
  have e:=tail (.inl (by omega));exact⟨⟨fun r z=>by simp at z;subst z;rfl,by simp only[L,bN,kv,aQ,bX];omega,by simp only[L,bN,kv,aQ,bX];omega⟩,wO (by omega),i+1,_,aA.N0 _ 117 90003 (by decide) (by decide),by omega,by omega,⟨Z,Z,Z,Y⟩,⟨rfl,rfl,rfl,by rw[e];rfl,trivial⟩⟩
 have e:a.bores.take i=a.bores:=kG (by omega);rw[e,<-hT'];refine abA ((aA.gI (by exact hC) _ 12 7 90003 54 (T.map ils) [.p (.sl (a.coppers.map rr)),.p (aE a.outline),.p (.sl (a.bores.map bc)),.p (.sl (a.lands.map lc)),.p (.sl (w8 ps)),.p (.sl (mi ps)),.ow 90002,.ow 90003] (by decide) (by exact rfl) (by exact rfl) (by exact rfl)).trans (aA.pack (by exact hC) _ 12 (cs:=[.p (.sl (a.coppers.map rr)),.p (aE a.outline),.p (.sl (a.bores.map bc)),.p (.sl (a.lands.map lc)),.p (.sl (w8 ps)),.p (.sl (mi ps)),.row 59 [],.p (.sl (T.map ils))]) (by exact rfl) (by exact rfl) (by exact⟨Z,Z,Z,Z,Z,Z,Z,Z,Y⟩))) ?_;refine⟨_,_,alE,?_⟩;refine abA ((aA.open (by exact hC) _ 12 [90002] (cs:=[.p (.sl (a.coppers.map rr)),.p (aE a.outline),.p (.sl (a.bores.map bc)),.p (.sl (a.lands.map lc)),.p (.sl (w8 ps)),.p (.sl (mi ps)),.row 59 (GG.map DZ),.p (.sl (T.map ils))]) (by exact rfl) rfl rfl rfl).trans (aA.gI (by exact hC) _ 12 6 90002 59 (GG.map DZ) [.p (.sl (a.coppers.map rr)),.p (aE a.outline),.p (.sl (a.bores.map bc)),.p (.sl (a.lands.map lc)),.p (.sl (w8 ps)),.p (.sl (mi ps)),.ow 90002,.p (.sl (T.map ils))] (by decide) (by exact rfl) (by exact rfl) (by exact rfl))) ?_;refine⟨?_,trivial⟩;rfl
end M
end Go.Proofs.YtliffnpbaeijgaaGreatDoor
