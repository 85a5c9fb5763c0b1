/- Part 14 of the proof of RulesRoomMatchSpec. -/
import Derived.Test.YtfloceomobknoaaGreatDoorR13
set_option linter.unusedVariables false
set_option linter.unusedSimpArgs false
set_option maxRecDepth 100000
set_option maxHeartbeats 8000000
namespace Go.Proofs.YtfloceomobknoaaGreatDoor
namespace Reg
theorem s7(bs:List aS)(ps:List Piece):∀x∈bB bs ps,∀p∈x,0<=p/\p<(ps.length:Int):=fun x z p hp=>by
 obtain⟨b,_,rfl⟩:=adS.1 z;have:=rE b ps 0 p hp;omega
theorem aeO(bs:List aS)(ps:List Piece):(bB bs ps).length=bs.length:=by rw[bB,aej]
theorem Ac{b:aS}(h:b.plated=false):∀(ps:List Piece) (k:Nat),fu b k ps=[]
 | [],k=>rfl
 | p::ps,k=>by
  rw[fu,aaa (by rw[fX,h];simp)];exact Ac h ps (k+1)
theorem uT{bs:List aS}{ps:List Piece}{j:Nat}(z:j<(bB bs ps).length)(h:bD bs j=false):(bB bs ps).getD j []=[]:=by
 rw[aeO]at z;rw[bB,aav,aak,acg z];refine Ac ?_ ps 0;rw[bD,aav,acg z]at h;exact h
theorem Oa{a:fS}(hb:∀b∈a.bores,bO b=true)(J:∀r∈a.coppers,∀q∈r,Full q):(∀p∈(aC a).pieces,bE p.set)/\NS a.bores (aC a).pieces:=by
 have key:∀p∈(aC a).pieces,bE p.set/\∀b∈a.bores,∀x y,through b p.layer=true->dE x y (aa b)=true->at' p.set x y=false:=fun p hp=>by
  obtain⟨i,r,L,N,O⟩:=mH hp;obtain⟨R,a2,_⟩:=aR (J r (aad L));obtain⟨U,V,_⟩:=aR (l:=bq a.bores (0+i)) fun q W=>by
   obtain⟨b,Y,rfl⟩:=adS.1 W;exact bX (hb b (adu.1 Y).1)
  obtain⟨Z,c2,_⟩:=b6 R U;obtain⟨d1,_,d3,_⟩:=rD Z O;refine⟨d1,fun b z x y D I=>?_⟩;rw[aaV];intro g;have:=d3 x y g;rw[c2,V,aaZ,ael]at this;have h4:=ajd.1 this.2 (aa b) (adS.2 ⟨b,adu.2 ⟨z,by rw[<-N];exact D⟩,rfl⟩);exact h4 I
 exact⟨fun p hp=>(key p hp).1,fun p hp b z x y D I=>by rw[iy (key p hp).1];exact (key p hp).2 b z x y D I⟩
theorem K_{bs:List aS}{ps:List Piece}(l:fo)(O:(il bs ps l).2=true):
  ∃k:Nat,(if (il bs ps l).1.bore=true then (jn bs ps.length (aP (cQ (jm ps.length bs.length (bB bs ps))) (ps.length+bs.length))).1.2 else (jn bs ps.length (aP (cQ (jm ps.length bs.length (bB bs ps))) (ps.length+bs.length))).1.1).getD (il bs ps l).1.num.toNat 0=k /\
   kY (il bs ps l).1 0 (dR bs (bB bs ps) ps.length)=k:=by
 have z:=s7 bs ps;have e:=uM (aeO bs ps) z fun j R h=>uT R h;have L:=(qM (bB bs ps) 0 _ (ny (ps.length+bs.length)) (aeM _) (by rw[aeO];omega) z);have ok:=vL L.1 L.2;have N:∀{k:Nat} {g:bh},(dR bs (bB bs ps) ps.length)[k]?=some g->dz (il bs ps l).1 g=true->kY (il bs ps l).1 0 (dR bs (bB bs ps) ps.length)=k:=fun {k g} hk hi=>by
  have:=NT (m:=0) hk hi fun i q U V=>H3 z U hk V hi;rw[abC]at this;exact this
 rcases zD l ps bs 0 O with⟨m,a,d⟩ | ⟨m,a,_,d,p⟩
 ·obtain⟨k,g,D,I,J⟩:=ok.a m d;have a:(il bs ps l).1=⟨false,m⟩:=a;refine⟨k,?_,N (by rw[e];exact I) ?_⟩
  ·rw[a];show List.getD _ (m:Int).toNat 0=_;rw[aaS,aav];exact adV (·.getD 0) D
  rw[a];simp[dz,oA,J]
 obtain⟨k,g,D,I,J⟩:=ok.b m (by omega) p;have a:(il bs ps l).1=⟨true,m⟩:=a;refine⟨k,?_,N (by rw[e];exact I) ?_⟩
 ·rw[a];show List.getD _ (m:Int).toNat 0=_;rw[aaS,aav];exact adV (·.getD 0) D
 rw[a];simp[dz,oA,J]
theorem DB{a:fS}(hb:∀b∈a.bores,bO b=true)(z:∀r∈a.coppers,∀q∈r,Full q):
  a.lands.foldl (s6 a.bores (aC a).pieces) (dR a.bores (aC a).bB (aC a).pieces.length)=(aC a).placed.groups:=by
 obtain⟨_,D⟩:=Oa hb z;refine B9 D (G:=dR a.bores (aC a).bB (aC a).pieces.length) (fun l hl=>K_ l hl) a.lands _ _ rfl ?_;exact (uM (aeO _ _) (s7 _ _) fun j I h=>uT I h).symm
def ofG:Nat->List bh->List Int->List Int
 | _,[],out=>out
 | i,g::r,out=>ofG (i+1) r (g.pieces.foldl (fun o p=>o.set p.toNat (i:Int)) out)
theorem agC(i:Int):∀(l:List Int) (o:List Int),(∀p∈l,0<=p/\p.toNat<o.length)->(l.foldl (fun o p=>o.set p.toNat i) o).length=o.length/\∀m:Nat,(l.foldl (fun o p=>o.set p.toNat i) o)[m]?=if (m:Int)∈l then some i else o[m]?
 | [],o,_=>⟨rfl,fun m=>by simp⟩
 | p::l,o,h=>by
  obtain⟨p0,z⟩:=h p adU;obtain⟨D,I⟩:=agC i l (o.set p.toNat i) fun q J=>by rw[aaM];exact h q (aaw _ J)
  refine⟨D.trans aaM,fun m=>?_⟩;rw[aaq,I,ahw z];by_cases c:(m:Int)∈l
  ·rw[aap c,aap (aaw _ c)]
  rw[aaa c];by_cases e:m=p.toNat
  ·rw[aap e,aap (adq.2 (.inl (by omega)))]
  rw[aaa e,aaa];intro g;rcases adq.1 g with g | g
  ·omega
  exact c g
theorem agT:∀(gs:List bh) (i:Nat) (out:List Int),(∀g∈gs,∀p∈g.pieces,0<=p/\p.toNat<out.length)->(ofG i gs out).length=out.length /\
  ∀m:Nat,((∀g∈gs,¬(m:Int)∈g.pieces)->(ofG i gs out)[m]?=out[m]?)/\∀k g,gs[k]?=some g->(m:Int)∈g.pieces->(∀j q,gs[j]?=some q->(m:Int)∈q.pieces->j=k)->(ofG i gs out)[m]?=some ((i+k:Nat):Int)
 | [],i,out,_=>⟨rfl,fun m=>⟨fun _=>rfl,fun k g hk=>by cases hk⟩⟩
 | g::gs,i,out,h=>by
  obtain⟨J,L⟩:=agC (i:Int) g.pieces out (h g adU);obtain⟨U,D⟩:=agT gs (i+1) (g.pieces.foldl (fun o p=>o.set p.toNat (i:Int)) out) fun q z p hp=>by rw[J];exact h q (aaw _ z) p hp
  refine⟨U.trans J,fun m=>⟨fun N=>?_,fun k q hk O R=>?_⟩⟩
  ·rw[ofG,(D m).1 fun q z=>N q (aaw _ z),L,aaa (N g adU)]
  rw[ofG];cases k with
  | zero=>
   injection hk with hk;subst hk;rw[(D m).1 fun q z V=>?_,L,aap O]
   ·rfl
   obtain⟨j,I⟩:=ab8.1 z;have:=R (j+1) q (by simpa using I) V;omega
  | succ k=>
   rw[(D m).2 k q (by simpa using hk) O fun j r I W=>by have:=R (j+1) r (by simpa using I) W;omega];rw[show i+1+k=i+(k+1) by omega]
theorem ahj{a:fS}(G:List bh)(O:G.map bare=(dR a.bores (aC a).bB (aC a).pieces.length).map bare):ofG 0 G (List.replicate (aC a).pieces.length 0)=(aC a).ofPiece:=by
 have L:=s7 a.bores (aC a).pieces;have e:=uM (aeO a.bores (aC a).pieces) L fun j N h=>uT N h;have R:=(qM (bB a.bores (aC a).pieces) 0 _ (ny ((aC a).pieces.length+a.bores.length)) (aeM _) (by rw[aeO];omega) L);have ok:=vL R.1 R.2;have back:∀{k:Nat} {g:bh},G[k]?=some g->∃q,(dR a.bores (aC a).bB (aC a).pieces.length)[k]?=some q/\g.pieces=q.pieces:=fun {k g} hk=>by
  have J:=adV (·[k]?) O;simp only[aak,hk]at J;obtain⟨q,D,z⟩:=acq.1 J.symm;injection z with z Y;exact⟨q,D,z.symm⟩
 have Lf:∀g∈G,∀p∈g.pieces,0<=p/\p.toNat<(List.replicate (aC a).pieces.length (0:Int)).length:=fun g Z p hp=>by
  obtain⟨k,hk⟩:=ab8.1 Z;obtain⟨q,D,z⟩:=back hk;have e2:(dR a.bores (aC a).bB (aC a).pieces.length)=_:=e;rw[e2]at D;obtain⟨i,i1,i2,_⟩:=(ok.c k q D).2 p (by rw[<-z];exact hp);rw[aan];omega
 obtain⟨J,h2⟩:=agT G 0 _ Lf;refine ach fun m=>?_;rw[aan]at J;have l1:(aC a).ofPiece.length=(aC a).pieces.length:=ok.l1;rcases abm m (aC a).pieces.length with c | c
 ·obtain⟨k,g,g1,g2,U⟩:=ok.a m c;have e2:(dR a.bores (aC a).bB (aC a).pieces.length)=_:=e;have I:(dR a.bores (aC a).bB (aC a).pieces.length)[k]?=some g:=by rw[e2];exact g2
  have V:=adV (·[k]?) O;simp only[aak,I]at V;obtain⟨q,D,z⟩:=acq.1 V;injection z with z Y;have:=(h2 m).2 k q D (by rw[z];exact U) fun j r N W=>by
   obtain⟨r',r1,r2⟩:=back N;exact H3 L (h:=⟨false,m⟩) r1 I (by rw[r2]at W;simp[dz,oA,W]) (by simp[dz,oA,U])
  rw[this,abC];exact g1.symm
 rw[abI (by omega),abI (by omega)]
end Reg
namespace M
open Go.AM Go.RowKit Go.Lib
open Reg (ae Full RK an bE aS fo fS Piece bh zx told through aa bO Jk w9 dN dO mV pz hD jy vW dz kY dq dE)
theorem La(r:List ae)(q:ae)(N:∀p∈r,jZ p)(O:jZ q)(hN:r.length<=4398046511104):af C 111 [.pv (aj r),.pv (.ag (rc q))] (.p (bool (w9 r q))) []:=by
 have lm:=ai r rc;refine fW hC Tryz.func111 rfl (by kernel_rfl) fun _=>?_;refine aJ (fun i:Nat=>w9 (r.drop i) q=w9 r q) (fun i=>[(0,.p (aj r)),(3,.bx 3 0),(5,.p (i64 i))]) (fun _=>[(3,.box ((rc q).map .p))]) (fun i=>r.length-i) 0 _ (au.refl _ _) rfl ⟨Z,Z,Z,Y⟩ ⟨Z,Y⟩ fun i hi t h=>?_;apply iW<;>intro I
 ·rw[lm]at I;obtain⟨p,hp⟩:=ak (l:=r) (i:=i) (by omega);have mp:=N p (aad hp);rw[drop_at hp]at hi;have R:w9 (p::r.drop (i+1)) q=(((decide (0<dN p q)&&decide (dO p q=0))||(decide (dN p q=0)&&decide (0<dO p q)))||w9 (r.drop (i+1)) q):=rfl;rw[R]at hi;unfold jZ at mp O;refine⟨(rc p),(idx rfl hp),(rc p),(idx rfl hp),wO (by omega),(rc p),(idx rfl hp),(rc p),(idx rfl hp),wO (by omega),?_⟩;have U:dN p q=min p.x1 q.x1-max p.x0 q.x0:=rfl;have V:dO p q=min p.y1 q.y1-max p.y0 q.y0:=rfl;rw[U,V]at hi;generalize min p.x1 q.x1-max p.x0 q.x0=u at hi ⊢;generalize min p.y1 q.y1-max p.y0 q.y0=v at hi ⊢;apply iW<;>intro D
  ·apply iW<;>intro J
   ·refine⟨?_,trivial⟩;rw[<-hi,aaA D,aaA J];rfl
   apply iW<;>intro z
   ·exfalso;omega
   exact⟨wO (by omega),(i+1),_,au.refl _ _,by rw[<-hi,aaC J,aaC z];simp,by omega,⟨Z,Z,Z,Y⟩,⟨Z,Y⟩⟩
  apply iW<;>intro z
  ·apply iW<;>intro L
   ·refine⟨?_,trivial⟩;rw[<-hi,aaA z,aaA L];simp;rfl
   exact⟨wO (by omega),(i+1),_,au.refl _ _,by rw[<-hi,aaC D,aaC L];simp,by omega,⟨Z,Z,Z,Y⟩,⟨Z,Y⟩⟩
  exact⟨wO (by omega),(i+1),_,au.refl _ _,by rw[<-hi,aaC D,aaC z];simp,by omega,⟨Z,Z,Z,Y⟩,⟨Z,Y⟩⟩
 rw[lm]at I;rw[aaz (by omega)]at hi;refine⟨?_,trivial⟩;rw[<-hi];rfl
def gB(ps:List Piece):List (List PV):=ps.map fun p=>[i64 p.layer]
def eB(ps:List Piece):List (List PV):=ps.map fun p=>[aj (told p.set)]
def Lo(a:fS)(ps:List Piece)(gs:List bh)(T:List (List Int)):List PV:=dX a++[.sl (gB ps),.sl (eB ps),.sl (gs.map sT),.sl (T.map uY)]
theorem xe{l:List ae}(h:∀r∈l,Full r)(x y:Int):aL (Reg.rowOf l y) x=l.any (dE x y):=by
 have I:=(Reg.iS l y fun r J=>(h r J).1).2 x;rw[abb,aL,aci,aci];refine Iff.trans ?_ (I.trans ?_)
 ·simp[Reg.cover]
 constructor
 ·rintro⟨r,z,D,h3⟩;exact⟨r,z,Reg.aQ.2 ⟨by omega,by omega,by omega,by omega⟩⟩
 rintro⟨r,z,D⟩;obtain⟨g1,g2,g3,g4⟩:=Reg.aQ.1 D;exact⟨r,z,by omega,by omega⟩
structure P9(ps:List Piece):Prop where
 jB:ps.length<=2000
 sok:∀p∈ps,bE p.set
 len:∀p∈ps,(told p.set).length<=4398046511104
theorem H4(a:fS)(ok:B5 a.bores)(l:fo)(ps:List Piece)(I:P9 ps)(gs:List bh)(T:List (List Int)):af C 246 [.pv (.ip (Lo a ps gs T)),.pv (.ag (lc l))] (.tu [.ag (je (vW a.bores ps l).1),bool (vW a.bores ps l).2]) []:=by
 have lb:=ai a.bores bc;have lp:(eB ps).length=ps.length:=aej ..;have lp2:(gB ps).length=ps.length:=aej ..;have jB:=I.jB;have Td:=ok.jB;obtain⟨R,z⟩:∃R,R=vW a.bores ps l:=⟨_,rfl⟩;rw[<-z];rw[vW]at z;refine fW hC Tryz.func246 rfl (by kernel_rfl) fun _=>?_;refine aJ (fun k:Nat=>hD l k (ps.drop k)=hD l 0 ps) (fun k=>[(0,.p (.ip (Lo a ps gs T))),(3,.bx 3 0),(4,.bx 4 0),(6,.p (i64 k))]) (fun _=>[(3,.box ((lc l).map .p)),(4,.box [.p (bool false),.p (i64 0)])]) (fun k=>ps.length-k) 0 _ (au.refl _ _) rfl ⟨Z,Z,Z,Z,Y⟩ ⟨Z,Z,Y⟩ fun k hk t h=>?_;apply iW<;>intro g1
 ·obtain⟨p,hp⟩:=ak (l:=ps) (i:=k) (by omega);have L:=I.sok p (aad hp);have pl:=I.len p (aad hp);rw[drop_at hp,hD]at hk;have yes:pz l p=true->R=(⟨false,k⟩,true):=fun h=>by rw[aap h]at hk;rw[<-hk]at z;exact z
  have no:pz l p=false->hD l (k+1) (ps.drop (k+1))=hD l 0 ps:=fun h=>by rw[aaa (by rw[h];decide)]at hk;exact hk
  have J:=tP (told p.set) l.x l.y pl;rw[xe (Reg.bP L)]at J;refine⟨[i64 p.layer],(idx rfl hp),iW ?_ ?_⟩<;>intro O
  ·refine⟨[aj (told p.set)],(idx rfl hp),_,_,J,iW ?_ ?_⟩<;>intro U
   ·have N:=yes (by simp only[pz,aaZ,aaH];exact⟨O,U⟩);exact And.intro (by rw[N];rfl) trivial
   have D:=no (by simp only[pz];rw[abF];exact .inr U);exact⟨wO (by omega),(k+1),_,au.refl _ _,D,by omega,⟨Z,Z,Z,Z,Y⟩,⟨Z,Z,Y⟩⟩
  have D:=no (by simp only[pz];rw[aaC O,aaI]);exact⟨wO (by omega),(k+1),_,au.refl _ _,D,by omega,⟨Z,Z,Z,Z,Y⟩,⟨Z,Z,Y⟩⟩
 rw[aaz (by omega),hD]at hk;rw[<-hk]at z;refine aJ (fun i:Nat=>jy l i (a.bores.drop i)=jy l 0 a.bores) (fun i=>[(0,.p (.ip (Lo a ps gs T))),(3,.bx 3 0),(4,.bx 4 0),(7,.p (i64 i))]) (fun _=>[(3,.box ((lc l).map .p)),(4,.box [.p (bool false),.p (i64 0)])]) (fun i=>a.bores.length-i) 0 _ (au.refl _ _) rfl ⟨Z,Z,Z,Z,Y⟩ ⟨Z,Z,Y⟩ fun i hi t h=>?_;apply iW<;>intro g4
 ·obtain⟨b,hb⟩:=ak (l:=a.bores) (i:=i) (by omega);have V:=ok.ok b (aad hb);rw[drop_at hb,jy]at hi;have yes:mV l b=true->R=(⟨true,i⟩,true):=fun h=>by rw[aap h]at hi;rw[<-hi]at z;exact z
  have no:mV l b=false->jy l (i+1) (a.bores.drop (i+1))=jy l 0 a.bores:=fun h=>by rw[aaa (by rw[h];decide)]at hi;exact hi
  have J:=tP [aa b] l.x l.y (by simp);rw[xe (fun r hr=>by rw[ab_.1 hr];exact Reg.bX V),abK,List.any_nil,abo]at J;refine⟨(bc b),(idx rfl hb),iW ?_ ?_⟩<;>intro W
  ·refine⟨(bc b),(idx rfl hb),_,_,(pJ b l.layer),iW ?_ ?_⟩<;>intro g6
   ·refine⟨(bc b),(idx rfl hb),_,_,(di b V),_,_,J,iW ?_ ?_⟩<;>intro g7
    ·have N:=yes (by simp only[mV,aaZ];exact⟨⟨W,g6⟩,g7⟩);exact And.intro (by rw[N];rfl) trivial
    have D:=no (by simp only[mV];rw[abF];exact .inr g7);exact⟨wO (by omega),(i+1),_,au.refl _ _,D,by omega,⟨Z,Z,Z,Z,Y⟩,⟨Z,Z,Y⟩⟩
   have D:=no (by simp only[mV];rw[g6,acC,aaI]);exact⟨wO (by omega),(i+1),_,au.refl _ _,D,by omega,⟨Z,Z,Z,Z,Y⟩,⟨Z,Z,Y⟩⟩
  have D:=no (by simp only[mV];rw[W,aaI,aaI]);exact⟨wO (by omega),(i+1),_,au.refl _ _,D,by omega,⟨Z,Z,Z,Z,Y⟩,⟨Z,Z,Y⟩⟩
 rw[aaz (by omega),jy]at hi;rw[<-hi]at z;exact And.intro (by rw[z];rfl) trivial
theorem xx(a:fS)(h:zx)(ps:List Piece)(gs:List bh)(T:List (List Int))(hg:gs.length<=1000000)(hl:∀g∈gs,g.pieces.length<=1000000/\g.bores.length<=1000000):af C 143 [.pv (.ip (Lo a ps gs T)),.pv (.ag (je h))] (.p (i64 (kY h 0 gs))) []:=by
 have lg:=ai gs sT;obtain⟨D,z⟩:=h;refine fW hC Tryz.func143 rfl (by kernel_rfl) fun _=>?_;refine aJ (fun i:Nat=>kY ⟨D,z⟩ i (gs.drop i)=kY ⟨D,z⟩ 0 gs) (fun i=>[(0,.p (.ip (Lo a ps gs T))),(3,.bx 3 0),(5,.p (i64 i))]) (fun _=>[(3,.box ((je ⟨D,z⟩).map .p))]) (fun i=>gs.length-i) 0 _ (au.refl _ _) rfl ⟨Z,Z,Z,Y⟩ ⟨Z,Y⟩ fun i hi t h'=>?_;apply iW<;>intro g1
 ·obtain⟨g,J⟩:=ak (l:=gs) (i:=i) (by omega);obtain⟨l1,l2⟩:=hl g (aad J);rw[drop_at J,kY]at hi;have yes:dz ⟨D,z⟩ g=true->kY ⟨D,z⟩ 0 gs=i:=fun e=>by rw[aap e]at hi;exact hi.symm
  have no:dz ⟨D,z⟩ g=false->kY ⟨D,z⟩ (i+1) (gs.drop (i+1))=kY ⟨D,z⟩ 0 gs:=fun e=>by rw[aaa (by rw[e];decide)]at hi;exact hi
  cases D with
  | true=>
   refine⟨(sT g),(idx rfl J),_,_,(mM g.bores z l2),iW ?_ ?_⟩<;>intro I
   ·have L:=yes (by simp only[dz];rw[I];rfl);refine⟨?_,trivial⟩;rw[L]
   have N:=no (by simp only[dz];rw[I];rfl);exact⟨wO (by omega),(i+1),_,au.refl _ _,N,by omega,⟨Z,Z,Z,Y⟩,⟨Z,Y⟩⟩
  | false=>
   refine⟨(sT g),(idx rfl J),_,_,(mM g.pieces z l1),iW ?_ ?_⟩<;>intro I
   ·have L:=yes (by simp only[dz];rw[I];rfl);refine⟨?_,trivial⟩;rw[L]
   have N:=no (by simp only[dz];rw[I];rfl);exact⟨wO (by omega),(i+1),_,au.refl _ _,N,by omega,⟨Z,Z,Z,Y⟩,⟨Z,Y⟩⟩
 rw[aaz (by omega),kY]at hi;refine⟨?_,trivial⟩;rw[<-hi];rfl
theorem DC(a:fS)(ok:B5 a.bores)(l:fo)(ps:List Piece)(D:P9 ps)(gs:List bh)(T:List (List Int))(I:gs.length<=1000000)(hl:∀g∈gs,g.pieces.length<=1000000/\g.bores.length<=1000000):af C 192 [.pv (.ip (Lo a ps gs T)),.pv (.ag (lc l))] (.p (i64 (dq a.bores ps gs l))) []:=by
 refine fW hC Tryz.func192 rfl (by kernel_rfl) fun _=>?_;refine⟨_,_,(H4 a ok l ps D gs T),iW ?_ ?_⟩<;>intro z
 ·refine⟨?_,trivial⟩;rw[dq,aaa (by rw[z];decide)];rfl
 have z:(vW a.bores ps l).2=true:=by simpa using z
 refine⟨_,_,(xx a (vW a.bores ps l).1 ps gs T I hl),?_,trivial⟩;rw[dq,aap z]
end M
end Go.Proofs.YtfloceomobknoaaGreatDoor
namespace Go.AM
def PW(x y:PV):Prop:=x=y\/(x=.im (.slice none 0 0)/\y=.sl [])
theorem PW.rep{S:Nat->Prop}{w:World}{x y:PV}{v:Value}(h:PW x y)(z:aO S w x v):aO S w y v:=by
 rcases h with rfl | ⟨rfl,rfl⟩
 ·exact z
 cases z;exact .nil _ _
theorem au.P_{A:cD}(hC:bI A.C)(s:AS)(id:Nat){e:TypeId}{es:List (List PV)}{r r':List PV}(hb:s.h id=.row e (es++[r]))(hl:r'.length=r.length)(U:∀(j:Nat) x y,r[j]?=some x->r'[j]?=some y->PW x y):au A s ⟨s.t,aT s.h id (.row e (es++[r']))⟩:=by
 intro S rho a w J;have N:=J.hp id trivial;rw[hb]at N;have N:aG A.C.P w (aO S w) e (es++[r]) (rho id):=N;have at':∀(k:Nat) q I,(es++[r])[k]?=some q->(es++[r'])[k]?=some I->(q=I)\/(q=r/\I=r'):=fun k q I D z=>by
  by_cases c:k<es.length
  ·rw[aaE c]at D z;rw[D]at z;injection z with z;exact .inl z
  rw[acu (by omega)]at D z;have hk:k-es.length=0:=by
   have:=(aao.1 D).1;simp at this;omega
  rw[hk]at D z;simp at D z;exact .inr ⟨D.symm,z.symm⟩
 refine⟨S,rho,J.write hC id trivial (by rw[hb];trivial) _ (fun e' h=>by rw[hb];exact h) w rfl rfl rfl rfl (fun _ _=>rfl) fun T=>?_⟩;refine N.re (by simp) (fun k q I D z=>?_) fun k q I j x V u D z O L _ R=>?_
 ·rcases at' k q I D z with e | ⟨e1,e2⟩
  ·rw[e]
  rw[e1,e2,hl]
 rcases at' k q I D z with e | ⟨e1,e2⟩
 ·subst e;rw[O]at L;injection L with L;subst L;exact R.mono T.hS T.keep
 subst e1;subst e2;exact (U j x V O L).rep (R.mono T.hS T.keep)
theorem YA{R U V W Y Z a6:AV}{z:PV}{ys:List PV}(h:Lq [R,U,V,W,Y,Z,a6,.p z] ys):∃x0 x1 I J L N O,ys=[x0,x1,I,J,L,N,O,z]:=by
 obtain⟨h1,h2⟩:=h;have D:=h2 7 z rfl
 match ys,h1,D with
 | [x0,x1,I,J,L,N,O,x7],_,D=>
  simp at D;exact⟨x0,x1,I,J,L,N,O,by rw[D]⟩
end Go.AM
namespace Go.Proofs.YtfloceomobknoaaGreatDoor
namespace M
open Go.AM Go.RowKit Go.Lib
open Reg (ae Full RK an bE aS fo fS Piece bh zx told through aa bO gA j_ eH w8 dR bD s6 dq iN P6)
theorem Lb(l:List Bool):∀r∈bits l,∀z∈r,AY z=true:=fun r I z D=>by
 obtain⟨b,_,rfl⟩:=adS.1 I;simp at D;subst D;rfl
theorem Ob(g:bh):Rk (.ag (wR g)):=fun c D=>by
 simp only[wR,adq,ab2,or_false]at D;rcases D with rfl | rfl | rfl
 ·intro r z;obtain⟨n,_,rfl⟩:=adS.1 z;exact⟨_,_,rfl⟩
 ·intro r z;obtain⟨n,_,rfl⟩:=adS.1 z;exact⟨_,_,rfl⟩
 trivial
def nG(bs:List aS)(T:List (List Int))(gs:List bh)(i:Nat):List bh:=(List.range i).foldl (w8 bs T) gs
theorem uU(bs:List aS)(T:List (List Int))(gs:List bh)(i:Nat):nG bs T gs (i+1)=w8 bs T (nG bs T gs i) i:=by simp[nG,abM,abZ]
variable {gs:List bh}
theorem sf(bs:List aS)(T:List (List Int)){m:Nat}(D:gs.length<=m)(I:∀g∈gs,P6 g):∀i,(nG bs T gs i).length<=m+i/\∀g∈nG bs T gs i,P6 g
 | 0=>⟨D,I⟩
 | i+1=>by
  obtain⟨a,b⟩:=sf bs T D I i;rw[uU,w8];split
  ·refine⟨by simp only[acv,abS];omega,fun g z=>?_⟩;rcases abi.1 z with z | z
   ·exact b g z
   rw[ab_.1 z];exact⟨rfl,by simp,by simp⟩
  exact⟨by omega,b⟩
structure Qa(m:Nat)(gs:List bh):Prop where
 jB:gs.length<=1000000
 len:∀g∈gs,g.pieces.length<=1000000/\g.bores.length<=1000000/\g.pins.length<=m
variable {bs:List aS}
theorem Qb{ps:List Piece}{m:Nat}(h:Qa m gs)(l:fo):Qa (m+1) (s6 bs ps gs l):=by
 rw[s6];split
 ·refine⟨by rw[aaM];exact h.jB,fun g z=>?_⟩;rcases abg z with z | z
  ·have:=h.len g z;omega
  subst z;have key:∀q:bh,(q.pieces.length<=1000000/\q.bores.length<=1000000/\q.pins.length<=m)->(iN (l.part,l.pin) q).pieces.length<=1000000/\(iN (l.part,l.pin) q).bores.length<=1000000/\(iN (l.part,l.pin) q).pins.length<=m+1:=fun q D=>by
   refine⟨D.1,D.2.1,?_⟩;show (q.pins++[_]).length<=m+1;rw[acv,abS];omega
  refine key _ ?_;rw[aav];cases e:gs[(dq bs ps gs l).toNat]? with
  | none=>simp
  | some q=>exact h.len q (aad e)
 exact⟨h.jB,fun g z=>by have:=h.len g z;omega⟩
theorem Oc{h:zx}:∀(gs:List bh) (k:Nat),0<=Reg.kY h k gs->(Reg.kY h k gs).toNat<k+gs.length
 | [],k,h0=>by rw[Reg.kY]at h0;omega
 | g::gs,k,h0=>by
  rw[Reg.kY]at h0 ⊢;split
  ·simp only[aaB];omega
  rename_i c;rw[aaa c]at h0;have:=Oc gs (k+1) h0;simp only[aaB];omega
theorem VN{ps:List Piece}{l:fo}(z:0<=dq bs ps gs l):(dq bs ps gs l).toNat<gs.length:=by
 unfold dq at z ⊢;split
 ·rename_i c;rw[aap c]at z;have:=Oc gs 0 z;omega
 rename_i c;rw[aaa c]at z;omega
theorem H5(a:fS)(ok:B5 a.bores)(SU:a.lands.length<=1000)(ps:List Piece)(hps:P9 ps)(T:List (List Int))(Yu:T.length=a.bores.length)(Vs:∀x∈T,x.length<=1000000)(hT:∀j,∀p∈T.getD j [],0<=p/\p<ps.length)(R:List bh)(hR:R=a.lands.foldl (s6 a.bores ps) (dR a.bores T ps.length)):
  af C 112 [.aN [.p (.sl (a.coppers.map rr)),.p (aj a.outline),.p (.sl (a.bores.map bc)),.p (.sl (a.lands.map lc)),.p (.sl (gB ps)),.p (.sl (eB ps)),.row 142 [],.p (.sl (T.map uY))]] (.tu []) [.aN [.p (.sl (a.coppers.map rr)),.p (aj a.outline),.p (.sl (a.bores.map bc)),.p (.sl (a.lands.map lc)),.p (.sl (gB ps)),.p (.sl (eB ps)),.row 142 (R.map sT),.p (.sl (T.map uY))]]:=by
 have lb:=ai a.bores bc;have ll:=ai a.lands lc;have lT:=ai T uY;have lp:(eB ps).length=ps.length:=aej ..;have jB:=hps.jB;have Td:=ok.jB;obtain⟨n,hn⟩:∃n,n=ps.length:=⟨_,rfl⟩;rw[<-hn]at hT hR;refine UO ⟨[16],[],[(5,[100000,1100000]),(17,[6,1000006,90002,1090002,100000,1100000])],[5,17],[(5,[true,true,false,false,false,true,true,true,false,true,true,true,true,true]),(17,[true,false,false,false,true,true,true,true,true,true,true,true,true,true,true,true,true,true,true,false,true,true,true])],[]⟩ hC Tryz.func112 rfl (by kernel_rfl) fun _=>⟨_,au.open hC _ 100000 [90002] (by exact rfl) rfl rfl rfl,?_⟩;refine⟨⟨by omega,by omega,by dsimp only;omega,by omega⟩,?_⟩;have h0:(List.replicate (eB ps).length [bool false])=bits (gA T n 0).1:=by rw[bits,gA,lp,<-hn];simp
 refine aJ (fun i:Nat=>i<=n) (fun i=>[(0,.bx 100000 0),(2,.ow 2),(3,.p (i64 i))]) (fun i=>[(100000,.box [.p (.sl (a.coppers.map rr)),.p (aj a.outline),.p (.sl (a.bores.map bc)),.p (.sl (a.lands.map lc)),.p (.sl (gB ps)),.p (.sl (eB ps)),.ow 90002,.p (.sl (T.map uY))]),(2,.row 4 (bits (gA T n i).1)),(90002,.row 142 ((gA T n i).2.map wR))]) (fun i=>n-i) 0 _ (au.refl _ _) (aaj _) ⟨Z,Z,Z,Y⟩ ⟨rfl,adV (AB.row _) h0,Z,Y⟩ fun i hi t h=>?_;obtain⟨f1,f2,f3⟩:=Reg.se (by omega) (by omega) hT i hi;have J:=Reg.uS T n i;apply iW<;>intro g1
 ·have g1:i<n:=by omega
  generalize gA T n i=s at *;obtain⟨D,G⟩:=s;simp only at f1 f2 f3;obtain⟨d,hd⟩:=ak (l:=D) (i:=i) (by omega);have eD:=oD (d:=true) hd;have lD:=oC D;have lG:=ai G wR;refine⟨⟨by omega,by dsimp only;omega⟩,[bool d],(kM rfl hd),iW ?_ ?_⟩<;>intro g2
  ·have g2:d=false:=by simpa using g2
   rw[j_,aaa (by simp only;rw[eD,g2];decide)]at J;refine⟨.ag (wR ⟨(eH T n i D).pieces,(eH T n i D).bores,[]⟩),bits (eH T n i D).seen,(fun ys Ij=>by
    obtain⟨x0,x1,x2,x3,x4,x5,x6,rfl⟩:=YA (by exact Ij);exact FY T n (by omega) (by omega) Vs hT D f1 i (by omega) (by rw[eD,g2]) x0 x1 x2 x3 x4 x5 x6),(fun c hc=>by
    change c∈[AV.p (.sl (a.coppers.map rr)),AV.p (aj a.outline),AV.p (.sl (a.bores.map bc)),AV.p (.sl (a.lands.map lc)),AV.p (.sl (gB ps)),AV.p (.sl (eB ps)),AV.ow 90002,AV.p (.sl (T.map uY))]at hc;simp only[adq,ab2,or_false]at hc;rcases hc with rfl | rfl | rfl | rfl | rfl | rfl | rfl | rfl<;>rfl),Ob _,Lb _,?_⟩
   exact⟨⟨fun r V=>by simp at V;subst V;rfl,by simp only[lG,aaB,acs,aaM,aan];omega,by simp only[lG,aaB,acs,aaM,aan];omega⟩,wO (by omega),i+1,_,au.Cx _ 38 90002 (by decide) (by decide),by omega,by omega,⟨Z,Z,Z,Y⟩,⟨rfl,by rw[J];rfl,by rw[J,abE];rfl,trivial⟩⟩
  have g2:d=true:=by simpa using g2
  rw[j_,aap (by simp only;rw[eD,g2])]at J;exact⟨wO (by omega),(i+1),_,au.refl _ _,by omega,by omega,⟨Z,Z,Z,Y⟩,⟨rfl,by rw[J];rfl,by rw[J];rfl,trivial⟩⟩
 have e:i=n:=by omega
 subst e;obtain⟨G0,Vu⟩:∃G0,G0=(gA T i i).2:=⟨_,rfl⟩;have hR:R=a.lands.foldl (s6 a.bores ps) (nG a.bores T G0 T.length):=by rw[hR,Vu];rfl
 rw[<-Vu]at f2 f3;have lf:=sf a.bores T f2 f3;refine aJ (fun j:Nat=>j<=T.length) (fun j=>[(0,.bx 100000 0),(4,.p (i64 j))]) (fun j=>[(100000,.box [.p (.sl (a.coppers.map rr)),.p (aj a.outline),.p (.sl (a.bores.map bc)),.p (.sl (a.lands.map lc)),.p (.sl (gB ps)),.p (.sl (eB ps)),.ow 90002,.p (.sl (T.map uY))]),(90002,.row 142 ((nG a.bores T G0 j).map wR))]) (fun j=>T.length-j) 0 _ (au.refl _ _) (aaj _) ⟨Z,Z,Y⟩ ⟨rfl,by rw[Vu];rfl,trivial⟩ fun j hj t h=>?_;obtain⟨lf1,ZU⟩:=lf j;have J:=uU a.bores T G0 j;generalize hGe:nG a.bores T G0 j=G at *;have lG:=ai G wR;apply iW<;>intro g3
 ·obtain⟨L,hL⟩:=ak (l:=T) (i:=j) (by omega);obtain⟨b,hb⟩:=ak (l:=a.bores) (i:=j) (by omega);have eT:=B8 hL;have lL:=ai L fun n=>[i64 n];have eb:bD a.bores j=b.plated:=by rw[bD,aav,hb];rfl
  rw[w8,eT,eb]at J;refine⟨(bc b),(idx rfl hb),iW ?_ ?_⟩<;>intro g4
  ·refine⟨(uY L),(idx rfl hL),iW ?_ ?_⟩<;>intro g5
   ·rw[aap ⟨g4,by omega⟩]at J;refine⟨⟨fun r V=>by simp at V;subst V;rfl,by simp only[lG,aaB,acs,aaM,aan];omega,by simp only[lG,aaB,acs,aaM,aan];omega⟩,wO (by omega),j+1,_,(au.Cx _ 79 90002 (by decide) (by decide)).trans (au.P_ (by exact hC) _ 90002 (e:=142) (es:=G.map wR) (r:=[.im (.slice none 0 0),.sl [[i64 j]],.im (.slice none 0 0)]) (r':=wR ⟨[],[(j:Int)],[]⟩) (by exact rfl) (by exact rfl) (fun k x y N U=>?_)),?_⟩;rotate_left;exact⟨by omega,by omega,⟨Z,Z,Y⟩,⟨rfl,by rw[J,abE];rfl,trivial⟩⟩
    match k,N,U with
    | 0,N,U=>simp[wR]at N U;subst N;subst U;exact .inr ⟨rfl,rfl⟩
    | 1,N,U=>simp[wR]at N U;subst N;subst U;exact .inl rfl
    | 2,N,U=>simp[wR]at N U;subst N;subst U;exact .inl rfl
    | k+3,N,U=>simp at N
   rw[aaa (fun c=>g5 (by omega))]at J;exact⟨wO (by omega),(j+1),_,au.refl _ _,by omega,by omega,⟨Z,Z,Y⟩,⟨rfl,by rw[J];rfl,trivial⟩⟩
  rw[aaa (fun c=>by rw[g4]at c;exact absurd c.1 (by decide))]at J;exact⟨wO (by omega),(j+1),_,au.refl _ _,by omega,by omega,⟨Z,Z,Y⟩,⟨rfl,by rw[J];rfl,trivial⟩⟩
 have e:j=T.length:=by omega
 subst e;have Ja:∀g∈G,g.pins=[]:=fun g hg=>(ZU g hg).1;have hok:Qa 0 G:=⟨by omega,fun g hg=>by obtain⟨b1,b2,b3⟩:=ZU g hg;exact⟨b2,b3,by rw[b1];simp⟩⟩;refine aJ (fun x:Nat×List bh=>(a.lands.drop x.1).foldl (s6 a.bores ps) x.2=R/\Qa x.1 x.2/\x.1<=a.lands.length) (fun x=>[(0,.bx 100000 0),(5,.p (i64 x.1))]) (fun x=>[(100000,.box [.p (.sl (a.coppers.map rr)),.p (aj a.outline),.p (.sl (a.bores.map bc)),.p (.sl (a.lands.map lc)),.p (.sl (gB ps)),.p (.sl (eB ps)),.ow 90002,.p (.sl (T.map uY))]),(90002,.az 142 (x.2.map gh))]) (fun x=>a.lands.length-x.1) (0,G) _ (au.Wg (by exact hC) _ 90002 (e:=142) (es:=G.map wR) (by exact rfl)) ⟨by rw[hR,hGe];rfl,hok,aaj _⟩ ⟨Z,Z,Y⟩ ⟨rfl,adV (AB.az _) (NB Ja),trivial⟩ fun ⟨i',gs⟩ hx t h=>?_;obtain⟨O,v2,v3⟩:=hx;simp only at O v2 v3;apply iW<;>intro g6<;>try simp only[zB]at g6
 ·obtain⟨l,hl⟩:=ak (l:=a.lands) (i:=i') (by omega);rw[drop_at hl,aaq]at O;have v4:=Qb (bs:=a.bores) (ps:=ps) v2 l;have Gp:=DC a ok l ps hps gs T v2.jB fun g hg=>⟨(v2.len g hg).1,(v2.len g hg).2.1⟩;refine⟨(lc l),(idx rfl hl),?_⟩;by_cases c:0<=dq a.bores ps gs l
  ·have ZV:=VN c;have J_:s6 a.bores ps gs l=gs.set (dq a.bores ps gs l).toNat (iN (l.part,l.pin) (gs.getD (dq a.bores ps gs l).toNat ⟨[],[],[]⟩)):=by rw[s6,aap c]
   rw[J_]at O v4;have ek:((dq a.bores ps gs l).toNat:Int)=dq a.bores ps gs l:=adM c;generalize dq a.bores ps gs l=kk at *;obtain⟨k,rfl⟩:∃k:Nat,kk=k:=⟨kk.toNat,by omega⟩;rw[aaS]at O v4 ZV;obtain⟨I,PG⟩:=ak (l:=gs) (i:=k) ZV;have egg:gs.getD k ⟨[],[],[]⟩=I:=by rw[aav,PG];rfl
   rw[egg]at O v4;have qg:=(v2.len I (aad PG)).2.2;have Vx:(gs.map gh).length=gs.length:=aej _;have Vy:=ai I.pins pc;have abN:=v2.jB;refine⟨[.ip (Lo a ps gs T),.ag (lc l)],_,.cons (.box 100000 0 _ (Lo a ps gs T) (by exact rfl) (.cons (.p _) (.cons (.p _) (.cons (.p _) (.cons (.p _) (.cons (.p _) (.cons (.p _) (.cons (.az 90002 142 (gs.map gh) (gs.map sT) (by exact adV (AB.az _) (by simp only[qO])) (vM _)) (.cons (.p _) .nil))))))))) (.cons (.one (.p _)) .nil),Gp,rfl,?_⟩;refine qy (au.I9 (by exact hC) _ 90002 k 90200 (e:=142) (by decide) (by decide) (by exact adV (AB.az _) (by simp only[qO])) PG (by exact rfl) (by decide)) ?_;have W:((gs.map gh).set k [.av (.p (ints I.pieces)),.av (.p (ints I.bores)),.av (.ow 90200)])[k]?=some [.av (.p (ints I.pieces)),.av (.p (ints I.bores)),.av (.ow 90200)]:=ab7 (by rw[Vx];omega);refine⟨⟨by omega,by simp only[aej,aaM];omega⟩,[.av (.p (ints I.pieces)),.av (.p (ints I.bores)),.av (.ow 90200)],(by first | exact W | (rw[dC];exact W;rfl) | (rw[dC,dC];exact W;rfl;rfl) | (rw[dC,dC,dC];exact W;rfl;rfl;rfl)),⟨fun r V=>by simp at V;subst V;rfl,by simp only[Vy,aaM,aan];omega,by simp only[Vy,aaM,aan];omega⟩,⟨by omega,by simp only[aej,aaM];omega⟩,[.av (.p (ints I.pieces)),.av (.p (ints I.bores)),.av (.ow 90200)],(by first | exact W | (rw[dC];exact W;rfl) | (rw[dC,dC];exact W;rfl;rfl) | (rw[dC,dC,dC];exact W;rfl;rfl;rfl)),wO (by omega),?_⟩;have SV:((gs.map gh).set k [.av (.p (ints I.pieces)),.av (.p (ints I.bores)),.av (.ow 124)]).set k (([.av (.p (ints I.pieces)),.av (.p (ints I.bores)),.av (.ow 124)]:List HX).set 2 (.row 205 ((I.pins++[(l.part,l.pin)]).map pc)))=(gs.set k (iN (l.part,l.pin) I)).map gh:=by
    rw[adL,abL];congr 1;show _=[.av (.p (ints I.pieces)),.av (.p (ints I.bores)),I8 (I.pins++[(l.part,l.pin)])];rw[I_];rfl
   refine⟨(i'+1,gs.set k (iN (l.part,l.pin) I)),_,au.Bm (by exact hC) _ 90002 k 2 124 (e:=142) (es:=(gs.map gh).set k [.av (.p (ints I.pieces)),.av (.p (ints I.bores)),.av (.ow 124)]) (r:=[.av (.p (ints I.pieces)),.av (.p (ints I.bores)),.av (.ow 124)]) (e':=205) (xs:=(I.pins++[(l.part,l.pin)]).map pc) (by decide) (by exact adV (AB.az _) (by refine (adV (fun z=>List.set z ((k:Int).toNat) ([.av (.p (ints I.pieces)),.av (.p (ints I.bores)),.av (.ow 124)]:List HX)) (show List.map (fun r=>List.map (HX.cS (sc 124)) r) (List.map (fun r=>List.map (HX.cS (sc 123)) r) ((gs.map gh).set k [.av (.p (ints I.pieces)),.av (.p (ints I.bores)),.av (.ow 90200)]))=(gs.map gh).set k [.av (.p (ints I.pieces)),.av (.p (ints I.bores)),.av (.ow 90200)] by rw[dC,dC];all_goals rfl)).trans ?_;rw[aaS,adL])) (by exact adV (AB.row _) (by rw[abE];rfl)) (ab7 (by rw[Vx];omega)) (by exact rfl),?_⟩;exact⟨⟨O,v4,by simp only;omega⟩,by simp only;omega,⟨Z,Z,Y⟩,⟨rfl,adV (AB.az _) SV,trivial⟩⟩
  have J_:s6 a.bores ps gs l=gs:=by rw[s6,aaa c]
  rw[J_]at O v4;refine⟨[.ip (Lo a ps gs T),.ag (lc l)],_,.cons (.box 100000 0 _ (Lo a ps gs T) (by exact rfl) (.cons (.p _) (.cons (.p _) (.cons (.p _) (.cons (.p _) (.cons (.p _) (.cons (.p _) (.cons (.az 90002 142 (gs.map gh) (gs.map sT) (by exact adV (AB.az _) (by simp only[qO])) (vM _)) (.cons (.p _) .nil))))))))) (.cons (.one (.p _)) .nil),Gp,rfl,?_⟩;refine qy (au.refl _ _) ?_;apply iW<;>intro g7
  ·exfalso;omega
  exact⟨wO (by omega),(i'+1,gs),_,au.refl _ _,⟨O,v4,by simp only;omega⟩,by simp only;omega,⟨Z,Z,Y⟩,⟨rfl,adV (AB.az _) (by simp only[qO,Fo]),trivial⟩⟩
 rw[aaz (by omega)]at O;have O:gs=R:=O;subst O;refine⟨_,au.ID (by exact hC) _ 90002 (gs.map sT) (e:=142) (by exact adV (AB.az _) (by simp only[qO,Fo])) (vM _),?_⟩;exact And.intro rfl (And.intro ⟨Z,Z,Z,Z,Z,Z,Z,Z,Z,Y⟩ trivial)
open Reg (cv bU bG cV nP cZ bB aC lU)
theorem VO{a:fS}(z:Ft a):P9 (aC a).pieces:=⟨z.jB,fun p hp=>(z.pc p hp).sok,fun p hp=>aaF (z.pc p hp).jB (by decide)⟩
theorem Qc{a:fS}(z:iD a):B5 a.bores:=⟨z.jB,jv z⟩
theorem uV(b:aS)(ps:List Piece)(k:Nat):cZ b ps (k+1)=if b.plated=true/\nP b (ps.getD k ⟨0,[]⟩)=true then cZ b ps k++[(k:Int)] else cZ b ps k:=by
 unfold cZ;by_cases c:b.plated=true
 ·rw[aap c,aap c,abM,abU,abE];by_cases d:nP b (ps.getD k ⟨0,[]⟩)=true
  ·rw[aap ⟨c,d⟩,aby,aap d];rfl
  rw[aaa (fun e=>d e.2),aby,aaa d];simp
 rw[aaa c,aaa c,aaa (fun e=>c e.1)]
theorem xf(b:aS)(ps:List Piece):∀k,(cZ b ps k).length<=k
 | 0=>by unfold cZ;split<;>simp
 | k+1=>by
  have:=xf b ps k;rw[uV];split
  ·rw[acv,abS];omega
  omega
theorem Od{s:List an}(h:SO s)(z:(told s).length<=2000):Aa (told s):=⟨z,Reg.bP h.sok,fun q D=>by
 have:=Reg.fR h.sok h.ink q D;unfold RK at this ⊢;omega⟩
theorem DE(a:fS)(ho:dc a=0):af C 42 [.pv (.ag (dX a))] (.p (.ip (Lo a (aC a).pieces (aC a).placed.groups (aC a).bB))) []:=by
 have N:=jW ho;obtain⟨_,hd,_⟩:=Fs ho;rw[Reg.eG,aaZ,aaH]at hd;have J:=N.art;have ok:=Qc J;have L:=VO N;have YB:∀p∈(aC a).pieces,cv 1000000 p.set:=fun p hp=>(N.pc p hp).ink;have Td:=J.jB;have KH:=J.cop;have jB:=N.jB;have lb:=ai a.bores bc;have lk:=ai a.coppers fun r=>[aj r];have YC:=H5 a ok J.lan (aC a).pieces L (aC a).bB (Reg.aeO _ _) (fun x W=>by
   obtain⟨b,_,rfl⟩:=adS.1 W;exact aaF (Reg.sU b (aC a).pieces 0) (by omega)) (fun j p hp=>by
   rw[aav]at hp;cases e:(aC a).bB[j]? with
   | none=>rw[e]at hp;cases hp
   | some x=>rw[e]at hp;exact Reg.s7 a.bores (aC a).pieces x (aad e) p hp) (aC a).placed.groups (Reg.DB (jv J) fun r D q R=>(ph (J.reg r D)).full q R).symm
 have hT':(aC a).bB=a.bores.map fun b=>cZ b (aC a).pieces (aC a).pieces.length:=aaG fun b hb=>(Reg.HT (Reg.bX (jv J b hb)) L.sok).symm;have ZW:bG a.bores 0 a.coppers=(aC a).pieces:=rfl;clear N;generalize (aC a).bB=T at *;generalize (aC a).pieces=ps at *;generalize (aC a).placed.groups=GG at *;refine uX ⟨[21,22],[],[],[10],[],[]⟩ hC Tryz.func42 rfl (by kernel_rfl) fun _=>?_;refine aJ (fun x:Nat×List Piece=>x.2++bG a.bores x.1 (a.coppers.drop x.1)=ps/\x.1<=a.coppers.length) (fun x=>[(1,.bx 1 0),(3,.bx 12 0),(4,.p (i64 x.1))]) (fun x=>[(1,.box ((dX a).map .p)),(12,.box [.p (.sl (a.coppers.map rr)),.p (aj a.outline),.p (.sl (a.bores.map bc)),.p (.sl (a.lands.map lc)),.ow 90000,.ow 90001,.ow 90002,.ow 90003]),(90000,.row 3 (gB x.2)),(90001,.row 22 (eB x.2)),(90002,.row 142 []),(90003,.row 71 [])]) (fun x=>a.coppers.length-x.1) (0,[]) _ ((au.pX (by exact hC) _ 12 4 [.p (.sl (a.coppers.map rr)),.p (aj a.outline),.p (.sl (a.bores.map bc)),.p (.sl (a.lands.map lc)),.p (.im (.slice none 0 0)),.p (.im (.slice none 0 0)),.p (.im (.slice none 0 0)),.p (.im (.slice none 0 0))] (by exact rfl) (by exact rfl)).trans ((au.aeK (by exact hC) _ 12 4 90000 3 _ [.p (.sl (a.coppers.map rr)),.p (aj a.outline),.p (.sl (a.bores.map bc)),.p (.sl (a.lands.map lc)),.nl,.p (.im (.slice none 0 0)),.p (.im (.slice none 0 0)),.p (.im (.slice none 0 0))] (by decide) (by decide) (by exact rfl) (by exact rfl) (by exact rfl) (by decide)).trans ((au.pX (by exact hC) _ 12 5 [.p (.sl (a.coppers.map rr)),.p (aj a.outline),.p (.sl (a.bores.map bc)),.p (.sl (a.lands.map lc)),.ow 90000,.p (.im (.slice none 0 0)),.p (.im (.slice none 0 0)),.p (.im (.slice none 0 0))] (by exact rfl) (by exact rfl)).trans ((au.aeK (by exact hC) _ 12 5 90001 22 _ [.p (.sl (a.coppers.map rr)),.p (aj a.outline),.p (.sl (a.bores.map bc)),.p (.sl (a.lands.map lc)),.ow 90000,.nl,.p (.im (.slice none 0 0)),.p (.im (.slice none 0 0))] (by decide) (by decide) (by exact rfl) (by exact rfl) (by exact rfl) (by decide)).trans ((au.pX (by exact hC) _ 12 6 [.p (.sl (a.coppers.map rr)),.p (aj a.outline),.p (.sl (a.bores.map bc)),.p (.sl (a.lands.map lc)),.ow 90000,.ow 90001,.p (.im (.slice none 0 0)),.p (.im (.slice none 0 0))] (by exact rfl) (by exact rfl)).trans ((au.aeK (by exact hC) _ 12 6 90002 142 _ [.p (.sl (a.coppers.map rr)),.p (aj a.outline),.p (.sl (a.bores.map bc)),.p (.sl (a.lands.map lc)),.ow 90000,.ow 90001,.nl,.p (.im (.slice none 0 0))] (by decide) (by decide) (by exact rfl) (by exact rfl) (by exact rfl) (by decide)).trans ((au.pX (by exact hC) _ 12 7 [.p (.sl (a.coppers.map rr)),.p (aj a.outline),.p (.sl (a.bores.map bc)),.p (.sl (a.lands.map lc)),.ow 90000,.ow 90001,.ow 90002,.p (.im (.slice none 0 0))] (by exact rfl) (by exact rfl)).trans (au.aeK (by exact hC) _ 12 7 90003 71 _ [.p (.sl (a.coppers.map rr)),.p (aj a.outline),.p (.sl (a.bores.map bc)),.p (.sl (a.lands.map lc)),.ow 90000,.ow 90001,.ow 90002,.nl] (by decide) (by decide) (by exact rfl) (by exact rfl) (by exact rfl) (by decide))))))))) ⟨ZW,aaj _⟩ ⟨Z,Z,Z,Y⟩ ⟨Z,Z,Z,Z,Z,Z,Y⟩ fun ⟨i,I⟩ W t h=>?_;obtain⟨x1,x2⟩:=W;simp only at x1 x2;apply iW<;>intro g1<;>try simp only[zB]at g1
 ·obtain⟨r,D⟩:=ak (l:=a.coppers) (i:=i) (by omega);have HA:=J.reg r (aad D);have ZX:=Reg.xR hd.1 i r D;rw[show (0:Int)+(i:Int)=i by omega]at ZX;have dr:=jV (jv J) Td i HA;rw[drop_at D,bG]at x1;have O1:=qX a ok i r D HA;have TD:=uQ (told (bU a.bores i r)) (Od dr ZX);have ZY:NX (lU (told (bU a.bores i r)))=.sl (eB ((cV (bU a.bores i r)).map fun s=>(⟨(i:Int),s⟩:Piece))):=by
   rw[Reg.uG dr.sok,NX,eB,abd,abd];rfl
  rw[ZY]at TD;obtain⟨z,SP⟩:∃z:List Piece,z=(cV (bU a.bores i r)).map fun s=>(⟨(i:Int),s⟩:Piece):=⟨_,rfl⟩;have YD:∀p∈z,p.layer=i:=fun p hp=>by rw[SP]at hp;obtain⟨s,_,rfl⟩:=adS.1 hp;rfl
  have x1:I++(z++bG a.bores ((i:Int)+1) (a.coppers.drop (i+1)))=ps:=by rw[SP];exact x1
  rw[<-SP]at TD;clear ZY;have lPP:(eB z).length=z.length:=aej ..;have tot:I.length+z.length<=ps.length:=by rw[<-x1,acv,acv];omega
  refine⟨_,_,O1,_,_,TD,?_⟩;refine aJ (fun k:Nat=>k<=z.length) (fun k=>[(1,.bx 1 0),(3,.bx 12 0),(4,.p (i64 i)),(5,.p (.sl (eB z))),(6,.p (i64 k))]) (fun k=>[(1,.box ((dX a).map .p)),(12,.box [.p (.sl (a.coppers.map rr)),.p (aj a.outline),.p (.sl (a.bores.map bc)),.p (.sl (a.lands.map lc)),.ow 90000,.ow 90001,.ow 90002,.ow 90003]),(90000,.row 3 (gB (I++z.take k))),(90001,.row 22 (eB (I++z.take k))),(90002,.row 142 []),(90003,.row 71 [])]) (fun k=>z.length-k) 0 _ (au.refl _ _) (aaj _) ⟨Z,Z,Z,Z,Z,Y⟩ ⟨rfl,rfl,by rw[List.take_zero,acw];rfl,by rw[List.take_zero,acw];rfl,Z,Z,Y⟩ fun k hk t h=>?_;have ZZ:(I++z.take k).length=I.length+k:=by rw[acv,aat];omega
  have Z0:(gB (I++z.take k)).length=I.length+k:=by rw[gB,aej,ZZ]
  have YE:(eB (I++z.take k)).length=I.length+k:=by rw[eB,aej,ZZ]
  apply iW<;>intro g2
  ·obtain⟨p,hp⟩:=ak (l:=z) (i:=k) (by omega);have hl:=YD p (aad hp);refine⟨⟨fun r D=>by simp at D;subst D;rfl,by simp only[Z0,aaB,acs,aaM,aan];omega,by simp only[Z0,aaB,acs,aaM,aan];omega⟩,[aj (told p.set)],(idx rfl hp),⟨fun r D=>by simp at D;subst D;rfl,by simp only[YE,aaB,acs,aaM,aan];omega,by simp only[YE,aaB,acs,aaM,aan];omega⟩,wO (by omega),k+1,_,(au.Cx _ 37 90000 (by decide) (by decide)).trans (au.Cx _ 50 90001 (by decide) (by decide)),?_⟩;have e1:I++z.take (k+1)=(I++z.take k)++[p]:=by rw[aZ hp,abx]
   have ep1:gB (I++z.take (k+1))=gB (I++z.take k)++[[i64 i]]:=by rw[e1,gB,gB,abE,aiu,hl]
   have ep2:eB (I++z.take (k+1))=eB (I++z.take k)++[[aj (told p.set)]]:=by rw[e1,eB,eB,abE,aiu]
   exact⟨by omega,by omega,⟨Z,Z,Z,Z,Z,Y⟩,⟨rfl,rfl,adV (AB.row _) ep1.symm,adV (AB.row _) ep2.symm,Z,Z,Y⟩⟩
  have e:z.take k=z:=adW (by omega);rw[e];exact⟨wO (by omega),(i+1,I++z),_,au.refl _ _,⟨by rw[abx];exact x1,by simp only;omega⟩,by simp only;omega,⟨Z,Z,Z,Y⟩,⟨Z,Z,Z,Z,Z,Z,Y⟩⟩
 rw[aaz (by omega),bG,acw]at x1;have x1:ps=I:=x1.symm;subst x1;clear ZW;have YE:(eB ps).length=ps.length:=aej ..;refine aJ (fun i:Nat=>i<=a.bores.length) (fun i=>[(1,.bx 1 0),(3,.bx 12 0),(7,.p (i64 i))]) (fun i=>[(1,.box ((dX a).map .p)),(12,.box [.p (.sl (a.coppers.map rr)),.p (aj a.outline),.p (.sl (a.bores.map bc)),.p (.sl (a.lands.map lc)),.p (.sl (gB ps)),.p (.sl (eB ps)),.ow 90002,.ow 90003]),(90002,.row 142 []),(90003,.row 71 (((a.bores.take i).map fun b=>cZ b ps ps.length).map uY))]) (fun i=>a.bores.length-i) 0 _ ((au.fB (by exact hC) _ 12 4 90000 3 (gB ps) [.p (.sl (a.coppers.map rr)),.p (aj a.outline),.p (.sl (a.bores.map bc)),.p (.sl (a.lands.map lc)),.ow 90000,.ow 90001,.ow 90002,.ow 90003] (by decide) (by exact rfl) (by exact rfl) (by exact rfl)).trans (au.fB (by exact hC) _ 12 5 90001 22 (eB ps) [.p (.sl (a.coppers.map rr)),.p (aj a.outline),.p (.sl (a.bores.map bc)),.p (.sl (a.lands.map lc)),.p (.sl (gB ps)),.ow 90001,.ow 90002,.ow 90003] (by decide) (by exact rfl) (by exact rfl) (by exact rfl))) (aaj _) ⟨Z,Z,Z,Y⟩ ⟨Z,Z,Z,Z,Y⟩ fun i hi t h=>?_;have U:((((a.bores.take i).map fun b=>cZ b ps ps.length)).map uY).length=i:=by rw[aej,aej,aat];omega
 apply iW<;>intro g2
 ·obtain⟨b,hb⟩:=ak (l:=a.bores) (i:=i) (by omega);have uW:=ok.ok b (aad hb);have K5:jZ (aa b):=by
   have h1:=Reg.er uW;obtain⟨h2,h3⟩:=Reg.bX uW;unfold RK at h1;unfold jZ;omega
  refine aJ (fun k:Nat=>k<=ps.length/\(b.plated=true\/k=0)) (fun k=>[(1,.bx 1 0),(3,.bx 12 0),(7,.p (i64 i)),(8,.ow 8),(9,.p (i64 k))]) (fun k=>[(1,.box ((dX a).map .p)),(12,.box [.p (.sl (a.coppers.map rr)),.p (aj a.outline),.p (.sl (a.bores.map bc)),.p (.sl (a.lands.map lc)),.p (.sl (gB ps)),.p (.sl (eB ps)),.ow 90002,.ow 90003]),(90002,.row 142 []),(90003,.row 71 (((a.bores.take i).map fun b=>cZ b ps ps.length).map uY)),(8,.row 3 (aA (cZ b ps k)))]) (fun k=>ps.length-k) 0 _ (au.dk hC _ 8 3 _ (by decide) rfl rfl (by decide)) ⟨aaj _,.inr rfl⟩ ⟨Z,Z,Z,Z,Z,Y⟩ ⟨rfl,rfl,rfl,rfl,by (have e0:cZ b ps 0=[]:=by unfold cZ;split<;>rfl);rw[e0];rfl,trivial⟩ fun k hk t h=>?_;obtain⟨k1,k2⟩:=hk;have ltt:=xf b ps k;have Z1:=bQ (cZ b ps k);have fin:(¬k<ps.length\/¬b.plated=true)->cZ b ps k=cZ b ps ps.length:=fun c=>by
   rcases c with c | c
   ·rw[show k=ps.length by omega]
   unfold cZ;rw[aaa c,aaa c]
  have tail:∀g3:(¬k<ps.length\/¬b.plated=true),((a.bores.take (i+1)).map fun b=>cZ b ps ps.length).map uY=(((a.bores.take i).map fun b=>cZ b ps ps.length).map uY)++[uY (cZ b ps k)]:=fun g3=>by
   rw[aZ hb,abE,abE,fin g3];rfl
  apply iW<;>intro g3
  ·obtain⟨p,hp⟩:=ak (l:=ps) (i:=k) (by omega);have ep:ps.getD k ⟨0,[]⟩=p:=by rw[aav,hp];rfl
   have V:=uV b ps k;rw[ep]at V;have Z2:=L.sok p (aad hp);have psl:=L.len p (aad hp);have YF:∀q∈told p.set,jZ q:=fun q R=>by
    have h1:=Reg.fR Z2 (YB p (aad hp)) q R;obtain⟨h2,h3⟩:=Reg.bP Z2 q R;unfold RK at h1;unfold jZ;omega
   refine⟨(bc b),(idx rfl hb),iW ?_ ?_⟩<;>intro O
   ·refine⟨(bc b),(idx rfl hb),[i64 p.layer],(idx rfl hp),_,_,(pJ b p.layer),?_⟩;have no:nP b p=false->cZ b ps (k+1)=cZ b ps k:=fun c=>by rw[V,aaa (fun e=>by rw[c]at e;exact absurd e.2 (by decide))]
    apply iW<;>intro g5
    ·refine⟨[aj (told p.set)],(idx rfl hp),(bc b),(idx rfl hb),_,_,(di b uW),_,_,(La (told p.set) (aa b) YF K5 psl),iW ?_ ?_⟩<;>intro g6
     ·rw[aap ⟨O,by simp only[nP];rw[g5,g6];rfl⟩]at V;exact⟨⟨fun r D=>by simp at D;subst D;rfl,by simp only[Z1,aaB,acs,aaM,aan];omega,by simp only[Z1,aaB,acs,aaM,aan];omega⟩,wO (by omega),(k+1),_,au.refl _ _,⟨by omega,.inl O⟩,by omega,⟨Z,Z,Z,Z,Z,Y⟩,⟨rfl,rfl,rfl,rfl,by rw[V];exact adV (AB.row _) (gP _ _).symm,trivial⟩⟩
     have e:=no (by simp only[nP];rw[g5,g6];rfl);exact⟨wO (by omega),(k+1),_,au.refl _ _,⟨by omega,.inl O⟩,by omega,⟨Z,Z,Z,Z,Z,Y⟩,⟨rfl,rfl,rfl,rfl,by rw[e];rfl,trivial⟩⟩
    have e:=no (by simp only[nP];rw[g5];rfl);exact⟨wO (by omega),(k+1),_,au.refl _ _,⟨by omega,.inl O⟩,by omega,⟨Z,Z,Z,Z,Z,Y⟩,⟨rfl,rfl,rfl,rfl,by rw[e];rfl,trivial⟩⟩
   have e:=tail (.inr (by rw[O];decide));exact⟨⟨fun r D=>by simp at D;subst D;rfl,by simp only[U,aaB,acs,aaM,aan];omega,by simp only[U,aaB,acs,aaM,aan];omega⟩,wO (by omega),i+1,_,au.Cx _ 117 90003 (by decide) (by decide),by omega,by omega,⟨Z,Z,Z,Y⟩,⟨rfl,rfl,rfl,by rw[e];rfl,trivial⟩⟩
  have e:=tail (.inl (by omega));exact⟨⟨fun r D=>by simp at D;subst D;rfl,by simp only[U,aaB,acs,aaM,aan];omega,by simp only[U,aaB,acs,aaM,aan];omega⟩,wO (by omega),i+1,_,au.Cx _ 117 90003 (by decide) (by decide),by omega,by omega,⟨Z,Z,Z,Y⟩,⟨rfl,rfl,rfl,by rw[e];rfl,trivial⟩⟩
 have e:a.bores.take i=a.bores:=adW (by omega);rw[e,<-hT'];refine qy ((au.fB (by exact hC) _ 12 7 90003 71 (T.map uY) [.p (.sl (a.coppers.map rr)),.p (aj a.outline),.p (.sl (a.bores.map bc)),.p (.sl (a.lands.map lc)),.p (.sl (gB ps)),.p (.sl (eB ps)),.ow 90002,.ow 90003] (by decide) (by exact rfl) (by exact rfl) (by exact rfl)).trans (au.pack (by exact hC) _ 12 (cs:=[.p (.sl (a.coppers.map rr)),.p (aj a.outline),.p (.sl (a.bores.map bc)),.p (.sl (a.lands.map lc)),.p (.sl (gB ps)),.p (.sl (eB ps)),.row 142 [],.p (.sl (T.map uY))]) (by exact rfl) (by exact rfl) (by exact⟨Z,Z,Z,Z,Z,Z,Z,Z,Y⟩))) ?_;refine⟨_,_,YC,?_⟩;refine qy ((au.open (by exact hC) _ 12 [90002] (cs:=[.p (.sl (a.coppers.map rr)),.p (aj a.outline),.p (.sl (a.bores.map bc)),.p (.sl (a.lands.map lc)),.p (.sl (gB ps)),.p (.sl (eB ps)),.row 142 (GG.map sT),.p (.sl (T.map uY))]) (by exact rfl) rfl rfl rfl).trans (au.fB (by exact hC) _ 12 6 90002 142 (GG.map sT) [.p (.sl (a.coppers.map rr)),.p (aj a.outline),.p (.sl (a.bores.map bc)),.p (.sl (a.lands.map lc)),.p (.sl (gB ps)),.p (.sl (eB ps)),.ow 90002,.p (.sl (T.map uY))] (by decide) (by exact rfl) (by exact rfl) (by exact rfl))) ?_;refine⟨?_,trivial⟩;rfl
def lU(a:fS):List Piece×Int:=if dc a=0 then ((aC a).pieces,0) else ([],dc a)
open Reg (BR aB fT ahD bN uo nM a_ coreS P4)
open Reg (bare ofG)
def FR(a:fS):PV:=.ip (Lo a (aC a).pieces (aC a).placed.groups (aC a).bB)
theorem agU{bs:List aS}{ps:List Piece}:∀(l:List fo) {m:Nat} {gs:List bh},Qa m gs->Qa (m+l.length) (l.foldl (s6 bs ps) gs)
 | [],m,gs,h=>h
 | x::l,m,gs,h=>by
  have:=agU (bs:=bs) (ps:=ps) l (Qb (bs:=bs) (ps:=ps) h x);rw[aaq];exact⟨this.jB,fun g z=>by have:=this.len g z;simp only[aaB];omega⟩
theorem agd{ps:List Piece}:∀(l:List fo) (gs:List bh),(l.foldl (s6 bs ps) gs).map bare=gs.map bare
 | [],gs=>rfl
 | x::l,gs=>by
  rw[aaq,agd l];rw[s6];split
  ·exact Reg.N_
  rfl
structure RGs(a:fS):Prop where
 ok:Qa a.lands.length (aC a).placed.groups
 Lf:∀g∈(aC a).placed.groups,∀p∈g.pieces,0<=p/\p.toNat<(aC a).pieces.length
 of:ofG 0 (aC a).placed.groups (List.replicate (aC a).pieces.length 0)=(aC a).ofPiece
theorem ahk{a:fS}(D:Ft a):RGs a:=by
 have jB:=D.jB;have Td:=D.art.jB;have N:=Reg.s7 a.bores (aC a).pieces;have I:=Reg.aeO a.bores (aC a).pieces;have V:∀r∈a.coppers,∀q∈r,Full q:=fun r W=>(ph (D.art.reg r W)).full;have J:=Reg.DB (jv D.art) V;have hb:=agd (bs:=a.bores) (ps:=(aC a).pieces) a.lands (dR a.bores (aC a).bB (aC a).pieces.length);have Y:∀j,∀p∈(Reg.bB a.bores (aC a).pieces).getD j [],0<=p/\p<(aC a).pieces.length:=fun j p hp=>by
  rw[aav]at hp;cases e:(Reg.bB a.bores (aC a).pieces)[j]? with
  | none=>rw[e]at hp;cases hp
  | some x=>rw[e]at hp;exact N x (aad e) p hp
 have Z:Qa 0 (dR a.bores (aC a).bB (aC a).pieces.length):=by
  obtain⟨_,f2,f3⟩:=Reg.se (T:=Reg.bB a.bores (aC a).pieces) (n:=(aC a).pieces.length) (by omega) (by omega) Y _ (aam _);have O:=sf a.bores (Reg.bB a.bores (aC a).pieces) f2 f3 (Reg.bB a.bores (aC a).pieces).length;exact⟨aaF O.1 (by rw[I];omega),fun g J=>by obtain⟨b1,b2,b3⟩:=O.2 g J;exact⟨b2,b3,by rw[b1];simp⟩⟩
 have z:=agU (bs:=a.bores) (ps:=(aC a).pieces) a.lands Z;rw[J]at z hb;rw[abC]at z;refine⟨z,fun g V_ p hp=>?_,Reg.ahj _ hb⟩;obtain⟨k,hk⟩:=ab8.1 V_;have R:=adV (·[k]?) hb;simp only[aak,hk]at R;obtain⟨q,U,L⟩:=acq.1 R.symm;injection L with L q3;have e2:=Reg.uM I N fun j hj h=>Reg.uT hj h;have e2:dR a.bores (aC a).bB (aC a).pieces.length=_:=e2;rw[e2]at U;obtain⟨i,i1,i2,_⟩:=(D.gr.c k q U).2 p (by rw[L];exact hp);omega
theorem oq(i:Int):∀(l:List Int) (o:List Int),(l.foldl (fun o p=>o.set p.toNat i) o).length=o.length
 | [],o=>rfl
 | p::l,o=>by rw[aaq,oq i l,aaM]
theorem afP(a:fS)(N:Ft a):af C 43 [.pv (FR a)] (.p (ints (aC a).ofPiece)) []:=by
 obtain⟨z,Lf,J⟩:=ahk N;have jB:=N.jB;unfold FR;rw[<-J];generalize (aC a).placed.groups=G at *;generalize (aC a).bB=T at *;generalize (aC a).pieces=ps at *;have lp:(eB ps).length=ps.length:=aej ..;have O:=ai G sT;have fg:=z.jB;obtain⟨R,U⟩:∃R,R=ofG 0 G (List.replicate ps.length 0):=⟨_,rfl⟩;rw[<-U];refine fW hC Tryz.func43 rfl (by kernel_rfl) fun _=>?_;refine⟨⟨by omega,by omega,by dsimp only;omega,by omega⟩,?_⟩;have h0:List.replicate (eB ps).length [i64 0]=aA (List.replicate ps.length 0):=by rw[aA,lp];simp
 refine aJ (fun x:Nat×List Int=>ofG x.1 (G.drop x.1) x.2=R/\x.2.length=ps.length) (fun x=>[(0,.p (.ip (Lo a ps G T))),(3,.ow 3),(4,.p (i64 x.1))]) (fun x=>[(3,.row 3 (aA x.2))]) (fun x=>G.length-x.1) (0,List.replicate ps.length 0) _ (au.refl _ _) ⟨U.symm,aan⟩ ⟨Z,Z,Z,Y⟩ ⟨adV (AB.row _) h0,trivial⟩ fun ⟨i,o⟩ hx t h=>?_;obtain⟨x1,V⟩:=hx;dsimp only at x1 V;apply iW<;>intro W
 ·rw[O]at W;obtain⟨g,D⟩:=ak (l:=G) (i:=i) (by omega);have gl:=z.len g (aad D);have gi:=Lf g (aad D);have I:=ai g.pieces fun n=>[i64 n];rw[drop_at D,ofG]at x1;refine aJ (fun y:Nat×List Int=>(g.pieces.drop y.1).foldl (fun o p=>o.set p.toNat (i:Int)) y.2=g.pieces.foldl (fun o p=>o.set p.toNat (i:Int)) o/\y.2.length=ps.length) (fun y=>[(0,.p (.ip (Lo a ps G T))),(3,.ow 3),(4,.p (i64 i)),(5,.p (i64 y.1))]) (fun y=>[(3,.row 3 (aA y.2))]) (fun y=>g.pieces.length-y.1) (0,o) _ (au.refl _ _) ⟨rfl,V⟩ ⟨Z,Z,Z,Z,Y⟩ ⟨Z,Y⟩ fun ⟨k,u⟩ hy t h=>?_;obtain⟨y1,L⟩:=hy;dsimp only at y1 L;have lu:(aA u).length=u.length:=bQ u;refine⟨(sT g),(idx rfl D),iW ?_ ?_⟩<;>intro g2
  ·rw[I]at g2;obtain⟨p,hp⟩:=ak (l:=g.pieces) (i:=k) (by omega);have O9:=gi p (aad hp);rw[drop_at hp,aaq]at y1;refine⟨(sT g),(idx rfl D),[i64 p],(idx rfl hp),⟨by omega,by dsimp only;omega⟩,?_⟩;obtain⟨v,hv⟩:=ak (l:=u) (i:=p.toNat) (by omega);exact⟨[i64 v],(K8 (by omega) hv),wO (by omega),(k+1,u.set p.toNat i),_,au.refl _ _,⟨y1,by dsimp only;rw[List.length_set];exact L⟩,by dsimp only;omega,⟨Z,Z,Z,Z,Y⟩,⟨congrArg (AB.row _) (fV _ _ _),trivial⟩⟩
  rw[I]at g2;rw[aaz (by omega)]at y1;have y1:u=_:=y1;exact⟨wO (by omega),(i+1,u),_,au.refl _ _,⟨by rw[y1];exact x1,L⟩,by dsimp only;omega,⟨Z,Z,Z,Y⟩,⟨Z,Y⟩⟩
 rw[O]at W;rw[aaz (by omega),ofG]at x1;refine⟨?_,trivial⟩;rw[x1];rfl
def afr(r:cP)(a:fS)(nets:List ByteArray):PV:=if aeJ r a nets=0 then FR a else .im (.pointer none)
theorem age(r:cP)(R:e8 r)(a:fS)(U:ly a)(nets:List ByteArray)(J:afj nets):af C 62 [.pv (.ag (rl r)),.pv (.ag (dX a)),.pv (strs nets)] (.tu [afr r a nets,i64 (aeJ r a nets)]) []:=by
 have L:=ai nets fun s=>[str s];have lg:=ai (aC a).placed.groups sT;have hn1:=J.len;obtain⟨F,z⟩:∃F,F=aeJ r a nets:=⟨_,rfl⟩;have V:afr r a nets=if F=0 then FR a else .im (.pointer none):=by rw[z];rfl
 rw[V,<-z];rw[aeJ]at z;refine fW hC Tryz.func62 rfl (by kernel_rfl) fun _=>?_;refine⟨_,_,(aiJ r R),iW ?_ ?_⟩<;>intro D
 ·have D:bC r≠0:=by simpa using D
  rw[aap D]at z;refine⟨?_,trivial⟩;rw[z,aaa D]
 have D:bC r=0:=by simpa using D
 rw[aaa (by simpa using D)]at z;refine⟨_,_,(AW a U),iW ?_ ?_⟩<;>intro g
 ·have g:dc a≠0:=by simpa using g
  rw[aap g]at z;refine⟨?_,trivial⟩;rw[z,aaa g]
 have g:dc a=0:=by simpa using g
 rw[aaa (by simpa using g)]at z;have gd:=jW g;refine⟨_,_,(DE a g),iW ?_ ?_⟩<;>intro g2
 ·rw[aap (by omega)]at z;refine⟨?_,trivial⟩;rw[z];rfl
 rw[aaa (by omega)]at z;refine aJ (fun i:Nat=>(nets.drop i).any (fun s=>!afe s)=nets.any (fun s=>!afe s)) (fun i=>[(2,.p (strs nets)),(10,.p (FR a)),(11,.p (i64 i))]) (fun _=>[]) (fun i=>nets.length-i) 0 _ (au.refl _ _) rfl ⟨Z,Z,Z,Y⟩ trivial fun i hi t h=>?_;apply iW<;>intro N
 ·rw[L]at N;obtain⟨s,I⟩:=ak (l:=nets) (i:=i) (by omega);rw[drop_at I,abK]at hi;refine⟨[str s],(idx rfl I),_,_,(agq s (J.str s (aad I))),iW ?_ ?_⟩<;>intro O
  ·rw[O]at hi;have hi:nets.any (fun s=>!afe s)=true:=hi.symm;rw[aap hi]at z;refine⟨?_,trivial⟩;rw[z];rfl
  rw[O]at hi;exact⟨wO (by omega),(i+1),_,au.refl _ _,hi,by omega,⟨Z,Z,Z,Y⟩,trivial⟩
 rw[L]at N;rw[aaz (by omega)]at hi;have hi:nets.any (fun s=>!afe s)=false:=hi.symm;rw[aaa (by rw[hi];decide)]at z;refine⟨?_,trivial⟩;rw[z];rfl
open Reg (ff dy dD dJ at' noR af3)
theorem agM{s:List an}(D:bE s)(ks:cv 1000000 s)(hn:s≠[]){w:Int}(h0:1<=w)(h1:w<=100000):
  ∃A N z V,A=bN (aB [ff (dy (told s)) w]) s/\bE A/\cv 1100000 A/\aB ((told A).map (noR w))=N/\bE N/\cv 1200000 N/\z=bN s N/\bE z/\cv 1000000 z/\aB ((told z).map (af3 w))=V/\bE V/\cv 1100000 V/\bN s V=ahD s w:=by
 obtain⟨b1,b2,b3⟩:=Reg.pG D hn;have bk:=b3 _ ks;have wf:=Reg.l6 b1 (n:=w) (by omega);have wk:RK 1100000 (ff (dy (told s)) w):=by
  unfold RK at bk ⊢;simp only[ff];omega
 obtain⟨w1,_⟩:=Reg.gz wf;have w3:cv 1100000 (aB [ff (dy (told s)) w]):=(Reg.aR (l:=[ff (dy (told s)) w]) (fun q J=>by rw[ab_.1 J];exact wf)).2.2 _ fun q J=>by rw[ab_.1 J];exact wk
 have hl:=Reg.b6 w1 D;have e:=fun aN=>Reg.FD D wf (l:=0) (r:=w-1) (d:=0) (u:=w-1) (by omega) (by omega) (by omega) (by omega) aN;have aN:∀x y,at' s x y=true->(ff (dy (told s)) w).x0<=x-0/\x+(w-1)<(ff (dy (told s)) w).x1/\(ff (dy (told s)) w).y0<=y-0/\y+(w-1)<(ff (dy (told s)) w).y1:=fun x y hx=>by
  obtain⟨g1,g2,g3,g4⟩:=Reg.aQ.1 (b2 x y hx);exact⟨by show (dy (told s)).x0-w<=_;omega,by show _<(dy (told s)).x1+w;omega,by show (dy (told s)).y0-w<=_;omega,by show _<(dy (told s)).y1+w;omega⟩
 have e:=e aN;have L:ahD s w=bN s (a_ (coreS s 0 (w-1) 0 (w-1)) 0 (w-1) 0 (w-1)):=by rw[Reg.ahD,aaa (by omega)]
 obtain⟨A,U⟩:∃A,A=bN (aB [ff (dy (told s)) w]) s:=⟨_,rfl⟩;rw[<-U]at hl e;have W:=hl.2.2 _ w3 (ks.up (by omega));have n1:noR w=dJ (w-1) 0 (w-1) 0:=funext fun q=>by simp only[noR,dJ,ae.mk.injEq];omega
 have n2:af3 w=dJ 0 (w-1) 0 (w-1):=funext fun q=>by simp only[af3,dJ,ae.mk.injEq];omega
 have I:=Reg.bW hl.1 (l:=w-1) (r:=0) (d:=w-1) (u:=0) (by omega) (by omega) (by omega) (by omega);have Y:aB ((told A).map (noR w))=a_ A (w-1) 0 (w-1) 0:=by rw[n1];rfl
 obtain⟨N,hN⟩:∃N,N=a_ A (w-1) 0 (w-1) 0:=⟨_,rfl⟩;rw[<-hN]at I e Y;have sk:=I.2.2 1100000 100000 W (by omega) (by omega) (by omega) (by omega);have cs:=(Reg.b6 D I.1).1;have O:=I1 D I.1 ks;obtain⟨z,hC⟩:∃z,z=bN s N:=⟨_,rfl⟩;rw[<-hC]at cs O e;rw[<-e]at L;have R:=Reg.bW cs (l:=0) (r:=w-1) (d:=0) (u:=w-1) (by omega) (by omega) (by omega) (by omega);have Z:aB ((told z).map (af3 w))=a_ z 0 (w-1) 0 (w-1):=by rw[n2];rfl
 obtain⟨V,hV⟩:∃V,V=a_ z 0 (w-1) 0 (w-1):=⟨_,rfl⟩;rw[<-hV]at R Z L;exact⟨A,N,z,V,U,hl.1,W,Y,I.1,sk,hC,cs,O,Z,R.1,R.2.2 1000000 100000 O (by omega) (by omega) (by omega) (by omega),L.symm⟩
theorem afN(s:List an)(I:bE s)(ks:cv 1000000 s)(hn:(told s).length<=1000000)(w:Int)(h0:0<=w)(h1:w<=100000):af C 38 [.pv (aj (told s)),.pv (i64 w)] (.p (aj (told (ahD s w)))) []:=by
 have lm:=ai (told s) rc;refine fW hC Tryz.func38 rfl (by kernel_rfl) fun _=>?_;apply iW<;>intro g0
 ·refine⟨?_,trivial⟩;rw[Reg.ahD,aap (by omega)];rfl
 apply iW<;>intro g
 ·refine⟨?_,trivial⟩;have e:told s=[]:=adj.1 (by omega);have e2:s=[]:=Reg.qD I e;rw[e2,Reg.ahD];split<;>rfl
 have b8:told s≠[]:=fun c=>g (by rw[c];rfl);have ZO:s≠[]:=fun c=>b8 (by rw[c];rfl);obtain⟨b1,b2,b3⟩:=Reg.pG I ZO;have bk:=b3 _ ks;have wf:=Reg.l6 b1 h0;have w1:=(Reg.gz wf).1;have ZP:=Reg.qS wf;have wk:RK 1100000 (ff (dy (told s)) w):=by
  unfold RK at bk ⊢;simp only[ff];omega
 have w3:cv 1100000 (aB [ff (dy (told s)) w]):=(Reg.aR (l:=[ff (dy (told s)) w]) (fun q z=>by rw[ab_.1 z];exact wf)).2.2 _ fun q z=>by rw[ab_.1 z];exact wk
 obtain⟨A,N,D,V,eA,R,kA,eN,sN,kN,eC,U,kC,eV,sV,kV,eT⟩:=agM I ks ZO (w:=w) (by omega) h1;have FU:=mL w1 I (w3.up (by omega)) (ks.up (by omega)) (by rw[ZP,abS];omega);rw[ZP,<-eA]at FU;have lA:=Reg.vQ (K:=1100000) R kA;have lN:=Reg.vQ (K:=1200000) sN kN;have lC:=Reg.vQ (K:=1000000) U kC;have lV:=Reg.vQ (K:=1100000) sV kV;have W:=Reg.bP R;have rA:=Reg.fR R kA;have fC:=Reg.bP U;have rC:=Reg.fR U kC;have hN:=vR (l:=(told A).map (noR w)) (fun q z=>by
  obtain⟨p,hp,rfl⟩:=adS.1 z;have:=W p hp;unfold Full at this ⊢;simp only[noR];omega) (fun q z=>by
  obtain⟨p,hp,rfl⟩:=adS.1 z;have:=rA p hp;have:=W p hp;unfold RK Full at *;simp only[noR];omega) (by rw[aej];omega)
 rw[eN]at hN;have hV:=vR (l:=(told D).map (af3 w)) (fun q z=>by
  obtain⟨p,hp,rfl⟩:=adS.1 z;have:=fC p hp;unfold Full at this ⊢;simp only[af3];omega) (fun q z=>by
  obtain⟨p,hp,rfl⟩:=adS.1 z;have:=rC p hp;have:=fC p hp;unfold RK Full at *;simp only[af3];omega) (by rw[aej];omega)
 rw[eV]at hV;have Qo:=mL I sN (ks.up (by omega)) (kN.up (by omega)) (by omega);rw[<-eC]at Qo;have F4:=mL I sV (ks.up (by omega)) (kV.up (by omega)) (by omega);rw[eT]at F4;refine⟨_,_,(Dv (told s) b8 (by omega)),_,_,(vS (dy (told s)) w (sW (by unfold RK at bk ⊢;omega) b1) h0 (by omega)),_,_,FU,?_⟩;have la:=ai (told A) rc;refine aJ (fun i:Nat=>i<=(told A).length) (fun i=>[(0,.p (aj (told s))),(1,.p (i64 w)),(5,.p (aj (told A))),(6,.ow 6),(7,.p (i64 i))]) (fun i=>[(6,.row 87 ((((told A).take i).map (noR w)).map rc))]) (fun i=>(told A).length-i) 0 _ (au.dk hC _ 6 87 _ (by decide) rfl rfl (by decide)) (aaj _) ⟨Z,Z,Z,Z,Z,Y⟩ ⟨Z,Y⟩ fun i hi t h=>?_;have J:=ai (((told A).take i).map (noR w)) rc;have ZG:(((told A).take i).map (noR w)).length<=i:=by rw[aej,aat];omega
 apply iW<;>intro g1
 ·rw[la]at g1;obtain⟨q,z⟩:=ak (l:=told A) (i:=i) (by omega);have L:=aad z;have r0:=rA q L;unfold RK at r0;have f0:=W q L;unfold Full at f0;exact⟨(rc q),(idx rfl z),wO (by omega),wO (by omega),wO (by omega),wO (by omega),⟨fun r O=>by simp at O;subst O;rfl,by simp only[J,aaB,acs,aaM,aan];omega,by simp only[J,aaB,acs,aaM,aan];omega⟩,wO (by omega),(i+1),_,au.refl _ _,by omega,by omega,⟨Z,Z,Z,Z,Z,Y⟩,⟨by rw[aZ z,abE,abE];rfl,trivial⟩⟩
 rw[la]at g1;have e2:(told A).take i=told A:=adW (by omega);rw[e2];refine⟨_,_,hN,_,_,Qo,?_⟩;have lc:=ai (told D) rc;refine aJ (fun i:Nat=>i<=(told D).length) (fun i=>[(0,.p (aj (told s))),(1,.p (i64 w)),(9,.p (aj (told D))),(10,.ow 10),(11,.p (i64 i))]) (fun i=>[(10,.row 87 ((((told D).take i).map (af3 w)).map rc))]) (fun i=>(told D).length-i) 0 _ (au.dk hC _ 10 87 _ (by decide) rfl rfl (by decide)) (aaj _) ⟨Z,Z,Z,Z,Z,Y⟩ ⟨Z,Y⟩ fun j hj t h=>?_;have J:=ai (((told D).take j).map (af3 w)) rc;have ZG:(((told D).take j).map (af3 w)).length<=j:=by rw[aej,aat];omega
 apply iW<;>intro g2
 ·rw[lc]at g2;obtain⟨q,z⟩:=ak (l:=told D) (i:=j) (by omega);have L:=aad z;have r0:=rC q L;unfold RK at r0;have f0:=fC q L;unfold Full at f0;exact⟨(rc q),(idx rfl z),wO (by omega),wO (by omega),wO (by omega),wO (by omega),⟨fun r O=>by simp at O;subst O;rfl,by simp only[J,aaB,acs,aaM,aan];omega,by simp only[J,aaB,acs,aaM,aan];omega⟩,wO (by omega),(j+1),_,au.refl _ _,by omega,by omega,⟨Z,Z,Z,Z,Z,Y⟩,⟨by rw[aZ z,abE,abE];rfl,trivial⟩⟩
 rw[lc]at g2;have e3:(told D).take j=told D:=adW (by omega);rw[e3];refine⟨_,_,hV,_,_,F4,?_,trivial⟩;rfl
end M
end Go.Proofs.YtfloceomobknoaaGreatDoor
namespace Go.AM
theorem au.front{A:cD}(hC:bI A.C)(s:AS)(j id hi:Nat){e:TypeId}{es:List (List PV)}(hid:id<100000)(hj:s.t j=.vw id 0 hi)(V:s.h id=.row e es):
  au A s ⟨aT (gX id s).t j (.ow id),aT (gX id s).h id (.row e (es.take hi))⟩:=by
 intro S rho a w z;have W:(s.h id).live:=by rw[V];trivial
 have N:=z.hp id trivial;rw[V]at N;have N:aG A.C.P w (aO S w) e es (rho id):=N;have Y:=z.tm j trivial;rw[hj]at Y;obtain⟨v,hv⟩:∃v,v=a.tmps.getD j undef:=⟨_,rfl⟩;rw[<-hv]at Y;have Z:∃n c I,rho id=.slice I n c/\hi<=n/\v=.slice I hi c:=by
  cases Y with
  | vw _ _ _ _ q=>
   obtain⟨_,n,c,I,ti,O,_,_,q3,q4,R⟩:=q e (by rw[V];rfl);refine⟨n,c,I,O,q3,?_⟩;rw[R];cases I with
   | none=>simp
   | some x=>simp[Addr.add]
 obtain⟨n,c,I,O,q3,R⟩:=Z;have D:∀g,cC v=some g->cC (rho id)=some g:=fun g J=>by
  rw[R]at J;rw[O];cases I<;>exact J
 have ho:∀k,k≠id->aT (gX id s).h id (.row e (es.take hi)) k=xm id (s.h k):=fun k hk=>by rw[aV _ _ hk];show aT (fun k=>xm id (s.h k)) id AB.none k=_;rw[aV _ _ hk]
 have sD:=z.free id (.row e (es.take hi));have bu:=sD.new hC id (.row e (es.take hi)) hid (fun h=>h rfl) (aH _ _ _) w rfl rfl rfl (aam _) (fun k=>cC (rho id)=some k) (fun _ _ _=>rfl) (fun k hk=>by
  obtain⟨l1,l2,l3⟩:=z.pM id k trivial W hk;refine⟨l2,fun i xB U hb=>?_,l3⟩;have U:(aT (gX id s).h id (.row e (es.take hi)) i).live:=U;have hb:hasB w (aT (gX id s).h id (.row e (es.take hi)) i) (rho i) k:=hb;rw[ho i xB,yk]at U;rw[ho i xB,Cw]at hb;exact xB (z.dj i id k trivial trivial U W hb (DM hk))) v (fun g J=>⟨(z.pM id g trivial W (D g J)).1,.inr (D g J)⟩) fun T=>by
   show aG _ _ _ _ _ (aT rho id _ id);rw[aH];exact aG.front N O q3 R
 have L:b7 A cE cE S (aT rho id v) ⟨(gX id s).t,aT (gX id s).h id (.row e (es.take hi))⟩ a w:=bu.qo (fun _ _=>trivial) (fun k=>⟨fun _=>by by_cases e:k=id;exact .inr e;exact .inl e,fun _=>trivial⟩);refine⟨S,_,{ L with tm:=fun k _=>?_ }⟩;by_cases ek:k=j
 ·subst ek;show aY _ _ _ _ _ _ (aT _ _ _ _) _;rw[aH];exact .ow id _ fun _=>⟨trivial,by rw[aH];exact hv.symm⟩
 show aY _ _ _ _ _ _ (aT _ _ _ _) _;rw[aV _ _ ek];exact L.tm k trivial
end Go.AM
namespace Go.Proofs.YtfloceomobknoaaGreatDoor
namespace M
open Go.AM Go.RowKit Go.Lib
open Reg (ae an aS fS Piece BR bE cv told aB bO aa through fT aC ahD bN uo nM a_ coreS P4)
def zoc(z:Int×List an):List PV:=[i64 z.1,aw z.2]
def zc(z:Int×List an):Value×PV:=(.int .i64 z.1,aw z.2)
theorem aju{l:List (Int×List an)}{c:Int}(h:aje l c=true):kz (l.map zc) (.int .i64 c)=some (aw (ahF l c)):=by
 induction l with
 | nil=>cases h
 | cons p l ih=>
  obtain⟨k,s⟩:=p;simp only[aa8,zc,kz,Ak,ahF];by_cases e:k=c
  ·rw[aaA e.symm,aap e]
  rw[aaC (fun h=>e h.symm),aaa e];refine ih ?_;simpa [aje,e] using h
theorem aj1{l:List (Int×List an)}{c:Int}(h:aje l c=false):kz (l.map zc) (.int .i64 c)=none/\ahF l c=[]/\∀s,ah6 l c s=l++[(c,s)]:=by
 induction l with
 | nil=>exact⟨rfl,rfl,fun _=>rfl⟩
 | cons p l ih=>
  obtain⟨k,s⟩:=p;simp only[aje,abK,adX,acd]at h;obtain⟨z,D⟩:=h;obtain⟨I,J,L⟩:=ih D;refine⟨?_,by rw[ahF,aaa z];exact J,fun t=>by rw[ah6,aaa z,L];rfl⟩;simp only[aa8,zc,kz,Ak];rw[aaC (fun h=>z h.symm)];exact I
theorem ajv(l:List (Int×List an))(c:Int)(s:List an):mP (l.map zc) (.int .i64 c) (aw s)=(ah6 l c s).map zc:=by
 induction l with
 | nil=>rfl
 | cons p l ih=>
  obtain⟨k,u⟩:=p;simp only[aa8,zc,mP,Ak,ah6];by_cases e:k=c
  ·subst e;rw[aaA rfl,aap rfl];rfl
  rw[aaC (fun h=>e h.symm),aaa e];simp only[aa8];rw[<-ih];rfl
theorem aj2{l:List (Int×List an)}{c:Int}(h:aje l c=true)(s:List an):(ah6 l c s).map (·.1)=l.map (·.1):=by
 induction l with
 | nil=>cases h
 | cons p l ih=>
  obtain⟨k,u⟩:=p;rw[ah6];by_cases e:k=c
  ·rw[aap e];rfl
  rw[aaa e,aa8,aa8,ih (by simpa [aje,e] using h)]
theorem akf(l:List (Int×List an))(c:Int)(s:List an):(ah6 l c s).length<=l.length+1:=by
 induction l with
 | nil=>simp[ah6]
 | cons p l ih=>
  obtain⟨k,u⟩:=p;rw[ah6];split
  ·simp
  simp only[aaB];omega
theorem akg{l:List (Int×List an)}{c:Int}(h:c∈l.map (·.1)):aje l c=true:=by
 obtain⟨p,hp,rfl⟩:=adS.1 h;exact aci.2 ⟨p,hp,aaA rfl⟩
theorem aiU{lv:List Int}{i:Nat}(h:i<lv.length):lv[i]?=some (lv.getD i 0):=by
 rw[aav,acg h];rfl
theorem ajw(l:List Int)(n:Nat):(aA l).take n=aA (l.take n):=by rw[aA,aA,acb]
theorem aj3{lv:List Int}{k m:Nat}(hk:k=aip lv lv.length 0 0)(h:lv.length≠0)(z:m=lv.length-1):((aA lv).set k [i64 (lv.getD (lv.length-1) 0)]).take m=aA (aiM lv):=by
 subst z;rw[fV,ajw,aiM,<-hk]
theorem ajx(r:cP)(hg:zd r)(layer:Int)(all:List an)(hs:bE all)(hk:cv 1000000 all):af C 138 [.pv (.ag (rl r)),.pv (i64 layer),.pv (aw all)] (.p (.sl ((ahX r layer all).map zoc))) []:=by
 have la:=ai r.areas arr;have na:=hg.na;have hZ:ah4 (byZ layer r.areas []):=aiy (fun p hp=>by cases hp) fun a ha=>(hg.ar a ha).2;obtain⟨G,hG⟩:∃G,G=ahX r layer all:=⟨_,rfl⟩;rw[<-hG];rw[ahX]at hG;obtain⟨ZQ,hZe⟩:∃ZQ,ZQ=byZ layer r.areas []:=⟨_,rfl⟩;rw[<-hZe]at hG hZ;refine uX ⟨[6,22,25],[],[],[],[],[]⟩ hC Tryz.func138 rfl (by kernel_rfl) fun _=>?_;refine aJ (fun x:Nat×List (Int×List an)=>byZ layer (r.areas.drop x.1) x.2=ZQ/\ah4 x.2/\x.2.length<=x.1/\x.1<=r.areas.length) (fun x=>[(1,.p (i64 layer)),(2,.p (aw all)),(3,.p (.ip (rl r))),(7,.ow 19),(8,.ow 8),(21,.p (.sl (r.areas.map arr))),(22,.p (i64 r.areas.length)),(23,.p (i64 x.1))]) (fun x=>[(19,.map (.int .i64) (x.2.map zc)),(8,.row 3 (aA (x.2.map (·.1))))]) (fun x=>r.areas.length-x.1) (0,[]) _ ((au.dk (by exact hC) _ 8 3 _ (by decide) (by exact rfl) (by exact rfl) (by decide)).trans (au.gD (by exact hC) _ 3 (y:=.ip (rl r)) (fz:=[(3,.jd (rl r))]) (by exact⟨rfl,rfl⟩))) ⟨hZe.symm,fun p hp=>(by cases hp),by simp,aaj _⟩ ⟨rfl,rfl,rfl,rfl,rfl,rfl,adV (fun m:Nat=>AV.p (i64 m)) la,Z,Y⟩ ⟨Z,Z,Y⟩ fun ⟨i,L⟩ hx t h=>?_;obtain⟨x1,x2,x3,x4⟩:=hx;simp only at x1 x2 x3 x4;apply iW<;>intro g1<;>try simp only[zB]at g1
 ·obtain⟨a,R⟩:=ak (l:=r.areas) (i:=i) (by omega);have ha:=(hg.ar a (aad R)).2;rw[drop_at R,aiv]at x1;have z:=air x2 layer ha;obtain⟨ra1,ra2⟩:=xS ha.1;obtain⟨zg1,zg2⟩:=ah1 x2 a.clearance;have Yw:=zG (ph ha.1);have Wt:=ES (ahF L a.clearance) (aB a.region) zg1 ra1 (zg2.up (by omega)) (ra2.up (by omega));have lcl:(aA (L.map (·.1))).length=L.length:=by rw[bQ,aej]
  refine⟨(arr a),(idx rfl R),?_⟩;refine xp 10 (y:=.ip (arr a)) (fz:=[(10,.jd (arr a))]) (by exact hC) (by exact⟨rfl,rfl⟩) ?_;refine⟨_,_,(agF a layer),iW ?_ ?_⟩<;>intro V
  ·rw[aih,aap V]at x1 z;cases hz:aje L a.clearance
   ·obtain⟨n1,n2,n3⟩:=aj1 hz;rw[n2]at Wt;rw[n2,n3]at x1 z;exact⟨none,n1,⟨fun r N=>by simp at N;subst N;rfl,by simp only[lcl,aaM,aan];omega,by simp only[lcl,aaM,aan];omega⟩,none,n1,_,_,Yw,_,_,Wt,wO (by omega),(i+1,L++[(a.clearance,uo [] (aB a.region))]),_,au.refl _ _,⟨x1,z,by simp only[acv,abS];omega,by simp only;omega⟩,by simp only;omega,⟨Z,Z,Z,Z,Z,Z,Z,Z,Y⟩,⟨adV (AB.map _) (by rw[ajv,n3]),adV (AB.row _) (by simp[aA];rfl),trivial⟩⟩
   have n1:=aju hz;have n2:=aj2 hz (uo (ahF L a.clearance) (aB a.region));have n3:=ajv L a.clearance (uo (ahF L a.clearance) (aB a.region));have n4:(ah6 L a.clearance (uo (ahF L a.clearance) (aB a.region))).length=L.length:=by
    have:=adV List.length n2
    rwa [aej,aej]at this
   exact⟨(some (aw (ahF L a.clearance))),n1,(some (aw (ahF L a.clearance))),n1,_,_,Yw,_,_,Wt,wO (by omega),(i+1,ah6 L a.clearance (uo (ahF L a.clearance) (aB a.region))),_,au.refl _ _,⟨x1,z,by simp only;omega,by simp only;omega⟩,by simp only;omega,⟨Z,Z,Z,Z,Z,Z,Z,Z,Y⟩,⟨adV (AB.map _) n3,adV (AB.row _) (adV aA n2.symm),trivial⟩⟩
  rw[aih,aaa (by simpa using V)]at x1;exact⟨wO (by omega),(i+1,L),_,au.refl _ _,⟨x1,x2,by simp only;omega,by simp only;omega⟩,by simp only;omega,⟨Z,Z,Z,Z,Z,Z,Z,Z,Y⟩,⟨Z,Z,Y⟩⟩
 rw[aaz (by omega)]at x1;have x1:L=ZQ:=x1;subst x1;refine aJ (fun x:Nat×List Int×List an×List (Int×List an)=>x.2.2.2++ahU L x.1 x.2.1 x.2.2.1=G/\x.1=x.2.1.length/\(∀c∈x.2.1,aje L c=true)/\bE x.2.2.1/\cv 1000000 x.2.2.1/\x.2.2.2.length+x.2.1.length<=50) (fun x=>[(7,.ow 19),(8,.ow 8),(13,.ow 13),(14,.p (aw x.2.2.1))]) (fun x=>[(19,.map (.int .i64) (L.map zc)),(8,.row 3 (aA x.2.1)),(13,.row 170 (x.2.2.2.map zoc))]) (fun x=>x.1) (L.length,(L.map fun x:Int×List an=>x.1),all,([]:List (Int×List an))) _ (au.dk (by exact hC) _ 13 170 _ (by decide) (by exact rfl) (by exact rfl) (by decide)) ⟨hG.symm,by simp,fun c hc=>akg hc,hs,hk,by simp only[acs,aej];omega⟩ ⟨Z,Z,Z,Z,Y⟩ ⟨Z,Z,Z,Y⟩ fun ⟨n,lv,rest,out⟩ hx t h=>?_;obtain⟨W,z2,z3,z4,z5,z6⟩:=hx;simp only at W z2 z3 z4 z5 z6;have D:=bQ lv;apply iW<;>intro V<;>try simp only[zB]at V
 ·have U:lv.length≠0:=by
   have:(0:Int)<((aA lv).length:Int):=by simpa using V
   omega
  obtain⟨m,rfl⟩:∃m,n=m+1:=⟨n-1,by omega⟩;rw[ahU,aaa U]at W;have hK:aip lv lv.length 0 0<lv.length:=aiI (by omega);have s_:=z3 _ (aiP U);have Cm:=aju s_;obtain⟨J,y2'⟩:=ah1 x2 (ah5 lv);have O:=Kz rest (ahF L (ah5 lv)) z4 J (z5.up (by omega)) (y2'.up (by omega));have akI:=iJ rest (ahF L (ah5 lv)) z4 J (z5.up (by omega)) (y2'.up (by omega));have Qo:=(Reg.b6 z4 J).1;have F4:=I1 z4 J z5;refine aJ (fun y:Nat×Nat×Nat=>aip lv y.1 y.2.1 y.2.2=aip lv lv.length 0 0/\y.2.1<lv.length/\y.2.2<=lv.length/\y.1=lv.length-y.2.2) (fun y=>[(7,.ow 19),(8,.ow 8),(13,.ow 13),(14,.p (aw rest)),(15,.p (i64 y.2.1)),(60,.ow 8),(61,.p (i64 lv.length)),(62,.p (i64 y.2.2))]) (fun y=>[(19,.map (.int .i64) (L.map zc)),(8,.row 3 (aA lv)),(13,.row 170 (out.map zoc))]) (fun y=>y.1) (lv.length,0,0) _ (au.refl _ _) ⟨rfl,by simp only;omega,aaj _,rfl⟩ ⟨rfl,rfl,rfl,rfl,rfl,rfl,adV (fun m:Nat=>AV.p (i64 m)) D,Z,Y⟩ ⟨Z,Z,Z,Y⟩ fun ⟨f,k,j⟩ hy t h=>?_;obtain⟨I,w2,w3,w4⟩:=hy;simp only at I w2 w3 w4;apply iW<;>intro g3<;>try simp only[zB]at g3
  ·have hj:j<lv.length:=by omega
   obtain⟨f,rfl⟩:∃f',f=f'+1:=⟨f-1,by omega⟩;rw[aip,aap hj]at I;refine⟨⟨by omega,by dsimp only;rw[D];omega⟩,[i64 (lv.getD j 0)],(idx rfl (aiU hj)).2,⟨by omega,by dsimp only;rw[D];omega⟩,[i64 (lv.getD k 0)],(idx rfl (aiU w2)).2,iW ?_ ?_⟩<;>intro g4
   ·rw[aap g4]at I;exact⟨⟨by dsimp only;omega,by dsimp only;omega⟩,(f,j,j+1),_,au.refl _ _,⟨I,hj,by simp only;omega,by simp only;omega⟩,by simp only;omega,⟨Z,Z,Z,Z,Z,Z,Z,Z,Y⟩,⟨Z,Z,Z,Y⟩⟩
   rw[aaa g4]at I;exact⟨⟨by dsimp only;omega,by dsimp only;omega⟩,(f,k,j+1),_,au.refl _ _,⟨I,w2,by simp only;omega,by simp only;omega⟩,by simp only;omega,⟨Z,Z,Z,Z,Z,Z,Z,Z,Y⟩,⟨Z,Z,Z,Y⟩⟩
  have hf:f=0:=by omega
  subst hf;rw[aip]at I;rw[ah5,<-I]at Cm O akI W;rw[ah5,<-I]at Qo F4;have L4:lv.length-1<lv.length:=by omega
  refine qy (au.refl _ _) ?_;refine⟨⟨by omega,by dsimp only;rw[D];omega⟩,[i64 (lv.getD k 0)],(idx rfl (aiU w2)).2,⟨by rw[D];omega,by rw[D];omega⟩,⟨by rw[D];omega,by rw[D];omega⟩,[i64 (lv.getD (lv.length-1) 0)],(idx (show ((aA lv).length:Int)-1=((lv.length-1:Nat):Int) by rw[D];omega) (aiU L4)).2,⟨by omega,by dsimp only;rw[D];omega⟩,[i64 (lv.getD k 0)],(idx rfl (aiU w2)).2,⟨by simp only[List.length_set];rw[D];omega,by simp only[List.length_set];rw[D];omega⟩,?_⟩;refine Or.inl ?_;refine⟨⟨by omega,by simp only[aaM];rw[D];omega,by simp only[aaM];rw[D];omega⟩,?_⟩;refine qy (au.front (by exact hC) _ 8 8 _ (by decide) (by exact rfl) (by exact rfl)) ?_;refine⟨(some (aw (ahF L (lv.getD k 0)))),Cm,_,_,O,⟨fun r N=>by simp at N;subst N;rfl,by simp only[aej,aaM,aan];omega,by simp only[aej,aaM,aan];omega⟩,(some (aw (ahF L (lv.getD k 0)))),Cm,_,_,akI,(m,aiM lv,bN rest (ahF L (lv.getD k 0)),out++[(lv.getD k 0,nM rest (ahF L (lv.getD k 0)))]),_,au.refl _ _,⟨?_,?_,?_,Qo,F4,?_⟩,?_,⟨Z,Z,Z,Z,Y⟩,⟨rfl,adV (AB.row _) ?_,adV (AB.row _) ?_,trivial⟩⟩
  ·simp only[abx,aee];exact W
  ·simp only;rw[aiN U];omega
  ·exact fun c hc=>z3 c (aiO U c hc)
  ·simp only[acv,abS];rw[aiN U];omega
  ·simp only;omega
  ·refine aj3 I U ?_;simp only[aaM];rw[D];omega
  rw[abE];rfl
 have U:lv.length=0:=by
  have:¬(0:Int)<((aA lv).length:Int):=by simpa using V
  omega
 have hn:n=0:=by omega
 subst hn;rw[ahU]at W;refine⟨⟨fun r N=>by simp at N;subst N;rfl,by simp only[aej,aaM,aan];omega,by simp only[aej,aaM,aan];omega⟩,?_,trivial⟩;rw[<-W,abE];rfl
end M
end Go.Proofs.YtfloceomobknoaaGreatDoor
