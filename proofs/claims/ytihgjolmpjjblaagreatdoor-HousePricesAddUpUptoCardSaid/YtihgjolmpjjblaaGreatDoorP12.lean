/- Part 12 of the proof of HousePricesAddUp. -/
import Derived.Test.YtihgjolmpjjblaaGreatDoorP11
set_option linter.unusedVariables false
set_option linter.unusedSimpArgs false
set_option maxRecDepth 100000
set_option maxHeartbeats 8000000
namespace Go
abbrev GU:=@List.singleton_append
end Go
namespace Go.Proofs.YtihgjolmpjjblaaGreatDoor
namespace M
open Go.AM Go.RowKit Go.Lib
open Reg (aB aR dq yr Piece dF gy Full RK told cH iL iO ew gW xK bM through dm mE kX gf Jj pN)
def mJ(p:Piece):List PV:=[i64 p.layer,a_ p.set,aE (told p.set)]
structure xY(a:yr):Prop where
 cop:0<a.coppers.length/\a.coppers.length<=16
 reg:∀r∈a.coppers,Reg.bA r=0
 out:Reg.bA a.outline=0
 few:a.bores.length<=500
 bor:∀b∈a.bores,xK a.coppers.length b
 lan:a.lands.length<=1000
theorem xZ{n:Int}{b:dq}(h:xK n b):ew b=true:=by
 have:=h.ok;simp only[gW,aJ]at this;exact this.1
structure ac8(s:List aR):Prop where
 sok:dF s
 ink:gy 1000000 s
 few:(told s).length<=25000000
theorem C6{bs:List dq}(z:∀b∈bs,ew b=true)(J:bs.length<=500)(k:Int){r:List aB}(N:Reg.bA r=0):ac8 (mE bs k r):=by
 have h:=R2 N;have D:∀q∈dm bs k,Full q:=fun q O=>by
  obtain⟨b,hb,rfl⟩:=aZ.1 O;exact Reg.mC (z b (qZ.1 hb).1)
 have hl:(dm bs k).length<=500:=by
  rw[dm,au];exact aS (kJ _ _) J
 obtain⟨I,b2,b3⟩:=Reg.eS D;obtain⟨R,c2,_⟩:=Reg.oC h.sok I;refine⟨R,Ux h.sok I h.ink,aS (Reg.O4 h.full D) ?_⟩;have:2*(r.length+(dm bs k).length)<=5000:=by have:=h.len;omega
 exact Nat.mul_le_mul this this
theorem G5(a:yr)(ha:xY a):ai C 77 [.aU [.p (.sl (a.coppers.map rr)),.p (aE a.outline),.p (.sl (a.bores.map bc)),.p (.sl (a.lands.map lc)),.row 101 [],.row 254 [],.row 60 [],.row 263 [],.row 3 [],.row 3 [],.row 3 [],.row 265 []]] (.p (bool (pN a))) [.aU [.p (.sl (a.coppers.map rr)),.p (aE a.outline),.p (.sl (a.bores.map bc)),.p (.sl (a.lands.map lc)),.row 101 ((kX a.bores 0 a.coppers).map fun s=>[a_ s]),.row 254 ((gf a.bores 0 a.coppers).map mJ),.row 60 [],.row 263 [],.row 3 [],.row 3 [],.row 3 [],.row 265 []]]:=by
 have lk:=an a.coppers rr;have lb:=an a.bores bc;have N:∀b∈a.bores,ew b=true:=fun b h=>xZ (ha.bor b h);have Jo:=ha.few;have RA:=ha.cop;obtain⟨DD,hDD⟩:∃DD,DD=kX a.bores 0 a.coppers:=⟨_,rfl⟩;obtain⟨PP,hPP⟩:∃PP,PP=gf a.bores 0 a.coppers:=⟨_,rfl⟩;obtain⟨OK,hOK⟩:∃OK,OK=Jj a.bores 0 a.coppers:=⟨_,rfl⟩;have hres:pN a=(OK&&decide (PP.length<=2000)):=by rw[pN,hOK,hPP]
 rw[hres,<-hDD,<-hPP];refine ZG ⟨[],[],[],[18],[],[14]⟩ hC Tryz.func77 rfl (by kernel_rfl) fun _=>⟨_,aA.open hC _ 100000 [90000,90001,90002,90003,90004,90005,90006,90007] (by exact rfl) rfl rfl rfl,?_⟩;refine aP (fun x:Nat×Bool×List (List aR)×List Piece=>x.2.2.1++kX a.bores x.1 (a.coppers.drop x.1)=DD/\x.2.2.2++gf a.bores x.1 (a.coppers.drop x.1)=PP/\(x.2.1&&Jj a.bores x.1 (a.coppers.drop x.1))=OK/\x.2.2.1.length<=x.1/\x.2.2.2.length<=25000000*x.1/\x.1<=a.coppers.length) (fun x=>[(0,.bx 100000 0),(3,.p (bool x.2.1)),(16,.p (.sl (a.coppers.map rr))),(17,.p (i64 a.coppers.length)),(18,.p (i64 x.1))]) (fun x=>[(100000,.box [.p (.sl (a.coppers.map rr)),.p (aE a.outline),.p (.sl (a.bores.map bc)),.p (.sl (a.lands.map lc)),.ow 90000,.ow 90001,.ow 90002,.ow 90003,.ow 90004,.ow 90005,.ow 90006,.ow 90007]),(90000,.row 101 (x.2.2.1.map fun s=>[a_ s])),(90001,.row 254 (x.2.2.2.map mJ)),(90002,.row 60 []),(90003,.row 263 []),(90004,.row 3 []),(90005,.row 3 []),(90006,.row 3 []),(90007,.row 265 [])]) (fun x=>a.coppers.length-x.1) (0,true,[],[]) _ (aA.refl _ _) ⟨hDD.symm,hPP.symm,by rw[hOK];rfl,aG _,ak _,ak _⟩ ⟨rfl,rfl,rfl,af (fun m:Nat=>AV.p (i64 m)) lk,Z,Y⟩ ⟨Z,Z,Z,Z,Z,Z,Z,Z,Z,Y⟩ fun ⟨i,ok,D,P⟩ hx t h=>?_;obtain⟨U,V,W,q4,q5,q6⟩:=hx;simp only at U V W q4 q5 q6;apply iW<;>intro g<;>try simp only[zB]at g
 ·obtain⟨r,O⟩:=ao (l:=a.coppers) (i:=i) (by omega);have aad:=ha.reg r (aj O);have hro:=R2 aad;rw[drop_at O]at U V W;simp only[kX,gf,Jj]at U V W;have TV:=C6 N Jo i aad;refine⟨(rr r),(idx rfl O),?_⟩;refine aP (fun y:Nat×List aB=>y.2++dm (a.bores.drop y.1) i=dm a.bores i/\y.2.length<=y.1/\y.1<=a.bores.length/\∀q∈y.2,∃b∈a.bores,q=bM b) (fun y=>[(0,.bx 100000 0),(3,.p (bool ok)),(16,.p (.sl (a.coppers.map rr))),(17,.p (i64 a.coppers.length)),(18,.p (i64 i)),(4,.p (i64 i)),(5,.p (aE r)),(27,.p (.sl (a.bores.map bc))),(28,.p (i64 a.bores.length)),(29,.p (i64 y.1)),(6,.ow 6)]) (fun y=>[(100000,.box [.p (.sl (a.coppers.map rr)),.p (aE a.outline),.p (.sl (a.bores.map bc)),.p (.sl (a.lands.map lc)),.ow 90000,.ow 90001,.ow 90002,.ow 90003,.ow 90004,.ow 90005,.ow 90006,.ow 90007]),(90000,.row 101 (D.map fun s=>[a_ s])),(90001,.row 254 (P.map mJ)),(90002,.row 60 []),(90003,.row 263 []),(90004,.row 3 []),(90005,.row 3 []),(90006,.row 3 []),(90007,.row 265 []),(6,.row 93 (y.2.map rc))]) (fun y=>a.bores.length-y.1) (0,[]) _ (aA.eK (by exact hC) _ 6 93 _ (by decide) (by exact rfl) (by exact rfl) (by decide)) ⟨rfl,aG _,ak _,fun q h=>by cases h⟩ ⟨rfl,rfl,rfl,rfl,rfl,rfl,rfl,rfl,af (fun m:Nat=>AV.p (i64 m)) lb,Z,Z,Y⟩ ⟨Z,Z,Z,Z,Z,Z,Z,Z,Z,Z,Y⟩ fun ⟨j,hl⟩ hy t h=>?_;obtain⟨k1,k2,k3,k4⟩:=hy;simp only at k1 k2 k3 k4;apply iW<;>intro g2<;>try simp only[zB]at g2
  ·obtain⟨b,R⟩:=ao (l:=a.bores) (i:=j) (by omega);have Hg:=N b (aj R);rw[drop_at R]at k1;refine⟨(bc b),(idx rfl R),_,_,(oE b i),iW ?_ ?_⟩<;>intro g3
   ·have e:dm (b::a.bores.drop (j+1)) i=bM b::dm (a.bores.drop (j+1)) i:=by rw[dm,wz,ae (by simpa using g3)];rfl
    rw[e]at k1;refine⟨_,_,(fA b Hg),⟨fun r O=>by simp at O;subst O;rfl,by simp only[au,aQ,bX];omega,by simp only[au,aQ,bX];omega⟩,wO (by omega),(j+1,hl++[bM b]),_,aA.refl _ _,?_⟩;exact⟨⟨by simp only[d_,GU];exact k1,by simp only[bJ,ij];omega,by simp only;omega,fun q I=>by
     rcases b_.1 I with I | I
     ·exact k4 q I
     rw[bV]at I;exact⟨b,aj R,I⟩⟩,by simp only;omega,⟨Z,Z,Z,Z,Z,Z,Z,Z,Z,Z,Z,Y⟩,⟨rfl,rfl,rfl,rfl,rfl,rfl,rfl,rfl,rfl,by rw[bB];rfl,trivial⟩⟩
   have e:dm (b::a.bores.drop (j+1)) i=dm (a.bores.drop (j+1)) i:=by rw[dm,wz,aa (by simpa using g3)];rfl
   rw[e]at k1;exact⟨wO (by omega),(j+1,hl),_,aA.refl _ _,⟨k1,by simp only;omega,by simp only;omega,k4⟩,by simp only;omega,⟨Z,Z,Z,Z,Z,Z,Z,Z,Z,Z,Z,Y⟩,⟨Z,Z,Z,Z,Z,Z,Z,Z,Z,Z,Y⟩⟩
  have e:hl=dm a.bores i:=by
   rw[aT (by omega)]at k1;rw[<-k1];simp[dm]
  have so:=qx hl 1010000 (by omega) (by omega) (fun q I=>by obtain⟨b,hb,rfl⟩:=k4 q I;exact Reg.mC (N b hb)) (fun q I=>by obtain⟨b,hb,rfl⟩:=k4 q I;exact Reg.uC (N b hb)) (by omega);have bf:=Reg.eS (l:=hl) fun q I=>by obtain⟨b,hb,rfl⟩:=k4 q I;exact Reg.mC (N b hb)
  have bk:=bf.2.2 1010000 fun q I=>by obtain⟨b,hb,rfl⟩:=k4 q I;exact Reg.uC (N b hb)
  have Rc:=Cy _ _ hro.sok bf.1 (hro.ink.up (by omega)) (bk.up (by omega));have hS:iL (cH r) (cH hl)=mE a.bores i r:=by rw[e];rfl
  rw[hS]at Rc;obtain⟨S,hSe⟩:∃S,S=mE a.bores i r:=⟨_,rfl⟩;rw[<-hSe]at Rc TV U V W;obtain⟨d1,d2,d3⟩:=TV;have sl:=Reg.eW d1 (by omega) d2;have sx:=Reg.rP d1 (by omega) d2;refine⟨_,_,(OM hro),_,_,so,_,_,Rc,?_⟩;have ml:=vM S (by omega) (fun t ht=>by have:=sx t ht;omega) (by omega);refine (ZE (fun XP:Bool=>XP=(ok&&decide ((told S).length<=2000))) (fun XP=>[(0,.bx 100000 0),(3,.p (bool XP)),(16,.p (.sl (a.coppers.map rr))),(17,.p (i64 a.coppers.length)),(18,.p (i64 i)),(4,.p (i64 i)),(9,.p (a_ S))]) (fun _=>[(100000,.box [.p (.sl (a.coppers.map rr)),.p (aE a.outline),.p (.sl (a.bores.map bc)),.p (.sl (a.lands.map lc)),.ow 90000,.ow 90001,.ow 90002,.ow 90003,.ow 90004,.ow 90005,.ow 90006,.ow 90007]),(90000,.row 101 (D.map fun s=>[a_ s])),(90001,.row 254 (P.map mJ)),(90002,.row 60 []),(90003,.row 263 []),(90004,.row 3 []),(90005,.row 3 []),(90006,.row 3 []),(90007,.row 265 [])]) (fun XP hok t h=>?_) ?_)
  ·have q3':(XP&&Jj a.bores ((i:Int)+1) (a.coppers.drop (i+1)))=OK:=by rw[hok,Bool.and_assoc];exact W
   refine⟨⟨fun r O=>by simp at O;subst O;rfl,by simp only[au,aQ,bX];omega,by simp only[au,aQ,bX];omega⟩,_,_,(Jh S d1 (d2.up (by omega)) (by omega)),?_⟩;have pf:=Reg.O5 S;have lp:=an (iO S) fun p=>[a_ p];refine aP (fun z:Nat×List Piece=>z.2++((iO S).drop z.1).map (⟨(i:Int),·⟩)++gf a.bores ((i:Int)+1) (a.coppers.drop (i+1))=PP/\z.2.length<=25000000*i+z.1/\z.1<=(iO S).length) (fun z=>[(0,.bx 100000 0),(3,.p (bool XP)),(16,.p (.sl (a.coppers.map rr))),(17,.p (i64 a.coppers.length)),(18,.p (i64 i)),(4,.p (i64 i)),(64,.p (.sl ((iO S).map fun p=>[a_ p]))),(65,.p (i64 (iO S).length)),(66,.p (i64 z.1))]) (fun z=>[(100000,.box [.p (.sl (a.coppers.map rr)),.p (aE a.outline),.p (.sl (a.bores.map bc)),.p (.sl (a.lands.map lc)),.ow 90000,.ow 90001,.ow 90002,.ow 90003,.ow 90004,.ow 90005,.ow 90006,.ow 90007]),(90000,.row 101 ((D++[S]).map fun s=>[a_ s])),(90001,.row 254 (z.2.map mJ)),(90002,.row 60 []),(90003,.row 263 []),(90004,.row 3 []),(90005,.row 3 []),(90006,.row 3 []),(90007,.row 265 [])]) (fun z=>(iO S).length-z.1) (0,P) _ ((aA.own (by exact hC) _ 64 (id:=64) (by exact rfl) (by exact rfl)).trans ((aA.pack (by exact hC) _ 100000 (cs:=[.p (.sl (a.coppers.map rr)),.p (aE a.outline),.p (.sl (a.bores.map bc)),.p (.sl (a.lands.map lc)),.row 101 ((D++[S]).map fun s=>[a_ s]),.row 254 (P.map mJ),.row 60 [],.row 263 [],.row 3 [],.row 3 [],.row 3 [],.row 265 []]) (by exact rfl) (by exact rfl) (by exact⟨rfl,rfl,rfl,rfl,by rw[bB];rfl,Z,Z,Z,Z,Z,Z,Z,Y⟩)).trans (aA.open (by exact hC) _ 100000 [90000,90001,90002,90003,90004,90005,90006,90007] (cs:=[.p (.sl (a.coppers.map rr)),.p (aE a.outline),.p (.sl (a.bores.map bc)),.p (.sl (a.lands.map lc)),.row 101 ((D++[S]).map fun s=>[a_ s]),.row 254 (P.map mJ),.row 60 [],.row 263 [],.row 3 [],.row 3 [],.row 3 [],.row 265 []]) (by exact rfl) rfl rfl rfl))) ⟨by simp only[pL,d_];exact V,by simp only;omega,ak _⟩ ⟨rfl,rfl,rfl,rfl,rfl,rfl,rfl,af (fun m:Nat=>AV.p (i64 m)) lp,Z,Y⟩ ⟨Z,Z,Z,Z,Z,Z,Z,Z,Z,Y⟩ fun ⟨k,Ps⟩ hz t h=>?_;obtain⟨z1,z2,z3⟩:=hz;simp only at z1 z2 z3;apply iW<;>intro g5<;>try simp only[zB]at g5
   ·obtain⟨p,hp⟩:=ao (l:=iO S) (i:=k) (by omega);obtain⟨p1,_,_,p3⟩:=Reg.EV d1 (aj hp);have p4:=p3 _ d2;have px:=Reg.rP p1 (by omega) p4;have pb:=Reg.eW p1 (by omega) p4;have pt:=Reg.lO p1 (p4.up (by omega));rw[drop_at hp,eH]at z1;exact⟨[a_ p],(idx rfl hp),_,_,(rV p (by omega) (fun t ht=>by have:=px t ht;omega) pt),⟨fun r O=>by simp at O;subst O;rfl,by simp only[au,aQ,bX];omega,by simp only[au,aQ,bX];omega⟩,wO (by omega),(k+1,Ps++[Piece.mk i p]),_,((aA.pack (by exact hC) _ 100000 (cs:=[.p (.sl (a.coppers.map rr)),.p (aE a.outline),.p (.sl (a.bores.map bc)),.p (.sl (a.lands.map lc)),.row 101 ((D++[S]).map fun s=>[a_ s]),.row 254 ((Ps++[Piece.mk i p]).map mJ),.row 60 [],.row 263 [],.row 3 [],.row 3 [],.row 3 [],.row 265 []]) (by exact rfl) (by exact rfl) (by exact⟨rfl,rfl,rfl,rfl,rfl,by rw[bB (f:=mJ)];rfl,Z,Z,Z,Z,Z,Z,Y⟩)).trans (aA.open (by exact hC) _ 100000 [90000,90001,90002,90003,90004,90005,90006,90007] (cs:=[.p (.sl (a.coppers.map rr)),.p (aE a.outline),.p (.sl (a.bores.map bc)),.p (.sl (a.lands.map lc)),.row 101 ((D++[S]).map fun s=>[a_ s]),.row 254 ((Ps++[Piece.mk i p]).map mJ),.row 60 [],.row 263 [],.row 3 [],.row 3 [],.row 3 [],.row 265 []]) (by exact rfl) rfl rfl rfl)),⟨by simp only[d_,GU,GA]at z1 ⊢;exact z1,by simp only[bJ,ij];omega,by simp only;omega⟩,by simp only;omega,⟨Z,Z,Z,Z,Z,Z,Z,Z,Z,Y⟩,⟨Z,Z,Z,Z,Z,Z,Z,Z,Z,Y⟩⟩
   rw[aT (by omega),uF,dP]at z1;exact⟨wO (by omega),(i+1,XP,D++[S],Ps),_,aA.refl _ _,⟨by simp only[d_,GU];exact U,z1,q3',by simp only[bJ,ij];omega,by simp only;omega,by simp only;omega⟩,by simp only;omega,⟨Z,Z,Z,Z,Z,Y⟩,⟨Z,Z,Z,Z,Z,Z,Z,Z,Z,Y⟩⟩
  apply iW<;>intro J
  ·have J:ok=true:=J;exact⟨_,_,ml,_,by rw[J,nk];congr 1;exact propext ⟨fun h=>by omega,fun h=>by omega⟩,⟨Z,Z,Z,Z,Z,Z,Z,Y⟩,⟨Z,Z,Z,Z,Z,Z,Z,Z,Z,Y⟩⟩
  have J:ok=false:=by simpa using J
  exact⟨false,by rw[J];rfl,⟨Z,Z,Z,Z,Z,Z,Z,Y⟩,⟨Z,Z,Z,Z,Z,Z,Z,Z,Z,Y⟩⟩
 have e:a.coppers.length<=i:=by omega
 rw[aT e]at U V W;simp only[kX,gf,Jj,dP,qJ]at U V W;subst U V W;have lP:=an P mJ;apply iW<;>intro J<;>try simp only[zB]at J
 ·have J:ok=true:=J;exact And.intro (by rw[J,nk];exact af (fun b:Bool=>PV.im (Value.bool b)) (decide_eq_decide.2 ⟨fun h=>by rw[lP]at h;omega,fun h=>by rw[lP];omega⟩)) (And.intro ⟨Z,Z,Z,Z,Z,Z,Z,Z,Z,Z,Z,Z,Z,Y⟩ trivial)
 have J:ok=false:=by simpa using J
 exact And.intro (by rw[J];rfl) (And.intro ⟨Z,Z,Z,Z,Z,Z,Z,Z,Z,Z,Z,Z,Z,Y⟩ trivial)
open Reg (td jv fP beside)
theorem mF(l:List Int)(k:Int):aK (l++[k])=aK l++[[i64 k]]:=by rw[aK,bB];rfl
theorem G6(a:yr)(ha:xY a)(D:List (List PV))(P:List Piece)(hP:P.length<=1000000000)(VU:∀p∈P,(told p.set).length<=4398046511104):ai C 78 [.aU [.p (.sl (a.coppers.map rr)),.p (aE a.outline),.p (.sl (a.bores.map bc)),.p (.sl (a.lands.map lc)),.row 101 D,.row 254 (P.map mJ),.row 60 [],.row 263 [],.row 3 [],.row 3 [],.row 3 [],.row 265 []]] (.tu []) [.aU [.p (.sl (a.coppers.map rr)),.p (aE a.outline),.p (.sl (a.bores.map bc)),.p (.sl (a.lands.map lc)),.row 101 D,.row 254 (P.map mJ),.row 60 ((fP a.bores P).map fun l=>[ints l]),.row 263 [],.row 3 [],.row 3 [],.row 3 [],.row 265 []]]:=by
 have lb:=an a.bores bc;have lp:=an P mJ;have Jo:=ha.few;obtain⟨R,I⟩:∃R,R=fP a.bores P:=⟨_,rfl⟩;rw[<-I];refine ZG ⟨[],[],[],[],[],[]⟩ hC Tryz.func78 rfl (by kernel_rfl) fun _=>⟨_,aA.open hC _ 100000 [90000,90001,90002,90003,90004,90005,90006,90007] (by exact rfl) rfl rfl rfl,?_⟩;refine aP (fun x:Nat×List (List Int)=>x.2++fP (a.bores.drop x.1) P=R/\x.2.length<=x.1/\x.1<=a.bores.length) (fun x=>[(0,.bx 100000 0),(11,.p (.sl (a.bores.map bc))),(12,.p (i64 a.bores.length)),(13,.p (i64 x.1))]) (fun x=>[(100000,.box [.p (.sl (a.coppers.map rr)),.p (aE a.outline),.p (.sl (a.bores.map bc)),.p (.sl (a.lands.map lc)),.ow 90000,.ow 90001,.ow 90002,.ow 90003,.ow 90004,.ow 90005,.ow 90006,.ow 90007]),(90000,.row 101 D),(90001,.row 254 (P.map mJ)),(90002,.row 60 (x.2.map fun l=>[ints l])),(90003,.row 263 []),(90004,.row 3 []),(90005,.row 3 []),(90006,.row 3 []),(90007,.row 265 [])]) (fun x=>a.bores.length-x.1) (0,[]) _ (aA.refl _ _) ⟨I.symm,aG _,ak _⟩ ⟨rfl,rfl,af (fun m:Nat=>AV.p (i64 m)) lb,Z,Y⟩ ⟨Z,Z,Z,Z,Z,Z,Z,Z,Z,Y⟩ fun ⟨i,T⟩ hx t h=>?_;obtain⟨J,q2,q3⟩:=hx;simp only at J q2 q3;apply iW<;>intro g<;>try simp only[zB]at g
 ·obtain⟨b,U⟩:=ao (l:=a.bores) (i:=i) (by omega);have Hg:=xZ (ha.bor b (aj U));rw[drop_at U,fP,eH]at J;refine⟨(bc b),(idx rfl U),?_⟩;refine aP (fun y:Nat×List Int=>y.2++jv b y.1 (P.drop y.1)=jv b 0 P/\y.2.length<=y.1/\y.1<=P.length) (fun y=>[(0,.bx 100000 0),(11,.p (.sl (a.bores.map bc))),(12,.p (i64 a.bores.length)),(13,.p (i64 i)),(3,.p (.ip (bc b))),(4,.ow 4),(20,.ow 90001),(21,.p (i64 P.length)),(22,.p (i64 y.1))]) (fun y=>[(100000,.box [.p (.sl (a.coppers.map rr)),.p (aE a.outline),.p (.sl (a.bores.map bc)),.p (.sl (a.lands.map lc)),.ow 90000,.ow 90001,.ow 90002,.ow 90003,.ow 90004,.ow 90005,.ow 90006,.ow 90007]),(90000,.row 101 D),(90001,.row 254 (P.map mJ)),(90002,.row 60 (T.map fun l=>[ints l])),(90003,.row 263 []),(90004,.row 3 []),(90005,.row 3 []),(90006,.row 3 []),(90007,.row 265 []),(4,.row 3 (aK y.2))]) (fun y=>P.length-y.1) (0,[]) _ ((aA.iT (by exact hC) _ 3 (y:=.ip (bc b)) (fz:=[(3,.nd (bc b))]) (by exact⟨rfl,rfl⟩)).trans (aA.eK (by exact hC) _ 4 3 _ (by decide) (by exact rfl) (by exact rfl) (by decide))) ⟨rfl,aG _,ak _⟩ ⟨rfl,rfl,rfl,rfl,rfl,rfl,rfl,af (fun m:Nat=>AV.p (i64 m)) lp,Z,Y⟩ ⟨Z,Z,Z,Z,Z,Z,Z,Z,Z,Z,Y⟩ fun ⟨k,l⟩ V t h=>?_;obtain⟨z,k2,k3⟩:=V;simp only at z k2 k3;have ll:=cA l;apply iW<;>intro g2<;>try simp only[zB]at g2
  ·obtain⟨p,W⟩:=ao (l:=P) (i:=k) (by omega);have VR:=VU p (aj W);rw[drop_at W,jv]at z;have yes:td b p=true->l++[(k:Int)]++jv b (k+1) (P.drop (k+1))=jv b 0 P:=fun h=>by
    rw[ae h]at z;rw[d_];exact z
   have no:td b p=false->l++jv b (k+1) (P.drop (k+1))=jv b 0 P:=fun h=>by
    rw[aa (by rw[h];decide)]at z;exact z
   refine⟨⟨by omega,by (try dsimp only);omega⟩,(mJ p),(idx rfl W).2,iW ?_ ?_⟩<;>intro g3
   ·refine⟨_,_,(oE b p.layer),iW ?_ ?_⟩<;>intro g4
    ·refine⟨_,_,(CX (told p.set) (by omega) b Hg),iW ?_ ?_⟩<;>intro g5
     ·have V:=yes (by simp only[td,aJ];exact⟨⟨g3,g4⟩,g5⟩);exact⟨⟨fun r N=>by simp at N;subst N;rfl,by simp only[ll,aQ,bX];omega,by simp only[ll,aQ,bX];omega⟩,wO (by omega),(k+1,l++[(k:Int)]),_,aA.refl _ _,⟨V,by simp only[bJ,ij];omega,by simp only;omega⟩,by simp only;omega,⟨Z,Z,Z,Z,Z,Z,Z,Z,Z,Y⟩,⟨rfl,rfl,rfl,rfl,rfl,rfl,rfl,rfl,rfl,af (AB.row _) (mF l k).symm,trivial⟩⟩
     have O:=no (by simp only[td];rw[nt];exact .inr g5);exact⟨wO (by omega),(k+1,l),_,aA.refl _ _,⟨O,by simp only;omega,by simp only;omega⟩,by simp only;omega,⟨Z,Z,Z,Z,Z,Z,Z,Z,Z,Y⟩,⟨Z,Z,Z,Z,Z,Z,Z,Z,Z,Z,Y⟩⟩
    have O:=no (by simp only[td];rw[g4,dG,uh]);exact⟨wO (by omega),(k+1,l),_,aA.refl _ _,⟨O,by simp only;omega,by simp only;omega⟩,by simp only;omega,⟨Z,Z,Z,Z,Z,Z,Z,Z,Z,Y⟩,⟨Z,Z,Z,Z,Z,Z,Z,Z,Z,Z,Y⟩⟩
   have O:=no (by simp only[td];rw[g3,uh,uh]);exact⟨wO (by omega),(k+1,l),_,aA.refl _ _,⟨O,by simp only;omega,by simp only;omega⟩,by simp only;omega,⟨Z,Z,Z,Z,Z,Z,Z,Z,Z,Y⟩,⟨Z,Z,Z,Z,Z,Z,Z,Z,Z,Z,Y⟩⟩
  rw[aT (by omega),jv,dP]at z;have lT:=an T fun l=>[ints l];exact⟨⟨fun r N=>by simp at N;subst N;rfl,by simp only[lT,aQ,bX];omega,by simp only[lT,aQ,bX];omega⟩,wO (by omega),(i+1,T++[l]),_,((aA.pack (by exact hC) _ 100000 (cs:=[.p (.sl (a.coppers.map rr)),.p (aE a.outline),.p (.sl (a.bores.map bc)),.p (.sl (a.lands.map lc)),.row 101 D,.row 254 (P.map mJ),.row 60 ((T++[l]).map fun l=>[ints l]),.row 263 [],.row 3 [],.row 3 [],.row 3 [],.row 265 []]) (by exact rfl) (by exact rfl) (by exact⟨rfl,rfl,rfl,rfl,rfl,rfl,by rw[bB];rfl,Z,Z,Z,Z,Z,Y⟩)).trans (aA.open (by exact hC) _ 100000 [90000,90001,90002,90003,90004,90005,90006,90007] (cs:=[.p (.sl (a.coppers.map rr)),.p (aE a.outline),.p (.sl (a.bores.map bc)),.p (.sl (a.lands.map lc)),.row 101 D,.row 254 (P.map mJ),.row 60 ((T++[l]).map fun l=>[ints l]),.row 263 [],.row 3 [],.row 3 [],.row 3 [],.row 265 []]) (by exact rfl) rfl rfl rfl)),⟨by rw[z];simp only[d_,GU];exact J,by simp only[bJ,ij];omega,by simp only;omega⟩,by simp only;omega,⟨Z,Z,Z,Z,Y⟩,⟨Z,Z,Z,Z,Z,Z,Z,Z,Z,Y⟩⟩
 rw[aT (by omega),fP,uF,dP]at J;subst J;exact And.intro rfl (And.intro ⟨Z,Z,Z,Z,Z,Z,Z,Z,Z,Z,Z,Z,Z,Y⟩ trivial)
end M
namespace Reg
def DY(l:oW)(b:dq):Bool:=(b.plated&&through b l.layer)&&oV l.x l.y (bM b)
def Jp(l:oW)(p:Piece):Bool:=decide (p.layer=l.layer)&&(told p.set).any (oV l.x l.y)
def vj(l:oW):Nat->List Piece->UK×Bool
 | _,[]=>(⟨false,0⟩,false)
 | k,p::r=>if Jp l p=true then (⟨false,k⟩,true) else vj l (k+1) r
def sr(l:oW)(ps:List Piece):Nat->List dq->UK×Bool
 | _,[]=>vj l 0 ps
 | k,b::r=>if DY l b=true then (⟨true,k⟩,true) else sr l ps (k+1) r
def x_(bs:List dq)(ps:List Piece)(l:oW):UK×Bool:=sr l ps 0 bs
def ya(m:Nat):List Int->List Int->List Int
 | [],u=>u
 | p::r,u=>ya m r (kU u p.toNat m)
def Ab(n:Nat):Nat->List (List Int)->List Int->List Int
 | _,[],u=>u
 | k,l::r,u=>Ab n (k+1) r (ya (n+k) l u)
def Lx(n nb:Nat)(T:List (List Int)):List Int:=Ab n 0 T (iota (n+nb))
theorem Jq{m:Nat}:∀(l u:List Int),UF u->m<u.length->(∀p∈l,0<=p/\p.toNat<u.length)->UF (ya m l u)/\(ya m l u).length=u.length
 | [],u,h,_,_=>⟨h,rfl⟩
 | p::r,u,h,hm,hl=>by
  obtain⟨a,b⟩:=xR h (i:=p.toNat) (k:=m) (hl p bW).2 hm;obtain⟨c,d⟩:=Jq (m:=m) r (kU u p.toNat m) a (by omega) fun q z=>by have:=hl q (cD _ z);omega
  exact⟨c,d.trans b⟩
theorem Jr{n nb:Nat}:∀(l:List (List Int)) (k:Nat) (u:List Int),UF u->u.length=n+nb->k+l.length<=nb->(∀x∈l,∀p∈x,0<=p/\p<n)->UF (Ab n k l u)/\(Ab n k l u).length=n+nb
 | [],k,u,h,hl,_,_=>⟨h,hl⟩
 | x::r,k,u,h,hl,hk,hx=>by
  simp only[bN]at hk;obtain⟨a,b⟩:=Jq (m:=n+k) x u h (by omega) fun p hp=>by have:=hx x bW p hp;omega
  exact Jr r (k+1) _ a (b.trans hl) (by omega) fun y z=>hx y (cD _ z)
theorem EY(b:dq):∀(ps:List Piece) (k:Nat),∀p∈jv b k ps,(k:Int)<=p/\p<((k+ps.length:Nat):Int)
 | [],k,p,h=>by cases h
 | q::ps,k,p,h=>by
  rw[jv]at h;have ih:=EY b ps (k+1) p;simp only[bN];split at h
  ·rcases aq.1 h with rfl | h
   ·omega
   have:=ih h;omega
  have:=ih h;omega
def pO(bs:List dq)(n g:Nat)(s:(List Int×List Int)×List Int×List Int)(i:Nat):(List Int×List Int)×List Int×List Int:=
 if i<n then ((s.1.1.set i (g:Int),s.1.2),s.2.1++[(i:Int)],s.2.2) else
 if (bs.getD (i-n) ⟨0,0,0,0,0,false⟩).plated=true then ((s.1.1,s.1.2.set (i-n) (g:Int)),s.2.1,s.2.2++[((i:Int)-n)]) else
 ((s.1.1,s.1.2.set (i-n) (-1)),s.2.1,s.2.2)
def Js(bs:List dq)(n:Nat)(s:(List Int×List Int)×List dW)(l:List Nat):(List Int×List Int)×List dW:=
 let r:=l.foldl (pO bs n s.2.length) (s.1,[],[])
 (r.1,if 0<r.2.1.length+r.2.2.length then s.2++[⟨r.2.1,r.2.2,[]⟩] else s.2)
def yb(bs:List dq)(n:Nat)(L:List (List Nat)):(List Int×List Int)×List dW:=L.foldl (Js bs n) ((List.replicate n 0,List.replicate bs.length 0),[])
structure vR where
 groups:List dW
 ofLand:List Int
 atLand:List UK
def zp(p:ByteArray×ByteArray)(g:dW):dW:={ g with pins:=g.pins++[p] }
def Ac(bs:List dq)(ps:List Piece)(o:List Int×List Int)(s:vR)(l:oW):vR:=
 let h:=x_ bs ps l;let k:Int:=if h.2=true then (if h.1.bore=true then o.2 else o.1).getD h.1.num.toNat 0 else -1
 ⟨if h.2=true then s.groups.set k.toNat (zp (l.part,l.pin) (s.groups.getD k.toNat ⟨[],[],[]⟩)) else s.groups,s.ofLand++[k],s.atLand++[h.1]⟩
end Reg
namespace M
open Go.AM Go.RowKit Go.Lib
open Reg (aB aR dq oW yr Piece UK dF gy told cH ew bM through DY Jp vj sr x_)
def jx(h:UK):List PV:=[bool h.bore,i64 h.num]
theorem Jt:Ri=Reg.oV:=rfl
theorem G7(a:yr)(ha:xY a)(l:oW)(J N O U V:List (List PV))(op ob:List Int)(P:List Piece)(hP:P.length<=1000000000)(VU:∀p∈P,(told p.set).length<=4398046511104):ai C 143 [.pv (.ip ((uR a)++[.sl J,.sl (P.map mJ),.sl N,.sl O,ints op,ints ob,.sl U,.sl V])),.pv (.ag (lc l))] (.tu [.ag (jx (x_ a.bores P l).1),bool (x_ a.bores P l).2]) []:=by
 have lb:=an a.bores bc;have lp:=an P mJ;have Jo:=ha.few;obtain⟨R,hR⟩:∃R,R=x_ a.bores P l:=⟨_,rfl⟩;rw[<-hR];refine fW hC Tryz.func143 rfl (by kernel_rfl) fun _=>?_;refine aP (fun i:Nat=>sr l P i (a.bores.drop i)=R) (fun i=>[(0,.p (.ip ((uR a)++[.sl J,.sl (P.map mJ),.sl N,.sl O,ints op,ints ob,.sl U,.sl V]))),(3,.bx 3 0),(4,.bx 4 0),(14,.p (.sl (a.bores.map bc))),(15,.p (i64 a.bores.length)),(16,.p (i64 i))]) (fun _=>[(3,.box [.p (str l.part),.p (str l.pin),.p (i64 l.layer),.p (i64 l.x),.p (i64 l.y)]),(4,.box [.p (bool false),.p (i64 0)])]) (fun i=>a.bores.length-i) 0 _ (aA.refl _ _) hR.symm ⟨rfl,rfl,rfl,rfl,af (fun m:Nat=>AV.p (i64 m)) lb,Z,Y⟩ ⟨Z,Z,Y⟩ fun i hi t h=>?_;apply iW<;>intro g
 ·obtain⟨b,W⟩:=ao (l:=a.bores) (i:=i) (by omega);have Hg:=xZ (ha.bor b (aj W));rw[drop_at W,sr]at hi;refine⟨(bc b),(idx rfl W),?_⟩;have yes:DY l b=true->R=(⟨true,i⟩,true):=fun h=>by rw[ae h]at hi;exact hi.symm
  have no:DY l b=false->sr l P (i+1) (a.bores.drop (i+1))=R:=fun h=>by rw[aa (by rw[h];decide)]at hi;exact hi
  apply iW<;>intro D
  ·refine⟨_,_,(oE b l.layer),iW ?_ ?_⟩<;>intro I
   ·refine⟨_,_,(fA b Hg),_,_,(sj [bM b] (by simp) l.x l.y),iW ?_ ?_⟩<;>intro g3
    ·have hy:=yes (by simp only[DY,aJ];exact⟨⟨D,I⟩,by simpa [Jt] using g3⟩);exact And.intro (by rw[hy];rfl) trivial
    have z:=no (by simp only[DY];rw[nt];exact .inr (by simpa [Jt] using g3));exact⟨wO (by omega),(i+1),_,aA.refl _ _,z,by omega,⟨Z,Z,Z,Z,Z,Z,Y⟩,⟨Z,Z,Y⟩⟩
   have z:=no (by simp only[DY];rw[I,dG,uh]);exact⟨wO (by omega),(i+1),_,aA.refl _ _,z,by omega,⟨Z,Z,Z,Z,Z,Z,Y⟩,⟨Z,Z,Y⟩⟩
  have z:=no (by simp only[DY];rw[D,uh,uh]);exact⟨wO (by omega),(i+1),_,aA.refl _ _,z,by omega,⟨Z,Z,Z,Z,Z,Z,Y⟩,⟨Z,Z,Y⟩⟩
 rw[aT (by omega),sr]at hi;refine aP (fun k:Nat=>vj l k (P.drop k)=R) (fun k=>[(0,.p (.ip ((uR a)++[.sl J,.sl (P.map mJ),.sl N,.sl O,ints op,ints ob,.sl U,.sl V]))),(3,.bx 3 0),(4,.bx 4 0),(43,.p (.sl (P.map mJ))),(44,.p (i64 P.length)),(45,.p (i64 k))]) (fun _=>[(3,.box [.p (str l.part),.p (str l.pin),.p (i64 l.layer),.p (i64 l.x),.p (i64 l.y)]),(4,.box [.p (bool false),.p (i64 0)])]) (fun k=>P.length-k) 0 _ (aA.refl _ _) hi ⟨rfl,rfl,rfl,rfl,af (fun m:Nat=>AV.p (i64 m)) lp,Z,Y⟩ ⟨Z,Z,Y⟩ fun k hk t h=>?_;apply iW<;>intro g5
 ·obtain⟨p,KE⟩:=ao (l:=P) (i:=k) (by omega);have VR:=VU p (aj KE);rw[drop_at KE,vj]at hk;have yes:Jp l p=true->R=(⟨false,k⟩,true):=fun h=>by rw[ae h]at hk;exact hk.symm
  have no:Jp l p=false->vj l (k+1) (P.drop (k+1))=R:=fun h=>by rw[aa (by rw[h];decide)]at hk;exact hk
  refine⟨(mJ p),(idx rfl KE),iW ?_ ?_⟩<;>intro D
  ·refine⟨_,_,(sj (told p.set) (by omega) l.x l.y),iW ?_ ?_⟩<;>intro I
   ·have hy:=yes (by simp only[Jp,aJ,db];exact⟨D,I⟩);exact And.intro (by rw[hy];rfl) trivial
   have z:=no (by simp only[Jp];rw[nt];exact .inr I);exact⟨wO (by omega),(k+1),_,aA.refl _ _,z,by omega,⟨Z,Z,Z,Z,Z,Z,Y⟩,⟨Z,Z,Y⟩⟩
  have z:=no (by simp only[Jp];rw[aY D,uh]);exact⟨wO (by omega),(k+1),_,aA.refl _ _,z,by omega,⟨Z,Z,Z,Z,Z,Z,Y⟩,⟨Z,Z,Y⟩⟩
 rw[aT (by omega),vj]at hk;exact And.intro (by rw[<-hk];rfl) trivial
theorem yc(a:yr)(hp:UK)(I J N O R:List (List PV))(op ob:List Int)(P:List Piece)(n:Nat)(D:hp.num=n)(v:Int)(z:(if hp.bore=true then ob else op)[n]?=some v):ai C 144 [.pv (.ip ((uR a)++[.sl I,.sl (P.map mJ),.sl J,.sl N,ints op,ints ob,.sl O,.sl R])),.pv (.ag (jx hp))] (.p (i64 v)) []:=by
 obtain⟨b,m⟩:=hp;simp only at D z;subst D;refine fW hC Tryz.func144 rfl (by kernel_rfl) fun _=>?_;apply iW<;>intro g<;>try simp only[zB]at g
 ·rw[ae g]at z;refine⟨[i64 v],(idx rfl z),?_,trivial⟩;rfl
 rw[aa (by rw[g];decide)]at z;refine⟨[i64 v],(idx rfl z),?_,trivial⟩;rfl
end M
namespace Reg
def VV:dq:=⟨0,0,0,0,0,false⟩
def gv(bs:List dq)(j:Nat):Bool:=(bs.getD j VV).plated
structure jP(bs:List dq)(n g:Nat)(l:List Nat)(s r:(List Int×List Int)×List Int×List Int):Prop where
 l1:r.1.1.length=s.1.1.length
 l2:r.1.2.length=s.1.2.length
 op:∀i,r.1.1[i]?=if i∈l/\i<n then some (g:Int) else s.1.1[i]?
 ob:∀j,r.1.2[j]?=if n+j∈l then some (if gv bs j=true then (g:Int) else -1) else s.1.2[j]?
 ps:∀x,x∈r.2.1↔x∈s.2.1\/∃i:Nat,i∈l/\i<n/\x=i
 bs':∀x,x∈r.2.2↔x∈s.2.2\/∃j:Nat,n+j∈l/\gv bs j=true/\x=j
theorem yd(bs:List dq)(n g:Nat):∀(l:List Nat) (s:(List Int×List Int)×List Int×List Int),s.1.1.length=n->s.1.2.length=bs.length->(∀i∈l,i<n+bs.length)->jP bs n g l s (l.foldl (pO bs n g) s)
 | [],s,_,_,_=>⟨rfl,rfl,fun i=>by simp,fun j=>by simp,fun x=>by simp,fun x=>by simp⟩
 | i::l,s,h1,h2,hl=>by
  have hi:=hl i bW;have R:∀i∈l,i<n+bs.length:=fun i h=>hl i (cD _ h);rw[jN];by_cases c:i<n
  ·have e:pO bs n g s i=((s.1.1.set i (g:Int),s.1.2),s.2.1++[(i:Int)],s.2.2):=by rw[pO,ae c]
   rw[e];have r:=yd bs n g l ((s.1.1.set i (g:Int),s.1.2),s.2.1++[(i:Int)],s.2.2) (by simp only[aQ];exact h1) h2 R;refine⟨r.l1.trans (aQ ..),r.l2,fun k=>?_,fun j=>?_,fun x=>?_,fun x=>?_⟩
   ·rw[r.op];by_cases hk:k∈l/\k<n
    ·rw[ae hk,ae ⟨cD _ hk.1,hk.2⟩]
    rw[aa hk,gu (by omega)];by_cases U:k=i
    ·subst U;rw[ae rfl,ae ⟨bW,c⟩]
    rw[aa U,aa (fun N=>hk ⟨(aq.1 N.1).resolve_left U,N.2⟩)]
   ·rw[r.ob];have:(n+j∈i::l)↔n+j∈l:=by
     rw[aq];exact⟨fun h=>h.resolve_left (by omega),.inr⟩
    simp only[this]
   ·rw[r.ps];simp only[b_,aq,Gc,or_false];constructor
    ·rintro ((h | h) | ⟨k,a,b,e⟩)
     ·exact .inl h
     ·exact .inr ⟨i,.inl rfl,c,h⟩
     exact .inr ⟨k,.inr a,b,e⟩
    rintro (h | ⟨k,a | a,b,e⟩)
    ·exact .inl (.inl h)
    ·exact .inl (.inr (by rw[e,a]))
    exact .inr ⟨k,a,b,e⟩
   rw[r.bs'];simp only[aq];constructor
   ·rintro (h | ⟨k,a,b⟩)
    ·exact .inl h
    exact .inr ⟨k,.inr a,b⟩
   rintro (h | ⟨k,a | a,b⟩)
   ·exact .inl h
   ·omega
   exact .inr ⟨k,a,b⟩
  have V:(bs.getD (i-n) ⟨0,0,0,0,0,false⟩).plated=gv bs (i-n):=rfl;have z:∀k,(k∈i::l/\k<n)↔(k∈l/\k<n):=fun k=>by
   rw[aq];exact⟨fun h=>⟨h.1.resolve_left (by omega),h.2⟩,fun h=>⟨.inr h.1,h.2⟩⟩
  have D:∀x:Int,(∃k:Nat,k∈i::l/\k<n/\x=k)↔(∃k:Nat,k∈l/\k<n/\x=k):=fun x=>
   ⟨fun ⟨k,a,b,e⟩=>⟨k,((z k).1 ⟨a,b⟩).1,b,e⟩,fun ⟨k,a,b,e⟩=>⟨k,cD _ a,b,e⟩⟩
  have I:∀(o:List Int) (v:Int) (j:Nat),o.length=bs.length->(v=if gv bs (i-n)=true then (g:Int) else -1)->(if n+j∈l then some (if gv bs j=true then (g:Int) else -1) else (o.set (i-n) v)[j]?)=if n+j∈i::l then some (if gv bs j=true then (g:Int) else -1) else o[j]?:=fun o v j ho W=>by
   by_cases O:n+j∈l
   ·rw[ae O,ae (cD _ O)]
   rw[aa O,gu (by omega)];by_cases J:j=i-n
   ·subst J;rw[ae rfl,ae (aq.2 (.inl (by omega))),W]
   rw[aa J,aa (fun N=>O ((aq.1 N).resolve_left (by omega)))]
  by_cases p:gv bs (i-n)=true
  ·have e:pO bs n g s i=((s.1.1,s.1.2.set (i-n) (g:Int)),s.2.1,s.2.2++[((i:Int)-n)]):=by rw[pO,aa c,V,ae p]
   rw[e];have r:=yd bs n g l ((s.1.1,s.1.2.set (i-n) (g:Int)),s.2.1,s.2.2++[((i:Int)-n)]) h1 (by simp only[aQ];exact h2) R;refine⟨r.l1,r.l2.trans (aQ ..),fun k=>?_,fun j=>?_,fun x=>?_,fun x=>?_⟩
   ·rw[r.op];simp only[z]
   ·rw[r.ob];exact I _ _ _ h2 (by rw[ae p])
   ·rw[r.ps,D]
   rw[r.bs'];simp only[b_,aq,Gc,or_false];constructor
   ·rintro ((h | h) | ⟨k,a,b,e⟩)
    ·exact .inl h
    ·exact .inr ⟨i-n,.inl (by omega),p,by omega⟩
    exact .inr ⟨k,.inr a,b,e⟩
   rintro (h | ⟨k,a | a,b,e⟩)
   ·exact .inl (.inl h)
   ·exact .inl (.inr (by omega))
   exact .inr ⟨k,a,b,e⟩
  have e:pO bs n g s i=((s.1.1,s.1.2.set (i-n) (-1)),s.2.1,s.2.2):=by rw[pO,aa c,V,aa p]
  rw[e];have r:=yd bs n g l ((s.1.1,s.1.2.set (i-n) (-1)),s.2.1,s.2.2) h1 (by simp only[aQ];exact h2) R;refine⟨r.l1,r.l2.trans (aQ ..),fun k=>?_,fun j=>?_,fun x=>?_,fun x=>?_⟩
  ·rw[r.op];simp only[z]
  ·rw[r.ob];exact I _ _ _ h2 (by rw[aa p])
  ·rw[r.ps,D]
  rw[r.bs'];simp only[aq];constructor
  ·rintro (h | ⟨k,a,b⟩)
   ·exact .inl h
   exact .inr ⟨k,.inr a,b⟩
  rintro (h | ⟨k,a | a,b,e⟩)
  ·exact .inl h
  ·have:k=i-n:=by omega
   rw[this]at b;exact absurd b p
  exact .inr ⟨k,a,b,e⟩
structure Sx(bs:List dq)(n:Nat)(D:List (List Nat))(s:(List Int×List Int)×List dW):Prop where
 l1:s.1.1.length=n
 l2:s.1.2.length=bs.length
 a:∀i,i<n->(∃l∈D,i∈l)->∃(k:Nat) (g:dW),s.1.1[i]?=some (k:Int)/\s.2[k]?=some g/\(i:Int)∈g.pieces
 b:∀j,j<bs.length->gv bs j=true->(∃l∈D,n+j∈l)->∃(k:Nat) (g:dW),s.1.2[j]?=some (k:Int)/\s.2[k]?=some g/\(j:Int)∈g.bores
 c:∀(k:Nat) g,s.2[k]?=some g->g.pins=[]/\∀x∈g.pieces,∃i:Nat,x=i/\i<n/\s.1.1[i]?=some (k:Int)/\∃l∈D,i∈l
 d:∀j,j<bs.length->gv bs j=false->(∃l∈D,n+j∈l)->s.1.2[j]?=some (-1)
variable {bs:List dq}
theorem O_{n:Nat}{D:List (List Nat)}{s:(List Int×List Int)×List dW}(h:Sx bs n D s){l:List Nat}(hl:∀i∈l,i<n+bs.length)(hd:∀N∈D,∀i∈N,¬i∈l):Sx bs n (D++[l]) (Js bs n s l):=by
 have r:=yd bs n s.2.length l (s.1,[],[]) h.l1 h.l2 hl;obtain⟨q,hq⟩:∃q,q=l.foldl (pO bs n s.2.length) (s.1,[],[]):=⟨_,rfl⟩;rw[<-hq]at r;have hs:Js bs n s l=(q.1,if 0<q.2.1.length+q.2.2.length then s.2++[⟨q.2.1,q.2.2,[]⟩] else s.2):=by rw[hq];rfl
 rw[hs];have U:∀x,x∈q.2.1↔∃i:Nat,i∈l/\i<n/\x=i:=fun x=>by rw[r.ps];simp
 have V:∀x,x∈q.2.2↔∃j:Nat,n+j∈l/\gv bs j=true/\x=j:=fun x=>by rw[r.bs'];simp
 have keep:∀(k:Nat) g,s.2[k]?=some g->(if 0<q.2.1.length+q.2.2.length then s.2++[⟨q.2.1,q.2.2,[]⟩] else s.2)[k]?=some g:=fun k g hk=>by
  split
  ·rw[dN (az.1 hk).1];exact hk
  exact hk
 have W:∀x,(x∈q.2.1\/x∈q.2.2)->(if 0<q.2.1.length+q.2.2.length then s.2++[(⟨q.2.1,q.2.2,[]⟩:dW)] else s.2)[s.2.length]?=some ⟨q.2.1,q.2.2,[]⟩:=fun x Y=>by
  have:0<q.2.1.length+q.2.2.length:=by rcases Y with h | h<;>(have:=MV h;omega)
  rw[ae this,du (aG _),jL];rfl
 have Z:∀i,(∃N∈D++[l],i∈N)↔(∃N∈D,i∈N)\/i∈l:=fun i=>by
  constructor
  ·rintro⟨N,I,J⟩;rcases b_.1 I with I | I
   ·exact .inl ⟨N,I,J⟩
   rw[bV]at I;subst I;exact .inr J
  rintro (⟨N,I,J⟩ | J)
  ·exact⟨N,ir _ I,J⟩
  exact⟨l,qY _ (bV.2 rfl),J⟩
 refine⟨r.l1.trans h.l1,r.l2.trans h.l2,fun i hi O=>?_,fun j hj hp O=>?_,fun k g hk=>?_,fun j hj hp O=>?_⟩
 ·by_cases z:i∈l
  ·refine⟨s.2.length,_,by rw[r.op,ae ⟨z,hi⟩],W i (.inl ((U _).2 ⟨i,z,hi,rfl⟩)),(U _).2 ⟨i,z,hi,rfl⟩⟩
  obtain⟨k,g,I,J,h3⟩:=h.a i hi (((Z i).1 O).resolve_right z);exact⟨k,g,by rw[r.op,aa (fun hc=>z hc.1)];exact I,keep k g J,h3⟩
 ·by_cases z:n+j∈l
  ·refine⟨s.2.length,_,by rw[r.ob,ae z,ae hp],W j (.inr ((V _).2 ⟨j,z,hp,rfl⟩)),(V _).2 ⟨j,z,hp,rfl⟩⟩
  obtain⟨k,g,I,J,h3⟩:=h.b j hj hp (((Z _).1 O).resolve_right z);exact⟨k,g,by rw[r.ob,aa z];exact I,keep k g J,h3⟩
 ·by_cases Yg:k<s.2.length
  ·have AI:s.2[k]?=some g:=by
    have e:=keep k s.2[k] (aW Yg);have e2:=hk.symm.trans e;injection e2 with e2;rw[e2];exact aW Yg
   obtain⟨c1,c2⟩:=h.c k g AI;refine⟨c1,fun x Y=>?_⟩;obtain⟨i,e,hi,ho,O⟩:=c2 x Y;have z:¬i∈l:=fun hc=>by
    obtain⟨N,I,J⟩:=O;exact hd N I i J hc
   exact⟨i,e,hi,by rw[r.op,aa (fun hc=>z hc.1)];exact ho,(Z i).2 (.inl O)⟩
  have R:(if 0<q.2.1.length+q.2.2.length then s.2++[(⟨q.2.1,q.2.2,[]⟩:dW)] else s.2)[k]?=some g:=hk;split at R
  ·rw[du (by omega)]at R;have KR:k=s.2.length:=by
    have:=(az.1 R).1;simp at this;omega
   rw[KR,jL]at R;injection R with R;subst R;subst KR;refine⟨rfl,fun x Y=>?_⟩;obtain⟨i,z,hi,e⟩:=(U x).1 Y;exact⟨i,e,hi,by rw[r.op,ae ⟨z,hi⟩],(Z i).2 (.inr z)⟩
  exact absurd (az.1 R).1 Yg
 by_cases z:n+j∈l
 ·rw[r.ob,ae z,hp];rfl
 rw[r.ob,aa z];exact h.d j hj hp (((Z _).1 O).resolve_right z)
theorem Ju{n:Nat}:∀(L D:List (List Nat)) (s:(List Int×List Int)×List dW),Sx bs n D s->(∀l∈L,∀i∈l,i<n+bs.length)->(∀z∈D,∀l∈L,∀i∈z,¬i∈l)->(L.Pairwise fun z l=>∀i∈z,¬i∈l)->Sx bs n (D++L) (L.foldl (Js bs n) s)
 | [],D,s,h,_,_,_=>by rw[dP];exact h
 | l::L,D,s,h,hl,I,hp=>by
  have J:=iY.1 hp;have O:=O_ h (hl l bW) fun z R=>I z R l bW;have:=Ju L (D++[l]) (Js bs n s l) O (fun z h'=>hl z (cD _ h')) (fun z h' m N i hi=>by
   rcases b_.1 h' with h' | h'
   ·exact I z h' m (cD _ N) i hi
   rw[bV]at h';subst h';exact J.1 m N i hi) J.2
  rw[d_,GU]at this;exact this
structure th(bs:List dq)(n:Nat)(s:(List Int×List Int)×List dW):Prop where
 l1:s.1.1.length=n
 l2:s.1.2.length=bs.length
 a:∀i,i<n->∃(k:Nat) (g:dW),s.1.1[i]?=some (k:Int)/\s.2[k]?=some g/\(i:Int)∈g.pieces
 b:∀j,j<bs.length->gv bs j=true->∃(k:Nat) (g:dW),s.1.2[j]?=some (k:Int)/\s.2[k]?=some g/\(j:Int)∈g.bores
 c:∀(k:Nat) g,s.2[k]?=some g->g.pins=[]/\∀x∈g.pieces,∃i:Nat,x=i/\i<n/\s.1.1[i]?=some (k:Int)
 d:∀j,j<bs.length->gv bs j=false->s.1.2[j]?=some (-1)
theorem Pa{n:Nat}{u:List Int}(N:UF u)(hl:u.length=n+bs.length):th bs n (yb bs n (ba (kV u) (n+bs.length))):=by
 have I:=Bg N;rw[hl]at I;have O:Sx bs n [] ((List.replicate n 0,List.replicate bs.length 0),[]):=⟨bX,bX,fun i _ ⟨l,h,_⟩=>(by cases h),fun j _ _ ⟨l,h,_⟩=>(by cases h),fun k g h=>by simp at h,fun j _ _ ⟨l,h,_⟩=>(by cases h)⟩;have z:=Ju (ba (kV u) (n+bs.length)) [] _ O (fun l h i hi=>by
  obtain⟨r,_,rfl⟩:=aZ.1 h;exact (pM.1 hi).1) (fun l' h=>by cases h) (by
  rw[ba,xB];refine (CO _ _).imp fun {r q} R=>?_;intro i hi U;exact R ((pM.1 hi).2.symm.trans (pM.1 U).2))
 have D:∀i,i<n+bs.length->∃l∈[]++ba (kV u) (n+bs.length),i∈l:=fun i hi=>by
  refine⟨kj (kV u) (n+bs.length) (kV u i),?_,pM.2 ⟨hi,rfl⟩⟩;rw[nL,ba];exact aZ.2 ⟨kV u i,mem_keys.2 ⟨by have:=I.le i hi;omega,I.top i hi⟩,rfl⟩
 exact⟨z.l1,z.l2,fun i hi=>z.a i hi (D i (by omega)),fun j J hp=>z.b j J hp (D (n+j) (by omega)),fun k g hk=>⟨(z.c k g hk).1,fun x V=>by obtain⟨i,a,b,c,_⟩:=(z.c k g hk).2 x V;exact⟨i,a,b,c⟩⟩,fun j J hp=>z.d j J hp (D (n+j) (by omega))⟩
theorem Jv(l:oW):∀(ps:List Piece) (k:Nat),(vj l k ps).2=true->∃m:Nat,(vj l k ps).1=⟨false,m⟩/\k<=m/\m<k+ps.length
 | [],k,h=>by cases h
 | p::ps,k,h=>by
  rw[vj]at h ⊢;by_cases c:Jp l p=true
  ·rw[ae c];exact⟨k,rfl,aG _,by simp⟩
  rw[aa c]at h ⊢;obtain⟨m,a,b,d⟩:=Jv l ps (k+1) h;exact⟨m,a,by omega,by simp only[bN];omega⟩
theorem Jw(l:oW)(ps:List Piece):∀(bs:List dq) (k:Nat),(sr l ps k bs).2=true->(∃m:Nat,(sr l ps k bs).1=⟨false,m⟩/\m<ps.length)\/∃m:Nat,(sr l ps k bs).1=⟨true,m⟩/\k<=m/\m<k+bs.length/\gv bs (m-k)=true
 | [],k,h=>by
  rw[sr]at h ⊢;obtain⟨m,a,_,b⟩:=Jv l ps 0 h;exact .inl ⟨m,a,by omega⟩
 | b::bs,k,h=>by
  rw[sr]at h ⊢;by_cases c:DY l b=true
  ·rw[ae c];simp only[DY,aJ]at c;exact .inr ⟨k,rfl,aG _,by simp,by rw[jL];exact c.1.1⟩
  rw[aa c]at h ⊢;rcases Jw l ps bs (k+1) h with⟨m,a,d⟩ | ⟨m,a,d,e,f⟩
  ·exact .inl ⟨m,a,d⟩
  refine .inr ⟨m,a,by omega,by simp only[bN];omega,?_⟩;rw[show m-k=(m-(k+1))+1 by omega];exact f
theorem Pb{ps:List Piece}{s:(List Int×List Int)×List dW}(h:th bs ps.length s)(l:oW)(I:(x_ bs ps l).2=true):∃m k:Nat,(x_ bs ps l).1.num=m/\(if (x_ bs ps l).1.bore=true then s.1.2 else s.1.1)[m]?=some (k:Int)/\k<s.2.length:=by
 rcases Jw l ps bs 0 I with⟨m,a,d⟩ | ⟨m,a,_,d,e⟩
 ·obtain⟨k,g,z,D,_⟩:=h.a m d;refine⟨m,k,by rw[x_,a],?_,(az.1 D).1⟩;rw[x_,a];exact z
 obtain⟨k,g,z,D,_⟩:=h.b m (by omega) e;refine⟨m,k,by rw[x_,a],?_,(az.1 D).1⟩;rw[x_,a];exact z
end Reg
namespace M
open Go.AM Go.RowKit Go.Lib
open Reg (aB aR dq oW yr Piece dW UK UF iota kU ya Ab Lx dF gy told cH ew bM through pO Js yb th vR Ac zp x_)
def DZ(g:dW):List PV:=[ints g.pieces,ints g.bores,.sl (g.pins.map pc)]
def PE(g:dW):List PV:=[ints g.pieces,ints g.bores,.im (.slice none 0 0)]
def Pc(p:List (ByteArray×ByteArray)):HX:=if p=[] then .av .nl else .row 141 (p.map pc)
def gh(g:dW):List HX:=[.av (.p (ints g.pieces)),.av (.p (ints g.bores)),Pc g.pins]
theorem UN(f:AV->AV)(z:f .nl=.nl)(p:List (ByteArray×ByteArray)):HX.dn f (Pc p)=Pc p:=by
 unfold Pc;split
 ·simp only[HX.dn,z]
 rfl
theorem Sy(f:AV->AV)(hp:∀x,f (.p x)=.p x)(z:f .nl=.nl)(G:List dW):(G.map gh).map (fun r=>r.map (HX.dn f))=G.map gh:=by
 rw[nq];refine lZ fun g _=>?_;show [HX.dn f _,HX.dn f _,HX.dn f (Pc g.pins)]=_;rw[UN f z];simp only[HX.dn,hp];rfl
theorem EZ(d:Nat)(G:List dW):(G.map gh).map (fun r=>r.map (HX.dn (sc d)))=G.map gh:=Sy _ (fun _=>rfl) rfl G
theorem Sz(i d:Nat)(G:List dW):(G.map gh).map (fun r=>r.map (HX.dn (rn i d)))=G.map gh:=Sy _ (fun _=>rfl) rfl G
theorem lQ(n:Nat)(G:List dW)(k d:Nat)(a b:PV)(h:sc n (.ow d)=.ow d):((G.map gh).set k [.av (.p a),.av (.p b),.av (.ow d)]).map (fun r=>r.map (HX.dn (sc n)))=(G.map gh).set k [.av (.p a),.av (.p b),.av (.ow d)]:=by
 rw[w_,EZ];simp only[eH,uF,HX.dn,h];rfl
theorem XQ{G:List dW}(h:∀g∈G,g.pins=[]):(G.map PE).map uN=G.map gh:=by
 rw[nq];refine lZ fun g z=>?_;simp only[Function.comp,PE,gh,h g z];rfl
theorem XR(p:List (ByteArray×ByteArray)):Yc (Pc p) (.sl (p.map pc)):=by
 unfold Pc;split
 ·rename_i e;rw[e];exact .nl
 exact .row _ _
theorem Ly(G:List dW):SU (G.map gh) (G.map DZ):=SU.map fun g _=>⟨rfl,fun j u v z D=>by
 match j with
 | 0=>simp only[gh,DZ,kG,Option.some.injEq]at z D;subst z;subst D;exact .p _
 | 1=>simp only[gh,DZ,vX,kG,Option.some.injEq]at z D;subst z;subst D;exact .p _
 | 2=>simp only[gh,DZ,vX,kG,Option.some.injEq]at z D;subst z;subst D;exact XR _
 | j+3=>simp[gh]at z⟩
theorem of_eq{A:rZ}{s z:AS}(h:s=z):aA A s z:=h▸aA.refl A s
theorem aA.UO{A:rZ}(hC:bP A.C)(s:AS)(id k d:Nat){e:TypeId}{G:List dW}{g:dW}{R:TI}(U:d<100000)(hid:id≠d)(hb:s.h id=.aw e (G.map gh))(hk:G[k]?=some g)(W:A.C.T 141=some R)(I:0<R.size):
  aA A s ⟨(jk d s).t,bd (bd (jk d s).h d (.row 141 (g.pins.map pc))) id (.aw e ((G.map gh).set k [.av (.p (ints g.pieces)),.av (.p (ints g.bores)),.av (.ow d)]))⟩:=by
 have Y:=(az.1 hk).1;have z:(G.map gh)[k]?=some (gh g):=by rw[aD,hk];rfl
 have V:∀r∈G.map gh,∀x∈r,Mo x:=fun r z x D=>by
  obtain⟨g,_,rfl⟩:=aZ.1 z;simp only[gh,aq,Gc,or_false]at D;rcases D with rfl | rfl | rfl
  ·trivial
  ·trivial
  unfold Pc;split<;>trivial
 by_cases c:g.pins=[]
 ·have Z:=aA.W0 hC s id k 2 (e':=141) hb z (by rw[gh,Pc,ae c];rfl) W I;have O:=aA.tN hC ⟨s.t,bd s.h id (.aw e ((G.map gh).set k ((gh g).set 2 (.row 141 []))))⟩ id k 2 d (e:=e) (r:=(gh g).set 2 (.row 141 [])) U hid (aF _ _ _) (fun r z x D=>by
   rcases m_ z with z | z
   ·exact V r z x D
   subst z;simp only[gh,List.set_cons_succ,List.set_cons_zero,aq,Gc,or_false]at D;rcases D with rfl | rfl | rfl<;>trivial) (dZ (by rw[au];exact Y)) rfl
  refine (Z.trans O).trans (of_eq ?_);rw[c];refine af (AS.mk _) ?_;funext j;by_cases N:j=id
  ·subst N;rw[aF,aF,xM];rfl
  rw[bg _ _ N,bg _ _ N];by_cases J:j=d
  ·subst J;rw[aF,aF];rfl
  rw[bg _ _ J,bg _ _ J];show bd (fun m=>zF d (bd s.h id _ m)) d .none j=bd (fun m=>zF d (s.h m)) d .none j;rw[bg _ _ J,bg _ _ J];show zF d (bd _ _ _ j)=_;rw[bg _ _ N]
 have O:=aA.tN hC s id k 2 d (e':=141) (xs:=g.pins.map pc) U hid hb V z (by rw[gh,Pc,aa c];rfl);exact O
theorem UP(p:List (ByteArray×ByteArray))(x:ByteArray×ByteArray):Pc (p++[x])=.row 141 ((p++[x]).map pc):=by
 rw[Pc,aa (by simp)]
theorem C7(a:yr)(ha:xY a)(J:List (List PV))(P:List Piece)(T:List (List Int))(hP:P.length<=2000)(VU:∀p∈P,(told p.set).length<=4398046511104)(hT:T.length=a.bores.length)(U:List Int)(hU:U=Lx P.length a.bores.length T)(o:List Int×List Int)(G0:List dW)(hF:yb a.bores P.length (Reg.ba (Reg.kV U) (P.length+a.bores.length))=(o,G0))(R:vR)(hR:R=a.lands.foldl (Ac a.bores P o) ⟨G0,[],[]⟩)(hTi:∀x∈T,∀p∈x,0<=p/\p<P.length)(hTl:∀x∈T,x.length<=1000000000):ai C 79 [.aU [.p (.sl (a.coppers.map rr)),.p (aE a.outline),.p (.sl (a.bores.map bc)),.p (.sl (a.lands.map lc)),.row 101 J,.row 254 (P.map mJ),.row 60 (T.map fun l=>[ints l]),.row 263 [],.row 3 [],.row 3 [],.row 3 [],.row 265 []]] (.tu []) [.aU [.p (.sl (a.coppers.map rr)),.p (aE a.outline),.p (.sl (a.bores.map bc)),.p (.sl (a.lands.map lc)),.row 101 J,.row 254 (P.map mJ),.row 60 (T.map fun l=>[ints l]),.row 263 (R.groups.map DZ),.row 3 (aK o.1),.row 3 (aK o.2),.row 3 (aK R.ofLand),.row 265 (R.atLand.map jx)]]:=by
 have lb:=an a.bores bc;have lp:=an P mJ;have lT:=an T fun l=>[ints l];have Jo:=ha.few;obtain⟨n,hn⟩:∃n,n=P.length:=⟨_,rfl⟩;rw[<-hn]at hU hF;have afW:=Reg.Jr (n:=n) (nb:=a.bores.length) T 0 (iota (n+a.bores.length)) (Reg.Bf _) (Reg.qz _) (by omega) (by rw[hn];exact hTi);refine ZF ⟨[27,37],[],[(11,[66]),(37,[14,1000014,15,1000015,90003,1090003,100000,1100000]),(38,[14,1000014,15,1000015,90003,1090003,100000,1100000,219])],[28,37,38],[(11,[true,true,true,true,true,true,true,true,true,false,false,true,true,false,true,true,true]),(37,[true,false,false,false,true,true,true,true,true,true,true,true,true,true,true,true,false,true,true,true]),(38,[true,true,true,true,true,true,true,true,false,true,false,false,false,false,false,true,true,true,true,true,true,true])],[]⟩ hC Tryz.func79 rfl (by kernel_rfl) fun _=>⟨_,aA.open hC _ 100000 [90000,90001,90002,90003,90004,90005,90006,90007] (by exact rfl) rfl rfl rfl,?_⟩;refine⟨wO (by omega),?_⟩;have QP:=OX (n+a.bores.length) (by omega);have aaf:((n+a.bores.length:Nat):Int)=((P.map mJ).length:Int)+((a.bores.map bc).length:Int):=by omega
 rw[aaf]at QP;refine⟨_,_,QP,?_⟩;refine aP (fun x:Nat×List Int=>Ab n x.1 (T.drop x.1) x.2=U/\UF x.2/\x.2.length=n+a.bores.length/\x.1<=T.length) (fun x=>[(0,.bx 100000 0),(2,.p (i64 n)),(3,.bx 31 0),(35,.ow 90002),(36,.p (i64 T.length)),(37,.p (i64 x.1))]) (fun x=>[(100000,.box [.p (.sl (a.coppers.map rr)),.p (aE a.outline),.p (.sl (a.bores.map bc)),.p (.sl (a.lands.map lc)),.ow 90000,.ow 90001,.ow 90002,.ow 90003,.ow 90004,.ow 90005,.ow 90006,.ow 90007]),(90000,.row 101 J),(90001,.row 254 (P.map mJ)),(90002,.row 60 (T.map fun l=>[ints l])),(90003,.row 263 []),(90004,.row 3 []),(90005,.row 3 []),(90006,.row 3 []),(90007,.row 265 []),(31,.aU [.row 3 (aK x.2)])]) (fun x=>T.length-x.1) (0,iota (n+a.bores.length)) _ (aA.refl _ _) ⟨hU.symm,Reg.Bf _,Reg.qz _,ak _⟩ ⟨rfl,af (fun m:Nat=>AV.p (i64 m)) (lp.trans hn.symm),rfl,rfl,af (fun m:Nat=>AV.p (i64 m)) lT,Z,Y⟩ ⟨Z,Z,Z,Z,Z,Z,Z,Z,Z,Z,Y⟩ fun ⟨k,u⟩ hx t h=>?_;obtain⟨q1,q2,q3,q4⟩:=hx;simp only at q1 q2 q3 q4;apply iW<;>intro g<;>try simp only[zB]at g
 ·obtain⟨l,hlk⟩:=ao (l:=T) (i:=k) (by omega);have hl0:=hTi l (aj hlk);have hll:=hTl l (aj hlk);have ll:=an l fun n=>[i64 n];rw[drop_at hlk,Ab]at q1;refine⟨⟨by omega,by (try dsimp only);omega⟩,[ints l],(idx rfl hlk).2,?_⟩;refine aP (fun z:Nat×List Int=>ya (n+k) (l.drop z.1) z.2=ya (n+k) l u/\UF z.2/\z.2.length=n+a.bores.length) (fun z=>[(0,.bx 100000 0),(2,.p (i64 n)),(3,.bx 31 0),(35,.ow 90002),(36,.p (i64 T.length)),(37,.p (i64 k)),(4,.p (i64 k)),(42,.p (ints l)),(43,.p (i64 l.length)),(44,.p (i64 z.1))]) (fun z=>[(100000,.box [.p (.sl (a.coppers.map rr)),.p (aE a.outline),.p (.sl (a.bores.map bc)),.p (.sl (a.lands.map lc)),.ow 90000,.ow 90001,.ow 90002,.ow 90003,.ow 90004,.ow 90005,.ow 90006,.ow 90007]),(90000,.row 101 J),(90001,.row 254 (P.map mJ)),(90002,.row 60 (T.map fun l=>[ints l])),(90003,.row 263 []),(90004,.row 3 []),(90005,.row 3 []),(90006,.row 3 []),(90007,.row 265 []),(31,.aU [.row 3 (aK z.2)])]) (fun z=>l.length-z.1) (0,u) _ (aA.refl _ _) ⟨rfl,q2,q3⟩ ⟨rfl,rfl,rfl,rfl,rfl,rfl,rfl,rfl,af (fun m:Nat=>AV.p (i64 m)) ll,Z,Y⟩ ⟨Z,Z,Z,Z,Z,Z,Z,Z,Z,Z,Y⟩ fun ⟨j,v⟩ hz t h=>?_;obtain⟨z1,z2,z3⟩:=hz;simp only at z1 z2 z3;apply iW<;>intro g2<;>try simp only[zB]at g2
  ·obtain⟨p,hpj⟩:=ao (l:=l) (i:=j) (by omega);have hp0:=hl0 p (aj hpj);rw[drop_at hpj,ya]at z1;have hpp:((p.toNat:Nat):Int)=p:=Int.toNat_of_nonneg hp0.1;have hj:=Lp v z2 p.toNat (n+k) (by omega) (by omega);rw[hpp,Ba]at hj;obtain⟨N,w2⟩:=Reg.xR z2 (i:=p.toNat) (k:=n+k) (by omega) (by omega);exact⟨[i64 p],(idx rfl hpj),wO (by omega),_,_,hj,wO (by omega),(j+1,kU v p.toNat (n+k)),_,aA.refl _ _,⟨z1,N,w2.trans z3⟩,by simp only;omega,⟨Z,Z,Z,Z,Z,Z,Z,Z,Z,Z,Y⟩,⟨Z,Z,Z,Z,Z,Z,Z,Z,Z,Z,Y⟩⟩
  rw[aT (by omega),ya]at z1;exact⟨wO (by omega),(k+1,v),_,aA.refl _ _,⟨by rw[z1];exact q1,z2,z3,by simp only;omega⟩,by simp only;omega,⟨Z,Z,Z,Z,Z,Z,Y⟩,⟨Z,Z,Z,Z,Z,Z,Z,Z,Z,Z,Y⟩⟩
 rw[aT (by omega),Ab]at q1;have SA:=Lr u q2 (by omega);rw[q3]at SA;obtain⟨V,UI⟩:∃V,V=Reg.ba (Reg.kV u) (n+a.bores.length):=⟨_,rfl⟩;rw[<-UI]at SA;have hLi:∀l∈V,l.length<=n+a.bores.length/\∀i∈l,i<n+a.bores.length:=fun l hl=>by
  rw[UI,Reg.ba]at hl;obtain⟨r,_,rfl⟩:=aZ.1 hl;exact⟨Reg.xT _ _ _,fun i hi=>(Reg.pM.1 hi).1⟩
 have Kk:V.length<=n+a.bores.length:=by rw[UI,Reg.qA];exact Reg.tb _ _
 obtain⟨F,hFe⟩:∃F,F=yb a.bores n V:=⟨_,rfl⟩;have hFo:F=(o,G0):=by rw[hFe,UI,<-hF,<-q1]
 refine⟨⟨by omega,by omega,by dsimp only;omega,by omega⟩,⟨by omega,by omega,by dsimp only;omega,by omega⟩,_,_,SA,?_⟩;have lLL:=an V pl;have op0:aK (List.replicate n 0)=List.replicate n [i64 0]:=by rw[aK,List.map_replicate]
 have ob0:aK (List.replicate a.bores.length 0)=List.replicate a.bores.length [i64 0]:=by rw[aK,List.map_replicate]
 refine aP (fun x:Nat×(List Int×List Int)×List dW=>(V.drop x.1).foldl (Js a.bores n) x.2=F/\x.2.1.1.length=n/\x.2.1.2.length=a.bores.length/\x.2.2.length<=x.1/\x.1<=V.length) (fun x=>[(0,.bx 100000 0),(2,.p (i64 n)),(72,.p (.sl (V.map pl))),(73,.p (i64 V.length)),(74,.p (i64 x.1))]) (fun x=>[(100000,.box [.p (.sl (a.coppers.map rr)),.p (aE a.outline),.p (.sl (a.bores.map bc)),.p (.sl (a.lands.map lc)),.ow 90000,.ow 90001,.ow 90002,.ow 90003,.ow 90004,.ow 90005,.ow 90006,.ow 90007]),(90000,.row 101 J),(90001,.row 254 (P.map mJ)),(90002,.row 60 (T.map fun l=>[ints l])),(90003,.row 263 (x.2.2.map PE)),(90004,.row 3 (aK x.2.1.1)),(90005,.row 3 (aK x.2.1.2)),(90006,.row 3 []),(90007,.row 265 [])]) (fun x=>V.length-x.1) (0,(List.replicate n 0,List.replicate a.bores.length 0),[]) _ ((aA.own (by exact hC) _ 72 (id:=72) (by exact rfl) (by exact rfl)).trans ((aA.pack (by exact hC) _ 100000 (cs:=[.p (.sl (a.coppers.map rr)),.p (aE a.outline),.p (.sl (a.bores.map bc)),.p (.sl (a.lands.map lc)),.row 101 J,.row 254 (P.map mJ),.row 60 (T.map fun l=>[ints l]),.row 263 [],.row 3 (aK (List.replicate n 0)),.row 3 (aK (List.replicate a.bores.length 0)),.row 3 [],.row 265 []]) (by exact rfl) (by exact rfl) (by exact⟨rfl,rfl,rfl,rfl,rfl,rfl,rfl,rfl,af (AB.row _) (by rw[op0];rfl),af (AB.row _) (by rw[ob0,<-lb];rfl),Z,Z,Y⟩)).trans (aA.open (by exact hC) _ 100000 [90000,90001,90002,90003,90004,90005,90006,90007] (cs:=[.p (.sl (a.coppers.map rr)),.p (aE a.outline),.p (.sl (a.bores.map bc)),.p (.sl (a.lands.map lc)),.row 101 J,.row 254 (P.map mJ),.row 60 (T.map fun l=>[ints l]),.row 263 [],.row 3 (aK (List.replicate n 0)),.row 3 (aK (List.replicate a.bores.length 0)),.row 3 [],.row 265 []]) (by exact rfl) rfl rfl rfl))) ⟨hFe.symm,bX,bX,ak _,ak _⟩ ⟨rfl,rfl,rfl,af (fun m:Nat=>AV.p (i64 m)) lLL,Z,Y⟩ ⟨Z,Z,Z,Z,Z,Z,Z,Z,Z,Y⟩ fun ⟨j,⟨op,ob⟩,G⟩ hx t h=>?_;obtain⟨y1,y2,y3,y4,y5⟩:=hx;simp only at y1 y2 y3 y4 y5;apply iW<;>intro g2<;>try simp only[zB]at g2
 ·obtain⟨l,hlj⟩:=ao (l:=V) (i:=j) (by omega);obtain⟨Vc,Hd⟩:=hLi l (aj hlj);rw[drop_at hlj,jN]at y1;refine⟨(pl l),(idx rfl hlj),?_⟩;have ll2:(aK (l.map fun (m:Nat)=>(m:Int))).length=l.length:=by rw[cA,au]
  obtain⟨r,I⟩:∃r,r=l.foldl (pO a.bores n G.length) ((op,ob),[],[]):=⟨_,rfl⟩;have qh:Js a.bores n ((op,ob),G) l=(r.1,if 0<r.2.1.length+r.2.2.length then G++[⟨r.2.1,r.2.2,[]⟩] else G):=by rw[I];rfl
  rw[qh]at y1;refine aP (fun y:Nat×(List Int×List Int)×List Int×List Int=>(l.drop y.1).foldl (pO a.bores n G.length) y.2=r/\y.2.1.1.length=n/\y.2.1.2.length=a.bores.length/\y.2.2.1.length<=y.1/\y.2.2.2.length<=y.1/\y.1<=l.length) (fun y=>[(0,.bx 100000 0),(2,.p (i64 n)),(72,.p (.sl (V.map pl))),(73,.p (i64 V.length)),(74,.p (i64 j)),(10,.bx 10 0),(78,.p (.sl (aK (l.map fun (m:Nat)=>(m:Int))))),(79,.p (i64 l.length)),(80,.p (i64 y.1))]) (fun y=>[(100000,.box [.p (.sl (a.coppers.map rr)),.p (aE a.outline),.p (.sl (a.bores.map bc)),.p (.sl (a.lands.map lc)),.ow 90000,.ow 90001,.ow 90002,.ow 90003,.ow 90004,.ow 90005,.ow 90006,.ow 90007]),(90000,.row 101 J),(90001,.row 254 (P.map mJ)),(90002,.row 60 (T.map fun l=>[ints l])),(90003,.row 263 (G.map PE)),(90004,.row 3 (aK y.2.1.1)),(90005,.row 3 (aK y.2.1.2)),(90006,.row 3 []),(90007,.row 265 []),(10,.box [.ow 90100,.ow 90101,.nl]),(90100,.row 3 (aK y.2.2.1)),(90101,.row 3 (aK y.2.2.2))]) (fun y=>l.length-y.1) (0,(op,ob),[],[]) _ ((aA.gH (by exact hC) _ 10 0 90100 3 _ _ (by decide) (by decide) (by exact rfl) (by exact rfl) (by exact rfl) (by decide)).trans (aA.gH (by exact hC) _ 10 1 90101 3 _ _ (by decide) (by decide) (by exact rfl) (by exact rfl) (by exact rfl) (by decide))) ⟨I.symm,y2,y3,aG _,aG _,ak _⟩ ⟨rfl,rfl,rfl,rfl,rfl,rfl,rfl,af (fun m:Nat=>AV.p (i64 m)) ll2,Z,Y⟩ ⟨Z,Z,Z,Z,Z,Z,Z,Z,Z,Z,Z,Z,Y⟩ fun ⟨m,⟨W,O⟩,ps,bs⟩ hy t h=>?_;obtain⟨N,w2,w3,w4,w5,w6⟩:=hy;simp only at N w2 w3 w4 w5 w6;apply iW<;>intro g3<;>try simp only[zB]at g3
  ·obtain⟨i,him⟩:=ao (l:=l) (i:=m) (by omega);have hiN:=Hd i (aj him);rw[drop_at him,jN]at N;have lG:=an G PE;refine⟨[i64 i],⟨by omega,da (by rw[aD];simp[him])⟩,?_⟩;apply iW<;>intro g4
   ·rw[pO,ae (by omega)]at N;obtain⟨v,hv⟩:=ao (l:=W) (i:=i) (by omega);have lv:=cA W;have lps:=cA ps;exact⟨⟨by omega,by (try dsimp only);omega⟩,[i64 v],(da hv),⟨fun r I=>by simp at I;subst I;rfl,by simp only[lps,List.length_set,List.length_replicate];omega,by simp only[lps,List.length_set,List.length_replicate];omega⟩,wO (by omega),(m+1,(W.set i (G.length:Int),O),ps++[(i:Int)],bs),_,aA.N0 _ 111 90100 (by decide) (by decide),⟨N,by simp only[List.length_set];exact w2,w3,by simp only[List.length_append,List.length_singleton];omega,by simp only;omega,by simp only;omega⟩,by simp only;omega,⟨Z,Z,Z,Z,Z,Z,Z,Z,Z,Y⟩,⟨rfl,rfl,rfl,rfl,rfl,congrArg (AB.row _) ((gQ W i ((G.map PE).length:Int)).trans (by rw[lG])),rfl,rfl,rfl,rfl,congrArg (AB.row _) (mF ps i).symm,Z,Y⟩⟩
   rw[pO,aa (by omega)]at N;refine⟨wO (by omega),?_⟩;obtain⟨b,PD⟩:=ao (l:=a.bores) (i:=i-n) (by omega);have PA:a.bores.getD (i-n) ⟨0,0,0,0,0,false⟩=b:=by rw[F1,PD];rfl
   rw[PA]at N;refine⟨(bc b),(idx (show (i:Int)-n=((i-n:Nat):Int) by omega) PD),iW ?_ ?_⟩<;>intro g5
   ·rw[ae g5]at N;have e1:(i:Int)-n=((i-n:Nat):Int):=by omega
    obtain⟨v,hv⟩:=ao (l:=O) (i:=i-n) (by omega);have lv:=cA O;have lbs:=cA bs;exact⟨wO (by omega),⟨by omega,by (try dsimp only);omega⟩,[i64 v],(by rw[e1];exact da hv),wO (by omega),⟨fun r I=>by simp at I;subst I;rfl,by simp only[lbs,List.length_set,List.length_replicate];omega,by simp only[lbs,List.length_set,List.length_replicate];omega⟩,wO (by omega),(m+1,(W,O.set (i-n) (G.length:Int)),ps,bs++[(i:Int)-n]),_,aA.N0 _ 144 90101 (by decide) (by decide),⟨N,w2,by simp only[List.length_set];exact w3,by simp only;omega,by simp only[List.length_append,List.length_singleton];omega,by simp only;omega⟩,by simp only;omega,⟨Z,Z,Z,Z,Z,Z,Z,Z,Z,Y⟩,⟨rfl,rfl,rfl,rfl,rfl,rfl,congrArg (AB.row _) ((congrArg (fun z=>List.set (aK O) z _) (show ((i:Int)-n).toNat=i-n by omega)).trans ((gQ O (i-n) ((G.map PE).length:Int)).trans (by rw[lG]))),rfl,rfl,rfl,rfl,congrArg (AB.row _) (mF bs ((i:Int)-n)).symm,trivial⟩⟩
   rw[aa (by rw[g5];decide)]at N;have e1:(i:Int)-n=((i-n:Nat):Int):=by omega
   obtain⟨v,hv⟩:=ao (l:=O) (i:=i-n) (by omega);have lv:=cA O;exact⟨wO (by omega),⟨by omega,by (try dsimp only);omega⟩,[i64 v],(by rw[e1];exact da hv),wO (by omega),(m+1,(W,O.set (i-n) (-1)),ps,bs),_,aA.refl _ _,⟨N,w2,by simp only[List.length_set];exact w3,by simp only;omega,by simp only;omega,by simp only;omega⟩,by simp only;omega,⟨Z,Z,Z,Z,Z,Z,Z,Z,Z,Y⟩,⟨rfl,rfl,rfl,rfl,rfl,rfl,congrArg (AB.row _) ((congrArg (fun z=>List.set (aK O) z _) (show ((i:Int)-n).toNat=i-n by omega)).trans (gQ O (i-n) (-1))),Z,Z,Z,Z,Z,Y⟩⟩
  have e:l.length<=m:=by omega
  rw[aT e]at N;have N:((W,O),ps,bs)=r:=N;rw[<-N]at y1;simp only at y1;have lps:=cA ps;have lbs:=cA bs;have lG:=an G PE;refine qk ((aA.gI (by exact hC) _ 10 0 90100 3 _ _ (by decide) (by exact rfl) (by exact rfl) (by exact rfl)).trans ((aA.gI (by exact hC) _ 10 1 90101 3 _ _ (by decide) (by exact rfl) (by exact rfl) (by exact rfl)).trans (aA.ZA (by exact hC) _ 10 2 _ (by exact rfl) (by exact rfl)))) ?_;refine⟨⟨by dsimp only;omega,by dsimp only;omega⟩,iW ?_ ?_⟩<;>intro g4<;>try simp only[zB]at g4
  ·rw[ae (by omega)]at y1;exact⟨⟨fun r I=>by simp at I;subst I;rfl,by simp only[lG,aQ,bX];omega,by simp only[lG,aQ,bX];omega⟩,wO (by omega),(j+1,(W,O),G++[dW.mk ps bs []]),_,((aA.pack (by exact hC) _ 100000 (cs:=[.p (.sl (a.coppers.map rr)),.p (aE a.outline),.p (.sl (a.bores.map bc)),.p (.sl (a.lands.map lc)),.row 101 J,.row 254 (P.map mJ),.row 60 (T.map fun l=>[ints l]),.row 263 ((G++[dW.mk ps bs []]).map PE),.row 3 (aK W),.row 3 (aK O),.row 3 [],.row 265 []]) (by exact rfl) (by exact rfl) (by exact⟨rfl,rfl,rfl,rfl,rfl,rfl,rfl,by rw[bB];rfl,Z,Z,Z,Z,Y⟩)).trans (aA.open (by exact hC) _ 100000 [90000,90001,90002,90003,90004,90005,90006,90007] (cs:=[.p (.sl (a.coppers.map rr)),.p (aE a.outline),.p (.sl (a.bores.map bc)),.p (.sl (a.lands.map lc)),.row 101 J,.row 254 (P.map mJ),.row 60 (T.map fun l=>[ints l]),.row 263 ((G++[dW.mk ps bs []]).map PE),.row 3 (aK W),.row 3 (aK O),.row 3 [],.row 265 []]) (by exact rfl) rfl rfl rfl)),⟨y1,w2,w3,by simp only[bJ,ij];omega,by simp only;omega⟩,by simp only;omega,⟨Z,Z,Z,Z,Z,Y⟩,⟨Z,Z,Z,Z,Z,Z,Z,Z,Z,Y⟩⟩
  rw[aa (by omega)]at y1;exact⟨wO (by omega),(j+1,(W,O),G),_,aA.refl _ _,⟨y1,w2,w3,by simp only;omega,by simp only;omega⟩,by simp only;omega,⟨Z,Z,Z,Z,Z,Y⟩,⟨Z,Z,Z,Z,Z,Z,Z,Z,Z,Y⟩⟩
 rw[aT (by omega)]at y1;have y1:((op,ob),G)=F:=y1;have XS:th a.bores n F:=by rw[hFe,UI];exact Reg.Pa q2 q3
 rw[<-y1]at XS;have lG:=an G PE;have ll:=an a.lands lc;have af4:=ha.lan;have MQ:∀g∈G,g.pins=[]:=fun g hg=>by
  obtain⟨k,hk⟩:=ca.1 hg;exact (XS.c k g hk).1
 have hoG:((op,ob),G)=(o,G0):=y1.trans hFo;injection hoG with ho hG0;subst ho;subst hG0;refine aP (fun x:Nat×vR=>(a.lands.drop x.1).foldl (Ac a.bores P (op,ob)) x.2=R/\x.2.groups.length=G.length/\x.2.ofLand.length=x.1/\x.2.atLand.length=x.1/\x.1<=a.lands.length/\∀g∈x.2.groups,g.pins.length<=x.1) (fun x=>[(0,.bx 100000 0),(170,.p (.sl (a.lands.map lc))),(171,.p (i64 a.lands.length)),(172,.p (i64 x.1))]) (fun x=>[(100000,.box [.p (.sl (a.coppers.map rr)),.p (aE a.outline),.p (.sl (a.bores.map bc)),.p (.sl (a.lands.map lc)),.ow 90000,.ow 90001,.ow 90002,.ow 90003,.ow 90004,.ow 90005,.ow 90006,.ow 90007]),(90000,.row 101 J),(90001,.row 254 (P.map mJ)),(90002,.row 60 (T.map fun l=>[ints l])),(90003,.aw 263 (x.2.groups.map gh)),(90004,.row 3 (aK op)),(90005,.row 3 (aK ob)),(90006,.row 3 (aK x.2.ofLand)),(90007,.row 265 (x.2.atLand.map jx))]) (fun x=>a.lands.length-x.1) (0,⟨G,[],[]⟩) _ (aA.toH (by exact hC) _ 90003 (e:=263) (es:=G.map PE) (by exact rfl)) ⟨hR.symm,rfl,rfl,rfl,ak _,fun g hg=>by rw[MQ g hg];exact aG _⟩ ⟨rfl,rfl,af (fun m:Nat=>AV.p (i64 m)) ll,Z,Y⟩ ⟨rfl,rfl,rfl,rfl,af (AB.aw _) (XQ MQ),Z,Z,Z,Z,Y⟩ fun ⟨i,s⟩ hx t h=>?_;obtain⟨v1,v2,v3,v4,v5,v6⟩:=hx;simp only at v1 v2 v3 v4 v5 v6;apply iW<;>intro g3<;>try simp only[zB]at g3
 ·obtain⟨l,XN⟩:=ao (l:=a.lands) (i:=i) (by omega);rw[drop_at XN,jN]at v1;refine⟨(lc l),(idx rfl XN),?_⟩;obtain⟨hp,hhp⟩:∃hp,hp=x_ a.bores P l:=⟨_,rfl⟩;have jy:=G7 a ha l J (T.map fun l=>[ints l]) (s.groups.map DZ) (aK s.ofLand) (s.atLand.map jx) op ob P (by omega) VU;rw[<-hhp]at jy;refine⟨[.ip ((uR a)++[.sl J,.sl (P.map mJ),.sl (T.map fun l=>[ints l]),.sl (s.groups.map DZ),ints op,ints ob,.sl (aK s.ofLand),.sl (s.atLand.map jx)]),.ag (lc l)],_,.cons (.box 100000 0 _ ((uR a)++[.sl J,.sl (P.map mJ),.sl (T.map fun l=>[ints l]),.sl (s.groups.map DZ),ints op,ints ob,.sl (aK s.ofLand),.sl (s.atLand.map jx)]) (by exact rfl) (.cons (.p _) (.cons (.p _) (.cons (.p _) (.cons (.p _) (.cons (.row 90000 _ _ (by exact rfl)) (.cons (.row 90001 _ _ (by exact rfl)) (.cons (.row 90002 _ _ (by exact rfl)) (.cons (.aw 90003 263 (s.groups.map gh) (s.groups.map DZ) (by exact af (AB.aw _) (by simp only[EZ])) (Ly _)) (.cons (.row 90004 _ _ (by exact rfl)) (.cons (.row 90005 _ _ (by exact rfl)) (.cons (.row 90006 _ _ (by exact rfl)) (.cons (.row 90007 _ _ (by exact rfl)) .nil))))))))))))) (.cons (.one (.p _)) .nil),jy,rfl,iW ?_ ?_⟩<;>intro g4
  ·have aah:th a.bores P.length ((op,ob),G):=hn▸XS;obtain⟨m,k,e1,e2,e3⟩:=Reg.Pb aah l (by rw[<-hhp];exact g4);rw[<-hhp]at e1 e2;have e3:k<G.length:=e3;obtain⟨D,hgk⟩:=ao (l:=s.groups) (i:=k) (by omega);have qH:=v6 D (aj hgk);have Rc:Ac a.bores P (op,ob) s l=⟨s.groups.set k (zp (l.part,l.pin) D),s.ofLand++[(k:Int)],s.atLand++[hp.1]⟩:=by
    rw[Ac];simp only[<-hhp];have g4:hp.2=true:=g4;rw[g4,ae rfl,ae rfl,e1,F0,F1 (l:=if hp.1.bore=true then ob else op),e2];simp only[tF,F0,F1,hgk]
   rw[Rc]at v1;have hgh:=yc a hp.1 J (T.map fun l=>[ints l]) (s.groups.map DZ) (aK s.ofLand) (s.atLand.map jx) op ob P m e1 k e2;refine⟨[.ip ((uR a)++[.sl J,.sl (P.map mJ),.sl (T.map fun l=>[ints l]),.sl (s.groups.map DZ),ints op,ints ob,.sl (aK s.ofLand),.sl (s.atLand.map jx)]),.ag (jx hp.1)],_,.cons (.box 100000 0 _ ((uR a)++[.sl J,.sl (P.map mJ),.sl (T.map fun l=>[ints l]),.sl (s.groups.map DZ),ints op,ints ob,.sl (aK s.ofLand),.sl (s.atLand.map jx)]) (by exact rfl) (.cons (.p _) (.cons (.p _) (.cons (.p _) (.cons (.p _) (.cons (.row 90000 _ _ (by exact rfl)) (.cons (.row 90001 _ _ (by exact rfl)) (.cons (.row 90002 _ _ (by exact rfl)) (.cons (.aw 90003 263 (s.groups.map gh) (s.groups.map DZ) (by exact af (AB.aw _) (by simp only[EZ])) (Ly _)) (.cons (.row 90004 _ _ (by exact rfl)) (.cons (.row 90005 _ _ (by exact rfl)) (.cons (.row 90006 _ _ (by exact rfl)) (.cons (.row 90007 _ _ (by exact rfl)) .nil))))))))))))) (.cons (.one (.p _)) .nil),hgh,rfl,?_⟩;refine qk (aA.UO (by exact hC) _ 90003 k 90200 (e:=263) (by decide) (by decide) (by exact af (AB.aw _) (by simp only[EZ])) hgk (by exact rfl) (by decide)) ?_;have lgs:(s.groups.map gh).length=s.groups.length:=au _;have lpp:=an D.pins pc;have lol:=cA s.ofLand;have lal:=an s.atLand jx;refine⟨⟨by omega,by simp only[au,aQ];omega⟩,?_⟩;have ggx:((s.groups.map gh).set k [.av (.p (ints D.pieces)),.av (.p (ints D.bores)),.av (.ow 90200)])[k]?=some [.av (.p (ints D.pieces)),.av (.p (ints D.bores)),.av (.ow 90200)]:=dZ (by rw[lgs];omega);refine⟨[.av (.p (ints D.pieces)),.av (.p (ints D.bores)),.av (.ow 90200)],(by rw[lQ,lQ,lQ];exact ggx;rfl;rfl;rfl),_,_,(rU l),⟨fun r I=>by simp at I;subst I;rfl,by simp only[lpp,aQ,bX];omega,by simp only[lpp,aQ,bX];omega⟩,⟨by omega,by simp only[au,aQ];omega⟩,[.av (.p (ints D.pieces)),.av (.p (ints D.bores)),.av (.ow 90200)],(by rw[lQ,lQ,lQ];exact ggx;rfl;rfl;rfl),⟨fun r I=>by simp at I;subst I;rfl,by simp only[lol,aQ,bX];omega,by simp only[lol,aQ,bX];omega⟩,⟨fun r I=>by simp at I;subst I;rfl,by simp only[lal,aQ,bX];omega,by simp only[lal,aQ,bX];omega⟩,wO (by omega),?_⟩;have adl:((s.groups.map gh).set k [.av (.p (ints D.pieces)),.av (.p (ints D.bores)),.av (.ow 202)]).set k (([.av (.p (ints D.pieces)),.av (.p (ints D.bores)),.av (.ow 202)]:List HX).set 2 (.row 141 ((D.pins++[(l.part,l.pin)]).map pc)))=(s.groups.set k (zp (l.part,l.pin) D)).map gh:=by
    rw[xM,w_];congr 1;show _=[.av (.p (ints D.pieces)),.av (.p (ints D.bores)),Pc (D.pins++[(l.part,l.pin)])];rw[UP];rfl
   refine⟨(i+1,⟨s.groups.set k (zp (l.part,l.pin) D),s.ofLand++[(k:Int)],s.atLand++[hp.1]⟩),_,(aA.H7 (by exact hC) _ 90003 k 2 202 (e:=263) (es:=(s.groups.map gh).set k [.av (.p (ints D.pieces)),.av (.p (ints D.bores)),.av (.ow 202)]) (r:=[.av (.p (ints D.pieces)),.av (.p (ints D.bores)),.av (.ow 202)]) (e':=141) (xs:=(D.pins++[(l.part,l.pin)]).map pc) (by decide) (by exact af (AB.aw _) (by rw[lQ,lQ,lQ];simp only[F0];rw[xM];show List.map (fun r=>List.map (HX.dn (sc 220)) r) (List.map (fun r=>List.map (HX.dn (sc 219)) r) (List.map (fun r=>List.map (HX.dn (sc 213)) r) (List.map (fun r=>List.map (HX.dn (sc 212)) r) ((List.map gh s.groups).set k [.av (.p (ints D.pieces)),.av (.p (ints D.bores)),.av (.ow 202)]))))=_;rw[lQ,lQ,lQ,lQ];all_goals rfl)) (by exact af (AB.row _) (by rw[bB];rfl)) (dZ (by rw[lgs];omega)) (by exact rfl)).trans ((aA.N0 _ 213 90006 (by decide) (by decide)).trans (aA.N0 _ 220 90007 (by decide) (by decide))),?_⟩;exact⟨⟨v1,by simp only[aQ];exact v2,by simp only[bJ,ij];omega,by simp only[bJ,ij];omega,by simp only;omega,fun g hg=>by
    rcases m_ hg with hg | hg
    ·have:=v6 g hg;simp only;omega
    subst hg;simp only[zp,bJ,ij];omega⟩,by simp only;omega,⟨Z,Z,Z,Z,Y⟩,⟨rfl,rfl,rfl,rfl,af (AB.aw _) (by refine (af (List.map _) (af (List.map _) adl)).trans ?_;simp only[Sz]),rfl,rfl,af (AB.row _) (mF _ _).symm,af (AB.row _) (by rw[bB (f:=jx)];rfl),trivial⟩⟩
  have g4:hp.2=false:=g4;have Rc:Ac a.bores P (op,ob) s l=⟨s.groups,s.ofLand++[-1],s.atLand++[hp.1]⟩:=by
   rw[Ac];simp only[<-hhp,g4];rfl
  rw[Rc]at v1;have lol:=cA s.ofLand;have lal:=an s.atLand jx;exact⟨⟨fun r I=>by simp at I;subst I;rfl,by simp only[lol,aQ,bX];omega,by simp only[lol,aQ,bX];omega⟩,⟨fun r I=>by simp at I;subst I;rfl,by simp only[lal,aQ,bX];omega,by simp only[lal,aQ,bX];omega⟩,wO (by omega),(i+1,⟨s.groups,s.ofLand++[-1],s.atLand++[hp.1]⟩),_,(aA.N0 _ 213 90006 (by decide) (by decide)).trans (aA.N0 _ 220 90007 (by decide) (by decide)),⟨v1,v2,by simp only[bJ,ij];omega,by simp only[bJ,ij];omega,by simp only;omega,fun g hg=>by have:=v6 g hg;simp only;omega⟩,by simp only;omega,⟨Z,Z,Z,Z,Y⟩,⟨rfl,rfl,rfl,rfl,af (AB.aw _) (by show _=List.map gh s.groups;simp only[EZ,Sz]),rfl,rfl,af (AB.row _) (mF _ _).symm,af (AB.row _) (by rw[bB (f:=jx)];rfl),trivial⟩⟩
 rw[aT (by omega)]at v1;have v1:s=R:=v1;rw[<-v1];refine⟨_,aA.QZ (by exact hC) _ 90003 (s.groups.map DZ) (e:=263) (by exact af (AB.aw _) (by simp only[EZ,Sz])) (Ly _),?_⟩;exact And.intro rfl (And.intro ⟨Z,Z,Z,Z,Z,Z,Z,Z,Z,Z,Z,Z,Z,Y⟩ trivial)
end M
namespace Reg
def lg(x y:dq):Bool:=(decide (x.lo<=y.hi)&&decide (y.lo<=x.hi))&&decide (VQ (bM x) (bM y)=0)
def tp(bs:List dq)(i:Nat):Bool:=(bs.take i).any (lg (bs.getD i VV))
def jj(bs:List dq)(i:Nat):Bool:=(List.range' i (bs.length-i)).any (tp bs)
variable {bs:List dq}
theorem Lz{i:Nat}(h:i<bs.length):jj bs i=(tp bs i||jj bs (i+1)):=by
 rw[jj,show bs.length-i=(bs.length-(i+1))+1 by omega,List.range'_succ,gK];rfl
theorem Pd{i:Nat}(h:bs.length<=i):jj bs i=false:=by
 rw[jj,show bs.length-i=0 by omega];rfl
def jJ:List (List aB)->Int
 | []=>0
 | r::l=>if bA r≠0 then bA r else jJ l
def Ng(n:Int)(l:List (List aB)):Int:=l.foldl (fun n r=>n+r.length) n
theorem rX:∀{l:List (List aB)},jJ l=0->∀r∈l,bA r=0
 | [],_,r,h=>by cases h
 | q::l,h,r,z=>by
  rw[jJ]at h;by_cases e:bA q=0
  ·rw[aa (by simpa using e)]at h;rcases aq.1 z with rfl | z
   ·exact e
   exact rX h r z
  rw[ae e]at h;exact absurd h e
structure aak where
 drilled:List (List aR)
 pieces:List Piece
 fP:List (List Int)
 ofPiece:List Int
 ofBore:List Int
 placed:vR
def aX(a:yr):aak:=
 let P:=gf a.bores 0 a.coppers;let T:=fP a.bores P;let U:=Lx P.length a.bores.length T;let F:=yb a.bores P.length (ba (kV U) (P.length+a.bores.length))
 ⟨kX a.bores 0 a.coppers,P,T,F.1.1,F.1.2,a.lands.foldl (Ac a.bores P F.1) ⟨F.2,[],[]⟩⟩
theorem C8:∀{l:List (List aB)} {k:Int} {p:Piece},p∈gf bs k l->∃(i:Nat) (r:List aB),l[i]?=some r/\p.layer=k+i/\p.set∈iO (mE bs (k+i) r)
 | [],k,p,h=>by cases h
 | r::l,k,p,h=>by
  rw[gf]at h;rcases b_.1 h with h | h
  ·obtain⟨s,z,rfl⟩:=aZ.1 h;exact⟨0,r,rfl,by simp,by simpa using z⟩
  obtain⟨i,D,I,J,N⟩:=C8 h;have e:k+((i+1:Nat):Int)=k+1+(i:Int):=by omega
  exact⟨i+1,D,by simpa using I,by rw[J,e],by rw[e];exact N⟩
theorem C9(b:dq):∀(ps:List Piece) (k:Nat),(jv b k ps).length<=ps.length
 | [],k=>aG _
 | q::ps,k=>by
  have:=C9 b ps (k+1);rw[jv];split<;>simp only[bN]<;>omega
end Reg
end Go.Proofs.YtihgjolmpjjblaaGreatDoor
