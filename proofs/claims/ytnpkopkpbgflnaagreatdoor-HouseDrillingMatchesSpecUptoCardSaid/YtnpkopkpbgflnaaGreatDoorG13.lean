/- Part 13 of the proof. -/
import Derived.Test.YtnpkopkpbgflnaaGreatDoorG12
set_option linter.unusedVariables false
set_option linter.unusedSimpArgs false
set_option maxRecDepth 100000
set_option maxHeartbeats 8000000
namespace Go.Proofs.YtnpkopkpbgflnaaGreatDoor
namespace M
open Go.AM Go.RowKit Go.Lib
open Reg (lexLt v8 eB)
def sZ:ByteArray:=⟨#[115,112,97,110,115]⟩
def SB:ByteArray:=⟨#[98,105,116,115]⟩
def cv(b:oZ):Int×Int:=(b.lo+1,b.hi+1)
def gF(n:Int)(b:oZ):Bool:=!dR b.lo 0 (n-1)||(!dR b.hi 0 (n-1)||decide (b.lo=b.hi))
def eU(o:Order):Bool:=o.bores.any (gF (bX o.stack))
def aR(o:Order):List (Int×Int):=v8 (gW yy (o.bores.map cv))
theorem JS{o:Order}(h:eU o=false)(hS:o.stack.length<=1048576):∀b∈o.bores,0<=b.lo/\b.lo<=1048576/\0<=b.hi/\b.hi<=1048576:=fun b hb=>by
 have d:=jY.1 h b hb;have h2:=jb o.stack;simp only[gF,eG,jj,not_or,Bool.not_eq_false]at d;have h3:=dB.1 d.1;have h4:=dB.1 d.2.1;omega
theorem GQ{o:Order}(h:eU o=false)(hS:o.stack.length<=1048576):∀x∈o.bores.map cv,Bs x:=fun x d=>by
 obtain⟨b,hb,rfl⟩:=bF.1 d;have:=JS h hS b hb;unfold Bs cv;dsimp only;omega
def pc(o:Order):List PV:=if eU o=true then [.sl [],.sl [],.ag (K7 lf 1)] else if bQ o.mats o.stack (aR o)=0 then [.sl (kJ o.mats o.stack (aR o)),.sl ((aR o).map sp),.ag (K7 sZ 0)] else [.sl [],.sl ((aR o).map sp),.ag (K7 sZ (bQ o.mats o.stack (aR o)))]
theorem B6(o:Order)(D:nn o.mats)(hs:kZ o.stack)(hN:o.bores.length<=1000000):af C 23 [.pv (.ag (oF o))] (.tu (pc o)) []:=by
 have lb:=ak o.bores l5;have R:=hs.1;have IW:=jb o.stack;have I:=il lf 1;have I:af C 61 [.pv (str lf),.pv (i64 1)] (.p (.ag [i64 1,str lf])) []:=I;have u:∀{b:oZ},b∈o.bores->gF (bX o.stack) b=true->pc o=[.sl [],.sl [],.ag [i64 1,str lf]]:=fun hb e=>by
  rw[pc,ae (show eU o=true from gz.2 ⟨_,hb,e⟩)];rfl
 refine fW hC Tryz.func23 rfl (by kernel_rfl) fun _=>?_;refine⟨_,_,(tz o R),?_⟩;refine ax (fun i:Nat=>i<=o.bores.length/\∀b∈o.bores.take i,gF (bX o.stack) b=false) (fun i=>[(1,.bx 1 0),(4,.bx 4 0),(5,.p (i64 (bX o.stack:Nat))),(6,.ow 6),(14,.p (.sl (o.bores.map l5))),(15,.p (i64 o.bores.length)),(16,.p (i64 i))]) (fun i=>[(1,.box ((oF o).map .p)),(4,.box [.p (i64 0),.p (str ar)]),(6,.row 94 (((o.bores.take i).map cv).map sp))]) (fun i=>o.bores.length-i) 0 _ (au.ed hC _ 6 94 _ (by decide) rfl rfl (by decide)) ⟨ai _,by simp⟩ ⟨rfl,rfl,rfl,rfl,rfl,ah (fun n:Nat=>AV.p (i64 n)) lb,Z,Y⟩ ⟨Z,Z,Z,Y⟩ fun i hi t h=>?_;apply iW<;>intro h1
 ·obtain⟨b,hb⟩:=aj (l:=o.bores) (i:=i) (by omega);have D:=an hb;have U:=mB b.lo 0 ((bX o.stack:Nat)-1);have V:=mB b.hi 0 ((bX o.stack:Nat)-1);have J:gF (bX o.stack) b=(!dR b.lo 0 ((bX o.stack:Nat)-1)||(!dR b.hi 0 ((bX o.stack:Nat)-1)||decide (b.lo=b.hi))):=rfl;have oL:dR b.lo 0 ((bX o.stack:Nat)-1)=true->0<=b.lo/\b.lo<=1048576:=fun e=>by have:=dB.1 e;omega
  have PR:dR b.hi 0 ((bX o.stack:Nat)-1)=true->0<=b.hi/\b.hi<=1048576:=fun e=>by have:=dB.1 e;omega
  have W:(((o.bores.take i).map cv).map sp).length=i:=by simp;omega
  refine⟨(l5 b),(idx rfl hb),wO (by omega),?_⟩;generalize dR b.lo 0 ((bX o.stack:Nat)-1)=L1 at *;generalize dR b.hi 0 ((bX o.stack:Nat)-1)=L2 at *;cases L1 with
  | false=>
   refine⟨_,_,U,_,_,I,?_,trivial⟩;rw[u D J];rfl
  | true=>
   refine⟨_,_,U,wO (by omega),?_⟩;cases L2 with
   | false=>
    refine⟨_,_,V,_,_,I,?_,trivial⟩;rw[u D J];rfl
   | true=>
    refine⟨_,_,V,?_⟩;have q1:=oL rfl;have q2:=PR rfl;apply iW<;>intro d
    ·refine⟨_,_,I,?_,trivial⟩;rw[u D (by rw[J,aP d];rfl)];rfl
    have O:gF (bX o.stack) b=false:=by rw[J,aL d];rfl
    exact⟨wO (by omega),wO (by omega),⟨fun r hr=>(by rw[bM.1 hr];rfl),by rw[W];simp;omega,by rw[W];simp;omega⟩,wO (by omega),(i+1),_,au.refl _ _,⟨by omega,cN (p:=gF (bX o.stack)) hb O hi.2⟩,by omega,⟨Z,Z,Z,Z,Z,Z,Z,Y⟩,⟨rfl,rfl,by rw[aN hb,bz,bz];rfl,trivial⟩⟩
 have h2:=hi.2;rw[aW (by omega)]at h2 ⊢;have e0:eU o=false:=jY.2 fun b hb=>by rw[h2 b hb];decide
 have Z3:=GQ e0 R;have Ch:=(db yy B1 (o.bores.map cv)).1.length_eq;rw[aw]at Ch;have hcl:=Reg.sP (gW yy (o.bores.map cv));refine⟨_,_,(EG (o.bores.map cv) Z3 (by rw[aw];omega)),_,_,(B2 (gW yy (o.bores.map cv)) (by omega)),?_⟩;have hp:=B3 o.mats o.stack (aR o) D hs (by show (v8 _).length<=_;omega);have N:=il sZ (bQ o.mats o.stack (aR o));rw[pc,aa (by rw[e0];decide)];by_cases z:bQ o.mats o.stack (aR o)=0
 ·rw[jc,ae z]at hp;rw[z,K7,ae rfl]at N;rw[ae z];refine⟨_,_,hp,_,_,N,?_,trivial⟩;rfl
 rw[jc,aa z]at hp;rw[nq z]at N;rw[aa z,nq z];refine⟨_,_,hp,_,_,N,?_,trivial⟩;rfl
open Reg (kg)
theorem nt{α β:Type}(f:Nat->α->β)(l:List α):∀i,i<=l.length->(kj f l i).length=i/\∀k,k<i->(kj f l i)[k]?=l[k]?.map (f k)
 | 0,_=>⟨by simp[kj],fun k h=>by omega⟩
 | i+1,h=>by
  obtain⟨x,d⟩:=aj (l:=l) (i:=i) (by omega);obtain⟨u,z⟩:=nt f l i (by omega);rw[rE d];refine⟨by rw[bG,u];rfl,fun k hk=>?_⟩;by_cases e:k<i
  ·rw[dU (by omega)];exact z k e
  have e:k=i:=by omega
  subst e;rw[dV (by omega),u,d];simp
def QL(o:Order)(b:oZ):dM:=⟨b.x,b.y,b.size,La o b.lo b.hi,b.plated⟩
def cO(o:Order)(s:Int×Int)(i:Nat):List dM:=((o.bores.take i).filter fun b=>decide (cv b=s)).map (QL o)
def lM(o:Order)(s:Int×Int)(i:Nat):List Nat:=eB (fun b=>decide (cv b=s)) o.bores i
theorem ya{o:Order}{s:Int×Int}{i:Nat}{b:oZ}(h:o.bores[i]?=some b):cO o s (i+1)=cO o s i++if cv b=s then [QL o b] else []:=by
 unfold cO;rw[aN h,iD,bz];congr 1;by_cases e:cv b=s<;>simp[e]
theorem A9{o:Order}{s:Int×Int}{i:Nat}{b:oZ}(h:o.bores[i]?=some b):lM o s (i+1)=lM o s i++if cv b=s then [i] else []:=by
 unfold lM;rw[Reg.jw h];by_cases e:cv b=s<;>simp[e]
theorem nu(o:Order)(s:Int×Int)(i:Nat)(h:i<=o.bores.length):(cO o s i).length=(lM o s i).length:=by
 rw[cO,aw,lM,Reg.mN _ _ _ h]
theorem rN(o:Order)(s:Int×Int)(i:Nat):(lM o s i).length<=i:=Reg.np _ _ _
def JT(o:Order)(t:List gG)(near:Int)(s:Int×Int):List U3:=kM t (cO o s o.bores.length) near t.length
def yb(o:Order)(t:List gG)(near:Int)(s:Int×Int):List Nat:=kg (lM o s o.bores.length) (ko t (cO o s o.bores.length) near (cO o s o.bores.length).length)
def vY(o:Order)(t:List gG)(near:Int)(q:Nat)(k:Nat)(b:Int×Int):List PV:=lJ q (aR o) k b++[.sl ((JT o t near b).map qg),ints (bZ (yb o t near b))]
def nv(o:Order)(b:Int×Int):Bool:=decide ((dD (aR o) b (aR o).length).length=0)
def dQ(o:Order)(t:List gG)(near:Int)(q:Nat)(B:List (Int×Int))(i:Nat):List (List PV):=(List.range i).filterMap fun k=>match B[k]? with
 | some b=>if nv o b=true then none else some (vY o t near q k b)
 | none=>none
def A_(o:Order)(t:List gG)(near:Int)(B:List (Int×Int))(k:Nat):Int:=match B[k]? with
 | some b=>if nv o b=true then 0 else EN t (cO o b o.bores.length) near
 | none=>0
theorem Ba{o:Order}{t:List gG}{near:Int}{q:Nat}{B:List (Int×Int)}{i:Nat}{b:Int×Int}(h:B[i]?=some b)(e:nv o b=true):dQ o t near q B (i+1)=dQ o t near q B i:=by
 unfold dQ;rw[kY,zc];simp[h,e]
theorem CO{o:Order}{t:List gG}{near:Int}{q:Nat}{B:List (Int×Int)}{i:Nat}{b:Int×Int}(h:B[i]?=some b)(e:nv o b=false):dQ o t near q B (i+1)=dQ o t near q B i++[vY o t near q i b]:=by
 unfold dQ;rw[kY,zc];simp[h,e]
theorem CP(o:Order)(t:List gG)(near:Int)(q:Nat)(B:List (Int×Int))(i:Nat):(dQ o t near q B i).length<=i:=aO (zd _ _) (by simp)
def iL(o:Order):List (Int×Int):=cq o.mats o.stack (aR o)
def Bb(o:Order):Nat:=(bA o.mats o.stack o.stack.length).length
def Bc(o:Order)(t:List gG)(near:Int):Int:=aG (A_ o t near (iL o)) 0 (iL o).length
def kN(o:Order)(t:List gG)(near:Int):List PV:=
 if (dE o).1≠0 then [.sl [],str (dE o).2,i64 (dE o).1] else
 if eU o=true then [.sl [],str lf,i64 1] else
 if bQ o.mats o.stack (aR o)≠0 then [.sl [],str sZ,i64 (bQ o.mats o.stack (aR o))] else
 if Bc o t near≠0 then [.sl [],str SB,i64 (Bc o t near)] else
 [.sl (dQ o t near (Bb o) (iL o) (iL o).length),str ar,i64 0]
theorem IB{l:List (Int×Int)}{b:Int×Int}{x:Int}(h:(dD l b l.length)[0]?=some x):∃k:Nat,x=k/\l[k]?=some b:=by
 have d:=an h;unfold dD at d;obtain⟨k,hk,rfl⟩:=bF.1 d;obtain⟨_,y,u,z⟩:=Reg.w4 hk;exact⟨k,rfl,by rw[u,fO z]⟩
theorem pd{o:Order}(h:(dE o).1=0):bH o.mats o.stack=0/\o.bores.length<=500:=by
 unfold dE at h;split at h
 ·rename_i d;exact absurd h d
 split at h
 ·rename_i d;exact absurd h d
 rename_i u;split at h
 ·cases h
 split at h
 ·rename_i d;exact absurd h d
 unfold ma at h;split at h
 ·rename_i d;exact absurd h d
 split at h
 ·cases h
 exact⟨Classical.not_not.1 u,by omega⟩
theorem xc{m:List cw}{s:List Lay}(h:bH m s=0):ja m/\s.length<=60:=by
 obtain⟨u,d⟩:=ez h;split at d
 ·cases d
 exact⟨kG u,by omega⟩
theorem Be(o:Order)(t:List gG)(near:Int)(W:jn o)(ht:oG t):af C 7 [.pv (.ag (oF o)),.pv (.sl (t.map ef)),.pv (i64 near)] (.tu (kN o t near)) []:=by
 have CG:=xX o W;have I:=vK (dE o).1 (dE o).2;by_cases J:(dE o).1=0;rotate_left
 ·rw[kN,ae J];rw[aL J]at I;refine sd ⟨[19,31],[],[],[19,29],[],[]⟩ hC Tryz.func7 rfl (by kernel_rfl) fun _=>?_;refine⟨_,_,CG,_,_,I,?_,trivial⟩;rfl
 have u:=B6 o W.mats W.stack (by have:=(pd J).2;omega);obtain⟨g1,g2⟩:=pd J;obtain⟨gm,gs⟩:=xc g1;rw[aP J]at I;rw[kN,aa (fun h=>h J)];by_cases c2:eU o=true
 ·rw[ae c2];rw[pc,ae c2,K7,aa (by decide)]at u;refine sd ⟨[19,31],[],[],[19,29],[],[]⟩ hC Tryz.func7 rfl (by kernel_rfl) fun _=>?_;refine⟨_,_,CG,_,_,I,_,_,u,_,_,(vK 1 lf),?_,trivial⟩;rfl
 rw[aa c2];rw[pc,aa c2]at u;by_cases O:bQ o.mats o.stack (aR o)=0;rotate_left
 ·have Vc:=vK (bQ o.mats o.stack (aR o)) sZ;rw[aL O]at Vc;rw[ae O];rw[aa O,nq O]at u;refine sd ⟨[19,31],[],[],[19,29],[],[]⟩ hC Tryz.func7 rfl (by kernel_rfl) fun _=>?_;refine⟨_,_,CG,_,_,I,_,_,u,_,_,Vc,?_,trivial⟩;rfl
 rw[aa (fun h=>h O)];rw[ae O,K7,ae rfl]at u;have RX:=jx (m:=o.mats) (s:=o.stack) (l:=aR o);have Ch:(aR o).length<=500:=by
  have h1:=(db yy B1 (o.bores.map cv)).1.length_eq;rw[aw]at h1;have h2:=Reg.sP (gW yy (o.bores.map cv));show (v8 _).length<=500;omega
 have Vd:=fun k (hk:k<(cq o.mats o.stack (aR o)).length)=>(nt (lJ (bA o.mats o.stack o.stack.length).length (aR o)) (cq o.mats o.stack (aR o)) _ (aF _)).2 k hk;have qE:=(nt (lJ (bA o.mats o.stack o.stack.length).length (aR o)) (cq o.mats o.stack (aR o)) _ (aF _)).1;have Ov:=JS (by simpa using c2) W.stack.1;rw[Bc];rw[show iL o=cq o.mats o.stack (aR o) from rfl,show Bb o=(bA o.mats o.stack o.stack.length).length from rfl];rw[kJ]at u;generalize cq o.mats o.stack (aR o)=B at *;generalize (bA o.mats o.stack o.stack.length).length=q at *;obtain⟨R,hR⟩:∃R,R=kj (lJ q (aR o)) B B.length:=⟨_,rfl⟩;rw[<-hR]at u Vd qE;have lS:=ak (aR o) sp;have lb:=ak o.bores l5;refine sd ⟨[19,31],[],[],[19,29],[],[]⟩ hC Tryz.func7 rfl (by kernel_rfl) fun _=>?_;refine⟨_,_,CG,_,_,I,_,_,u,_,_,(vK 0 ar),?_⟩;refine ax (fun i:Nat=>i<=B.length/\∀k,k<i->A_ o t near B k=0) (fun i=>[(1,.p (.sl (t.map ef))),(2,.p (i64 near)),(3,.p (.ip (oF o))),(11,.p (.sl ((aR o).map sp))),(13,.ow 13),(47,.p (.sl R)),(48,.p (i64 B.length)),(49,.p (i64 i))]) (fun i=>[(13,.row 103 (dQ o t near q B i))]) (fun i=>B.length-i) 0 _ (au.trans (au.ed hC _ 13 103 _ (by decide) rfl rfl (by decide)) (au.gn hC _ 3 (y:=.ip (oF o)) (fz:=[(3,.ll (oF o))]) ⟨rfl,rfl⟩)) ⟨ai _,fun k h=>by omega⟩ ⟨rfl,rfl,rfl,rfl,rfl,rfl,ah (fun n:Nat=>AV.p (i64 n)) qE,Z,Y⟩ ⟨Z,Y⟩ fun i hi tt h=>?_;apply iW<;>intro h1
 ·obtain⟨b,hb⟩:=aj (l:=B) (i:=i) (by omega);have XX:R[i]?=some (lJ q (aR o) i b):=by rw[Vd i (by omega),hb];rfl
  have HO:=CP o t near q B i;have Z4:=ak (dD (aR o) b (aR o).length) fun n=>[i64 n];have U:A_ o t near B i=if nv o b=true then 0 else EN t (cO o b o.bores.length) near:=by simp only[A_,hb]
  refine⟨(lJ q (aR o) i b),⟨by omega,by rw[bU];exact XX⟩,iW ?_ ?_⟩<;>intro h2
  ·have e:nv o b=true:=aP (by have h2:(((dD (aR o) b (aR o).length).map fun n=>[i64 n]).length:Int)=0:=h2;omega);have hd:=Ba (near:=near) (t:=t) (q:=q) hb e;rw[ae e]at U;exact⟨wO (by omega),(i+1),_,au.refl _ _,⟨by omega,bO hi.2 U⟩,by omega,⟨Z,Z,Z,Z,Z,Z,Z,Z,Y⟩,⟨by rw[hd];rfl,trivial⟩⟩
  have cU:¬(dD (aR o) b (aR o).length).length=0:=fun e=>h2 (by show (((dD (aR o) b (aR o).length).map fun n=>[i64 n]).length:Int)=0;omega);have e:nv o b=false:=aL cU;have hd:=CO (near:=near) (t:=t) (q:=q) hb e;rw[aa (by rw[e];decide)]at U;obtain⟨z,D⟩:=aj (l:=dD (aR o) b (aR o).length) (i:=0) (by omega);obtain⟨k0,rfl,Lq⟩:=IB D;refine⟨[i64 (k0:Int)],(idx (k:=0) rfl D),(sp b),(idx rfl Lq),?_⟩;have lR:=ak R fun x=>x;refine ax (fun j:Nat=>j<=o.bores.length) (fun j=>[(1,.p (.sl (t.map ef))),(2,.p (i64 near)),(3,.p (.ip (oF o))),(11,.p (.sl ((aR o).map sp))),(13,.ow 13),(47,.p (.sl R)),(48,.p (i64 B.length)),(49,.p (i64 i)),(15,.bx 15 0),(16,.bx 16 0),(17,.ow 17),(18,.ow 18),(65,.p (.sl (o.bores.map l5))),(66,.p (i64 o.bores.length)),(67,.p (i64 j))]) (fun j=>[(13,.row 103 (dQ o t near q B i)),(15,.box ((lJ q (aR o) i b).map .p)),(16,.box ((sp b).map .p)),(17,.row 98 ((cO o b j).map nB)),(18,.row 3 ((bZ (lM o b j)).map fun n=>[i64 n]))]) (fun j=>o.bores.length-j) 0 _ (au.trans (au.ed hC _ 17 98 _ (by decide) rfl rfl (by decide)) (au.ed hC _ 18 3 _ (by decide) rfl rfl (by decide))) (ai _) ⟨rfl,rfl,rfl,rfl,rfl,rfl,rfl,rfl,rfl,rfl,rfl,rfl,rfl,ah (fun n:Nat=>AV.p (i64 n)) lb,Z,Y⟩ ⟨Z,Z,Z,Z,Z,Y⟩ fun j hj t2 h=>?_;apply iW<;>intro h3
  ·obtain⟨x,hx⟩:=aj (l:=o.bores) (i:=j) (by omega);have kx:=Ov x (an hx);have lH:=ya (s:=b) hx;have QM:=A9 (s:=b) hx;have hle:=rN o b j;have Np:=nu o b j hj;have lh:=ak (cO o b j) nB;have ln:((bZ (lM o b j)).map fun n=>[i64 n]).length=(lM o b j).length:=by rw[aw,bZ,aw]
   refine⟨(l5 x),(idx rfl hx),wO (by omega),?_⟩;have no:¬cv x=b->cO o b (j+1)=cO o b j/\lM o b (j+1)=lM o b j:=fun e=>by rw[lH,QM,aa e,aa e,cQ,cQ];exact⟨rfl,rfl⟩
   apply iW<;>intro d1
   ·refine⟨wO (by omega),?_⟩;refine KQ 20 (y:=.ip (l5 x)) (fz:=[(20,.ll (l5 x))]) (by exact hC) (by exact⟨rfl,rfl⟩) ?_;apply iW<;>intro d2
    ·have e:cv x=b:=uZ d1 d2;rw[ae e]at lH QM;exact⟨_,_,(GA o x.lo x.hi gm W.stack.1),⟨fun r hr=>(by rw[bM.1 hr];rfl),by rw[lh];simp;omega,by rw[lh];simp;omega⟩,⟨by simp,by rw[ln];simp;omega,by rw[ln];simp;omega⟩,wO (by omega),(j+1),_,au.refl _ _,by omega,by omega,⟨Z,Z,Z,Z,Z,Z,Z,Z,Z,Z,Z,Z,Z,Z,Z,Y⟩,⟨rfl,rfl,rfl,by rw[lH,bz];rfl,by rw[QM,bZ,bZ,bz,bz];rfl,trivial⟩⟩
    obtain⟨k1,k2⟩:=no fun e=>d2 (by rw[<-e];rfl);exact⟨wO (by omega),(j+1),_,au.refl _ _,by omega,by omega,⟨Z,Z,Z,Z,Z,Z,Z,Z,Z,Z,Z,Z,Z,Z,Z,Y⟩,⟨rfl,rfl,rfl,by rw[k1];rfl,by rw[k2];rfl,trivial⟩⟩
   obtain⟨k1,k2⟩:=no fun e=>d1 (by rw[<-e];rfl);refine zW (au.refl _ _) ?_;exact⟨wO (by omega),(j+1),_,au.refl _ _,by omega,by omega,⟨Z,Z,Z,Z,Z,Z,Z,Z,Z,Z,Z,Z,Z,Z,Z,Y⟩,⟨rfl,rfl,rfl,by rw[k1];rfl,by rw[k2];rfl,trivial⟩⟩
  have ej:j=o.bores.length:=by omega
  rw[ej];have hH:=rN o b o.bores.length;have Ve:=nu o b _ (aF _);have GH:=EO t (cO o b o.bores.length) near ht (by omega);obtain⟨N,hN⟩:∃N,N=lM o b o.bores.length:=⟨_,rfl⟩;obtain⟨d,hZ⟩:∃d,d=ko t (cO o b o.bores.length) near (cO o b o.bores.length).length:=⟨_,rfl⟩;have Z5:d.length<=(cO o b o.bores.length).length:=by rw[hZ];exact Reg.np _ _ _
  have XY:∀z∈d,z<N.length:=fun z D=>by
   rw[hN,<-Ve];exact (Reg.w4 (hZ▸D)).1
  by_cases V:EN t (cO o b o.bores.length) near=0;rotate_left
  ·rw[gX,aa V]at GH;have e9:aG (A_ o t near B) 0 B.length=EN t (cO o b o.bores.length) near:=ao hi.2 (by omega) U V;refine⟨_,_,GH,iW ?_ ?_⟩<;>intro g
   ·refine⟨?_,trivial⟩;rw[e9,ae V];rfl
   exact absurd (by simpa using g) V
  rw[gX,ae V,<-hZ]at GH;rw[V]at U;have lZ:((bZ d).map fun n=>[i64 n]).length=d.length:=by rw[aw,bZ,aw]
  have SC:yb o t near b=kg N d:=by rw[yb,<-hZ,<-hN]
  rw[<-hN]at hH Ve;refine⟨_,_,GH,?_⟩;refine ax (fun k:Nat=>k<=d.length) (fun k=>[(1,.p (.sl (t.map ef))),(2,.p (i64 near)),(3,.p (.ip (oF o))),(11,.p (.sl ((aR o).map sp))),(13,.ow 13),(47,.p (.sl R)),(48,.p (i64 B.length)),(49,.p (i64 i)),(18,.p (ints (bZ N))),(24,.bx 24 0),(121,.p (ints (bZ d))),(122,.p (i64 d.length)),(123,.p (i64 k))]) (fun k=>[(13,.row 103 (dQ o t near q B i)),(24,.box (((lJ q (aR o) i b).map .p)++[.p (.sl ((JT o t near b).map qg)),.ow 90000])),(90000,.row 3 ((bZ (kg N (d.take k))).map fun n=>[i64 n]))]) (fun k=>d.length-k) 0 _ (au.trans (au.uU hC _ 24 5 90000 3 _ _ (by decide) (by decide) rfl rfl rfl (by decide)) (au.gn hC _ 18 (y:=ints (bZ N)) (fz:=[(18,.jr ((bZ N).map fun n=>[i64 n]))]) ⟨by rw[hN];rfl,by rw[hN]⟩)) (ai _) ⟨rfl,rfl,rfl,rfl,rfl,rfl,rfl,rfl,rfl,rfl,rfl,ah (fun n:Nat=>AV.p (i64 n)) lZ,Z,Y⟩ ⟨Z,Z,Z,Y⟩ fun k hk t3 h=>?_;apply iW<;>intro h4
  ·obtain⟨z,D⟩:=aj (l:=d) (i:=k) (by omega);obtain⟨y,hy⟩:=aj (l:=N) (i:=z) (XY z (an D));have Sw:(bZ d)[k]?=some (z:Int):=by rw[bZ,aB,D];rfl
   have XZ:(bZ N)[z]?=some (y:Int):=by rw[bZ,aB,hy];rfl
   have Ls:bZ (kg N (d.take (k+1)))=bZ (kg N (d.take k))++[(y:Int)]:=by
    rw[aN D,bZ,bZ,kg,kg,bz,bz];simp[hy]
   have Ob:((bZ (kg N (d.take k))).map fun n=>[i64 n]).length=k:=by
    rw[aw,bZ,aw,kg,aw,aV];omega
   refine⟨[i64 (z:Int)],(idx rfl Sw),[i64 (y:Int)],(idx rfl XZ),⟨by simp,by rw[Ob];simp;omega,by rw[Ob];simp;omega⟩,wO (by omega),k+1,_,au.Qe _ 134 90000 (by decide) (by decide),by omega,by omega,⟨Z,Z,Z,Z,Z,Z,Z,Z,Z,Z,Z,Z,Z,Y⟩,⟨rfl,rfl,?_,trivial⟩⟩;show AB.row _ _=AB.row _ _;rw[Ls,bz];rfl
  have ek:k=d.length:=by omega
  have ld:=HO;refine zW (au.uV (by exact hC) _ 24 5 90000 3 _ _ (by decide) (by exact rfl) (by exact rfl) (by exact rfl)) ?_;refine⟨⟨fun r hr=>(by rw[bM.1 hr];rfl),by simp;omega,by simp;omega⟩,wO (by omega),(i+1),_,au.refl _ _,⟨by omega,bO hi.2 U⟩,by omega,⟨Z,Z,Z,Z,Z,Z,Z,Z,Y⟩,⟨?_,trivial⟩⟩;show AB.row _ _=AB.row _ _;rw[hd,vY,SC,show d.take k=d from aW (by omega)];rfl
 have e:i=B.length:=by omega
 have z0:aG (A_ o t near B) 0 B.length=0:=aI fun k _ hk=>hi.2 k (by omega);rw[aa (fun h=>h z0)];rw[e];exact⟨Z,Y⟩
open Reg (gE du iq rI uj)
theorem vZ(b:oZ)(h1:-1000000<=b.lo/\b.lo<=10000000)(h2:-1000000<=b.hi/\b.hi<=10000000):af C 28 [.pv (.ag (l5 b))] (.p (.ag (sp (cv b)))) []:=by
 refine fW hC Tryz.func28 rfl (by kernel_rfl) fun _=>?_;refine⟨wO (by omega),wO (by omega),?_,trivial⟩;rfl
def Vf(y:Int×Int):List Value:=[.int .i64 y.1,.int .i64 y.2]
theorem CQ(T:List (Int×Int)):az (T.map Vf)=T.map sp:=by
 unfold az;rw[mq];rfl
theorem v7(T:List (Int×Int))(k:Nat)(hk:k<=T.length)(x:Int×Int)(z:T.length<=1000000):af C 183 [.row 94 (T.map sp),.pv (i64 k),.row 94 [sp x]] (.own 94 ((gE T k x).map sp)) [.gone,.gone]:=by
 have h:=GL (T.map Vf) (Vf x) k (by rw[aw];exact hk) (fun r u=>by obtain⟨y,_,rfl⟩:=bF.1 u;rfl) rfl (fun r u v d=>by
  obtain⟨y,_,rfl⟩:=bF.1 u;simp only[Vf,aE,oh,or_false]at d;rcases d with rfl | rfl<;>rfl) (fun v d=>by
  simp only[Vf,aE,oh,or_false]at d;rcases d with rfl | rfl<;>rfl) (by rw[aw];exact z)
 rw[GM,CQ,CQ]at h;exact h
theorem Lk{o:Order}(h:eU o=false)(hS:o.stack.length<=1048576):(o.bores.map cv).foldl iq []=aR o:=by
 have hb:=GQ h hS;refine Reg.Is (Reg.Sm lexLt.tr (NO hb)) fun x=>?_;rw[aR,Reg.JH,(db yy B1 _).1.mem_iff]
theorem Ll(l:List (Int×Int))(x:Int×Int):(iq l x).length<=l.length+1:=by
 unfold iq;split
 ·unfold gE;rw[bG,cH,aV,dn];omega
 omega
theorem CR:∀(L B:List (Int×Int)),(L.foldl iq B).length<=B.length+L.length
 | [],B=>by simp
 | x::L,B=>by
  rw[jg,cH];have:=CR L (iq B x);have:=Ll B x;omega
def xd(o:Order):List PV:=if eU o=true then [.sl [],i64 1] else [.sl ((aR o).map sp),i64 0]
theorem B7(o:Order)(hp:o.plots.length=bX o.stack)(hs:o.stack.length<=1048576)(hN:o.bores.length<=1000):af C 84 [.pv (.ag (oF o))] (.tu (xd o)) []:=by
 have lb:=ak o.bores l5;have lp:=ak o.plots fun p=>di p;have IW:=jb o.stack;have u:∀{b:oZ},b∈o.bores->gF (bX o.stack) b=true->xd o=[.sl [],i64 1]:=fun hb e=>by
  rw[xd,ae (show eU o=true from gz.2 ⟨_,hb,e⟩)]
 refine sd ⟨[],[2],[],[],[],[]⟩ hC Tryz.func84 rfl (by kernel_rfl) fun _=>?_;refine ax (fun i:Nat=>i<=o.bores.length/\∀b∈o.bores.take i,gF (bX o.stack) b=false) (fun i=>[(1,.bx 1 0),(4,.ow 4),(10,.p (.sl (o.bores.map l5))),(11,.p (i64 o.bores.length)),(12,.p (i64 i))]) (fun i=>[(1,.box ((oF o).map .p)),(4,.row 94 ((((o.bores.take i).map cv).foldl iq []).map sp))]) (fun i=>o.bores.length-i) 0 _ (au.ed hC _ 4 94 _ (by decide) rfl rfl (by decide)) ⟨ai _,by simp⟩ ⟨rfl,rfl,rfl,ah (fun n:Nat=>AV.p (i64 n)) lb,Z,Y⟩ ⟨Z,Z,Y⟩ fun i hi t h=>?_;apply iW<;>intro h1
 ·obtain⟨b,hb⟩:=aj (l:=o.bores) (i:=i) (by omega);have hm:=an hb;have U:gF (bX o.stack) b=(!dR b.lo 0 ((bX o.stack:Nat)-1)||(!dR b.hi 0 ((bX o.stack:Nat)-1)||decide (b.lo=b.hi))):=rfl;have hlen:(((o.plots.map fun p=>di p).length:Nat):Int)-1=(bX o.stack:Nat)-1:=by rw[lp,hp]
  have V:=mA b.lo 0 ((((o.plots.map fun p=>di p).length:Nat):Int)-1);have W:=mA b.hi 0 ((((o.plots.map fun p=>di p).length:Nat):Int)-1);rw[hlen]at V W;have oL:dR b.lo 0 ((bX o.stack:Nat)-1)=true->0<=b.lo/\b.lo<=1048576:=fun e=>by have:=dB.1 e;omega
  have PR:dR b.hi 0 ((bX o.stack:Nat)-1)=true->0<=b.hi/\b.hi<=1048576:=fun e=>by have:=dB.1 e;omega
  have tE:((o.bores.take (i+1)).map cv).foldl iq []=iq (((o.bores.take i).map cv).foldl iq []) (cv b):=by rw[aN hb,bz,se];rfl
  have QI:=CR ((o.bores.take i).map cv) [];rw[aw,aV,gx (by omega),CV]at QI;generalize ((o.bores.take i).map cv).foldl iq []=B at *;have lB:=ak B sp;generalize dR b.lo 0 ((bX o.stack:Nat)-1)=L1 at *;generalize dR b.hi 0 ((bX o.stack:Nat)-1)=L2 at *;refine⟨(l5 b),(idx rfl hb),iW ?_ ?_⟩<;>intro d
  ·refine⟨?_,trivial⟩;rw[u hm (by rw[U,aP d,pB,pB])];rfl
  refine⟨wO (by omega),?_⟩;rw[hlen];cases L1 with
  | false=>
   refine⟨_,_,V,?_,trivial⟩;rw[u hm U];rfl
  | true=>
   refine⟨_,_,V,wO (by omega),?_⟩;rw[hlen];cases L2 with
   | false=>
    refine⟨_,_,W,?_,trivial⟩;rw[u hm U];rfl
   | true=>
    refine⟨_,_,W,?_⟩;have q1:=oL rfl;have N:=PR rfl;have I:gF (bX o.stack) b=false:=by rw[U,aL d];rfl
    refine⟨_,_,(vZ b (by omega) (by omega)),?_⟩;clear q1 N V W oL PR u;obtain⟨_,N,_⟩:=Reg.kL lexLt (c:=0) (x:=cv b) (l:=B) B.length (ai _) (aF _);obtain⟨z,O⟩:∃z,z=du lexLt 0 (cv b) B B.length:=⟨_,rfl⟩;rw[<-O]at N;refine DL (fun k:Nat=>k=z) (fun k=>[(1,.bx 1 0),(4,.ow 4),(10,.p (.sl (o.bores.map l5))),(11,.p (i64 o.bores.length)),(12,.p (i64 i)),(7,.bx 7 0),(8,.p (i64 k))]) (fun _=>[(1,.box ((oF o).map .p)),(4,.row 94 (B.map sp)),(7,.box ((sp (cv b)).map .p))]) (fun k hk t h=>?_) ?_
    ·subst hk;apply iW<;>intro f1
     ·have f1:k=0:=by omega
      exact⟨_,_,(v7 B k N (cv b) (by omega)),wO (by omega),(i+1),_,au.refl _ _,⟨by omega,cN (p:=gF (bX o.stack)) hb I hi.2⟩,by omega,⟨Z,Z,Z,Z,Z,Y⟩,⟨rfl,by rw[tE,iq,<-O,ae (.inl f1)];rfl,trivial⟩⟩
     obtain⟨y,D⟩:=aj (l:=B) (i:=k-1) (by omega);refine⟨wO (by omega),wO (by omega),(sp y),(idx (show (k:Int)-1=((k-1:Nat):Int) by omega) D).2,iW ?_ ?_⟩<;>intro J
     ·have J:decide (y=cv b)=false:=by rw[<-iI];exact J
      exact⟨_,_,(v7 B k N (cv b) (by omega)),wO (by omega),(i+1),_,au.refl _ _,⟨by omega,cN (p:=gF (bX o.stack)) hb I hi.2⟩,by omega,⟨Z,Z,Z,Z,Z,Y⟩,⟨rfl,by rw[tE,iq,<-O,ae (.inr (fun h=>by rw[D]at h;injection h with h;rw[aP h]at J;cases J))];rfl,trivial⟩⟩
     have J:decide (y=cv b)=true:=by rw[<-iI];exact J
     exact⟨wO (by omega),(i+1),_,au.refl _ _,⟨by omega,cN (p:=gF (bX o.stack)) hb I hi.2⟩,by omega,⟨Z,Z,Z,Z,Z,Y⟩,⟨rfl,by rw[tE,iq,<-O,aa (fun h=>by rcases h with h | h;omega;exact h (by rw[D,fO J]))];rfl,trivial⟩⟩
    refine ax (fun k:Nat=>k<=B.length/\du lexLt 0 (cv b) B k=z) (fun k=>[(1,.bx 1 0),(4,.ow 4),(10,.p (.sl (o.bores.map l5))),(11,.p (i64 o.bores.length)),(12,.p (i64 i)),(7,.bx 7 0),(8,.p (i64 k))]) (fun _=>[(1,.box ((oF o).map .p)),(4,.row 94 (B.map sp)),(7,.box ((sp (cv b)).map .p))]) (fun k=>k) B.length _ (au.refl _ _) ⟨aF _,O.symm⟩ ⟨rfl,rfl,rfl,rfl,rfl,rfl,ah (fun n:Nat=>AV.p (i64 n)) lB,trivial⟩ ⟨Z,Z,Z,Y⟩ fun k hk t h=>?_;obtain⟨k2,k3⟩:=hk;apply iW<;>intro k0
    ·obtain⟨j,rfl⟩:∃j,k=j+1:=⟨k-1,by omega⟩;obtain⟨y,D⟩:=aj (l:=B) (i:=j) (by omega);have PQ:du lexLt 0 (cv b) B (j+1)=if 0<=j/\lexLt (cv b) y then du lexLt 0 (cv b) B j else j+1:=by rw[du,D]
     have R:((j+1:Nat):Int)-1=(j:Nat):=by omega
     have yes:lexLt (cv b) y->du lexLt 0 (cv b) B j=z:=fun e=>by rw[<-k3,PQ,ae ⟨ai _,e⟩]
     have no:¬lexLt (cv b) y->j+1=z:=fun e=>by rw[<-k3,PQ,aa (fun h=>e h.2)]
     refine⟨wO (by omega),⟨by omega,by rw[lB];omega⟩,(sp y),(idx R D).2,iW ?_ ?_⟩<;>intro e1
     ·exact⟨wO (by omega),j,_,au.refl _ _,⟨by omega,yes (.inl e1)⟩,by omega,⟨rfl,rfl,rfl,rfl,rfl,rfl,bc R,trivial⟩,⟨Z,Z,Z,Y⟩⟩
     refine⟨wO (by omega),⟨by omega,by rw[lB];omega⟩,(sp y),(idx R D).2,iW ?_ ?_⟩<;>intro e2
     ·refine⟨wO (by omega),⟨by omega,by rw[lB];omega⟩,(sp y),(idx R D).2,iW ?_ ?_⟩<;>intro e3
      ·exact⟨wO (by omega),j,_,au.refl _ _,⟨by omega,yes (.inr ⟨e2,e3⟩)⟩,by omega,⟨rfl,rfl,rfl,rfl,rfl,rfl,bc R,trivial⟩,⟨Z,Z,Z,Y⟩⟩
      exact⟨j+1,no (fun h=>by rcases h with h | h;exact e1 h;exact e3 h.2),⟨Z,Z,Z,Z,Z,Z,Z,Y⟩,⟨Z,Z,Z,Y⟩⟩
     exact⟨j+1,no (fun h=>by rcases h with h | h;exact e1 h;exact e2 h.1),⟨Z,Z,Z,Z,Z,Z,Z,Y⟩,⟨Z,Z,Z,Y⟩⟩
    have ek:k=0:=by omega
    subst ek;exact⟨0,k3,⟨Z,Z,Z,Z,Z,Z,Z,Y⟩,⟨Z,Z,Z,Y⟩⟩
 have e:i=o.bores.length:=by omega
 have h2:=hi.2;rw[e,fQ]at h2 ⊢;have e0:eU o=false:=jY.2 fun b hb=>by rw[h2 b hb];decide
 rw[xd,aa (by rw[e0];decide),Lk e0 hs];exact⟨Z,Y⟩
def pe(o:Order):List PV:=if eU o=true then [.sl [],.sl [],str lf,i64 1] else if bQ o.mats o.stack (aR o)=0 then [.sl (kJ o.mats o.stack (aR o)),.sl ((aR o).map sp),str ar,i64 0] else [.sl [],.sl [],str sZ,i64 (bQ o.mats o.stack (aR o))]
theorem yA(o:Order)(hp:o.plots.length=bX o.stack)(I:nn o.mats)(hs:kZ o.stack)(J:o.bores.length<=1000):af C 27 [.pv (.ag (oF o))] (.tu (pe o)) []:=by
 have d:=B7 o hp hs.1 J;by_cases D:eU o=true
 ·rw[pe,ae D];rw[xd,ae D]at d;refine fW hC Tryz.func27 rfl (by kernel_rfl) fun _=>?_;refine⟨_,_,d,?_,trivial⟩;rfl
 rw[pe,aa D];rw[xd,aa D]at d;have N:(aR o).length<=1048576:=by
  have d:=(db yy B1 (o.bores.map cv)).1.length_eq;rw[aw]at d;have u:=Reg.sP (gW yy (o.bores.map cv));show (v8 _).length<=_;omega
 have u:=EV o.mats o.stack (aR o) I hs N;by_cases z:bQ o.mats o.stack (aR o)=0
 ·rw[jc,ae z]at u;rw[ae z];refine fW hC Tryz.func27 rfl (by kernel_rfl) fun _=>?_;refine⟨_,_,d,_,_,u,?_,trivial⟩;rfl
 rw[jc,aa z]at u;rw[aa z];refine fW hC Tryz.func27 rfl (by kernel_rfl) fun _=>?_;refine⟨_,_,d,_,_,u,iW ?_ ?_⟩<;>intro g
 ·refine⟨?_,trivial⟩;rfl
 exact absurd (by simpa using g) z
theorem CS{m:List cw}(u:ja m)(y:ByteArray)(k:Nat):(0<=uj cw.name cw.thick y m k/\uj cw.name cw.thick y m k<=2000)/\uj cw.name cw.thick y m m.length=(fw m y).thick:=by
 cases h:dX cw.name m y with
 | false=>
  have z:∀x∈m,cw.name x≠y:=fun x D e=>by
   have:=jY.1 h x D;exact this (aP e)
  rw[Reg.xb cw.name cw.thick y m z,Reg.xb cw.name cw.thick y m z,fw,mM h];exact⟨⟨by omega,by omega⟩,rfl⟩
 | true=>
  obtain⟨p,x,_,d,I,N⟩:=kF h;have J:∀(i j:Nat) a b,i<j->m[i]?=some a->m[j]?=some b->cw.name a≠cw.name b:=fun i j a b O R hb e=>by
   have:=cS u.ord R hb O;rw[jZ e]at this;cases this
  have hp:=(aU.1 d).1;have D:=u.thick x (an d);rw[Reg.A0 cw.name cw.thick y m J d I,Reg.A0 cw.name cw.thick y m J d I,ae hp,fw,N];exact⟨by split<;>omega,rfl⟩
def qj(o:Order)(k:Nat):Int:=match o.stack[k]? with
 | some l=>(fw o.mats l.mat).thick
 | none=>0
def xe(o:Order)(a:Nat):Nat->Int
 | 0=>0
 | k+1=>xe o a k+qj o (a+k)
theorem JU{o:Order}(d:ja o.mats)(a:Nat):∀k:Nat,0<=xe o a k/\xe o a k<=2000*(k:Int)
 | 0=>by simp[xe]
 | k+1=>by
  have ih:=JU d a k;rw[xe];have:0<=qj o (a+k)/\qj o (a+k)<=2000:=by
   unfold qj;split
   ·exact AU d _
   decide
  omega
def Bf(l:Lay):Bool:=!decide (l.name=ar)
theorem Oc{o:Order}{lo hi a b:Nat}(I:(eB Bf o.stack o.stack.length)[lo]?=some a)(hb:(eB Bf o.stack o.stack.length)[hi]?=some b):La o lo hi=xe o a (b+1-a):=by
 have RX:=(Reg.rK _ _ _ (aF _) hb).1;have key:∀k,k<=o.stack.length->km o lo hi k=xe o a (min k (b+1)-a):=by
  intro k
  induction k with
  | zero=>intro _;rw[show min 0 (b+1)-a=0 by omega];rfl
  | succ k ih=>
   intro hk;obtain⟨l,d⟩:=aj (l:=o.stack) (i:=k) (by omega);have u:=Reg.NX Bf o.stack I hb d;have J:o8 o lo hi k=if a<=k/\k<=b then qj o k else 0:=by
    have N:(bX (o.stack.take (k+1)):Nat)=rI Bf o.stack (k+1):=rfl;have O:(¬l.name=ar)↔Bf l=true:=by simp[Bf]
    simp only[o8,d,N,O,qj];by_cases e:a<=k/\k<=b
    ·rw[ae (u.2 e),ae e]
    rw[aa (fun h=>e (u.1 h)),aa e]
   rw[km,ih (by omega),J];by_cases z:a<=k
   ·by_cases D:k<=b
    ·rw[ae ⟨z,D⟩,show min (k+1) (b+1)-a=(min k (b+1)-a)+1 by omega,xe,show a+(min k (b+1)-a)=k by omega]
    rw[aa (fun h=>D h.2),show min (k+1) (b+1)-a=min k (b+1)-a by omega,jm]
   rw[aa (fun h=>z h.1),show min (k+1) (b+1)-a=min k (b+1)-a by omega,jm]
 rw[La,key _ (aF _),show min o.stack.length (b+1)-a=b+1-a by omega]
theorem SD{α:Type}{q:α->Bool}{l:List α}{i j a b:Nat}(h:i<j)(d:(eB q l l.length)[i]?=some a)(hb:(eB q l l.length)[j]?=some b):a<b:=by
 have h1:=(Reg.rK q l _ (aF _) d).2.2;have h2:=(Reg.rK q l _ (aF _) hb).2.2;refine Nat.lt_of_not_le fun e=>?_;have:=Reg.rJ q l e;omega
theorem B8(o:Order)(lo hi:Nat)(d:ja o.mats)(hS:o.stack.length<=60)(U:lo<hi)(h2:hi<bX o.stack):af C 29 [.pv (.ag (oF o)),.pv (.ag (sp ((lo:Int)+1,(hi:Int)+1)))] (.p (i64 (La o lo hi))) []:=by
 have IW:=jb o.stack;have hn:bX o.stack=(eB Bf o.stack o.stack.length).length:=by
  rw[Reg.mN _ _ _ (aF _),fQ];rfl
 obtain⟨a,u⟩:=aj (l:=eB Bf o.stack o.stack.length) (i:=lo) (by omega);obtain⟨b,hb⟩:=aj (l:=eB Bf o.stack o.stack.length) (i:=hi) (by omega);have xC:=SD U u hb;have RX:=(Reg.rK _ _ _ (aF _) hb).1;have V:=ak o.mats iX;have gl:=d.len;rw[Oc u hb];have D:l_ o.stack o.stack.length=(eB Bf o.stack o.stack.length).map fun k:Nat=>(k:Int):=by
  unfold l_ Reg.eB;congr 2;funext k;unfold Bf;cases o.stack[k]?<;>rfl
 have W:(l_ o.stack o.stack.length)[lo]?=some (a:Int):=by rw[D,aB,u];rfl
 have gZ:(l_ o.stack o.stack.length)[hi]?=some (b:Int):=by rw[D,aB,hb];rfl
 have Aw:=af.jr (xs:=[.ag (oF o)]) (qx o (by omega));generalize l_ o.stack o.stack.length=I at *;have Z6:=ak o.stack gJ;have J:((o.stack.map gJ).take ((b:Int)+1).toNat).drop (a:Int).toNat=((o.stack.take (b+1)).drop a).map gJ:=by
  rw[bU,show ((b:Int)+1).toNat=b+1 by omega,vd,iC]
 have eL:((((o.stack.map gJ).take ((b:Int)+1).toNat).drop (a:Int).toNat).length:Int)=((b+1-a:Nat):Int):=by
  rw[J,aw,dn,aV];omega
 refine fW hC Tryz.func29 rfl (by kernel_rfl) fun _=>?_;refine⟨_,_,Aw,⟨by dsimp only;omega,by dsimp only;omega⟩,[i64 (a:Int)],(idx (show ((lo:Int)+1)-1=(lo:Nat) by omega) W),⟨by dsimp only;omega,by dsimp only;omega⟩,[i64 (b:Int)],(idx (show ((hi:Int)+1)-1=(hi:Nat) by omega) gZ),wO (by omega),⟨by omega,by omega,by rw[Z6];omega,j_ fun _=>rfl⟩,?_⟩;refine ax (fun j:Nat=>j<=b+1-a) (fun j=>[(2,.bx 2 0),(6,.p (i64 (xe o a j))),(28,.p (.sl (((o.stack.take (b+1)).drop a).map gJ))),(29,.p (i64 (b+1-a:Nat))),(30,.p (i64 j))]) (fun _=>[(2,.box ((oF o).map .p))]) (fun j=>b+1-a-j) 0 _ (au.refl _ _) (ai _) ⟨rfl,rfl,ah (fun r=>AV.p (PV.sl r)) J,bc eL,Z,Y⟩ ⟨Z,Y⟩ fun j hj t h=>?_;apply iW<;>intro g1
 ·obtain⟨l,N⟩:=aj (l:=o.stack) (i:=a+j) (by omega);have ye:((o.stack.take (b+1)).drop a)[j]?=some l:=by rw[eE,iv (by omega)];exact N
  have ZW:=JU d a j;have Th:xe o a (j+1)=xe o a j+uj cw.name cw.thick l.mat o.mats o.mats.length:=by rw[xe,qj,N,(CS d l.mat 0).2]
  refine⟨(gJ l),(idx rfl ye),?_⟩;refine ax (fun k:Nat=>k<=o.mats.length) (fun k=>[(2,.bx 2 0),(6,.p (i64 (xe o a j+uj cw.name cw.thick l.mat o.mats k))),(8,.bx 8 0),(28,.p (.sl (((o.stack.take (b+1)).drop a).map gJ))),(29,.p (i64 (b+1-a:Nat))),(30,.p (i64 j)),(35,.p (.sl (o.mats.map iX))),(36,.p (i64 o.mats.length)),(37,.p (i64 k))]) (fun _=>[(2,.box ((oF o).map .p)),(8,.box ((gJ l).map .p))]) (fun k=>o.mats.length-k) 0 _ (au.refl _ _) (ai _) ⟨rfl,by simp only[uj,jm];rfl,rfl,rfl,rfl,rfl,rfl,ah (fun n:Nat=>AV.p (i64 n)) V,Z,Y⟩ ⟨Z,Z,Y⟩ fun k hk t h=>?_;apply iW<;>intro g2
  ·obtain⟨x,z⟩:=aj (l:=o.mats) (i:=k) (by omega);have hsi:=(CS d l.mat k).1;have hxt:=d.thick x (an z);have O:uj cw.name cw.thick l.mat o.mats (k+1)=uj cw.name cw.thick l.mat o.mats k+if x.name=l.mat then x.thick else 0:=by rw[uj,z]
   refine⟨(iX x),(idx rfl z),iW ?_ ?_⟩<;>intro R
   ·rw[ae R]at O;exact⟨wO (by omega),wO (by omega),(k+1),_,au.refl _ _,by omega,by omega,⟨rfl,bc (by omega),Z,Z,Z,Z,Z,Z,Z,Y⟩,⟨Z,Z,Y⟩⟩
   rw[aa R,jm]at O;exact⟨wO (by omega),(k+1),_,au.refl _ _,by omega,by omega,⟨rfl,bc (by omega),Z,Z,Z,Z,Z,Z,Z,Y⟩,⟨Z,Z,Y⟩⟩
  have ek:k=o.mats.length:=by omega
  subst ek;exact⟨wO (by omega),(j+1),_,au.refl _ _,by omega,by omega,⟨rfl,bc Th.symm,Z,Z,Z,Y⟩,⟨Z,Y⟩⟩
 have ej:j=b+1-a:=by omega
 refine⟨?_,trivial⟩;rw[ej]
theorem PS{o:Order}{b:oZ}(h:b∈o.bores):cv b∈aR o:=by
 rw[aR,Reg.JH,(db yy B1 _).1.mem_iff];exact bF.2 ⟨b,h,rfl⟩
theorem GR{o:Order}(h:(dE o).1=0):o.plots.length=bX o.stack:=by
 unfold dE at h;split at h
 ·rename_i d;exact absurd h d
 split at h
 ·rename_i d;exact absurd h d
 split at h
 ·cases h
 exact Classical.not_not.1 ‹_›
theorem Bg(o:Order)(t:List gG)(near:Int)(ho:jn o)(ht:oG t):af C 8 [.pv (.ag (oF o)),.pv (.sl (t.map ef)),.pv (i64 near)] (.tu (kN o t near)) []:=by
 have CG:=w7 o ho;by_cases J:(dE o).1=0;rotate_left
 ·rw[kN,ae J];refine sd ⟨[18,31],[],[],[19,29],[],[]⟩ hC Tryz.func8 rfl (by kernel_rfl) fun _=>?_;refine⟨_,_,CG,iW ?_ ?_⟩<;>intro g
  ·refine⟨?_,trivial⟩;rfl
  exact absurd (by simpa using g) J
 obtain⟨g1,g2⟩:=pd J;obtain⟨gm,gs⟩:=xc g1;have D:=yA o (GR J) ho.mats ho.stack (by omega);rw[J]at CG;rw[kN,aa (fun h=>h J)];by_cases c2:eU o=true
 ·rw[ae c2];rw[pe,ae c2]at D;refine sd ⟨[18,31],[],[],[19,29],[],[]⟩ hC Tryz.func8 rfl (by kernel_rfl) fun _=>?_;refine⟨_,_,CG,_,_,D,?_,trivial⟩;rfl
 rw[aa c2];rw[pe,aa c2]at D;by_cases O:bQ o.mats o.stack (aR o)=0;rotate_left
 ·rw[ae O];rw[aa O]at D;refine sd ⟨[18,31],[],[],[19,29],[],[]⟩ hC Tryz.func8 rfl (by kernel_rfl) fun _=>?_;refine⟨_,_,CG,_,_,D,iW ?_ ?_⟩<;>intro g
  ·refine⟨?_,trivial⟩;rfl
  exact absurd (by simpa using g) O
 rw[aa (fun h=>h O)];rw[ae O]at D;have IW:=jb o.stack;have Ov:∀x∈o.bores,0<=x.lo/\x.lo<x.hi/\x.hi<bX o.stack:=fun x I=>by
  have Z7:eU o=false:=by simpa using c2
  have U:=jY.1 Z7 x I;simp only[gF,eG,jj,not_or,Bool.not_eq_false]at U;have h3:=dB.1 U.1;have h4:=dB.1 U.2.1;have h5:=(uh O).2.2 _ (PS I);unfold cv at h5;dsimp only at h5;omega
 have RX:=jx (m:=o.mats) (s:=o.stack) (l:=aR o);have Ch:(aR o).length<=500:=by
  have U:=(db yy B1 (o.bores.map cv)).1.length_eq;rw[aw]at U;have h2:=Reg.sP (gW yy (o.bores.map cv));show (v8 _).length<=500;omega
 have Vd:=fun k (hk:k<(cq o.mats o.stack (aR o)).length)=>(nt (lJ (bA o.mats o.stack o.stack.length).length (aR o)) (cq o.mats o.stack (aR o)) _ (aF _)).2 k hk;have qE:=(nt (lJ (bA o.mats o.stack o.stack.length).length (aR o)) (cq o.mats o.stack (aR o)) _ (aF _)).1;rw[Bc];rw[show iL o=cq o.mats o.stack (aR o) from rfl,show Bb o=(bA o.mats o.stack o.stack.length).length from rfl];rw[kJ]at D;generalize cq o.mats o.stack (aR o)=B at *;generalize (bA o.mats o.stack o.stack.length).length=q at *;obtain⟨R,hR⟩:∃R,R=kj (lJ q (aR o)) B B.length:=⟨_,rfl⟩;rw[<-hR]at D Vd qE;have lb:=ak o.bores l5;refine sd ⟨[18,31],[],[],[19,29],[],[]⟩ hC Tryz.func8 rfl (by kernel_rfl) fun _=>?_;refine⟨_,_,CG,_,_,D,?_⟩;refine ax (fun i:Nat=>i<=B.length/\∀k,k<i->A_ o t near B k=0) (fun i=>[(1,.p (.sl (t.map ef))),(2,.p (i64 near)),(3,.p (.ip (oF o))),(15,.ow 15),(49,.p (.sl R)),(50,.p (i64 B.length)),(51,.p (i64 i))]) (fun i=>[(15,.row 103 (dQ o t near q B i))]) (fun i=>B.length-i) 0 _ (au.trans (au.ed hC _ 15 103 _ (by decide) rfl rfl (by decide)) (au.gn hC _ 3 (y:=.ip (oF o)) (fz:=[(3,.ll (oF o))]) ⟨rfl,rfl⟩)) ⟨ai _,fun k h=>by omega⟩ ⟨rfl,rfl,rfl,rfl,rfl,ah (fun n:Nat=>AV.p (i64 n)) qE,Z,Y⟩ ⟨Z,Y⟩ fun i hi tt h=>?_;apply iW<;>intro U
 ·obtain⟨b,hb⟩:=aj (l:=B) (i:=i) (by omega);have XX:R[i]?=some (lJ q (aR o) i b):=by rw[Vd i (by omega),hb];rfl
  have HO:=CP o t near q B i;have Z4:=ak (dD (aR o) b (aR o).length) fun n=>[i64 n];have V:A_ o t near B i=if nv o b=true then 0 else EN t (cO o b o.bores.length) near:=by simp only[A_,hb]
  refine⟨(lJ q (aR o) i b),⟨by omega,by rw[bU];exact XX⟩,iW ?_ ?_⟩<;>intro h2
  ·have e:nv o b=true:=aP (by have h2:(((dD (aR o) b (aR o).length).map fun n=>[i64 n]).length:Int)=0:=h2;omega);have hd:=Ba (near:=near) (t:=t) (q:=q) hb e;rw[ae e]at V;exact⟨wO (by omega),(i+1),_,au.refl _ _,⟨by omega,bO hi.2 V⟩,by omega,⟨Z,Z,Z,Z,Z,Z,Z,Y⟩,⟨by rw[hd];rfl,trivial⟩⟩
  have cU:¬(dD (aR o) b (aR o).length).length=0:=fun e=>h2 (by show (((dD (aR o) b (aR o).length).map fun n=>[i64 n]).length:Int)=0;omega);have e:nv o b=false:=aL cU;have hd:=CO (near:=near) (t:=t) (q:=q) hb e;rw[aa (by rw[e];decide)]at V;refine ax (fun j:Nat=>j<=o.bores.length) (fun j=>[(1,.p (.sl (t.map ef))),(2,.p (i64 near)),(3,.p (.ip (oF o))),(15,.ow 15),(49,.p (.sl R)),(50,.p (i64 B.length)),(51,.p (i64 i)),(17,.bx 17 0),(18,.p (.ip (sp b))),(19,.ow 19),(20,.ow 20),(65,.p (.sl (o.bores.map l5))),(66,.p (i64 o.bores.length)),(67,.p (i64 j))]) (fun j=>[(15,.row 103 (dQ o t near q B i)),(17,.box ((lJ q (aR o) i b).map .p)),(19,.row 98 ((cO o b j).map nB)),(20,.row 3 ((bZ (lM o b j)).map fun n=>[i64 n]))]) (fun j=>o.bores.length-j) 0 _ (au.trans (au.trans (au.ed hC _ 19 98 _ (by decide) rfl rfl (by decide)) (au.ed hC _ 20 3 _ (by decide) rfl rfl (by decide))) (au.gn hC _ 18 (y:=.ip (sp b)) (fz:=[(18,.ll (sp b))]) ⟨rfl,rfl⟩)) (ai _) ⟨rfl,rfl,rfl,rfl,rfl,rfl,rfl,rfl,rfl,rfl,rfl,rfl,ah (fun n:Nat=>AV.p (i64 n)) lb,Z,Y⟩ ⟨Z,Z,Z,Z,Y⟩ fun j hj t2 h=>?_;apply iW<;>intro h3
  ·obtain⟨x,I⟩:=aj (l:=o.bores) (i:=j) (by omega);have kx:=Ov x (an I);have lH:=ya (s:=b) I;have QM:=A9 (s:=b) I;have hle:=rN o b j;have Np:=nu o b j hj;have lh:=ak (cO o b j) nB;have ln:((bZ (lM o b j)).map fun n=>[i64 n]).length=(lM o b j).length:=by rw[aw,bZ,aw]
   refine⟨(l5 x),(idx rfl I),?_⟩;refine KQ 22 (y:=.ip (l5 x)) (fz:=[(22,.ll (l5 x))]) (by exact hC) (by exact⟨rfl,rfl⟩) ?_;refine⟨_,_,(vZ x (by omega) (by omega)),iW ?_ ?_⟩<;>intro d
   ·have d:decide (cv x=b)=true:=by rw[<-iI];exact d
    have e:=fO d;rw[ae e]at lH QM;have Vg:=B8 o x.lo.toNat x.hi.toNat gm gs (by omega) (by omega);have e1:((x.lo.toNat:Int)+1,(x.hi.toNat:Int)+1)=b:=by rw[<-e];unfold cv;refine Prod.ext ?_ ?_<;>(dsimp only;omega)
    have e2:(x.lo.toNat:Int)=x.lo:=by omega
    have e3:(x.hi.toNat:Int)=x.hi:=by omega
    rw[e1,e2,e3]at Vg;exact⟨_,_,Vg,⟨fun r hr=>(by rw[bM.1 hr];rfl),by rw[lh];simp;omega,by rw[lh];simp;omega⟩,⟨by simp,by rw[ln];simp;omega,by rw[ln];simp;omega⟩,wO (by omega),(j+1),_,au.refl _ _,by omega,by omega,⟨Z,Z,Z,Z,Z,Z,Z,Z,Z,Z,Z,Z,Z,Z,Y⟩,⟨rfl,rfl,by rw[lH,bz];rfl,by rw[QM,bZ,bZ,bz,bz];rfl,trivial⟩⟩
   have d:decide (cv x=b)=false:=by rw[<-iI];exact d
   have e:=of_decide_eq_false d;rw[aa e,cQ]at lH QM;exact⟨wO (by omega),(j+1),_,au.refl _ _,by omega,by omega,⟨Z,Z,Z,Z,Z,Z,Z,Z,Z,Z,Z,Z,Z,Z,Y⟩,⟨rfl,rfl,by rw[lH];rfl,by rw[QM];rfl,trivial⟩⟩
  have ej:j=o.bores.length:=by omega
  rw[ej];have hH:=rN o b o.bores.length;have Ve:=nu o b _ (aF _);have GH:=GK t (cO o b o.bores.length) near ht (by omega);obtain⟨N,hN⟩:∃N,N=lM o b o.bores.length:=⟨_,rfl⟩;obtain⟨u,hZ⟩:∃u,u=ko t (cO o b o.bores.length) near (cO o b o.bores.length).length:=⟨_,rfl⟩;have Z5:u.length<=(cO o b o.bores.length).length:=by rw[hZ];exact Reg.np _ _ _
  have XY:∀z∈u,z<N.length:=fun z hz=>by
   rw[hN,<-Ve];exact (Reg.w4 (hZ▸hz)).1
  by_cases W:EN t (cO o b o.bores.length) near=0;rotate_left
  ·rw[gX,aa W]at GH;have e9:aG (A_ o t near B) 0 B.length=EN t (cO o b o.bores.length) near:=ao hi.2 (by omega) V W;refine⟨_,_,GH,iW ?_ ?_⟩<;>intro g
   ·refine⟨?_,trivial⟩;rw[e9,ae W];rfl
   exact absurd (by simpa using g) W
  rw[gX,ae W,<-hZ]at GH;rw[W]at V;have lZ:((bZ u).map fun n=>[i64 n]).length=u.length:=by rw[aw,bZ,aw]
  have SC:yb o t near b=kg N u:=by rw[yb,<-hZ,<-hN]
  rw[<-hN]at hH Ve;refine⟨_,_,GH,?_⟩;refine ax (fun k:Nat=>k<=u.length) (fun k=>[(1,.p (.sl (t.map ef))),(2,.p (i64 near)),(3,.p (.ip (oF o))),(15,.ow 15),(49,.p (.sl R)),(50,.p (i64 B.length)),(51,.p (i64 i)),(20,.p (ints (bZ N))),(26,.bx 26 0),(108,.p (ints (bZ u))),(109,.p (i64 u.length)),(110,.p (i64 k))]) (fun k=>[(15,.row 103 (dQ o t near q B i)),(26,.box (((lJ q (aR o) i b).map .p)++[.p (.sl ((JT o t near b).map qg)),.ow 90000])),(90000,.row 3 ((bZ (kg N (u.take k))).map fun n=>[i64 n]))]) (fun k=>u.length-k) 0 _ (au.trans (au.uU hC _ 26 5 90000 3 _ _ (by decide) (by decide) rfl rfl rfl (by decide)) (au.gn hC _ 20 (y:=ints (bZ N)) (fz:=[(20,.jr ((bZ N).map fun n=>[i64 n]))]) ⟨by rw[hN];rfl,by rw[hN]⟩)) (ai _) ⟨rfl,rfl,rfl,rfl,rfl,rfl,rfl,rfl,rfl,rfl,ah (fun n:Nat=>AV.p (i64 n)) lZ,Z,Y⟩ ⟨Z,Z,Z,Y⟩ fun k hk t3 h=>?_;apply iW<;>intro h4
  ·obtain⟨z,hz⟩:=aj (l:=u) (i:=k) (by omega);obtain⟨y,hy⟩:=aj (l:=N) (i:=z) (XY z (an hz));have Sw:(bZ u)[k]?=some (z:Int):=by rw[bZ,aB,hz];rfl
   have XZ:(bZ N)[z]?=some (y:Int):=by rw[bZ,aB,hy];rfl
   have Ls:bZ (kg N (u.take (k+1)))=bZ (kg N (u.take k))++[(y:Int)]:=by
    rw[aN hz,bZ,bZ,kg,kg,bz,bz];simp[hy]
   have Ob:((bZ (kg N (u.take k))).map fun n=>[i64 n]).length=k:=by
    rw[aw,bZ,aw,kg,aw,aV];omega
   refine⟨[i64 (z:Int)],(idx rfl Sw),[i64 (y:Int)],(idx rfl XZ),⟨by simp,by rw[Ob];simp;omega,by rw[Ob];simp;omega⟩,wO (by omega),k+1,_,au.Qe _ 121 90000 (by decide) (by decide),by omega,by omega,⟨Z,Z,Z,Z,Z,Z,Z,Z,Z,Z,Z,Z,Y⟩,⟨rfl,rfl,?_,trivial⟩⟩;show AB.row _ _=AB.row _ _;rw[Ls,bz];rfl
  have ek:k=u.length:=by omega
  have ld:=HO;refine zW (au.uV (by exact hC) _ 26 5 90000 3 _ _ (by decide) (by exact rfl) (by exact rfl) (by exact rfl)) ?_;refine⟨⟨fun r hr=>(by rw[bM.1 hr];rfl),by simp;omega,by simp;omega⟩,wO (by omega),(i+1),_,au.refl _ _,⟨by omega,bO hi.2 V⟩,by omega,⟨Z,Z,Z,Z,Z,Z,Z,Y⟩,⟨?_,trivial⟩⟩;show AB.row _ _=AB.row _ _;rw[hd,vY,SC,show u.take k=u from aW (by omega)];rfl
 have e:i=B.length:=by omega
 have z0:aG (A_ o t near B) 0 B.length=0:=aI fun k _ hk=>hi.2 k (by omega);rw[aa (fun h=>h z0),e];exact⟨Z,Y⟩
open Reg (aZ cR gQ)
def p0:ic:=⟨0,[],.nil⟩
def o0:Order:=⟨[],⟨[],[]⟩,[],[],[],p0,[],[],[],[],⟨0,0,0,0,0,[],[]⟩⟩
theorem Od:ru p0:=⟨⟨by decide,fun t d=>by cases d⟩,by decide,trivial⟩
theorem Lm:jn o0 where
 types:=⟨by decide,fun t d=>by cases d⟩
 list:=⟨⟨by decide,fun t d=>by cases d⟩,by decide,fun t d=>by cases d⟩
 mats:=⟨by decide,fun t d=>by cases d⟩
 stack:=⟨by decide,fun t d=>by cases d⟩
 plots:=⟨by decide,fun t d=>by cases d⟩
 outline:=Od
 bores:=by decide
 bodies:=⟨by decide,fun t d=>by cases d⟩
 places:=⟨by decide,fun t d=>by cases d⟩
 feet:=⟨by decide,fun t d=>by cases d⟩
 rules:=⟨fun t d=>(by cases d),by decide,by decide⟩
theorem SE:dE o0=(3,EI):=by decide
theorem GS:af C 10 [] (.p (bool true)) []:=by
 refine fW hC Tryz.func10 rfl (by kernel_rfl) fun _=>?_;have h:=w6 o0 Lm;rw[SE]at h;refine⟨_,_,h,?_,trivial⟩;rfl
theorem yc(l:List Int)(d:l.length<=140737488355328):af C 33 [.pv (ints l),.pv (ints l)] (.p (bool true)) []:=by
 have h:=z6 l l d
 rwa [aP rfl]at h
theorem GU(l:List dM)(hN:l.length<=140737488355328):af C 90 [.pv (.sl (l.map nB)),.pv (.sl (l.map nB))] (.p (bool true)) []:=by
 refine fW hC Tryz.func90 rfl (by kernel_rfl) fun _=>?_;have D:=ak l nB;apply iW<;>intro d<;>try simp only[zB]at d
 ·first | exact absurd trivial d | exact absurd d (by simp) | simp at d
 refine ax (fun i:Nat=>i<=l.length) (fun i=>[(0,.p (.sl (l.map nB))),(1,.p (.sl (l.map nB))),(12,.p (i64 (l.map nB).length)),(13,.p (i64 i))]) (fun _=>[]) (fun i=>l.length-i) 0 _ (au.refl _ _) (ai _) ⟨Z,Z,Z,Z,Y⟩ trivial fun i hi t h=>?_;apply iW<;>intro I
 ·rw[D]at I;obtain⟨r,u⟩:=aj (l:=l) (i:=i) (by omega);refine⟨(nB r),(idx rfl u),(nB r),(idx rfl u),iW ?_ ?_⟩<;>intro z<;>try simp only[zB]at z
  ·exfalso;simp at z
  exact⟨wO (by omega),(i+1),_,au.refl _ _,by omega,by omega,⟨Z,Z,Z,Z,Y⟩,trivial⟩
 refine⟨?_,trivial⟩;rfl
theorem B9(l:List U3)(hN:l.length<=140737488355328)(hS:∀j∈l,j.holes.length<=140737488355328):af C 32 [.pv (.sl (l.map qg)),.pv (.sl (l.map qg))] (.p (bool true)) []:=by
 refine fW hC Tryz.func32 rfl (by kernel_rfl) fun _=>?_;have z:=ak l qg;apply iW<;>intro u<;>try simp only[zB]at u
 ·first | exact absurd trivial u | exact absurd u (by simp) | simp at u
 refine ax (fun i:Nat=>i<=l.length) (fun i=>[(0,.p (.sl (l.map qg))),(1,.p (.sl (l.map qg))),(12,.p (i64 (l.map qg).length)),(13,.p (i64 i))]) (fun _=>[]) (fun i=>l.length-i) 0 _ (au.refl _ _) (ai _) ⟨Z,Z,Z,Z,Y⟩ trivial fun i hi t h=>?_;apply iW<;>intro D
 ·rw[z]at D;obtain⟨r,d⟩:=aj (l:=l) (i:=i) (by omega);refine⟨(qg r),(idx rfl d),(qg r),(idx rfl d),iW ?_ ?_⟩<;>intro I
  ·exact absurd rfl I
  exact⟨(qg r),(idx rfl d),(qg r),(idx rfl d),_,_,(GU r.holes (hS r (an d))),wO (by omega),(i+1),_,au.refl _ _,by omega,by omega,⟨Z,Z,Z,Z,Y⟩,trivial⟩
 refine⟨?_,trivial⟩;rfl
structure EW where
 f:Int
 t:Int
 c:Bool
 hs:List Int
 js:List U3
 ms:List Int
def IC(d:EW):List PV:=[i64 d.f,i64 d.t,bool d.c,ints d.hs]
def ID(d:EW):List PV:=IC d++[.sl (d.js.map qg),ints d.ms]
theorem xf(d:EW)(hS:d.hs.length<=140737488355328):af C 31 [.pv (.sl [IC d]),.pv (.sl [IC d])] (.p (bool true)) []:=by
 refine fW hC Tryz.func31 rfl (by kernel_rfl) fun _=>?_;refine ax (fun i:Nat=>i<=1) (fun i=>[(0,.p (.sl [IC d])),(1,.p (.sl [IC d])),(12,.p (i64 1)),(13,.p (i64 i))]) (fun _=>[]) (fun i=>1-i) 0 _ (au.refl _ _) (ai _) ⟨Z,Z,Z,Z,Y⟩ trivial fun i hi t h=>?_;apply iW<;>intro h1
 ·have e:i=0:=by omega
  subst e;have u:∀l:List (List PV),l=[IC d]->(0:Int)<=(((0:Nat):Int))/\l[(((0:Nat):Int)).toNat]?=some (IC d):=fun l e=>by subst e;exact⟨by omega,rfl⟩
  refine⟨(IC d),(u _ rfl),(IC d),(u _ rfl),iW ?_ ?_⟩<;>intro z
  ·exact absurd rfl z
  refine⟨(IC d),(u _ rfl),(IC d),(u _ rfl),iW ?_ ?_⟩<;>intro D
  ·exact absurd rfl D
  refine⟨(IC d),(u _ rfl),(IC d),(u _ rfl),iW ?_ ?_⟩<;>intro I
  ·exact absurd rfl I
  exact⟨(IC d),(u _ rfl),(IC d),(u _ rfl),_,_,(yc d.hs hS),wO (by omega),1,_,au.refl _ _,by omega,by omega,⟨Z,Z,Z,Z,Y⟩,trivial⟩
 refine⟨?_,trivial⟩;rfl
structure X0(d:EW):Prop where
 hs:d.hs.length<=140737488355328
 js:d.js.length<=140737488355328
 jh:∀j∈d.js,j.holes.length<=140737488355328
 ms:d.ms.length<=140737488355328
theorem um(l:List EW)(hN:l.length<=1000000)(D:∀d∈l,X0 d):af C 9 [.pv (.sl (l.map ID)),.pv (.sl (l.map ID))] (.p (bool true)) []:=by
 refine fW hC Tryz.func9 rfl (by kernel_rfl) fun _=>?_;have I:=ak l ID;apply iW<;>intro z<;>try simp only[zB]at z
 ·first | exact absurd trivial z | exact absurd z (by simp) | simp at z
 refine ax (fun i:Nat=>i<=l.length) (fun i=>[(0,.p (.sl (l.map ID))),(1,.p (.sl (l.map ID))),(12,.p (i64 (l.map ID).length)),(13,.p (i64 i))]) (fun _=>[]) (fun i=>l.length-i) 0 _ (au.refl _ _) (ai _) ⟨Z,Z,Z,Z,Y⟩ trivial fun i hi t h=>?_;apply iW<;>intro J
 ·rw[I]at J;obtain⟨d,u⟩:=aj (l:=l) (i:=i) (by omega);have ok:=D d (an u);exact⟨(ID d),(idx rfl u),(ID d),(idx rfl u),_,_,(xf d ok.hs),(ID d),(idx rfl u),(ID d),(idx rfl u),_,_,(B9 d.js ok.js ok.jh),(ID d),(idx rfl u),(ID d),(idx rfl u),_,_,(yc d.ms ok.ms),wO (by omega),(i+1),_,au.refl _ _,by omega,by omega,⟨Z,Z,Z,Z,Y⟩,trivial⟩
 refine⟨?_,trivial⟩;rfl
def X1(o:Order)(t:List gG)(near:Int)(k:Nat)(b:Int×Int):EW:=⟨b.1,b.2,decide ((k:Int)<(Bb o:Int)),dD (aR o) b (aR o).length,JT o t near b,bZ (yb o t near b)⟩
def EX(o:Order)(t:List gG)(near:Int):List EW:=(List.range (iL o).length).filterMap fun k=>match (iL o)[k]? with
 | some b=>if nv o b=true then none else some (X1 o t near k b)
 | none=>none
theorem Oe(o:Order)(t:List gG)(near:Int):dQ o t near (Bb o) (iL o) (iL o).length=(EX o t near).map ID:=by
 unfold dQ EX;rw[List.map_filterMap];congr 1;funext k;cases (iL o)[k]? with
 | none=>rfl
 | some b=>dsimp only;split<;>rfl
theorem IE(o:Order)(t:List gG)(near:Int)(ho:jn o)(U:oG t):∃(D:List EW) (s:ByteArray) (f:Int),kN o t near=[.sl (D.map ID),str s,i64 f]/\D.length<=1000000/\∀d∈D,X0 d:=by
 have none:∀s f,kN o t near=[.sl [],str s,i64 f]->∃(D:List EW) (s:ByteArray) (f:Int),kN o t near=[.sl (D.map ID),str s,i64 f]/\D.length<=1000000/\∀d∈D,X0 d:=fun s f e=>⟨[],s,f,e,by simp,fun d h=>by cases h⟩;by_cases u:(dE o).1=0;rotate_left
 ·exact none _ _ (ae u)
 by_cases z:eU o=true
 ·exact none _ _ (by rw[kN,aa (fun h=>h u),ae z])
 by_cases J:bQ o.mats o.stack (aR o)=0;rotate_left
 ·exact none _ _ (by rw[kN,aa (fun h=>h u),aa z,ae J])
 by_cases O:Bc o t near=0;rotate_left
 ·exact none _ _ (by rw[kN,aa (fun h=>h u),aa z,aa (fun h=>h J),ae O])
 refine⟨EX o t near,ar,0,by rw[kN,aa (fun h=>h u),aa z,aa (fun h=>h J),aa (fun h=>h O),Oe],?_,fun d V=>?_⟩
 ·obtain⟨R,W⟩:=pd u;have g3:=(xc R).2;have h1:(EX o t near).length<=(iL o).length:=aO (zd _ _) (by simp);have h2:=(jx (m:=o.mats) (s:=o.stack) (l:=aR o)).1;have N:=(db yy B1 (o.bores.map cv)).1.length_eq;rw[aw]at N;have Y:(aR o).length<=(gW yy (o.bores.map cv)).length:=Reg.sP _;have h6:(iL o).length=(cq o.mats o.stack (aR o)).length:=rfl;omega
 obtain⟨R,W⟩:=pd u;have N:=(db yy B1 (o.bores.map cv)).1.length_eq;rw[aw]at N;have Y:(aR o).length<=(gW yy (o.bores.map cv)).length:=Reg.sP _;obtain⟨k,_,hk⟩:=rX.1 V;split at hk
 ·rename_i b _;split at hk
  ·cases hk
  injection hk with hk;subst hk;have q1:=xa (aR o) b (aR o).length;have q2:=rN o b o.bores.length;have q3:=nu o b _ (aF _);have q4:=A6 t (cO o b o.bores.length) near t.length;have q5:=U.1;refine⟨by show (dD _ _ _).length<=_;omega,by show (kM _ _ _ _).length<=_;omega,fun j I=>?_,?_⟩
  ·have I:j∈kM t (cO o b o.bores.length) near t.length:=I;unfold kM at I;obtain⟨p,_,hp⟩:=rX.1 I;split at hp
   ·split at hp
    ·cases hp
    injection hp with hp;subst hp;have:=vS t (cO o b o.bores.length) near (cO o b o.bores.length).length p;show (sV _ _ _ _ _).length<=_;omega
   cases hp
  show (bZ (yb o t near b)).length<=_;rw[bZ,aw,yb,kg,aw];have:(ko t (cO o b o.bores.length) near (cO o b o.bores.length).length).length<=(cO o b o.bores.length).length:=Reg.np _ _ _;omega
 cases hk
theorem EY(o:Order)(d:jn o)(t:List gG)(u:oG t)(near:Int):af C 3 [.pv (.ag (oF o)),.pv (.sl (t.map ef)),.pv (i64 near)] (.p (bool true)) []:=by
 have z:=Be o t near d u;have I:=Bg o t near d u;obtain⟨D,s,f,e,J,N⟩:=IE o t near d u;rw[e]at z I;refine fW hC Tryz.func3 rfl (by kernel_rfl) fun _=>?_;refine⟨_,_,z,_,_,I,iW ?_ ?_⟩<;>intro O
 ·apply iW<;>intro R
  ·refine⟨_,_,(um D J N),_,_,GS,?_,trivial⟩;rfl
  exact absurd rfl R
 exact absurd rfl O
end M
end Go.Proofs.YtnpkopkpbgflnaaGreatDoor
