/- Part 13 of the proof of RulesHolesMatchSpec. -/
import Derived.Test.YtfloceomobknoaaGreatDoorH12
set_option linter.unusedVariables false
set_option linter.unusedSimpArgs false
set_option maxRecDepth 100000
set_option maxHeartbeats 8000000
namespace Go
abbrev adk:=@List.any_eq_false
end Go
namespace Go.Proofs.YtfloceomobknoaaGreatDoor
namespace M
open Go.AM Go.RowKit Go.Lib
open Reg (ae Full RK an bE cv aS fo fS Piece told aB bN uo nM a_ coreS ff dy dD en fT at' aa bO through gT eJ)
theorem Jn{s:List an}(hs:bE s)(ks:cv 1000000 s){n:Int}(h0:0<=n):bE (coreS s n n n n)/\cv 1000000 (coreS s n n n n):=by
 have hc:=Reg.pe hs (l:=n) (r:=n) (d:=n) (u:=n) h0 h0 h0 h0;exact⟨hc.1,Dd hc.1 hs ks fun x y hx=>(hc.2.1 x y).1 hx x y (by omega) (by omega) (by omega) (by omega)⟩
theorem xc(s:List an)(hs:bE s)(ks:cv 1000000 s)(hn:(told s).length<=1000000)(n:Int)(h0:0<=n)(h1:n<=100000):af C 53 [.pv (aj (told s)),.pv (i64 n)] (.p (aj (told (coreS s n n n n)))) []:=by
 have lm:=ai (told s) rc;have e:=Reg.FE hs h0;rw[<-e];refine fW hC Tryz.func53 rfl (by kernel_rfl) fun _=>?_;refine iW ?_ ?_<;>intro g
 ·refine⟨?_,trivial⟩;rw[Reg.xT,aap (by omega)];rfl
 have b8:told s≠[]:=fun c=>g (by rw[c];rfl);have ZO:s≠[]:=fun c=>b8 (by rw[c];rfl);obtain⟨b1,b2,b3⟩:=Reg.pG hs ZO;have bk:=b3 _ ks;have wf:=Reg.l6 b1 h0;have wk:RK 1100000 (ff (dy (told s)) n):=by
  unfold RK at bk ⊢;simp only[ff];omega
 obtain⟨w1,_⟩:=Reg.gz wf;have w3:cv 1100000 (aB [ff (dy (told s)) n]):=(Reg.aR (l:=[ff (dy (told s)) n]) (fun q hq=>by rw[ab_.1 hq];exact wf)).2.2 _ fun q hq=>by rw[ab_.1 hq];exact wk
 have ZP:=Reg.qS wf;obtain⟨l1,_,l3⟩:=Reg.b6 w1 hs;have lk:=l3 _ w3 (ks.up (by omega));have ll:=Reg.vQ (K:=1100000) l1 lk;have FU:=mL w1 hs (w3.up (by omega)) (ks.up (by omega)) (by rw[ZP,abS];omega);rw[ZP]at FU;have S9:=HQ _ l1 (lk.up (by omega)) n h0 h1;obtain⟨s1,_,s3⟩:=Reg.bW l1 h0 h0 h0 h0;have sk:=s3 _ _ lk h1 h1 h1 h1;have sl:=Reg.vQ (K:=1200000) s1 sk;have S_:=mL hs s1 (ks.up (by omega)) (sk.up (by omega)) (by omega);refine⟨_,_,(Dv (told s) b8 (by omega)),?_⟩;refine⟨_,_,(vS (dy (told s)) n (sW (by unfold RK at bk ⊢;omega) b1) h0 (by omega)),?_⟩;refine⟨_,_,FU,?_⟩;refine⟨_,_,S9,?_⟩;refine⟨_,_,S_,?_⟩;refine⟨?_,trivial⟩;rw[Reg.xT,aaa (fun c=>b8 (aef.1 c)),Reg.wZ hs ZO h0];have e2:Reg.bR ((told (bN (aB [ff (dy (told s)) n]) s)).map fun q=>ff q n)=told (a_ (bN (aB [ff (dy (told s)) n]) s) n n n n):=rfl;rw[e2,Reg.FC hs s1]
theorem Dz(o p:List an)(ho:bE o)(ko:cv 1000000 o)(no:(told o).length<=1000000)(hp:bE p)(kp:cv 1000000 p)(np:(told p).length<=1000000)(cx:Int)(h0:0<=cx)(h1:cx<=100000):af C 55 [.pv (aj (told o)),.pv (aj (told p)),.pv (i64 cx)] (.p (i64 (dL (fun n=>decide (bN p (coreS o n n n n)=[])) cx))) []:=by
 obtain⟨H,hH⟩:∃H:Int->Bool,H=fun n=>decide (bN p (coreS o n n n n)=[]):=⟨_,rfl⟩;rw[<-hH];refine fW hC Tryz.func55 rfl (by kernel_rfl) fun _=>?_;refine aJ (fun x:Nat×Int×Int=>gn H x.1 x.2.1 x.2.2=dL H cx/\(x.2.2-x.2.1).toNat<=x.1/\-1<=x.2.1/\x.2.1<=x.2.2/\x.2.2<=cx) (fun x=>[(0,.p (aj (told o))),(1,.p (aj (told p))),(7,.p (i64 x.2.1)),(8,.p (i64 x.2.2))]) (fun _=>[]) (fun x=>x.1) ((cx+1).toNat,-1,cx) _ (au.refl _ _) ⟨rfl,by simp only;omega,by simp only;omega,by simp only;omega,by simp only;omega⟩ ⟨Z,Z,Z,Z,Y⟩ trivial fun ⟨n,low,high⟩ hx t h=>?_;obtain⟨x1,x2,x3,x4,x5⟩:=hx;simp only at x1 x2 x3 x4 x5;refine iW ?_ ?_<;>intro g<;>try simp only[zB]at g
 ·have hf:=pA (d:=high-low) (by omega);have hm:=NQ x3 g;rw[nB H g x2,<-hm]at x1;obtain⟨m,hme⟩:∃m,m=(low+high+1).tdiv 2:=⟨_,rfl⟩;have m0:0<=m:=by omega
  have m1:m<=100000:=by omega
  obtain⟨c1,c2⟩:=Jn ho ko m0;have cl:=Reg.vQ (K:=1000000) c1 c2;have hsh:=xc o ho ko no m m0 m1;have hle:=mL hp c1 (kp.up (by omega)) (c2.up (by omega)) (by omega);have lz:=told_none (Reg.b6 hp c1).1;have lmz:=ai (told (bN p (coreS o m m m m))) rc;have hk:H m=decide (bN p (coreS o m m m m)=[]):=by rw[hH]
  rw[hme]at hsh hle lz lmz hk;refine⟨⟨by (try dsimp only);omega,by (try dsimp only);omega⟩,?_⟩;refine⟨⟨by (try dsimp only);omega,by (try dsimp only);omega⟩,?_⟩;refine⟨by decide,?_⟩;refine⟨⟨by (try dsimp only);omega,by (try dsimp only);omega⟩,?_⟩;refine⟨_,_,hsh,?_⟩;refine⟨_,_,hle,?_⟩;refine iW ?_ ?_<;>intro k
  ·rw[aap (by rw[hk];exact acd (lz.1 (by omega)))]at x1;exact⟨(n-1,(low+high+1).tdiv 2,high),_,au.refl _ _,⟨x1,by simp only;omega,by simp only;omega,by simp only;omega,by simp only;omega⟩,by simp only;omega,⟨Z,Z,Z,Z,Y⟩,trivial⟩
  rw[aaa (by rw[hk];simpa using fun c=>k (by have:=lz.2 c;omega))]at x1;refine⟨⟨by (try dsimp only);omega,by (try dsimp only);omega⟩,?_⟩;exact⟨(n-1,low,(low+high+1).tdiv 2-1),_,au.refl _ _,⟨x1,by simp only;omega,by simp only;omega,by simp only;omega,by simp only;omega⟩,by simp only;omega,⟨Z,Z,Z,Z,Y⟩,trivial⟩
 rw[pB H g]at x1;refine⟨?_,trivial⟩;rw[x1]
theorem pK(l:List Break):af C 51 [.pv (.sl (l.map nQ))] (.tu [.sl ((mI l).1.map nQ),i64 (mI l).2]) []:=by
 have ll:=ai l nQ;refine fW hC Tryz.func51 rfl (by kernel_rfl) fun _=>?_;refine iW ?_ ?_<;>intro g
 ·rw[ll]at g;rw[mI,aap (by omega)];refine⟨?_,trivial⟩;rfl
 rw[ll]at g;rw[mI,aaa (by omega)];refine⟨?_,trivial⟩;rfl
open Reg (aU)
open Reg (cJ)
theorem Jo{n:Int}{b:aS}(h:Reg.qF n b):bE (aB [aa b])/\cv 1000000 (aB [aa b])/\Full (aa b)/\told (aB [aa b])=[aa b]:=by
 have f:=Reg.bX (ky h);have hg:=h.ok;simp only[cJ,aaZ,Reg.c7,Reg.kR,aaH]at hg;have f':=f;obtain⟨f1,f2⟩:=f';refine⟨(Reg.gz f).1,(Reg.aR (l:=[aa b]) (fun q hq=>by rw[ab_.1 hq];exact f)).2.2 _ fun q hq=>?_,f,Reg.qS f⟩;rw[ab_.1 hq];unfold RK;omega
variable {bs:List aS}
theorem N2{i:Nat}{layer:Int}{j:Nat}{y:aS}(h:bs[j]?=some y)(S:List an):dM bs i layer j (bs.drop j) S=dM bs i layer (j+1) (bs.drop (j+1)) (if j≠i/\through y layer=true then uo S (aB [aa y]) else S):=by
 rw[drop_at h,dM]
def DA:Break:=⟨0,0,0,0,0,(0,0)⟩
def P3:List Break->Break×Bool
 | []=>(DA,false)
 | b::_=>(b,true)
theorem K4(r:cP)(hg:zd r)(a:fS)(ha:iD a)(i:Nat)(b:aS)(hb:a.bores[i]?=some b)(k:Nat)(c:List ae)(hc:a.coppers[k]?=some c):af C 50 [.pv (.ag (rl r)),.pv (.ag (dX a)),.pv (i64 i),.pv (i64 k)] (.tu [.ag (nQ (P3 (lS r.ring a.bores a.coppers i b k)).1),bool (P3 (lS r.ring a.bores a.coppers i b k)).2]) []:=by
 have lb:=ai a.bores bc;have jB:=ha.jB;have HY:=hg.nums;simp only[gM,cL,aaZ,aaH]at HY;have gb:=ha.bor b (aad hb);have uW:=ky gb;obtain⟨q1,q2,qf,qt⟩:=Jo gb;have rg:=ph (ha.reg c (aad hc));have ct:=nF (ha.reg c (aad hc));have ZR:a.coppers.getD (k:Int).toNat []=c:=by rw[ad2,ad4,hc];rfl
 have N3:=Reg.FI rg.full qf;have K5:jZ (aa b):=sW (by
  have:=Reg.er uW;unfold RK at this ⊢;omega) qf
 have Yt:∀p∈c,jZ p:=fun p hp=>sW (by
  have:=rg.rk p hp;unfold RK at this ⊢;omega) (rg.full p hp)
 obtain⟨G,hG⟩:∃G,G=lS r.ring a.bores a.coppers i b k:=⟨_,rfl⟩;rw[<-hG];rw[lS,ZR,qP,fF,ZR]at hG;refine fW hC Tryz.func50 rfl (by kernel_rfl) fun _=>?_;refine⟨(bc b),(idx rfl hb),?_⟩;refine⟨_,_,(di b uW),?_⟩;refine⟨[aj c],(idx rfl hc),?_⟩;refine⟨_,_,(FK c (aa b) Yt K5 (by have:=rg.len;omega)),?_⟩;refine iW ?_ ?_<;>intro g1
 ·rw[aap (acz fun e=>by have:=N3.2 e;rw[g1]at this;cases this)]at hG;rw[hG];exact And.intro rfl trivial
 have g1:(c.any fun p=>en p (aa b))=true:=by simpa using g1
 rw[aaa (N3.1 g1)]at hG;refine⟨[aj c],(idx rfl hc),?_⟩;refine aJ (fun x:Nat×List an=>dM a.bores i k x.1 (a.bores.drop x.1) x.2=dM a.bores i k 0 a.bores (aB c)/\bE x.2/\cv 1000000 x.2) (fun x=>[(2,.p (i64 i)),(3,.p (i64 k)),(4,.bx 4 0),(5,.bx 5 0),(8,.bx 8 0),(10,.bx 10 0),(11,.p (aj (told x.2))),(12,.p (i64 x.1))]) (fun _=>[(4,.box (C_ r)),(5,.box ((dX a).map .p)),(8,.box ((nQ DA).map .p)),(10,.box ((rc (aa b)).map .p))]) (fun x=>a.bores.length-x.1) (0,aB c) _ (au.refl _ _) ⟨rfl,rg.sok,rg.ink⟩ ⟨rfl,rfl,rfl,rfl,rfl,rfl,by rw[ct];rfl,Z,Y⟩ ⟨Z,Z,Z,Z,Y⟩ fun ⟨j,S⟩ hx t h=>?_;obtain⟨x1,x2,x3⟩:=hx;simp only at x1 x2 x3;refine iW ?_ ?_<;>intro g2<;>try simp only[zB]at g2
 ·obtain⟨y,hy⟩:=ak (l:=a.bores) (i:=j) (by omega);have gy:=ha.bor y (aad hy);obtain⟨y1,y2,yf,yt⟩:=Jo gy;rw[N2 hy]at x1;have skip:¬(j≠i/\through y k=true)->dM a.bores i k (j+1) (a.bores.drop (j+1)) S=dM a.bores i k 0 a.bores (aB c):=fun e=>by rw[aaa e]at x1;exact x1
  refine iW ?_ ?_<;>intro g3<;>try simp only[zB]at g3
  ·refine⟨(bc y),(idx rfl hy),?_⟩;refine iW ?_ ?_<;>intro g4
   ·refine⟨(bc y),(idx rfl hy),?_⟩;refine iW ?_ ?_<;>intro g5
    ·rw[aap ⟨by omega,by simp only[through];rw[acd g4,acd g5];rfl⟩]at x1;obtain⟨o1,_,o3⟩:=Reg.kH x2 y1;have sl:=Reg.vQ (K:=1000000) x2 x3;have Wt:=S6 x2 y1 (x3.up (by omega)) (y2.up (by omega)) (by rw[yt,abS];omega);rw[yt]at Wt;refine⟨(bc y),(idx rfl hy),?_⟩;refine⟨_,_,(di y (ky gy)),?_⟩;refine⟨_,_,Wt,?_⟩;refine⟨⟨by omega,by omega⟩,?_⟩;exact⟨(j+1,uo S (aB [aa y])),_,au.refl _ _,⟨x1,o1,o3 _ x3 y2⟩,by simp only;omega,⟨Z,Z,Z,Z,Z,Z,Z,Z,Y⟩,⟨Z,Z,Z,Z,Y⟩⟩
    have x1:=skip (fun e=>g5 (by have:=e.2;simp only[through,aaZ,aaH]at this;exact this.2));refine⟨⟨by omega,by omega⟩,?_⟩;exact⟨(j+1,S),_,au.refl _ _,⟨x1,x2,x3⟩,by simp only;omega,⟨Z,Z,Z,Z,Z,Z,Z,Z,Y⟩,⟨Z,Z,Z,Z,Y⟩⟩
   have x1:=skip (fun e=>g4 (by have:=e.2;simp only[through,aaZ,aaH]at this;exact this.1));refine⟨⟨by omega,by omega⟩,?_⟩;exact⟨(j+1,S),_,au.refl _ _,⟨x1,x2,x3⟩,by simp only;omega,⟨Z,Z,Z,Z,Z,Z,Z,Z,Y⟩,⟨Z,Z,Z,Z,Y⟩⟩
  have x1:=skip (fun e=>by omega);refine⟨⟨by omega,by omega⟩,?_⟩;exact⟨(j+1,S),_,au.refl _ _,⟨x1,x2,x3⟩,by simp only;omega,⟨Z,Z,Z,Z,Z,Z,Z,Z,Y⟩,⟨Z,Z,Z,Z,Y⟩⟩
 rw[ab1 (by omega),dM]at x1;rw[<-x1]at hG;have g0:0<=r.ring:=by omega
 have wf:=Reg.l6 qf g0;have wo:=NP qf g0;have wt:=Reg.qS wf;obtain⟨s1,s2,s3⟩:=Reg.bW q1 g0 g0 g0 g0;have sk:cv 1100000 (a_ (aB [aa b]) r.ring r.ring r.ring r.ring):=s3 1000000 100000 q2 (by omega) (by omega) (by omega) (by omega);obtain⟨l1,_,l3⟩:=Reg.b6 s1 q1;have lk:=l3 _ sk (q2.up (by omega));obtain⟨f1,f2⟩:=Reg.pH qf x2 g0;obtain⟨_,_,f3⟩:=Reg.b6 l1 x2;have fk:=f3 _ lk (x3.up (by omega));have N4:=mL s1 q1 (sk.up (by omega)) (q2.up (by omega)) (by rw[qt,<-wo,wt];simp);rw[qt,<-wo,wt]at N4;have sl:=Reg.vQ (K:=1000000) x2 x3;have small:(told (bN (aB [ff (aa b) r.ring]) (aB [aa b]))).length<=16:=by
  have:=Reg.BP (a:=[ff (aa b) r.ring]) (b:=[aa b]) (fun q hq=>by rw[ab_.1 hq];exact wf) (fun q hq=>by rw[ab_.1 hq];exact qf);simpa using this
 rw[wo]at small N4;have N5:=mL l1 x2 (lk.up (by omega)) (x3.up (by omega)) (by omega);have ez:jr (aB [aa b]) S r.ring=eJ (aa b) S r.ring:=rfl;rw[ez]at hG;have N5:af C 54 [.pv (aj (told (bN (a_ (aB [aa b]) r.ring r.ring r.ring r.ring) (aB [aa b])))),.pv (aj (told S))] (.p (aj (told (eJ (aa b) S r.ring)))) []:=N5;have fk:cv 1100000 (eJ (aa b) S r.ring):=fk;have Oq:=FJ qf x2 g0;have ZE:eJ (aa b) S r.ring≠[]->1<=gT (told (eJ (aa b) S r.ring)) (aa b)/\gT (told (eJ (aa b) S r.ring)) (aa b)<=r.ring:=fun hn=>⟨(Reg.afz qf x2 g0 hn).1,(Reg.afz qf x2 g0 hn).2.1⟩;have heq:(fun n:Int=>decide (n<0)||decide (jr (aB [aa b]) S n=[]))=fun n=>decide (n<0)||decide (eJ (aa b) S n=[]):=rfl;rw[heq]at hG;generalize dL (fun n=>decide (n<0)||decide (eJ (aa b) S n=[])) r.ring=gr at *;generalize eJ (aa b) S r.ring=M at *;have lz:=told_none f1;have lM:=ai (told M) rc;have lMs:=Reg.fj f1 (fk.up (by omega));have VL:∀p∈told M,jZ p:=fun p hp=>sW (by
  have:=Reg.fR f1 fk p hp;unfold RK at this ⊢;omega) (Reg.bP f1 p hp)
 refine⟨_,_,(vS (aa b) r.ring K5 g0 (by omega)),?_⟩;refine⟨_,_,N4,?_⟩;refine⟨_,_,N5,?_⟩;refine iW ?_ ?_<;>intro g6
 ·rw[aap (lz.1 (by omega))]at hG;rw[hG];exact And.intro rfl trivial
 have b8:M≠[]:=fun e=>g6 (by have:=lz.2 e;omega);rw[aaa b8]at hG;obtain⟨m0,mt,em,Ta⟩:=zT f1 b8;have h0:(told M)[0]?=some m0:=by rw[em];rfl
 have ehd:dD (told M)=m0:=by rw[dD,em];rfl
 have IM:(told M).foldl (fun n z=>min n (fT z (aa b))) (fT m0 (aa b))=gT (told M) (aa b):=by rw[gT,ehd]
 have Oq:=Oq b8;refine⟨(rc m0),(idx (i:=0) rfl h0),?_⟩;refine⟨_,_,(vT m0 (aa b) (VL m0 (aad h0)) K5),?_⟩;refine aJ (fun y:Nat×Int=>((told M).drop y.1).foldl (fun n z=>min n (fT z (aa b))) y.2=gT (told M) (aa b)) (fun y=>[(2,.p (i64 i)),(3,.p (i64 k)),(4,.bx 4 0),(8,.bx 8 0),(10,.bx 10 0),(13,.p (aj (told M))),(14,.p (i64 y.2)),(15,.p (i64 y.1))]) (fun _=>[(4,.box (C_ r)),(8,.box ((nQ DA).map .p)),(10,.box ((rc (aa b)).map .p))]) (fun y=>(told M).length-y.1) (0,fT m0 (aa b)) _ (au.refl _ _) IM ⟨Z,Z,Z,Z,Z,Z,Z,Z,Y⟩ ⟨Z,Z,Z,Y⟩ fun ⟨j,v⟩ hy t h=>?_;simp only at hy;refine iW ?_ ?_<;>intro g7<;>try simp only[zB]at g7
 ·obtain⟨z,hz⟩:=ak (l:=told M) (i:=j) (by omega);rw[drop_at hz,aaq]at hy;refine⟨(rc z),(idx rfl hz),?_⟩;refine⟨_,_,(vT z (aa b) (VL z (aad hz)) K5),?_⟩;refine⟨⟨by omega,by omega⟩,?_⟩;exact⟨(j+1,min v (fT z (aa b))),_,au.refl _ _,hy,by simp only;omega,⟨Z,Z,Z,Z,Z,Z,Z,Z,Y⟩,⟨Z,Z,Z,Y⟩⟩
 rw[ab1 (by omega)]at hy;have hy:v=gT (told M) (aa b):=hy;have JC:-9000000000000000000<=v/\v<=9000000000000000000:=by
  obtain⟨e1,e2⟩:=ZE b8;omega
 refine⟨⟨by omega,by omega⟩,?_⟩;refine⟨_,_,(uK (told M) m0 h0),?_⟩;rw[hG];refine⟨?_,trivial⟩;have e1:v-1=gr:=by rw[hy];exact Oq
 rw[e1];show _=[PV.ag (nQ ⟨3,i,k,gr,r.ring,jq M⟩),bool true];rw[<-Ta];rfl
open Reg (cV bq bU gO bG qL eG eO aeH da I7 lU bT db sa)
theorem K6{i:Nat}(hi:i<bs.length)(h:aeH bs i=true):da bs 0=true:=by
 rw[da,aci];exact⟨i,by rw[List.mem_range'_1];omega,h⟩
theorem N6(h:∀i,i<bs.length->aeH bs i=false):da bs 0=false:=by
 rw[da,adk];intro i hi;rw[List.mem_range'_1]at hi;rw[h i (by omega)];decide
theorem P5{i k:Nat}{x y:aS}(hx:bs[i]?=some x)(hk:k<i)(hy:bs[k]?=some y)(h:eO x y=true):aeH bs i=true:=by
 rw[aeH,aci];refine⟨y,aad (i:=k) (by rw[aa7,aap hk,hy]),?_⟩;rw[ad4,hx];exact h
theorem Tb{i:Nat}{x:aS}(hx:bs[i]?=some x)(h:∀k y,k<i->bs[k]?=some y->eO x y=false):aeH bs i=false:=by
 rw[aeH,adk];intro y hy;obtain⟨k,hk⟩:=ab8.1 hy;rw[aa7]at hk;split at hk
 ·rw[ad4,hx];have:=h k y (by assumption) hk;simp[this]
 cases hk
theorem HZ(a:fS):dc a=if fv a≠0 then fv a else if da a.bores 0=true then 12 else if eG a=true then 0 else 2:=by
 unfold dc fv;by_cases g1:a.coppers.length=0
 ·rw[aap g1,aap g1,aap (by decide)]
 rw[aaa g1,aaa g1];by_cases g2:16<a.coppers.length
 ·rw[aap g2,aap g2,aap (by decide)]
 rw[aaa g2,aaa g2];by_cases g3:db a.coppers≠0
 ·rw[aap g3,aap g3,aap g3]
 rw[aaa g3,aaa g3];by_cases g4:Reg.aF a.outline≠0
 ·rw[aap g4,aap g4,aap g4]
 rw[aaa g4,aaa g4];by_cases g5:2000<sa a.outline.length a.coppers
 ·rw[aap g5,aap g5,aap (by decide)]
 rw[aaa g5,aaa g5];by_cases g6:bT a≠0
 ·rw[aap g6,aap g6,aap g6]
 rw[aaa g6,aaa g6]
theorem K7{a:fS}(h:fv a=0):a.coppers.length<=16/\(∀r∈a.coppers,Reg.aF r=0)/\B5 a.bores:=by
 unfold fv at h;split at h
 ·cases h
 split at h
 ·cases h
 rename_i g2;split at h
 ·rename_i g;exact absurd h g
 rename_i g3;split at h
 ·rename_i g;exact absurd h g
 split at h
 ·cases h
 split at h
 ·rename_i g;exact absurd h g
 rename_i g6;have g6:bT a=0:=by simpa using g6
 refine⟨by omega,Reg.jo (by simpa using g3),?_⟩;rw[bT]at g6;split at g6
 ·cases g6
 exact⟨by omega,fun b hb=>ky (Reg.sM g6 b hb)⟩
theorem AW(a:fS)(ho:ly a):af C 41 [.pv (.ag (dX a))] (.p (i64 (dc a))) []:=by
 have lk:=ai a.coppers fun r=>[aj r];have lb:=ai a.bores bc;obtain⟨F,hF⟩:∃F,F=dc a:=⟨_,rfl⟩;rw[<-hF];rw[HZ]at hF;have UQ:=xw a ho;refine fW hC Tryz.func41 rfl (by kernel_rfl) fun _=>?_;refine⟨_,_,UQ,?_⟩;refine iW ?_ ?_<;>intro g0
 ·have g0:fv a≠0:=by simpa using g0
  rw[aap g0]at hF;refine⟨?_,trivial⟩;rw[hF]
 have g0:fv a=0:=by simpa using g0
 rw[aaa (by simpa using g0)]at hF;obtain⟨KH,HA,ok⟩:=K7 g0;have jB:=ok.jB;refine aJ (fun i:Nat=>i<=a.bores.length/\∀j,j<i->aeH a.bores j=false) (fun i=>[(1,.bx 1 0),(4,.p (i64 i))]) (fun _=>[(1,.box ((dX a).map .p))]) (fun i=>a.bores.length-i) 0 _ (au.refl _ _) ⟨aaj _,by omega⟩ ⟨Z,Z,Y⟩ ⟨Z,Y⟩ fun i hi t h=>?_;obtain⟨i1,i2⟩:=hi;refine iW ?_ ?_<;>intro g1
 ·have h1:i<a.bores.length:=by omega
  obtain⟨x,hx⟩:=ak h1;have xo:=ok.ok x (aad hx);refine aJ (fun k:Nat=>k<=i/\∀j y,j<k->a.bores[j]?=some y->eO x y=false) (fun k=>[(1,.bx 1 0),(4,.p (i64 i)),(5,.p (i64 k))]) (fun _=>[(1,.box ((dX a).map .p))]) (fun k=>i-k) 0 _ (au.refl _ _) ⟨aaj _,by omega⟩ ⟨Z,Z,Z,Y⟩ ⟨Z,Y⟩ fun k hk t h=>?_;obtain⟨k1,k2⟩:=hk;refine iW ?_ ?_<;>intro g2
  ·have h2:k<i:=by omega
   obtain⟨y,hy⟩:=ak (l:=a.bores) (i:=k) (by omega);have yo:=ok.ok y (aad hy);have ce:=NV xo yo;have more:eO x y=false->∀j z,j<k+1->a.bores[j]?=some z->eO x z=false:=fun c j z hj hz=>by
    by_cases e:j=k
    ·subst e;rw[hy]at hz;injection hz with hz;rw[<-hz];exact c
    exact k2 j z (by omega) hz
   refine⟨(bc x),(idx rfl hx),?_⟩;refine⟨(bc y),(idx rfl hy),?_⟩;refine⟨_,_,(FQ x y),?_⟩;refine iW ?_ ?_<;>intro g3
   ·refine⟨(bc x),(idx rfl hx),?_⟩;refine⟨_,_,(di x xo),?_⟩;refine⟨(bc y),(idx rfl hy),?_⟩;refine⟨_,_,(di y yo),?_⟩;refine⟨_,_,(Dy (aa x) (aa y)),?_⟩;refine iW ?_ ?_<;>intro g4
    ·rw[aap (K6 h1 (P5 hx h2 hy (by rw[<-ce,g3,g4];rfl)))]at hF;refine⟨?_,trivial⟩;rw[hF];rfl
    have m:=more (by rw[<-ce,g3,g4];rfl);refine⟨⟨by omega,by omega⟩,?_⟩;exact⟨(k+1),_,au.refl _ _,⟨by omega,m⟩,by omega,⟨Z,Z,Z,Y⟩,⟨Z,Y⟩⟩
   have m:=more (by rw[<-ce,g3];rfl);refine⟨⟨by omega,by omega⟩,?_⟩;exact⟨(k+1),_,au.refl _ _,⟨by omega,m⟩,by omega,⟨Z,Z,Z,Y⟩,⟨Z,Y⟩⟩
  have rn:=Tb hx fun j y hj hy=>k2 j y (by omega) hy;refine⟨⟨by omega,by omega⟩,?_⟩;exact⟨(i+1),_,au.refl _ _,⟨by omega,fun j hj=>by by_cases e:j=i;exact e▸rn;exact i2 j (by omega)⟩,by omega,⟨Z,Z,Y⟩,⟨Z,Y⟩⟩
 rw[aaa (by rw[N6 fun j hj=>i2 j (by omega)];decide)]at hF;refine aJ (fun x:Nat×Nat=>qL a.bores x.1 (a.coppers.drop x.1)=qL a.bores 0 a.coppers/\x.2+(bG a.bores x.1 (a.coppers.drop x.1)).length=(bG a.bores 0 a.coppers).length/\x.2<=2000*x.1/\x.1<=a.coppers.length) (fun x=>[(1,.bx 1 0),(6,.p (i64 x.2)),(7,.p (i64 x.1))]) (fun _=>[(1,.box ((dX a).map .p))]) (fun x=>a.coppers.length-x.1) (0,0) _ (au.refl _ _) ⟨rfl,by simp,aam _,aaj _⟩ ⟨Z,Z,Z,Y⟩ ⟨Z,Y⟩ fun ⟨i',n⟩ hx t h=>?_;obtain⟨x1,x2,x3,x4⟩:=hx;simp only at x1 x2 x3 x4;refine iW ?_ ?_<;>intro g5<;>try simp only[zB]at g5
 ·obtain⟨r,hr⟩:=ak (l:=a.coppers) (i:=i') (by omega);have TC:=HA r (aad hr);have dr:=jV ok.ok jB i' TC;rw[drop_at hr,qL]at x1;rw[drop_at hr,bG,acv,aej]at x2;have O1:=qX a ok i' r hr TC;have qg:=uQ (told (bU a.bores i' r));have Yi:=Reg.uG dr.sok;have YW:=Reg.BQ (bU a.bores i' r);have ld:=ai (told (bU a.bores i' r)) rc;refine⟨_,_,O1,?_⟩;refine iW ?_ ?_<;>intro g6
  ·rw[aaz (by omega),adJ]at x1;have hd:eG a=false:=by unfold eG;rw[<-x1];rfl
   rw[aaa (by rw[hd];decide)]at hF;refine⟨?_,trivial⟩;rw[hF];rfl
  have Ue:(told (bU a.bores i' r)).length<=2000:=by omega
  rw[acd Ue,adr]at x1;have TD:=qg ⟨Ue,Reg.bP dr.sok,fun q hq=>by
   have:=Reg.fR dr.sok dr.ink q hq;unfold RK at this ⊢;omega⟩
  have lq:(((cV (bU a.bores i' r)).map told).map fun r=>[aj r]).length=(cV (bU a.bores i' r)).length:=by rw[aej,aej]
  rw[Yi]at TD;refine⟨_,_,TD,?_⟩;refine⟨⟨by omega,by omega⟩,?_⟩;refine⟨⟨by omega,by omega⟩,?_⟩;exact⟨(i'+1,n+(cV (bU a.bores i' r)).length),_,au.refl _ _,⟨x1,by simp only;rw[show (((i'+1:Nat):Int))=(i':Int)+1 by omega];omega,by simp only;omega,by simp only;omega⟩,by simp only;omega,⟨rfl,adV (fun m:Nat=>AV.p (i64 (n+m))) lq,Z,Y⟩,⟨Z,Y⟩⟩
 rw[ab1 (by omega)]at x1 x2;have x1:qL a.bores 0 a.coppers=true:=x1.symm;have x2:n=(bG a.bores 0 a.coppers).length:=by have:(bG a.bores i' []).length=0:=rfl;omega
 have hd:eG a=decide (n<=2000):=by unfold eG;rw[x1,adr,<-x2]
 rw[hd]at hF;refine iW ?_ ?_<;>intro g6<;>try simp only[zB]at g6
 ·rw[aaa (by simp;omega)]at hF;refine⟨?_,trivial⟩;rw[hF];rfl
 rw[aap (by simp;omega)]at hF;refine⟨?_,trivial⟩;rw[hF];rfl
end M
namespace Reg
variable {D0:List Bool} {s:sY}
theorem FV{T:List (List Int)}{n:Nat}(h:jc T n D0 s){j:Nat}(hj:j<T.length):jc T n D0 ⟨s.seen,s.pieces,oB s.bores j,s.used.set j true,s.todo⟩:=by
 obtain⟨b1,b2⟩:=sX h.br (j:Int);have gu:∀i,(s.used.set j true).getD i true=true↔i=j\/s.used.getD i true=true:=fun i=>by
  rw[jx (by rw[h.ulen];exact hj)];by_cases e:i=j<;>simp[e]
 exact⟨h.len,by show (s.used.set j true).length=_;rw[aaM,h.ulen],h.nod,h.mem,h.done,h.pr,h.pm,b1,fun y=>by
  show y∈oB s.bores j↔∃i:Nat,y=i/\i<T.length/\(s.used.set j true).getD i true=true;rw[b2,h.bm];constructor
  ·rintro (⟨i,e,i1,i2⟩ | e)
   ·exact⟨i,e,i1,(gu i).2 (.inr i2)⟩
   exact⟨j,e,hj,(gu j).2 (.inl rfl)⟩
  rintro⟨i,e,i1,i2⟩;rcases (gu i).1 i2 with e2 | e2
  ·exact .inr (by rw[e,e2])
  exact .inl ⟨i,e,i1,e2⟩⟩
theorem N7{T:List (List Int)}{n:Nat}(hT:∀j,∀p∈T.getD j [],0<=p/\p<n)(h:jc T n D0 s){x:Int}{j:Nat}(hj:j<T.length):jc T n D0 (nO T x s j)/\iZ s (nO T x s j):=by
 rw[nO];split
 ·exact⟨h,iZ.refl s⟩
 have g:=FV h hj;obtain⟨a1,a2,_,_⟩:=zV (T.getD j []) _ g (hT j);refine⟨a1,iZ.trans ⟨⟨[],by simp⟩,fun i hi=>?_⟩ a2⟩;show (s.used.set j true).getD i true=true;rw[jx (by rw[h.ulen];exact hj)];split
 ·rfl
 exact hi
theorem B6{T:List (List Int)}{n:Nat}(hT:∀j,∀p∈T.getD j [],0<=p/\p<n){x:Int}:∀(l:List Nat) (s:sY),(∀j∈l,j<T.length)->jc T n D0 s->jc T n D0 (l.foldl (nO T x) s)
 | [],s,_,h=>h
 | j::l,s,hl,h=>B6 hT l _ (fun i hi=>hl i (aaw _ hi)) (N7 hT h (hl j adU)).1
theorem FW{T:List (List Int)}{n:Nat}(hT:∀j,∀p∈T.getD j [],0<=p/\p<n):∀(f i:Nat) (s:sY),jc T n D0 s->jc T n D0 (p_ T f i s)
 | 0,i,s,h=>h
 | f+1,i,s,h=>by
  rw[p_];split
  ·exact FW hT f (i+1) _ (B6 hT _ _ (fun j hj=>abD.1 hj) h)
  exact h
theorem B7{T:List (List Int)}{n:Nat}{i:Nat}(hl:D0.length=n)(hi:i<n)(hd:D0.getD i true=false):jc T n D0 ⟨D0.set i true,[(i:Int)],[],List.replicate T.length false,[(i:Int)]⟩:=
 ⟨by show (D0.set i true).length=n;rw[aaM,hl],aan,by simp,fun p hp=>by
  rw[ab_.1 hp];exact⟨⟨by omega,by omega⟩,by rw[ad2];exact hd⟩,fun p p0 pn=>by
  show (D0.set i true).getD p.toNat true=true↔_\/p∈[(i:Int)];rw[jx (by rw[hl];exact hi),ab_];by_cases e:p.toNat=i
  ·rw[aap e];exact⟨fun _=>.inr (by omega),fun _=>rfl⟩
  ·rw[aaa e];exact⟨.inl,fun g=>g.elim id fun e2=>absurd (by omega) e⟩,abw _ _,fun p=>by simp,List.Pairwise.nil,fun x=>by
  constructor
  ·intro h;cases h
  rintro⟨j,_,hj,h⟩;rw[ad4,ac2,aap hj]at h;cases h⟩
theorem uR{l:List Int}(h:bF l):l.Nodup:=adN (fun h=>by omega) h
theorem jc.jB{T:List (List Int)}{n:Nat}(h:jc T n D0 s):s.todo.length<=n/\s.pieces.length<=n/\s.bores.length<=T.length:=by
 have h1:=h.le;refine⟨h1,?_,?_⟩
 ·exact aaF (abV (uR h.pr) fun p hp=>(h.pm p).1 hp) h1
 have:=abV (uR h.br) (l₂:=(List.range T.length).map fun (j:Nat)=>(j:Int)) fun x hx=>by
  obtain⟨j,e,hj,_⟩:=(h.bm x).1 hx;exact adS.2 ⟨j,abD.2 hj,e.symm⟩
 simpa using this
theorem N8(T:List (List Int))(f i:Nat)(s:sY)(h:¬i<s.todo.length):p_ T f i s=s:=by
 cases f with
 | zero=>rfl
 | succ f=>rw[p_,aaa h]
def gA(T:List (List Int))(n i:Nat):List Bool×List bh:=(List.range i).foldl (j_ T n) (List.replicate n false,[])
theorem uS(T:List (List Int))(n i:Nat):gA T n (i+1)=j_ T n (gA T n i) i:=by simp[gA,adK,aaD]
def P6(g:bh):Prop:=g.pins=[]/\g.pieces.length<=1000000/\g.bores.length<=1000000
theorem se{T:List (List Int)}{n:Nat}(hn:n<=100000)(Yu:T.length<=100000)(hT:∀j,∀p∈T.getD j [],0<=p/\p<n):∀i,i<=n->(gA T n i).1.length=n/\(gA T n i).2.length<=i/\∀g∈(gA T n i).2,P6 g
 | 0,_=>by simp[gA]
 | i+1,hi=>by
  obtain⟨h1,h2,h3⟩:=se hn Yu hT i (by omega);rw[uS,j_];split
  ·exact⟨h1,by omega,h3⟩
  rename_i c;have g:=FW hT n 0 _ (B7 (T:=T) (i:=i) h1 (by omega) (by simpa using c));obtain⟨_,k1,k2⟩:=g.jB;refine⟨g.len,by simp only[acv,abS];omega,fun q hq=>?_⟩;rcases abi.1 hq with hq | hq
  ·exact h3 q hq
  rw[ab_.1 hq];exact⟨rfl,aaF k1 (by omega),aaF k2 (by omega)⟩
end Reg
namespace M
open Go.AM Go.RowKit Go.Lib
open Reg (ae an oB fZ sY jc pI nO p_ eH bh fS)
theorem mM(l:List Int)(n:Int)(hN:l.length<=1000000):af C 207 [.pv (ints l),.pv (i64 n)] (.p (bool (Reg.mS l n))) []:=by
 refine fW hC Tryz.func207 rfl (by kernel_rfl) fun _=>?_;have lm:=ai l fun n=>[i64 n];refine aJ (fun i:Nat=>Reg.mS (l.drop i) n=Reg.mS l n) (fun i=>[(0,.p (ints l)),(1,.p (i64 n)),(5,.p (i64 i))]) (fun _=>[]) (fun i=>l.length-i) 0 _ (au.refl _ _) rfl ⟨Z,Z,Z,Y⟩ trivial fun i hi t h=>?_;refine iW ?_ ?_<;>intro h1
 ·rw[lm]at h1;obtain⟨x,hx⟩:=ak (l:=l) (i:=i) (by omega);rw[drop_at hx]at hi;refine⟨[i64 x],(idx rfl hx),?_⟩;refine iW ?_ ?_<;>intro h2
  ·refine⟨?_,trivial⟩;rw[<-hi,Reg.mS,abd,acd h2];rfl
  refine⟨⟨by omega,by omega⟩,?_⟩;refine⟨(i+1),_,au.refl _ _,?_⟩;refine⟨?_,by omega,⟨Z,Z,Z,Y⟩,trivial⟩;rw[<-hi,Reg.mS,Reg.mS,abd,aaz h2,abv]
 rw[ab1 (by omega)]at hi;refine⟨?_,trivial⟩;rw[<-hi];rfl
theorem xd(l:List Int)(n:Int)(hN:l.length<=1000000):af C 245 [.pv (ints l),.pv (i64 n)] (.p (ints (oB l n))) []:=by
 refine uX ⟨[],[0],[],[],[],[]⟩ hC Tryz.func245 rfl (by kernel_rfl) fun _=>?_;have lm:=ai l fun n=>[i64 n];refine p7 (fun k:Nat=>k<=l.length/\fZ l n l.length=k) (fun k=>[(0,.p (ints l)),(1,.p (i64 n)),(5,.p (i64 k))]) (fun _=>[]) (fun k hk t h=>?_) ?_
 ·obtain⟨k1,k2⟩:=hk;have tail:¬(0<k/\l.getD (k-1) 0=n)->oB l n=(l.take k++[n])++l.drop k:=fun c=>by rw[oB,k2,aaa c]
  refine iW ?_ ?_<;>intro g1
  ·obtain⟨y,hy⟩:=ak (l:=l) (i:=k-1) (by omega);have ey:l.getD (k-1) 0=y:=by rw[ad4,hy];rfl
   refine⟨⟨by omega,by omega⟩,?_⟩;refine⟨[i64 y],(idx (show (k:Int)-1=((k-1:Nat):Int) by omega) hy),?_⟩;refine iW ?_ ?_<;>intro g2
   ·refine⟨?_,trivial⟩;rw[oB,k2,aap ⟨by omega,by rw[ey];exact g2⟩]
   have tail:=tail (fun c=>g2 (by rw[<-ey];exact c.2));refine⟨⟨by decide,by omega,by rw[lm];omega,dt l⟩,?_⟩;refine⟨⟨gJ (dt l),by simp only[aaN,aat,lm];omega,by simp only[aaN,aat,lm];omega⟩,?_⟩;refine⟨⟨by simp,by simp[lm];omega,by simp[lm];omega⟩,?_⟩;refine⟨⟨by omega,by rw[lm];omega,by omega,dt l⟩,?_⟩;refine⟨⟨gJ (dt l),by simp[lm];omega,by simp[lm];omega⟩,?_⟩;refine⟨?_,trivial⟩;rw[tail];simp[ints,aco,acb,i64];rw[adW (by simp)]
  have tail:=tail (fun c=>g1 (by omega));refine⟨⟨by decide,by omega,by rw[lm];omega,dt l⟩,?_⟩;refine⟨⟨gJ (dt l),by simp only[aaN,aat,lm];omega,by simp only[aaN,aat,lm];omega⟩,?_⟩;refine⟨⟨by simp,by simp[lm];omega,by simp[lm];omega⟩,?_⟩;refine⟨⟨by omega,by rw[lm];omega,by omega,dt l⟩,?_⟩;refine⟨⟨gJ (dt l),by simp[lm];omega,by simp[lm];omega⟩,?_⟩;refine⟨?_,trivial⟩;rw[tail];simp[ints,aco,acb,i64];rw[adW (by simp)]
 refine aJ (fun k:Nat=>k<=l.length/\fZ l n l.length=fZ l n k) (fun k=>[(0,.p (ints l)),(1,.p (i64 n)),(5,.p (i64 k))]) (fun _=>[]) (fun k=>k) l.length _ (au.refl _ _) ⟨aam _,rfl⟩ ⟨rfl,rfl,adV (fun m:Nat=>AV.p (i64 m)) lm,trivial⟩ trivial fun k hk t h=>?_;obtain⟨k1,k2⟩:=hk;refine iW ?_ ?_<;>intro h1
 ·obtain⟨m,rfl⟩:∃m,k=m+1:=⟨k-1,by omega⟩;obtain⟨y,hy⟩:=ak (l:=l) (i:=m) (by omega);have hp:fZ l n (m+1)=if n<y then fZ l n m else m+1:=by
   rw[fZ,ad4,hy,acy]
  refine⟨⟨by omega,by omega⟩,?_⟩;refine⟨[i64 y],(idx (show ((m+1:Nat):Int)-1=(m:Nat) by omega) hy),?_⟩;refine iW ?_ ?_<;>intro h2
  ·rw[aap h2]at hp;refine⟨⟨by omega,by omega⟩,?_⟩;exact⟨m,_,au.refl _ _,⟨by omega,by rw[k2,hp]⟩,by omega,⟨rfl,rfl,a8 (by omega),trivial⟩,trivial⟩
  rw[aaa h2]at hp;refine⟨m+1,⟨k1,by rw[k2,hp]⟩,⟨Z,Z,Z,Y⟩,trivial⟩
 have e:k=0:=by omega
 subst e;refine⟨0,⟨aaj _,by rw[k2];rfl⟩,⟨Z,Z,Z,Y⟩,trivial⟩
def uY(l:List Int):List PV:=[ints l]
theorem B8{l:List (List Int)}{k:Nat}{b:List Int}(h:l[k]?=some b):l.getD k []=b:=by rw[ad4,h];rfl
theorem FX{l:List Bool}{p:Int}{b:Bool}(h0:0<=p)(hx:l[p.toNat]?=some b):(bits l)[p.toNat]?=some [bool b]:=by
 rw[bits,aak,hx];rfl
theorem K8{l:List Int}{i:Int}{k:Nat}{v:Int}(h:i=k)(hx:l[k]?=some v):(aA l)[i.toNat]?=some [i64 v]:=by
 rw[h,ad2,aA,aak,hx];rfl
theorem FY(T:List (List Int))(n:Nat)(hn:n<=100000)(Yu:T.length<=100000)(Vs:∀x∈T,x.length<=1000000)(hT:∀j,∀p∈T.getD j [],0<=p/\p<n)(D0:List Bool)(hl:D0.length=n)(i:Nat)(hi:i<n)(hd:D0.getD i true=false)(x0 x1 x2 x3 x4 x5 x6:PV):
  af C 191 [.pv (.ip [x0,x1,x2,x3,x4,x5,x6,.sl (T.map uY)]),.pv (i64 i),.row 4 (bits D0)] (.p (.ag (wR ⟨(eH T n i D0).pieces,(eH T n i D0).bores,[]⟩))) [.row (bits (eH T n i D0).seen)]:=by
 have lT:=ai T uY;have lD:=oC D0;obtain⟨d,S7⟩:=ak (l:=D0) (i:=i) (by omega);have xl:=Reg.B7 (T:=T) hl hi hd;obtain⟨F,hF⟩:∃F,F=eH T n i D0:=⟨_,rfl⟩;rw[<-hF];rw[eH]at hF;refine UO ⟨[],[],[],[],[],[]⟩ hC Tryz.func191 rfl (by kernel_rfl) fun _=>⟨_,au.refl _ _,?_⟩;refine⟨⟨by omega,by (try dsimp only);omega⟩,?_⟩;refine⟨[bool d],(kM rfl S7),?_⟩;refine⟨⟨by omega,by omega,by (try dsimp only);omega,by omega⟩,?_⟩;have hu:List.replicate (T.map uY).length [bool false]=bits (List.replicate T.length false):=by rw[bits,ac3,lT]
 refine aJ (fun x:Nat×sY=>p_ T (n-x.1) x.1 x.2=F/\jc T n D0 x.2) (fun x=>[(0,.p (.ip [x0,x1,x2,x3,x4,x5,x6,.sl (T.map uY)])),(2,.ow 100002),(6,.bx 6 0),(7,.bx 7 0),(8,.ow 8),(9,.ow 9),(10,.p (i64 x.1))]) (fun x=>[(100002,.row 4 (bits x.2.seen)),(6,.box [.nl,.nl,.nl]),(7,.box [.p (ints x.2.pieces),.p (ints x.2.bores),.p (.im (.slice none 0 0))]),(8,.row 4 (bits x.2.used)),(9,.row 3 (aA x.2.todo))]) (fun x=>n-x.1) (0,⟨D0.set i true,[(i:Int)],[],List.replicate T.length false,[(i:Int)]⟩) _ ((au.aeK (by exact hC) _ 7 1 90000 3 _ _ (by decide) (by decide) (by exact rfl) (by exact rfl) (by exact rfl) (by decide)).trans ((au.fB (by exact hC) _ 7 1 90000 3 _ _ (by decide) (by exact rfl) (by exact rfl) (by exact rfl)).trans (au.MJ (by exact hC) _ 7 2 _ (by exact rfl) (by exact rfl)))) ⟨hF.symm,xl⟩ ⟨Z,Z,Z,Z,Z,Z,Z,Y⟩ ⟨adV (AB.row _) (qV D0 i true),rfl,rfl,adV (AB.row _) hu,Z,Y⟩ fun ⟨at',s⟩ hx t h=>?_;obtain⟨Tc,Yv⟩:=hx;simp only at Tc Yv;have lo:=bQ s.todo;obtain⟨jB,_,_⟩:=Yv.jB;refine iW ?_ ?_<;>intro h1<;>try simp only[zB]at h1
 ·rw[lo]at h1;obtain⟨xv,ZS⟩:=ak (l:=s.todo) (i:=at') (by omega);have N0:p_ T (n-at') at' s=p_ T (n-(at'+1)) (at'+1) ((List.range T.length).foldl (nO T xv) s):=by
   rw[show n-at'=(n-(at'+1))+1 by omega,p_,aap (by omega),ad4,ZS];rfl
  rw[N0]at Tc;obtain⟨R,hR⟩:∃R,R=(List.range T.length).foldl (nO T xv) s:=⟨_,rfl⟩;rw[<-hR]at Tc;refine aJ (fun y:Nat×sY=>((List.range T.length).drop y.1).foldl (nO T xv) y.2=R/\jc T n D0 y.2/\y.2.todo[at']?=some xv) (fun y=>[(0,.p (.ip [x0,x1,x2,x3,x4,x5,x6,.sl (T.map uY)])),(2,.ow 100002),(6,.bx 6 0),(7,.bx 7 0),(8,.ow 8),(9,.ow 9),(10,.p (i64 at')),(11,.p (i64 y.1))]) (fun y=>[(100002,.row 4 (bits y.2.seen)),(6,.box [.nl,.nl,.nl]),(7,.box [.p (ints y.2.pieces),.p (ints y.2.bores),.p (.im (.slice none 0 0))]),(8,.row 4 (bits y.2.used)),(9,.row 3 (aA y.2.todo))]) (fun y=>T.length-y.1) (0,s) _ (au.refl _ _) ⟨hR.symm,Yv,ZS⟩ ⟨Z,Z,Z,Z,Z,Z,Z,Z,Y⟩ ⟨Z,Z,Z,Z,Z,Y⟩ fun ⟨j,u⟩ hy t h=>?_;obtain⟨y1,y2,y3⟩:=hy;simp only at y1 y2 y3;have lu:=bQ u.todo;have lus:=oC u.used;have uul:=y2.ulen;obtain⟨fu1,fu2,fu3⟩:=y2.jB;have VJ:=(aao.1 y3).1;refine iW ?_ ?_<;>intro h2<;>try simp only[zB]at h2
  ·rw[lT]at h2;have h2:j<T.length:=by omega
   obtain⟨L,hL⟩:=ak (l:=T) (i:=j) h2;obtain⟨e,he⟩:=ak (l:=u.used) (i:=j) (by omega);have eT:=B8 hL;have eU:=oD (d:=true) he;have lL:=ai L fun n=>[i64 n];have lL2:=Vs L (aad hL);have ZT:=hT j;rw[eT]at ZT;rw[Reg.z_ h2,aaq]at y1;refine⟨⟨by omega,by (try dsimp only);omega⟩,?_⟩;refine⟨[bool e],(kM rfl he),?_⟩;refine iW ?_ ?_<;>intro h3
   ·rw[nO,aap (.inl (by rw[eU];exact h3))]at y1;refine⟨⟨by omega,by omega⟩,?_⟩;exact⟨(j+1,u),_,au.refl _ _,⟨y1,y2,y3⟩,by simp only;omega,⟨Z,Z,Z,Z,Z,Z,Z,Z,Y⟩,⟨Z,Z,Z,Z,Z,Y⟩⟩
   have h3:e=false:=by simpa using h3
   refine⟨(uY L),(idx rfl hL),?_⟩;refine⟨⟨by omega,by (try dsimp only);omega⟩,?_⟩;refine⟨[i64 xv],(K8 rfl y3),?_⟩;refine⟨_,_,(mM L xv (by omega)),?_⟩;refine iW ?_ ?_<;>intro h4
   ·rw[nO,aap (.inr (by rw[eT];exact h4))]at y1;refine⟨⟨by omega,by omega⟩,?_⟩;exact⟨(j+1,u),_,au.refl _ _,⟨y1,y2,y3⟩,by simp only;omega,⟨Z,Z,Z,Z,Z,Z,Z,Z,Y⟩,⟨Z,Z,Z,Z,Z,Y⟩⟩
   have hb:=Reg.FV y2 h2;rw[nO,aaa (by
    rintro (c | c)
    ·rw[eU,h3]at c;cases c
    rw[eT,h4]at c;cases c),eT]at y1
   have Yw:=xd u.bores j (by omega);refine⟨⟨by omega,by (try dsimp only);omega⟩,?_⟩;refine⟨[bool e],(kM rfl he),?_⟩;refine⟨_,_,Yw,?_⟩;obtain⟨R2,Tt⟩:∃R2,R2=L.foldl pI ⟨u.seen,u.pieces,oB u.bores j,u.used.set j true,u.todo⟩:=⟨_,rfl⟩;rw[<-Tt]at y1;refine aJ (fun z:Nat×sY=>(L.drop z.1).foldl pI z.2=R2/\jc T n D0 z.2/\z.2.todo[at']?=some xv) (fun z=>[(0,.p (.ip [x0,x1,x2,x3,x4,x5,x6,.sl (T.map uY)])),(2,.ow 100002),(6,.bx 6 0),(7,.bx 7 0),(8,.ow 8),(9,.ow 9),(10,.p (i64 at')),(11,.p (i64 j)),(12,.p (i64 z.1))]) (fun z=>[(100002,.row 4 (bits z.2.seen)),(6,.box [.nl,.nl,.nl]),(7,.box [.p (ints z.2.pieces),.p (ints z.2.bores),.p (.im (.slice none 0 0))]),(8,.row 4 (bits z.2.used)),(9,.row 3 (aA z.2.todo))]) (fun z=>L.length-z.1) (0,⟨u.seen,u.pieces,oB u.bores j,u.used.set j true,u.todo⟩) _ (au.refl _ _) ⟨Tt.symm,hb,y3⟩ ⟨Z,Z,Z,Z,Z,Z,Z,Z,Z,Y⟩ ⟨rfl,rfl,rfl,adV (AB.row _) (qV u.used j true),Z,Y⟩ fun ⟨k,v⟩ hz t h=>?_;obtain⟨z1,z2,z3⟩:=hz;simp only at z1 z2 z3;have lv:=bQ v.todo;have lvs:=oC v.seen;have vsl:=z2.len;obtain⟨fv1,fv2,fv3⟩:=z2.jB;have Yx:=(aao.1 z3).1;refine⟨(uY L),(idx rfl hL),?_⟩;refine iW ?_ ?_<;>intro h5<;>try simp only[zB]at h5
   ·rw[lL]at h5;obtain⟨p,hp⟩:=ak (l:=L) (i:=k) (by omega);obtain⟨p0,pn⟩:=ZT p (aad hp);rw[drop_at hp,aaq]at z1;obtain⟨b,oE⟩:=ak (l:=v.seen) (i:=p.toNat) (by omega);have eS:=oD (d:=true) oE;obtain⟨k1,_,_,_⟩:=Reg.Ji z2 p0 pn;refine⟨(uY L),(idx rfl hL),?_⟩;refine⟨[i64 p],(idx rfl hp),?_⟩;refine⟨⟨by omega,by (try dsimp only);omega⟩,?_⟩;refine⟨[bool b],(FX p0 oE),?_⟩;refine iW ?_ ?_<;>intro h6
    ·have h6:b=false:=by simpa using h6
     have hk:pI v p=⟨v.seen.set p.toNat true,oB v.pieces p,v.bores,v.used,v.todo++[p]⟩:=by rw[pI,aaa (by rw[eS,h6];decide)]
     rw[hk]at z1 k1;have Yy:=xd v.pieces p (by omega);refine⟨⟨by omega,by (try dsimp only);omega⟩,?_⟩;refine⟨[bool b],(FX p0 oE),?_⟩;refine⟨_,_,Yy,?_⟩;refine⟨⟨fun r hr=>by simp at hr;subst hr;rfl,by simp only[lv,aaB,acs,aaM,aan];omega,by simp only[lv,aaB,acs,aaM,aan];omega⟩,?_⟩;refine⟨⟨by omega,by omega⟩,?_⟩;exact⟨(k+1,sY.mk (v.seen.set p.toNat true) (oB v.pieces p) v.bores v.used (v.todo++[p])),_,au.refl _ _,⟨z1,k1,by show (v.todo++[p])[at']?=some xv;rw[aaE Yx];exact z3⟩,by simp only;omega,⟨Z,Z,Z,Z,Z,Z,Z,Z,Z,Y⟩,⟨adV (AB.row _) (qV v.seen p.toNat true),rfl,rfl,rfl,adV (AB.row _) (gP v.todo p).symm,trivial⟩⟩
    have h6:b=true:=by simpa using h6
    have hk:pI v p=v:=by rw[pI,aap (by rw[eS,h6])]
    rw[hk]at z1 k1;refine⟨⟨by omega,by omega⟩,?_⟩;exact⟨(k+1,v),_,au.refl _ _,⟨z1,k1,z3⟩,by simp only;omega,⟨Z,Z,Z,Z,Z,Z,Z,Z,Z,Y⟩,⟨Z,Z,Z,Z,Z,Y⟩⟩
   rw[lL]at h5;rw[ab1 (by omega)]at z1;have z1:v=R2:=z1;rw[<-z1]at y1;refine⟨⟨by omega,by omega⟩,?_⟩;exact⟨(j+1,v),_,au.refl _ _,⟨y1,z2,z3⟩,by simp only;omega,⟨Z,Z,Z,Z,Z,Z,Z,Z,Y⟩,⟨Z,Z,Z,Z,Z,Y⟩⟩
  rw[lT]at h2;rw[ab1 (by rw[adM];omega)]at y1;have y1:u=R:=y1;rw[<-y1]at Tc;refine⟨⟨by omega,by omega⟩,?_⟩;exact⟨(at'+1,u),_,au.refl _ _,⟨Tc,y2⟩,by simp only;omega,⟨Z,Z,Z,Z,Z,Z,Z,Y⟩,⟨Z,Z,Z,Z,Z,Y⟩⟩
 rw[lo]at h1;rw[Reg.N8 _ _ _ _ (by omega)]at Tc;subst Tc;refine⟨_,au.MJ (by exact hC) _ 6 2 _ (by exact rfl) (by exact rfl),?_⟩;exact And.intro rfl (And.intro rfl trivial)
end M
namespace Reg
def P7(n:Nat)(h:zx):Nat:=if h.bore=true then n+h.num.toNat else h.num.toNat
def VM(bs:List aS)(T:List (List Int)):List Nat:=(List.range T.length).filter fun j=>bD bs j&&decide ((T.getD j []).length=0)
def K9(bs:List aS)(T:List (List Int))(c:Nat->Nat)(n:Nat):List Nat:=cd c n++(VM bs T).map fun j=>n+j
theorem H0(bs:List aS)(T:List (List Int))(c:Nat->Nat)(n:Nat):(K9 bs T c n).Nodup:=by
 rw[K9,aee];refine⟨afh _ _,?_,fun a ha b hb=>?_⟩
 ·rw[aec,abp];refine adN ?_ (aea ac1 List.pairwise_lt_range);intro a b h;omega
 obtain⟨j,_,rfl⟩:=adS.1 hb;have:=(mem_keys.1 ha).1;omega
variable {bs:List aS}
theorem Ab{T:List (List Int)}{n:Nat}{c:Nat->Nat}(hc:HR c T n):dR bs T n=(K9 bs T c n).map fun r=>if r<n then ⟨Dw c n r,zW c T r,[]⟩ else ⟨[],[((r-n:Nat):Int)],[]⟩:=by
 obtain⟨_,_,g3⟩:=sZ hc n (aam _);rw[dR,g3,vV,K9,abE,ad6];congr 1
 ·refine aaG fun r hr=>?_;rw[aap (mem_keys.1 hr).1]
 refine aaG fun j _=>?_;show _=(if n+j<n then _ else _);rw[aaa (by omega),abG]
theorem N9{T:List (List Int)}{n:Nat}{c:Nat->Nat}(bc:VH c T n){r:Nat}(hr:r∈K9 bs T c n){h:zx}(hg:dz h (if r<n then ⟨Dw c n r,zW c T r,[]⟩ else ⟨[],[((r-n:Nat):Int)],[]⟩)=true):r=c (P7 n h):=by
 rw[dz,adZ,aaZ,aaZ,oA,oA,ael]at hg;rw[K9,abi]at hr;by_cases e:r<n
 ·rw[aap e]at hg;rcases hg with⟨h1,h2⟩ | ⟨h1,h2⟩
  ·rw[P7,aap h1];obtain⟨j,hj,e2⟩:=adS.1 (show h.num∈zW c T r from h2);obtain⟨a,ha,e3⟩:=aci.1 (adu.1 hj).2;rw[<-e2,ad2,<-bc.e1 j a ha];exact (adw e3).symm
  rw[P7,aaa (by rw[h1];simp)];obtain⟨k,hk,e2⟩:=adS.1 (show h.num∈Dw c n r from h2);rw[<-e2,ad2];exact (dx.1 hk).2.symm
 rw[aaa e]at hg;rcases hr with hr | hr
 ·exact absurd (mem_keys.1 hr).1 e
 obtain⟨j,hj,rfl⟩:=adS.1 hr;rw[abG]at hg;rcases hg with⟨h1,h2⟩ | ⟨h1,h2⟩
 ·rw[P7,aap h1,ab_.1 (show h.num∈[(j:Int)] from h2),ad2];obtain⟨j1,j2⟩:=adu.1 hj;have j1:=abD.1 j1;rw[aaZ]at j2;have e0:T.getD j []=[]:=aef.1 (adw j2.2);have l1:=bc.tops.le (n+j) (by omega);exact (bc.e2 j j1 e0 (c (n+j)) (by omega) (bc.tops.top _ (by omega))).symm
 cases h2
theorem H3{T:List (List Int)}{n:Nat}(hT:∀x∈T,∀p∈x,0<=p/\p<n){h:zx}{i k:Nat}{g q:bh}(hi:(dR bs T n)[i]?=some g)(hk:(dR bs T n)[k]?=some q)(h1:dz h g=true)(h2:dz h q=true):i=k:=by
 have bc:=B0 hT;generalize cQ (jm n T.length T)=c at bc;rw[Ab bc.pc,aak]at hi hk;obtain⟨r,hr,e1⟩:=acq.1 hi;obtain⟨s,hs,e2⟩:=acq.1 hk;rw[<-e1]at h1;rw[<-e2]at h2;have a:=N9 bc (aad hr) h1;have b:=N9 bc (aad hs) h2;rw[<-b]at a;rw[a]at hr;exact zn (H0 bs T c n) hr hs
def bare(g:bh):List Int×List Int:=(g.pieces,g.bores)
theorem P8{h:zx}{g q:bh}(e:bare g=bare q):dz h g=dz h q:=by
 injection e with e1 e2;rw[dz,dz,e1,e2]
theorem FZ(h:zx):∀(gs qs:List bh) (k:Nat),gs.map bare=qs.map bare->kY h k gs=kY h k qs
 | [],[],k,_=>rfl
 | [],q::qs,k,e=>by cases e
 | g::gs,[],k,e=>by cases e
 | g::gs,q::qs,k,e=>by
  rw[aa8,aa8]at e;injection e with e1 e2;rw[kY,kY,P8 e1,FZ h gs qs (k+1) e2]
def dq(bs:List aS)(ps:List Piece)(gs:List bh)(l:fo):Int:=if (vW bs ps l).2=true then kY (vW bs ps l).1 0 gs else -1
def s6(bs:List aS)(ps:List Piece)(gs:List bh)(l:fo):List bh:=
 if 0<=dq bs ps gs l then gs.set (dq bs ps gs l).toNat (iN (l.part,l.pin) (gs.getD (dq bs ps gs l).toNat ⟨[],[],[]⟩)) else gs
theorem N_{gs:List bh}{k:Nat}{p:ByteArray×ByteArray}:(gs.set k (iN p (gs.getD k ⟨[],[],[]⟩))).map bare=gs.map bare:=by
 refine ach fun i=>?_;rw[aak,aak];rcases aen k gs.length with c | c
 ·rw[ew c];by_cases e:i=k
  ·rw[aap e,e,acg c,ad4,acg c];rfl
  rw[aaa e]
 rw[List.set_eq_of_length_le c]
theorem B9{ps:List Piece}{o:List Int×List Int}{G:List bh}(ha:NS bs ps)
  (ho:∀l,(il bs ps l).2=true->∃k:Nat,(if (il bs ps l).1.bore=true then o.2 else o.1).getD (il bs ps l).1.num.toNat 0=k/\kY (il bs ps l).1 0 G=k):
  ∀(ls:List fo) (gs:List bh) (s:qN),gs.map bare=G.map bare->s.groups=gs->ls.foldl (s6 bs ps) gs=(ls.foldl (uA bs ps o) s).groups
 | [],gs,s,_,e=>e.symm
 | l::ls,gs,s,hb,e=>by
  rw[aaq,aaq];obtain⟨h1,h2⟩:=P1 ha l;refine B9 ha ho ls _ _ ?_ ?_
  ·rw[s6];split
   ·rw[N_];exact hb
   exact hb
  rw[s6,dq];show (if (il bs ps l).2=true then s.groups.set _ _ else s.groups)=_;by_cases c:(il bs ps l).2=true
  ·obtain⟨k,k1,k2⟩:=ho l c;have e3:kY (il bs ps l).1 0 gs=k:=by rw[<-k2];exact FZ _ _ _ 0 hb
   rw[h2 c];simp only[aap c,e3,k1,e];rw[aap (Int.natCast_nonneg k)]
  have c2:¬(vW bs ps l).2=true:=by rw[h1];exact c
  rw[aaa c];simp only[aaa c2];rw[aaa (by omega)];exact e
theorem s7(bs:List aS)(ps:List Piece):∀x∈bB bs ps,∀p∈x,0<=p/\p<(ps.length:Int):=fun x hx p hp=>by
 obtain⟨b,_,rfl⟩:=adS.1 hx;have:=rE b ps 0 p hp;omega
theorem aeO(bs:List aS)(ps:List Piece):(bB bs ps).length=bs.length:=by rw[bB,aej]
theorem Ac{b:aS}(h:b.plated=false):∀(ps:List Piece) (k:Nat),fu b k ps=[]
 | [],k=>rfl
 | p::ps,k=>by
  rw[fu,aaa (by rw[fX,h];simp)];exact Ac h ps (k+1)
theorem uT{ps:List Piece}{j:Nat}(hj:j<(bB bs ps).length)(h:bD bs j=false):(bB bs ps).getD j []=[]:=by
 rw[aeO]at hj;rw[bB,ad4,aak,acg hj];refine Ac ?_ ps 0;rw[bD,ad4,acg hj]at h;exact h
theorem Oa{a:fS}(hb:∀b∈a.bores,bO b=true)(hc:∀r∈a.coppers,∀q∈r,Full q):(∀p∈(aC a).pieces,bE p.set)/\NS a.bores (aC a).pieces:=by
 have key:∀p∈(aC a).pieces,bE p.set/\∀b∈a.bores,∀x y,through b p.layer=true->dE x y (aa b)=true->at' p.set x y=false:=fun p hp=>by
  obtain⟨i,r,h1,h2,h3⟩:=mH hp;obtain⟨a1,a2,_⟩:=aR (hc r (aad h1));obtain⟨b1,b2,_⟩:=aR (l:=bq a.bores (0+i)) fun q hq=>by
   obtain⟨b,oE,rfl⟩:=adS.1 hq;exact bX (hb b (adu.1 oE).1)
  obtain⟨c1,c2,_⟩:=b6 a1 b1;obtain⟨d1,_,d3,_⟩:=rD c1 h3;refine⟨d1,fun b Yz x y ht hx=>?_⟩;rw[aaV];intro g;have:=d3 x y g;rw[c2,b2,aaZ,ael]at this;have h4:=adk.1 this.2 (aa b) (adS.2 ⟨b,adu.2 ⟨Yz,by rw[<-h2];exact ht⟩,rfl⟩);exact h4 hx
 exact⟨fun p hp=>(key p hp).1,fun p hp b Yz x y ht hx=>by rw[iy (key p hp).1];exact (key p hp).2 b Yz x y ht hx⟩
theorem K_{ps:List Piece}(l:fo)(ht:(il bs ps l).2=true):
  ∃k:Nat,(if (il bs ps l).1.bore=true then (jn bs ps.length (aP (cQ (jm ps.length bs.length (bB bs ps))) (ps.length+bs.length))).1.2 else (jn bs ps.length (aP (cQ (jm ps.length bs.length (bB bs ps))) (ps.length+bs.length))).1.1).getD (il bs ps l).1.num.toNat 0=k /\
   kY (il bs ps l).1 0 (dR bs (bB bs ps) ps.length)=k:=by
 have hT:=s7 bs ps;have e:=uM (aeO bs ps) hT fun j hj h=>uT hj h;have hu:=(qM (bB bs ps) 0 _ (ny (ps.length+bs.length)) (aeM _) (by rw[aeO];omega) hT);have ok:=vL hu.1 hu.2;have hg:∀{k:Nat} {g:bh},(dR bs (bB bs ps) ps.length)[k]?=some g->dz (il bs ps l).1 g=true->kY (il bs ps l).1 0 (dR bs (bB bs ps) ps.length)=k:=fun {k g} hk hi=>by
  have:=NT (m:=0) hk hi fun i q hq s_=>H3 hT hq hk s_ hi;rw[abC]at this;exact this
 rcases zD l ps bs 0 ht with⟨m,a,d⟩ | ⟨m,a,_,d,p⟩
 ·obtain⟨k,g,h1,h2,h3⟩:=ok.a m d;have a:(il bs ps l).1=⟨false,m⟩:=a;refine⟨k,?_,hg (by rw[e];exact h2) ?_⟩
  ·rw[a];show List.getD _ (m:Int).toNat 0=_;rw[ad2,ad4];exact adV (·.getD 0) h1
  rw[a];simp[dz,oA,h3]
 obtain⟨k,g,h1,h2,h3⟩:=ok.b m (by omega) p;have a:(il bs ps l).1=⟨true,m⟩:=a;refine⟨k,?_,hg (by rw[e];exact h2) ?_⟩
 ·rw[a];show List.getD _ (m:Int).toNat 0=_;rw[ad2,ad4];exact adV (·.getD 0) h1
 rw[a];simp[dz,oA,h3]
theorem DB{a:fS}(hb:∀b∈a.bores,bO b=true)(hc:∀r∈a.coppers,∀q∈r,Full q):
  a.lands.foldl (s6 a.bores (aC a).pieces) (dR a.bores (aC a).bB (aC a).pieces.length)=(aC a).placed.groups:=by
 obtain⟨_,ha⟩:=Oa hb hc;refine B9 ha (G:=dR a.bores (aC a).bB (aC a).pieces.length) (fun l hl=>K_ l hl) a.lands _ _ rfl ?_;exact (uM (aeO _ _) (s7 _ _) fun j hj h=>uT hj h).symm
end Reg
namespace M
open Go.AM Go.RowKit Go.Lib
open Reg (ae Full RK an bE aS fo fS Piece bh zx told through aa bO Jk w9 dN dO mV pz hD jy vW dz kY dq dE)
theorem La(r:List ae)(q:ae)(hr:∀p∈r,jZ p)(hq:jZ q)(hN:r.length<=4398046511104):af C 111 [.pv (aj r),.pv (.ag (rc q))] (.p (bool (w9 r q))) []:=by
 have lm:=ai r rc;refine fW hC Tryz.func111 rfl (by kernel_rfl) fun _=>?_;refine aJ (fun i:Nat=>w9 (r.drop i) q=w9 r q) (fun i=>[(0,.p (aj r)),(3,.bx 3 0),(5,.p (i64 i))]) (fun _=>[(3,.box ((rc q).map .p))]) (fun i=>r.length-i) 0 _ (au.refl _ _) rfl ⟨Z,Z,Z,Y⟩ ⟨Z,Y⟩ fun i hi t h=>?_;refine iW ?_ ?_<;>intro h1
 ·rw[lm]at h1;obtain⟨p,hp⟩:=ak (l:=r) (i:=i) (by omega);have mp:=hr p (aad hp);rw[drop_at hp]at hi;have hs:w9 (p::r.drop (i+1)) q=(((decide (0<dN p q)&&decide (dO p q=0))||(decide (dN p q=0)&&decide (0<dO p q)))||w9 (r.drop (i+1)) q):=rfl;rw[hs]at hi;unfold jZ at mp hq;refine⟨(rc p),(idx rfl hp),?_⟩;refine⟨(rc p),(idx rfl hp),?_⟩;refine⟨⟨by omega,by omega⟩,?_⟩;refine⟨(rc p),(idx rfl hp),?_⟩;refine⟨(rc p),(idx rfl hp),?_⟩;refine⟨⟨by omega,by omega⟩,?_⟩;have ex:dN p q=min p.x1 q.x1-max p.x0 q.x0:=rfl;have ey:dO p q=min p.y1 q.y1-max p.y0 q.y0:=rfl;rw[ex,ey]at hi;generalize min p.x1 q.x1-max p.x0 q.x0=u at hi ⊢;generalize min p.y1 q.y1-max p.y0 q.y0=v at hi ⊢;refine iW ?_ ?_<;>intro h2
  ·refine iW ?_ ?_<;>intro h3
   ·refine⟨?_,trivial⟩;rw[<-hi,acd h2,acd h3];rfl
   refine iW ?_ ?_<;>intro h4
   ·exfalso;omega
   refine⟨⟨by omega,by omega⟩,?_⟩;exact⟨(i+1),_,au.refl _ _,by rw[<-hi,aaz h3,aaz h4];simp,by omega,⟨Z,Z,Z,Y⟩,⟨Z,Y⟩⟩
  refine iW ?_ ?_<;>intro h4
  ·refine iW ?_ ?_<;>intro h5
   ·refine⟨?_,trivial⟩;rw[<-hi,acd h4,acd h5];simp;rfl
   refine⟨⟨by omega,by omega⟩,?_⟩;exact⟨(i+1),_,au.refl _ _,by rw[<-hi,aaz h2,aaz h5];simp,by omega,⟨Z,Z,Z,Y⟩,⟨Z,Y⟩⟩
  refine⟨⟨by omega,by omega⟩,?_⟩;exact⟨(i+1),_,au.refl _ _,by rw[<-hi,aaz h2,aaz h4];simp,by omega,⟨Z,Z,Z,Y⟩,⟨Z,Y⟩⟩
 rw[lm]at h1;rw[ab1 (by omega)]at hi;refine⟨?_,trivial⟩;rw[<-hi];rfl
def gB(ps:List Piece):List (List PV):=ps.map fun p=>[i64 p.layer]
def eB(ps:List Piece):List (List PV):=ps.map fun p=>[aj (told p.set)]
def Lo(a:fS)(ps:List Piece)(gs:List bh)(T:List (List Int)):List PV:=dX a++[.sl (gB ps),.sl (eB ps),.sl (gs.map sT),.sl (T.map uY)]
theorem xe{l:List ae}(h:∀r∈l,Full r)(x y:Int):aL (Reg.rowOf l y) x=l.any (dE x y):=by
 have hf:=(Reg.iS l y fun r hr=>(h r hr).1).2 x;rw[abb,aL,aci,aci];refine Iff.trans ?_ (hf.trans ?_)
 ·simp[Reg.cover]
 constructor
 ·rintro⟨r,h1,h2,h3⟩;exact⟨r,h1,Reg.aQ.2 ⟨by omega,by omega,by omega,by omega⟩⟩
 rintro⟨r,h1,h2⟩;obtain⟨g1,g2,g3,g4⟩:=Reg.aQ.1 h2;exact⟨r,h1,by omega,by omega⟩
structure P9(ps:List Piece):Prop where
 jB:ps.length<=2000
 sok:∀p∈ps,bE p.set
 len:∀p∈ps,(told p.set).length<=4398046511104
theorem H4(a:fS)(ok:B5 a.bores)(l:fo)(ps:List Piece)(hps:P9 ps)(gs:List bh)(T:List (List Int)):af C 246 [.pv (.ip (Lo a ps gs T)),.pv (.ag (lc l))] (.tu [.ag (je (vW a.bores ps l).1),bool (vW a.bores ps l).2]) []:=by
 have lb:=ai a.bores bc;have lp:(eB ps).length=ps.length:=aej ..;have lp2:(gB ps).length=ps.length:=aej ..;have jB:=hps.jB;have Td:=ok.jB;obtain⟨R,hR⟩:∃R,R=vW a.bores ps l:=⟨_,rfl⟩;rw[<-hR];rw[vW]at hR;refine fW hC Tryz.func246 rfl (by kernel_rfl) fun _=>?_;refine aJ (fun k:Nat=>hD l k (ps.drop k)=hD l 0 ps) (fun k=>[(0,.p (.ip (Lo a ps gs T))),(3,.bx 3 0),(4,.bx 4 0),(6,.p (i64 k))]) (fun _=>[(3,.box ((lc l).map .p)),(4,.box [.p (bool false),.p (i64 0)])]) (fun k=>ps.length-k) 0 _ (au.refl _ _) rfl ⟨Z,Z,Z,Z,Y⟩ ⟨Z,Z,Y⟩ fun k hk t h=>?_;refine iW ?_ ?_<;>intro g1
 ·obtain⟨p,hp⟩:=ak (l:=ps) (i:=k) (by omega);have ps1:=hps.sok p (aad hp);have pl:=hps.len p (aad hp);rw[drop_at hp,hD]at hk;have yes:pz l p=true->R=(⟨false,k⟩,true):=fun h=>by rw[aap h]at hk;rw[<-hk]at hR;exact hR
  have no:pz l p=false->hD l (k+1) (ps.drop (k+1))=hD l 0 ps:=fun h=>by rw[aaa (by rw[h];decide)]at hk;exact hk
  have hh:=tP (told p.set) l.x l.y pl;rw[xe (Reg.bP ps1)]at hh;refine⟨[i64 p.layer],(idx rfl hp),?_⟩;refine iW ?_ ?_<;>intro g2
  ·refine⟨[aj (told p.set)],(idx rfl hp),?_⟩;refine⟨_,_,hh,?_⟩;refine iW ?_ ?_<;>intro g3
   ·have hy:=yes (by simp only[pz,aaZ,aaH];exact⟨g2,g3⟩);exact And.intro (by rw[hy];rfl) trivial
   have hn:=no (by simp only[pz];rw[aaC];exact .inr g3);refine⟨⟨by omega,by omega⟩,?_⟩;exact⟨(k+1),_,au.refl _ _,hn,by omega,⟨Z,Z,Z,Z,Y⟩,⟨Z,Z,Y⟩⟩
  have hn:=no (by simp only[pz];rw[aaz g2,adJ]);refine⟨⟨by omega,by omega⟩,?_⟩;exact⟨(k+1),_,au.refl _ _,hn,by omega,⟨Z,Z,Z,Z,Y⟩,⟨Z,Z,Y⟩⟩
 rw[ab1 (by omega),hD]at hk;rw[<-hk]at hR;refine aJ (fun i:Nat=>jy l i (a.bores.drop i)=jy l 0 a.bores) (fun i=>[(0,.p (.ip (Lo a ps gs T))),(3,.bx 3 0),(4,.bx 4 0),(7,.p (i64 i))]) (fun _=>[(3,.box ((lc l).map .p)),(4,.box [.p (bool false),.p (i64 0)])]) (fun i=>a.bores.length-i) 0 _ (au.refl _ _) rfl ⟨Z,Z,Z,Z,Y⟩ ⟨Z,Z,Y⟩ fun i hi t h=>?_;refine iW ?_ ?_<;>intro g4
 ·obtain⟨b,hb⟩:=ak (l:=a.bores) (i:=i) (by omega);have uW:=ok.ok b (aad hb);rw[drop_at hb,jy]at hi;have yes:mV l b=true->R=(⟨true,i⟩,true):=fun h=>by rw[aap h]at hi;rw[<-hi]at hR;exact hR
  have no:mV l b=false->jy l (i+1) (a.bores.drop (i+1))=jy l 0 a.bores:=fun h=>by rw[aaa (by rw[h];decide)]at hi;exact hi
  have hh:=tP [aa b] l.x l.y (by simp);rw[xe (fun r hr=>by rw[ab_.1 hr];exact Reg.bX uW),abd,List.any_nil,abo]at hh;refine⟨(bc b),(idx rfl hb),?_⟩;refine iW ?_ ?_<;>intro g5
  ·refine⟨(bc b),(idx rfl hb),?_⟩;refine⟨_,_,(pJ b l.layer),?_⟩;refine iW ?_ ?_<;>intro g6
   ·refine⟨(bc b),(idx rfl hb),?_⟩;refine⟨_,_,(di b uW),?_⟩;refine⟨_,_,hh,?_⟩;refine iW ?_ ?_<;>intro g7
    ·have hy:=yes (by simp only[mV,aaZ];exact⟨⟨g5,g6⟩,g7⟩);exact And.intro (by rw[hy];rfl) trivial
    have hn:=no (by simp only[mV];rw[aaC];exact .inr g7);refine⟨⟨by omega,by omega⟩,?_⟩;exact⟨(i+1),_,au.refl _ _,hn,by omega,⟨Z,Z,Z,Z,Y⟩,⟨Z,Z,Y⟩⟩
   have hn:=no (by simp only[mV];rw[g6,aav,adJ]);refine⟨⟨by omega,by omega⟩,?_⟩;exact⟨(i+1),_,au.refl _ _,hn,by omega,⟨Z,Z,Z,Z,Y⟩,⟨Z,Z,Y⟩⟩
  have hn:=no (by simp only[mV];rw[g5,adJ,adJ]);refine⟨⟨by omega,by omega⟩,?_⟩;exact⟨(i+1),_,au.refl _ _,hn,by omega,⟨Z,Z,Z,Z,Y⟩,⟨Z,Z,Y⟩⟩
 rw[ab1 (by omega),jy]at hi;rw[<-hi]at hR;exact And.intro (by rw[hR];rfl) trivial
theorem xx(a:fS)(h:zx)(ps:List Piece)(gs:List bh)(T:List (List Int))(hg:gs.length<=1000000)(hl:∀g∈gs,g.pieces.length<=1000000/\g.bores.length<=1000000):af C 143 [.pv (.ip (Lo a ps gs T)),.pv (.ag (je h))] (.p (i64 (kY h 0 gs))) []:=by
 have lg:=ai gs sT;obtain⟨B_,hm⟩:=h;refine fW hC Tryz.func143 rfl (by kernel_rfl) fun _=>?_;refine aJ (fun i:Nat=>kY ⟨B_,hm⟩ i (gs.drop i)=kY ⟨B_,hm⟩ 0 gs) (fun i=>[(0,.p (.ip (Lo a ps gs T))),(3,.bx 3 0),(5,.p (i64 i))]) (fun _=>[(3,.box ((je ⟨B_,hm⟩).map .p))]) (fun i=>gs.length-i) 0 _ (au.refl _ _) rfl ⟨Z,Z,Z,Y⟩ ⟨Z,Y⟩ fun i hi t h'=>?_;refine iW ?_ ?_<;>intro g1
 ·obtain⟨g,eM⟩:=ak (l:=gs) (i:=i) (by omega);obtain⟨l1,l2⟩:=hl g (aad eM);rw[drop_at eM,kY]at hi;have yes:dz ⟨B_,hm⟩ g=true->kY ⟨B_,hm⟩ 0 gs=i:=fun e=>by rw[aap e]at hi;exact hi.symm
  have no:dz ⟨B_,hm⟩ g=false->kY ⟨B_,hm⟩ (i+1) (gs.drop (i+1))=kY ⟨B_,hm⟩ 0 gs:=fun e=>by rw[aaa (by rw[e];decide)]at hi;exact hi
  cases B_ with
  | true=>
   refine⟨(sT g),(idx rfl eM),?_⟩;refine⟨_,_,(mM g.bores hm l2),?_⟩;refine iW ?_ ?_<;>intro g3
   ·have hy:=yes (by simp only[dz];rw[g3];rfl);refine⟨?_,trivial⟩;rw[hy]
   have hn:=no (by simp only[dz];rw[g3];rfl);refine⟨⟨by omega,by omega⟩,?_⟩;exact⟨(i+1),_,au.refl _ _,hn,by omega,⟨Z,Z,Z,Y⟩,⟨Z,Y⟩⟩
  | false=>
   refine⟨(sT g),(idx rfl eM),?_⟩;refine⟨_,_,(mM g.pieces hm l1),?_⟩;refine iW ?_ ?_<;>intro g3
   ·have hy:=yes (by simp only[dz];rw[g3];rfl);refine⟨?_,trivial⟩;rw[hy]
   have hn:=no (by simp only[dz];rw[g3];rfl);refine⟨⟨by omega,by omega⟩,?_⟩;exact⟨(i+1),_,au.refl _ _,hn,by omega,⟨Z,Z,Z,Y⟩,⟨Z,Y⟩⟩
 rw[ab1 (by omega),kY]at hi;refine⟨?_,trivial⟩;rw[<-hi];rfl
theorem DC(a:fS)(ok:B5 a.bores)(l:fo)(ps:List Piece)(hps:P9 ps)(gs:List bh)(T:List (List Int))(hg:gs.length<=1000000)(hl:∀g∈gs,g.pieces.length<=1000000/\g.bores.length<=1000000):af C 192 [.pv (.ip (Lo a ps gs T)),.pv (.ag (lc l))] (.p (i64 (dq a.bores ps gs l))) []:=by
 refine fW hC Tryz.func192 rfl (by kernel_rfl) fun _=>?_;refine⟨_,_,(H4 a ok l ps hps gs T),?_⟩;refine iW ?_ ?_<;>intro g1
 ·refine⟨?_,trivial⟩;rw[dq,aaa (by rw[g1];decide)];rfl
 have g1:(vW a.bores ps l).2=true:=by simpa using g1
 refine⟨_,_,(xx a (vW a.bores ps l).1 ps gs T hg hl),?_⟩;refine⟨?_,trivial⟩;rw[dq,aap g1]
end M
end Go.Proofs.YtfloceomobknoaaGreatDoor
namespace Go.AM
def PW(x y:PV):Prop:=x=y\/(x=.im (.slice none 0 0)/\y=.sl [])
theorem PW.rep{S:Nat->Prop}{w:World}{x y:PV}{v:Value}(h:PW x y)(hx:aO S w x v):aO S w y v:=by
 rcases h with rfl | ⟨rfl,rfl⟩
 ·exact hx
 cases hx;exact .nil _ _
theorem au.P_{A:cD}(hC:bI A.C)(s:AS)(id:Nat){e:TypeId}{es:List (List PV)}{r r':List PV}(hb:s.h id=.row e (es++[r]))(hl:r'.length=r.length)(hw:∀(j:Nat) x y,r[j]?=some x->r'[j]?=some y->PW x y):au A s ⟨s.t,aT s.h id (.row e (es++[r']))⟩:=by
 intro S rho a w sim;have hh:=sim.hp id trivial;rw[hb]at hh;have hh:aG A.C.P w (aO S w) e (es++[r]) (rho id):=hh;have at':∀(k:Nat) q q',(es++[r])[k]?=some q->(es++[r'])[k]?=some q'->(q=q')\/(q=r/\q'=r'):=fun k q q' h1 h2=>by
  by_cases c:k<es.length
  ·rw[aaE c]at h1 h2;rw[h1]at h2;injection h2 with h2;exact .inl h2
  rw[acu (by omega)]at h1 h2;have hk:k-es.length=0:=by
   have:=(aao.1 h1).1;simp at this;omega
  rw[hk]at h1 h2;simp at h1 h2;exact .inr ⟨h1.symm,h2.symm⟩
 refine⟨S,rho,sim.write hC id trivial (by rw[hb];trivial) _ (fun e' h=>by rw[hb];exact h) w rfl rfl rfl rfl (fun _ _=>rfl) fun T=>?_⟩;refine hh.re (by simp) (fun k q q' h1 h2=>?_) fun k q q' j x x2 u h1 h2 h3 h4 _ hx=>?_
 ·rcases at' k q q' h1 h2 with e | ⟨e1,e2⟩
  ·rw[e]
  rw[e1,e2,hl]
 rcases at' k q q' h1 h2 with e | ⟨e1,e2⟩
 ·subst e;rw[h3]at h4;injection h4 with h4;subst h4;exact hx.mono T.hS T.keep
 subst e1;subst e2;exact (hw j x x2 h3 h4).rep (hx.mono T.hS T.keep)
theorem YA{a0 a1 a2 a3 a4 a5 a6:AV}{z:PV}{ys:List PV}(h:Lq [a0,a1,a2,a3,a4,a5,a6,.p z] ys):∃x0 x1 x2 x3 x4 x5 x6,ys=[x0,x1,x2,x3,x4,x5,x6,z]:=by
 obtain⟨h1,h2⟩:=h;have h3:=h2 7 z rfl
 match ys,h1,h3 with
 | [x0,x1,x2,x3,x4,x5,x6,x7],_,h3=>
  simp at h3;exact⟨x0,x1,x2,x3,x4,x5,x6,by rw[h3]⟩
end Go.AM
namespace Go.Proofs.YtfloceomobknoaaGreatDoor
namespace M
open Go.AM Go.RowKit Go.Lib
open Reg (ae Full RK an bE aS fo fS Piece bh zx told through aa bO gA j_ eH w8 dR bD s6 dq iN P6)
theorem Lb(l:List Bool):∀r∈bits l,∀z∈r,AY z=true:=fun r hr z hz=>by
 obtain⟨b,_,rfl⟩:=adS.1 hr;simp at hz;subst hz;rfl
theorem Ob(g:bh):Rk (.ag (wR g)):=fun c hc=>by
 simp only[wR,adq,adI,or_false]at hc;rcases hc with rfl | rfl | rfl
 ·intro r hr;obtain⟨n,_,rfl⟩:=adS.1 hr;exact⟨_,_,rfl⟩
 ·intro r hr;obtain⟨n,_,rfl⟩:=adS.1 hr;exact⟨_,_,rfl⟩
 trivial
def nG(bs:List aS)(T:List (List Int))(gs:List bh)(i:Nat):List bh:=(List.range i).foldl (w8 bs T) gs
theorem uU(bs:List aS)(T:List (List Int))(gs:List bh)(i:Nat):nG bs T gs (i+1)=w8 bs T (nG bs T gs i) i:=by simp[nG,adK,aaD]
variable {gs:List bh}
theorem sf(bs:List aS)(T:List (List Int)){m:Nat}(h1:gs.length<=m)(h2:∀g∈gs,P6 g):∀i,(nG bs T gs i).length<=m+i/\∀g∈nG bs T gs i,P6 g
 | 0=>⟨h1,h2⟩
 | i+1=>by
  obtain⟨a,b⟩:=sf bs T h1 h2 i;rw[uU,w8];split
  ·refine⟨by simp only[acv,abS];omega,fun g hg=>?_⟩;rcases abi.1 hg with hg | hg
   ·exact b g hg
   rw[ab_.1 hg];exact⟨rfl,by simp,by simp⟩
  exact⟨by omega,b⟩
structure Qa(m:Nat)(gs:List bh):Prop where
 jB:gs.length<=1000000
 len:∀g∈gs,g.pieces.length<=1000000/\g.bores.length<=1000000/\g.pins.length<=m
theorem Qb{bs:List aS}{ps:List Piece}{m:Nat}(h:Qa m gs)(l:fo):Qa (m+1) (s6 bs ps gs l):=by
 rw[s6];split
 ·refine⟨by rw[aaM];exact h.jB,fun g hg=>?_⟩;rcases abg hg with hg | hg
  ·have:=h.len g hg;omega
  subst hg;have key:∀q:bh,(q.pieces.length<=1000000/\q.bores.length<=1000000/\q.pins.length<=m)->(iN (l.part,l.pin) q).pieces.length<=1000000/\(iN (l.part,l.pin) q).bores.length<=1000000/\(iN (l.part,l.pin) q).pins.length<=m+1:=fun q hq=>by
   refine⟨hq.1,hq.2.1,?_⟩;show (q.pins++[_]).length<=m+1;rw[acv,abS];omega
  refine key _ ?_;rw[ad4];cases e:gs[(dq bs ps gs l).toNat]? with
  | none=>simp
  | some q=>exact h.len q (aad e)
 exact⟨h.jB,fun g hg=>by have:=h.len g hg;omega⟩
theorem Oc{h:zx}:∀(gs:List bh) (k:Nat),0<=Reg.kY h k gs->(Reg.kY h k gs).toNat<k+gs.length
 | [],k,h0=>by rw[Reg.kY]at h0;omega
 | g::gs,k,h0=>by
  rw[Reg.kY]at h0 ⊢;split
  ·simp only[aaB];omega
  rename_i c;rw[aaa c]at h0;have:=Oc gs (k+1) h0;simp only[aaB];omega
theorem VN{bs:List aS}{ps:List Piece}{l:fo}(h0:0<=dq bs ps gs l):(dq bs ps gs l).toNat<gs.length:=by
 unfold dq at h0 ⊢;split
 ·rename_i c;rw[aap c]at h0;have:=Oc gs 0 h0;omega
 rename_i c;rw[aaa c]at h0;omega
theorem H5(a:fS)(ok:B5 a.bores)(SU:a.lands.length<=1000)(ps:List Piece)(hps:P9 ps)(T:List (List Int))(Yu:T.length=a.bores.length)(Vs:∀x∈T,x.length<=1000000)(hT:∀j,∀p∈T.getD j [],0<=p/\p<ps.length)(R:List bh)(hR:R=a.lands.foldl (s6 a.bores ps) (dR a.bores T ps.length)):
  af C 112 [.aN [.p (.sl (a.coppers.map rr)),.p (aj a.outline),.p (.sl (a.bores.map bc)),.p (.sl (a.lands.map lc)),.p (.sl (gB ps)),.p (.sl (eB ps)),.row 142 [],.p (.sl (T.map uY))]] (.tu []) [.aN [.p (.sl (a.coppers.map rr)),.p (aj a.outline),.p (.sl (a.bores.map bc)),.p (.sl (a.lands.map lc)),.p (.sl (gB ps)),.p (.sl (eB ps)),.row 142 (R.map sT),.p (.sl (T.map uY))]]:=by
 have lb:=ai a.bores bc;have ll:=ai a.lands lc;have lT:=ai T uY;have lp:(eB ps).length=ps.length:=aej ..;have jB:=hps.jB;have Td:=ok.jB;obtain⟨n,hn⟩:∃n,n=ps.length:=⟨_,rfl⟩;rw[<-hn]at hT hR;refine UO ⟨[16],[],[(5,[100000,1100000]),(17,[6,1000006,90002,1090002,100000,1100000])],[5,17],[(5,[true,true,false,false,false,true,true,true,false,true,true,true,true,true]),(17,[true,false,false,false,true,true,true,true,true,true,true,true,true,true,true,true,true,true,true,false,true,true,true])],[]⟩ hC Tryz.func112 rfl (by kernel_rfl) fun _=>⟨_,au.open hC _ 100000 [90002] (by exact rfl) rfl rfl rfl,?_⟩;refine⟨⟨by omega,by omega,by dsimp only;omega,by omega⟩,?_⟩;have h0:(List.replicate (eB ps).length [bool false])=bits (gA T n 0).1:=by rw[bits,gA,lp,<-hn];simp
 refine aJ (fun i:Nat=>i<=n) (fun i=>[(0,.bx 100000 0),(2,.ow 2),(3,.p (i64 i))]) (fun i=>[(100000,.box [.p (.sl (a.coppers.map rr)),.p (aj a.outline),.p (.sl (a.bores.map bc)),.p (.sl (a.lands.map lc)),.p (.sl (gB ps)),.p (.sl (eB ps)),.ow 90002,.p (.sl (T.map uY))]),(2,.row 4 (bits (gA T n i).1)),(90002,.row 142 ((gA T n i).2.map wR))]) (fun i=>n-i) 0 _ (au.refl _ _) (aaj _) ⟨Z,Z,Z,Y⟩ ⟨rfl,adV (AB.row _) h0,Z,Y⟩ fun i hi t h=>?_;obtain⟨f1,f2,f3⟩:=Reg.se (by omega) (by omega) hT i hi;have fJ:=Reg.uS T n i;refine iW ?_ ?_<;>intro g1
 ·have g1:i<n:=by omega
  generalize gA T n i=s at *;obtain⟨D,G⟩:=s;simp only at f1 f2 f3;obtain⟨d,hd⟩:=ak (l:=D) (i:=i) (by omega);have eD:=oD (d:=true) hd;have lD:=oC D;have lG:=ai G wR;refine⟨⟨by omega,by dsimp only;omega⟩,?_⟩;refine⟨[bool d],(kM rfl hd),?_⟩;refine iW ?_ ?_<;>intro g2
  ·have g2:d=false:=by simpa using g2
   rw[j_,aaa (by simp only;rw[eD,g2];decide)]at fJ;refine⟨.ag (wR ⟨(eH T n i D).pieces,(eH T n i D).bores,[]⟩),bits (eH T n i D).seen,(fun ys Ij=>by
    obtain⟨x0,x1,x2,x3,x4,x5,x6,rfl⟩:=YA (by exact Ij);exact FY T n (by omega) (by omega) Vs hT D f1 i (by omega) (by rw[eD,g2]) x0 x1 x2 x3 x4 x5 x6),(fun c hc=>by
    change c∈[AV.p (.sl (a.coppers.map rr)),AV.p (aj a.outline),AV.p (.sl (a.bores.map bc)),AV.p (.sl (a.lands.map lc)),AV.p (.sl (gB ps)),AV.p (.sl (eB ps)),AV.ow 90002,AV.p (.sl (T.map uY))]at hc;simp only[adq,adI,or_false]at hc;rcases hc with rfl | rfl | rfl | rfl | rfl | rfl | rfl | rfl<;>rfl),Ob _,Lb _,?_⟩
   refine⟨⟨fun r hr=>by simp at hr;subst hr;rfl,by simp only[lG,aaB,acs,aaM,aan];omega,by simp only[lG,aaB,acs,aaM,aan];omega⟩,?_⟩;refine⟨⟨by omega,by omega⟩,?_⟩;refine⟨i+1,_,au.Cx _ 38 90002 (by decide) (by decide),?_⟩;exact⟨by omega,by omega,⟨Z,Z,Z,Y⟩,⟨rfl,by rw[fJ];rfl,by rw[fJ,abE];rfl,trivial⟩⟩
  have g2:d=true:=by simpa using g2
  rw[j_,aap (by simp only;rw[eD,g2])]at fJ;refine⟨⟨by omega,by omega⟩,?_⟩;exact⟨(i+1),_,au.refl _ _,by omega,by omega,⟨Z,Z,Z,Y⟩,⟨rfl,by rw[fJ];rfl,by rw[fJ];rfl,trivial⟩⟩
 have e:i=n:=by omega
 subst e;obtain⟨G0,Vu⟩:∃G0,G0=(gA T i i).2:=⟨_,rfl⟩;have hR:R=a.lands.foldl (s6 a.bores ps) (nG a.bores T G0 T.length):=by rw[hR,Vu];rfl
 rw[<-Vu]at f2 f3;have lf:=sf a.bores T f2 f3;refine aJ (fun j:Nat=>j<=T.length) (fun j=>[(0,.bx 100000 0),(4,.p (i64 j))]) (fun j=>[(100000,.box [.p (.sl (a.coppers.map rr)),.p (aj a.outline),.p (.sl (a.bores.map bc)),.p (.sl (a.lands.map lc)),.p (.sl (gB ps)),.p (.sl (eB ps)),.ow 90002,.p (.sl (T.map uY))]),(90002,.row 142 ((nG a.bores T G0 j).map wR))]) (fun j=>T.length-j) 0 _ (au.refl _ _) (aaj _) ⟨Z,Z,Y⟩ ⟨rfl,by rw[Vu];rfl,trivial⟩ fun j hj t h=>?_;obtain⟨lf1,ZU⟩:=lf j;have fJ:=uU a.bores T G0 j;generalize hGe:nG a.bores T G0 j=G at *;have lG:=ai G wR;refine iW ?_ ?_<;>intro g3
 ·obtain⟨L,hL⟩:=ak (l:=T) (i:=j) (by omega);obtain⟨b,hb⟩:=ak (l:=a.bores) (i:=j) (by omega);have eT:=B8 hL;have lL:=ai L fun n=>[i64 n];have eb:bD a.bores j=b.plated:=by rw[bD,ad4,hb];rfl
  rw[w8,eT,eb]at fJ;refine⟨(bc b),(idx rfl hb),?_⟩;refine iW ?_ ?_<;>intro g4
  ·refine⟨(uY L),(idx rfl hL),?_⟩;refine iW ?_ ?_<;>intro g5
   ·rw[aap ⟨g4,by omega⟩]at fJ;refine⟨⟨fun r hr=>by simp at hr;subst hr;rfl,by simp only[lG,aaB,acs,aaM,aan];omega,by simp only[lG,aaB,acs,aaM,aan];omega⟩,?_⟩;refine⟨⟨by omega,by omega⟩,?_⟩;refine⟨j+1,_,(au.Cx _ 79 90002 (by decide) (by decide)).trans (au.P_ (by exact hC) _ 90002 (e:=142) (es:=G.map wR) (r:=[.im (.slice none 0 0),.sl [[i64 j]],.im (.slice none 0 0)]) (r':=wR ⟨[],[(j:Int)],[]⟩) (by exact rfl) (by exact rfl) (fun k x y h1 h2=>?_)),?_⟩;rotate_left;exact⟨by omega,by omega,⟨Z,Z,Y⟩,⟨rfl,by rw[fJ,abE];rfl,trivial⟩⟩
    match k,h1,h2 with
    | 0,h1,h2=>simp[wR]at h1 h2;subst h1;subst h2;exact .inr ⟨rfl,rfl⟩
    | 1,h1,h2=>simp[wR]at h1 h2;subst h1;subst h2;exact .inl rfl
    | 2,h1,h2=>simp[wR]at h1 h2;subst h1;subst h2;exact .inl rfl
    | k+3,h1,h2=>simp at h1
   rw[aaa (fun c=>g5 (by omega))]at fJ;refine⟨⟨by omega,by omega⟩,?_⟩;exact⟨(j+1),_,au.refl _ _,by omega,by omega,⟨Z,Z,Y⟩,⟨rfl,by rw[fJ];rfl,trivial⟩⟩
  rw[aaa (fun c=>by rw[g4]at c;exact absurd c.1 (by decide))]at fJ;refine⟨⟨by omega,by omega⟩,?_⟩;exact⟨(j+1),_,au.refl _ _,by omega,by omega,⟨Z,Z,Y⟩,⟨rfl,by rw[fJ];rfl,trivial⟩⟩
 have e:j=T.length:=by omega
 subst e;have Ja:∀g∈G,g.pins=[]:=fun g hg=>(ZU g hg).1;have hok:Qa 0 G:=⟨by omega,fun g hg=>by obtain⟨b1,b2,b3⟩:=ZU g hg;exact⟨b2,b3,by rw[b1];simp⟩⟩;refine aJ (fun x:Nat×List bh=>(a.lands.drop x.1).foldl (s6 a.bores ps) x.2=R/\Qa x.1 x.2/\x.1<=a.lands.length) (fun x=>[(0,.bx 100000 0),(5,.p (i64 x.1))]) (fun x=>[(100000,.box [.p (.sl (a.coppers.map rr)),.p (aj a.outline),.p (.sl (a.bores.map bc)),.p (.sl (a.lands.map lc)),.p (.sl (gB ps)),.p (.sl (eB ps)),.ow 90002,.p (.sl (T.map uY))]),(90002,.az 142 (x.2.map gh))]) (fun x=>a.lands.length-x.1) (0,G) _ (au.Wg (by exact hC) _ 90002 (e:=142) (es:=G.map wR) (by exact rfl)) ⟨by rw[hR,hGe];rfl,hok,aaj _⟩ ⟨Z,Z,Y⟩ ⟨rfl,adV (AB.az _) (NB Ja),trivial⟩ fun ⟨i',gs⟩ hx t h=>?_;obtain⟨v1,v2,v3⟩:=hx;simp only at v1 v2 v3;refine iW ?_ ?_<;>intro g6<;>try simp only[zB]at g6
 ·obtain⟨l,hl⟩:=ak (l:=a.lands) (i:=i') (by omega);rw[drop_at hl,aaq]at v1;have v4:=Qb (bs:=a.bores) (ps:=ps) v2 l;have Gp:=DC a ok l ps hps gs T v2.jB fun g hg=>⟨(v2.len g hg).1,(v2.len g hg).2.1⟩;refine⟨(lc l),(idx rfl hl),?_⟩;by_cases c:0<=dq a.bores ps gs l
  ·have ZV:=VN c;have J_:s6 a.bores ps gs l=gs.set (dq a.bores ps gs l).toNat (iN (l.part,l.pin) (gs.getD (dq a.bores ps gs l).toNat ⟨[],[],[]⟩)):=by rw[s6,aap c]
   rw[J_]at v1 v4;have ek:((dq a.bores ps gs l).toNat:Int)=dq a.bores ps gs l:=abO c;generalize dq a.bores ps gs l=kk at *;obtain⟨k,rfl⟩:∃k:Nat,kk=k:=⟨kk.toNat,by omega⟩;rw[ad2]at v1 v4 ZV;obtain⟨gg,PG⟩:=ak (l:=gs) (i:=k) ZV;have egg:gs.getD k ⟨[],[],[]⟩=gg:=by rw[ad4,PG];rfl
   rw[egg]at v1 v4;have qg:=(v2.len gg (aad PG)).2.2;have Vx:(gs.map gh).length=gs.length:=aej _;have Vy:=ai gg.pins pc;have abN:=v2.jB;refine⟨[.ip (Lo a ps gs T),.ag (lc l)],_,.cons (.box 100000 0 _ (Lo a ps gs T) (by exact rfl) (.cons (.p _) (.cons (.p _) (.cons (.p _) (.cons (.p _) (.cons (.p _) (.cons (.p _) (.cons (.az 90002 142 (gs.map gh) (gs.map sT) (by exact adV (AB.az _) (by simp only[qO])) (vM _)) (.cons (.p _) .nil))))))))) (.cons (.one (.p _)) .nil),Gp,rfl,?_⟩;refine qy (au.I9 (by exact hC) _ 90002 k 90200 (e:=142) (by decide) (by decide) (by exact adV (AB.az _) (by simp only[qO])) PG (by exact rfl) (by decide)) ?_;have NF:((gs.map gh).set k [.av (.p (ints gg.pieces)),.av (.p (ints gg.bores)),.av (.ow 90200)])[k]?=some [.av (.p (ints gg.pieces)),.av (.p (ints gg.bores)),.av (.ow 90200)]:=ab7 (by rw[Vx];omega);refine⟨⟨by omega,by simp only[aej,aaM];omega⟩,?_⟩;refine⟨[.av (.p (ints gg.pieces)),.av (.p (ints gg.bores)),.av (.ow 90200)],(by first | exact NF | (rw[dC];exact NF;rfl) | (rw[dC,dC];exact NF;rfl;rfl) | (rw[dC,dC,dC];exact NF;rfl;rfl;rfl)),?_⟩;refine⟨⟨fun r hr=>by simp at hr;subst hr;rfl,by simp only[Vy,aaM,aan];omega,by simp only[Vy,aaM,aan];omega⟩,?_⟩;refine⟨⟨by omega,by simp only[aej,aaM];omega⟩,?_⟩;refine⟨[.av (.p (ints gg.pieces)),.av (.p (ints gg.bores)),.av (.ow 90200)],(by first | exact NF | (rw[dC];exact NF;rfl) | (rw[dC,dC];exact NF;rfl;rfl) | (rw[dC,dC,dC];exact NF;rfl;rfl;rfl)),?_⟩;refine⟨⟨by omega,by omega⟩,?_⟩;have SV:((gs.map gh).set k [.av (.p (ints gg.pieces)),.av (.p (ints gg.bores)),.av (.ow 124)]).set k (([.av (.p (ints gg.pieces)),.av (.p (ints gg.bores)),.av (.ow 124)]:List HX).set 2 (.row 205 ((gg.pins++[(l.part,l.pin)]).map pc)))=(gs.set k (iN (l.part,l.pin) gg)).map gh:=by
    rw[aeb,ad8];congr 1;show _=[.av (.p (ints gg.pieces)),.av (.p (ints gg.bores)),I8 (gg.pins++[(l.part,l.pin)])];rw[I_];rfl
   refine⟨(i'+1,gs.set k (iN (l.part,l.pin) gg)),_,au.Bm (by exact hC) _ 90002 k 2 124 (e:=142) (es:=(gs.map gh).set k [.av (.p (ints gg.pieces)),.av (.p (ints gg.bores)),.av (.ow 124)]) (r:=[.av (.p (ints gg.pieces)),.av (.p (ints gg.bores)),.av (.ow 124)]) (e':=205) (xs:=(gg.pins++[(l.part,l.pin)]).map pc) (by decide) (by exact adV (AB.az _) (by refine (adV (fun z=>List.set z ((k:Int).toNat) ([.av (.p (ints gg.pieces)),.av (.p (ints gg.bores)),.av (.ow 124)]:List HX)) (show List.map (fun r=>List.map (HX.cS (sc 124)) r) (List.map (fun r=>List.map (HX.cS (sc 123)) r) ((gs.map gh).set k [.av (.p (ints gg.pieces)),.av (.p (ints gg.bores)),.av (.ow 90200)]))=(gs.map gh).set k [.av (.p (ints gg.pieces)),.av (.p (ints gg.bores)),.av (.ow 90200)] by rw[dC,dC];all_goals rfl)).trans ?_;rw[ad2,aeb])) (by exact adV (AB.row _) (by rw[abE];rfl)) (ab7 (by rw[Vx];omega)) (by exact rfl),?_⟩;exact⟨⟨v1,v4,by simp only;omega⟩,by simp only;omega,⟨Z,Z,Y⟩,⟨rfl,adV (AB.az _) SV,trivial⟩⟩
  have J_:s6 a.bores ps gs l=gs:=by rw[s6,aaa c]
  rw[J_]at v1 v4;refine⟨[.ip (Lo a ps gs T),.ag (lc l)],_,.cons (.box 100000 0 _ (Lo a ps gs T) (by exact rfl) (.cons (.p _) (.cons (.p _) (.cons (.p _) (.cons (.p _) (.cons (.p _) (.cons (.p _) (.cons (.az 90002 142 (gs.map gh) (gs.map sT) (by exact adV (AB.az _) (by simp only[qO])) (vM _)) (.cons (.p _) .nil))))))))) (.cons (.one (.p _)) .nil),Gp,rfl,?_⟩;refine qy (au.refl _ _) ?_;refine iW ?_ ?_<;>intro g7
  ·exfalso;omega
  refine⟨⟨by omega,by omega⟩,?_⟩;exact⟨(i'+1,gs),_,au.refl _ _,⟨v1,v4,by simp only;omega⟩,by simp only;omega,⟨Z,Z,Y⟩,⟨rfl,adV (AB.az _) (by simp only[qO,Fo]),trivial⟩⟩
 rw[ab1 (by omega)]at v1;have v1:gs=R:=v1;subst v1;refine⟨_,au.ID (by exact hC) _ 90002 (gs.map sT) (e:=142) (by exact adV (AB.az _) (by simp only[qO,Fo])) (vM _),?_⟩;exact And.intro rfl (And.intro ⟨Z,Z,Z,Z,Z,Z,Z,Z,Z,Y⟩ trivial)
end M
end Go.Proofs.YtfloceomobknoaaGreatDoor
