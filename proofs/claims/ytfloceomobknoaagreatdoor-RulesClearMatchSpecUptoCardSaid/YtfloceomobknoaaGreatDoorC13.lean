/- Part 13 of the proof of RulesClearMatchSpec. -/
import Derived.Test.YtfloceomobknoaaGreatDoorC12
set_option linter.unusedVariables false
set_option linter.unusedSimpArgs false
set_option maxRecDepth 100000
set_option maxHeartbeats 8000000
namespace Go
abbrev afW:=@List.map_singleton
abbrev afE:=@List.any_eq_false
end Go
namespace Go.Proofs.YtfloceomobknoaaGreatDoor
namespace Reg
def Jk(p q:ae):Bool:=(decide (0<dN p q)&&decide (dO p q=0))||(decide (dN p q=0)&&decide (0<dO p q))
theorem FP{p q:ae}(hp:Full p)(hq:Full q):Jk p q=beside p q:=by
 obtain⟨p1,p2⟩:=hp;obtain⟨q1,q2⟩:=hq;have ex:dN p q=min p.x1 q.x1-max p.x0 q.x0:=rfl;have ey:dO p q=min p.y1 q.y1-max p.y0 q.y0:=rfl;have x0:0<dN p q↔p.x0<q.x1/\q.x0<p.x1:=by rw[ex];omega
 have y0:0<dO p q↔p.y0<q.y1/\q.y0<p.y1:=by rw[ey];omega
 have x1:dN p q=0↔p.x1=q.x0\/q.x1=p.x0:=by rw[ex];omega
 have y1:dO p q=0↔p.y1=q.y0\/q.y1=p.y0:=by rw[ey];omega
 rw[Jk,beside,decide_eq_decide.2 x0,decide_eq_decide.2 y0,decide_eq_decide.2 x1,decide_eq_decide.2 y1,Bool.decide_and,Bool.decide_and,Bool.decide_or,Bool.decide_or];rw[Bool.and_comm (decide (p.x1=q.x0)||decide (q.x1=p.x0))]
def w9(r:List ae)(q:ae):Bool:=r.any fun p=>Jk p q
def nP(b:aS)(p:Piece):Bool:=through b p.layer&&w9 (told p.set) (aa b)
def cZ(b:aS)(ps:List Piece)(k:Nat):List Int:=if b.plated=true then ((List.range k).filter fun i=>nP b (ps.getD i ⟨0,[]⟩)).map fun (i:Nat)=>(i:Int) else []
theorem uN(b:aS):∀(ps:List Piece) (k:Nat),fu b k ps=((List.range ps.length).filter fun i=>fX b (ps.getD i ⟨0,[]⟩)).map fun (i:Nat)=>((k+i:Nat):Int)
 | [],k=>rfl
 | p::ps,k=>by
  rw[fu,uN b ps (k+1),aaB,List.range_succ_eq_map,aby,adk];have e:(((List.range ps.length).filter ((fun i=>fX b ((p::ps).getD i ⟨0,[]⟩))∘Nat.succ)).map Nat.succ).map (fun (i:Nat)=>((k+i:Nat):Int))=((List.range ps.length).filter fun i=>fX b (ps.getD i ⟨0,[]⟩)).map fun (i:Nat)=>((k+1+i:Nat):Int):=by
   rw[ad6];refine aaG fun i _=>?_;show ((k+(i+1):Nat):Int)=_;rw[show k+(i+1)=k+1+i by omega]
  by_cases c:fX b p=true
  ·have c0:fX b ((p::ps).getD 0 ⟨0,[]⟩)=true:=c;rw[aap c,aap c0,aa8,e];rfl
  have c0:¬fX b ((p::ps).getD 0 ⟨0,[]⟩)=true:=c;rw[aaa c,aaa c0,e]
theorem HT{b:aS}(hb:Full (aa b)){ps:List Piece}(hp:∀p∈ps,bE p.set):cZ b ps ps.length=fu b 0 ps:=by
 rw[uN,cZ];by_cases c:b.plated=true
 ·rw[aap c];have e:(List.range ps.length).filter (fun i=>nP b (ps.getD i ⟨0,[]⟩))=(List.range ps.length).filter fun i=>fX b (ps.getD i ⟨0,[]⟩):=by
   refine aeh fun i hi=>?_;have hi:=abD.1 hi;have hm:ps.getD i ⟨0,[]⟩∈ps:=by
    rw[ad4,acg hi];exact adn hi
   have fl:=bP (hp _ hm);rw[nP,fX,c,adr,w9];congr 1;exact oy fun r hr=>FP (fl r hr) hb
  rw[e];refine aaG fun i _=>?_;rw[abC]
 rw[aaa c];have:(List.range ps.length).filter (fun i=>fX b (ps.getD i ⟨0,[]⟩))=[]:=abL.2 fun i _=>by
  simp[fX,c]
 rw[this];rfl
def hD(l:fo):Nat->List Piece->Option Nat
 | _,[]=>none
 | k,p::r=>if pz l p=true then some k else hD l (k+1) r
def jy(l:fo):Nat->List aS->Option Nat
 | _,[]=>none
 | k,b::r=>if mV l b=true then some k else jy l (k+1) r
def vW(bs:List aS)(ps:List Piece)(l:fo):zx×Bool:=match hD l 0 ps with
 | some k=>(⟨false,k⟩,true)
 | none=>match jy l 0 bs with
  | some k=>(⟨true,k⟩,true)
  | none=>(⟨false,0⟩,false)
theorem w_(l:fo):∀(ps:List Piece) (k:Nat),match hD l k ps with
  | some m=>nA l k ps=(⟨false,m⟩,true)/\∃p∈ps,pz l p=true
  | none=>(nA l k ps).2=false/\∀p∈ps,pz l p=false
 | [],k=>⟨rfl,fun p h=>by cases h⟩
 | p::ps,k=>by
  rw[hD,nA];by_cases c:pz l p=true
  ·rw[aap c,aap c];exact⟨rfl,p,adU,c⟩
  rw[aaa c,aaa c];have ih:=w_ l ps (k+1);cases e:hD l (k+1) ps with
  | some m=>
   rw[e]at ih;obtain⟨h1,q,hq,h2⟩:=ih;exact⟨h1,q,aaw _ hq,h2⟩
  | none=>
   rw[e]at ih;refine⟨ih.1,fun q hq=>?_⟩;rcases adq.1 hq with e | hq
   ·rw[e];simpa using c
   exact ih.2 q hq
theorem zZ(l:fo)(ps:List Piece):∀(bs:List aS) (k:Nat),match jy l k bs with
  | some m=>mF l ps k bs=(⟨true,m⟩,true)/\∃b∈bs,mV l b=true
  | none=>mF l ps k bs=nA l 0 ps/\∀b∈bs,mV l b=false
 | [],k=>⟨rfl,fun p h=>by cases h⟩
 | b::bs,k=>by
  rw[jy,mF];by_cases c:mV l b=true
  ·rw[aap c,aap c];exact⟨rfl,b,adU,c⟩
  rw[aaa c,aaa c];have ih:=zZ l ps bs (k+1);cases e:jy l (k+1) bs with
  | some m=>
   rw[e]at ih;obtain⟨h1,q,hq,h2⟩:=ih;exact⟨h1,q,aaw _ hq,h2⟩
  | none=>
   rw[e]at ih;refine⟨ih.1,fun q hq=>?_⟩;rcases adq.1 hq with e | hq
   ·rw[e];simpa using c
   exact ih.2 q hq
def NS(bs:List aS)(ps:List Piece):Prop:=∀p∈ps,∀b∈bs,∀x y,through b p.layer=true->dE x y (aa b)=true->(told p.set).any (dE x y)=false
theorem P1{bs:List aS}{ps:List Piece}(h:NS bs ps)(l:fo):(vW bs ps l).2=(il bs ps l).2/\((il bs ps l).2=true->vW bs ps l=il bs ps l):=by
 have hp:=w_ l ps 0;have hb:=zZ l ps bs 0;rw[il,vW];cases e:hD l 0 ps with
 | some m=>
  rw[e]at hp;obtain⟨p1,p,pm,p2⟩:=hp;cases f:jy l 0 bs with
  | some k=>
   rw[f]at hb;obtain⟨b1,b,bm,b2⟩:=hb;rw[pz,aaZ,aaH]at p2;rw[mV,aaZ,aaZ]at b2;have:=h p pm b bm l.x l.y (by rw[p2.1];exact b2.1.2) b2.2;rw[p2.2]at this;cases this
  | none=>
   rw[f]at hb;rw[hb.1,p1];exact⟨rfl,fun _=>rfl⟩
 | none=>
  rw[e]at hp;cases f:jy l 0 bs with
  | some k=>
   rw[f]at hb;rw[hb.1];exact⟨rfl,fun _=>rfl⟩
  | none=>
   rw[f]at hb;rw[hb.1,hp.1];exact⟨rfl,fun g=>by cases g⟩
def dz(h:zx)(g:bh):Bool:=(h.bore&&mS g.bores h.num)||(!h.bore&&mS g.pieces h.num)
def kY(h:zx):Nat->List bh->Int
 | _,[]=>-1
 | k,g::r=>if dz h g=true then k else kY h (k+1) r
theorem NT{h:zx}:∀{gs:List bh} {m:Nat} {k:Nat} {g:bh},gs[k]?=some g->dz h g=true->(∀i q,gs[i]?=some q->dz h q=true->i=k)->kY h m gs=((m+k:Nat):Int)
 | [],m,k,g,hk,_,_=>by cases hk
 | q::gs,m,k,g,hk,hg,hu=>by
  rw[kY];by_cases c:dz h q=true
  ·rw[aap c];have:=hu 0 q rfl c;rw[<-this];rfl
  rw[aaa c];cases k with
  | zero=>injection hk with hk;rw[hk]at c;exact absurd hg c
  | succ k=>
   rw[NT (k:=k) (g:=g) (by simpa using hk) hg fun i p hi hp=>by have:=hu (i+1) p (by simpa using hi) hp;omega];rw[show m+1+k=m+(k+1) by omega]
end Reg
namespace M
open Go.AM Go.RowKit Go.Lib
open Reg (ae Full aS fo fS aa bO cJ through fT)
theorem xU(n lo hi:Int):af C 187 [.pv (i64 n),.pv (i64 lo),.pv (i64 hi)] (.p (bool (Reg.within n lo hi))) []:=wE n lo hi
theorem di(b:aS)(h:bO b=true):af C 58 [.pv (.ag (bc b))] (.p (.ag (rc (aa b)))) []:=by
 simp[bO,Reg.within,Reg.kR]at h;have h1:0<=b.size.tdiv 2/\b.size.tdiv 2<=b.size:=by
  rw[abk (by omega)];omega
 refine fW hC Tryz.func58 rfl (by kernel_rfl) fun _=>?_;refine⟨by omega,?_⟩;refine⟨⟨by omega,by omega⟩,?_⟩;refine⟨⟨by omega,by omega⟩,?_⟩;refine⟨by omega,?_⟩;refine⟨⟨by omega,by omega⟩,?_⟩;refine⟨⟨by omega,by omega⟩,?_⟩;refine⟨⟨by omega,by omega⟩,?_⟩;refine⟨⟨by omega,by omega⟩,?_⟩;refine⟨?_,trivial⟩;rfl
theorem vX(b:aS):af C 186 [.pv (.ag (bc b))] (.p (i64 (if cJ b=true then 0 else 1))) []:=by
 refine fW hC Tryz.func186 rfl (by kernel_rfl) fun _=>?_;refine⟨_,_,(xU b.size 1 10000),?_⟩;refine iW ?_ ?_<;>intro h1
 ·refine⟨?_,trivial⟩;rw[aaa (by simp only[cJ,bO];rw[h1];simp)];rfl
 refine⟨_,_,(Br b.x b.y),?_⟩;refine iW ?_ ?_<;>intro h2
 ·refine⟨?_,trivial⟩;rw[aaa (by simp only[cJ,bO];rw[h1,h2];simp)];rfl
 have hok:bO b=true:=by simp only[bO];rw[h1,h2];rfl
 have go:cJ b=Reg.c7 (aa b):=by simp only[cJ];rw[hok,adr]
 rw[go];refine⟨_,_,(di b hok),?_⟩;refine⟨_,_,(nJ (aa b).x0),?_⟩;refine iW ?_ ?_<;>intro h3
 ·refine⟨?_,trivial⟩;rw[aaa (by simp only[Reg.c7];rw[h3];simp)];rfl
 refine⟨_,_,(nJ (aa b).y0),?_⟩;refine iW ?_ ?_<;>intro h4
 ·refine⟨?_,trivial⟩;rw[aaa (by simp only[Reg.c7];rw[h4];simp)];rfl
 refine⟨_,_,(nJ (aa b).x1),?_⟩;refine iW ?_ ?_<;>intro h5
 ·refine⟨?_,trivial⟩;rw[aaa (by simp only[Reg.c7];rw[h5];simp)];rfl
 refine⟨_,_,(nJ (aa b).y1),?_⟩;refine iW ?_ ?_<;>intro h6
 ·refine⟨?_,trivial⟩;rw[aaa (by simp only[Reg.c7];rw[h6];simp)];rfl
 refine⟨?_,trivial⟩;rw[aap (by simp only[Reg.c7];rw[h3,h4,h5,h6];rfl)];rfl
theorem pJ(b:aS)(l:Int):af C 110 [.pv (.ag (bc b)),.pv (i64 l)] (.p (bool (through b l))) []:=by
 refine fW hC Tryz.func110 rfl (by kernel_rfl) fun _=>?_;refine iW ?_ ?_<;>intro h<;>(refine⟨?_,trivial⟩)<;>simp[bool,through,h]
def Dx(x y:aS):Bool:=decide (x.lo<=y.hi)&&decide (y.lo<=x.hi)
theorem FQ(x y:aS):af C 106 [.pv (.ag (bc x)),.pv (.ag (bc y))] (.p (bool (Dx x y))) []:=by
 refine fW hC Tryz.func106 rfl (by kernel_rfl) fun _=>?_;refine iW ?_ ?_<;>intro h<;>(refine⟨?_,trivial⟩)<;>simp[bool,Dx,h]
def agz(p q:ae):Bool:=decide (max p.x0 q.x0<min p.x1 q.x1)&&decide (max p.y0 q.y0<min p.y1 q.y1)
theorem Dy(p q:ae):af C 107 [.pv (.ag (rc p)),.pv (.ag (rc q))] (.p (bool (agz p q))) []:=by
 refine fW hC Tryz.func107 rfl (by kernel_rfl) fun _=>?_;refine iW ?_ ?_<;>intro h<;>(refine⟨?_,trivial⟩)<;>simp[bool,agz,h]
theorem NU{p q:ae}(hp:Full p)(hq:Full q):agz p q=decide (fT p q=0):=by
 obtain⟨p1,p2⟩:=hp;obtain⟨q1,q2⟩:=hq;have ex:fT p q=0↔(q.x0<p.x1/\p.x0<q.x1)/\(q.y0<p.y1/\p.y0<q.y1):=by unfold fT Reg.bA;omega
 rw[abb,agz,aaZ,aaH,aaH,aaH,ex];rw[ac6,ac6,Int.min_def,Int.min_def];split<;>split<;>split<;>split<;>omega
theorem NV{x y:aS}(hx:bO x=true)(hy:bO y=true):(Dx x y&&agz (aa x) (aa y))=Reg.eO x y:=by
 rw[NU (Reg.bX hx) (Reg.bX hy)];rfl
open Reg (ee c_ bT db sa)
theorem vY:∀a b:List UInt8,(Lib.compareBytes a b<0↔a<b)/\(Lib.compareBytes a b=0↔a=b)
 | [],[]=>by simp[Lib.compareBytes]
 | [],_::_=>by simp[Lib.compareBytes]
 | _::_,[]=>by simp[Lib.compareBytes]
 | x::a,y::b=>by
  have ih:=vY a b;unfold Lib.compareBytes;rw[List.cons_lt_cons_iff,List.cons.injEq];by_cases e:x=y
  ·subst e;have hx:¬x<x:=UInt8.lt_irrefl x;simp[hx,ih.1,ih.2]
  rcases UInt8.lt_or_lt_of_ne e with h | h
  ·simp[e,h]
  have h2:¬x<y:=UInt8.not_lt.2 (UInt8.le_of_lt h);simp[e,h,h2]
theorem FT(a b:ByteArray):Lib.compareBytes a.data.toList b.data.toList=0↔a=b:=by
 rw[(vY _ _).2];refine⟨fun h=>?_,fun h=>by rw[h]⟩;obtain⟨⟨x⟩⟩:=a;obtain⟨⟨y⟩⟩:=b;simpa using h
theorem Jl(a b:ByteArray):Lib.compareBytes a.data.toList b.data.toList<0↔mO a b=true:=by
 rw[xM];exact (vY _ _).1
theorem NW(p q:ByteArray×ByteArray):(AO p q<=0)↔(mO p.1 q.1||(decide (p.1=q.1)&&(mO p.2 q.2||decide (p.2=q.2))))=true:=by
 have h1:=FT p.1 q.1;have h2:=Jl p.1 q.1;have h3:=FT p.2 q.2;have h4:=Jl p.2 q.2;rw[AO,adZ,aaZ,adZ,aaH,aaH,<-h1,<-h2,<-h3,<-h4];generalize Lib.compareBytes p.1.data.toList q.1.data.toList=u;generalize Lib.compareBytes p.2.data.toList q.2.data.toList=v;split<;>omega
theorem z7(a:fS)(ho:ly a)(i:Nat)(hi:i<a.lands.length):af C 188 [.pv (.ag (dX a)),.pv (i64 i)] (.p (i64 (dQ a.coppers.length a.lands i))) []:=by
 have lm:=ai a.lands lc;have lk:=ai a.coppers fun r=>[aj r];have KH:=ho.cop;have SU:=ho.lan;obtain⟨l,hl⟩:=ak hi;obtain⟨s1,s2⟩:=ho.str l (aad hl);have bad:∀v,(if (lh l.part&&iU l.pin)=true then (if (Reg.within l.layer 0 (a.coppers.length-1)&&(Reg.kR l.x&&Reg.kR l.y))=true then (match a.lands[i-1]? with
   | some q=>if 0<i/\AO (l.part,l.pin) (q.part,q.pin)<=0 then 8 else 0
   | none=>0) else 1) else 5)=v->dQ a.coppers.length a.lands i=v:=fun v hv=>by simp only[dQ,hl];exact hv
 refine fW hC Tryz.func188 rfl (by kernel_rfl) fun _=>?_;refine⟨(lc l),(idx rfl hl),?_⟩;refine⟨_,_,(wH l.part s1),?_⟩;refine iW ?_ ?_<;>intro g1
 ·refine⟨?_,trivial⟩;rw[bad 5 (by rw[aaa (by rw[g1];simp)])];rfl
 refine⟨_,_,(qz l.pin (by unfold ue at s2;omega)),?_⟩;refine iW ?_ ?_<;>intro g2
 ·refine⟨?_,trivial⟩;rw[bad 5 (by rw[aaa (by rw[g2];simp)])];rfl
 refine⟨⟨by omega,by omega⟩,?_⟩;refine⟨_,_,(xU l.layer 0 (((a.coppers.map fun r=>[aj r]).length:Int)-1)),?_⟩;rw[lk];refine iW ?_ ?_<;>intro g3
 ·refine⟨?_,trivial⟩;rw[bad 1 (by rw[aap (by rw[g1,g2];rfl),aaa (by rw[g3];simp)])];rfl
 refine⟨_,_,(Br l.x l.y),?_⟩;refine iW ?_ ?_<;>intro g4
 ·refine⟨?_,trivial⟩;rw[bad 1 (by rw[aap (by rw[g1,g2];rfl),aaa (by rw[g3,g4];simp)])];rfl
 have bad:∀v,(match a.lands[i-1]? with
   | some q=>if 0<i/\AO (l.part,l.pin) (q.part,q.pin)<=0 then 8 else 0
   | none=>0)=v->dQ a.coppers.length a.lands i=v:=fun v hv=>bad v (by rw[aap (by rw[g1,g2];rfl),aap (by rw[g3,g4];rfl)];exact hv)
 refine iW ?_ ?_<;>intro g5
 ·obtain⟨q,hq⟩:=ak (l:=a.lands) (i:=i-1) (by omega);have bad:∀v,(if (mO l.part q.part||(decide (l.part=q.part)&&(mO l.pin q.pin||decide (l.pin=q.pin))))=true then 8 else 0)=v->dQ a.coppers.length a.lands i=v:=fun v hv=>bad v (by
   rw[hq];show (if 0<i/\AO (l.part,l.pin) (q.part,q.pin)<=0 then (8:Int) else 0)=v;have:=NW (l.part,l.pin) (q.part,q.pin);simp only at this;by_cases c:(mO l.part q.part||(decide (l.part=q.part)&&(mO l.pin q.pin||decide (l.pin=q.pin))))=true
   ·rw[aap c]at hv;rw[aap ⟨by omega,this.2 c⟩,hv]
   rw[aaa c]at hv;rw[aaa (fun e=>c (this.1 e.2)),hv])
  refine⟨⟨by omega,by omega⟩,?_⟩;refine⟨(lc q),(idx (show ((i:Int)-1)=((i-1:Nat):Int) by omega) hq),?_⟩;refine iW ?_ ?_<;>intro g6
  ·have o6:mO l.part q.part=true:=g6;refine⟨?_,trivial⟩;rw[bad 8 (by rw[aap (by rw[o6];rfl)])];rfl
  have o6:mO l.part q.part=false:=by simpa [mO] using g6
  refine iW ?_ ?_<;>intro g7
  ·refine iW ?_ ?_<;>intro g8
   ·have o8:(mO l.pin q.pin||decide (l.pin=q.pin))=true:=by simpa [mO] using g8
    refine⟨?_,trivial⟩;rw[bad 8 (by rw[aap (by rw[o8,acd g7];simp)])];rfl
   have o8:(mO l.pin q.pin||decide (l.pin=q.pin))=false:=by simpa [mO] using g8
   refine⟨?_,trivial⟩;rw[bad 0 (by rw[aaa (by rw[o6,o8];simp)])];rfl
  refine⟨?_,trivial⟩;rw[bad 0 (by rw[aaa (by rw[o6,aaz g7];simp)])];rfl
 have bad:dQ a.coppers.length a.lands i=0:=bad 0 (by
  split
  ·rw[aaa (by omega)]
  rfl)
 refine⟨?_,trivial⟩;rw[bad];rfl
def fv(a:fS):Int:=if a.coppers.length=0 then 9 else if 16<a.coppers.length then 2 else
 if db a.coppers≠0 then db a.coppers else
 if Reg.aF a.outline≠0 then Reg.aF a.outline else
 if 2000<sa a.outline.length a.coppers then 2 else
 if bT a≠0 then bT a else c8 a
theorem drop_cons{α:Type}{l:List α}{i:Nat}{x:α}(h:l[i]?=some x):l.drop i=x::l.drop (i+1):=by
 obtain⟨h1,h2⟩:=aao.1 h;rw[acX h1,h2]
theorem xw(a:fS)(ho:ly a):af C 105 [.pv (.ag (dX a))] (.p (i64 (fv a))) []:=by
 have lk:=ai a.coppers fun r=>[aj r];have lo:=ai a.outline rc;have lb:=ai a.bores bc;have ll:=ai a.lands lc;have KH:=ho.cop;have Yg:=ho.out;have abB:=ho.bor;have SU:=ho.lan;obtain⟨F,hF⟩:∃F,F=fv a:=⟨_,rfl⟩;rw[<-hF];rw[fv]at hF;refine fW hC Tryz.func105 rfl (by kernel_rfl) fun _=>?_;refine iW ?_ ?_<;>intro g1
 ·rw[aap (by omega)]at hF;refine⟨?_,trivial⟩;rw[hF];rfl
 rw[aaa (by omega)]at hF;refine iW ?_ ?_<;>intro g2
 ·rw[aap (by omega)]at hF;refine⟨?_,trivial⟩;rw[hF];rfl
 rw[aaa (by omega)]at hF;obtain⟨M,hM⟩:∃M,M=sa a.outline.length a.coppers:=⟨_,rfl⟩;rw[<-hM]at hF;refine aJ (fun x:Nat×Int=>sa x.2 (a.coppers.drop x.1)=M/\db (a.coppers.drop x.1)=db a.coppers/\0<=x.2/\x.2<=1048576+1048576*x.1) (fun x=>[(1,.bx 1 0),(3,.p (i64 x.2)),(4,.p (i64 x.1))]) (fun x=>[(1,.box ((dX a).map .p))]) (fun x=>a.coppers.length-x.1) (0,a.outline.length) _ (au.refl _ _) ⟨hM.symm,rfl,by simp only;omega,by simp only;omega⟩ ⟨rfl,adV (fun m:Nat=>AV.p (i64 m)) lo,Z,Y⟩ ⟨Z,Y⟩ fun ⟨i,n⟩ hx t h=>?_;obtain⟨q1,q2,q3,q4⟩:=hx;simp only at q1 q2 q3 q4;refine iW ?_ ?_<;>intro g3<;>try simp only[zB]at g3
 ·obtain⟨r,hr⟩:=ak (l:=a.coppers) (i:=i) (by omega);have xj:=ho.rcs r (aad hr);have lr:=ai r rc;rw[drop_cons hr]at q1 q2;rw[db]at q2;refine⟨[aj r],(idx rfl hr),?_⟩;refine⟨_,_,(kS r),?_⟩;refine iW ?_ ?_<;>intro g4
  ·have g4:Reg.aF r≠0:=by simpa using g4
   rw[aap g4]at q2;rw[<-q2,aap g4]at hF;refine⟨?_,trivial⟩;rw[hF]
  have g4:Reg.aF r=0:=by simpa using g4
  rw[aaa (by simpa using g4)]at q2;refine⟨[aj r],(idx rfl hr),?_⟩;refine⟨⟨by omega,by omega⟩,?_⟩;refine⟨⟨by omega,by omega⟩,?_⟩;exact⟨(i+1,n+r.length),_,au.refl _ _,⟨q1,q2,by simp only;omega,by simp only;omega⟩,by simp only;omega,⟨rfl,adV (fun m:Nat=>AV.p (i64 (n+m))) lr,Z,Y⟩,⟨Z,Y⟩⟩
 rw[ab1 (by omega)]at q1 q2;have q1:n=M:=q1;have q2:db a.coppers=0:=q2.symm;rw[aaa (by simpa using q2)]at hF;refine⟨_,_,(kS a.outline),?_⟩;refine iW ?_ ?_<;>intro g4
 ·have g4:Reg.aF a.outline≠0:=by simpa using g4
  rw[aap g4]at hF;refine⟨?_,trivial⟩;rw[hF]
 have g4:Reg.aF a.outline=0:=by simpa using g4
 rw[aaa (by simpa using g4)]at hF;refine iW ?_ ?_<;>intro g5<;>try simp only[zB]at g5
 ·rw[aap (by omega)]at hF;refine⟨?_,trivial⟩;rw[hF];rfl
 rw[aaa (by omega)]at hF;have Q1:bT a=if 500<a.bores.length then 2 else c_ a.coppers.length a.bores:=rfl;refine iW ?_ ?_<;>intro g6
 ·rw[aap (by omega)]at Q1;rw[Q1,aap (by decide)]at hF;refine⟨?_,trivial⟩;rw[hF];rfl
 rw[aaa (by omega)]at Q1;rw[Q1]at hF;refine aJ (fun i:Nat=>c_ a.coppers.length (a.bores.drop i)=c_ a.coppers.length a.bores/\i<=a.bores.length) (fun i=>[(1,.bx 1 0),(7,.p (i64 i))]) (fun i=>[(1,.box ((dX a).map .p))]) (fun i=>a.bores.length-i) 0 _ (au.refl _ _) ⟨rfl,aaj _⟩ ⟨Z,Z,Y⟩ ⟨Z,Y⟩ fun i hi t h=>?_;obtain⟨i1,i2⟩:=hi;refine iW ?_ ?_<;>intro g7
 ·obtain⟨b,hb⟩:=ak (l:=a.bores) (i:=i) (by omega);rw[Reg.BC hb]at i1;have sq:(ee b).2=if cJ b=true then 0 else 1:=by rw[ee];split<;>rfl
  rw[sq]at i1;refine⟨(bc b),(idx rfl hb),?_⟩;refine⟨_,_,(vX b),?_⟩;by_cases c:cJ b=true
  ·rw[aap c]at i1 ⊢;rw[aaa (by decide)]at i1;refine⟨⟨by omega,by omega⟩,?_⟩;refine⟨_,_,(xU b.lo 0 (((a.coppers.map fun r=>[aj r]).length:Int)-1)),?_⟩;rw[lk];refine iW ?_ ?_<;>intro g8
   ·rw[aaa (by rw[g8];simp)]at i1;rw[<-i1,aap (by decide)]at hF;refine⟨?_,trivial⟩;rw[hF];rfl
   refine⟨⟨by omega,by omega⟩,?_⟩;refine⟨_,_,(xU b.hi b.lo (((a.coppers.map fun r=>[aj r]).length:Int)-1)),?_⟩;rw[lk];refine iW ?_ ?_<;>intro g9
   ·rw[aaa (by rw[g9];simp)]at i1;rw[<-i1,aap (by decide)]at hF;refine⟨?_,trivial⟩;rw[hF];rfl
   rw[aap (by rw[g8,g9];rfl)]at i1;refine⟨⟨by omega,by omega⟩,?_⟩;exact⟨(i+1),_,au.refl _ _,⟨i1,by omega⟩,by omega,⟨Z,Z,Y⟩,⟨Z,Y⟩⟩
  rw[aaa c]at i1 ⊢;rw[aap (by decide)]at i1;rw[<-i1,aap (by decide)]at hF;refine⟨?_,trivial⟩;rw[hF]
 rw[ab1 (by omega)]at i1;have i1:c_ a.coppers.length a.bores=0:=i1.symm;rw[i1,aaa (by decide)]at hF;refine iW ?_ ?_<;>intro g8
 ·rw[c8,aap (by omega)]at hF;refine⟨?_,trivial⟩;rw[hF];rfl
 rw[c8,aaa (by omega)]at hF;refine aJ (fun i:Nat=>i<=a.lands.length/\∀k,k<i->dQ a.coppers.length a.lands k=0) (fun i=>[(1,.bx 1 0),(10,.p (i64 i))]) (fun i=>[(1,.box ((dX a).map .p))]) (fun i=>a.lands.length-i) 0 _ (au.refl _ _) ⟨aaj _,by omega⟩ ⟨Z,Z,Y⟩ ⟨Z,Y⟩ fun i hi t h=>?_;obtain⟨i2,i3⟩:=hi;refine iW ?_ ?_<;>intro g9
 ·have eF:i<a.lands.length:=by omega
  refine⟨_,_,(z7 a ho i eF),?_⟩;refine iW ?_ ?_<;>intro g10
  ·have g10:dQ a.coppers.length a.lands i≠0:=by simpa using g10
   rw[gY (m:=i) g10 (fun k _ hk=>i3 k hk) (by omega) (by omega)]at hF;refine⟨?_,trivial⟩;rw[hF]
  have g10:dQ a.coppers.length a.lands i=0:=by simpa using g10
  refine⟨⟨by omega,by omega⟩,?_⟩;exact⟨(i+1),_,au.refl _ _,⟨by omega,fun k hk=>by by_cases e:k=i;exact e▸g10;exact i3 k (by omega)⟩,by omega,⟨Z,Z,Y⟩,⟨Z,Y⟩⟩
 rw[eZ fun k _ hk=>i3 k (by omega)]at hF;refine⟨?_,trivial⟩;rw[hF];rfl
open Reg (an bE told aB bR dN dO en cN dD bg kX zQ mW pE kL qR nN cB lU)
def NX(l:List (List ae)):PV:=.sl (l.map fun r=>[aj r])
theorem K2(a b:ae)(ha:jZ a)(hb:jZ b):af C 189 [.pv (.ag (rc a)),.pv (.ag (rc b))] (.p (bool (en a b))) []:=by
 unfold jZ at ha hb;refine fW hC Tryz.func189 rfl (by kernel_rfl) fun _=>?_;refine⟨⟨by omega,by omega⟩,?_⟩;refine⟨⟨by omega,by omega⟩,?_⟩;have e:en a b=((decide (0<min a.x1 b.x1-max a.x0 b.x0)&&decide (0<=min a.y1 b.y1-max a.y0 b.y0))||(decide (0<=min a.x1 b.x1-max a.x0 b.x0)&&decide (0<min a.y1 b.y1-max a.y0 b.y0))):=rfl;rw[e];generalize min a.x1 b.x1-max a.x0 b.x0=u;generalize min a.y1 b.y1-max a.y0 b.y0=v;refine iW ?_ ?_<;>intro h1
 ·refine iW ?_ ?_<;>intro h2
  ·refine⟨?_,trivial⟩;simp[bool,h1,h2]
  refine iW ?_ ?_<;>intro h3
  ·refine⟨?_,trivial⟩;simp[bool,h1,h2,h3]
  refine⟨?_,trivial⟩;simp[bool,h1,h2,h3]
 refine iW ?_ ?_<;>intro h3
 ·refine⟨?_,trivial⟩;simp[bool,h1,h3]
 refine⟨?_,trivial⟩;simp[bool,h1,h3]
theorem uO(l:List (List ae)):∀r∈l.map (fun r=>[aj r]),r.length=1:=by
 intro r hr;obtain⟨n,_,rfl⟩:=adS.1 hr;rfl
theorem Jm{r:List ae}{x:ae}(h:r[0]?=some x):dD r=x:=by rw[dD,ad4,h];rfl
theorem HU(l:List (List ae))(r:List ae)(hr:r≠[])(hl:∀q∈l,q≠[])(hN:l.length<=1000000):af C 190 [.pv (NX l),.pv (aj r)] (.p (NX (zQ l r))) []:=by
 refine uX ⟨[],[0],[],[],[],[]⟩ hC Tryz.func190 rfl (by kernel_rfl) fun _=>?_;have lm:=ai l fun r=>[aj r];obtain⟨x,hx⟩:=ak (l:=r) (i:=0) (by cases r with | nil=>exact absurd rfl hr | cons _ _=>simp);refine p7 (fun k:Nat=>k<=l.length/\kX (dD r) l l.length=k) (fun k=>[(0,.p (NX l)),(1,.p (aj r)),(5,.p (i64 k))]) (fun _=>[]) (fun k hk t h=>?_) ?_
 ·obtain⟨k1,k2⟩:=hk;have hp:zQ l r=(l.take k++[r])++l.drop k:=by rw[zQ,k2]
  refine⟨⟨by decide,by omega,by rw[lm];omega,uO l⟩,?_⟩;refine⟨⟨gJ (uO l),by simp only[aaN,aat,lm];omega,by simp only[aaN,aat,lm];omega⟩,?_⟩;refine⟨⟨by simp,by simp[lm];omega,by simp[lm];omega⟩,?_⟩;refine⟨⟨by omega,by rw[lm];omega,by omega,uO l⟩,?_⟩;refine⟨⟨gJ (uO l),by simp[lm];omega,by simp[lm];omega⟩,?_⟩;refine⟨?_,trivial⟩;rw[hp];simp[NX,aco,acb];rw[adW (by simp)]
 refine aJ (fun k:Nat=>k<=l.length/\kX (dD r) l l.length=kX (dD r) l k) (fun k=>[(0,.p (NX l)),(1,.p (aj r)),(5,.p (i64 k))]) (fun _=>[]) (fun k=>k) l.length _ (au.refl _ _) ⟨aam _,rfl⟩ ⟨rfl,rfl,adV (fun m:Nat=>AV.p (i64 m)) lm,trivial⟩ trivial fun k hk t h=>?_;obtain⟨k1,k2⟩:=hk;refine iW ?_ ?_<;>intro h1
 ·obtain⟨m,rfl⟩:∃m,k=m+1:=⟨k-1,by omega⟩;obtain⟨q,hq⟩:=ak (l:=l) (i:=m) (by omega);have hqn:=hl q (aad hq);obtain⟨z,hz⟩:=ak (l:=q) (i:=0) (by cases q with | nil=>exact absurd rfl hqn | cons _ _=>simp);have hp:kX (dD r) l (m+1)=if Reg.before x z=true then kX (dD r) l m else m+1:=by
   rw[kX,Jm hx,ad4,hq,acy,Jm hz]
  refine⟨(rc x),(idx (i:=0) rfl hx),?_⟩;refine⟨⟨by omega,by omega⟩,?_⟩;refine⟨[aj q],(idx (show ((m+1:Nat):Int)-1=(m:Nat) by omega) hq),?_⟩;refine⟨(rc z),(idx (i:=0) rfl hz),?_⟩;refine⟨_,_,(yL x z),?_⟩;refine iW ?_ ?_<;>intro h2
  ·rw[aap h2]at hp;refine⟨⟨by omega,by omega⟩,?_⟩;exact⟨m,_,au.refl _ _,⟨by omega,by rw[k2,hp]⟩,by omega,⟨rfl,rfl,a8 (by omega),trivial⟩,trivial⟩
  rw[aaa (by rw[h2];decide)]at hp;refine⟨m+1,⟨k1,by rw[k2,hp]⟩,⟨Z,Z,Z,Y⟩,trivial⟩
 have e:k=0:=by omega
 subst e;refine⟨0,⟨aaj _,by rw[k2];rfl⟩,⟨Z,Z,Z,Y⟩,trivial⟩
end M
namespace Reg
variable {D0:List Bool}
theorem s5{n:Nat}{i:Nat}(hl:D0.length=n)(hi:i<n)(hd:D0.getD i true=false):qR n D0 (D0.set i true,[i]):=
 ⟨by show (D0.set i true).length=n;rw[aaM,hl],by simp,fun k hk=>by rw[ab_.1 hk];exact⟨hi,hd⟩,fun k hk=>by
  show (D0.set i true).getD k true=true↔_;rw[jx (by rw[hl];exact hi),ab_];by_cases e:k=i<;>simp[e]⟩
theorem uP{n:Nat}(q:Nat->Nat->Bool):∀(f i:Nat) (s:List Bool×List Nat),qR n D0 s->qR n D0 (kL q n f i s)/\∃t,(kL q n f i s).2=s.2++t
 | 0,i,s,h=>⟨h,[],by simp[kL]⟩
 | f+1,i,s,h=>by
  rw[kL];split
  ·obtain⟨b1,_,t1,b3⟩:=vP (q:=q (s.2.getD i 0)) (List.range n) s h (fun k hk=>abD.1 hk);obtain⟨c1,t2,c2⟩:=uP q f (i+1) (pE (q (s.2.getD i 0)) n s) b1;refine⟨c1,t1++t2,?_⟩;rw[c2,pE,b3,abx]
  exact⟨h,[],by simp⟩
theorem z8(r:List ae):∀i,(cB r i).2.length<=i
 | 0=>by simp[cB]
 | i+1=>by
  have h:=z8 r i;rw[iz,nN];split
  ·omega
  simp only[zQ,acv,aat,aaN,abS];omega
theorem qU(r:List ae):∀i,i<=r.length->(cB r i).1.length=r.length
 | 0,_=>by simp[cB]
 | i+1,hi=>by
  have ih:=qU r i (by omega);rw[iz,nN];split
  ·exact ih
  rename_i hd;exact (uP _ _ _ _ (s5 ih (by omega) (by simpa using hd))).1.len
theorem NY{r:List ae}{s:List Bool×List Nat}(b:qR r.length D0 s):∀q∈s.2.map (fun k=>r.getD k bg),q∈r:=fun q hq=>by
 obtain⟨k,hk,rfl⟩:=adS.1 hq;have:=(b.mem k hk).1;rw[ad4,acg this];exact adn this
theorem piece_ne{r:List ae}(h:∀q∈r,Full q):∀i,i<=r.length->∀q∈(cB r i).2,q≠[]
 | 0,_=>fun q hq=>by simp[cB]at hq
 | i+1,hi=>fun q hq=>by
  have ih:=piece_ne h i (by omega);rw[iz,nN]at hq;split at hq
  ·exact ih q hq
  rename_i hd;have hm:q∈(cB r i).2\/q=bR ((kL (cN r) r.length r.length 0 ((cB r i).1.set i true,[i])).2.map fun k=>r.getD k bg):=by
   simp only[zQ,abi,ab_]at hq;rcases hq with (hq | hq) | hq
   ·exact .inl (acM hq)
   ·exact .inr hq
   exact .inl (abq hq)
  rcases hm with hm | hm
  ·exact ih q hm
  rw[hm];have hs:=s5 (n:=r.length) (D0:=(cB r i).1) (i:=i) (qU r i (by omega)) (by omega) (by simpa using hd);obtain⟨g1,t,g2⟩:=uP (cN r) r.length 0 _ hs;refine uH (fun u hu=>h u (NY g1 u hu)) fun e=>?_;rw[abO]at e;rw[e]at g2;exact absurd g2 (by simp)
theorem P2(q:Nat->Nat->Bool)(n f i:Nat)(s:List Bool×List Nat)(h:¬i<s.2.length):kL q n f i s=s:=by
 cases f with
 | zero=>rfl
 | succ f=>rw[kL,aaa h]
theorem z_{n k:Nat}(h:k<n):(List.range n).drop k=k::(List.range n).drop (k+1):=by
 rw[acX (by simpa using h),List.getElem_range]
end Reg
namespace M
open Go.AM Go.RowKit Go.Lib
open Reg (ae an bE cv Full RK told aB bR en cN dD bg zQ mW pE kL qR nN cB lU)
def bits(l:List Bool):List (List PV):=l.map fun b=>[bool b]
theorem oC(l:List Bool):(bits l).length=l.length:=aej ..
theorem kM{l:List Bool}{i:Int}{k:Nat}{b:Bool}(h:i=k)(hx:l[k]?=some b):(bits l)[i.toNat]?=some [bool b]:=by
 rw[h,ad2,bits,aak,hx];rfl
theorem qV(l:List Bool)(k:Nat)(b:Bool):(bits l).set k [bool b]=bits (l.set k b):=by rw[bits,bits,ad8]
def qW(r:List ae)(o:List Nat):List (List PV):=(o.map fun k=>r.getD k bg).map rc
theorem B3(r:List ae)(o:List Nat):(qW r o).length=o.length:=by rw[qW,aej,aej]
theorem aeu{r:List ae}{o:List Nat}{i:Int}{k m:Nat}{q:ae}(h:i=k)(hx:o[k]?=some m)(hq:r[m]?=some q):(qW r o)[i.toNat]?=some (rc q):=by
 rw[h,ad2,qW,aak,aak,hx];simp only[ab6,ad4,hq,acy]
theorem HV{r:List ae}{o:List Nat}{m:Nat}{q:ae}(hq:r[m]?=some q):qW r o++[rc q]=qW r (o++[m]):=by
 rw[qW,qW,abE,abE,afW,afW,ad4,hq,acy]
theorem oD{l:List Bool}{k:Nat}{b d:Bool}(h:l[k]?=some b):l.getD k d=b:=by rw[ad4,h];rfl
theorem vZ{l:List ae}{k:Nat}{b d:ae}(h:l[k]?=some b):l.getD k d=b:=by rw[ad4,h];rfl
structure Aa(r:List ae):Prop where
 jB:r.length<=2000
 full:∀q∈r,Full q
 inK:∀q∈r,RK 1400000 q
theorem NZ{r:List ae}(h:Aa r){q:ae}(hq:q∈r):jZ q:=by
 have h1:=h.full q hq;have h2:=h.inK q hq;unfold RK at h2;unfold Full at h1;unfold jZ;omega
theorem uQ(r:List ae)(ok:Aa r):af C 109 [.pv (aj r)] (.p (NX (lU r))) []:=by
 have lm:=ai r rc;have jB:=ok.jB;refine fW hC Tryz.func109 rfl (by kernel_rfl) fun _=>?_;refine⟨⟨by omega,by omega,by dsimp only;omega,by omega⟩,?_⟩;have h0:(List.replicate (r.map rc).length [bool false])=bits (cB r 0).1:=by rw[bits,cB];simp
 refine aJ (fun i:Nat=>i<=r.length) (fun i=>[(0,.p (aj r)),(3,.ow 3),(4,.p (NX (cB r i).2)),(5,.p (i64 i))]) (fun i=>[(3,.row 4 (bits (cB r i).1))]) (fun i=>r.length-i) 0 _ (au.nil hC _ 4 rfl) (aaj _) ⟨Z,Z,Z,Z,Y⟩ ⟨adV (AB.row _) h0,trivial⟩ fun i hi t h=>?_;refine iW ?_ ?_<;>intro h1
 ·rw[lm]at h1;have hd:=Reg.qU r i hi;have qg:=Reg.z8 r i;have Yq:=Reg.piece_ne ok.full i hi;have fJ:=Reg.iz r i;obtain⟨d,S7⟩:=ak (l:=(cB r i).1) (i:=i) (by omega);obtain⟨q0,ZL⟩:=ak (l:=r) (i:=i) (by omega);generalize cB r i=s at *;obtain⟨D0,L⟩:=s;have hd:D0.length=r.length:=hd;have qg:L.length<=i:=qg;have Yq:∀q∈L,q≠[]:=Yq;have S7:D0[i]?=some d:=S7;have lD:=oC D0;have eD:=oD (d:=true) S7;refine⟨⟨by omega,by dsimp only;omega⟩,?_⟩;refine⟨[bool d],(kM rfl S7),?_⟩;refine iW ?_ ?_<;>intro h2
  ·rw[nN,aap (by rw[eD];exact h2)]at fJ;refine⟨⟨by omega,by omega⟩,?_⟩;exact⟨(i+1),_,au.refl _ _,by omega,by omega,⟨rfl,rfl,by rw[fJ];rfl,Z,Y⟩,⟨by rw[fJ];rfl,trivial⟩⟩
  have ZM:D0.getD i true=false:=by rw[eD];simpa using h2
  have xl:=Reg.s5 (n:=r.length) hd (by omega) ZM;obtain⟨F,hF⟩:∃F,F=kL (cN r) r.length r.length 0 (D0.set i true,[i]):=⟨_,rfl⟩;rw[nN,aaa (by rw[ZM];decide),<-hF]at fJ;refine⟨⟨by omega,by dsimp only;omega⟩,?_⟩;refine⟨[bool d],(kM rfl S7),?_⟩;refine⟨(rc q0),(idx rfl ZL),?_⟩;refine aJ (fun x:Nat×List Bool×List Nat=>kL (cN r) r.length (r.length-x.1) x.1 x.2=F/\qR r.length D0 x.2/\x.1<=x.2.2.length) (fun x=>[(0,.p (aj r)),(3,.ow 3),(4,.p (NX L)),(5,.p (i64 i)),(6,.ow 6),(7,.p (i64 x.1))]) (fun x=>[(3,.row 4 (bits x.2.1)),(6,.row 87 (qW r x.2.2))]) (fun x=>r.length-x.1) (0,D0.set i true,[i]) _ (au.refl _ _) ⟨hF.symm,xl,aaj _⟩ ⟨Z,Z,Z,Z,Z,Z,Y⟩ ⟨adV (AB.row _) (qV D0 i true),adV (AB.row _) (by rw[qW,afW,vZ ZL];rfl),trivial⟩ fun ⟨at',D,o⟩ hx t h=>?_;obtain⟨x1,x2,x3⟩:=hx;simp only at x1 x2 x3;have lo:=B3 r o;have ole:=x2.le;simp only at ole;refine iW ?_ ?_<;>intro h3<;>try simp only[zB]at h3
  ·rw[lo]at h3;obtain⟨m,hm⟩:=ak (l:=o) (i:=at') (by omega);have hmn:=(x2.mem m (aad hm)).1;obtain⟨qm,Om⟩:=ak (l:=r) (i:=m) hmn;have N0:kL (cN r) r.length (r.length-at') at' (D,o)=kL (cN r) r.length (r.length-(at'+1)) (at'+1) (pE (cN r m) r.length (D,o)):=by
    rw[show r.length-at'=(r.length-(at'+1))+1 by omega,kL,aap (by simp only;omega),ad4,hm];rfl
   rw[N0]at x1;refine aJ (fun y:Nat×List Bool×List Nat=>((List.range r.length).drop y.1).foldl (mW (cN r m)) y.2=pE (cN r m) r.length (D,o)/\qR r.length D0 y.2/\y.2.2[at']?=some m/\y.1<=r.length) (fun y=>[(0,.p (aj r)),(3,.ow 3),(4,.p (NX L)),(5,.p (i64 i)),(6,.ow 6),(7,.p (i64 at')),(8,.p (i64 y.1))]) (fun y=>[(3,.row 4 (bits y.2.1)),(6,.row 87 (qW r y.2.2))]) (fun y=>r.length-y.1) (0,D,o) _ (au.refl _ _) ⟨rfl,x2,hm,aaj _⟩ ⟨Z,Z,Z,Z,Z,Z,Z,Y⟩ ⟨Z,Z,Y⟩ fun ⟨k,E,p⟩ hy t h=>?_;obtain⟨y1,y2,y3,y4⟩:=hy;simp only at y1 y2 y3 y4;have lp:=B3 r p;have lE:=oC E;have eE:E.length=r.length:=y2.len;have ple:=y2.le;simp only at ple;have VJ:=(aao.1 y3).1;refine iW ?_ ?_<;>intro h4<;>try simp only[zB]at h4
   ·rw[lm]at h4;have h4:k<r.length:=by omega
    obtain⟨e,he⟩:=ak (l:=E) (i:=k) (by omega);obtain⟨qk,VK⟩:=ak (l:=r) (i:=k) (by omega);have gE:=oD (d:=true) he;have ZN:cN r m k=en qm qk:=by rw[cN,vZ Om,vZ VK]
    rw[Reg.z_ h4,aaq]at y1;obtain⟨b1,_,tl,b3⟩:=Reg.Jf (q:=cN r m) y2 h4;have nm:(mW (cN r m) (E,p) k).2[at']?=some m:=by rw[b3,aaE VJ];exact y3
    refine⟨⟨by omega,by dsimp only;omega⟩,?_⟩;refine⟨[bool e],(kM rfl he),?_⟩;refine iW ?_ ?_<;>intro h5
    ·have h5:e=false:=by simpa using h5
     refine⟨⟨by omega,by dsimp only;omega⟩,?_⟩;refine⟨(rc qm),(aeu rfl y3 Om),?_⟩;refine⟨(rc qk),(idx rfl VK),?_⟩;refine⟨_,_,(K2 qm qk (NZ ok (aad Om)) (NZ ok (aad VK))),?_⟩;refine iW ?_ ?_<;>intro h6
     ·have hk:mW (cN r m) (E,p) k=(E.set k true,p++[k]):=by rw[mW,aap ⟨by simp only;rw[gE,h5],by rw[ZN,h6]⟩]
      rw[hk]at y1 b1 nm;refine⟨⟨by omega,by dsimp only;omega⟩,?_⟩;refine⟨[bool e],(kM rfl he),?_⟩;refine⟨(rc qk),(idx rfl VK),?_⟩;refine⟨⟨fun r hr=>by simp at hr;subst hr;rfl,by simp only[lp,aaB,acs,aaM,aan];omega,by simp only[lp,aaB,acs,aaM,aan];omega⟩,?_⟩;refine⟨⟨by omega,by omega⟩,?_⟩;exact⟨(k+1,E.set k true,p++[k]),_,au.refl _ _,⟨y1,b1,nm,by simp only;omega⟩,by simp only;omega,⟨Z,Z,Z,Z,Z,Z,Z,Y⟩,⟨adV (AB.row _) (qV E k true),adV (AB.row _) (HV VK),trivial⟩⟩
     have hk:mW (cN r m) (E,p) k=(E,p):=by rw[mW,aaa (fun c=>by rw[ZN,h6]at c;exact absurd c.2 (by decide))]
     rw[hk]at y1 b1 nm;refine⟨⟨by omega,by omega⟩,?_⟩;exact⟨(k+1,E,p),_,au.refl _ _,⟨y1,b1,nm,by simp only;omega⟩,by simp only;omega,⟨Z,Z,Z,Z,Z,Z,Z,Y⟩,⟨Z,Z,Y⟩⟩
    have h5:e=true:=by simpa using h5
    have hk:mW (cN r m) (E,p) k=(E,p):=by rw[mW,aaa (fun c=>by simp only at c;rw[gE,h5]at c;exact absurd c.1 (by decide))]
    rw[hk]at y1 b1 nm;refine⟨⟨by omega,by omega⟩,?_⟩;exact⟨(k+1,E,p),_,au.refl _ _,⟨y1,b1,nm,by simp only;omega⟩,by simp only;omega,⟨Z,Z,Z,Z,Z,Z,Z,Y⟩,⟨Z,Z,Y⟩⟩
   rw[lm]at h4;rw[ab1 (by rw[abV];omega)]at y1;have y1:(E,p)=pE (cN r m) r.length (D,o):=y1;rw[<-y1]at x1;refine⟨⟨by omega,by omega⟩,?_⟩;exact⟨(at'+1,E,p),_,au.refl _ _,⟨x1,y2,by simp only;omega⟩,by simp only;omega,⟨Z,Z,Z,Z,Z,Z,Y⟩,⟨Z,Z,Y⟩⟩
  rw[lo]at h3;rw[Reg.P2 _ _ _ _ _ (by simpa using h3)]at x1;rw[<-x1]at fJ;have own:=Reg.NY x2;have nem:(o.map fun k=>r.getD k bg)≠[]:=fun e=>by
   rw[abO]at e;obtain⟨_,t,c2⟩:=Reg.uP (cN r) r.length 0 _ xl;rw[<-hF,<-x1,e]at c2;exact absurd c2 (by simp)
  have NR:=vR (l:=o.map fun k=>r.getD k bg) (fun q hq=>ok.full q (own q hq)) (fun q hq=>ok.inK q (own q hq)) (by rw[aej];omega);have Yr:=HU L (bR (o.map fun k=>r.getD k bg)) (Reg.uH (fun q hq=>ok.full q (own q hq)) nem) Yq (by omega);refine⟨_,_,NR,?_⟩;refine⟨_,_,Yr,?_⟩;refine⟨⟨by omega,by omega⟩,?_⟩;exact⟨(i+1),_,au.refl _ _,by omega,by omega,⟨rfl,rfl,by rw[fJ];rfl,Z,Y⟩,⟨by rw[fJ];rfl,trivial⟩⟩
 rw[lm]at h1;have e:i=r.length:=by omega
 refine⟨?_,trivial⟩;rw[e];rfl
open Reg (bN cV aS fo fS Piece aa bO through bq bU gO bG qL eG eO aeH da I7)
variable {bs:List aS}
theorem HW{i:Nat}{b:aS}(k:Int)(h:bs[i]?=some b):bq (bs.take (i+1)) k=if through b k=true then bq (bs.take i) k++[aa b] else bq (bs.take i) k:=by
 rw[aZ h,bq,bq,acA,abE];by_cases c:through b k=true
 ·rw[aap c,aby,aap c];rfl
 rw[aaa c,aby,aaa c];simp
theorem B4(bs:List aS)(k:Int):(bq bs k).length<=bs.length:=by rw[bq,aej];exact adb _ _
structure B5(bs:List aS):Prop where
 jB:bs.length<=500
 ok:∀b∈bs,bO b=true
theorem N1(h:∀b∈bs,bO b=true)(k:Int):(∀q∈bq bs k,Full q)/\∀q∈bq bs k,RK 1400000 q:=by
 refine⟨fun q hq=>?_,fun q hq=>?_⟩
 ·obtain⟨b,hb,rfl⟩:=adS.1 hq;exact Reg.bX (h b (adu.1 hb).1)
 obtain⟨b,hb,rfl⟩:=adS.1 hq;have:=Reg.er (h b (adu.1 hb).1);unfold RK at this ⊢;omega
theorem nF{r:List ae}(h:Reg.aF r=0):told (aB r)=r:=by
 unfold Reg.aF at h;split at h
 ·split at h
  ·split at h
   ·assumption
   cases h
  cases h
 rename_i c;exact absurd h c
theorem qX(a:fS)(ok:B5 a.bores)(k:Nat)(r:List ae)(hr:a.coppers[k]?=some r)(h0:Reg.aF r=0):af C 108 [.pv (.ag (dX a)),.pv (i64 k)] (.p (aj (told (bU a.bores k r)))) []:=by
 have lb:=ai a.bores bc;have jB:=ok.jB;have rg:=ph h0;have dr:=jV ok.ok jB k h0;obtain⟨hf,hk⟩:=N1 ok.ok (k:Int);obtain⟨b1,_,b3⟩:=Reg.aR hf;have hl:=B4 a.bores k;have NR:=vR hf hk (by omega);have RJ:=Reg.fj b1 (b3 _ hk);have FU:=mL rg.sok b1 (rg.ink.up (by omega)) (b3 _ hk) (by
  have:=rg.len;rw[nF h0];have h2:=rW (bq a.bores k) (by omega);have h3:(told (aB (bq a.bores k))).length<=500*1000000*2:=by
   have e:=nq (Reg.cg (bq a.bores k) (Reg.aE (bq a.bores k)) ((Reg.aE (bq a.bores k)).length-1)) (fun t ht=>by have:=oW (bq a.bores k) (Reg.aE (bq a.bores k)) _ t ht;omega);have e2:=gK (bq a.bores k) (Reg.aE (bq a.bores k)) ((Reg.aE (bq a.bores k)).length-1);have e3:=dm (bq a.bores k);have e4:(Reg.cg (bq a.bores k) (Reg.aE (bq a.bores k)) ((Reg.aE (bq a.bores k)).length-1)).length*1000000<=1000*1000000:=abf _ (by omega);have e5:told (aB (bq a.bores k))=told (Reg.cg (bq a.bores k) (Reg.aE (bq a.bores k)) ((Reg.aE (bq a.bores k)).length-1)):=rfl;rw[e5];omega
  omega)
 rw[nF h0]at FU;refine uX ⟨[7],[],[],[],[],[]⟩ hC Tryz.func108 rfl (by kernel_rfl) fun _=>?_;refine aJ (fun i:Nat=>i<=a.bores.length) (fun i=>[(1,.p (i64 k)),(2,.bx 2 0),(5,.ow 5),(6,.p (i64 i))]) (fun i=>[(2,.box ((dX a).map .p)),(5,.row 87 ((bq (a.bores.take i) k).map rc))]) (fun i=>a.bores.length-i) 0 _ (au.dk hC _ 5 87 _ (by decide) rfl rfl (by decide)) (aaj _) ⟨Z,Z,Z,Z,Y⟩ ⟨Z,Z,Y⟩ fun i hi t h=>?_;have ll:=ai (bq (a.bores.take i) k) rc;have F4:=B4 (a.bores.take i) k;rw[aat]at F4;refine iW ?_ ?_<;>intro h1
 ·obtain⟨b,hb⟩:=ak (l:=a.bores) (i:=i) (by omega);have hs:=HW (k:Int) hb;refine⟨(bc b),(idx rfl hb),?_⟩;refine⟨_,_,(pJ b k),?_⟩;refine iW ?_ ?_<;>intro h2
  ·rw[aap h2]at hs;refine⟨(bc b),(idx rfl hb),?_⟩;refine⟨_,_,(di b (ok.ok b (aad hb))),?_⟩;refine⟨⟨fun r hr=>by simp at hr;subst hr;rfl,by simp only[ll,aaB,acs,aaM,aan];omega,by simp only[ll,aaB,acs,aaM,aan];omega⟩,?_⟩;refine⟨⟨by omega,by omega⟩,?_⟩;exact⟨(i+1),_,au.refl _ _,by omega,by omega,⟨Z,Z,Z,Z,Y⟩,⟨rfl,by rw[hs,abE];rfl,trivial⟩⟩
  rw[aaa (by rw[h2];decide)]at hs;refine⟨⟨by omega,by omega⟩,?_⟩;exact⟨(i+1),_,au.refl _ _,by omega,by omega,⟨Z,Z,Z,Z,Y⟩,⟨rfl,by rw[hs];rfl,trivial⟩⟩
 have e:a.bores.take i=a.bores:=adW (by omega);rw[e]at *;refine qy (au.own (by exact hC) _ 5 (id:=5) (by exact rfl) (by exact rfl)) ?_;refine⟨[aj r],(idx rfl hr),?_⟩;refine⟨_,_,NR,?_⟩;refine⟨_,_,FU,?_⟩;refine⟨?_,trivial⟩;rfl
open Reg (BR fT afd aC ax a_ coreS P4)
def nQ(b:Break):List PV:=[i64 b.kind,i64 b.a,i64 b.b,i64 b.is,i64 b.need,i64 b.spot.1,i64 b.spot.2]
theorem af4(bs:List aS)(ps:List Piece)(o:List Int×List Int):∀(l:List Reg.fo) (s:Reg.qN),(l.foldl (Reg.uA bs ps o) s).groups.length=s.groups.length
 | [],s=>rfl
 | x::l,s=>by
  rw[aaq,af4 bs ps o l];simp only[Reg.uA];split
  ·rw[aaM]
  rfl
theorem agL(a:fS):(aC a).placed.groups.length=(Reg.jn a.bores (aC a).pieces.length (Reg.aP (Reg.cQ (Reg.jm (aC a).pieces.length a.bores.length (aC a).bB)) ((aC a).pieces.length+a.bores.length))).2.length:=af4 _ _ _ _ _
theorem afM{a:fS}(gd:Ft a){nets:List ByteArray}(hn:nets.length=(aC a).placed.groups.length){i:Nat}(hi:i<(aC a).pieces.length):∃(k:Nat) (s:ByteArray),(aC a).ofPiece[i]?=some (k:Int)/\(aC a).ofPiece.getD i 0=(k:Int)/\nets[k]?=some s/\aft nets (k:Int)=s:=by
 obtain⟨k,g,h1,h2,_⟩:=gd.gr.a i hi;have hk:=(aao.1 h2).1;have h1:(aC a).ofPiece[i]?=some (k:Int):=h1;rw[<-agL,<-hn]at hk;obtain⟨s,hs⟩:=ak hk;exact⟨k,s,h1,by rw[ad4,h1];rfl,hs,by rw[aft,ad2,ad4,hs];rfl⟩
theorem agA(r:cP)(hg:zd r)(a:fS)(gd:Ft a)(nets:List ByteArray)(hn:nets.length=(aC a).placed.groups.length):af C 70 [.pv (.ag (rl r)),.pv (.ip (kW a)),.pv (strs nets)] (.own 47 ((aeE r (aC a) nets 0 (aC a).pieces).map nQ)) []:=by
 have lp:=ai (aC a).pieces jb;have jB:=gd.jB;obtain⟨G,hG⟩:∃G,G=aeE r (aC a) nets 0 (aC a).pieces:=⟨_,rfl⟩;rw[<-hG];refine uX ⟨[5],[],[],[],[],[]⟩ hC Tryz.func70 rfl (by kernel_rfl) fun _=>?_;refine aJ (fun x:Nat×List Break=>x.2++aeE r (aC a) nets x.1 ((aC a).pieces.drop x.1)=G/\x.2.length<=2000*x.1/\x.1<=(aC a).pieces.length) (fun x=>[(1,.p (.ip (kW a))),(2,.p (strs nets)),(3,.p (.ip (rl r))),(7,.ow 7),(18,.p (.sl ((aC a).pieces.map jb))),(19,.p (i64 (aC a).pieces.length)),(20,.p (i64 x.1))]) (fun x=>[(7,.row 47 (x.2.map nQ))]) (fun x=>(aC a).pieces.length-x.1) (0,[]) _ ((au.dk (by exact hC) _ 7 47 _ (by decide) (by exact rfl) (by exact rfl) (by decide)).trans (au.gD (by exact hC) _ 3 (y:=.ip (rl r)) (fz:=[(3,.jd (rl r))]) (by exact⟨rfl,rfl⟩))) ⟨by rw[hG];rfl,by simp,aaj _⟩ ⟨rfl,rfl,rfl,rfl,rfl,adV (fun m:Nat=>AV.p (i64 m)) lp,Z,Y⟩ ⟨Z,Y⟩ fun ⟨i,o⟩ hx t h=>?_;obtain⟨x1,x2,x3⟩:=hx;simp only at x1 x2 x3;refine iW ?_ ?_<;>intro g1<;>try simp only[zB]at g1
 ·obtain⟨p,hp⟩:=ak (l:=(aC a).pieces) (i:=i) (by omega);have gp:=gd.pc p (aad hp);obtain⟨gi,si,i1,i2,i3,i4⟩:=afM gd hn (i:=i) (by omega);rw[drop_at hp,aeE]at x1;refine⟨(jb p),(idx rfl hp),?_⟩;refine xp 9 (y:=.ip (jb p)) (fz:=[(9,.jd (jb p))]) (by exact hC) (by exact⟨rfl,rfl⟩) ?_;refine⟨⟨by omega,by omega⟩,?_⟩;refine aJ (fun y:Nat×List Break=>y.2++(aeX r (aC a) nets i p y.1 ((aC a).pieces.drop y.1)++aeE r (aC a) nets (i+1) ((aC a).pieces.drop (i+1)))=G/\y.2.length<=2000*i+y.1/\i+1<=y.1/\y.1<=(aC a).pieces.length) (fun y=>[(1,.p (.ip (kW a))),(2,.p (strs nets)),(3,.p (.ip (rl r))),(7,.ow 7),(8,.p (i64 i)),(9,.p (.ip (jb p))),(10,.p (i64 y.1)),(18,.p (.sl ((aC a).pieces.map jb))),(19,.p (i64 (aC a).pieces.length)),(20,.p (i64 i))]) (fun y=>[(7,.row 47 (y.2.map nQ))]) (fun y=>(aC a).pieces.length-y.1) (i+1,o) _ (au.refl _ _) ⟨x1,by simp only;omega,by simp only;omega,by simp only;omega⟩ ⟨Z,Z,Z,Z,Z,Z,Z,Z,Z,Z,Y⟩ ⟨Z,Y⟩ fun ⟨k,o'⟩ hy t h=>?_;obtain⟨nR,VP,VQ,VR⟩:=hy;simp only at nR VP VQ VR;refine iW ?_ ?_<;>intro g2<;>try simp only[zB]at g2
  ·rw[lp]at g2;obtain⟨q,hq⟩:=ak (l:=(aC a).pieces) (i:=k) (by omega);have gq:=gd.pc q (aad hq);obtain⟨gk,sk,k1,k2,k3,k4⟩:=afM gd hn (i:=k) (by omega);rw[drop_at hq,aeX]at nR;refine⟨(jb q),(idx rfl hq),?_⟩;refine iW ?_ ?_<;>intro g3
   ·have g3':q.layer=p.layer:=g3;rw[aap g3',aff,i2,k2,i4,k4]at nR;refine⟨[i64 gi],(idx rfl i1),?_⟩;refine⟨[i64 gk],(idx rfl k1),?_⟩;refine iW ?_ ?_<;>intro g4
    ·rw[aap g4,acZ]at nR;refine⟨⟨by omega,by omega⟩,?_⟩;exact⟨(k+1,o'),_,au.refl _ _,⟨nR,by simp only;omega,by simp only;omega,by simp only;omega⟩,by simp only;omega,⟨Z,Z,Z,Z,Z,Z,Z,Z,Z,Z,Y⟩,⟨Z,Y⟩⟩
    rw[aaa g4]at nR;have hga:=agw (told p.set) (told q.set) (fun r hr=>by
     obtain⟨a1,a2,a3,a4⟩:=Reg.Q8 (Reg.bP gp.sok r hr) (Reg.fR gp.sok gp.ink r hr);exact⟨⟨by omega,by omega⟩,⟨by omega,by omega⟩,⟨by omega,by omega⟩,⟨by omega,by omega⟩⟩) (fun r hr=>by
     obtain⟨a1,a2,a3,a4⟩:=Reg.Q8 (Reg.bP gq.sok r hr) (Reg.fR gq.sok gq.ink r hr);exact⟨⟨by omega,by omega⟩,⟨by omega,by omega⟩,⟨by omega,by omega⟩,⟨by omega,by omega⟩⟩) (by have:=gp.jB;omega) (by have:=gq.jB;omega)
    generalize afd (told p.set) (told q.set)=Q0 at *;have b8:=agv r hg si sk p.layer Q0.src.1 Q0.src.2;generalize aeZ r si sk p.layer Q0.src.1 Q0.src.2=need at *;refine⟨(jb q),(idx rfl hq),?_⟩;refine⟨_,_,hga,?_⟩;refine⟨[str si],(idx rfl i3),?_⟩;refine⟨[str sk],(idx rfl k3),?_⟩;refine⟨_,_,b8,?_⟩;refine iW ?_ ?_<;>intro g5
    ·rw[aap g5]at nR;refine⟨⟨fun r hr=>by simp at hr;subst hr;rfl,by simp only[aej,aaM,aan,acv,aaB,acs];omega,by simp only[aej,aaM,aan,acv,aaB,acs];omega⟩,?_⟩;refine⟨⟨by omega,by omega⟩,?_⟩;exact⟨(k+1,o'++[⟨1,i,k,Q0.dist,need,Q0.src⟩]),_,au.refl _ _,⟨by rw[<-nR];simp only[abx,ac3,aaI,acZ],by simp only[acv,abS];omega,by simp only;omega,by simp only;omega⟩,by simp only;omega,⟨Z,Z,Z,Z,Z,Z,Z,Z,Z,Z,Y⟩,⟨by rw[abE];rfl,trivial⟩⟩
    rw[aaa g5,acZ]at nR;refine⟨⟨by omega,by omega⟩,?_⟩;exact⟨(k+1,o'),_,au.refl _ _,⟨nR,by simp only;omega,by simp only;omega,by simp only;omega⟩,by simp only;omega,⟨Z,Z,Z,Z,Z,Z,Z,Z,Z,Z,Y⟩,⟨Z,Y⟩⟩
   have g3':¬q.layer=p.layer:=g3;rw[aaa g3',acZ]at nR;refine⟨⟨by omega,by omega⟩,?_⟩;exact⟨(i+1,o'),_,au.refl _ _,⟨nR,by simp only;omega,by simp only;omega⟩,by simp only;omega,⟨Z,Z,Z,Z,Z,Z,Z,Y⟩,⟨Z,Y⟩⟩
  rw[lp]at g2;rw[ab1 (show (aC a).pieces.length<=k by omega),aeX,acZ]at nR;refine⟨⟨by omega,by omega⟩,?_⟩;exact⟨(i+1,o'),_,au.refl _ _,⟨nR,by simp only;omega,by simp only;omega⟩,by simp only;omega,⟨Z,Z,Z,Z,Z,Z,Z,Y⟩,⟨Z,Y⟩⟩
 rw[ab1 (by omega),aeE,acw]at x1;have x1:o=G:=x1;rw[<-x1];exact⟨Z,Z,Y⟩
open Reg (ff dy at')
theorem pK(l:List Break):af C 51 [.pv (.sl (l.map nQ))] (.tu [.sl ((mI l).1.map nQ),i64 (mI l).2]) []:=by
 have ll:=ai l nQ;refine fW hC Tryz.func51 rfl (by kernel_rfl) fun _=>?_;refine iW ?_ ?_<;>intro g
 ·rw[ll]at g;rw[mI,aap (by omega)];refine⟨?_,trivial⟩;rfl
 rw[ll]at g;rw[mI,aaa (by omega)];refine⟨?_,trivial⟩;rfl
open Reg (dJ ot af3)
theorem agM{s:List an}(hs:bE s)(ks:cv 1000000 s)(hn:s≠[]){w:Int}(h0:1<=w)(h1:w<=100000):
  ∃A N Cn V,A=bN (aB [ff (dy (told s)) w]) s/\bE A/\cv 1100000 A/\aB ((told A).map (ot w))=N/\bE N/\cv 1200000 N/\Cn=bN s N/\bE Cn/\cv 1000000 Cn/\aB ((told Cn).map (af3 w))=V/\bE V/\cv 1100000 V/\bN s V=ax s w:=by
 obtain⟨b1,b2,b3⟩:=Reg.pG hs hn;have bk:=b3 _ ks;have wf:=Reg.l6 b1 (n:=w) (by omega);have wk:RK 1100000 (ff (dy (told s)) w):=by
  unfold RK at bk ⊢;simp only[ff];omega
 obtain⟨w1,_⟩:=Reg.gz wf;have w3:cv 1100000 (aB [ff (dy (told s)) w]):=(Reg.aR (l:=[ff (dy (told s)) w]) (fun q hq=>by rw[ab_.1 hq];exact wf)).2.2 _ fun q hq=>by rw[ab_.1 hq];exact wk
 have hl:=Reg.b6 w1 hs;have e:=fun aN=>Reg.FD hs wf (l:=0) (r:=w-1) (d:=0) (u:=w-1) (by omega) (by omega) (by omega) (by omega) aN;have aN:∀x y,at' s x y=true->(ff (dy (told s)) w).x0<=x-0/\x+(w-1)<(ff (dy (told s)) w).x1/\(ff (dy (told s)) w).y0<=y-0/\y+(w-1)<(ff (dy (told s)) w).y1:=fun x y hx=>by
  obtain⟨g1,g2,g3,g4⟩:=Reg.aQ.1 (b2 x y hx);exact⟨by show (dy (told s)).x0-w<=_;omega,by show _<(dy (told s)).x1+w;omega,by show (dy (told s)).y0-w<=_;omega,by show _<(dy (told s)).y1+w;omega⟩
 have e:=e aN;have hw:ax s w=bN s (a_ (coreS s 0 (w-1) 0 (w-1)) 0 (w-1) 0 (w-1)):=by rw[Reg.ax,aaa (by omega)]
 obtain⟨A,hA⟩:∃A,A=bN (aB [ff (dy (told s)) w]) s:=⟨_,rfl⟩;rw[<-hA]at hl e;have lk:=hl.2.2 _ w3 (ks.up (by omega));have n1:ot w=dJ (w-1) 0 (w-1) 0:=funext fun q=>by simp only[ot,dJ,ae.mk.injEq];omega
 have n2:af3 w=dJ 0 (w-1) 0 (w-1):=funext fun q=>by simp only[af3,dJ,ae.mk.injEq];omega
 have Gd:=Reg.bW hl.1 (l:=w-1) (r:=0) (d:=w-1) (u:=0) (by omega) (by omega) (by omega) (by omega);have eN:aB ((told A).map (ot w))=a_ A (w-1) 0 (w-1) 0:=by rw[n1];rfl
 obtain⟨N,hN⟩:∃N,N=a_ A (w-1) 0 (w-1) 0:=⟨_,rfl⟩;rw[<-hN]at Gd e eN;have sk:=Gd.2.2 1100000 100000 lk (by omega) (by omega) (by omega) (by omega);have cs:=(Reg.b6 hs Gd.1).1;have ck:=I1 hs Gd.1 ks;obtain⟨Cn,hC⟩:∃Cn,Cn=bN s N:=⟨_,rfl⟩;rw[<-hC]at cs ck e;rw[<-e]at hw;have yt:=Reg.bW cs (l:=0) (r:=w-1) (d:=0) (u:=w-1) (by omega) (by omega) (by omega) (by omega);have eV:aB ((told Cn).map (af3 w))=a_ Cn 0 (w-1) 0 (w-1):=by rw[n2];rfl
 obtain⟨V,hV⟩:∃V,V=a_ Cn 0 (w-1) 0 (w-1):=⟨_,rfl⟩;rw[<-hV]at yt eV hw;exact⟨A,N,Cn,V,hA,hl.1,lk,eN,Gd.1,sk,hC,cs,ck,eV,yt.1,yt.2.2 1000000 100000 ck (by omega) (by omega) (by omega) (by omega),hw.symm⟩
theorem afN(s:List an)(hs:bE s)(ks:cv 1000000 s)(hn:(told s).length<=1000000)(w:Int)(h0:0<=w)(h1:w<=100000):af C 38 [.pv (aj (told s)),.pv (i64 w)] (.p (aj (told (ax s w)))) []:=by
 have lm:=ai (told s) rc;refine fW hC Tryz.func38 rfl (by kernel_rfl) fun _=>?_;refine iW ?_ ?_<;>intro g0
 ·refine⟨?_,trivial⟩;rw[Reg.ax,aap (by omega)];rfl
 refine iW ?_ ?_<;>intro g
 ·refine⟨?_,trivial⟩;have e:told s=[]:=adN.1 (by omega);have e2:s=[]:=Reg.qD hs e;rw[e2,Reg.ax];split<;>rfl
 have b8:told s≠[]:=fun c=>g (by rw[c];rfl);have ZO:s≠[]:=fun c=>b8 (by rw[c];rfl);obtain⟨b1,b2,b3⟩:=Reg.pG hs ZO;have bk:=b3 _ ks;have wf:=Reg.l6 b1 h0;have w1:=(Reg.gz wf).1;have ZP:=Reg.qS wf;have wk:RK 1100000 (ff (dy (told s)) w):=by
  unfold RK at bk ⊢;simp only[ff];omega
 have w3:cv 1100000 (aB [ff (dy (told s)) w]):=(Reg.aR (l:=[ff (dy (told s)) w]) (fun q hq=>by rw[ab_.1 hq];exact wf)).2.2 _ fun q hq=>by rw[ab_.1 hq];exact wk
 obtain⟨A,N,Cn,V,eA,sA,kA,eN,sN,kN,eC,sC,kC,eV,sV,kV,eT⟩:=agM hs ks ZO (w:=w) (by omega) h1;have FU:=mL w1 hs (w3.up (by omega)) (ks.up (by omega)) (by rw[ZP,abS];omega);rw[ZP,<-eA]at FU;have lA:=Reg.vQ (K:=1100000) sA kA;have lN:=Reg.vQ (K:=1200000) sN kN;have lC:=Reg.vQ (K:=1000000) sC kC;have lV:=Reg.vQ (K:=1100000) sV kV;have fA:=Reg.bP sA;have rA:=Reg.fR sA kA;have fC:=Reg.bP sC;have rC:=Reg.fR sC kC;have hN:=vR (l:=(told A).map (ot w)) (fun q hq=>by
  obtain⟨p,hp,rfl⟩:=adS.1 hq;have:=fA p hp;unfold Full at this ⊢;simp only[ot];omega) (fun q hq=>by
  obtain⟨p,hp,rfl⟩:=adS.1 hq;have:=rA p hp;have:=fA p hp;unfold RK Full at *;simp only[ot];omega) (by rw[aej];omega)
 rw[eN]at hN;have hV:=vR (l:=(told Cn).map (af3 w)) (fun q hq=>by
  obtain⟨p,hp,rfl⟩:=adS.1 hq;have:=fC p hp;unfold Full at this ⊢;simp only[af3];omega) (fun q hq=>by
  obtain⟨p,hp,rfl⟩:=adS.1 hq;have:=rC p hp;have:=fC p hp;unfold RK Full at *;simp only[af3];omega) (by rw[aej];omega)
 rw[eV]at hV;have Qo:=mL hs sN (ks.up (by omega)) (kN.up (by omega)) (by omega);rw[<-eC]at Qo;have F4:=mL hs sV (ks.up (by omega)) (kV.up (by omega)) (by omega);rw[eT]at F4;refine⟨_,_,(Dv (told s) b8 (by omega)),?_⟩;refine⟨_,_,(vS (dy (told s)) w (sW (by unfold RK at bk ⊢;omega) b1) h0 (by omega)),?_⟩;refine⟨_,_,FU,?_⟩;have la:=ai (told A) rc;refine aJ (fun i:Nat=>i<=(told A).length) (fun i=>[(0,.p (aj (told s))),(1,.p (i64 w)),(5,.p (aj (told A))),(6,.ow 6),(7,.p (i64 i))]) (fun i=>[(6,.row 87 ((((told A).take i).map (ot w)).map rc))]) (fun i=>(told A).length-i) 0 _ (au.dk hC _ 6 87 _ (by decide) rfl rfl (by decide)) (aaj _) ⟨Z,Z,Z,Z,Z,Y⟩ ⟨Z,Y⟩ fun i hi t h=>?_;have ll:=ai (((told A).take i).map (ot w)) rc;have ZG:(((told A).take i).map (ot w)).length<=i:=by rw[aej,aat];omega
 refine iW ?_ ?_<;>intro g1
 ·rw[la]at g1;obtain⟨q,hq⟩:=ak (l:=told A) (i:=i) (by omega);have Om:=aad hq;have r0:=rA q Om;unfold RK at r0;have f0:=fA q Om;unfold Full at f0;refine⟨(rc q),(idx rfl hq),?_⟩;refine⟨⟨by omega,by omega⟩,?_⟩;refine⟨⟨by omega,by omega⟩,?_⟩;refine⟨⟨by omega,by omega⟩,?_⟩;refine⟨⟨by omega,by omega⟩,?_⟩;refine⟨⟨fun r hr=>by simp at hr;subst hr;rfl,by simp only[ll,aaB,acs,aaM,aan];omega,by simp only[ll,aaB,acs,aaM,aan];omega⟩,?_⟩;refine⟨⟨by omega,by omega⟩,?_⟩;exact⟨(i+1),_,au.refl _ _,by omega,by omega,⟨Z,Z,Z,Z,Z,Y⟩,⟨by rw[aZ hq,abE,abE];rfl,trivial⟩⟩
 rw[la]at g1;have e2:(told A).take i=told A:=adW (by omega);rw[e2];refine⟨_,_,hN,?_⟩;refine⟨_,_,Qo,?_⟩;have lc:=ai (told Cn) rc;refine aJ (fun i:Nat=>i<=(told Cn).length) (fun i=>[(0,.p (aj (told s))),(1,.p (i64 w)),(9,.p (aj (told Cn))),(10,.ow 10),(11,.p (i64 i))]) (fun i=>[(10,.row 87 ((((told Cn).take i).map (af3 w)).map rc))]) (fun i=>(told Cn).length-i) 0 _ (au.dk hC _ 10 87 _ (by decide) rfl rfl (by decide)) (aaj _) ⟨Z,Z,Z,Z,Z,Y⟩ ⟨Z,Y⟩ fun j hj t h=>?_;have ll:=ai (((told Cn).take j).map (af3 w)) rc;have ZG:(((told Cn).take j).map (af3 w)).length<=j:=by rw[aej,aat];omega
 refine iW ?_ ?_<;>intro g2
 ·rw[lc]at g2;obtain⟨q,hq⟩:=ak (l:=told Cn) (i:=j) (by omega);have Om:=aad hq;have r0:=rC q Om;unfold RK at r0;have f0:=fC q Om;unfold Full at f0;refine⟨(rc q),(idx rfl hq),?_⟩;refine⟨⟨by omega,by omega⟩,?_⟩;refine⟨⟨by omega,by omega⟩,?_⟩;refine⟨⟨by omega,by omega⟩,?_⟩;refine⟨⟨by omega,by omega⟩,?_⟩;refine⟨⟨fun r hr=>by simp at hr;subst hr;rfl,by simp only[ll,aaB,acs,aaM,aan];omega,by simp only[ll,aaB,acs,aaM,aan];omega⟩,?_⟩;refine⟨⟨by omega,by omega⟩,?_⟩;exact⟨(j+1),_,au.refl _ _,by omega,by omega,⟨Z,Z,Z,Z,Z,Y⟩,⟨by rw[aZ hq,abE,abE];rfl,trivial⟩⟩
 rw[lc]at g2;have e3:(told Cn).take j=told Cn:=adW (by omega);rw[e3];refine⟨_,_,hV,?_⟩;refine⟨_,_,F4,?_⟩;refine⟨?_,trivial⟩;rfl
open Reg (afl aeY afg jD aeW ag1 xu PIn)
theorem ago{r:ae}(h:P4 1000000000 r):jZ r:=by
 unfold P4 at h;unfold jZ;omega
theorem af5(a b:List ae)(ha:a≠[])(hb:b≠[])(ma:∀r∈a,P4 1000000000 r)(mb:∀r∈b,P4 1000000000 r)(na:a.length<=4398046511104)(nb:b.length<=4398046511104):af C 113 [.pv (aj a),.pv (aj b)] (.p (i64 (afl a b))) []:=by
 have lma:=ai a rc;have sv:=ai b rc;obtain⟨x0,XW⟩:=ak (l:=a) (i:=0) (adj.2 ha);obtain⟨y0,CA⟩:=ak (l:=b) (i:=0) (adj.2 hb);have mx0:=ago (ma x0 (aad XW));have my0:=ago (mb y0 (aad CA));refine fW hC Tryz.func113 rfl (by kernel_rfl) fun _=>?_;refine⟨(rc x0),(idx (i:=0) rfl XW),?_⟩;refine⟨(rc y0),(idx (i:=0) rfl CA),?_⟩;refine⟨_,_,(afD x0 y0 mx0 my0),?_⟩;refine aJ (fun x:Nat×Int=>(a.drop x.1).foldl (fun n x=>b.foldl (fun n y=>min n (fT x y)) n) x.2=afl a b) (fun x=>[(0,.p (aj a)),(1,.p (aj b)),(5,.p (i64 x.2)),(6,.p (i64 x.1))]) (fun _=>[]) (fun x=>a.length-x.1) (0,fT x0 y0) _ (au.refl _ _) (by rw[afl,Jm XW,Jm CA];rfl) ⟨Z,Z,Z,Z,Y⟩ trivial fun ⟨i,n⟩ h1 t h=>?_;dsimp only at h1;refine iW ?_ ?_<;>intro g
 ·rw[lma]at g;obtain⟨x,hx⟩:=ak (l:=a) (i:=i) (by omega);have mx:=ago (ma x (aad hx));rw[drop_at hx,aaq]at h1;refine aJ (fun y:Nat×Int=>(b.drop y.1).foldl (fun n y=>min n (fT x y)) y.2=b.foldl (fun n y=>min n (fT x y)) n) (fun y=>[(0,.p (aj a)),(1,.p (aj b)),(5,.p (i64 y.2)),(6,.p (i64 i)),(7,.p (i64 y.1))]) (fun _=>[]) (fun y=>b.length-y.1) (0,n) _ (au.refl _ _) rfl ⟨Z,Z,Z,Z,Z,Y⟩ trivial fun ⟨j,m⟩ h2 t h=>?_;dsimp only at h2;refine iW ?_ ?_<;>intro g2
  ·rw[sv]at g2;obtain⟨y,hy⟩:=ak (l:=b) (i:=j) (by omega);have my:=ago (mb y (aad hy));rw[drop_at hy,aaq]at h2;refine⟨(rc x),(idx rfl hx),?_⟩;refine⟨(rc y),(idx rfl hy),?_⟩;refine⟨_,_,(afD x y mx my),?_⟩;refine⟨⟨by omega,by omega⟩,?_⟩;exact⟨(j+1,min m (fT x y)),_,au.refl _ _,h2,by dsimp only;omega,⟨Z,Z,Z,Z,Z,Y⟩,trivial⟩
  rw[sv]at g2;rw[ab1 (by omega)]at h2;have h2:m=_:=h2;rw[<-h2]at h1;refine⟨⟨by omega,by omega⟩,?_⟩;exact⟨(i+1,m),_,au.refl _ _,h1,by dsimp only;omega,⟨Z,Z,Z,Z,Y⟩,trivial⟩
 rw[lma]at g;rw[ab1 (by omega)]at h1;have h1:n=_:=h1;refine⟨?_,trivial⟩;rw[h1]
theorem afO(a b:List ae)(n:Int)(hn:0<=n/\n<=10000000000)(ma:∀r∈a,P4 1000000000 r)(mb:∀r∈b,P4 1000000000 r)(na:a.length<=4398046511104)(nb:b.length<=4398046511104):af C 114 [.pv (aj a),.pv (aj b),.pv (i64 n)] (.tu [.ag (pt (afg a b n).2),bool (afg a b n).1]) []:=by
 have lma:=ai a rc;have sv:=ai b rc;refine fW hC Tryz.func114 rfl (by kernel_rfl) fun _=>?_;refine aJ (fun x:Nat×Bool×Int×Int=>(a.drop x.1).foldl (fun s x=>b.foldl (fun s y=>aeY n s x y) s) x.2=afg a b n) (fun x=>[(0,.p (aj a)),(1,.p (aj b)),(2,.p (i64 n)),(6,.bx 6 0),(8,.bx 8 0),(9,.p (bool x.2.1)),(10,.p (i64 x.1))]) (fun x=>[(6,.box [.p (i64 0),.p (i64 0)]),(8,.box [.p (i64 x.2.2.1),.p (i64 x.2.2.2)])]) (fun x=>a.length-x.1) (0,false,0,0) _ (au.refl _ _) rfl ⟨Z,Z,Z,Z,Z,Z,Z,Y⟩ ⟨Z,Z,Y⟩ fun ⟨i,st⟩ h1 t h=>?_;dsimp only at h1;refine iW ?_ ?_<;>intro g
 ·rw[lma]at g;obtain⟨x,hx⟩:=ak (l:=a) (i:=i) (by omega);have mx:=ma x (aad hx);unfold P4 at mx;rw[drop_at hx,aaq]at h1;refine aJ (fun y:Nat×Bool×Int×Int=>(b.drop y.1).foldl (fun s y=>aeY n s x y) y.2=b.foldl (fun s y=>aeY n s x y) st) (fun y=>[(0,.p (aj a)),(1,.p (aj b)),(2,.p (i64 n)),(6,.bx 6 0),(8,.bx 8 0),(9,.p (bool y.2.1)),(10,.p (i64 i)),(11,.p (i64 y.1))]) (fun y=>[(6,.box [.p (i64 0),.p (i64 0)]),(8,.box [.p (i64 y.2.2.1),.p (i64 y.2.2.2)])]) (fun y=>b.length-y.1) (0,st) _ (au.refl _ _) rfl ⟨Z,Z,Z,Z,Z,Z,Z,Z,Y⟩ ⟨Z,Z,Y⟩ fun ⟨j,fd,px,py⟩ h2 t h=>?_;dsimp only at h2;refine iW ?_ ?_<;>intro g2
  ·rw[sv]at g2;obtain⟨y,hy⟩:=ak (l:=b) (i:=j) (by omega);have my:=mb y (aad hy);unfold P4 at my;rw[drop_at hy,aaq]at h2;have eP:jD x y n=(max x.x0 (y.x0-n),max x.y0 (y.y0-n)):=rfl;have eS:aeY n (fd,px,py) x y=if min x.x1 (y.x1+n)-1<max x.x0 (y.x0-n)\/min x.y1 (y.y1+n)-1<max x.y0 (y.y0-n) then (fd,px,py) else
    if fd=false\/(max x.y0 (y.y0-n)<py\/max x.y0 (y.y0-n)=py/\max x.x0 (y.x0-n)<px) then (true,max x.x0 (y.x0-n),max x.y0 (y.y0-n)) else (fd,px,py):=by
    simp only[aeY,eP,aeW,adZ,aaZ,aaH]
   rw[eS]at h2;refine⟨(rc x),(idx rfl hx),?_⟩;refine⟨(rc y),(idx rfl hy),?_⟩;refine⟨⟨by omega,by omega⟩,?_⟩;refine⟨(rc x),(idx rfl hx),?_⟩;refine⟨(rc y),(idx rfl hy),?_⟩;refine⟨⟨by omega,by omega⟩,?_⟩;refine⟨(rc x),(idx rfl hx),?_⟩;refine⟨(rc y),(idx rfl hy),?_⟩;refine⟨⟨by omega,by omega⟩,?_⟩;refine⟨⟨by omega,by omega⟩,?_⟩;have no:(min x.x1 (y.x1+n)-1<max x.x0 (y.x0-n)\/min x.y1 (y.y1+n)-1<max x.y0 (y.y0-n))->(b.drop (j+1)).foldl (fun s y=>aeY n s x y) (fd,px,py)=b.foldl (fun s y=>aeY n s x y) st:=fun c=>by rw[aap c]at h2;exact h2
   have no2:¬(min x.x1 (y.x1+n)-1<max x.x0 (y.x0-n)\/min x.y1 (y.y1+n)-1<max x.y0 (y.y0-n))->¬(fd=false\/(max x.y0 (y.y0-n)<py\/max x.y0 (y.y0-n)=py/\max x.x0 (y.x0-n)<px))->(b.drop (j+1)).foldl (fun s y=>aeY n s x y) (fd,px,py)=b.foldl (fun s y=>aeY n s x y) st:=fun c d=>by rw[aaa c,aaa d]at h2;exact h2
   have yes:¬(min x.x1 (y.x1+n)-1<max x.x0 (y.x0-n)\/min x.y1 (y.y1+n)-1<max x.y0 (y.y0-n))->(fd=false\/(max x.y0 (y.y0-n)<py\/max x.y0 (y.y0-n)=py/\max x.x0 (y.x0-n)<px))->(b.drop (j+1)).foldl (fun s y=>aeY n s x y) (true,max x.x0 (y.x0-n),max x.y0 (y.y0-n))=b.foldl (fun s y=>aeY n s x y) st:=fun c d=>by rw[aaa c,aap d]at h2;exact h2
   refine iW ?_ ?_<;>intro c1
   ·refine⟨⟨by omega,by omega⟩,?_⟩;exact⟨(j+1,fd,px,py),_,au.refl _ _,no (.inl c1),by dsimp only;omega,⟨Z,Z,Z,Z,Z,Z,Z,Z,Y⟩,⟨Z,Z,Y⟩⟩
   refine⟨(rc x),(idx rfl hx),?_⟩;refine⟨(rc y),(idx rfl hy),?_⟩;refine⟨⟨by omega,by omega⟩,?_⟩;refine⟨⟨by omega,by omega⟩,?_⟩;refine iW ?_ ?_<;>intro c2
   ·refine⟨⟨by omega,by omega⟩,?_⟩;exact⟨(j+1,fd,px,py),_,au.refl _ _,no (.inr c2),by dsimp only;omega,⟨Z,Z,Z,Z,Z,Z,Z,Z,Y⟩,⟨Z,Z,Y⟩⟩
   have c:¬(min x.x1 (y.x1+n)-1<max x.x0 (y.x0-n)\/min x.y1 (y.y1+n)-1<max x.y0 (y.y0-n)):=fun c=>c.elim c1 c2;refine iW ?_ ?_<;>intro c3
   ·refine⟨⟨by omega,by omega⟩,?_⟩;exact⟨(j+1,true,max x.x0 (y.x0-n),max x.y0 (y.y0-n)),_,au.refl _ _,yes c (.inl c3),by dsimp only;omega,⟨Z,Z,Z,Z,Z,Z,Z,Z,Y⟩,⟨Z,Z,Y⟩⟩
   subst c3;refine iW ?_ ?_<;>intro c4
   ·refine⟨⟨by omega,by omega⟩,?_⟩;exact⟨(j+1,true,max x.x0 (y.x0-n),max x.y0 (y.y0-n)),_,au.refl _ _,yes c (.inr (.inl c4)),by dsimp only;omega,⟨Z,Z,Z,Z,Z,Z,Z,Z,Y⟩,⟨Z,Z,Y⟩⟩
   refine iW ?_ ?_<;>intro c5
   ·refine iW ?_ ?_<;>intro c6
    ·refine⟨⟨by omega,by omega⟩,?_⟩;exact⟨(j+1,true,max x.x0 (y.x0-n),max x.y0 (y.y0-n)),_,au.refl _ _,yes c (.inr (.inr ⟨c5,c6⟩)),by dsimp only;omega,⟨Z,Z,Z,Z,Z,Z,Z,Z,Y⟩,⟨Z,Z,Y⟩⟩
    refine⟨⟨by omega,by omega⟩,?_⟩;refine⟨(j+1,true,px,py),_,au.refl _ _,?_⟩;exact⟨no2 c (fun d=>by
                 rcases d with d | d | d;· cases d
                 ·exact c4 d
                 exact c6 d.2),by dsimp only;omega,⟨Z,Z,Z,Z,Z,Z,Z,Z,Y⟩,⟨Z,Z,Y⟩⟩
   refine⟨⟨by omega,by omega⟩,?_⟩;refine⟨(j+1,true,px,py),_,au.refl _ _,?_⟩;exact⟨no2 c (fun d=>by
                rcases d with d | d | d;· cases d
                ·exact c4 d
                exact c5 d.1),by dsimp only;omega,⟨Z,Z,Z,Z,Z,Z,Z,Z,Y⟩,⟨Z,Z,Y⟩⟩
  rw[sv]at g2;rw[ab1 (by omega)]at h2;have h2:(fd,px,py)=_:=h2;rw[<-h2]at h1;refine⟨⟨by omega,by omega⟩,?_⟩;exact⟨(i+1,fd,px,py),_,au.refl _ _,h1,by dsimp only;omega,⟨Z,Z,Z,Z,Z,Z,Z,Y⟩,⟨Z,Z,Y⟩⟩
 rw[lma]at g;rw[ab1 (by omega)]at h1;have h1:st=_:=h1;refine⟨?_,trivial⟩;rw[<-h1];rfl
theorem ahr{a b:List ae}(ha:a≠[])(hb:b≠[]){K:Int}(ma:∀r∈a,P4 K r)(mb:∀r∈b,P4 K r):0<=afl a b/\afl a b<=2*K+1:=by
 rw[afl,Reg.afJ];rcases (Reg.FH (Reg.aeA a b) (fT (dD a) (dD b))).2.2 with e | e
 ·rw[e];exact Reg.Nw (ma _ (Reg.head_mem ha)) (mb _ (Reg.head_mem hb))
 obtain⟨x,hx,y,hy,e⟩:=Reg.afa.1 e;rw[<-e];exact Reg.Nw (ma x hx) (mb y hy)
theorem ahh{K n:Int}(h0:0<=n){x y:ae}(hx:P4 K x)(hy:P4 K y){s:Bool×Int×Int}(h:PIn K s.2):PIn K (aeY n s x y).2:=by
 have:=Reg.agj h0 hx hy;rw[aeY];split
 ·exact h
 split
 ·exact this
 exact h
theorem afA{α β:Type}(P:α->Prop)(f:α->β->α):∀(l:List β) (s:α),(∀s x,x∈l->P s->P (f s x))->P s->P (l.foldl f s)
 | [],s,_,h=>h
 | x::l,s,hf,h=>afA P f l (f s x) (fun s y hy=>hf s y (aaw _ hy)) (hf s x adU h)
theorem ahi{a b:List ae}{K n:Int}(hK:0<=K)(h0:0<=n)(ma:∀r∈a,P4 K r)(mb:∀r∈b,P4 K r):PIn K (afg a b n).2:=
 afA (fun s:Bool×Int×Int=>PIn K s.2) _ a _ (fun s x hx h=>afA (fun s:Bool×Int×Int=>PIn K s.2) _ b s (fun s y hy h=>ahh h0 (ma x hx) (mb y hy) h) h) ⟨⟨by show -K<=0;omega,hK⟩,⟨by show -K<=0;omega,hK⟩⟩
theorem ag4(a b:List ae)(ha:a≠[])(hb:b≠[])(ma:∀r∈a,P4 2000000 r)(mb:∀r∈b,P4 2000000 r)(na:a.length<=4398046511104)(nb:b.length<=4398046511104):af C 44 [.pv (aj a),.pv (aj b)] (.p (.ag (gc (ag1 a b)))) []:=by
 have up:∀r:ae,P4 2000000 r->P4 1000000000 r:=fun r h=>by unfold P4 at h ⊢;omega
 have ma':=fun r hr=>up r (ma r hr);have T5:=fun r hr=>up r (mb r hr);have hm:=ahr ha hb ma mb;have hp:=ahi (n:=afl a b) (by omega) hm.1 ma mb;obtain⟨S,hS⟩:∃S,S=afg a b (afl a b):=⟨_,rfl⟩;have q2:=afO a b (afl a b) ⟨by omega,by omega⟩ ma' T5 na nb;rw[<-hS]at hp q2;unfold PIn at hp;have q3:=afO b [xu S.2] (afl a b) ⟨by omega,by omega⟩ T5 (fun r hr=>by
  rw[ab_.1 hr];unfold P4;simp only[xu];omega) nb (by simp)
 refine fW hC Tryz.func44 rfl (by kernel_rfl) fun _=>?_;refine⟨_,_,(af5 a b ha hb ma' T5 na nb),?_⟩;refine⟨_,_,q2,?_⟩;refine⟨⟨by omega,by omega⟩,?_⟩;refine⟨⟨by omega,by omega⟩,?_⟩;refine⟨_,_,q3,?_⟩;refine⟨⟨by omega,by omega⟩,?_⟩;refine⟨?_,trivial⟩;rw[ag1,<-hS];rfl
open Reg (aU)
theorem ahs{y:ByteArray}(h:lh y=true):y≠M4:=by
 rintro rfl;exact absurd h (by decide)
theorem agB{r:cP}(hg:zd r){c:Class}(hc:c∈r.classes)(x:ByteArray):(hasB c.nets x&&!decide (x=M4))=hasB c.nets x:=by
 by_cases hx:x=M4
 ·have:hasB c.nets x=false:=by
   rw[aaV];exact fun h=>ahs ((hg.cl c hc).2.2.1 x (Et.1 h)) hx
  rw[this];rfl
 rw[aaz hx];simp
theorem ag5{l:List ae}(h:Reg.aF l=0)(x y:Int):aL (Reg.rowOf l y) x=l.any (M3 x y):=by
 have hr:∀r∈l,r.x0<r.x1:=by
  unfold Reg.aF at h;by_cases h0:Reg.cz l=0
  ·exact fun r hr=>((Reg.jK h0).2 r hr).2.1
  rw[aaa h0]at h;exact absurd h h0
 have hf:=(Reg.iS l y hr).2 x;rw[abb,aL,aci,aci];refine Iff.trans ?_ (hf.trans ?_)
 ·simp[Reg.cover]
 constructor
 ·rintro⟨r,h1,h2,h3⟩;exact⟨r,h1,by simp[M3];omega⟩
 rintro⟨r,h1,h2⟩;refine⟨r,h1,?_⟩;simp[M3]at h2;omega
theorem af6(r:cP)(hg:zd r)(x:ByteArray):af C 148 [.pv (.ag (rl r)),.pv (str x)] (.p (.ag (kl (aeR r.classes x)))) []:=by
 refine fW hC Tryz.func148 rfl (by kernel_rfl) fun _=>?_;have lm:=ai r.classes kl;have nc:=hg.nc;refine aJ (fun i:Nat=>i<=r.classes.length/\∀c∈r.classes.take i,(hasB c.nets x&&!decide (x=M4))=false) (fun i=>[(1,.p (str x)),(2,.bx 2 0),(4,.bx 4 0),(5,.p (i64 i))]) (fun _=>[(2,.box (C_ r)),(4,.box [.p (str M4),.nl,.p (i64 0),.p (i64 0)])]) (fun i=>r.classes.length-i) 0 _ (au.refl _ _) ⟨aaj _,by simp⟩ ⟨Z,Z,Z,Z,Y⟩ ⟨Z,Z,Y⟩ fun i hi t h=>?_;obtain⟨q1,q2⟩:=hi;refine iW ?_ ?_<;>intro h1
 ·obtain⟨c,hc⟩:=ak (l:=r.classes) (i:=i) (by omega);have cm:=aad hc;obtain⟨c1,c2,c3,c4,c5⟩:=hg.cl c cm;refine⟨(kl c),(idx rfl hc),?_⟩;refine⟨_,_,(Eu c.nets x (by omega)),?_⟩;refine iW ?_ ?_<;>intro h2
  ·refine⟨(kl c),(idx rfl hc),?_⟩;refine⟨?_,trivial⟩;rw[aeR,agQ hc (by rw[agB hg cm,h2]) q2];rfl
  refine⟨⟨by omega,by omega⟩,?_⟩;refine⟨(i+1),_,au.refl _ _,?_⟩;refine⟨⟨by omega,fun d hd=>?_⟩,by omega,⟨Z,Z,Z,Z,Y⟩,⟨Z,Z,Y⟩⟩;rw[aZ hc,abi,ab_]at hd;rcases hd with hd | hd
  ·exact q2 d hd
  rw[hd,agB hg cm];simpa using h2
 have e:i=r.classes.length:=by omega
 refine⟨?_,trivial⟩;rw[e,abU]at q2;rw[aeR,ac1.2 (fun y hy=>by rw[q2 y hy];decide)];rfl
theorem afF(r:cP)(hg:zd r)(x:ByteArray):af C 146 [.pv (.ag (rl r)),.pv (str x)] (.p (i64 (ae2 r x))) []:=by
 refine fW hC Tryz.func146 rfl (by kernel_rfl) fun _=>?_;refine⟨_,_,(af6 r hg x),?_⟩;refine iW ?_ ?_<;>intro h1
 ·refine⟨?_,trivial⟩;rw[ae2,aap h1]
 refine⟨?_,trivial⟩;rw[ae2,aaa h1]
theorem agp(r:cP)(hg:zd r)(x:ByteArray):af C 68 [.pv (.ag (rl r)),.pv (str x)] (.p (i64 (E3 r x))) []:=by
 refine fW hC Tryz.func68 rfl (by kernel_rfl) fun _=>?_;refine⟨_,_,(af6 r hg x),?_⟩;refine iW ?_ ?_<;>intro h1
 ·refine⟨?_,trivial⟩;rw[E3,aap h1]
 refine⟨?_,trivial⟩;rw[E3,aaa h1]
theorem agq(s:ByteArray)(hs:ue s):af C 140 [.pv (str s)] (.p (bool (afe s))) []:=by
 have hs':s.size<4294967281:=hs;refine fW hC Tryz.func140 rfl (by kernel_rfl) fun _=>?_;refine iW ?_ ?_<;>intro h1
 ·have h1:s=M4:=by simpa [M4] using h1
  refine⟨?_,trivial⟩;rw[afe,acd h1];rfl
 have h1:¬s=M4:=by simpa [M4] using h1
 refine⟨_,_,(wH s hs'),?_⟩;refine⟨?_,trivial⟩;rw[afe,aaz h1,abv]
theorem agN(r:cP)(hg:zd r)(a b:ByteArray)(layer x y:Int):af C 71 [.pv (.ag (rl r)),.pv (str a),.pv (str b),.pv (i64 layer),.pv (.ag [i64 x,i64 y])] (.p (i64 (aeZ r a b layer x y))) []:=by
 refine fW hC Tryz.func71 rfl (by kernel_rfl) fun _=>?_;have lm:=ai r.areas arr;have na:=hg.na;refine aJ (fun i:Nat=>i<=r.areas.length) (fun i=>[(1,.p (str a)),(2,.p (str b)),(3,.p (i64 layer)),(5,.bx 5 0),(9,.bx 9 0),(11,.p (i64 (max 0 (aey layer x y (r.areas.take i) (-1))))),(12,.p (bool (decide (0<=aey layer x y (r.areas.take i) (-1))))),(13,.p (i64 i))]) (fun _=>[(5,.box (C_ r)),(9,.box [.p (i64 x),.p (i64 y)])]) (fun i=>r.areas.length-i) 0 _ (au.refl _ _) (aaj _) ⟨Z,Z,Z,Z,Z,Z,Z,Z,Y⟩ ⟨Z,Z,Y⟩ fun i hi t h=>?_;refine iW ?_ ?_<;>intro h1
 ·obtain⟨c,hc⟩:=ak (l:=r.areas) (i:=i) (by omega);obtain⟨g1,g2,g3⟩:=hg.ar c (aad hc);have g4:0<=c.clearance:=by simp[cL]at g3;omega
  have hl:=yY g2;have mr:=ag5 g2 x y;have mo:aey layer x y (r.areas.take (i+1)) (-1)=(if meets layer x y c=true then max (aey layer x y (r.areas.take i) (-1)) c.clearance else aey layer x y (r.areas.take i) (-1)):=by rw[aZ hc,afx];rfl
  have no:meets layer x y c=false->aey layer x y (r.areas.take (i+1)) (-1)=aey layer x y (r.areas.take i) (-1):=fun h=>by rw[mo,aaa (by rw[h];decide)]
  have yes:meets layer x y c=true->aey layer x y (r.areas.take (i+1)) (-1)=max (aey layer x y (r.areas.take i) (-1)) c.clearance:=fun h=>by rw[mo,aap h]
  have y1:meets layer x y c=true->max (max 0 (aey layer x y (r.areas.take i) (-1))) c.clearance=max 0 (aey layer x y (r.areas.take (i+1)) (-1)):=fun h=>by rw[yes h];omega
  have y2:meets layer x y c=true->true=decide (0<=aey layer x y (r.areas.take (i+1)) (-1)):=fun h=>by rw[yes h];symm;rw[aaH];omega
  refine⟨(arr c),(idx rfl hc),?_⟩;refine iW ?_ ?_<;>intro h2
  ·have on:onB c layer=true:=by rw[onB,acd (by omega:c.layer<0)];rfl
   refine⟨_,_,(tP c.region x y (by omega)),?_⟩;refine iW ?_ ?_<;>intro h3
   ·have m:meets layer x y c=true:=by rw[meets,on,<-mr,h3];rfl
    refine⟨⟨by omega,by omega⟩,?_⟩;exact⟨(i+1),_,au.refl _ _,by omega,by omega,⟨rfl,rfl,rfl,rfl,rfl,a8 (y1 m),afB (y2 m),Z,Y⟩,⟨Z,Z,Y⟩⟩
   have m:meets layer x y c=false:=by rw[meets,on,<-mr];simpa using h3
   refine⟨⟨by omega,by omega⟩,?_⟩;exact⟨(i+1),_,au.refl _ _,by omega,by omega,⟨rfl,rfl,rfl,rfl,rfl,a8 (by rw[no m]),afB (by rw[no m]),Z,Y⟩,⟨Z,Z,Y⟩⟩
  refine iW ?_ ?_<;>intro h4
  ·have on:onB c layer=true:=by rw[onB,acd h4,ads]
   refine⟨_,_,(tP c.region x y (by omega)),?_⟩;refine iW ?_ ?_<;>intro h3
   ·have m:meets layer x y c=true:=by rw[meets,on,<-mr,h3];rfl
    refine⟨⟨by omega,by omega⟩,?_⟩;exact⟨(i+1),_,au.refl _ _,by omega,by omega,⟨rfl,rfl,rfl,rfl,rfl,a8 (y1 m),afB (y2 m),Z,Y⟩,⟨Z,Z,Y⟩⟩
   have m:meets layer x y c=false:=by rw[meets,on,<-mr];simpa using h3
   refine⟨⟨by omega,by omega⟩,?_⟩;exact⟨(i+1),_,au.refl _ _,by omega,by omega,⟨rfl,rfl,rfl,rfl,rfl,a8 (by rw[no m]),afB (by rw[no m]),Z,Y⟩,⟨Z,Z,Y⟩⟩
  have on:onB c layer=false:=by rw[onB,aaz (by omega:¬c.layer<0),aaz h4];rfl
  have m:meets layer x y c=false:=by rw[meets,on];rfl
  refine⟨⟨by omega,by omega⟩,?_⟩;exact⟨(i+1),_,au.refl _ _,by omega,by omega,⟨rfl,rfl,rfl,rfl,rfl,a8 (by rw[no m]),afB (by rw[no m]),Z,Y⟩,⟨Z,Z,Y⟩⟩
 have e:i=r.areas.length:=by omega
 subst e;have tl:r.areas.take r.areas.length=r.areas:=abU;refine iW ?_ ?_<;>intro h2
 ·have h2:0<=aey layer x y (r.areas.take r.areas.length) (-1):=by simpa using h2
  refine⟨?_,trivial⟩;rw[tl]at h2 ⊢;rw[aeZ,aap h2];congr 2;omega
 have h2:¬0<=aey layer x y (r.areas.take r.areas.length) (-1):=by simpa using h2
 refine⟨_,_,(afF r hg a),?_⟩;refine⟨_,_,(afF r hg b),?_⟩;refine⟨?_,trivial⟩;rw[tl]at h2;rw[aeZ,aaa h2];rfl
open Reg (cJ)
open Reg (bT db sa)
theorem K6{i:Nat}(hi:i<bs.length)(h:aeH bs i=true):da bs 0=true:=by
 rw[da,aci];exact⟨i,by rw[List.mem_range'_1];omega,h⟩
theorem N6(h:∀i,i<bs.length->aeH bs i=false):da bs 0=false:=by
 rw[da,afE];intro i hi;rw[List.mem_range'_1]at hi;rw[h i (by omega)];decide
theorem P5{i k:Nat}{x y:aS}(hx:bs[i]?=some x)(hk:k<i)(hy:bs[k]?=some y)(h:eO x y=true):aeH bs i=true:=by
 rw[aeH,aci];refine⟨y,aad (i:=k) (by rw[aa7,aap hk,hy]),?_⟩;rw[ad4,hx];exact h
theorem Tb{i:Nat}{x:aS}(hx:bs[i]?=some x)(h:∀k y,k<i->bs[k]?=some y->eO x y=false):aeH bs i=false:=by
 rw[aeH,afE];intro y hy;obtain⟨k,hk⟩:=ab8.1 hy;rw[aa7]at hk;split at hk
 ·rw[ad4,hx];have:=h k y (by assumption) hk;simp[this]
 cases hk
theorem HZ(a:fS):dc a=if fv a≠0 then fv a else if da a.bores 0=true then 12 else if eG a=true then 0 else 2:=by
 unfold dc fv;by_cases g1:a.coppers.length=0
 ·rw[aap g1,aap g1,aap (by decide)]
 rw[aaa g1,aaa g1];by_cases g2:16<a.coppers.length
 ·rw[aap g2,aap g2,aap (by decide)]
 rw[aaa g2,aaa g2];by_cases g3:db a.coppers≠0
 ·rw[aap g3,aap g3,aap g3]
 rw[aaa g3,aaa g3];by_cases g4:Reg.aF a.outline≠0
 ·rw[aap g4,aap g4,aap g4]
 rw[aaa g4,aaa g4];by_cases g5:2000<sa a.outline.length a.coppers
 ·rw[aap g5,aap g5,aap (by decide)]
 rw[aaa g5,aaa g5];by_cases g6:bT a≠0
 ·rw[aap g6,aap g6,aap g6]
 rw[aaa g6,aaa g6]
theorem K7{a:fS}(h:fv a=0):a.coppers.length<=16/\(∀r∈a.coppers,Reg.aF r=0)/\B5 a.bores:=by
 unfold fv at h;split at h
 ·cases h
 split at h
 ·cases h
 rename_i g2;split at h
 ·rename_i g;exact absurd h g
 rename_i g3;split at h
 ·rename_i g;exact absurd h g
 split at h
 ·cases h
 split at h
 ·rename_i g;exact absurd h g
 rename_i g6;have g6:bT a=0:=by simpa using g6
 refine⟨by omega,Reg.jo (by simpa using g3),?_⟩;rw[bT]at g6;split at g6
 ·cases g6
 exact⟨by omega,fun b hb=>ky (Reg.sM g6 b hb)⟩
theorem AW(a:fS)(ho:ly a):af C 41 [.pv (.ag (dX a))] (.p (i64 (dc a))) []:=by
 have lk:=ai a.coppers fun r=>[aj r];have lb:=ai a.bores bc;obtain⟨F,hF⟩:∃F,F=dc a:=⟨_,rfl⟩;rw[<-hF];rw[HZ]at hF;have UQ:=xw a ho;refine fW hC Tryz.func41 rfl (by kernel_rfl) fun _=>?_;refine⟨_,_,UQ,?_⟩;refine iW ?_ ?_<;>intro g0
 ·have g0:fv a≠0:=by simpa using g0
  rw[aap g0]at hF;refine⟨?_,trivial⟩;rw[hF]
 have g0:fv a=0:=by simpa using g0
 rw[aaa (by simpa using g0)]at hF;obtain⟨KH,HA,ok⟩:=K7 g0;have jB:=ok.jB;refine aJ (fun i:Nat=>i<=a.bores.length/\∀j,j<i->aeH a.bores j=false) (fun i=>[(1,.bx 1 0),(4,.p (i64 i))]) (fun _=>[(1,.box ((dX a).map .p))]) (fun i=>a.bores.length-i) 0 _ (au.refl _ _) ⟨aaj _,by omega⟩ ⟨Z,Z,Y⟩ ⟨Z,Y⟩ fun i hi t h=>?_;obtain⟨i1,i2⟩:=hi;refine iW ?_ ?_<;>intro g1
 ·have h1:i<a.bores.length:=by omega
  obtain⟨x,hx⟩:=ak h1;have xo:=ok.ok x (aad hx);refine aJ (fun k:Nat=>k<=i/\∀j y,j<k->a.bores[j]?=some y->eO x y=false) (fun k=>[(1,.bx 1 0),(4,.p (i64 i)),(5,.p (i64 k))]) (fun _=>[(1,.box ((dX a).map .p))]) (fun k=>i-k) 0 _ (au.refl _ _) ⟨aaj _,by omega⟩ ⟨Z,Z,Z,Y⟩ ⟨Z,Y⟩ fun k hk t h=>?_;obtain⟨k1,k2⟩:=hk;refine iW ?_ ?_<;>intro g2
  ·have h2:k<i:=by omega
   obtain⟨y,hy⟩:=ak (l:=a.bores) (i:=k) (by omega);have yo:=ok.ok y (aad hy);have ce:=NV xo yo;have more:eO x y=false->∀j z,j<k+1->a.bores[j]?=some z->eO x z=false:=fun c j z hj hz=>by
    by_cases e:j=k
    ·subst e;rw[hy]at hz;injection hz with hz;rw[<-hz];exact c
    exact k2 j z (by omega) hz
   refine⟨(bc x),(idx rfl hx),?_⟩;refine⟨(bc y),(idx rfl hy),?_⟩;refine⟨_,_,(FQ x y),?_⟩;refine iW ?_ ?_<;>intro g3
   ·refine⟨(bc x),(idx rfl hx),?_⟩;refine⟨_,_,(di x xo),?_⟩;refine⟨(bc y),(idx rfl hy),?_⟩;refine⟨_,_,(di y yo),?_⟩;refine⟨_,_,(Dy (aa x) (aa y)),?_⟩;refine iW ?_ ?_<;>intro g4
    ·rw[aap (K6 h1 (P5 hx h2 hy (by rw[<-ce,g3,g4];rfl)))]at hF;refine⟨?_,trivial⟩;rw[hF];rfl
    have m:=more (by rw[<-ce,g3,g4];rfl);refine⟨⟨by omega,by omega⟩,?_⟩;exact⟨(k+1),_,au.refl _ _,⟨by omega,m⟩,by omega,⟨Z,Z,Z,Y⟩,⟨Z,Y⟩⟩
   have m:=more (by rw[<-ce,g3];rfl);refine⟨⟨by omega,by omega⟩,?_⟩;exact⟨(k+1),_,au.refl _ _,⟨by omega,m⟩,by omega,⟨Z,Z,Z,Y⟩,⟨Z,Y⟩⟩
  have rn:=Tb hx fun j y hj hy=>k2 j y (by omega) hy;refine⟨⟨by omega,by omega⟩,?_⟩;exact⟨(i+1),_,au.refl _ _,⟨by omega,fun j hj=>by by_cases e:j=i;exact e▸rn;exact i2 j (by omega)⟩,by omega,⟨Z,Z,Y⟩,⟨Z,Y⟩⟩
 rw[aaa (by rw[N6 fun j hj=>i2 j (by omega)];decide)]at hF;refine aJ (fun x:Nat×Nat=>qL a.bores x.1 (a.coppers.drop x.1)=qL a.bores 0 a.coppers/\x.2+(bG a.bores x.1 (a.coppers.drop x.1)).length=(bG a.bores 0 a.coppers).length/\x.2<=2000*x.1/\x.1<=a.coppers.length) (fun x=>[(1,.bx 1 0),(6,.p (i64 x.2)),(7,.p (i64 x.1))]) (fun _=>[(1,.box ((dX a).map .p))]) (fun x=>a.coppers.length-x.1) (0,0) _ (au.refl _ _) ⟨rfl,by simp,aam _,aaj _⟩ ⟨Z,Z,Z,Y⟩ ⟨Z,Y⟩ fun ⟨i',n⟩ hx t h=>?_;obtain⟨x1,x2,x3,x4⟩:=hx;simp only at x1 x2 x3 x4;refine iW ?_ ?_<;>intro g5<;>try simp only[zB]at g5
 ·obtain⟨r,hr⟩:=ak (l:=a.coppers) (i:=i') (by omega);have TC:=HA r (aad hr);have dr:=jV ok.ok jB i' TC;rw[drop_at hr,qL]at x1;rw[drop_at hr,bG,acv,aej]at x2;have O1:=qX a ok i' r hr TC;have qg:=uQ (told (bU a.bores i' r));have Yi:=Reg.uG dr.sok;have YW:=Reg.BQ (bU a.bores i' r);have ld:=ai (told (bU a.bores i' r)) rc;refine⟨_,_,O1,?_⟩;refine iW ?_ ?_<;>intro g6
  ·rw[aaz (by omega),abp]at x1;have hd:eG a=false:=by unfold eG;rw[<-x1];rfl
   rw[aaa (by rw[hd];decide)]at hF;refine⟨?_,trivial⟩;rw[hF];rfl
  have Ue:(told (bU a.bores i' r)).length<=2000:=by omega
  rw[acd Ue,adr]at x1;have TD:=qg ⟨Ue,Reg.bP dr.sok,fun q hq=>by
   have:=Reg.fR dr.sok dr.ink q hq;unfold RK at this ⊢;omega⟩
  have lq:(((cV (bU a.bores i' r)).map told).map fun r=>[aj r]).length=(cV (bU a.bores i' r)).length:=by rw[aej,aej]
  rw[Yi]at TD;refine⟨_,_,TD,?_⟩;refine⟨⟨by omega,by omega⟩,?_⟩;refine⟨⟨by omega,by omega⟩,?_⟩;exact⟨(i'+1,n+(cV (bU a.bores i' r)).length),_,au.refl _ _,⟨x1,by simp only;rw[show (((i'+1:Nat):Int))=(i':Int)+1 by omega];omega,by simp only;omega,by simp only;omega⟩,by simp only;omega,⟨rfl,adV (fun m:Nat=>AV.p (i64 (n+m))) lq,Z,Y⟩,⟨Z,Y⟩⟩
 rw[ab1 (by omega)]at x1 x2;have x1:qL a.bores 0 a.coppers=true:=x1.symm;have x2:n=(bG a.bores 0 a.coppers).length:=by have:(bG a.bores i' []).length=0:=rfl;omega
 have hd:eG a=decide (n<=2000):=by unfold eG;rw[x1,adr,<-x2]
 rw[hd]at hF;refine iW ?_ ?_<;>intro g6<;>try simp only[zB]at g6
 ·rw[aaa (by simp;omega)]at hF;refine⟨?_,trivial⟩;rw[hF];rfl
 rw[aap (by simp;omega)]at hF;refine⟨?_,trivial⟩;rw[hF];rfl
end M
end Go.Proofs.YtfloceomobknoaaGreatDoor
