/- Rings, Edges and HoleGaps give just what the reference gives, with all errors. Condition: what is read is of bulk at most 1048576; the listed variables are tied to the program's text by the card. -/
import Derived.Test.YtfloceomobknoaaGreatDoorH13
set_option linter.unusedVariables false
set_option linter.unusedSimpArgs false
set_option maxRecDepth 100000
set_option maxHeartbeats 8000000
namespace Go.Proofs.YtfloceomobknoaaGreatDoor
namespace M
open Go.AM Go.RowKit Go.Lib
open Reg (ae Full RK an bE cv aS fo fS Piece bh zx told through aa bO bU bG cV nP cZ bB aC lU dR s6)
theorem VO{a:fS}(gd:Ft a):P9 (aC a).pieces:=⟨gd.jB,fun p hp=>(gd.pc p hp).sok,fun p hp=>aaF (gd.pc p hp).jB (by decide)⟩
theorem Qc{a:fS}(ha:iD a):B5 a.bores:=⟨ha.jB,jv ha⟩
theorem uV(b:aS)(ps:List Piece)(k:Nat):cZ b ps (k+1)=if b.plated=true/\nP b (ps.getD k ⟨0,[]⟩)=true then cZ b ps k++[(k:Int)] else cZ b ps k:=by
 unfold cZ;by_cases c:b.plated=true
 ·rw[aap c,aap c,adK,acA,abE];by_cases d:nP b (ps.getD k ⟨0,[]⟩)=true
  ·rw[aap ⟨c,d⟩,aby,aap d];rfl
  rw[aaa (fun e=>d e.2),aby,aaa d];simp
 rw[aaa c,aaa c,aaa (fun e=>c e.1)]
theorem xf(b:aS)(ps:List Piece):∀k,(cZ b ps k).length<=k
 | 0=>by unfold cZ;split<;>simp
 | k+1=>by
  have:=xf b ps k;rw[uV];split
  ·rw[acv,abS];omega
  omega
theorem Od{s:List an}(h:SO s)(hn:(told s).length<=2000):Aa (told s):=⟨hn,Reg.bP h.sok,fun q hq=>by
 have:=Reg.fR h.sok h.ink q hq;unfold RK at this ⊢;omega⟩
theorem DE(a:fS)(ho:dc a=0):af C 42 [.pv (.ag (dX a))] (.p (.ip (Lo a (aC a).pieces (aC a).placed.groups (aC a).bB))) []:=by
 have gd:=jW ho;obtain⟨_,hd,_⟩:=Fs ho;rw[Reg.eG,aaZ,aaH]at hd;have ha:=gd.art;have ok:=Qc ha;have hps:=VO gd;have YB:∀p∈(aC a).pieces,cv 1000000 p.set:=fun p hp=>(gd.pc p hp).ink;have Td:=ha.jB;have KH:=ha.cop;have jB:=gd.jB;have lb:=ai a.bores bc;have lk:=ai a.coppers fun r=>[aj r];have YC:=H5 a ok ha.lan (aC a).pieces hps (aC a).bB (Reg.aeO _ _) (fun x hx=>by
   obtain⟨b,_,rfl⟩:=adS.1 hx;exact aaF (Reg.sU b (aC a).pieces 0) (by omega)) (fun j p hp=>by
   rw[ad4]at hp;cases e:(aC a).bB[j]? with
   | none=>rw[e]at hp;cases hp
   | some x=>rw[e]at hp;exact Reg.s7 a.bores (aC a).pieces x (aad e) p hp) (aC a).placed.groups (Reg.DB (jv ha) fun r hr q hq=>(ph (ha.reg r hr)).full q hq).symm
 have hT':(aC a).bB=a.bores.map fun b=>cZ b (aC a).pieces (aC a).pieces.length:=aaG fun b hb=>(Reg.HT (Reg.bX (jv ha b hb)) hps.sok).symm;have ZW:bG a.bores 0 a.coppers=(aC a).pieces:=rfl;clear gd;generalize (aC a).bB=T at *;generalize (aC a).pieces=ps at *;generalize (aC a).placed.groups=GG at *;refine uX ⟨[21,22],[],[],[10],[],[]⟩ hC Tryz.func42 rfl (by kernel_rfl) fun _=>?_;refine aJ (fun x:Nat×List Piece=>x.2++bG a.bores x.1 (a.coppers.drop x.1)=ps/\x.1<=a.coppers.length) (fun x=>[(1,.bx 1 0),(3,.bx 12 0),(4,.p (i64 x.1))]) (fun x=>[(1,.box ((dX a).map .p)),(12,.box [.p (.sl (a.coppers.map rr)),.p (aj a.outline),.p (.sl (a.bores.map bc)),.p (.sl (a.lands.map lc)),.ow 90000,.ow 90001,.ow 90002,.ow 90003]),(90000,.row 3 (gB x.2)),(90001,.row 22 (eB x.2)),(90002,.row 142 []),(90003,.row 71 [])]) (fun x=>a.coppers.length-x.1) (0,[]) _ ((au.pX (by exact hC) _ 12 4 [.p (.sl (a.coppers.map rr)),.p (aj a.outline),.p (.sl (a.bores.map bc)),.p (.sl (a.lands.map lc)),.p (.im (.slice none 0 0)),.p (.im (.slice none 0 0)),.p (.im (.slice none 0 0)),.p (.im (.slice none 0 0))] (by exact rfl) (by exact rfl)).trans ((au.aeK (by exact hC) _ 12 4 90000 3 _ [.p (.sl (a.coppers.map rr)),.p (aj a.outline),.p (.sl (a.bores.map bc)),.p (.sl (a.lands.map lc)),.nl,.p (.im (.slice none 0 0)),.p (.im (.slice none 0 0)),.p (.im (.slice none 0 0))] (by decide) (by decide) (by exact rfl) (by exact rfl) (by exact rfl) (by decide)).trans ((au.pX (by exact hC) _ 12 5 [.p (.sl (a.coppers.map rr)),.p (aj a.outline),.p (.sl (a.bores.map bc)),.p (.sl (a.lands.map lc)),.ow 90000,.p (.im (.slice none 0 0)),.p (.im (.slice none 0 0)),.p (.im (.slice none 0 0))] (by exact rfl) (by exact rfl)).trans ((au.aeK (by exact hC) _ 12 5 90001 22 _ [.p (.sl (a.coppers.map rr)),.p (aj a.outline),.p (.sl (a.bores.map bc)),.p (.sl (a.lands.map lc)),.ow 90000,.nl,.p (.im (.slice none 0 0)),.p (.im (.slice none 0 0))] (by decide) (by decide) (by exact rfl) (by exact rfl) (by exact rfl) (by decide)).trans ((au.pX (by exact hC) _ 12 6 [.p (.sl (a.coppers.map rr)),.p (aj a.outline),.p (.sl (a.bores.map bc)),.p (.sl (a.lands.map lc)),.ow 90000,.ow 90001,.p (.im (.slice none 0 0)),.p (.im (.slice none 0 0))] (by exact rfl) (by exact rfl)).trans ((au.aeK (by exact hC) _ 12 6 90002 142 _ [.p (.sl (a.coppers.map rr)),.p (aj a.outline),.p (.sl (a.bores.map bc)),.p (.sl (a.lands.map lc)),.ow 90000,.ow 90001,.nl,.p (.im (.slice none 0 0))] (by decide) (by decide) (by exact rfl) (by exact rfl) (by exact rfl) (by decide)).trans ((au.pX (by exact hC) _ 12 7 [.p (.sl (a.coppers.map rr)),.p (aj a.outline),.p (.sl (a.bores.map bc)),.p (.sl (a.lands.map lc)),.ow 90000,.ow 90001,.ow 90002,.p (.im (.slice none 0 0))] (by exact rfl) (by exact rfl)).trans (au.aeK (by exact hC) _ 12 7 90003 71 _ [.p (.sl (a.coppers.map rr)),.p (aj a.outline),.p (.sl (a.bores.map bc)),.p (.sl (a.lands.map lc)),.ow 90000,.ow 90001,.ow 90002,.nl] (by decide) (by decide) (by exact rfl) (by exact rfl) (by exact rfl) (by decide))))))))) ⟨ZW,aaj _⟩ ⟨Z,Z,Z,Y⟩ ⟨Z,Z,Z,Z,Z,Z,Y⟩ fun ⟨i,qs⟩ hx t h=>?_;obtain⟨x1,x2⟩:=hx;simp only at x1 x2;refine iW ?_ ?_<;>intro g1<;>try simp only[zB]at g1
 ·obtain⟨r,hr⟩:=ak (l:=a.coppers) (i:=i) (by omega);have HA:=ha.reg r (aad hr);have ZX:=Reg.xR hd.1 i r hr;rw[show (0:Int)+(i:Int)=i by omega]at ZX;have dr:=jV (jv ha) Td i HA;rw[drop_at hr,bG]at x1;have O1:=qX a ok i r hr HA;have TD:=uQ (told (bU a.bores i r)) (Od dr ZX);have ZY:NX (lU (told (bU a.bores i r)))=.sl (eB ((cV (bU a.bores i r)).map fun s=>(⟨(i:Int),s⟩:Piece))):=by
   rw[Reg.uG dr.sok,NX,eB,ad6,ad6];rfl
  rw[ZY]at TD;obtain⟨PP,SP⟩:∃PP:List Piece,PP=(cV (bU a.bores i r)).map fun s=>(⟨(i:Int),s⟩:Piece):=⟨_,rfl⟩;have YD:∀p∈PP,p.layer=i:=fun p hp=>by rw[SP]at hp;obtain⟨s,_,rfl⟩:=adS.1 hp;rfl
  have x1:qs++(PP++bG a.bores ((i:Int)+1) (a.coppers.drop (i+1)))=ps:=by rw[SP];exact x1
  rw[<-SP]at TD;clear ZY;have lPP:(eB PP).length=PP.length:=aej ..;have tot:qs.length+PP.length<=ps.length:=by rw[<-x1,acv,acv];omega
  refine⟨_,_,O1,?_⟩;refine⟨_,_,TD,?_⟩;refine aJ (fun k:Nat=>k<=PP.length) (fun k=>[(1,.bx 1 0),(3,.bx 12 0),(4,.p (i64 i)),(5,.p (.sl (eB PP))),(6,.p (i64 k))]) (fun k=>[(1,.box ((dX a).map .p)),(12,.box [.p (.sl (a.coppers.map rr)),.p (aj a.outline),.p (.sl (a.bores.map bc)),.p (.sl (a.lands.map lc)),.ow 90000,.ow 90001,.ow 90002,.ow 90003]),(90000,.row 3 (gB (qs++PP.take k))),(90001,.row 22 (eB (qs++PP.take k))),(90002,.row 142 []),(90003,.row 71 [])]) (fun k=>PP.length-k) 0 _ (au.refl _ _) (aaj _) ⟨Z,Z,Z,Z,Z,Y⟩ ⟨rfl,rfl,by rw[List.take_zero,acw];rfl,by rw[List.take_zero,acw];rfl,Z,Z,Y⟩ fun k hk t h=>?_;have ZZ:(qs++PP.take k).length=qs.length+k:=by rw[acv,aat];omega
  have Z0:(gB (qs++PP.take k)).length=qs.length+k:=by rw[gB,aej,ZZ]
  have YE:(eB (qs++PP.take k)).length=qs.length+k:=by rw[eB,aej,ZZ]
  refine iW ?_ ?_<;>intro g2
  ·obtain⟨p,hp⟩:=ak (l:=PP) (i:=k) (by omega);have hl:=YD p (aad hp);refine⟨⟨fun r hr=>by simp at hr;subst hr;rfl,by simp only[Z0,aaB,acs,aaM,aan];omega,by simp only[Z0,aaB,acs,aaM,aan];omega⟩,?_⟩;refine⟨[aj (told p.set)],(idx rfl hp),?_⟩;refine⟨⟨fun r hr=>by simp at hr;subst hr;rfl,by simp only[YE,aaB,acs,aaM,aan];omega,by simp only[YE,aaB,acs,aaM,aan];omega⟩,?_⟩;refine⟨⟨by omega,by omega⟩,?_⟩;refine⟨k+1,_,(au.Cx _ 37 90000 (by decide) (by decide)).trans (au.Cx _ 50 90001 (by decide) (by decide)),?_⟩;have e1:qs++PP.take (k+1)=(qs++PP.take k)++[p]:=by rw[aZ hp,abx]
   have ep1:gB (qs++PP.take (k+1))=gB (qs++PP.take k)++[[i64 i]]:=by rw[e1,gB,gB,abE,adO,hl]
   have ep2:eB (qs++PP.take (k+1))=eB (qs++PP.take k)++[[aj (told p.set)]]:=by rw[e1,eB,eB,abE,adO]
   exact⟨by omega,by omega,⟨Z,Z,Z,Z,Z,Y⟩,⟨rfl,rfl,adV (AB.row _) ep1.symm,adV (AB.row _) ep2.symm,Z,Z,Y⟩⟩
  have e:PP.take k=PP:=adW (by omega);rw[e];refine⟨⟨by omega,by omega⟩,?_⟩;exact⟨(i+1,qs++PP),_,au.refl _ _,⟨by rw[abx];exact x1,by simp only;omega⟩,by simp only;omega,⟨Z,Z,Z,Y⟩,⟨Z,Z,Z,Z,Z,Z,Y⟩⟩
 rw[ab1 (by omega),bG,acw]at x1;have x1:ps=qs:=x1.symm;subst x1;clear ZW;have YE:(eB ps).length=ps.length:=aej ..;refine aJ (fun i:Nat=>i<=a.bores.length) (fun i=>[(1,.bx 1 0),(3,.bx 12 0),(7,.p (i64 i))]) (fun i=>[(1,.box ((dX a).map .p)),(12,.box [.p (.sl (a.coppers.map rr)),.p (aj a.outline),.p (.sl (a.bores.map bc)),.p (.sl (a.lands.map lc)),.p (.sl (gB ps)),.p (.sl (eB ps)),.ow 90002,.ow 90003]),(90002,.row 142 []),(90003,.row 71 (((a.bores.take i).map fun b=>cZ b ps ps.length).map uY))]) (fun i=>a.bores.length-i) 0 _ ((au.fB (by exact hC) _ 12 4 90000 3 (gB ps) [.p (.sl (a.coppers.map rr)),.p (aj a.outline),.p (.sl (a.bores.map bc)),.p (.sl (a.lands.map lc)),.ow 90000,.ow 90001,.ow 90002,.ow 90003] (by decide) (by exact rfl) (by exact rfl) (by exact rfl)).trans (au.fB (by exact hC) _ 12 5 90001 22 (eB ps) [.p (.sl (a.coppers.map rr)),.p (aj a.outline),.p (.sl (a.bores.map bc)),.p (.sl (a.lands.map lc)),.p (.sl (gB ps)),.ow 90001,.ow 90002,.ow 90003] (by decide) (by exact rfl) (by exact rfl) (by exact rfl))) (aaj _) ⟨Z,Z,Z,Y⟩ ⟨Z,Z,Z,Z,Y⟩ fun i hi t h=>?_;have VC:((((a.bores.take i).map fun b=>cZ b ps ps.length)).map uY).length=i:=by rw[aej,aej,aat];omega
 refine iW ?_ ?_<;>intro g2
 ·obtain⟨b,hb⟩:=ak (l:=a.bores) (i:=i) (by omega);have uW:=ok.ok b (aad hb);have K5:jZ (aa b):=by
   have h1:=Reg.er uW;obtain⟨h2,h3⟩:=Reg.bX uW;unfold RK at h1;unfold jZ;omega
  refine aJ (fun k:Nat=>k<=ps.length/\(b.plated=true\/k=0)) (fun k=>[(1,.bx 1 0),(3,.bx 12 0),(7,.p (i64 i)),(8,.ow 8),(9,.p (i64 k))]) (fun k=>[(1,.box ((dX a).map .p)),(12,.box [.p (.sl (a.coppers.map rr)),.p (aj a.outline),.p (.sl (a.bores.map bc)),.p (.sl (a.lands.map lc)),.p (.sl (gB ps)),.p (.sl (eB ps)),.ow 90002,.ow 90003]),(90002,.row 142 []),(90003,.row 71 (((a.bores.take i).map fun b=>cZ b ps ps.length).map uY)),(8,.row 3 (aA (cZ b ps k)))]) (fun k=>ps.length-k) 0 _ (au.dk hC _ 8 3 _ (by decide) rfl rfl (by decide)) ⟨aaj _,.inr rfl⟩ ⟨Z,Z,Z,Z,Z,Y⟩ ⟨rfl,rfl,rfl,rfl,by (have e0:cZ b ps 0=[]:=by unfold cZ;split<;>rfl);rw[e0];rfl,trivial⟩ fun k hk t h=>?_;obtain⟨k1,k2⟩:=hk;have ltt:=xf b ps k;have Z1:=bQ (cZ b ps k);have fin:(¬k<ps.length\/¬b.plated=true)->cZ b ps k=cZ b ps ps.length:=fun c=>by
   rcases c with c | c
   ·rw[show k=ps.length by omega]
   unfold cZ;rw[aaa c,aaa c]
  have tail:∀g3:(¬k<ps.length\/¬b.plated=true),((a.bores.take (i+1)).map fun b=>cZ b ps ps.length).map uY=(((a.bores.take i).map fun b=>cZ b ps ps.length).map uY)++[uY (cZ b ps k)]:=fun g3=>by
   rw[aZ hb,abE,abE,fin g3];rfl
  refine iW ?_ ?_<;>intro g3
  ·obtain⟨p,hp⟩:=ak (l:=ps) (i:=k) (by omega);have ep:ps.getD k ⟨0,[]⟩=p:=by rw[ad4,hp];rfl
   have fJ:=uV b ps k;rw[ep]at fJ;have Z2:=hps.sok p (aad hp);have psl:=hps.len p (aad hp);have YF:∀q∈told p.set,jZ q:=fun q hq=>by
    have h1:=Reg.fR Z2 (YB p (aad hp)) q hq;obtain⟨h2,h3⟩:=Reg.bP Z2 q hq;unfold RK at h1;unfold jZ;omega
   refine⟨(bc b),(idx rfl hb),?_⟩;refine iW ?_ ?_<;>intro g4
   ·refine⟨(bc b),(idx rfl hb),?_⟩;refine⟨[i64 p.layer],(idx rfl hp),?_⟩;refine⟨_,_,(pJ b p.layer),?_⟩;have no:nP b p=false->cZ b ps (k+1)=cZ b ps k:=fun c=>by rw[fJ,aaa (fun e=>by rw[c]at e;exact absurd e.2 (by decide))]
    refine iW ?_ ?_<;>intro g5
    ·refine⟨[aj (told p.set)],(idx rfl hp),?_⟩;refine⟨(bc b),(idx rfl hb),?_⟩;refine⟨_,_,(di b uW),?_⟩;refine⟨_,_,(La (told p.set) (aa b) YF K5 psl),?_⟩;refine iW ?_ ?_<;>intro g6
     ·rw[aap ⟨g4,by simp only[nP];rw[g5,g6];rfl⟩]at fJ;refine⟨⟨fun r hr=>by simp at hr;subst hr;rfl,by simp only[Z1,aaB,acs,aaM,aan];omega,by simp only[Z1,aaB,acs,aaM,aan];omega⟩,?_⟩;refine⟨⟨by omega,by omega⟩,?_⟩;exact⟨(k+1),_,au.refl _ _,⟨by omega,.inl g4⟩,by omega,⟨Z,Z,Z,Z,Z,Y⟩,⟨rfl,rfl,rfl,rfl,by rw[fJ];exact adV (AB.row _) (gP _ _).symm,trivial⟩⟩
     have e:=no (by simp only[nP];rw[g5,g6];rfl);refine⟨⟨by omega,by omega⟩,?_⟩;exact⟨(k+1),_,au.refl _ _,⟨by omega,.inl g4⟩,by omega,⟨Z,Z,Z,Z,Z,Y⟩,⟨rfl,rfl,rfl,rfl,by rw[e];rfl,trivial⟩⟩
    have e:=no (by simp only[nP];rw[g5];rfl);refine⟨⟨by omega,by omega⟩,?_⟩;exact⟨(k+1),_,au.refl _ _,⟨by omega,.inl g4⟩,by omega,⟨Z,Z,Z,Z,Z,Y⟩,⟨rfl,rfl,rfl,rfl,by rw[e];rfl,trivial⟩⟩
   have e:=tail (.inr (by rw[g4];decide));refine⟨⟨fun r hr=>by simp at hr;subst hr;rfl,by simp only[VC,aaB,acs,aaM,aan];omega,by simp only[VC,aaB,acs,aaM,aan];omega⟩,?_⟩;refine⟨⟨by omega,by omega⟩,?_⟩;refine⟨i+1,_,au.Cx _ 117 90003 (by decide) (by decide),?_⟩;exact⟨by omega,by omega,⟨Z,Z,Z,Y⟩,⟨rfl,rfl,rfl,by rw[e];rfl,trivial⟩⟩
  have e:=tail (.inl (by omega));refine⟨⟨fun r hr=>by simp at hr;subst hr;rfl,by simp only[VC,aaB,acs,aaM,aan];omega,by simp only[VC,aaB,acs,aaM,aan];omega⟩,?_⟩;refine⟨⟨by omega,by omega⟩,?_⟩;refine⟨i+1,_,au.Cx _ 117 90003 (by decide) (by decide),?_⟩;exact⟨by omega,by omega,⟨Z,Z,Z,Y⟩,⟨rfl,rfl,rfl,by rw[e];rfl,trivial⟩⟩
 have e:a.bores.take i=a.bores:=adW (by omega);rw[e,<-hT'];refine qy ((au.fB (by exact hC) _ 12 7 90003 71 (T.map uY) [.p (.sl (a.coppers.map rr)),.p (aj a.outline),.p (.sl (a.bores.map bc)),.p (.sl (a.lands.map lc)),.p (.sl (gB ps)),.p (.sl (eB ps)),.ow 90002,.ow 90003] (by decide) (by exact rfl) (by exact rfl) (by exact rfl)).trans (au.pack (by exact hC) _ 12 (cs:=[.p (.sl (a.coppers.map rr)),.p (aj a.outline),.p (.sl (a.bores.map bc)),.p (.sl (a.lands.map lc)),.p (.sl (gB ps)),.p (.sl (eB ps)),.row 142 [],.p (.sl (T.map uY))]) (by exact rfl) (by exact rfl) (by exact⟨Z,Z,Z,Z,Z,Z,Z,Z,Y⟩))) ?_;refine⟨_,_,YC,?_⟩;refine qy ((au.open (by exact hC) _ 12 [90002] (cs:=[.p (.sl (a.coppers.map rr)),.p (aj a.outline),.p (.sl (a.bores.map bc)),.p (.sl (a.lands.map lc)),.p (.sl (gB ps)),.p (.sl (eB ps)),.row 142 (GG.map sT),.p (.sl (T.map uY))]) (by exact rfl) rfl rfl rfl).trans (au.fB (by exact hC) _ 12 6 90002 142 (GG.map sT) [.p (.sl (a.coppers.map rr)),.p (aj a.outline),.p (.sl (a.bores.map bc)),.p (.sl (a.lands.map lc)),.p (.sl (gB ps)),.p (.sl (eB ps)),.ow 90002,.p (.sl (T.map uY))] (by decide) (by exact rfl) (by exact rfl) (by exact rfl))) ?_;refine⟨?_,trivial⟩;rfl
def lU(a:fS):List Piece×Int:=if dc a=0 then ((aC a).pieces,0) else ([],dc a)
theorem xg(s:List an)(hs:Reg.bE s)(hn:s≠[]):af C 129 [.pv (aw s)] (.p (.ag [i64 (jq s).1,i64 (jq s).2])) []:=by
 match s,hs,hn with
 | b::s,hs,_=>
  have hb:=hs.mem b adU
  match hx:b.xs with
  | []=>exact absurd hx hb.ne
  | p::u=>
   have:=ET b s p u hx;rw[jq,hx];exact this
open Reg (BR aB fT bN uo nM a_ coreS P4)
theorem F0(r:cP)(hg:zd r)(a:fS)(gd:Ft a):af C 52 [.pv (.ag (rl r)),.pv (.ip (kW a))] (.p (.sl ((gQ r.edge (aB a.outline) 0 (aC a).pieces).map nQ))) []:=by
 have lp:=ai (aC a).pieces jb;have jB:=gd.jB;have HY:=hg.nums;simp only[gM,cL,aaZ,aaH]at HY;obtain⟨G,hG⟩:∃G,G=gQ r.edge (aB a.outline) 0 (aC a).pieces:=⟨_,rfl⟩;rw[<-hG];have Yw:=zG (ph gd.art.out);obtain⟨so,ko⟩:=xS gd.art.out;generalize aB a.outline=O at *;have Z3:=zt O so ko r.edge (by omega) (by omega);have YG:=Reg.pe so (l:=r.edge) (r:=r.edge) (d:=r.edge) (u:=r.edge) (by omega) (by omega) (by omega) (by omega);have Z4:=Dd YG.1 so ko fun x y hx=>(YG.2.1 x y).1 hx x y (by omega) (by omega) (by omega) (by omega);have YH:=YG.1;obtain⟨I,hI⟩:∃I,I=coreS O r.edge r.edge r.edge r.edge:=⟨_,rfl⟩;rw[<-hI]at Z3 YH Z4;refine uX ⟨[3,7],[],[],[10],[],[]⟩ hC Tryz.func52 rfl (by kernel_rfl) fun _=>?_;refine⟨_,_,Yw,?_⟩;refine xp 6 (y:=.ip [aw O]) (fz:=[(6,.jd [aw O])]) (by exact hC) (by exact⟨rfl,rfl⟩) ?_;refine⟨_,_,Z3,?_⟩;refine aJ (fun x:Nat×List Break=>x.2++gQ r.edge O x.1 ((aC a).pieces.drop x.1)=G/\x.2.length<=x.1/\x.1<=(aC a).pieces.length) (fun x=>[(1,.p (.ip (kW a))),(2,.p (.ip (rl r))),(5,.ow 5),(6,.p (.ip [aw O])),(7,.p (aw I)),(25,.p (.sl ((aC a).pieces.map jb))),(26,.p (i64 (aC a).pieces.length)),(27,.p (i64 x.1))]) (fun x=>[(5,.row 47 (x.2.map nQ))]) (fun x=>(aC a).pieces.length-x.1) (0,[]) _ ((au.dk (by exact hC) _ 5 47 _ (by decide) (by exact rfl) (by exact rfl) (by decide)).trans (au.gD (by exact hC) _ 2 (y:=.ip (rl r)) (fz:=[(2,.jd (rl r))]) (by exact⟨rfl,rfl⟩))) ⟨by rw[hG];rfl,by simp,aaj _⟩ ⟨rfl,rfl,rfl,rfl,rfl,rfl,adV (fun m:Nat=>AV.p (i64 m)) lp,Z,Y⟩ ⟨Z,Y⟩ fun ⟨i,o⟩ hx t h=>?_;obtain⟨x1,x2,x3⟩:=hx;simp only at x1 x2 x3;refine iW ?_ ?_<;>intro g1<;>try simp only[zB]at g1
 ·obtain⟨p,hp⟩:=ak (l:=(aC a).pieces) (i:=i) (by omega);have gp:=gd.pc p (aad hp);rw[drop_at hp,gQ,Dm,<-hI]at x1;have hle:=iJ p.set I gp.sok YH (gp.ink.up (by omega)) (Z4.up (by omega));have W9:=(Reg.b6 gp.sok YH).1;have Oq:=Fu p O gp.sok gp.ink so ko r.edge (by omega) (by omega);generalize dL (fun n=>decide (bN p.set (coreS O n n n n)=[])) r.edge=gr at *;generalize bN p.set I=T at *;have lT:=ai T hb;refine⟨(jb p),(idx rfl hp),?_⟩;refine xp 9 (y:=.ip (jb p)) (fz:=[(9,.jd (jb p))]) (by exact hC) (by exact⟨rfl,rfl⟩) ?_;refine⟨_,_,hle,?_⟩;refine iW ?_ ?_<;>intro g2
  ·have e:T=[]:=aef.1 (by omega);rw[aap e,aaI]at x1;refine⟨⟨by omega,by omega⟩,?_⟩;exact⟨(i+1,o),_,au.refl _ _,⟨x1,by simp only;omega,by simp only;omega⟩,by simp only;omega,⟨Z,Z,Z,Z,Z,Z,Z,Z,Y⟩,⟨Z,Y⟩⟩
  have e:T≠[]:=fun e=>g2 (by rw[e];rfl);rw[aaa e]at x1;refine⟨_,_,Oq,?_⟩;refine⟨_,_,(xg T W9 e),?_⟩;refine⟨⟨fun r hr=>by simp at hr;subst hr;rfl,by simp only[aej,aaM,aan,acv,aaB,acs];omega,by simp only[aej,aaM,aan,acv,aaB,acs];omega⟩,?_⟩;refine⟨⟨by omega,by omega⟩,?_⟩;exact⟨(i+1,o++[⟨4,i,0,gr,r.edge,jq T⟩]),_,au.refl _ _,⟨by rw[<-x1];simp only[abx,aed,abe,aaI],by simp only[acv,abS];omega,by simp only;omega⟩,by simp only;omega,⟨Z,Z,Z,Z,Z,Z,Z,Z,Y⟩,⟨by rw[abE];rfl,trivial⟩⟩
 rw[ab1 (by omega),gQ,acw]at x1;have x1:o=G:=x1;refine⟨?_,trivial⟩;rw[<-x1]
theorem s8(l:List Break):af C 47 [.pv (.sl (l.map nQ))] (.tu [.sl ((mI l).1.map nQ),i64 (mI l).2]) []:=by
 have ll:=ai l nQ;refine fW hC Tryz.func47 rfl (by kernel_rfl) fun _=>?_;refine iW ?_ ?_<;>intro g
 ·rw[ll]at g;rw[mI,aap (by omega)];refine⟨?_,trivial⟩;rfl
 rw[ll]at g;rw[mI,aaa (by omega)];refine⟨?_,trivial⟩;rfl
theorem TF{b:aS}(h:bO b=true):P4 1000000000 (aa b):=by
 obtain⟨a1,a2,a3,a4⟩:=Reg.Q8 (Reg.bX h) (Reg.er h);exact⟨⟨by omega,by omega⟩,⟨by omega,by omega⟩,⟨by omega,by omega⟩,⟨by omega,by omega⟩⟩
theorem Ad(r:cP)(hg:zd r)(a:fS)(gd:Ft a):af C 57 [.pv (.ag (rl r)),.pv (.ip (kW a))] (.p (.sl ((fY r.holeGap 0 a.bores).map nQ))) []:=by
 have lb:=ai a.bores bc;have jB:=gd.art.jB;have B_:=jv gd.art;obtain⟨G,hG⟩:∃G,G=fY r.holeGap 0 a.bores:=⟨_,rfl⟩;rw[<-hG];refine uX ⟨[5,9],[],[],[],[],[]⟩ hC Tryz.func57 rfl (by kernel_rfl) fun _=>?_;refine aJ (fun x:Nat×List Break=>x.2++fY r.holeGap x.1 (a.bores.drop x.1)=G/\x.2.length<=500*x.1/\x.1<=a.bores.length) (fun x=>[(1,.p (.ip (kW a))),(2,.p (.ip (rl r))),(5,.ow 5),(16,.p (.sl (a.bores.map bc))),(17,.p (i64 a.bores.length)),(18,.p (i64 x.1))]) (fun x=>[(5,.row 47 (x.2.map nQ))]) (fun x=>a.bores.length-x.1) (0,[]) _ ((au.dk (by exact hC) _ 5 47 _ (by decide) (by exact rfl) (by exact rfl) (by decide)).trans (au.gD (by exact hC) _ 2 (y:=.ip (rl r)) (fz:=[(2,.jd (rl r))]) (by exact⟨rfl,rfl⟩))) ⟨by rw[hG];rfl,by simp,aaj _⟩ ⟨rfl,rfl,rfl,rfl,adV (fun m:Nat=>AV.p (i64 m)) lb,Z,Y⟩ ⟨Z,Y⟩ fun ⟨i,o⟩ hx t h=>?_;obtain⟨x1,x2,x3⟩:=hx;simp only at x1 x2 x3;refine iW ?_ ?_<;>intro g1<;>try simp only[zB]at g1
 ·obtain⟨x,DL⟩:=ak (l:=a.bores) (i:=i) (by omega);have bx:=B_ x (aad DL);rw[drop_at DL,fY]at x1;refine⟨(bc x),(idx rfl DL),?_⟩;refine xp 7 (y:=.ip (bc x)) (fz:=[(7,.jd (bc x))]) (by exact hC) (by exact⟨rfl,rfl⟩) ?_;refine⟨⟨by omega,by omega⟩,?_⟩;refine aJ (fun y:Nat×List Break=>y.2++(nC r.holeGap i x y.1 (a.bores.drop y.1)++fY r.holeGap (i+1) (a.bores.drop (i+1)))=G/\y.2.length<=500*i+y.1/\i+1<=y.1/\y.1<=a.bores.length) (fun y=>[(1,.p (.ip (kW a))),(2,.p (.ip (rl r))),(5,.ow 5),(6,.p (i64 i)),(7,.p (.ip (bc x))),(8,.p (i64 y.1)),(16,.p (.sl (a.bores.map bc))),(17,.p (i64 a.bores.length)),(18,.p (i64 i))]) (fun y=>[(5,.row 47 (y.2.map nQ))]) (fun y=>a.bores.length-y.1) (i+1,o) _ (au.refl _ _) ⟨x1,by simp only;omega,by simp only;omega,by simp only;omega⟩ ⟨Z,Z,Z,Z,Z,Z,Z,Z,Z,Y⟩ ⟨Z,Y⟩ fun ⟨k,o'⟩ hy t h=>?_;obtain⟨nR,VP,VQ,VR⟩:=hy;simp only at nR VP VQ VR;refine iW ?_ ?_<;>intro g2<;>try simp only[zB]at g2
  ·rw[lb]at g2;obtain⟨z,hz⟩:=ak (l:=a.bores) (i:=k) (by omega);have bz:=B_ z (aad hz);rw[drop_at hz,nC,Dn]at nR;have YI:=BM (aa x) (aa z) (TF bx) (TF bz);have Iq:=Reg.Nw (TF bx) (TF bz);refine⟨(bc z),(idx rfl hz),?_⟩;refine xp 9 (y:=.ip (bc z)) (fz:=[(9,.jd (bc z))]) (by exact hC) (by exact⟨rfl,rfl⟩) ?_;refine iW ?_ ?_<;>intro g3
   ·rw[aap (.inl g3),aaI]at nR;refine⟨⟨by omega,by omega⟩,?_⟩;exact⟨(k+1,o'),_,au.refl _ _,⟨nR,by simp only;omega,by simp only;omega,by simp only;omega⟩,by simp only;omega,⟨Z,Z,Z,Z,Z,Z,Z,Z,Z,Y⟩,⟨Z,Y⟩⟩
   refine iW ?_ ?_<;>intro g4
   ·rw[aap (.inr g4),aaI]at nR;refine⟨⟨by omega,by omega⟩,?_⟩;exact⟨(k+1,o'),_,au.refl _ _,⟨nR,by simp only;omega,by simp only;omega,by simp only;omega⟩,by simp only;omega,⟨Z,Z,Z,Z,Z,Z,Z,Z,Z,Y⟩,⟨Z,Y⟩⟩
   rw[aaa (by rintro (e | e);exact g3 e;exact g4 e)]at nR;generalize fT (aa x) (aa z)=fr at *;refine⟨_,_,(cF x bx),?_⟩;refine⟨_,_,(cF z bz),?_⟩;refine⟨_,_,YI,?_⟩;refine⟨⟨by omega,by omega⟩,?_⟩;refine iW ?_ ?_<;>intro g5
   ·rw[aap g5]at nR;refine⟨⟨fun r hr=>by simp at hr;subst hr;rfl,by simp only[aej,aaM,aan,acv,aaB,acs];omega,by simp only[aej,aaM,aan,acv,aaB,acs];omega⟩,?_⟩;refine⟨⟨by omega,by omega⟩,?_⟩;exact⟨(k+1,o'++[⟨5,i,k,fr-1,r.holeGap,((aa x).x0,(aa x).y0)⟩]),_,au.refl _ _,⟨by rw[<-nR];simp only[abx,aed,abe,aaI],by simp only[acv,abS];omega,by simp only;omega,by simp only;omega⟩,by simp only;omega,⟨Z,Z,Z,Z,Z,Z,Z,Z,Z,Y⟩,⟨by rw[abE];rfl,trivial⟩⟩
   rw[aaa g5,aaI]at nR;refine⟨⟨by omega,by omega⟩,?_⟩;exact⟨(k+1,o'),_,au.refl _ _,⟨nR,by simp only;omega,by simp only;omega,by simp only;omega⟩,by simp only;omega,⟨Z,Z,Z,Z,Z,Z,Z,Z,Z,Y⟩,⟨Z,Y⟩⟩
  rw[lb]at g2;rw[ab1 (show a.bores.length<=k by omega),nC,aaI]at nR;refine⟨⟨by omega,by omega⟩,?_⟩;exact⟨(i+1,o'),_,au.refl _ _,⟨nR,by simp only;omega,by simp only;omega⟩,by simp only;omega,⟨Z,Z,Z,Z,Z,Z,Y⟩,⟨Z,Y⟩⟩
 rw[ab1 (by omega),fY,acw]at x1;have x1:o=G:=x1;refine⟨?_,trivial⟩;rw[<-x1]
theorem Lc{a:fS}(gd:iD a){layer:Int}{Z5:List ae}(h:a.coppers[layer.toNat]?=some Z5):a.coppers.getD layer.toNat []=Z5:=by rw[ad4,h];rfl
theorem Oe{x:aS}(h:bO x=true):bE (qP x)/\cv 1110000 (qP x):=by
 obtain⟨o1,o2⟩:=gz h;obtain⟨s1,_,s3⟩:=Reg.bW o1 (l:=1) (r:=1) (d:=0) (u:=0) (by omega) (by omega) (by omega) (by omega);obtain⟨t1,_,t3⟩:=Reg.bW o1 (l:=0) (r:=0) (d:=1) (u:=1) (by omega) (by omega) (by omega) (by omega);obtain⟨u1,_,u3⟩:=Reg.kH s1 t1;exact⟨u1,u3 _ (s3 1010000 100000 o2 (by omega) (by omega) (by omega) (by omega)) (t3 1010000 100000 o2 (by omega) (by omega) (by omega) (by omega))⟩
theorem F1(r:cP)(hg:zd r)(a:fS)(gd:Ft a):af C 48 [.pv (.ag (rl r)),.pv (.ip (kW a))] (.p (.sl ((fG r.ring a.bores a.coppers 0 a.bores).map nQ))) []:=by
 have lb:=ai a.bores bc;have jB:=gd.art.jB;have cop:=gd.art.cop;have B_:=jv gd.art;have HY:=hg.nums;simp only[gM,cL,aaZ,aaH]at HY;obtain⟨G,hG⟩:∃G,G=fG r.ring a.bores a.coppers 0 a.bores:=⟨_,rfl⟩;rw[<-hG];refine uX ⟨[5,7,19,16,20],[],[],[23],[],[]⟩ hC Tryz.func48 rfl (by kernel_rfl) fun _=>?_;refine aJ (fun x:Nat×List Break=>x.2++fG r.ring a.bores a.coppers x.1 (a.bores.drop x.1)=G/\x.2.length<=16*x.1/\x.1<=a.bores.length) (fun x=>[(1,.p (.ip (kW a))),(2,.p (.ip (rl r))),(5,.ow 5),(22,.p (.sl (a.bores.map bc))),(23,.p (i64 a.bores.length)),(24,.p (i64 x.1))]) (fun x=>[(5,.row 47 (x.2.map nQ))]) (fun x=>a.bores.length-x.1) (0,[]) _ ((au.dk (by exact hC) _ 5 47 _ (by decide) (by exact rfl) (by exact rfl) (by decide)).trans (au.gD (by exact hC) _ 2 (y:=.ip (rl r)) (fz:=[(2,.jd (rl r))]) (by exact⟨rfl,rfl⟩))) ⟨by rw[hG];rfl,by simp,aaj _⟩ ⟨rfl,rfl,rfl,rfl,adV (fun m:Nat=>AV.p (i64 m)) lb,Z,Y⟩ ⟨Z,Y⟩ fun ⟨i,o⟩ hx t h=>?_;obtain⟨x1,x2,x3⟩:=hx;simp only at x1 x2 x3;refine iW ?_ ?_<;>intro g1<;>try simp only[zB]at g1
 ·obtain⟨x,DL⟩:=ak (l:=a.bores) (i:=i) (by omega);have UR:=aad DL;have bx:=B_ x UR;obtain⟨_,blo,ble,bhi⟩:=gd.art.bor x UR;obtain⟨so,ko⟩:=gz bx;rw[drop_at DL,fG]at x1;have VB:=zH bx;obtain⟨O,hO⟩:∃O,O=aB [aa x]:=⟨_,rfl⟩;rw[<-hO]at VB so ko;have sp1:=pg O so (ko.up (by omega)) 1 1 0 0 (by omega) (by omega) (by omega) (by omega);have sp2:=pg O so (ko.up (by omega)) 0 0 1 1 (by omega) (by omega) (by omega) (by omega);obtain⟨s1,_,s3⟩:=Reg.bW so (l:=1) (r:=1) (d:=0) (u:=0) (by omega) (by omega) (by omega) (by omega);obtain⟨t1,_,t3⟩:=Reg.bW so (l:=0) (r:=0) (d:=1) (u:=1) (by omega) (by omega) (by omega) (by omega);have s3:=s3 1010000 100000 ko (by omega) (by omega) (by omega) (by omega);have t3:=t3 1010000 100000 ko (by omega) (by omega) (by omega) (by omega);have yA:=ES _ _ s1 t1 (s3.up (by omega)) (t3.up (by omega));have eX:uo (a_ O 1 1 0 0) (a_ O 0 0 1 1)=qP x:=by rw[hO];rfl
  rw[eX]at yA;obtain⟨cx1,cx2⟩:=Oe bx;refine⟨(bc x),(idx rfl DL),?_⟩;refine xp 7 (y:=.ip (bc x)) (fz:=[(7,.jd (bc x))]) (by exact hC) (by exact⟨rfl,rfl⟩) ?_;refine⟨_,_,(cF x bx),?_⟩;refine⟨_,_,VB,?_⟩;refine xp 9 (y:=.ip [aw O]) (fz:=[(9,.jd [aw O])]) (by exact hC) (by exact⟨rfl,rfl⟩) ?_;refine aJ (fun y:Nat×Int×List Break=>y.2.2++(js r.ring a.bores a.coppers i x y.1 y.2.1++fG r.ring a.bores a.coppers (i+1) (a.bores.drop (i+1)))=G/\y.1=(x.hi+1-y.2.1).toNat/\y.2.2.length+y.1<=16*(i+1)/\x.lo<=y.2.1/\y.2.1<=x.hi+1) (fun y=>[(1,.p (.ip (kW a))),(2,.p (.ip (rl r))),(5,.ow 5),(6,.p (i64 i)),(7,.p (.ip (bc x))),(9,.p (.ip [aw O])),(10,.p (i64 y.2.1)),(22,.p (.sl (a.bores.map bc))),(23,.p (i64 a.bores.length)),(24,.p (i64 i))]) (fun y=>[(5,.row 47 (y.2.2.map nQ))]) (fun y=>y.1) ((x.hi+1-x.lo).toNat,x.lo,o) _ (au.refl _ _) ⟨x1,rfl,by simp only;omega,by simp only;omega,by simp only;omega⟩ ⟨Z,Z,Z,Z,Z,Z,Z,Z,Z,Z,Y⟩ ⟨Z,Y⟩ fun ⟨n,layer,o'⟩ hy t h=>?_;obtain⟨nR,VP,VQ,VR,yy5⟩:=hy;simp only at nR VP VQ VR yy5;refine iW ?_ ?_<;>intro g2
  ·refine iW ?_ ?_<;>intro g3<;>try simp only[zB]at g3
   ·obtain⟨m,rfl⟩:∃m,n=m+1:=⟨n-1,by omega⟩;rw[js,aap ⟨g2,g3⟩,lS]at nR;obtain⟨rg,TC⟩:=ak (l:=a.coppers) (i:=layer.toNat) (by omega);have Sn:=Lc gd.art TC;have Tv:=gd.art.reg rg (aad TC);obtain⟨sr,kr⟩:=xS Tv;obtain⟨sc,kc⟩:=HH gd.art i layer;have YJ:dM a.bores i layer 0 a.bores (aB rg)=fF a.bores a.coppers i layer:=by rw[fF,Sn]
    rw[Sn,<-hO]at nR;have hand:=Kz (aB rg) (qP x) sr cx1 (kr.up (by omega)) (cx2.up (by omega));obtain⟨T,hT⟩:∃T,T=nM (aB rg) (qP x):=⟨_,rfl⟩;rw[<-hT]at nR hand;have lT:=ai T hb;have hsr:=zG (ph Tv);generalize aB rg=R0 at *;generalize qP x=X at *;refine⟨(rr rg),(idx (show layer=(layer.toNat:Int) by omega) TC),?_⟩;refine⟨_,_,hsr,?_⟩;refine⟨_,_,sp1,?_⟩;refine⟨_,_,sp2,?_⟩;refine⟨_,_,yA,?_⟩;refine⟨_,_,hand,?_⟩;refine iW ?_ ?_<;>intro g4
    ·have e:T=[]:=aef.1 (by omega);rw[aap e,aaI]at nR;refine⟨⟨by dsimp only;omega,by dsimp only;omega⟩,?_⟩;exact⟨(m,layer+1,o'),_,au.refl _ _,⟨nR,by simp only;omega,by simp only;omega,by simp only;omega,by simp only;omega⟩,by simp only;omega,⟨Z,Z,Z,Z,Z,Z,Z,Z,Z,Z,Y⟩,⟨Z,Y⟩⟩
    have e:T≠[]:=fun e=>g4 (by rw[e];rfl);rw[aaa e]at nR;have Oq:=Fv O (fF a.bores a.coppers i layer) so ko sc kc r.ring (by omega) (by omega);have Si:=Jd O (fF a.bores a.coppers i layer) so ko sc kc r.ring (by omega) (by omega);have sla:=(KT so sc (n:=r.ring) (by omega)).1;generalize dL (fun n=>decide (n<0)||decide (jr O (fF a.bores a.coppers i layer) n=[])) r.ring=gr at *;generalize jr O (fF a.bores a.coppers i layer) r.ring=L at *;generalize fF a.bores a.coppers i layer=CA at *;have lL:=ai L hb;refine aJ (fun z:Nat×List an=>dM a.bores i layer z.1 (a.bores.drop z.1) z.2=CA/\bE z.2/\cv 2000000 z.2/\z.1<=a.bores.length) (fun z=>[(1,.p (.ip (kW a))),(2,.p (.ip (rl r))),(5,.ow 5),(6,.p (i64 i)),(7,.p (.ip (bc x))),(9,.p (.ip [aw O])),(10,.p (i64 layer)),(11,.bx 11 0),(22,.p (.sl (a.bores.map bc))),(23,.p (i64 a.bores.length)),(24,.p (i64 i)),(69,.p (.sl (a.bores.map bc))),(70,.p (i64 a.bores.length)),(71,.p (i64 z.1))]) (fun z=>[(5,.row 47 (o'.map nQ)),(11,.box [.p (aw z.2)])]) (fun z=>a.bores.length-z.1) (0,R0) _ (au.refl _ _) ⟨YJ,sr,kr.up (by omega),aaj _⟩ ⟨rfl,rfl,rfl,rfl,rfl,rfl,rfl,rfl,rfl,rfl,rfl,rfl,adV (fun m:Nat=>AV.p (i64 m)) lb,Z,Y⟩ ⟨Z,Z,Y⟩ fun ⟨k,s⟩ hz t h=>?_;obtain⟨z1,z2,z3,z4⟩:=hz;simp only at z1 z2 z3 z4;refine iW ?_ ?_<;>intro g5<;>try simp only[zB]at g5
    ·obtain⟨v,hv⟩:=ak (l:=a.bores) (i:=k) (by omega);have bv:=B_ v (aad hv);obtain⟨sv,kv⟩:=gz bv;rw[drop_at hv,dM]at z1;have Wt:=ES s (aB [aa v]) z2 sv z3 (kv.up (by omega));have hsv:=zH bv;obtain⟨or1,_,YK⟩:=Reg.kH z2 sv;have YK:=YK 2000000 z3 (kv.up (by omega));refine⟨(bc v),(idx rfl hv),?_⟩;refine xp 14 (y:=.ip (bc v)) (fz:=[(14,.jd (bc v))]) (by exact hC) (by exact⟨rfl,rfl⟩) ?_;refine iW ?_ ?_<;>intro g6<;>try simp only[zB]at g6
     ·have g6':k≠i:=fun e=>g6 (by rw[e]);refine⟨_,_,(jk v layer),?_⟩;refine iW ?_ ?_<;>intro g7
      ·rw[aap ⟨g6',g7⟩]at z1;refine⟨_,_,(cF v bv),?_⟩;refine⟨_,_,hsv,?_⟩;refine⟨_,_,Wt,?_⟩;refine⟨⟨by omega,by omega⟩,?_⟩;exact⟨(k+1,uo s (aB [aa v])),_,au.refl _ _,⟨z1,or1,YK,by simp only;omega⟩,by simp only;omega,⟨Z,Z,Z,Z,Z,Z,Z,Z,Z,Z,Z,Z,Z,Z,Y⟩,⟨Z,Z,Y⟩⟩
      rw[aaa fun e=>by rw[e.2]at g7;cases g7]at z1;refine⟨⟨by omega,by omega⟩,?_⟩;exact⟨(k+1,s),_,au.refl _ _,⟨z1,z2,z3,by simp only;omega⟩,by simp only;omega,⟨Z,Z,Z,Z,Z,Z,Z,Z,Z,Z,Z,Z,Z,Z,Y⟩,⟨Z,Z,Y⟩⟩
     rw[aaa fun e=>e.1 (by omega)]at z1;refine⟨⟨by omega,by omega⟩,?_⟩;exact⟨(k+1,s),_,au.refl _ _,⟨z1,z2,z3,by simp only;omega⟩,by simp only;omega,⟨Z,Z,Z,Z,Z,Z,Z,Z,Z,Z,Z,Z,Z,Z,Y⟩,⟨Z,Z,Y⟩⟩
    rw[ab1 (show a.bores.length<=k by omega),dM]at z1;subst z1;refine xp 11 (y:=.ip [aw s]) (fz:=[(11,.jd [aw s])]) (by exact hC) (by exact⟨rfl,rfl⟩) ?_;refine qy ((au.SX (by exact hC) _ 15 0 125 [.ip [aw O],.ip [aw s]] [.fn 125 [.p (.ip [aw O]),.p (.ip [aw s])]] (by exact rfl) (by exact rfl)).trans (au.gD (by exact hC) _ 15 (y:=.ip [vO O s]) (fz:=[(15,.jd [vO O s])]) (by exact⟨rfl,rfl⟩))) ?_;refine⟨_,_,Si,?_⟩;refine iW ?_ ?_<;>intro g8
    ·have e:L≠[]:=fun e=>by rw[e]at g8;simp at g8
     rw[aaa e]at nR;refine⟨_,_,Oq,?_⟩;refine⟨_,_,(xg L sla e),?_⟩;refine⟨⟨fun r hr=>by simp at hr;subst hr;rfl,by simp only[aej,aaM,aan,acv,aaB,acs];omega,by simp only[aej,aaM,aan,acv,aaB,acs];omega⟩,?_⟩;refine⟨⟨by omega,by omega⟩,?_⟩;exact⟨(m,layer+1,o'++[⟨3,i,layer,gr,r.ring,jq L⟩]),_,au.refl _ _,⟨by rw[<-nR];simp only[abx,aed,abe,aaI],by simp only;omega,by simp only[acv,abS];omega,by simp only;omega,by simp only;omega⟩,by simp only;omega,⟨Z,Z,Z,Z,Z,Z,Z,Z,Z,Z,Y⟩,⟨by rw[abE];rfl,trivial⟩⟩
    have e:L=[]:=aef.1 (by omega);rw[aap e,aaI]at nR;refine⟨⟨by omega,by omega⟩,?_⟩;exact⟨(m,layer+1,o'),_,au.refl _ _,⟨nR,by simp only;omega,by simp only;omega,by simp only;omega,by simp only;omega⟩,by simp only;omega,⟨Z,Z,Z,Z,Z,Z,Z,Z,Z,Z,Y⟩,⟨Z,Y⟩⟩
   have e0:n=0:=by omega
   subst e0;rw[js,aaI]at nR;refine⟨⟨by omega,by omega⟩,?_⟩;exact⟨(i+1,o'),_,au.refl _ _,⟨nR,by simp only;omega,by simp only;omega⟩,by simp only;omega,⟨Z,Z,Z,Z,Z,Z,Y⟩,⟨Z,Y⟩⟩
  have e0:js r.ring a.bores a.coppers i x n layer=[]:=by
   cases n with
   | zero=>rfl
   | succ n=>rw[js,aaa fun e=>by rw[e.1]at g2;simp at g2]
  rw[e0,aaI]at nR;refine⟨⟨by omega,by omega⟩,?_⟩;exact⟨(i+1,o'),_,au.refl _ _,⟨nR,by simp only;omega,by simp only;omega⟩,by simp only;omega,⟨Z,Z,Z,Z,Z,Z,Y⟩,⟨Z,Y⟩⟩
 rw[ab1 (by omega),fG,acw]at x1;have x1:o=G:=x1;refine⟨?_,trivial⟩;rw[<-x1]
def i_(r:cP)(a:fS):Int:=if bC r≠0 then bC r else dc a
def jz(r:cP)(a:fS)(l:List Break):List Break×Int:=if i_ r a=0 then mI l else ([],i_ r a)
theorem kd{r:cP}{a:fS}(h:i_ r a=0):bC r=0/\dc a=0:=by
 rw[i_]at h;split at h
 ·rename_i c;exact absurd h c
 rename_i c;exact⟨by simpa using c,h⟩
theorem ke(r:cP)(hr:e8 r)(a:fS)(ha:ly a):af C 49 [.pv (.ag (rl r)),.pv (.ag (dX a))] (.p (i64 (i_ r a))) []:=by
 refine fW hC Tryz.func49 rfl (by kernel_rfl) fun _=>?_;refine⟨_,_,(zc r hr),?_⟩;refine iW ?_ ?_<;>intro g
 ·refine⟨?_,trivial⟩;rw[i_,aap (by simpa using g)]
 refine⟨_,_,(AW a ha),?_⟩;refine⟨?_,trivial⟩;rw[i_,aaa (by simpa using g)]
theorem kZ(r:cP)(hr:e8 r)(a:fS)(ha:ly a):af C 46 [.pv (.ag (rl r)),.pv (.ag (dX a))] (.tu [if i_ r a=0 then .ip (kW a) else .im (.pointer none),i64 (i_ r a)]) []:=by
 have aK:=Fp a ha;have e1:bC r≠0->i_ r a=bC r:=fun g=>by rw[i_,aap g]
 have e2:bC r=0->i_ r a=dc a:=fun g=>by rw[i_,aaa (by simpa using g)]
 by_cases b:i_ r a=0
 ·obtain⟨h1,h2⟩:=kd b;rw[aap b,b];rw[Jb,aap h2,h2]at aK;refine fW hC Tryz.func46 rfl (by kernel_rfl) fun _=>?_;refine⟨_,_,(jQ r hr),?_⟩;refine iW ?_ ?_<;>intro g
  ·exact absurd h1 (by simpa using g)
  refine⟨_,_,aK,?_⟩;refine⟨?_,trivial⟩;rfl
 rw[aaa b];refine fW hC Tryz.func46 rfl (by kernel_rfl) fun _=>?_;refine⟨_,_,(jQ r hr),?_⟩;refine iW ?_ ?_<;>intro g
 ·have g:bC r≠0:=by simpa using g
  refine⟨?_,trivial⟩;rw[e1 g]
 have g:bC r=0:=by simpa using g
 rw[Jb,aaa (fun c=>b (by rw[e2 g,c]))]at aK;refine⟨_,_,aK,?_⟩;refine⟨?_,trivial⟩;rw[e2 g]
theorem F2(r:cP)(hr:e8 r)(a:fS)(ha:ly a):af C 14 [.pv (.ag (rl r)),.pv (.ag (dX a))] (.tu [.sl ((jz r a (fG r.ring a.bores a.coppers 0 a.bores)).1.map nQ),i64 (jz r a (fG r.ring a.bores a.coppers 0 a.bores)).2]) []:=by
 have aK:=kZ r hr a ha;refine fW hC Tryz.func14 rfl (by kernel_rfl) fun _=>?_;by_cases g:i_ r a=0
 ·obtain⟨h1,h2⟩:=kd g;rw[aap g,g]at aK;rw[jz,aap g];refine⟨_,_,aK,?_⟩;refine⟨_,_,(F1 r (jU h1) a (jW h2)),?_⟩;refine⟨_,_,(s8 (fG r.ring a.bores a.coppers 0 a.bores)),?_⟩;refine⟨?_,trivial⟩;rfl
 rw[aaa g]at aK;rw[jz,aaa g];refine⟨_,_,aK,?_⟩;refine iW ?_ ?_<;>intro c
 ·refine⟨?_,trivial⟩;rfl
 exact absurd (by simpa using c) g
theorem F3(r:cP)(hr:e8 r)(a:fS)(ha:ly a):af C 17 [.pv (.ag (rl r)),.pv (.ag (dX a))] (.tu [.sl ((jz r a (gQ r.edge (aB a.outline) 0 (aC a).pieces)).1.map nQ),i64 (jz r a (gQ r.edge (aB a.outline) 0 (aC a).pieces)).2]) []:=by
 have aK:=kZ r hr a ha;refine fW hC Tryz.func17 rfl (by kernel_rfl) fun _=>?_;by_cases g:i_ r a=0
 ·obtain⟨h1,h2⟩:=kd g;rw[aap g,g]at aK;rw[jz,aap g];refine⟨_,_,aK,?_⟩;refine⟨_,_,(F0 r (jU h1) a (jW h2)),?_⟩;refine⟨_,_,(s8 (gQ r.edge (aB a.outline) 0 (aC a).pieces)),?_⟩;refine⟨?_,trivial⟩;rfl
 rw[aaa g]at aK;rw[jz,aaa g];refine⟨_,_,aK,?_⟩;refine iW ?_ ?_<;>intro c
 ·refine⟨?_,trivial⟩;rfl
 exact absurd (by simpa using c) g
theorem Ae(r:cP)(hr:e8 r)(a:fS)(ha:ly a):af C 19 [.pv (.ag (rl r)),.pv (.ag (dX a))] (.tu [.sl ((jz r a (fY r.holeGap 0 a.bores)).1.map nQ),i64 (jz r a (fY r.holeGap 0 a.bores)).2]) []:=by
 have aK:=kZ r hr a ha;refine fW hC Tryz.func19 rfl (by kernel_rfl) fun _=>?_;by_cases g:i_ r a=0
 ·obtain⟨h1,h2⟩:=kd g;rw[aap g,g]at aK;rw[jz,aap g];refine⟨_,_,aK,?_⟩;refine⟨_,_,(Ad r (jU h1) a (jW h2)),?_⟩;refine⟨_,_,(s8 (fY r.holeGap 0 a.bores)),?_⟩;refine⟨?_,trivial⟩;rfl
 rw[aaa g]at aK;rw[jz,aaa g];refine⟨_,_,aK,?_⟩;refine iW ?_ ?_<;>intro c
 ·refine⟨?_,trivial⟩;rfl
 exact absurd (by simpa using c) g
theorem Of(g:Int)(bs:List aS)(cs:List (List ae))(i:Nat)(x:aS)(l:Int):lS g bs cs i x l=[]\/∃b,lS g bs cs i x l=[b]:=by
 rw[lS];split
 ·exact .inl rfl
 split
 ·exact .inl rfl
 exact .inr ⟨_,rfl⟩
theorem H6(r:cP)(hr:e8 r)(a:fS)(ha:ly a):af C 15 [.pv (.ag (rl r)),.pv (.ag (dX a))] (.tu [.sl ((jz r a (fG r.ring a.bores a.coppers 0 a.bores)).1.map nQ),i64 (jz r a (fG r.ring a.bores a.coppers 0 a.bores)).2]) []:=by
 have aK:=ke r hr a ha;have lb:=ai a.bores bc;refine fW hC Tryz.func15 rfl (by kernel_rfl) fun _=>?_;refine⟨_,_,aK,?_⟩;by_cases g:i_ r a=0
 ·obtain⟨h1,h2⟩:=kd g;have hg:=jU h1;have gd:=(jW h2).art;have jB:=gd.jB;have KH:=gd.cop;rw[jz,aap g];obtain⟨G,hG⟩:∃G,G=fG r.ring a.bores a.coppers 0 a.bores:=⟨_,rfl⟩;rw[<-hG];refine iW ?_ ?_<;>intro c
  ·exact absurd g (by simpa using c)
  refine aJ (fun x:Nat×List Break=>x.2++fG r.ring a.bores a.coppers x.1 (a.bores.drop x.1)=G/\x.2.length<=16*x.1/\x.1<=a.bores.length) (fun x=>[(2,.bx 2 0),(3,.bx 3 0),(7,.ow 7),(8,.p (i64 x.1))]) (fun x=>[(2,.box (C_ r)),(3,.box ((dX a).map .p)),(7,.row 47 (x.2.map nQ))]) (fun x=>a.bores.length-x.1) (0,[]) _ (au.dk (by exact hC) _ 7 47 _ (by decide) (by exact rfl) (by exact rfl) (by decide)) ⟨by rw[hG];rfl,by simp,aaj _⟩ ⟨Z,Z,Z,Z,Y⟩ ⟨Z,Z,Z,Y⟩ fun ⟨i,o⟩ hx t h=>?_;obtain⟨x1,x2,x3⟩:=hx;simp only at x1 x2 x3;refine iW ?_ ?_<;>intro g1<;>try simp only[zB]at g1
  ·obtain⟨x,DL⟩:=ak (l:=a.bores) (i:=i) (by omega);have gx:=gd.bor x (aad DL);have xlo:=gx.lo;have xle:=gx.le;have xhi:=gx.hi;rw[drop_at DL,fG]at x1;refine⟨(bc x),(idx rfl DL),?_⟩;refine aJ (fun y:Nat×Nat×List Break=>y.2.2++(js r.ring a.bores a.coppers i x y.1 y.2.1++fG r.ring a.bores a.coppers (i+1) (a.bores.drop (i+1)))=G/\y.2.2.length+y.1<=16*i+16/\(y.1:Int)=x.hi+1-y.2.1) (fun y=>[(2,.bx 2 0),(3,.bx 3 0),(7,.ow 7),(8,.p (i64 i)),(9,.p (i64 y.2.1))]) (fun y=>[(2,.box (C_ r)),(3,.box ((dX a).map .p)),(7,.row 47 (y.2.2.map nQ))]) (fun y=>y.1) ((x.hi+1-x.lo).toNat,x.lo.toNat,o) _ (au.refl _ _) ⟨by simp only;rw[abO xlo];exact x1,by simp only;omega,by simp only;omega⟩ ⟨rfl,rfl,rfl,rfl,a8 (by simp only;omega),trivial⟩ ⟨Z,Z,Z,Y⟩ fun ⟨m,k,o'⟩ hy t h=>?_;obtain⟨y1,y2,y3⟩:=hy;simp only at y1 y2 y3;have U_:=ai o' nQ;have tail:¬(x.plated=true/\(k:Int)<=x.hi)->o'++fG r.ring a.bores a.coppers (i+1) (a.bores.drop (i+1))=G:=fun c=>by
    have e:js r.ring a.bores a.coppers i x m k=[]:=by
     cases m with
     | zero=>rfl
     | succ m=>rw[js,aaa c]
    rw[e,aaI]at y1;exact y1
   refine⟨(bc x),(idx rfl DL),?_⟩;refine iW ?_ ?_<;>intro g2<;>try simp only[zB]at g2
   ·refine⟨(bc x),(idx rfl DL),?_⟩;refine iW ?_ ?_<;>intro g3
    ·obtain⟨m',rfl⟩:∃m',m=m'+1:=⟨m-1,by omega⟩;rw[js,aap ⟨g3,g2⟩]at y1;obtain⟨c,hc⟩:=ak (l:=a.coppers) (i:=k) (by omega);have Ca:=K4 r hg a gd i x DL k c hc;rcases Of r.ring a.bores a.coppers i x k with e | ⟨b,e⟩
     ·rw[e]at Ca y1;simp only[P3]at Ca;refine⟨_,_,Ca,?_⟩;refine⟨⟨by (try dsimp only);omega,by (try dsimp only);omega⟩,?_⟩;exact⟨(m',k+1,o'),_,au.refl _ _,⟨by simp only;rw[show (((k+1:Nat):Int))=(k:Int)+1 by omega];exact y1,by simp only;omega,by simp only;omega⟩,by simp only;omega,⟨Z,Z,Z,Z,Z,Y⟩,⟨Z,Z,Z,Y⟩⟩
     rw[e]at Ca y1;simp only[P3]at Ca;refine⟨_,_,Ca,?_⟩;refine⟨⟨fun r hr=>by simp at hr;subst hr;rfl,by simp only[U_,aaB,acs,aaM,aan];omega,by simp only[U_,aaB,acs,aaM,aan];omega⟩,?_⟩;refine⟨⟨by (try dsimp only);omega,by (try dsimp only);omega⟩,?_⟩;exact⟨(m',k+1,o'++[b]),_,au.refl _ _,⟨by simp only;rw[show (((k+1:Nat):Int))=(k:Int)+1 by omega,<-y1];simp only[abx,aed,abe,aaI],by simp only[acv,abS];omega,by simp only;omega⟩,by simp only;omega,⟨Z,Z,Z,Z,Z,Y⟩,⟨rfl,rfl,S8 _ o' b,trivial⟩⟩
    have e:=tail (fun c=>by rw[g3]at c;exact absurd c.1 (by decide));refine⟨⟨by (try dsimp only);omega,by (try dsimp only);omega⟩,?_⟩;exact⟨(i+1,o'),_,au.refl _ _,⟨e,by simp only;omega,by simp only;omega⟩,by simp only;omega,⟨Z,Z,Z,Z,Y⟩,⟨Z,Z,Z,Y⟩⟩
   have e:=tail (fun c=>g2 c.2);refine⟨⟨by (try dsimp only);omega,by (try dsimp only);omega⟩,?_⟩;exact⟨(i+1,o'),_,au.refl _ _,⟨e,by simp only;omega,by simp only;omega⟩,by simp only;omega,⟨Z,Z,Z,Z,Y⟩,⟨Z,Z,Z,Y⟩⟩
  rw[ab1 (by omega),fG,acw]at x1;have x1:G=o:=x1.symm;subst x1;refine⟨_,_,(pK G),?_⟩;refine⟨?_,trivial⟩;rfl
 rw[jz,aaa g];refine iW ?_ ?_<;>intro c
 ·refine⟨?_,trivial⟩;rfl
 exact absurd (by simpa using c) g
theorem H7(r:cP)(hr:e8 r)(a:fS)(ha:ly a):af C 18 [.pv (.ag (rl r)),.pv (.ag (dX a))] (.tu [.sl ((jz r a (gQ r.edge (aB a.outline) 0 (aC a).pieces)).1.map nQ),i64 (jz r a (gQ r.edge (aB a.outline) 0 (aC a).pieces)).2]) []:=by
 have aK:=ke r hr a ha;refine uX ⟨[],[],[],[12],[],[]⟩ hC Tryz.func18 rfl (by kernel_rfl) fun _=>?_;refine⟨_,_,aK,?_⟩;by_cases g:i_ r a=0
 ·obtain⟨h1,h2⟩:=kd g;have hg:=jU h1;have bd:=jW h2;have HY:=hg.nums;simp only[gM,cL,aaZ,aaH]at HY;have jB:=bd.jB;have lp:(eB (aC a).pieces).length=(aC a).pieces.length:=aej ..;have rg:=ph bd.art.out;have ot:=nF bd.art.out;have hsh:=xc _ rg.sok rg.ink (by rw[ot];have:=rg.len;omega) r.edge (by omega) (by omega);rw[ot]at hsh;have B_:=DE a h2;obtain⟨c1,c2⟩:=Jn rg.sok rg.ink (n:=r.edge) (by omega);have cl:=Reg.vQ (K:=1000000) c1 c2;rw[jz,aap g];obtain⟨G,hG⟩:∃G,G=gQ r.edge (aB a.outline) 0 (aC a).pieces:=⟨_,rfl⟩;rw[<-hG];refine iW ?_ ?_<;>intro c
  ·exact absurd g (by simpa using c)
  refine⟨_,_,B_,?_⟩;refine⟨_,_,hsh,?_⟩;refine aJ (fun x:Nat×List Break=>x.2++gQ r.edge (aB a.outline) x.1 ((aC a).pieces.drop x.1)=G/\x.2.length<=x.1/\x.1<=(aC a).pieces.length) (fun x=>[(2,.bx 2 0),(3,.bx 3 0),(7,.p (.ip (Lo a (aC a).pieces (aC a).placed.groups (aC a).bB))),(8,.p (aj (told (coreS (aB a.outline) r.edge r.edge r.edge r.edge)))),(9,.ow 9),(10,.p (i64 x.1))]) (fun x=>[(2,.box (C_ r)),(3,.box ((dX a).map .p)),(9,.row 47 (x.2.map nQ))]) (fun x=>(aC a).pieces.length-x.1) (0,[]) _ (au.dk (by exact hC) _ 9 47 _ (by decide) (by exact rfl) (by exact rfl) (by decide)) ⟨by rw[hG];rfl,by simp,aaj _⟩ ⟨Z,Z,Z,Z,Z,Z,Y⟩ ⟨Z,Z,Z,Y⟩ fun ⟨i,o⟩ hx t h=>?_;obtain⟨x1,x2,x3⟩:=hx;simp only at x1 x2 x3;have lo:=ai o nQ;refine iW ?_ ?_<;>intro g1<;>try simp only[zB]at g1
  ·obtain⟨p,hp⟩:=ak (l:=(aC a).pieces) (i:=i) (by omega);have gp:=bd.pc p (aad hp);have pf:=gp.jB;rw[drop_at hp,gQ,Dm]at x1;have hle:=mL gp.sok c1 (gp.ink.up (by omega)) (c2.up (by omega)) (by omega);have IM:=(Reg.b6 gp.sok c1).1;have lz:=told_none IM;have Z6:=Dz _ p.set rg.sok rg.ink (by rw[ot];have:=rg.len;omega) gp.sok gp.ink (by omega) r.edge (by omega) (by omega);rw[ot]at Z6;generalize dL (fun n=>decide (bN p.set (coreS (aB a.outline) n n n n)=[])) r.edge=gr at *;generalize bN p.set (coreS (aB a.outline) r.edge r.edge r.edge r.edge)=T at *;have lT:=ai (told T) rc;refine⟨[aj (told p.set)],(idx rfl hp),?_⟩;refine⟨_,_,hle,?_⟩;refine iW ?_ ?_<;>intro g2
   ·have e:T≠[]:=fun e=>by have:=lz.2 e;omega
    rw[aaa e]at x1;obtain⟨m0,mt,em,Ta⟩:=zT IM e;have h0:(told T)[0]?=some m0:=by rw[em];rfl
    refine⟨[aj (told p.set)],(idx rfl hp),?_⟩;refine⟨_,_,Z6,?_⟩;refine⟨_,_,(uK (told T) m0 h0),?_⟩;refine⟨⟨fun r hr=>by simp at hr;subst hr;rfl,by simp only[lo,aaB,acs,aaM,aan];omega,by simp only[lo,aaB,acs,aaM,aan];omega⟩,?_⟩;refine⟨⟨by omega,by omega⟩,?_⟩;exact⟨(i+1,o++[⟨4,i,0,gr,r.edge,jq T⟩]),_,au.refl _ _,⟨by rw[<-x1];simp only[abx,aed,abe,aaI],by simp only[acv,abS];omega,by simp only;omega⟩,by simp only;omega,⟨Z,Z,Z,Z,Z,Z,Y⟩,⟨rfl,rfl,by rw[abE,<-Ta];rfl,trivial⟩⟩
   have e:T=[]:=lz.1 (by omega);rw[aap e,aaI]at x1;refine⟨⟨by omega,by omega⟩,?_⟩;exact⟨(i+1,o),_,au.refl _ _,⟨x1,by simp only;omega,by simp only;omega⟩,by simp only;omega,⟨Z,Z,Z,Z,Z,Z,Y⟩,⟨Z,Z,Z,Y⟩⟩
  rw[ab1 (by omega),gQ,acw]at x1;have x1:G=o:=x1.symm;subst x1;refine⟨_,_,(pK G),?_⟩;refine⟨?_,trivial⟩;rfl
 rw[jz,aaa g];refine iW ?_ ?_<;>intro c
 ·refine⟨?_,trivial⟩;rfl
 exact absurd (by simpa using c) g
theorem AX(r:cP)(hr:e8 r)(a:fS)(ha:ly a):af C 20 [.pv (.ag (rl r)),.pv (.ag (dX a))] (.tu [.sl ((jz r a (fY r.holeGap 0 a.bores)).1.map nQ),i64 (jz r a (fY r.holeGap 0 a.bores)).2]) []:=by
 have aK:=ke r hr a ha;have lb:=ai a.bores bc;refine uX ⟨[],[],[],[],[(11,[true,true,true,true,true,true,false,true,false,false,true,true,false,true])],[]⟩ hC Tryz.func20 rfl (by kernel_rfl) fun _=>?_;refine⟨_,_,aK,?_⟩;by_cases g:i_ r a=0
 ·obtain⟨h1,h2⟩:=kd g;have gd:=(jW h2).art;have jB:=gd.jB;have B_:=jv gd;rw[jz,aap g];obtain⟨G,hG⟩:∃G,G=fY r.holeGap 0 a.bores:=⟨_,rfl⟩;rw[<-hG];refine iW ?_ ?_<;>intro c
  ·exact absurd g (by simpa using c)
  refine aJ (fun x:Nat×List Break=>x.2++fY r.holeGap x.1 (a.bores.drop x.1)=G/\x.2.length<=500*x.1/\x.1<=a.bores.length) (fun x=>[(2,.bx 2 0),(3,.p (.ip (dX a))),(7,.ow 7),(8,.p (i64 x.1))]) (fun x=>[(2,.box (C_ r)),(7,.row 47 (x.2.map nQ))]) (fun x=>a.bores.length-x.1) (0,[]) _ ((au.dk (by exact hC) _ 7 47 _ (by decide) (by exact rfl) (by exact rfl) (by decide)).trans (au.gD (by exact hC) _ 3 (y:=.ip (dX a)) (fz:=[(3,.jd (dX a))]) (by exact⟨rfl,rfl⟩))) ⟨by rw[hG];rfl,by simp,aaj _⟩ ⟨Z,Z,Z,Z,Y⟩ ⟨Z,Z,Y⟩ fun ⟨i,o⟩ hx t h=>?_;obtain⟨x1,x2,x3⟩:=hx;simp only at x1 x2 x3;refine iW ?_ ?_<;>intro g1<;>try simp only[zB]at g1
  ·obtain⟨x,DL⟩:=ak (l:=a.bores) (i:=i) (by omega);have bx:=B_ x (aad DL);rw[drop_at DL,fY]at x1;refine⟨⟨by omega,by omega⟩,?_⟩;refine aJ (fun y:Nat×List Break=>y.2++(nC r.holeGap i x y.1 (a.bores.drop y.1)++fY r.holeGap (i+1) (a.bores.drop (i+1)))=G/\y.2.length<=500*i+y.1/\i+1<=y.1/\y.1<=a.bores.length) (fun y=>[(2,.bx 2 0),(3,.p (.ip (dX a))),(7,.ow 7),(8,.p (i64 i)),(9,.p (i64 y.1))]) (fun y=>[(2,.box (C_ r)),(7,.row 47 (y.2.map nQ))]) (fun y=>a.bores.length-y.1) (i+1,o) _ (au.refl _ _) ⟨x1,by simp only;omega,by simp only;omega,by simp only;omega⟩ ⟨Z,Z,Z,Z,Z,Y⟩ ⟨Z,Z,Y⟩ fun ⟨k,o'⟩ hy t h=>?_;obtain⟨nR,VP,VQ,VR⟩:=hy;simp only at nR VP VQ VR;have lo:=ai o' nQ;refine iW ?_ ?_<;>intro g2<;>try simp only[zB]at g2
   ·obtain⟨z,hz⟩:=ak (l:=a.bores) (i:=k) (by omega);have bz:=B_ z (aad hz);rw[drop_at hz,nC,Dn]at nR;have mx:jZ (aa x):=sW (by have:=Reg.er bx;unfold RK at this ⊢;omega) (Reg.bX bx);have mz:jZ (aa z):=sW (by have:=Reg.er bz;unfold RK at this ⊢;omega) (Reg.bX bz);have YI:=vT (aa x) (aa z) mx mz;have Iq:=Reg.Nw (TF bx) (TF bz);refine⟨(bc x),(idx rfl DL),?_⟩;refine⟨(bc z),(idx rfl hz),?_⟩;refine iW ?_ ?_<;>intro g3
    ·rw[aap (.inl g3),aaI]at nR;refine⟨⟨by omega,by omega⟩,?_⟩;exact⟨(k+1,o'),_,au.refl _ _,⟨nR,by simp only;omega,by simp only;omega,by simp only;omega⟩,by simp only;omega,⟨Z,Z,Z,Z,Z,Y⟩,⟨Z,Z,Y⟩⟩
    refine iW ?_ ?_<;>intro g4
    ·rw[aap (.inr g4),aaI]at nR;refine⟨⟨by omega,by omega⟩,?_⟩;exact⟨(k+1,o'),_,au.refl _ _,⟨nR,by simp only;omega,by simp only;omega,by simp only;omega⟩,by simp only;omega,⟨Z,Z,Z,Z,Z,Y⟩,⟨Z,Z,Y⟩⟩
    rw[aaa (by rintro (e | e);exact g3 e;exact g4 e)]at nR;generalize fT (aa x) (aa z)=fr at *;refine⟨_,_,(di x bx),?_⟩;refine⟨_,_,(di z bz),?_⟩;refine⟨_,_,YI,?_⟩;refine⟨⟨by omega,by omega⟩,?_⟩;refine iW ?_ ?_<;>intro g5
    ·rw[aap g5]at nR;refine⟨⟨fun r hr=>by simp at hr;subst hr;rfl,by simp only[lo,aaB,acs,aaM,aan];omega,by simp only[lo,aaB,acs,aaM,aan];omega⟩,?_⟩;refine⟨⟨by omega,by omega⟩,?_⟩;exact⟨(k+1,o'++[⟨5,i,k,fr-1,r.holeGap,((aa x).x0,(aa x).y0)⟩]),_,au.refl _ _,⟨by rw[<-nR];simp only[abx,aed,abe,aaI],by simp only[acv,abS];omega,by simp only;omega,by simp only;omega⟩,by simp only;omega,⟨Z,Z,Z,Z,Z,Y⟩,⟨rfl,by rw[abE];rfl,trivial⟩⟩
    rw[aaa g5,aaI]at nR;refine⟨⟨by omega,by omega⟩,?_⟩;exact⟨(k+1,o'),_,au.refl _ _,⟨nR,by simp only;omega,by simp only;omega,by simp only;omega⟩,by simp only;omega,⟨Z,Z,Z,Z,Z,Y⟩,⟨Z,Z,Y⟩⟩
   rw[ab1 (by omega),nC,aaI]at nR;refine⟨⟨by omega,by omega⟩,?_⟩;exact⟨(i+1,o'),_,au.refl _ _,⟨nR,by simp only;omega,by simp only;omega⟩,by simp only;omega,⟨Z,Z,Z,Z,Y⟩,⟨Z,Z,Y⟩⟩
  rw[ab1 (by omega),fY,acw]at x1;have x1:G=o:=x1.symm;subst x1;refine⟨_,_,(pK G),?_⟩;refine⟨?_,trivial⟩;rfl
 rw[jz,aaa g];refine iW ?_ ?_<;>intro c
 ·refine⟨?_,trivial⟩;rfl
 exact absurd (by simpa using c) g
theorem Ld(l:List Break):(mI l).1.length<=5000:=by
 rw[mI];split
 ·simp
 show l.length<=5000;omega
theorem DF(r:cP)(a:fS)(l:List Break):(jz r a l).1.length<=5000:=by
 rw[jz];split
 ·exact Ld l
 simp
theorem pL(l:List Break)(hN:l.length<=5000):af C 16 [.pv (.sl (l.map nQ)),.pv (.sl (l.map nQ))] (.p (bool true)) []:=by
 have lm:=ai l nQ;refine fW hC Tryz.func16 rfl (by kernel_rfl) fun _=>?_;refine iW ?_ ?_<;>intro h0<;>try simp only[zB]at h0
 ·exact absurd trivial h0
 refine aJ (fun i:Nat=>i<=l.length) (fun i=>[(0,.p (.sl (l.map nQ))),(1,.p (.sl (l.map nQ))),(12,.p (i64 l.length)),(13,.p (i64 i))]) (fun _=>[]) (fun i=>l.length-i) 0 _ (au.refl _ _) (aaj _) ⟨rfl,rfl,adV (fun m:Nat=>AV.p (i64 m)) lm,Z,Y⟩ trivial fun i hi t h=>?_;refine iW ?_ ?_<;>intro h1
 ·obtain⟨b,hb⟩:=ak (l:=l) (i:=i) (by omega);refine⟨(nQ b),(idx rfl hb),?_⟩;refine⟨(nQ b),(idx rfl hb),?_⟩;refine iW ?_ ?_<;>intro h2<;>try simp only[zB]at h2
  ·exfalso;simp at h2
  refine⟨⟨by omega,by omega⟩,?_⟩;exact⟨(i+1),_,au.refl _ _,by omega,by omega,⟨Z,Z,Z,Z,Y⟩,trivial⟩
 refine⟨?_,trivial⟩;rfl
theorem Le(r:cP)(hr:e8 r)(a:fS)(ha:ly a):af C 4 [.pv (.ag (rl r)),.pv (.ag (dX a))] (.p (bool true)) []:=by
 have r1:=F2 r hr a ha;have r2:=H6 r hr a ha;have e1:=F3 r hr a ha;have e2:=H7 r hr a ha;have g1:=Ae r hr a ha;have g2:=AX r hr a ha;have q1:=pL _ (DF r a (fG r.ring a.bores a.coppers 0 a.bores));have q2:=pL _ (DF r a (gQ r.edge (aB a.outline) 0 (aC a).pieces));have q3:=pL _ (DF r a (fY r.holeGap 0 a.bores));generalize jz r a (fG r.ring a.bores a.coppers 0 a.bores)=R at *;generalize jz r a (gQ r.edge (aB a.outline) 0 (aC a).pieces)=E at *;generalize jz r a (fY r.holeGap 0 a.bores)=G at *;obtain⟨R1,R2⟩:=R;obtain⟨E1,E2⟩:=E;obtain⟨G1,G2⟩:=G;refine fW hC Tryz.func4 rfl (by kernel_rfl) fun _=>?_;refine⟨_,_,r1,?_⟩;refine⟨_,_,r2,?_⟩;refine⟨_,_,q1,?_⟩;refine iW ?_ ?_<;>intro c1<;>try simp only[zB]at c1
 ·exact absurd trivial c1
 refine⟨_,_,e1,?_⟩;refine⟨_,_,e2,?_⟩;refine⟨_,_,g1,?_⟩;refine⟨_,_,g2,?_⟩;refine⟨_,_,q2,?_⟩;refine iW ?_ ?_<;>intro c3<;>try simp only[zB]at c3
 ·refine⟨_,_,q3,?_⟩;refine iW ?_ ?_<;>intro c4<;>try simp only[zB]at c4
  ·refine⟨_,_,KG,?_⟩;refine⟨?_,trivial⟩;rfl
  exact absurd trivial c4
 exact absurd trivial c3
end M
end Go.Proofs.YtfloceomobknoaaGreatDoor
namespace Go.Proofs.YtfloceomobknoaaGreatDoor
open Go.ChangeShapes Go.WideShapes Go.ChangeAt Go.RowKit Go.AM
open Go.ChangeMaps (open_string shut_string)
open Go.Proofs.YtfloceomobknoaaGreatDoor.M
namespace rulesHolesMatchSpec
theorem Af{P:Program}{f:FuncId}{fn:Func}{s:ChangeSpec}{c:OpenClaim}(Te:(laidOutB P)=true)(Qd:(mapsRowed P)=true)(Tf:((c.inPlace==P.inPlace f))=true)(VS:((c.unfollowed==P.unfollowed f))=true)(VT:((c.recurses==P.recurses f))=true)(Qe:((c.named==P.varsNamed f))=true)(VU:((c.plainKeys==P.plainKeys))=true)(Qf:(P.stopsHeard)=true)(Qg:(P.mayEnter)=true)(Tg:((c.lifted==P.liftsFinal))=true)(Th:((P.make==some c.make))=true)
  (h_rest:(c.wf (OpenSpec.ofChange s)&&true&&fn.params.all (P.readableRec ·)&&namedTie P c.named s.vars&&(c.stops==[])&&(P.stops==[])&&(c.knobs==[])&&(P.stopKnobs==[])&&true&&(c.maps==(fn.params.toList++s.plain.varTypes P).any (P.mapsRec ·))&&(c.ifaces==(fn.params.toList++s.plain.varTypes P).any (P.ifacesRec ·))&&(c.mapsOut==P.mapsAmong fn.resultTypes.toList)&&(c.loops==(fn.params.toList++s.plain.varTypes P).any (P.loopsFrom ·))&&(c.wideKeys==(fn.params.toList++s.plain.varTypes P++fn.resultTypes.toList).any (P.wideKeysFrom ·))&&s.vars.all (P.varReadable ·)&&fn.resultTypes.all (fun t=>P.readableRec t&&decide (t<P.types.size))&&(c.ifacesOut==fn.resultTypes.toList.any (P.ifacesRec ·))&&(c.loopsOut==fn.resultTypes.toList.any (P.loopsFrom ·))&&c.shortTexts.isNone&&(c.kinds==(if c.domain.isEmpty then [] else fn.params.toList.map fun t=>match P.underlying t with | some (.int k)=>some k | _=>none))&&(c.pinned==c.pinnedBy)&&(c.veiled==(fn.params.toList++s.plain.varTypes P++fn.resultTypes.toList).any (P.veiledRec ·))&&c.veiledFits P fn.params.toList (fn.params.toList++s.plain.varTypes P++fn.resultTypes.toList))=true):joinedFacts P f fn s c=true:=by
 simp only[aaZ]at h_rest;simp only[joinedFacts,aaZ];simp only[Te,Qd,Tf,VS,VT,Qe,VU,Qf,Qg,Tg,Th,and_true];simp only[and_assoc,and_true]at h_rest ⊢;exact h_rest
theorem Ti{W:World}(hL:laidMetH Tryz.prog Rows.rulesHolesMatchSpecUptoRow.laid W)(h:W.ShapedOpen Tryz.prog):M.Env (fun b=>b<W.heap.size) W:=by
 refine EM (Go.Proofs.cell_of_shapedOpen_int (zero:=#[.int .i64 0]) (t:=3) h (adw (by kernel_rfl)) (by kernel_rfl) rfl (by kernel_rfl) (by kernel_rfl) acI) ?_;rw[MakeChecks.laidMetH_plain _ _ _ (by kernel_rfl)]at hL;exact Lib.tabIs_of_head (rest:=Rows.rulesHolesMatchSpecUptoRow.laid.drop 3) M.St (by kernel_rfl) Tryz.underlying297 adE (by kernel_rfl) (by kernel_rfl) (laidMet.tail (laidMet.tail hL))
theorem Og(H:Type)(enc:TypeId×Value->H)(W:World)(base:Nat)(args:Array Value)(ds gs:List (DataW H))(before:List MemPlace)
  (hval:∀(j:Nat) t v,Tryz.f4.params[j]?=some t->args[j]?=some v->Value.okWide Tryz.prog W .any base t v)
  (hW:DataW.Whole enc Tryz.prog Tryz.f4.params.toList Rows.rulesHolesMatchSpecSpec.vars false W args.toList ds gs before) (hk:Rows.uptoSmall H (ds++gs)=true) (hE:M.Env (fun b=>b<W.heap.size) W):
  Calls Tryz.prog 4 args W fun e W'=>∃v,e=.returned v/\Rows.rulesHolesMatchSpecSpec.post enc Tryz.prog Tryz.f4 false true false false W args v W':=by
 have hW':=hW;obtain⟨pp,q,hA0,hV,rfl,DI,Oo⟩:=hW;have hA:DataW.TrodAll enc Tryz.prog W 0 (fun _=>true) true Tryz.f4.params.toList args.toList ds pp:=hA0;have again:=fun (W':World) (hb:Below W.heap.size W W')=>By U9 hb (by kernel_rfl) hA hA.lt;rw[Tryz.params4]at hA hval;obtain⟨v0,vs0,d0,ds0,p0,q0,hargs,rfl,ZF,h0,r0⟩:=trodAll_cons hA;obtain⟨v1,vs1,d1,ds1,p1,q1,rfl,rfl,rfl,h1,r1⟩:=trodAll_cons r0;obtain⟨rfl,rfl,rfl⟩:=trodAll_nil r1;obtain rfl:args=#[v0,v1]:=by cases args;simp_all
 obtain⟨rfl,rfl⟩:=trodVars_none hV;obtain⟨_,w0,r,rfl,z0⟩:=yS (S:=fun b=>b<W.heap.size) Tryz.underlying39 (M8 fun _ h=>h) (hval 0 39 v0 rfl rfl) h0;have o_r:e8 r:=M9 (Da _ _ _ (IU hk (abY _ (by repeat (first | exact adU .. | apply aaw)))) z0);obtain⟨_,w1,a,rfl,z1⟩:=yS (S:=fun b=>b<W.heap.size) Tryz.underlying27 (SZ fun _ h=>h) (hval 1 27 v1 rfl rfl) h1;have o_a:ly a:=S0 (HI _ _ _ (IU hk (abY _ (by repeat (first | exact adU .. | apply aaw)))) z1);refine (Sy (C:=C) (xs:=[.ag (rl r),.ag (dX a)]) (y:=.bool true) (Le r o_r a o_a) hE (Bv (w0) (Bv (w1) MU))).mono fun e W' ⟨he,hb⟩=>?_;subst he;exact⟨_,rfl,AG (pa:=pp) (pv:=[]) hW' (fun _ _ _=>trodAll_cons_mk (shut_bool acm _) trodAll_mk0) (fun sp h=>again W' hb sp (fun p hp=>h p (abY _ hp))) (fun _ _=>rfl) rfl
  hb (ok_one (by kernel_rfl) rfl (okWide_bool_mk acm _))⟩
theorem reads(os:Os){H:Type}(enc:TypeId×Value->H):∃places,DataW.whole enc Tryz.prog ((World.laidAll Tryz.prog os Rows.rulesHolesMatchSpecUptoRow.laid).forCall (fun _ _=>0) ⟨#[],#[.agg #[.int .i64 0,.int .i64 0,.int .i64 0,.int .i64 0,.int .i64 0,.slice none 0 0,.slice none 0 0],.agg #[.slice none 0 0,.slice none 0 0,.slice none 0 0,.slice none 0 0]],[]⟩).memory Tryz.f4.params.toList Rows.rulesHolesMatchSpecSpec.vars false (#[.agg #[.int .i64 0,.int .i64 0,.int .i64 0,.int .i64 0,.int .i64 0,.slice none 0 0,.slice none 0 0],.agg #[.slice none 0 0,.slice none 0 0,.slice none 0 0,.slice none 0 0]]:Array Value).toList 8=some ([.agg [.lit (.int .i64 0),.lit (.int .i64 0),.lit (.int .i64 0),.lit (.int .i64 0),.lit (.int .i64 0),.nil,.nil],.agg [.nil,.nil,.nil,.nil]],[],places):=
 ⟨[],by kernel_rfl⟩
theorem lifted(os:Os)(started:os.Started)(H:Type)(enc:TypeId×Value->H)(F:Stop.Interp):
  ReturnsInHanded {} Tryz.checked os 4 .any ((Rows.OpenSpec.upto Rows.rulesHolesMatchSpecSpec).preRow enc Tryz.prog Tryz.f4 Rows.rulesHolesMatchSpecUptoRow.domain false Rows.rulesHolesMatchSpecUptoRow.laid) (((Rows.OpenSpec.upto Rows.rulesHolesMatchSpecSpec).at F).post enc Tryz.prog Tryz.f4 false true false false):=by
 obtain⟨places,hx⟩:=reads os enc;refine returnsInHanded_of_row (C:=Tryz.checked) (s:=Rows.OpenSpec.upto Rows.rulesHolesMatchSpecSpec) own started (by kernel_rfl) Tryz.func4
  (xr (enc:=enc) (C:=Tryz.checked) (World.laidAll Tryz.prog os Rows.rulesHolesMatchSpecUptoRow.laid) #[.agg #[.int .i64 0,.int .i64 0,.int .i64 0,.int .i64 0,.int .i64 0,.slice none 0 0,.slice none 0 0],.agg #[.slice none 0 0,.slice none 0 0,.slice none 0 0,.slice none 0 0]] (World.laidAll_os _ _ _) (World.shaped_of_ZipB (by kernel_rfl) (by kernel_rfl)) (by kernel_rfl)
   (OpenSpec.preRow_of_cond 8 hx (by kernel_rfl) (fun k hk=>by cases hk;kernel_rfl) (by kernel_rfl)
    (by rw[MakeChecks.laidMetH_plain _ _ _ (by kernel_rfl)];exact laidMet_laidAll _ (by kernel_rfl) (by kernel_rfl)))) ?_
 intro W base args ds gs before hval hW _ Is _ hL hsh _;exact Og H enc W base args ds gs before hval hW (Is _ rfl) (Ti hL hsh)
theorem Tj:laidOutB Tryz.prog=true:=by kernel_rfl
theorem Qh:mapsRowed Tryz.prog=true:=by kernel_rfl
theorem Tk:(Rows.rulesHolesMatchSpecUptoRow.inPlace==Tryz.prog.inPlace 4)=true:=by kernel_rfl
theorem VV:(Rows.rulesHolesMatchSpecUptoRow.unfollowed==Tryz.prog.unfollowed 4)=true:=by kernel_rfl
theorem VW:(Rows.rulesHolesMatchSpecUptoRow.recurses==Tryz.prog.recurses 4)=true:=by kernel_rfl
theorem Qi:(Rows.rulesHolesMatchSpecUptoRow.named==Tryz.prog.varsNamed 4)=true:=by kernel_rfl
theorem VX:(Rows.rulesHolesMatchSpecUptoRow.plainKeys==Tryz.prog.plainKeys)=true:=by kernel_rfl
theorem Qj:Tryz.prog.stopsHeard=true:=by kernel_rfl
theorem Qk:Tryz.prog.mayEnter=true:=by kernel_rfl
theorem Tl:(Rows.rulesHolesMatchSpecUptoRow.lifted==Tryz.prog.liftsFinal)=true:=by kernel_rfl
theorem Tm:(Tryz.prog.make==some Rows.rulesHolesMatchSpecUptoRow.make)=true:=by kernel_rfl
theorem Tn:false=Rows.rulesHolesMatchSpecUptoRow.goesBy Tryz.prog:=by kernel_rfl
theorem Ql:false=Tryz.prog.looks []:=by kernel_rfl
theorem YL:Rows.rulesHolesMatchSpecUptoRow.wfByText (Rows.OpenSpec.upto Rows.rulesHolesMatchSpecSpec)=true:=by kernel_rfl
theorem dG:joinedFacts Tryz.prog 4 Tryz.f4 (Rows.OpenSpec.upto Rows.rulesHolesMatchSpecSpec).bare Rows.rulesHolesMatchSpecUptoRow=true:=
 Af Tj Qh Tk VV VW Qi VX Qj Qk Tl Tm (by kernel_rfl)
theorem Oh:Rows.RulesHolesMatchSpecUptoSaid:=
 OpenClaim.holds_of_cond 4 Tryz.f4 rfl rfl rfl rfl rfl rfl rfl ⟨rfl,rfl,rfl,rfl,rfl⟩ rfl rfl rfl rfl rfl (by kernel_rfl) Tryz.func4 dG
  (adw (by kernel_rfl)) (by unfold Func.isWrapper;first | (rw[aap (by decide +kernel)];kernel_rfl) | (rw[aaa (by decide +kernel)];exact⟨rfl,rfl⟩))
  (fun os started H enc _ F=>by rw[OpenClaim.pre_eq_preRow];exact lifted os started H enc F)
theorem plain(f:FuncId)(fn:Func)(hf:Tryz.pinned.checked.prog.funcNamed Rows.rulesHolesMatchSpecUptoRow.func=some f)(Xf:Tryz.pinned.checked.prog.funcs[f]?=some fn):
  false=Tryz.pinned.checked.prog.looks []/\∀(j:Nat) t,fn.params[j]?=some t->Tryz.pinned.checked.prog.wantsStandIn t=false:=by
 obtain rfl:f=4:=Option.some.inj ((show Tryz.prog.funcNamed Rows.rulesHolesMatchSpecUptoRow.func=some 4 by kernel_rfl).symm.trans hf) |>.symm;obtain rfl:fn=Tryz.f4:=(Option.some.inj (Tryz.func4.symm.trans Xf)).symm;refine⟨Ql,fun j t ht=>?_⟩;rw[Tryz.params4]at ht;have hm:=abr ht;have aeL:((Tryz.f4.params.toList).all fun u=>!Tryz.prog.wantsStandIn u)=true:=by kernel_rfl
 exact (show Tryz.prog.wantsStandIn t=false by simpa using abh.1 aeL t (by rw[Tryz.params4];simpa using hm))
theorem cardUpto:Rows.RulesHolesMatchSpecUptoCardSaid:=
 Claim7.holds_tied_plain_at .later [] _ _ _ _ Oh (fun _ h=>by cases h) YL (fun _ h=>by cases h) rulesHolesMatchSpecUpto_row_tie rfl ⟨rfl,rfl⟩ (by kernel_rfl) rfl plain Tn
end rulesHolesMatchSpec
end Go.Proofs.YtfloceomobknoaaGreatDoor
