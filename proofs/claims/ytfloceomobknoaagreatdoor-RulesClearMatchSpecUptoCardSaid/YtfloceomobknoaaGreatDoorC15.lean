/- Clear and Narrow give just what the reference gives, with all errors. Condition: what is read is of bulk at most 1048576; the listed variables are tied to the program's text by the card. -/
import Derived.Test.YtfloceomobknoaaGreatDoorC14
set_option linter.unusedVariables false
set_option linter.unusedSimpArgs false
set_option maxRecDepth 100000
set_option maxHeartbeats 8000000
namespace Go.Proofs.YtfloceomobknoaaGreatDoor
namespace M
open Go.AM Go.RowKit Go.Lib
open Reg (ae Full RK an bE cv aS fo fS Piece BR told aB aC ax bG afd ag1 P4)
def agb(r:cP)(a:fS)(nets:List ByteArray)(l:List Break):List Break×Int:=if aeJ r a nets=0 then mI l else ([],aeJ r a nets)
theorem afQ{r:cP}{a:fS}{nets:List ByteArray}(g:aeJ r a nets=0):zd r/\Ft a/\nets.length=(aC a).placed.groups.length:=by
 rw[aeJ]at g;by_cases g1:bC r≠0
 ·rw[aap g1]at g;exact absurd g g1
 rw[aaa g1]at g;by_cases g2:dc a≠0
 ·rw[aap g2]at g;exact absurd g g2
 rw[aaa g2]at g;by_cases g3:nets.length≠(aC a).placed.groups.length
 ·rw[aap g3]at g;cases g
 exact⟨jU (by simpa using g1),jW (by simpa using g2),by simpa using g3⟩
theorem ag6(r:cP)(hr:e8 r)(a:fS)(ha:ly a)(nets:List ByteArray)(hn:afj nets):af C 25 [.pv (.ag (rl r)),.pv (.ag (dX a)),.pv (strs nets)] (.tu [.sl ((agb r a nets (aeE r (aC a) nets 0 (aC a).pieces)).1.map nQ),i64 (agb r a nets (aeE r (aC a) nets 0 (aC a).pieces)).2]) []:=by
 have aK:=agJ r hr a ha nets hn;refine fW hC Tryz.func25 rfl (by kernel_rfl) fun _=>?_;by_cases g:aeJ r a nets=0
 ·obtain⟨h1,h2,h3⟩:=afQ g;rw[agl,aap g,g]at aK;rw[agb,aap g];refine⟨_,_,aK,?_⟩;refine⟨_,_,(agA r h1 a h2 nets h3),?_⟩;refine⟨_,_,(s8 (aeE r (aC a) nets 0 (aC a).pieces)),?_⟩;refine⟨?_,trivial⟩;rfl
 rw[agl,aaa g]at aK;rw[agb,aaa g];refine⟨_,_,aK,?_⟩;refine iW ?_ ?_<;>intro c
 ·refine⟨?_,trivial⟩;rfl
 exact absurd (by simpa using c) g
theorem aeN(r:cP)(hr:e8 r)(a:fS)(ha:ly a)(nets:List ByteArray)(hn:afj nets):af C 27 [.pv (.ag (rl r)),.pv (.ag (dX a)),.pv (strs nets)] (.tu [.sl ((agb r a nets (aew r (aC a) nets 0 (aC a).pieces)).1.map nQ),i64 (agb r a nets (aew r (aC a) nets 0 (aC a).pieces)).2]) []:=by
 have aK:=agJ r hr a ha nets hn;refine fW hC Tryz.func27 rfl (by kernel_rfl) fun _=>?_;by_cases g:aeJ r a nets=0
 ·obtain⟨h1,h2,h3⟩:=afQ g;rw[agl,aap g,g]at aK;rw[agb,aap g];refine⟨_,_,aK,?_⟩;refine⟨_,_,(agr r h1 a h2 nets h3),?_⟩;refine⟨_,_,(s8 (aew r (aC a) nets 0 (aC a).pieces)),?_⟩;refine⟨?_,trivial⟩;rfl
 rw[agl,aaa g]at aK;rw[agb,aaa g];refine⟨_,_,aK,?_⟩;refine iW ?_ ?_<;>intro c
 ·refine⟨?_,trivial⟩;rfl
 exact absurd (by simpa using c) g
theorem afR{bs:List aS}:∀(l:List (List ae)) (k:Int),(bG bs k l).Pairwise fun p q=>p.layer<=q.layer
 | [],k=>.nil
 | r::l,k=>by
  rw[bG,abZ];refine⟨?_,afR l (k+1),fun p hp q hq=>?_⟩
  ·rw[abe];exact List.pairwise_of_forall fun _ _=>acP _
  obtain⟨s,_,rfl⟩:=adS.1 hp;obtain⟨i,r,_,h2,_⟩:=Reg.mH hq;show k<=q.layer;omega
def aeU(r:cP)(B:BR)(nets:List ByteArray)(i:Nat)(p:Piece):Nat->List Piece->List Break
 | _,[]=>[]
 | k,q::t=>(if q.layer=p.layer then aff r B nets i k p q else [])++aeU r B nets i p (k+1) t
theorem afn{r:cP}{B:BR}{nets:List ByteArray}{i:Nat}{p:Piece}:∀(t:List Piece) (k:Nat),(∀q∈t,p.layer<q.layer)->aeU r B nets i p k t=[]
 | [],k,_=>rfl
 | q::t,k,h=>by
  have:=h q adU;rw[aeU,aaa (by omega),afn t (k+1) fun x hx=>h x (aaw _ hx)];rfl
theorem afG{r:cP}{B:BR}{nets:List ByteArray}{i:Nat}{p:Piece}:∀(t:List Piece) (k:Nat),(p::t).Pairwise (fun p q=>p.layer<=q.layer)->aeU r B nets i p k t=aeX r B nets i p k t
 | [],k,_=>rfl
 | q::t,k,h=>by
  obtain⟨h1,h2⟩:=ade.1 h;obtain⟨h3,h4⟩:=ade.1 h2;have hq:=h1 q adU;rw[aeU,aeX];by_cases c:q.layer=p.layer
  ·rw[aap c,aap c,afG t (k+1) (ade.2 ⟨fun x hx=>h1 x (aaw _ hx),h4⟩)]
  rw[aaa c,aaa c,afn t (k+1) fun x hx=>by have:=h3 x hx;omega];rfl
theorem ahI{a:fS}{p:Piece}(g:VD a p):(∀r∈told p.set,P4 2000000 r)/\told p.set≠[]/\(∀r∈told p.set,Full r):=⟨fun r hr=>by
  obtain⟨a1,a2,a3,a4⟩:=Reg.Q8 (Reg.bP g.sok r hr) (Reg.fR g.sok g.ink r hr);exact⟨⟨by omega,by omega⟩,⟨by omega,by omega⟩,⟨by omega,by omega⟩,⟨by omega,by omega⟩⟩,Reg.PZ g.sok g.ne,Reg.bP g.sok⟩
theorem aht{a:fS}{p q:Piece}(gp:VD a p)(gq:VD a q):af C 44 [.pv (aj (told p.set)),.pv (aj (told q.set))] (.p (.ag (gc (afd (told p.set) (told q.set))))) []:=by
 obtain⟨a1,a2,a3⟩:=ahI gp;obtain⟨b1,b2,b3⟩:=ahI gq;rw[<-Reg.ahq a2 b2 a3 b3];exact ag4 _ _ a2 b2 a1 b1 (by have:=gp.jB;omega) (by have:=gq.jB;omega)
theorem agO(r:cP)(hr:e8 r)(a:fS)(ha:ly a)(nets:List ByteArray)(hn:afj nets):af C 26 [.pv (.ag (rl r)),.pv (.ag (dX a)),.pv (strs nets)] (.tu [.sl ((agb r a nets (aeE r (aC a) nets 0 (aC a).pieces)).1.map nQ),i64 (agb r a nets (aeE r (aC a) nets 0 (aC a).pieces)).2]) []:=by
 have aK:=age r hr a ha nets hn;refine fW hC Tryz.func26 rfl (by kernel_rfl) fun _=>?_;by_cases g:aeJ r a nets=0
 ·obtain⟨hg,gd,hn⟩:=afQ g;have jB:=gd.jB;have ahV:(aC a).pieces.Pairwise fun p q=>p.layer<=q.layer:=afR _ _;have lr:(eB (aC a).pieces).length=(aC a).pieces.length:=aej ..;rw[afr,aap g,g]at aK;rw[agb,aap g];obtain⟨G,hG⟩:∃G,G=aeE r (aC a) nets 0 (aC a).pieces:=⟨_,rfl⟩;rw[<-hG];refine⟨_,_,aK,?_⟩;refine⟨_,_,(afP a gd),?_⟩;refine aJ (fun x:Nat×List Break=>x.2++aeE r (aC a) nets x.1 ((aC a).pieces.drop x.1)=G/\x.2.length<=2000*x.1/\x.1<=(aC a).pieces.length) (fun x=>[(2,.p (strs nets)),(3,.bx 3 0),(8,.p (FR a)),(10,.p (ints (aC a).ofPiece)),(11,.ow 11),(12,.p (i64 x.1))]) (fun x=>[(3,.box (C_ r)),(11,.row 47 (x.2.map nQ))]) (fun x=>(aC a).pieces.length-x.1) (0,[]) _ (au.dk (by exact hC) _ 11 47 _ (by decide) (by exact rfl) (by exact rfl) (by decide)) ⟨by rw[hG];rfl,by simp,aaj _⟩ ⟨Z,Z,Z,Z,Z,Z,Y⟩ ⟨Z,Z,Y⟩ fun ⟨i,o⟩ hx t h=>?_;obtain⟨x1,x2,x3⟩:=hx;dsimp only at x1 x2 x3;refine iW ?_ ?_<;>intro g1
  ·obtain⟨p,hp⟩:=ak (l:=(aC a).pieces) (i:=i) (by omega);have gp:=gd.pc p (aad hp);obtain⟨gi,si,i1,i2,i3,i4⟩:=afM gd hn (i:=i) (by omega);have ahA:=ahV.sublist (List.drop_sublist i _);rw[drop_at hp]at ahA;rw[drop_at hp,aeE,<-afG _ _ ahA]at x1;refine⟨⟨by omega,by omega⟩,?_⟩;refine aJ (fun y:Nat×List Break=>y.2++(aeU r (aC a) nets i p y.1 ((aC a).pieces.drop y.1)++aeE r (aC a) nets (i+1) ((aC a).pieces.drop (i+1)))=G/\y.2.length<=2000*i+y.1/\y.1<=(aC a).pieces.length) (fun y=>[(2,.p (strs nets)),(3,.bx 3 0),(8,.p (FR a)),(10,.p (ints (aC a).ofPiece)),(11,.ow 11),(12,.p (i64 i)),(13,.p (i64 y.1))]) (fun y=>[(3,.box (C_ r)),(11,.row 47 (y.2.map nQ))]) (fun y=>(aC a).pieces.length-y.1) (i+1,o) _ (au.refl _ _) ⟨x1,by dsimp only;omega,by dsimp only;omega⟩ ⟨Z,Z,Z,Z,Z,Z,Z,Y⟩ ⟨Z,Z,Y⟩ fun ⟨k,o'⟩ hy t h=>?_;obtain⟨y1,y2,y3⟩:=hy;dsimp only at y1 y2 y3;refine iW ?_ ?_<;>intro g2
   ·obtain⟨q,hq⟩:=ak (l:=(aC a).pieces) (i:=k) (by omega);have gq:=gd.pc q (aad hq);obtain⟨gk,sk,k1,k2,k3,k4⟩:=afM gd hn (i:=k) (by omega);rw[drop_at hq,aeU]at y1;refine⟨[i64 p.layer],(idx rfl hp),?_⟩;refine⟨[i64 q.layer],(idx rfl hq),?_⟩;refine iW ?_ ?_<;>intro g3
    ·rw[aaa (fun c=>g3 c.symm),acZ]at y1;refine⟨⟨by omega,by omega⟩,?_⟩;exact⟨(k+1,o'),_,au.refl _ _,⟨y1,by dsimp only;omega,by dsimp only;omega⟩,by dsimp only;omega,⟨Z,Z,Z,Z,Z,Z,Z,Y⟩,⟨Z,Z,Y⟩⟩
    have g3:p.layer=q.layer:=by simpa using g3
    rw[aap g3.symm,aff,i2,k2,i4,k4]at y1;refine⟨[i64 gi],(idx rfl i1),?_⟩;refine⟨[i64 gk],(idx rfl k1),?_⟩;refine iW ?_ ?_<;>intro g4
    ·rw[aap g4,acZ]at y1;refine⟨⟨by omega,by omega⟩,?_⟩;exact⟨(k+1,o'),_,au.refl _ _,⟨y1,by dsimp only;omega,by dsimp only;omega⟩,by dsimp only;omega,⟨Z,Z,Z,Z,Z,Z,Z,Y⟩,⟨Z,Z,Y⟩⟩
    rw[aaa g4]at y1;have hga:=aht gp gq;generalize afd (told p.set) (told q.set)=Q0 at *;have b8:=agN r hg si sk p.layer Q0.src.1 Q0.src.2;generalize aeZ r si sk p.layer Q0.src.1 Q0.src.2=need at *;refine⟨[aj (told p.set)],(idx rfl hp),?_⟩;refine⟨[aj (told q.set)],(idx rfl hq),?_⟩;refine⟨_,_,hga,?_⟩;refine⟨[i64 gi],(idx rfl i1),?_⟩;refine⟨[str si],(idx rfl i3),?_⟩;refine⟨[i64 gk],(idx rfl k1),?_⟩;refine⟨[str sk],(idx rfl k3),?_⟩;refine⟨[i64 p.layer],(idx rfl hp),?_⟩;refine⟨_,_,b8,?_⟩;refine iW ?_ ?_<;>intro g5
    ·rw[aap g5]at y1;refine⟨⟨fun r hr=>by simp at hr;subst hr;rfl,by simp only[aej,aaM,aan,acv,aaB,acs];omega,by simp only[aej,aaM,aan,acv,aaB,acs];omega⟩,?_⟩;refine⟨⟨by omega,by omega⟩,?_⟩;exact⟨(k+1,o'++[⟨1,i,k,Q0.dist,need,Q0.src⟩]),_,au.refl _ _,⟨by rw[<-y1];simp only[List.append_assoc,List.singleton_append,List.cons_append,List.nil_append],by simp only[List.length_append,List.length_singleton];omega,by dsimp only;omega⟩,by dsimp only;omega,⟨Z,Z,Z,Z,Z,Z,Z,Y⟩,⟨rfl,by rw[List.map_append];rfl,trivial⟩⟩
    rw[aaa g5,acZ]at y1;refine⟨⟨by omega,by omega⟩,?_⟩;exact⟨(k+1,o'),_,au.refl _ _,⟨y1,by dsimp only;omega,by dsimp only;omega⟩,by dsimp only;omega,⟨Z,Z,Z,Z,Z,Z,Z,Y⟩,⟨Z,Z,Y⟩⟩
   have e:k=(aC a).pieces.length:=by omega
   rw[e,List.drop_length,aeU,acZ]at y1;refine⟨⟨by omega,by omega⟩,?_⟩;exact⟨(i+1,o'),_,au.refl _ _,⟨y1,by dsimp only;omega,by dsimp only;omega⟩,by dsimp only;omega,⟨Z,Z,Z,Z,Z,Z,Y⟩,⟨Z,Z,Y⟩⟩
  rw[ab1 (by omega),aeE,acw]at x1;have x1:G=o:=x1.symm;subst x1;refine⟨_,_,(pK G),?_⟩;refine⟨?_,trivial⟩;rfl
 rw[afr,aaa g]at aK;rw[agb,aaa g];refine⟨_,_,aK,?_⟩;refine iW ?_ ?_<;>intro c
 ·refine⟨?_,trivial⟩;rfl
 exact absurd (by simpa using c) g
theorem agD(s:List an)(hs:bE s)(ks:cv 1000000 s)(hn:(told s).length<=1000000)(agc:Int)(h0:0<=agc)(h1:agc<=100000):af C 73 [.pv (aj (told s)),.pv (i64 agc)] (.p (i64 (gn (fun n=>decide (ax s n=[])) agc.toNat 0 agc))) []:=by
 obtain⟨H,hH⟩:∃H:Int->Bool,H=fun n=>decide (ax s n=[]):=⟨_,rfl⟩;rw[<-hH];obtain⟨R,hR⟩:∃R,R=gn H agc.toNat 0 agc:=⟨_,rfl⟩;rw[<-hR];refine fW hC Tryz.func73 rfl (by kernel_rfl) fun _=>?_;refine aJ (fun x:Nat×Int×Int=>gn H x.1 x.2.1 x.2.2=R/\(x.2.2-x.2.1).toNat<=x.1/\0<=x.2.1/\x.2.1<=x.2.2/\x.2.2<=agc) (fun x=>[(0,.p (aj (told s))),(5,.p (i64 x.2.1)),(6,.p (i64 x.2.2))]) (fun _=>[]) (fun x=>x.1) (agc.toNat,0,agc) _ (au.refl _ _) ⟨hR.symm,by dsimp only;omega,by dsimp only;omega,by dsimp only;omega,by dsimp only;omega⟩ ⟨Z,Z,Z,Y⟩ trivial fun ⟨n,low,high⟩ hx t h=>?_;obtain⟨x1,x2,x3,x4,x5⟩:=hx;dsimp only at x1 x2 x3 x4 x5;refine iW ?_ ?_<;>intro g<;>try simp only[zB]at g
 ·have hf:=pA (d:=high-low) (by omega);have hm:=NQ (low:=low) (high:=high) (by omega) g;rw[nB H g x2,<-hm]at x1;obtain⟨m,hme⟩:∃m,m=(low+high+1).tdiv 2:=⟨_,rfl⟩;have m0:0<=m:=by omega
  have m1:m<=100000:=by omega
  have hth:=afN s hs ks hn m m0 m1;have lz:=told_none (Reg.aeS hs m).1;have lmz:=ai (told (ax s m)) rc;have hk:H m=decide (ax s m=[]):=by rw[hH]
  rw[hme]at hth lz lmz hk;refine⟨⟨by (try dsimp only);omega,by (try dsimp only);omega⟩,?_⟩;refine⟨⟨by (try dsimp only);omega,by (try dsimp only);omega⟩,?_⟩;refine⟨by decide,?_⟩;refine⟨⟨by (try dsimp only);omega,by (try dsimp only);omega⟩,?_⟩;refine⟨_,_,hth,?_⟩;refine iW ?_ ?_<;>intro k
  ·rw[aap (by rw[hk];exact acd (lz.1 (by omega)))]at x1;exact⟨(n-1,(low+high+1).tdiv 2,high),_,au.refl _ _,⟨x1,by dsimp only;omega,by dsimp only;omega,by dsimp only;omega,by dsimp only;omega⟩,by dsimp only;omega,⟨Z,Z,Z,Y⟩,trivial⟩
  rw[aaa (by rw[hk];simpa using fun c=>k (by have:=lz.2 c;omega))]at x1;refine⟨⟨by (try dsimp only);omega,by (try dsimp only);omega⟩,?_⟩;exact⟨(n-1,low,(low+high+1).tdiv 2-1),_,au.refl _ _,⟨x1,by dsimp only;omega,by dsimp only;omega,by dsimp only;omega,by dsimp only;omega⟩,by dsimp only;omega,⟨Z,Z,Z,Y⟩,trivial⟩
 rw[pB H g]at x1;refine⟨?_,trivial⟩;rw[x1]
theorem agE(r:cP)(hr:e8 r)(a:fS)(ha:ly a)(nets:List ByteArray)(hn:afj nets):af C 28 [.pv (.ag (rl r)),.pv (.ag (dX a)),.pv (strs nets)] (.tu [.sl ((agb r a nets (aew r (aC a) nets 0 (aC a).pieces)).1.map nQ),i64 (agb r a nets (aew r (aC a) nets 0 (aC a).pieces)).2]) []:=by
 have aK:=age r hr a ha nets hn;refine fW hC Tryz.func28 rfl (by kernel_rfl) fun _=>?_;by_cases g:aeJ r a nets=0
 ·obtain⟨hg,gd,hn⟩:=afQ g;have jB:=gd.jB;have lr:(eB (aC a).pieces).length=(aC a).pieces.length:=aej ..;rw[afr,aap g,g]at aK;rw[agb,aap g];obtain⟨G,hG⟩:∃G,G=aew r (aC a) nets 0 (aC a).pieces:=⟨_,rfl⟩;rw[<-hG];refine⟨_,_,aK,?_⟩;refine⟨_,_,(afP a gd),?_⟩;refine aJ (fun x:Nat×List Break=>x.2++aew r (aC a) nets x.1 ((aC a).pieces.drop x.1)=G/\x.2.length<=x.1/\x.1<=(aC a).pieces.length) (fun x=>[(2,.p (strs nets)),(3,.bx 3 0),(8,.p (FR a)),(10,.p (ints (aC a).ofPiece)),(11,.ow 11),(12,.p (i64 x.1))]) (fun x=>[(3,.box (C_ r)),(11,.row 47 (x.2.map nQ))]) (fun x=>(aC a).pieces.length-x.1) (0,[]) _ (au.dk (by exact hC) _ 11 47 _ (by decide) (by exact rfl) (by exact rfl) (by decide)) ⟨by rw[hG];rfl,by simp,aaj _⟩ ⟨Z,Z,Z,Z,Z,Z,Y⟩ ⟨Z,Z,Y⟩ fun ⟨i,o⟩ hx t h=>?_;obtain⟨x1,x2,x3⟩:=hx;dsimp only at x1 x2 x3;have lo:=ai o nQ;refine iW ?_ ?_<;>intro g1
  ·obtain⟨p,hp⟩:=ak (l:=(aC a).pieces) (i:=i) (by omega);have gp:=gd.pc p (aad hp);have gpf:=gp.jB;obtain⟨gi,si,i1,i2,i3,i4⟩:=afM gd hn (i:=i) (by omega);have wk:=agx hg si;rw[drop_at hp,aew,afq,i2,i4]at x1;have hth:=afN p.set gp.sok gp.ink (by omega) (E3 r si) wk.1 wk.2;have hwd:=agD p.set gp.sok gp.ink (by omega) (E3 r si) wk.1 wk.2;have IM:=(Reg.aeS gp.sok (E3 r si)).1;have lz:=told_none IM;refine⟨[i64 gi],(idx rfl i1),?_⟩;refine⟨[str si],(idx rfl i3),?_⟩;refine⟨_,_,(agp r hg si),?_⟩;refine⟨[aj (told p.set)],(idx rfl hp),?_⟩;refine⟨_,_,hth,?_⟩;have lT:=ai (told (ax p.set (E3 r si))) rc;refine iW ?_ ?_<;>intro g2
   ·have e:ax p.set (E3 r si)≠[]:=fun e=>by have:=lz.2 e;omega
    rw[aaa e,<-ag3 gp.sok wk.1 e]at x1;obtain⟨m0,mt,em,Ta⟩:=zT IM e;have h0:(told (ax p.set (E3 r si)))[0]?=some m0:=by rw[em];rfl
    refine⟨[aj (told p.set)],(idx rfl hp),?_⟩;refine⟨_,_,hwd,?_⟩;refine⟨_,_,(uK (told (ax p.set (E3 r si))) m0 h0),?_⟩;refine⟨⟨fun r hr=>by simp at hr;subst hr;rfl,by simp only[lo,aaB,acs,aaM,aan];omega,by simp only[lo,aaB,acs,aaM,aan];omega⟩,?_⟩;refine⟨⟨by omega,by omega⟩,?_⟩;exact⟨(i+1,o++[⟨2,i,0,gn (fun n=>decide (ax p.set n=[])) (E3 r si).toNat 0 (E3 r si),E3 r si,jq (ax p.set (E3 r si))⟩]),_,au.refl _ _,⟨by rw[<-x1];simp only[List.append_assoc,List.singleton_append,List.cons_append,List.nil_append],by simp only[List.length_append,List.length_singleton];omega,by dsimp only;omega⟩,by dsimp only;omega,⟨Z,Z,Z,Z,Z,Z,Y⟩,⟨rfl,by rw[List.map_append,<-Ta];rfl,trivial⟩⟩
   have e:ax p.set (E3 r si)=[]:=lz.1 (by omega);rw[aap e,acZ]at x1;refine⟨⟨by omega,by omega⟩,?_⟩;exact⟨(i+1,o),_,au.refl _ _,⟨x1,by dsimp only;omega,by dsimp only;omega⟩,by dsimp only;omega,⟨Z,Z,Z,Z,Z,Z,Y⟩,⟨Z,Z,Y⟩⟩
  rw[ab1 (by omega),aew,acw]at x1;have x1:G=o:=x1.symm;subst x1;refine⟨_,_,(pK G),?_⟩;refine⟨?_,trivial⟩;rfl
 rw[afr,aaa g]at aK;rw[agb,aaa g];refine⟨_,_,aK,?_⟩;refine iW ?_ ?_<;>intro c
 ·refine⟨?_,trivial⟩;rfl
 exact absurd (by simpa using c) g
open Reg (bN coreS fT aa bO)
theorem Ld(l:List Break):(mI l).1.length<=5000:=by
 rw[mI];split
 ·simp
 show l.length<=5000;omega
theorem pL(l:List Break)(hN:l.length<=5000):af C 16 [.pv (.sl (l.map nQ)),.pv (.sl (l.map nQ))] (.p (bool true)) []:=by
 have lm:=ai l nQ;refine fW hC Tryz.func16 rfl (by kernel_rfl) fun _=>?_;refine iW ?_ ?_<;>intro h0<;>try simp only[zB]at h0
 ·exact absurd trivial h0
 refine aJ (fun i:Nat=>i<=l.length) (fun i=>[(0,.p (.sl (l.map nQ))),(1,.p (.sl (l.map nQ))),(12,.p (i64 l.length)),(13,.p (i64 i))]) (fun _=>[]) (fun i=>l.length-i) 0 _ (au.refl _ _) (aaj _) ⟨rfl,rfl,adV (fun m:Nat=>AV.p (i64 m)) lm,Z,Y⟩ trivial fun i hi t h=>?_;refine iW ?_ ?_<;>intro h1
 ·obtain⟨b,hb⟩:=ak (l:=l) (i:=i) (by omega);refine⟨(nQ b),(idx rfl hb),?_⟩;refine⟨(nQ b),(idx rfl hb),?_⟩;refine iW ?_ ?_<;>intro h2<;>try simp only[zB]at h2
  ·exfalso;simp at h2
  refine⟨⟨by omega,by omega⟩,?_⟩;exact⟨(i+1),_,au.refl _ _,by omega,by omega,⟨Z,Z,Z,Z,Y⟩,trivial⟩
 refine⟨?_,trivial⟩;rfl
theorem ag9(r:cP)(a:fS)(nets:List ByteArray)(l:List Break):(agb r a nets l).1.length<=5000:=by
 rw[agb];split
 ·exact Ld l
 simp
theorem ahm(r:cP)(hr:e8 r)(a:fS)(ha:ly a)(nets:List ByteArray)(hn:afj nets):af C 6 [.pv (.ag (rl r)),.pv (.ag (dX a)),.pv (strs nets)] (.p (bool true)) []:=by
 have r1:=ag6 r hr a ha nets hn;have r2:=agO r hr a ha nets hn;have e1:=aeN r hr a ha nets hn;have e2:=agE r hr a ha nets hn;have q1:=pL _ (ag9 r a nets (aeE r (aC a) nets 0 (aC a).pieces));have q2:=pL _ (ag9 r a nets (aew r (aC a) nets 0 (aC a).pieces));generalize agb r a nets (aeE r (aC a) nets 0 (aC a).pieces)=R at *;generalize agb r a nets (aew r (aC a) nets 0 (aC a).pieces)=E at *;obtain⟨R1,R2⟩:=R;obtain⟨E1,E2⟩:=E;refine fW hC Tryz.func6 rfl (by kernel_rfl) fun _=>?_;refine⟨_,_,r1,?_⟩;refine⟨_,_,r2,?_⟩;refine⟨_,_,e1,?_⟩;refine⟨_,_,e2,?_⟩;refine⟨_,_,q1,?_⟩;refine iW ?_ ?_<;>intro c1
 ·refine⟨_,_,q2,?_⟩;refine iW ?_ ?_<;>intro c2
  ·refine⟨_,_,KG,?_⟩;refine⟨?_,trivial⟩;rfl
  exact absurd rfl c2
 exact absurd rfl c1
end M
end Go.Proofs.YtfloceomobknoaaGreatDoor
namespace Go.Proofs.YtfloceomobknoaaGreatDoor
open Go.ChangeShapes Go.WideShapes Go.ChangeAt Go.RowKit Go.AM
open Go.ChangeMaps (open_string shut_string)
open Go.Proofs.YtfloceomobknoaaGreatDoor.M
namespace rulesClearMatchSpec
theorem Af{P:Program}{f:FuncId}{fn:Func}{s:ChangeSpec}{c:OpenClaim}(Te:(laidOutB P)=true)(Qd:(mapsRowed P)=true)(Tf:((c.inPlace==P.inPlace f))=true)(VS:((c.unfollowed==P.unfollowed f))=true)(VT:((c.recurses==P.recurses f))=true)(Qe:((c.named==P.varsNamed f))=true)(VU:((c.plainKeys==P.plainKeys))=true)(Qf:(P.stopsHeard)=true)(Qg:(P.mayEnter)=true)(Tg:((c.lifted==P.liftsFinal))=true)(Th:((P.make==some c.make))=true)
  (h_rest:(c.wf (OpenSpec.ofChange s)&&true&&fn.params.all (P.readableRec ·)&&namedTie P c.named s.vars&&(c.stops==[])&&(P.stops==[])&&(c.knobs==[])&&(P.stopKnobs==[])&&true&&(c.maps==(fn.params.toList++s.plain.varTypes P).any (P.mapsRec ·))&&(c.ifaces==(fn.params.toList++s.plain.varTypes P).any (P.ifacesRec ·))&&(c.mapsOut==P.mapsAmong fn.resultTypes.toList)&&(c.loops==(fn.params.toList++s.plain.varTypes P).any (P.loopsFrom ·))&&(c.wideKeys==(fn.params.toList++s.plain.varTypes P++fn.resultTypes.toList).any (P.wideKeysFrom ·))&&s.vars.all (P.varReadable ·)&&fn.resultTypes.all (fun t=>P.readableRec t&&decide (t<P.types.size))&&(c.ifacesOut==fn.resultTypes.toList.any (P.ifacesRec ·))&&(c.loopsOut==fn.resultTypes.toList.any (P.loopsFrom ·))&&c.shortTexts.isNone&&(c.kinds==(if c.domain.isEmpty then [] else fn.params.toList.map fun t=>match P.underlying t with | some (.int k)=>some k | _=>none))&&(c.pinned==c.pinnedBy)&&(c.veiled==(fn.params.toList++s.plain.varTypes P++fn.resultTypes.toList).any (P.veiledRec ·))&&c.veiledFits P fn.params.toList (fn.params.toList++s.plain.varTypes P++fn.resultTypes.toList))=true):joinedFacts P f fn s c=true:=by
 simp only[aaZ]at h_rest;simp only[joinedFacts,aaZ];simp only[Te,Qd,Tf,VS,VT,Qe,VU,Qf,Qg,Tg,Th,and_true];simp only[and_assoc,and_true]at h_rest ⊢;exact h_rest
theorem Ti{W:World}(hL:laidMetH Tryz.prog Rows.rulesClearMatchSpecUptoRow.laid W)(h:W.ShapedOpen Tryz.prog):M.Env (fun b=>b<W.heap.size) W:=by
 refine EM (Go.Proofs.cell_of_shapedOpen_int (zero:=#[.int .i64 0]) (t:=3) h (adw (by kernel_rfl)) (by kernel_rfl) rfl (by kernel_rfl) (by kernel_rfl) acI) ?_;rw[MakeChecks.laidMetH_plain _ _ _ (by kernel_rfl)]at hL;exact Lib.tabIs_of_head (rest:=Rows.rulesClearMatchSpecUptoRow.laid.drop 3) M.St (by kernel_rfl) Tryz.underlying297 adE (by kernel_rfl) (by kernel_rfl) (laidMet.tail (laidMet.tail hL))
theorem Og(H:Type)(enc:TypeId×Value->H)(W:World)(base:Nat)(args:Array Value)(ds gs:List (DataW H))(before:List MemPlace)
  (hval:∀(j:Nat) t v,Tryz.f6.params[j]?=some t->args[j]?=some v->Value.okWide Tryz.prog W .any base t v)
  (hW:DataW.Whole enc Tryz.prog Tryz.f6.params.toList Rows.rulesClearMatchSpecSpec.vars false W args.toList ds gs before) (hk:Rows.uptoSmall H (ds++gs)=true) (hE:M.Env (fun b=>b<W.heap.size) W):
  Calls Tryz.prog 6 args W fun e W'=>∃v,e=.returned v/\Rows.rulesClearMatchSpecSpec.post enc Tryz.prog Tryz.f6 false true false false W args v W':=by
 have hW':=hW;obtain⟨pp,q,hA0,hV,rfl,DI,Oo⟩:=hW;have hA:DataW.TrodAll enc Tryz.prog W 0 (fun _=>true) true Tryz.f6.params.toList args.toList ds pp:=hA0;have again:=fun (W':World) (hb:Below W.heap.size W W')=>By U9 hb (by kernel_rfl) hA hA.lt;rw[Tryz.params6]at hA hval;obtain⟨v0,vs0,d0,ds0,p0,q0,hargs,rfl,ZF,h0,r0⟩:=trodAll_cons hA;obtain⟨v1,vs1,d1,ds1,p1,q1,rfl,rfl,rfl,h1,r1⟩:=trodAll_cons r0;obtain⟨v2,vs2,d2,ds2,p2,q2,rfl,rfl,rfl,h2,r2⟩:=trodAll_cons r1;obtain⟨rfl,rfl,rfl⟩:=trodAll_nil r2;obtain rfl:args=#[v0,v1,v2]:=by cases args;simp_all
 obtain⟨rfl,rfl⟩:=trodVars_none hV;obtain⟨_,w0,r,rfl,z0⟩:=yS (S:=fun b=>b<W.heap.size) Tryz.underlying39 (M8 fun _ h=>h) (hval 0 39 v0 rfl rfl) h0;have o_r:e8 r:=M9 (Da _ _ _ (IU hk (abY _ (by repeat (first | exact adU .. | apply aaw)))) z0);obtain⟨_,w1,a,rfl,z1⟩:=yS (S:=fun b=>b<W.heap.size) Tryz.underlying27 (SZ fun _ h=>h) (hval 1 27 v1 rfl rfl) h1;have o_a:ly a:=S0 (HI _ _ _ (IU hk (abY _ (by repeat (first | exact adU .. | apply aaw)))) z1);obtain⟨_,w2,nets,e2,z2⟩:=agV (S:=fun b=>b<W.heap.size) acL (PB fun _ h=>h) (hval 2 49 v2 rfl rfl) h2;cases e2;have ahC:afj nets:=ahp (IU hk (abY _ (by repeat (first | exact adU .. | apply aaw)))) z2;refine (Sy (C:=C) (xs:=[.ag (rl r),.ag (dX a),strs nets]) (y:=.bool true) (ahm r o_r a o_a nets ahC) hE (Bv (w0) (Bv (w1) (Bv (w2) MU)))).mono fun e W' ⟨he,hb⟩=>?_;subst he;exact⟨_,rfl,AG (pa:=pp) (pv:=[]) hW' (fun _ _ _=>trodAll_cons_mk (shut_bool acm _) trodAll_mk0) (fun sp h=>again W' hb sp (fun p hp=>h p (abY _ hp))) (fun _ _=>rfl) rfl
  hb (ok_one (by kernel_rfl) rfl (okWide_bool_mk acm _))⟩
theorem reads(os:Os){H:Type}(enc:TypeId×Value->H):∃places,DataW.whole enc Tryz.prog ((World.laidAll Tryz.prog os Rows.rulesClearMatchSpecUptoRow.laid).forCall (fun _ _=>0) ⟨#[],#[.agg #[.int .i64 0,.int .i64 0,.int .i64 0,.int .i64 0,.int .i64 0,.slice none 0 0,.slice none 0 0],.agg #[.slice none 0 0,.slice none 0 0,.slice none 0 0,.slice none 0 0],.slice none 0 0],[]⟩).memory Tryz.f6.params.toList Rows.rulesClearMatchSpecSpec.vars false (#[.agg #[.int .i64 0,.int .i64 0,.int .i64 0,.int .i64 0,.int .i64 0,.slice none 0 0,.slice none 0 0],.agg #[.slice none 0 0,.slice none 0 0,.slice none 0 0,.slice none 0 0],.slice none 0 0]:Array Value).toList 8=some ([.agg [.lit (.int .i64 0),.lit (.int .i64 0),.lit (.int .i64 0),.lit (.int .i64 0),.lit (.int .i64 0),.nil,.nil],.agg [.nil,.nil,.nil,.nil],.nil],[],places):=
 ⟨[],by kernel_rfl⟩
theorem lifted(os:Os)(started:os.Started)(H:Type)(enc:TypeId×Value->H)(F:Stop.Interp):
  ReturnsInHanded {} Tryz.checked os 6 .any ((Rows.OpenSpec.upto Rows.rulesClearMatchSpecSpec).preRow enc Tryz.prog Tryz.f6 Rows.rulesClearMatchSpecUptoRow.domain false Rows.rulesClearMatchSpecUptoRow.laid) (((Rows.OpenSpec.upto Rows.rulesClearMatchSpecSpec).at F).post enc Tryz.prog Tryz.f6 false true false false):=by
 obtain⟨places,hx⟩:=reads os enc;refine returnsInHanded_of_row (C:=Tryz.checked) (s:=Rows.OpenSpec.upto Rows.rulesClearMatchSpecSpec) own started (by kernel_rfl) Tryz.func6
  (xr (enc:=enc) (C:=Tryz.checked) (World.laidAll Tryz.prog os Rows.rulesClearMatchSpecUptoRow.laid) #[.agg #[.int .i64 0,.int .i64 0,.int .i64 0,.int .i64 0,.int .i64 0,.slice none 0 0,.slice none 0 0],.agg #[.slice none 0 0,.slice none 0 0,.slice none 0 0,.slice none 0 0],.slice none 0 0] (World.laidAll_os _ _ _) (World.shaped_of_ZipB (by kernel_rfl) (by kernel_rfl)) (by kernel_rfl)
   (OpenSpec.preRow_of_cond 8 hx (by kernel_rfl) (fun k hk=>by cases hk;kernel_rfl) (by kernel_rfl)
    (by rw[MakeChecks.laidMetH_plain _ _ _ (by kernel_rfl)];exact laidMet_laidAll _ (by kernel_rfl) (by kernel_rfl)))) ?_
 intro W base args ds gs before hval hW _ Is _ hL hsh _;exact Og H enc W base args ds gs before hval hW (Is _ rfl) (Ti hL hsh)
theorem Tj:laidOutB Tryz.prog=true:=by kernel_rfl
theorem Qh:mapsRowed Tryz.prog=true:=by kernel_rfl
theorem Tk:(Rows.rulesClearMatchSpecUptoRow.inPlace==Tryz.prog.inPlace 6)=true:=by kernel_rfl
theorem VV:(Rows.rulesClearMatchSpecUptoRow.unfollowed==Tryz.prog.unfollowed 6)=true:=by kernel_rfl
theorem VW:(Rows.rulesClearMatchSpecUptoRow.recurses==Tryz.prog.recurses 6)=true:=by kernel_rfl
theorem Qi:(Rows.rulesClearMatchSpecUptoRow.named==Tryz.prog.varsNamed 6)=true:=by kernel_rfl
theorem VX:(Rows.rulesClearMatchSpecUptoRow.plainKeys==Tryz.prog.plainKeys)=true:=by kernel_rfl
theorem Qj:Tryz.prog.stopsHeard=true:=by kernel_rfl
theorem Qk:Tryz.prog.mayEnter=true:=by kernel_rfl
theorem Tl:(Rows.rulesClearMatchSpecUptoRow.lifted==Tryz.prog.liftsFinal)=true:=by kernel_rfl
theorem Tm:(Tryz.prog.make==some Rows.rulesClearMatchSpecUptoRow.make)=true:=by kernel_rfl
theorem Tn:false=Rows.rulesClearMatchSpecUptoRow.goesBy Tryz.prog:=by kernel_rfl
theorem Ql:false=Tryz.prog.looks []:=by kernel_rfl
theorem YL:Rows.rulesClearMatchSpecUptoRow.wfByText (Rows.OpenSpec.upto Rows.rulesClearMatchSpecSpec)=true:=by kernel_rfl
theorem dG:joinedFacts Tryz.prog 6 Tryz.f6 (Rows.OpenSpec.upto Rows.rulesClearMatchSpecSpec).bare Rows.rulesClearMatchSpecUptoRow=true:=
 Af Tj Qh Tk VV VW Qi VX Qj Qk Tl Tm (by kernel_rfl)
theorem Oh:Rows.RulesClearMatchSpecUptoSaid:=
 OpenClaim.holds_of_cond 6 Tryz.f6 rfl rfl rfl rfl rfl rfl rfl ⟨rfl,rfl,rfl,rfl,rfl⟩ rfl rfl rfl rfl rfl (by kernel_rfl) Tryz.func6 dG
  (adw (by kernel_rfl)) (by unfold Func.isWrapper;first | (rw[aap (by decide +kernel)];kernel_rfl) | (rw[aaa (by decide +kernel)];exact⟨rfl,rfl⟩))
  (fun os started H enc _ F=>by rw[OpenClaim.pre_eq_preRow];exact lifted os started H enc F)
theorem plain(f:FuncId)(fn:Func)(hf:Tryz.pinned.checked.prog.funcNamed Rows.rulesClearMatchSpecUptoRow.func=some f)(Xf:Tryz.pinned.checked.prog.funcs[f]?=some fn):
  false=Tryz.pinned.checked.prog.looks []/\∀(j:Nat) t,fn.params[j]?=some t->Tryz.pinned.checked.prog.wantsStandIn t=false:=by
 obtain rfl:f=6:=Option.some.inj ((show Tryz.prog.funcNamed Rows.rulesClearMatchSpecUptoRow.func=some 6 by kernel_rfl).symm.trans hf) |>.symm;obtain rfl:fn=Tryz.f6:=(Option.some.inj (Tryz.func6.symm.trans Xf)).symm;refine⟨Ql,fun j t ht=>?_⟩;rw[Tryz.params6]at ht;have hm:=abr ht;have aeL:((Tryz.f6.params.toList).all fun u=>!Tryz.prog.wantsStandIn u)=true:=by kernel_rfl
 exact (show Tryz.prog.wantsStandIn t=false by simpa using abh.1 aeL t (by rw[Tryz.params6];simpa using hm))
theorem cardUpto:Rows.RulesClearMatchSpecUptoCardSaid:=
 Claim7.holds_tied_plain_at .later [] _ _ _ _ Oh (fun _ h=>by cases h) YL (fun _ h=>by cases h) rulesClearMatchSpecUpto_row_tie rfl ⟨rfl,rfl⟩ (by kernel_rfl) rfl plain Tn
end rulesClearMatchSpec
end Go.Proofs.YtfloceomobknoaaGreatDoor
