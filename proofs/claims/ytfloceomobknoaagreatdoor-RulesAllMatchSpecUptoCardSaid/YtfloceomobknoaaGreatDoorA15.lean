/- All gives just what the reference gives, with all errors. Condition: what is read is of bulk at most 1048576; the listed variables are tied to the program's text by the card. -/
import Derived.Test.YtfloceomobknoaaGreatDoorA14
set_option linter.unusedVariables false
set_option linter.unusedSimpArgs false
set_option maxRecDepth 100000
set_option maxHeartbeats 8000000
namespace Go.Proofs.YtfloceomobknoaaGreatDoor
namespace M
open Go.AM Go.RowKit Go.Lib
open Reg (ae an aS fS Piece BR bE cv told aB bO aa through fT afd aC E1 bN uo nM a_ coreS P4)
theorem Lc{a:fS}(gd:iD a){layer:Int}{z:List ae}(h:a.coppers[layer.toNat]?=some z):a.coppers.getD layer.toNat []=z:=by rw[ad4,h];rfl
theorem Oe{x:aS}(h:bO x=true):bE (qP x)/\cv 1110000 (qP x):=by
 obtain⟨z,D⟩:=gz h;obtain⟨I,_,J⟩:=Reg.bW z (l:=1) (r:=1) (d:=0) (u:=0) (by omega) (by omega) (by omega) (by omega);obtain⟨L,_,N⟩:=Reg.bW z (l:=0) (r:=0) (d:=1) (u:=1) (by omega) (by omega) (by omega) (by omega);obtain⟨u1,_,O⟩:=Reg.kH I L;exact⟨u1,O _ (J 1010000 100000 D (by omega) (by omega) (by omega) (by omega)) (N 1010000 100000 D (by omega) (by omega) (by omega) (by omega))⟩
theorem F1(r:cP)(hg:zd r)(a:fS)(R:Ft a):af C 48 [.pv (.ag (rl r)),.pv (.ip (kW a))] (.p (.sl ((fG r.ring a.bores a.coppers 0 a.bores).map nQ))) []:=by
 have lb:=ai a.bores bc;have jB:=R.art.jB;have cop:=R.art.cop;have B_:=jv R.art;have HY:=hg.nums;simp only[gM,cL,aaZ,aaH]at HY;obtain⟨G,hG⟩:∃G,G=fG r.ring a.bores a.coppers 0 a.bores:=⟨_,rfl⟩;rw[<-hG];refine uX ⟨[5,7,19,16,20],[],[],[23],[],[]⟩ hC Tryz.func48 rfl (by kernel_rfl) fun _=>?_;refine aJ (fun x:Nat×List Break=>x.2++fG r.ring a.bores a.coppers x.1 (a.bores.drop x.1)=G/\x.2.length<=16*x.1/\x.1<=a.bores.length) (fun x=>[(1,.p (.ip (kW a))),(2,.p (.ip (rl r))),(5,.ow 5),(22,.p (.sl (a.bores.map bc))),(23,.p (i64 a.bores.length)),(24,.p (i64 x.1))]) (fun x=>[(5,.row 47 (x.2.map nQ))]) (fun x=>a.bores.length-x.1) (0,[]) _ ((au.dk (by exact hC) _ 5 47 _ (by decide) (by exact rfl) (by exact rfl) (by decide)).trans (au.gD (by exact hC) _ 2 (y:=.ip (rl r)) (fz:=[(2,.jd (rl r))]) (by exact⟨rfl,rfl⟩))) ⟨by rw[hG];rfl,by simp,aaj _⟩ ⟨rfl,rfl,rfl,rfl,adV (fun m:Nat=>AV.p (i64 m)) lb,Z,Y⟩ ⟨Z,Y⟩ fun ⟨i,o⟩ hx t h=>?_;obtain⟨x1,x2,x3⟩:=hx;simp only at x1 x2 x3;apply iW<;>intro g1<;>try simp only[zB]at g1
 ·obtain⟨x,DL⟩:=ak (l:=a.bores) (i:=i) (by omega);have UR:=aad DL;have bx:=B_ x UR;obtain⟨_,blo,ble,bhi⟩:=R.art.bor x UR;obtain⟨J,U⟩:=gz bx;rw[drop_at DL,fG]at x1;have VB:=zH bx;obtain⟨O,hO⟩:∃O,O=aB [aa x]:=⟨_,rfl⟩;rw[<-hO]at VB J U;have sp1:=pg O J (U.up (by omega)) 1 1 0 0 (by omega) (by omega) (by omega) (by omega);have sp2:=pg O J (U.up (by omega)) 0 0 1 1 (by omega) (by omega) (by omega) (by omega);obtain⟨s1,_,s3⟩:=Reg.bW J (l:=1) (r:=1) (d:=0) (u:=0) (by omega) (by omega) (by omega) (by omega);obtain⟨t1,_,t3⟩:=Reg.bW J (l:=0) (r:=0) (d:=1) (u:=1) (by omega) (by omega) (by omega) (by omega);have s3:=s3 1010000 100000 U (by omega) (by omega) (by omega) (by omega);have t3:=t3 1010000 100000 U (by omega) (by omega) (by omega) (by omega);have yA:=ES _ _ s1 t1 (s3.up (by omega)) (t3.up (by omega));have eX:uo (a_ O 1 1 0 0) (a_ O 0 0 1 1)=qP x:=by rw[hO];rfl
  rw[eX]at yA;obtain⟨cx1,cx2⟩:=Oe bx;refine⟨(bc x),(idx rfl DL),?_⟩;refine xp 7 (y:=.ip (bc x)) (fz:=[(7,.jd (bc x))]) (by exact hC) (by exact⟨rfl,rfl⟩) ?_;refine⟨_,_,(cF x bx),_,_,VB,?_⟩;refine xp 9 (y:=.ip [aw O]) (fz:=[(9,.jd [aw O])]) (by exact hC) (by exact⟨rfl,rfl⟩) ?_;refine aJ (fun y:Nat×Int×List Break=>y.2.2++(js r.ring a.bores a.coppers i x y.1 y.2.1++fG r.ring a.bores a.coppers (i+1) (a.bores.drop (i+1)))=G/\y.1=(x.hi+1-y.2.1).toNat/\y.2.2.length+y.1<=16*(i+1)/\x.lo<=y.2.1/\y.2.1<=x.hi+1) (fun y=>[(1,.p (.ip (kW a))),(2,.p (.ip (rl r))),(5,.ow 5),(6,.p (i64 i)),(7,.p (.ip (bc x))),(9,.p (.ip [aw O])),(10,.p (i64 y.2.1)),(22,.p (.sl (a.bores.map bc))),(23,.p (i64 a.bores.length)),(24,.p (i64 i))]) (fun y=>[(5,.row 47 (y.2.2.map nQ))]) (fun y=>y.1) ((x.hi+1-x.lo).toNat,x.lo,o) _ (au.refl _ _) ⟨x1,rfl,by simp only;omega,by simp only;omega,by simp only;omega⟩ ⟨Z,Z,Z,Z,Z,Z,Z,Z,Z,Z,Y⟩ ⟨Z,Y⟩ fun ⟨n,layer,o'⟩ hy t h=>?_;obtain⟨D,VP,VQ,VR,yy5⟩:=hy;simp only at D VP VQ VR yy5;apply iW<;>intro g2
  ·apply iW<;>intro g3<;>try simp only[zB]at g3
   ·obtain⟨m,rfl⟩:∃m,n=m+1:=⟨n-1,by omega⟩;rw[js,aap ⟨g2,g3⟩,lS]at D;obtain⟨V,TC⟩:=ak (l:=a.coppers) (i:=layer.toNat) (by omega);have Sn:=Lc R.art TC;have Tv:=R.art.reg V (aad TC);obtain⟨sr,kr⟩:=xS Tv;obtain⟨sc,kc⟩:=HH R.art i layer;have YJ:dM a.bores i layer 0 a.bores (aB V)=fF a.bores a.coppers i layer:=by rw[fF,Sn]
    rw[Sn,<-hO]at D;have N:=Kz (aB V) (qP x) sr cx1 (kr.up (by omega)) (cx2.up (by omega));obtain⟨T,hT⟩:∃T,T=nM (aB V) (qP x):=⟨_,rfl⟩;rw[<-hT]at D N;have lT:=ai T hb;have hsr:=zG (ph Tv);generalize aB V=R0 at *;generalize qP x=X at *;refine⟨(rr V),(idx (show layer=(layer.toNat:Int) by omega) TC),_,_,hsr,_,_,sp1,_,_,sp2,_,_,yA,_,_,N,iW ?_ ?_⟩<;>intro g4
    ·have e:T=[]:=adN.1 (by omega);rw[aap e,acZ]at D;exact⟨⟨by dsimp only;omega,by dsimp only;omega⟩,(m,layer+1,o'),_,au.refl _ _,⟨D,by simp only;omega,by simp only;omega,by simp only;omega,by simp only;omega⟩,by simp only;omega,⟨Z,Z,Z,Z,Z,Z,Z,Z,Z,Z,Y⟩,⟨Z,Y⟩⟩
    have e:T≠[]:=fun e=>g4 (by rw[e];rfl);rw[aaa e]at D;have Oq:=Fv O (fF a.bores a.coppers i layer) J U sc kc r.ring (by omega) (by omega);have Si:=Jd O (fF a.bores a.coppers i layer) J U sc kc r.ring (by omega) (by omega);have sla:=(KT J sc (n:=r.ring) (by omega)).1;generalize dL (fun n=>decide (n<0)||decide (jr O (fF a.bores a.coppers i layer) n=[])) r.ring=gr at *;generalize jr O (fF a.bores a.coppers i layer) r.ring=L at *;generalize fF a.bores a.coppers i layer=CA at *;have lL:=ai L hb;refine aJ (fun z:Nat×List an=>dM a.bores i layer z.1 (a.bores.drop z.1) z.2=CA/\bE z.2/\cv 2000000 z.2/\z.1<=a.bores.length) (fun z=>[(1,.p (.ip (kW a))),(2,.p (.ip (rl r))),(5,.ow 5),(6,.p (i64 i)),(7,.p (.ip (bc x))),(9,.p (.ip [aw O])),(10,.p (i64 layer)),(11,.bx 11 0),(22,.p (.sl (a.bores.map bc))),(23,.p (i64 a.bores.length)),(24,.p (i64 i)),(69,.p (.sl (a.bores.map bc))),(70,.p (i64 a.bores.length)),(71,.p (i64 z.1))]) (fun z=>[(5,.row 47 (o'.map nQ)),(11,.box [.p (aw z.2)])]) (fun z=>a.bores.length-z.1) (0,R0) _ (au.refl _ _) ⟨YJ,sr,kr.up (by omega),aaj _⟩ ⟨rfl,rfl,rfl,rfl,rfl,rfl,rfl,rfl,rfl,rfl,rfl,rfl,adV (fun m:Nat=>AV.p (i64 m)) lb,Z,Y⟩ ⟨Z,Z,Y⟩ fun ⟨k,s⟩ hz t h=>?_;obtain⟨I,W,z3,z4⟩:=hz;simp only at I W z3 z4;apply iW<;>intro g5<;>try simp only[zB]at g5
    ·obtain⟨v,hv⟩:=ak (l:=a.bores) (i:=k) (by omega);have bv:=B_ v (aad hv);obtain⟨sv,kv⟩:=gz bv;rw[drop_at hv,dM]at I;have Wt:=ES s (aB [aa v]) W sv z3 (kv.up (by omega));have hsv:=zH bv;obtain⟨or1,_,YK⟩:=Reg.kH W sv;have YK:=YK 2000000 z3 (kv.up (by omega));refine⟨(bc v),(idx rfl hv),?_⟩;refine xp 14 (y:=.ip (bc v)) (fz:=[(14,.jd (bc v))]) (by exact hC) (by exact⟨rfl,rfl⟩) ?_;apply iW<;>intro g6<;>try simp only[zB]at g6
     ·have g6':k≠i:=fun e=>g6 (by rw[e]);refine⟨_,_,(jk v layer),iW ?_ ?_⟩<;>intro g7
      ·rw[aap ⟨g6',g7⟩]at I;exact⟨_,_,(cF v bv),_,_,hsv,_,_,Wt,wO (by omega),(k+1,uo s (aB [aa v])),_,au.refl _ _,⟨I,or1,YK,by simp only;omega⟩,by simp only;omega,⟨Z,Z,Z,Z,Z,Z,Z,Z,Z,Z,Z,Z,Z,Z,Y⟩,⟨Z,Z,Y⟩⟩
      rw[aaa fun e=>by rw[e.2]at g7;cases g7]at I;exact⟨wO (by omega),(k+1,s),_,au.refl _ _,⟨I,W,z3,by simp only;omega⟩,by simp only;omega,⟨Z,Z,Z,Z,Z,Z,Z,Z,Z,Z,Z,Z,Z,Z,Y⟩,⟨Z,Z,Y⟩⟩
     rw[aaa fun e=>e.1 (by omega)]at I;exact⟨wO (by omega),(k+1,s),_,au.refl _ _,⟨I,W,z3,by simp only;omega⟩,by simp only;omega,⟨Z,Z,Z,Z,Z,Z,Z,Z,Z,Z,Z,Z,Z,Z,Y⟩,⟨Z,Z,Y⟩⟩
    rw[ab1 (show a.bores.length<=k by omega),dM]at I;subst I;refine xp 11 (y:=.ip [aw s]) (fz:=[(11,.jd [aw s])]) (by exact hC) (by exact⟨rfl,rfl⟩) ?_;refine qy ((au.SX (by exact hC) _ 15 0 125 [.ip [aw O],.ip [aw s]] [.fn 125 [.p (.ip [aw O]),.p (.ip [aw s])]] (by exact rfl) (by exact rfl)).trans (au.gD (by exact hC) _ 15 (y:=.ip [vO O s]) (fz:=[(15,.jd [vO O s])]) (by exact⟨rfl,rfl⟩))) ?_;refine⟨_,_,Si,iW ?_ ?_⟩<;>intro g8
    ·have e:L≠[]:=fun e=>by rw[e]at g8;simp at g8
     rw[aaa e]at D;exact⟨_,_,Oq,_,_,(xg L sla e),⟨fun r hr=>by simp at hr;subst hr;rfl,by simp only[aej,aaM,aan,acv,aaB,acs];omega,by simp only[aej,aaM,aan,acv,aaB,acs];omega⟩,wO (by omega),(m,layer+1,o'++[⟨3,i,layer,gr,r.ring,jq L⟩]),_,au.refl _ _,⟨by rw[<-D];simp only[abx,ac3,aaI,acZ],by simp only;omega,by simp only[acv,abS];omega,by simp only;omega,by simp only;omega⟩,by simp only;omega,⟨Z,Z,Z,Z,Z,Z,Z,Z,Z,Z,Y⟩,⟨by rw[abE];rfl,trivial⟩⟩
    have e:L=[]:=adN.1 (by omega);rw[aap e,acZ]at D;exact⟨wO (by omega),(m,layer+1,o'),_,au.refl _ _,⟨D,by simp only;omega,by simp only;omega,by simp only;omega,by simp only;omega⟩,by simp only;omega,⟨Z,Z,Z,Z,Z,Z,Z,Z,Z,Z,Y⟩,⟨Z,Y⟩⟩
   have e0:n=0:=by omega
   subst e0;rw[js,acZ]at D;exact⟨wO (by omega),(i+1,o'),_,au.refl _ _,⟨D,by simp only;omega,by simp only;omega⟩,by simp only;omega,⟨Z,Z,Z,Z,Z,Z,Y⟩,⟨Z,Y⟩⟩
  have e0:js r.ring a.bores a.coppers i x n layer=[]:=by
   cases n with
   | zero=>rfl
   | succ n=>rw[js,aaa fun e=>by rw[e.1]at g2;simp at g2]
  rw[e0,acZ]at D;exact⟨wO (by omega),(i+1,o'),_,au.refl _ _,⟨D,by simp only;omega,by simp only;omega⟩,by simp only;omega,⟨Z,Z,Z,Z,Z,Z,Y⟩,⟨Z,Y⟩⟩
 rw[ab1 (by omega),fG,acw]at x1;have x1:o=G:=x1;refine⟨?_,trivial⟩;rw[<-x1]
open Reg (Full RK fo)
def i_(r:cP)(a:fS):Int:=if bC r≠0 then bC r else dc a
def jz(r:cP)(a:fS)(l:List Break):List Break×Int:=if i_ r a=0 then mI l else ([],i_ r a)
theorem kd{r:cP}{a:fS}(h:i_ r a=0):bC r=0/\dc a=0:=by
 rw[i_]at h;split at h
 ·rename_i c;exact absurd h c
 rename_i c;exact⟨by simpa using c,h⟩
theorem ke(r:cP)(z:e8 r)(a:fS)(D:ly a):af C 49 [.pv (.ag (rl r)),.pv (.ag (dX a))] (.p (i64 (i_ r a))) []:=by
 refine fW hC Tryz.func49 rfl (by kernel_rfl) fun _=>?_;refine⟨_,_,(zc r z),iW ?_ ?_⟩<;>intro g
 ·refine⟨?_,trivial⟩;rw[i_,aap (by simpa using g)]
 refine⟨_,_,(AW a D),?_,trivial⟩;rw[i_,aaa (by simpa using g)]
theorem Of(g:Int)(bs:List aS)(cs:List (List ae))(i:Nat)(x:aS)(l:Int):lS g bs cs i x l=[]\/∃b,lS g bs cs i x l=[b]:=by
 rw[lS];split
 ·exact .inl rfl
 split
 ·exact .inl rfl
 exact .inr ⟨_,rfl⟩
theorem H6(r:cP)(I:e8 r)(a:fS)(ha:ly a):af C 15 [.pv (.ag (rl r)),.pv (.ag (dX a))] (.tu [.sl ((jz r a (fG r.ring a.bores a.coppers 0 a.bores)).1.map nQ),i64 (jz r a (fG r.ring a.bores a.coppers 0 a.bores)).2]) []:=by
 have aK:=ke r I a ha;have lb:=ai a.bores bc;refine fW hC Tryz.func15 rfl (by kernel_rfl) fun _=>?_;refine⟨_,_,aK,?_⟩;by_cases g:i_ r a=0
 ·obtain⟨h1,h2⟩:=kd g;have hg:=jU h1;have J:=(jW h2).art;have jB:=J.jB;have KH:=J.cop;rw[jz,aap g];obtain⟨G,U⟩:∃G,G=fG r.ring a.bores a.coppers 0 a.bores:=⟨_,rfl⟩;rw[<-U];apply iW<;>intro c
  ·exact absurd g (by simpa using c)
  refine aJ (fun x:Nat×List Break=>x.2++fG r.ring a.bores a.coppers x.1 (a.bores.drop x.1)=G/\x.2.length<=16*x.1/\x.1<=a.bores.length) (fun x=>[(2,.bx 2 0),(3,.bx 3 0),(7,.ow 7),(8,.p (i64 x.1))]) (fun x=>[(2,.box (C_ r)),(3,.box ((dX a).map .p)),(7,.row 47 (x.2.map nQ))]) (fun x=>a.bores.length-x.1) (0,[]) _ (au.dk (by exact hC) _ 7 47 _ (by decide) (by exact rfl) (by exact rfl) (by decide)) ⟨by rw[U];rfl,by simp,aaj _⟩ ⟨Z,Z,Z,Z,Y⟩ ⟨Z,Z,Z,Y⟩ fun ⟨i,o⟩ hx t h=>?_;obtain⟨x1,x2,x3⟩:=hx;simp only at x1 x2 x3;apply iW<;>intro g1<;>try simp only[zB]at g1
  ·obtain⟨x,z⟩:=ak (l:=a.bores) (i:=i) (by omega);have N:=J.bor x (aad z);have O:=N.lo;have xle:=N.le;have xhi:=N.hi;rw[drop_at z,fG]at x1;refine⟨(bc x),(idx rfl z),?_⟩;refine aJ (fun y:Nat×Nat×List Break=>y.2.2++(js r.ring a.bores a.coppers i x y.1 y.2.1++fG r.ring a.bores a.coppers (i+1) (a.bores.drop (i+1)))=G/\y.2.2.length+y.1<=16*i+16/\(y.1:Int)=x.hi+1-y.2.1) (fun y=>[(2,.bx 2 0),(3,.bx 3 0),(7,.ow 7),(8,.p (i64 i)),(9,.p (i64 y.2.1))]) (fun y=>[(2,.box (C_ r)),(3,.box ((dX a).map .p)),(7,.row 47 (y.2.2.map nQ))]) (fun y=>y.1) ((x.hi+1-x.lo).toNat,x.lo.toNat,o) _ (au.refl _ _) ⟨by simp only;rw[aee O];exact x1,by simp only;omega,by simp only;omega⟩ ⟨rfl,rfl,rfl,rfl,a8 (by simp only;omega),trivial⟩ ⟨Z,Z,Z,Y⟩ fun ⟨m,k,o'⟩ hy t h=>?_;obtain⟨y1,y2,y3⟩:=hy;simp only at y1 y2 y3;have V:=ai o' nQ;have tail:¬(x.plated=true/\(k:Int)<=x.hi)->o'++fG r.ring a.bores a.coppers (i+1) (a.bores.drop (i+1))=G:=fun c=>by
    have e:js r.ring a.bores a.coppers i x m k=[]:=by
     cases m with
     | zero=>rfl
     | succ m=>rw[js,aaa c]
    rw[e,acZ]at y1;exact y1
   refine⟨(bc x),(idx rfl z),iW ?_ ?_⟩<;>intro R<;>try simp only[zB]at R
   ·refine⟨(bc x),(idx rfl z),iW ?_ ?_⟩<;>intro W
    ·obtain⟨L,rfl⟩:∃L,m=L+1:=⟨m-1,by omega⟩;rw[js,aap ⟨W,R⟩]at y1;obtain⟨c,hc⟩:=ak (l:=a.coppers) (i:=k) (by omega);have D:=K4 r hg a J i x z k c hc;rcases Of r.ring a.bores a.coppers i x k with e | ⟨b,e⟩
     ·rw[e]at D y1;simp only[P3]at D;exact⟨_,_,D,⟨by (try dsimp only);omega,by (try dsimp only);omega⟩,(L,k+1,o'),_,au.refl _ _,⟨by simp only;rw[show (((k+1:Nat):Int))=(k:Int)+1 by omega];exact y1,by simp only;omega,by simp only;omega⟩,by simp only;omega,⟨Z,Z,Z,Z,Z,Y⟩,⟨Z,Z,Z,Y⟩⟩
     rw[e]at D y1;simp only[P3]at D;exact⟨_,_,D,⟨fun r I=>by simp at I;subst I;rfl,by simp only[V,List.length_cons,List.length_nil,List.length_set,List.length_replicate];omega,by simp only[V,List.length_cons,List.length_nil,List.length_set,List.length_replicate];omega⟩,⟨by (try dsimp only);omega,by (try dsimp only);omega⟩,(L,k+1,o'++[b]),_,au.refl _ _,⟨by simp only;rw[show (((k+1:Nat):Int))=(k:Int)+1 by omega,<-y1];simp only[List.append_assoc,List.singleton_append,List.cons_append,List.nil_append],by simp only[List.length_append,List.length_singleton];omega,by simp only;omega⟩,by simp only;omega,⟨Z,Z,Z,Z,Z,Y⟩,⟨rfl,rfl,S8 _ o' b,trivial⟩⟩
    have e:=tail (fun c=>by rw[W]at c;exact absurd c.1 (by decide));exact⟨⟨by (try dsimp only);omega,by (try dsimp only);omega⟩,(i+1,o'),_,au.refl _ _,⟨e,by simp only;omega,by simp only;omega⟩,by simp only;omega,⟨Z,Z,Z,Z,Y⟩,⟨Z,Z,Z,Y⟩⟩
   have e:=tail (fun c=>R c.2);exact⟨⟨by (try dsimp only);omega,by (try dsimp only);omega⟩,(i+1,o'),_,au.refl _ _,⟨e,by simp only;omega,by simp only;omega⟩,by simp only;omega,⟨Z,Z,Z,Z,Y⟩,⟨Z,Z,Z,Y⟩⟩
  rw[ab1 (by omega),fG,acw]at x1;have x1:G=o:=x1.symm;subst x1;refine⟨_,_,(pK G),?_,trivial⟩;rfl
 rw[jz,aaa g];apply iW<;>intro c
 ·refine⟨?_,trivial⟩;rfl
 exact absurd (by simpa using c) g
open Reg (bh zx dR s6 bare gA P6 ofG)
def rbp(a:fS):PV:=.ip (Lo a (aC a).pieces (aC a).placed.groups (aC a).bB)
theorem agU{bs:List aS}{ps:List Piece}:∀(l:List fo) {m:Nat} {z:List bh},Qa m z->Qa (m+l.length) (l.foldl (s6 bs ps) z)
 | [],m,z,h=>h
 | x::l,m,z,h=>by
  have:=agU (bs:=bs) (ps:=ps) l (Qb (bs:=bs) (ps:=ps) h x);rw[aaq];exact⟨this.jB,fun g D=>by have:=this.len g D;simp only[aaB];omega⟩
theorem agd{bs:List aS}{ps:List Piece}:∀(l:List fo) (z:List bh),(l.foldl (s6 bs ps) z).map bare=z.map bare
 | [],z=>rfl
 | x::l,z=>by
  rw[aaq,agd l];rw[s6];split
  ·exact Reg.N_
  rfl
structure RGs(a:fS):Prop where
 ok:Qa a.lands.length (aC a).placed.groups
 Lf:∀g∈(aC a).placed.groups,∀p∈g.pieces,0<=p/\p.toNat<(aC a).pieces.length
 of:ofG 0 (aC a).placed.groups (List.replicate (aC a).pieces.length 0)=(aC a).ofPiece
theorem ahk{a:fS}(D:Ft a):RGs a:=by
 have jB:=D.jB;have Td:=D.art.jB;have N:=Reg.s7 a.bores (aC a).pieces;have I:=Reg.aeO a.bores (aC a).pieces;have V:∀r∈a.coppers,∀q∈r,Full q:=fun r W=>(ph (D.art.reg r W)).full;have J:=Reg.DB (jv D.art) V;have hb:=agd (bs:=a.bores) (ps:=(aC a).pieces) a.lands (dR a.bores (aC a).bB (aC a).pieces.length);have Y:∀j,∀p∈(Reg.bB a.bores (aC a).pieces).getD j [],0<=p/\p<(aC a).pieces.length:=fun j p hp=>by
  rw[ad4]at hp;cases e:(Reg.bB a.bores (aC a).pieces)[j]? with
  | none=>rw[e]at hp;cases hp
  | some x=>rw[e]at hp;exact N x (aad e) p hp
 have Z:Qa 0 (dR a.bores (aC a).bB (aC a).pieces.length):=by
  obtain⟨_,f2,f3⟩:=Reg.se (T:=Reg.bB a.bores (aC a).pieces) (n:=(aC a).pieces.length) (by omega) (by omega) Y _ (aam _);have O:=sf a.bores (Reg.bB a.bores (aC a).pieces) f2 f3 (Reg.bB a.bores (aC a).pieces).length;exact⟨aaF O.1 (by rw[I];omega),fun g J=>by obtain⟨b1,b2,b3⟩:=O.2 g J;exact⟨b2,b3,by rw[b1];simp⟩⟩
 have z:=agU (bs:=a.bores) (ps:=(aC a).pieces) a.lands Z;rw[J]at z hb;rw[abC]at z;refine⟨z,fun g V_ p hp=>?_,Reg.ahj _ hb⟩;obtain⟨k,hk⟩:=ab8.1 V_;have R:=adV (·[k]?) hb;simp only[aak,hk]at R;obtain⟨q,U,L⟩:=acq.1 R.symm;injection L with L q3;have e2:=Reg.uM I N fun j hj h=>Reg.uT hj h;have e2:dR a.bores (aC a).bB (aC a).pieces.length=_:=e2;rw[e2]at U;obtain⟨i,i1,i2,_⟩:=(D.gr.c k q U).2 p (by rw[L];exact hp);omega
theorem oq(i:Int):∀(l:List Int) (o:List Int),(l.foldl (fun o p=>o.set p.toNat i) o).length=o.length
 | [],o=>rfl
 | p::l,o=>by rw[aaq,oq i l,aaM]
theorem afP(a:fS)(N:Ft a):af C 43 [.pv (rbp a)] (.p (ints (aC a).ofPiece)) []:=by
 obtain⟨z,Lf,J⟩:=ahk N;have jB:=N.jB;unfold rbp;rw[<-J];generalize (aC a).placed.groups=G at *;generalize (aC a).bB=T at *;generalize (aC a).pieces=ps at *;have lp:(eB ps).length=ps.length:=aej ..;have O:=ai G sT;have fg:=z.jB;obtain⟨R,U⟩:∃R,R=ofG 0 G (List.replicate ps.length 0):=⟨_,rfl⟩;rw[<-U];refine fW hC Tryz.func43 rfl (by kernel_rfl) fun _=>?_;refine⟨⟨by omega,by omega,by dsimp only;omega,by omega⟩,?_⟩;have h0:List.replicate (eB ps).length [i64 0]=aA (List.replicate ps.length 0):=by rw[aA,lp];simp
 refine aJ (fun x:Nat×List Int=>ofG x.1 (G.drop x.1) x.2=R/\x.2.length=ps.length) (fun x=>[(0,.p (.ip (Lo a ps G T))),(3,.ow 3),(4,.p (i64 x.1))]) (fun x=>[(3,.row 3 (aA x.2))]) (fun x=>G.length-x.1) (0,List.replicate ps.length 0) _ (au.refl _ _) ⟨U.symm,aan⟩ ⟨Z,Z,Z,Y⟩ ⟨adV (AB.row _) h0,trivial⟩ fun ⟨i,o⟩ hx t h=>?_;obtain⟨x1,V⟩:=hx;dsimp only at x1 V;apply iW<;>intro W
 ·rw[O]at W;obtain⟨g,D⟩:=ak (l:=G) (i:=i) (by omega);have gl:=z.len g (aad D);have gi:=Lf g (aad D);have I:=ai g.pieces fun n=>[i64 n];rw[drop_at D,ofG]at x1;refine aJ (fun y:Nat×List Int=>(g.pieces.drop y.1).foldl (fun o p=>o.set p.toNat (i:Int)) y.2=g.pieces.foldl (fun o p=>o.set p.toNat (i:Int)) o/\y.2.length=ps.length) (fun y=>[(0,.p (.ip (Lo a ps G T))),(3,.ow 3),(4,.p (i64 i)),(5,.p (i64 y.1))]) (fun y=>[(3,.row 3 (aA y.2))]) (fun y=>g.pieces.length-y.1) (0,o) _ (au.refl _ _) ⟨rfl,V⟩ ⟨Z,Z,Z,Z,Y⟩ ⟨Z,Y⟩ fun ⟨k,u⟩ hy t h=>?_;obtain⟨y1,L⟩:=hy;dsimp only at y1 L;have lu:(aA u).length=u.length:=bQ u;refine⟨(sT g),(idx rfl D),iW ?_ ?_⟩<;>intro g2
  ·rw[I]at g2;obtain⟨p,hp⟩:=ak (l:=g.pieces) (i:=k) (by omega);have O9:=gi p (aad hp);rw[drop_at hp,aaq]at y1;refine⟨(sT g),(idx rfl D),[i64 p],(idx rfl hp),⟨by omega,by dsimp only;omega⟩,?_⟩;obtain⟨v,hv⟩:=ak (l:=u) (i:=p.toNat) (by omega);exact⟨[i64 v],(K8 (by omega) hv),wO (by omega),(k+1,u.set p.toNat i),_,au.refl _ _,⟨y1,by dsimp only;rw[List.length_set];exact L⟩,by dsimp only;omega,⟨Z,Z,Z,Z,Y⟩,⟨congrArg (AB.row _) (fV _ _ _),trivial⟩⟩
  rw[I]at g2;rw[ab1 (by omega)]at y1;have y1:u=_:=y1;exact⟨wO (by omega),(i+1,u),_,au.refl _ _,⟨by rw[y1];exact x1,L⟩,by dsimp only;omega,⟨Z,Z,Z,Y⟩,⟨Z,Y⟩⟩
 rw[O]at W;rw[ab1 (by omega),ofG]at x1;refine⟨?_,trivial⟩;rw[x1];rfl
def afr(r:cP)(a:fS)(nets:List ByteArray):PV:=if aeJ r a nets=0 then rbp a else .im (.pointer none)
theorem age(r:cP)(R:e8 r)(a:fS)(U:ly a)(nets:List ByteArray)(J:afj nets):af C 62 [.pv (.ag (rl r)),.pv (.ag (dX a)),.pv (strs nets)] (.tu [afr r a nets,i64 (aeJ r a nets)]) []:=by
 have L:=ai nets fun s=>[str s];have lg:=ai (aC a).placed.groups sT;have hn1:=J.len;obtain⟨F,z⟩:∃F,F=aeJ r a nets:=⟨_,rfl⟩;have V:afr r a nets=if F=0 then rbp a else .im (.pointer none):=by rw[z];rfl
 rw[V,<-z];rw[aeJ]at z;refine fW hC Tryz.func62 rfl (by kernel_rfl) fun _=>?_;refine⟨_,_,(zc r R),iW ?_ ?_⟩<;>intro D
 ·have D:bC r≠0:=by simpa using D
  rw[aap D]at z;refine⟨?_,trivial⟩;rw[z,aaa D]
 have D:bC r=0:=by simpa using D
 rw[aaa (by simpa using D)]at z;refine⟨_,_,(AW a U),iW ?_ ?_⟩<;>intro g
 ·have g:dc a≠0:=by simpa using g
  rw[aap g]at z;refine⟨?_,trivial⟩;rw[z,aaa g]
 have g:dc a=0:=by simpa using g
 rw[aaa (by simpa using g)]at z;have gd:=jW g;refine⟨_,_,(DE a g),iW ?_ ?_⟩<;>intro g2
 ·rw[aap (by omega)]at z;refine⟨?_,trivial⟩;rw[z];rfl
 rw[aaa (by omega)]at z;refine aJ (fun i:Nat=>(nets.drop i).any (fun s=>!afe s)=nets.any (fun s=>!afe s)) (fun i=>[(2,.p (strs nets)),(10,.p (rbp a)),(11,.p (i64 i))]) (fun _=>[]) (fun i=>nets.length-i) 0 _ (au.refl _ _) rfl ⟨Z,Z,Z,Y⟩ trivial fun i hi t h=>?_;apply iW<;>intro N
 ·rw[L]at N;obtain⟨s,I⟩:=ak (l:=nets) (i:=i) (by omega);rw[drop_at I,abd]at hi;refine⟨[str s],(idx rfl I),_,_,(agq s (J.str s (aad I))),iW ?_ ?_⟩<;>intro O
  ·rw[O]at hi;have hi:nets.any (fun s=>!afe s)=true:=hi.symm;rw[aap hi]at z;refine⟨?_,trivial⟩;rw[z];rfl
  rw[O]at hi;exact⟨wO (by omega),(i+1),_,au.refl _ _,hi,by omega,⟨Z,Z,Z,Y⟩,trivial⟩
 rw[L]at N;rw[ab1 (by omega)]at hi;have hi:nets.any (fun s=>!afe s)=false:=hi.symm;rw[aaa (by rw[hi];decide)]at z;refine⟨?_,trivial⟩;rw[z];rfl
open Reg (bG ag1)
def agb(r:cP)(a:fS)(nets:List ByteArray)(l:List Break):List Break×Int:=if aeJ r a nets=0 then mI l else ([],aeJ r a nets)
theorem afQ{r:cP}{a:fS}{nets:List ByteArray}(g:aeJ r a nets=0):zd r/\Ft a/\nets.length=(aC a).placed.groups.length:=by
 rw[aeJ]at g;by_cases z:bC r≠0
 ·rw[aap z]at g;exact absurd g z
 rw[aaa z]at g;by_cases D:dc a≠0
 ·rw[aap D]at g;exact absurd g D
 rw[aaa D]at g;by_cases I:nets.length≠(aC a).placed.groups.length
 ·rw[aap I]at g;cases g
 exact⟨jU (by simpa using z),jW (by simpa using D),by simpa using I⟩
theorem afR{bs:List aS}:∀(l:List (List ae)) (k:Int),(bG bs k l).Pairwise fun p q=>p.layer<=q.layer
 | [],k=>.nil
 | r::l,k=>by
  rw[bG,abZ];refine⟨?_,afR l (k+1),fun p hp q z=>?_⟩
  ·rw[abe];exact List.pairwise_of_forall fun _ _=>acP _
  obtain⟨s,_,rfl⟩:=adS.1 hp;obtain⟨i,r,_,h2,_⟩:=Reg.mH z;show k<=q.layer;omega
def aeU(r:cP)(B:BR)(nets:List ByteArray)(i:Nat)(p:Piece):Nat->List Piece->List Break
 | _,[]=>[]
 | k,q::t=>(if q.layer=p.layer then aff r B nets i k p q else [])++aeU r B nets i p (k+1) t
theorem afn{r:cP}{B:BR}{nets:List ByteArray}{i:Nat}{p:Piece}:∀(t:List Piece) (k:Nat),(∀q∈t,p.layer<q.layer)->aeU r B nets i p k t=[]
 | [],k,_=>rfl
 | q::t,k,h=>by
  have:=h q adU;rw[aeU,aaa (by omega),afn t (k+1) fun x z=>h x (aaw _ z)];rfl
theorem afG{r:cP}{B:BR}{nets:List ByteArray}{i:Nat}{p:Piece}:∀(t:List Piece) (k:Nat),(p::t).Pairwise (fun p q=>p.layer<=q.layer)->aeU r B nets i p k t=aeX r B nets i p k t
 | [],k,_=>rfl
 | q::t,k,h=>by
  obtain⟨D,I⟩:=ade.1 h;obtain⟨J,L⟩:=ade.1 I;have hq:=D q adU;rw[aeU,aeX];by_cases c:q.layer=p.layer
  ·rw[aap c,aap c,afG t (k+1) (ade.2 ⟨fun x z=>D x (aaw _ z),L⟩)]
  rw[aaa c,aaa c,afn t (k+1) fun x z=>by have:=J x z;omega];rfl
theorem ahI{a:fS}{p:Piece}(g:VD a p):(∀r∈told p.set,P4 2000000 r)/\told p.set≠[]/\(∀r∈told p.set,Full r):=⟨fun r hr=>by
  obtain⟨a1,a2,a3,a4⟩:=Reg.Q8 (Reg.bP g.sok r hr) (Reg.fR g.sok g.ink r hr);exact⟨⟨by omega,by omega⟩,⟨by omega,by omega⟩,⟨by omega,by omega⟩,⟨by omega,by omega⟩⟩,Reg.PZ g.sok g.ne,Reg.bP g.sok⟩
theorem aht{a:fS}{p q:Piece}(z:VD a p)(D:VD a q):af C 44 [.pv (aj (told p.set)),.pv (aj (told q.set))] (.p (.ag (gc (afd (told p.set) (told q.set))))) []:=by
 obtain⟨L,I,N⟩:=ahI z;obtain⟨O,J,R⟩:=ahI D;rw[<-Reg.ahq I J N R];exact ag4 _ _ I J L O (by have:=z.jB;omega) (by have:=D.jB;omega)
theorem agO(r:cP)(I:e8 r)(a:fS)(ha:ly a)(nets:List ByteArray)(J:afj nets):af C 26 [.pv (.ag (rl r)),.pv (.ag (dX a)),.pv (strs nets)] (.tu [.sl ((agb r a nets (aeE r (aC a) nets 0 (aC a).pieces)).1.map nQ),i64 (agb r a nets (aeE r (aC a) nets 0 (aC a).pieces)).2]) []:=by
 have L:=age r I a ha nets J;refine fW hC Tryz.func26 rfl (by kernel_rfl) fun _=>?_;by_cases g:aeJ r a nets=0
 ·obtain⟨hg,z,J⟩:=afQ g;have jB:=z.jB;have R:(aC a).pieces.Pairwise fun p q=>p.layer<=q.layer:=afR _ _;have lr:(eB (aC a).pieces).length=(aC a).pieces.length:=aej ..;rw[afr,aap g,g]at L;rw[agb,aap g];obtain⟨G,hG⟩:∃G,G=aeE r (aC a) nets 0 (aC a).pieces:=⟨_,rfl⟩;rw[<-hG];refine⟨_,_,L,_,_,(afP a z),?_⟩;refine aJ (fun x:Nat×List Break=>x.2++aeE r (aC a) nets x.1 ((aC a).pieces.drop x.1)=G/\x.2.length<=2000*x.1/\x.1<=(aC a).pieces.length) (fun x=>[(2,.p (strs nets)),(3,.bx 3 0),(8,.p (rbp a)),(10,.p (ints (aC a).ofPiece)),(11,.ow 11),(12,.p (i64 x.1))]) (fun x=>[(3,.box (C_ r)),(11,.row 47 (x.2.map nQ))]) (fun x=>(aC a).pieces.length-x.1) (0,[]) _ (au.dk (by exact hC) _ 11 47 _ (by decide) (by exact rfl) (by exact rfl) (by decide)) ⟨by rw[hG];rfl,by simp,aaj _⟩ ⟨Z,Z,Z,Z,Z,Z,Y⟩ ⟨Z,Z,Y⟩ fun ⟨i,o⟩ hx t h=>?_;obtain⟨x1,x2,x3⟩:=hx;dsimp only at x1 x2 x3;apply iW<;>intro g1
  ·obtain⟨p,hp⟩:=ak (l:=(aC a).pieces) (i:=i) (by omega);have gp:=z.pc p (aad hp);obtain⟨gi,U,i1,i2,i3,i4⟩:=afM z J (i:=i) (by omega);have D:=R.sublist (List.drop_sublist i _);rw[drop_at hp]at D;rw[drop_at hp,aeE,<-afG _ _ D]at x1;refine⟨wO (by omega),?_⟩;refine aJ (fun y:Nat×List Break=>y.2++(aeU r (aC a) nets i p y.1 ((aC a).pieces.drop y.1)++aeE r (aC a) nets (i+1) ((aC a).pieces.drop (i+1)))=G/\y.2.length<=2000*i+y.1/\y.1<=(aC a).pieces.length) (fun y=>[(2,.p (strs nets)),(3,.bx 3 0),(8,.p (rbp a)),(10,.p (ints (aC a).ofPiece)),(11,.ow 11),(12,.p (i64 i)),(13,.p (i64 y.1))]) (fun y=>[(3,.box (C_ r)),(11,.row 47 (y.2.map nQ))]) (fun y=>(aC a).pieces.length-y.1) (i+1,o) _ (au.refl _ _) ⟨x1,by dsimp only;omega,by dsimp only;omega⟩ ⟨Z,Z,Z,Z,Z,Z,Z,Y⟩ ⟨Z,Z,Y⟩ fun ⟨k,o'⟩ hy t h=>?_;obtain⟨y1,y2,y3⟩:=hy;dsimp only at y1 y2 y3;apply iW<;>intro g2
   ·obtain⟨q,N⟩:=ak (l:=(aC a).pieces) (i:=k) (by omega);have gq:=z.pc q (aad N);obtain⟨gk,V,k1,k2,k3,k4⟩:=afM z J (i:=k) (by omega);rw[drop_at N,aeU]at y1;refine⟨[i64 p.layer],(idx rfl hp),[i64 q.layer],(idx rfl N),iW ?_ ?_⟩<;>intro O
    ·rw[aaa (fun c=>O c.symm),acZ]at y1;exact⟨wO (by omega),(k+1,o'),_,au.refl _ _,⟨y1,by dsimp only;omega,by dsimp only;omega⟩,by dsimp only;omega,⟨Z,Z,Z,Z,Z,Z,Z,Y⟩,⟨Z,Z,Y⟩⟩
    have O:p.layer=q.layer:=by simpa using O
    rw[aap O.symm,aff,i2,k2,i4,k4]at y1;refine⟨[i64 gi],(idx rfl i1),[i64 gk],(idx rfl k1),iW ?_ ?_⟩<;>intro g4
    ·rw[aap g4,acZ]at y1;exact⟨wO (by omega),(k+1,o'),_,au.refl _ _,⟨y1,by dsimp only;omega,by dsimp only;omega⟩,by dsimp only;omega,⟨Z,Z,Z,Z,Z,Z,Z,Y⟩,⟨Z,Z,Y⟩⟩
    rw[aaa g4]at y1;have W:=aht gp gq;generalize afd (told p.set) (told q.set)=Q0 at *;have b8:=agN r hg U V p.layer Q0.src.1 Q0.src.2;generalize aeZ r U V p.layer Q0.src.1 Q0.src.2=need at *;refine⟨[aj (told p.set)],(idx rfl hp),[aj (told q.set)],(idx rfl N),_,_,W,[i64 gi],(idx rfl i1),[str U],(idx rfl i3),[i64 gk],(idx rfl k1),[str V],(idx rfl k3),[i64 p.layer],(idx rfl hp),_,_,b8,iW ?_ ?_⟩<;>intro g5
    ·rw[aap g5]at y1;exact⟨⟨fun r I=>by simp at I;subst I;rfl,by simp only[List.length_map,List.length_set,List.length_replicate,List.length_append,List.length_cons,List.length_nil];omega,by simp only[List.length_map,List.length_set,List.length_replicate,List.length_append,List.length_cons,List.length_nil];omega⟩,wO (by omega),(k+1,o'++[⟨1,i,k,Q0.dist,need,Q0.src⟩]),_,au.refl _ _,⟨by rw[<-y1];simp only[List.append_assoc,List.singleton_append,List.cons_append,List.nil_append],by simp only[List.length_append,List.length_singleton];omega,by dsimp only;omega⟩,by dsimp only;omega,⟨Z,Z,Z,Z,Z,Z,Z,Y⟩,⟨rfl,by rw[List.map_append];rfl,trivial⟩⟩
    rw[aaa g5,acZ]at y1;exact⟨wO (by omega),(k+1,o'),_,au.refl _ _,⟨y1,by dsimp only;omega,by dsimp only;omega⟩,by dsimp only;omega,⟨Z,Z,Z,Z,Z,Z,Z,Y⟩,⟨Z,Z,Y⟩⟩
   have e:k=(aC a).pieces.length:=by omega
   rw[e,List.drop_length,aeU,acZ]at y1;exact⟨wO (by omega),(i+1,o'),_,au.refl _ _,⟨y1,by dsimp only;omega,by dsimp only;omega⟩,by dsimp only;omega,⟨Z,Z,Z,Z,Z,Z,Y⟩,⟨Z,Z,Y⟩⟩
  rw[ab1 (by omega),aeE,acw]at x1;have x1:G=o:=x1.symm;subst x1;refine⟨_,_,(pK G),?_,trivial⟩;rfl
 rw[afr,aaa g]at L;rw[agb,aaa g];refine⟨_,_,L,iW ?_ ?_⟩<;>intro c
 ·refine⟨?_,trivial⟩;rfl
 exact absurd (by simpa using c) g
theorem agD(s:List an)(N:bE s)(ks:cv 1000000 s)(W:(told s).length<=1000000)(z:Int)(h0:0<=z)(h1:z<=100000):af C 73 [.pv (aj (told s)),.pv (i64 z)] (.p (i64 (gn (fun n=>decide (E1 s n=[])) z.toNat 0 z))) []:=by
 obtain⟨H,O⟩:∃H:Int->Bool,H=fun n=>decide (E1 s n=[]):=⟨_,rfl⟩;rw[<-O];obtain⟨R,U⟩:∃R,R=gn H z.toNat 0 z:=⟨_,rfl⟩;rw[<-U];refine fW hC Tryz.func73 rfl (by kernel_rfl) fun _=>?_;refine aJ (fun x:Nat×Int×Int=>gn H x.1 x.2.1 x.2.2=R/\(x.2.2-x.2.1).toNat<=x.1/\0<=x.2.1/\x.2.1<=x.2.2/\x.2.2<=z) (fun x=>[(0,.p (aj (told s))),(5,.p (i64 x.2.1)),(6,.p (i64 x.2.2))]) (fun _=>[]) (fun x=>x.1) (z.toNat,0,z) _ (au.refl _ _) ⟨U.symm,by dsimp only;omega,by dsimp only;omega,by dsimp only;omega,by dsimp only;omega⟩ ⟨Z,Z,Z,Y⟩ trivial fun ⟨n,low,high⟩ hx t h=>?_;obtain⟨x1,V,x3,x4,x5⟩:=hx;dsimp only at x1 V x3 x4 x5;apply iW<;>intro g<;>try simp only[zB]at g
 ·have hf:=pA (d:=high-low) (by omega);have hm:=NQ (low:=low) (high:=high) (by omega) g;rw[nB H g V,<-hm]at x1;obtain⟨m,I⟩:∃m,m=(low+high+1).tdiv 2:=⟨_,rfl⟩;have m0:0<=m:=by omega
  have m1:m<=100000:=by omega
  have D:=afN s N ks W m m0 m1;have J:=told_none (Reg.aeS N m).1;have L:=ai (told (E1 s m)) rc;have hk:H m=decide (E1 s m=[]):=by rw[O]
  rw[I]at D J L hk;refine⟨⟨by (try dsimp only);omega,by (try dsimp only);omega⟩,⟨by (try dsimp only);omega,by (try dsimp only);omega⟩,by decide,⟨by (try dsimp only);omega,by (try dsimp only);omega⟩,_,_,D,iW ?_ ?_⟩<;>intro k
  ·rw[aap (by rw[hk];exact acd (J.1 (by omega)))]at x1;exact⟨(n-1,(low+high+1).tdiv 2,high),_,au.refl _ _,⟨x1,by dsimp only;omega,by dsimp only;omega,by dsimp only;omega,by dsimp only;omega⟩,by dsimp only;omega,⟨Z,Z,Z,Y⟩,trivial⟩
  rw[aaa (by rw[hk];simpa using fun c=>k (by have:=J.2 c;omega))]at x1;exact⟨⟨by (try dsimp only);omega,by (try dsimp only);omega⟩,(n-1,low,(low+high+1).tdiv 2-1),_,au.refl _ _,⟨x1,by dsimp only;omega,by dsimp only;omega,by dsimp only;omega,by dsimp only;omega⟩,by dsimp only;omega,⟨Z,Z,Z,Y⟩,trivial⟩
 rw[pB H g]at x1;refine⟨?_,trivial⟩;rw[x1]
theorem agE(r:cP)(J:e8 r)(a:fS)(ha:ly a)(nets:List ByteArray)(O:afj nets):af C 28 [.pv (.ag (rl r)),.pv (.ag (dX a)),.pv (strs nets)] (.tu [.sl ((agb r a nets (aew r (aC a) nets 0 (aC a).pieces)).1.map nQ),i64 (agb r a nets (aew r (aC a) nets 0 (aC a).pieces)).2]) []:=by
 have L:=age r J a ha nets O;refine fW hC Tryz.func28 rfl (by kernel_rfl) fun _=>?_;by_cases g:aeJ r a nets=0
 ·obtain⟨V,N,O⟩:=afQ g;have jB:=N.jB;have lr:(eB (aC a).pieces).length=(aC a).pieces.length:=aej ..;rw[afr,aap g,g]at L;rw[agb,aap g];obtain⟨G,W⟩:∃G,G=aew r (aC a) nets 0 (aC a).pieces:=⟨_,rfl⟩;rw[<-W];refine⟨_,_,L,_,_,(afP a N),?_⟩;refine aJ (fun x:Nat×List Break=>x.2++aew r (aC a) nets x.1 ((aC a).pieces.drop x.1)=G/\x.2.length<=x.1/\x.1<=(aC a).pieces.length) (fun x=>[(2,.p (strs nets)),(3,.bx 3 0),(8,.p (rbp a)),(10,.p (ints (aC a).ofPiece)),(11,.ow 11),(12,.p (i64 x.1))]) (fun x=>[(3,.box (C_ r)),(11,.row 47 (x.2.map nQ))]) (fun x=>(aC a).pieces.length-x.1) (0,[]) _ (au.dk (by exact hC) _ 11 47 _ (by decide) (by exact rfl) (by exact rfl) (by decide)) ⟨by rw[W];rfl,by simp,aaj _⟩ ⟨Z,Z,Z,Z,Z,Z,Y⟩ ⟨Z,Z,Y⟩ fun ⟨i,o⟩ hx t h=>?_;obtain⟨x1,x2,x3⟩:=hx;dsimp only at x1 x2 x3;have lo:=ai o nQ;apply iW<;>intro g1
  ·obtain⟨p,hp⟩:=ak (l:=(aC a).pieces) (i:=i) (by omega);have D:=N.pc p (aad hp);have gpf:=D.jB;obtain⟨gi,z,i1,i2,i3,i4⟩:=afM N O (i:=i) (by omega);have I:=agx V z;rw[drop_at hp,aew,afq,i2,i4]at x1;have R:=afN p.set D.sok D.ink (by omega) (E3 r z) I.1 I.2;have U:=agD p.set D.sok D.ink (by omega) (E3 r z) I.1 I.2;have IM:=(Reg.aeS D.sok (E3 r z)).1;have lz:=told_none IM;refine⟨[i64 gi],(idx rfl i1),[str z],(idx rfl i3),_,_,(agp r V z),[aj (told p.set)],(idx rfl hp),_,_,R,?_⟩;have lT:=ai (told (E1 p.set (E3 r z))) rc;apply iW<;>intro g2
   ·have e:E1 p.set (E3 r z)≠[]:=fun e=>by have:=lz.2 e;omega
    rw[aaa e,<-ag3 D.sok I.1 e]at x1;obtain⟨m0,mt,em,Ta⟩:=zT IM e;have h0:(told (E1 p.set (E3 r z)))[0]?=some m0:=by rw[em];rfl
    exact⟨[aj (told p.set)],(idx rfl hp),_,_,U,_,_,(uK (told (E1 p.set (E3 r z))) m0 h0),⟨fun r J=>by simp at J;subst J;rfl,by simp only[lo,List.length_cons,List.length_nil,List.length_set,List.length_replicate];omega,by simp only[lo,List.length_cons,List.length_nil,List.length_set,List.length_replicate];omega⟩,wO (by omega),(i+1,o++[⟨2,i,0,gn (fun n=>decide (E1 p.set n=[])) (E3 r z).toNat 0 (E3 r z),E3 r z,jq (E1 p.set (E3 r z))⟩]),_,au.refl _ _,⟨by rw[<-x1];simp only[List.append_assoc,List.singleton_append,List.cons_append,List.nil_append],by simp only[List.length_append,List.length_singleton];omega,by dsimp only;omega⟩,by dsimp only;omega,⟨Z,Z,Z,Z,Z,Z,Y⟩,⟨rfl,by rw[List.map_append,<-Ta];rfl,trivial⟩⟩
   have e:E1 p.set (E3 r z)=[]:=lz.1 (by omega);rw[aap e,acZ]at x1;exact⟨wO (by omega),(i+1,o),_,au.refl _ _,⟨x1,by dsimp only;omega,by dsimp only;omega⟩,by dsimp only;omega,⟨Z,Z,Z,Z,Z,Z,Y⟩,⟨Z,Z,Y⟩⟩
  rw[ab1 (by omega),aew,acw]at x1;have x1:G=o:=x1.symm;subst x1;refine⟨_,_,(pK G),?_,trivial⟩;rfl
 rw[afr,aaa g]at L;rw[agb,aaa g];refine⟨_,_,L,iW ?_ ?_⟩<;>intro c
 ·refine⟨?_,trivial⟩;rfl
 exact absurd (by simpa using c) g
theorem H7(r:cP)(J:e8 r)(a:fS)(ha:ly a):af C 18 [.pv (.ag (rl r)),.pv (.ag (dX a))] (.tu [.sl ((jz r a (gQ r.edge (aB a.outline) 0 (aC a).pieces)).1.map nQ),i64 (jz r a (gQ r.edge (aB a.outline) 0 (aC a).pieces)).2]) []:=by
 have aK:=ke r J a ha;refine uX ⟨[],[],[],[12],[],[]⟩ hC Tryz.func18 rfl (by kernel_rfl) fun _=>?_;refine⟨_,_,aK,?_⟩;by_cases g:i_ r a=0
 ·obtain⟨h1,R⟩:=kd g;have hg:=jU h1;have bd:=jW R;have HY:=hg.nums;simp only[gM,cL,aaZ,aaH]at HY;have jB:=bd.jB;have lp:(eB (aC a).pieces).length=(aC a).pieces.length:=aej ..;have z:=ph bd.art.out;have L:=nF bd.art.out;have I:=xc _ z.sok z.ink (by rw[L];have:=z.len;omega) r.edge (by omega) (by omega);rw[L]at I;have B_:=DE a R;obtain⟨N,U⟩:=Jn z.sok z.ink (n:=r.edge) (by omega);have cl:=Reg.vQ (K:=1000000) N U;rw[jz,aap g];obtain⟨G,V⟩:∃G,G=gQ r.edge (aB a.outline) 0 (aC a).pieces:=⟨_,rfl⟩;rw[<-V];apply iW<;>intro c
  ·exact absurd g (by simpa using c)
  refine⟨_,_,B_,_,_,I,?_⟩;refine aJ (fun x:Nat×List Break=>x.2++gQ r.edge (aB a.outline) x.1 ((aC a).pieces.drop x.1)=G/\x.2.length<=x.1/\x.1<=(aC a).pieces.length) (fun x=>[(2,.bx 2 0),(3,.bx 3 0),(7,.p (.ip (Lo a (aC a).pieces (aC a).placed.groups (aC a).bB))),(8,.p (aj (told (coreS (aB a.outline) r.edge r.edge r.edge r.edge)))),(9,.ow 9),(10,.p (i64 x.1))]) (fun x=>[(2,.box (C_ r)),(3,.box ((dX a).map .p)),(9,.row 47 (x.2.map nQ))]) (fun x=>(aC a).pieces.length-x.1) (0,[]) _ (au.dk (by exact hC) _ 9 47 _ (by decide) (by exact rfl) (by exact rfl) (by decide)) ⟨by rw[V];rfl,by simp,aaj _⟩ ⟨Z,Z,Z,Z,Z,Z,Y⟩ ⟨Z,Z,Z,Y⟩ fun ⟨i,o⟩ hx t h=>?_;obtain⟨x1,x2,x3⟩:=hx;simp only at x1 x2 x3;have lo:=ai o nQ;apply iW<;>intro g1<;>try simp only[zB]at g1
  ·obtain⟨p,hp⟩:=ak (l:=(aC a).pieces) (i:=i) (by omega);have D:=bd.pc p (aad hp);have pf:=D.jB;rw[drop_at hp,gQ,Dm]at x1;have O:=mL D.sok N (D.ink.up (by omega)) (U.up (by omega)) (by omega);have W:=(Reg.b6 D.sok N).1;have lz:=told_none W;have Z6:=Dz _ p.set z.sok z.ink (by rw[L];have:=z.len;omega) D.sok D.ink (by omega) r.edge (by omega) (by omega);rw[L]at Z6;generalize dL (fun n=>decide (bN p.set (coreS (aB a.outline) n n n n)=[])) r.edge=gr at *;generalize bN p.set (coreS (aB a.outline) r.edge r.edge r.edge r.edge)=T at *;have lT:=ai (told T) rc;refine⟨[aj (told p.set)],(idx rfl hp),_,_,O,iW ?_ ?_⟩<;>intro g2
   ·have e:T≠[]:=fun e=>by have:=lz.2 e;omega
    rw[aaa e]at x1;obtain⟨m0,mt,em,Ta⟩:=zT W e;have h0:(told T)[0]?=some m0:=by rw[em];rfl
    exact⟨[aj (told p.set)],(idx rfl hp),_,_,Z6,_,_,(uK (told T) m0 h0),⟨fun r J=>by simp at J;subst J;rfl,by simp only[lo,aaB,acs,aaM,aan];omega,by simp only[lo,aaB,acs,aaM,aan];omega⟩,wO (by omega),(i+1,o++[⟨4,i,0,gr,r.edge,jq T⟩]),_,au.refl _ _,⟨by rw[<-x1];simp only[abx,ac3,aaI,acZ],by simp only[acv,abS];omega,by simp only;omega⟩,by simp only;omega,⟨Z,Z,Z,Z,Z,Z,Y⟩,⟨rfl,rfl,by rw[abE,<-Ta];rfl,trivial⟩⟩
   have e:T=[]:=lz.1 (by omega);rw[aap e,acZ]at x1;exact⟨wO (by omega),(i+1,o),_,au.refl _ _,⟨x1,by simp only;omega,by simp only;omega⟩,by simp only;omega,⟨Z,Z,Z,Z,Z,Z,Y⟩,⟨Z,Z,Z,Y⟩⟩
  rw[ab1 (by omega),gQ,acw]at x1;have x1:G=o:=x1.symm;subst x1;refine⟨_,_,(pK G),?_,trivial⟩;rfl
 rw[jz,aaa g];apply iW<;>intro c
 ·refine⟨?_,trivial⟩;rfl
 exact absurd (by simpa using c) g
theorem AX(r:cP)(I:e8 r)(a:fS)(ha:ly a):af C 20 [.pv (.ag (rl r)),.pv (.ag (dX a))] (.tu [.sl ((jz r a (fY r.holeGap 0 a.bores)).1.map nQ),i64 (jz r a (fY r.holeGap 0 a.bores)).2]) []:=by
 have aK:=ke r I a ha;have lb:=ai a.bores bc;refine uX ⟨[],[],[],[],[(11,[true,true,true,true,true,true,false,true,false,false,true,true,false,true])],[]⟩ hC Tryz.func20 rfl (by kernel_rfl) fun _=>?_;refine⟨_,_,aK,?_⟩;by_cases g:i_ r a=0
 ·obtain⟨h1,h2⟩:=kd g;have O:=(jW h2).art;have jB:=O.jB;have R:=jv O;rw[jz,aap g];obtain⟨G,U⟩:∃G,G=fY r.holeGap 0 a.bores:=⟨_,rfl⟩;rw[<-U];apply iW<;>intro c
  ·exact absurd g (by simpa using c)
  refine aJ (fun x:Nat×List Break=>x.2++fY r.holeGap x.1 (a.bores.drop x.1)=G/\x.2.length<=500*x.1/\x.1<=a.bores.length) (fun x=>[(2,.bx 2 0),(3,.p (.ip (dX a))),(7,.ow 7),(8,.p (i64 x.1))]) (fun x=>[(2,.box (C_ r)),(7,.row 47 (x.2.map nQ))]) (fun x=>a.bores.length-x.1) (0,[]) _ ((au.dk (by exact hC) _ 7 47 _ (by decide) (by exact rfl) (by exact rfl) (by decide)).trans (au.gD (by exact hC) _ 3 (y:=.ip (dX a)) (fz:=[(3,.jd (dX a))]) (by exact⟨rfl,rfl⟩))) ⟨by rw[U];rfl,by simp,aaj _⟩ ⟨Z,Z,Z,Z,Y⟩ ⟨Z,Z,Y⟩ fun ⟨i,o⟩ hx t h=>?_;obtain⟨x1,x2,x3⟩:=hx;simp only at x1 x2 x3;apply iW<;>intro g1<;>try simp only[zB]at g1
  ·obtain⟨x,L⟩:=ak (l:=a.bores) (i:=i) (by omega);have bx:=R x (aad L);rw[drop_at L,fY]at x1;refine⟨wO (by omega),?_⟩;refine aJ (fun y:Nat×List Break=>y.2++(nC r.holeGap i x y.1 (a.bores.drop y.1)++fY r.holeGap (i+1) (a.bores.drop (i+1)))=G/\y.2.length<=500*i+y.1/\i+1<=y.1/\y.1<=a.bores.length) (fun y=>[(2,.bx 2 0),(3,.p (.ip (dX a))),(7,.ow 7),(8,.p (i64 i)),(9,.p (i64 y.1))]) (fun y=>[(2,.box (C_ r)),(7,.row 47 (y.2.map nQ))]) (fun y=>a.bores.length-y.1) (i+1,o) _ (au.refl _ _) ⟨x1,by simp only;omega,by simp only;omega,by simp only;omega⟩ ⟨Z,Z,Z,Z,Z,Y⟩ ⟨Z,Z,Y⟩ fun ⟨k,o'⟩ hy t h=>?_;obtain⟨D,VP,VQ,VR⟩:=hy;simp only at D VP VQ VR;have lo:=ai o' nQ;apply iW<;>intro g2<;>try simp only[zB]at g2
   ·obtain⟨z,N⟩:=ak (l:=a.bores) (i:=k) (by omega);have J:=R z (aad N);rw[drop_at N,nC,Dn]at D;have mx:jZ (aa x):=sW (by have:=Reg.er bx;unfold RK at this ⊢;omega) (Reg.bX bx);have mz:jZ (aa z):=sW (by have:=Reg.er J;unfold RK at this ⊢;omega) (Reg.bX J);have YI:=vT (aa x) (aa z) mx mz;have Iq:=Reg.Nw (TF bx) (TF J);refine⟨(bc x),(idx rfl L),(bc z),(idx rfl N),iW ?_ ?_⟩<;>intro V
    ·rw[aap (.inl V),acZ]at D;exact⟨wO (by omega),(k+1,o'),_,au.refl _ _,⟨D,by simp only;omega,by simp only;omega,by simp only;omega⟩,by simp only;omega,⟨Z,Z,Z,Z,Z,Y⟩,⟨Z,Z,Y⟩⟩
    apply iW<;>intro W
    ·rw[aap (.inr W),acZ]at D;exact⟨wO (by omega),(k+1,o'),_,au.refl _ _,⟨D,by simp only;omega,by simp only;omega,by simp only;omega⟩,by simp only;omega,⟨Z,Z,Z,Z,Z,Y⟩,⟨Z,Z,Y⟩⟩
    rw[aaa (by rintro (e | e);exact V e;exact W e)]at D;generalize fT (aa x) (aa z)=fr at *;refine⟨_,_,(di x bx),_,_,(di z J),_,_,YI,wO (by omega),iW ?_ ?_⟩<;>intro g5
    ·rw[aap g5]at D;exact⟨⟨fun r I=>by simp at I;subst I;rfl,by simp only[lo,aaB,acs,aaM,aan];omega,by simp only[lo,aaB,acs,aaM,aan];omega⟩,wO (by omega),(k+1,o'++[⟨5,i,k,fr-1,r.holeGap,((aa x).x0,(aa x).y0)⟩]),_,au.refl _ _,⟨by rw[<-D];simp only[abx,ac3,aaI,acZ],by simp only[acv,abS];omega,by simp only;omega,by simp only;omega⟩,by simp only;omega,⟨Z,Z,Z,Z,Z,Y⟩,⟨rfl,by rw[abE];rfl,trivial⟩⟩
    rw[aaa g5,acZ]at D;exact⟨wO (by omega),(k+1,o'),_,au.refl _ _,⟨D,by simp only;omega,by simp only;omega,by simp only;omega⟩,by simp only;omega,⟨Z,Z,Z,Z,Z,Y⟩,⟨Z,Z,Y⟩⟩
   rw[ab1 (by omega),nC,acZ]at D;exact⟨wO (by omega),(i+1,o'),_,au.refl _ _,⟨D,by simp only;omega,by simp only;omega⟩,by simp only;omega,⟨Z,Z,Z,Z,Y⟩,⟨Z,Z,Y⟩⟩
  rw[ab1 (by omega),fY,acw]at x1;have x1:G=o:=x1.symm;subst x1;refine⟨_,_,(pK G),?_,trivial⟩;rfl
 rw[jz,aaa g];apply iW<;>intro c
 ·refine⟨?_,trivial⟩;rfl
 exact absurd (by simpa using c) g
theorem Ld(l:List Break):(mI l).1.length<=5000:=by
 rw[mI];split
 ·simp
 show l.length<=5000;omega
theorem pL(l:List Break)(hN:l.length<=5000):af C 16 [.pv (.sl (l.map nQ)),.pv (.sl (l.map nQ))] (.p (bool true)) []:=by
 have I:=ai l nQ;refine fW hC Tryz.func16 rfl (by kernel_rfl) fun _=>?_;apply iW<;>intro z<;>try simp only[zB]at z
 ·exact absurd trivial z
 refine aJ (fun i:Nat=>i<=l.length) (fun i=>[(0,.p (.sl (l.map nQ))),(1,.p (.sl (l.map nQ))),(12,.p (i64 l.length)),(13,.p (i64 i))]) (fun _=>[]) (fun i=>l.length-i) 0 _ (au.refl _ _) (aaj _) ⟨rfl,rfl,adV (fun m:Nat=>AV.p (i64 m)) I,Z,Y⟩ trivial fun i hi t h=>?_;apply iW<;>intro h1
 ·obtain⟨b,hb⟩:=ak (l:=l) (i:=i) (by omega);refine⟨(nQ b),(idx rfl hb),(nQ b),(idx rfl hb),iW ?_ ?_⟩<;>intro D<;>try simp only[zB]at D
  ·exfalso;simp at D
  exact⟨wO (by omega),(i+1),_,au.refl _ _,by omega,by omega,⟨Z,Z,Z,Z,Y⟩,trivial⟩
 refine⟨?_,trivial⟩;rfl
theorem ags(r:cP)(B:BR)(nets:List ByteArray)(i k:Nat)(p q:Piece):(aff r B nets i k p q).length<=1:=by
 rw[aff];split
 ·simp
 split<;>simp
theorem afH(r:cP)(B:BR)(nets:List ByteArray)(i:Nat)(p:Piece):∀(t:List Piece) (k:Nat),(aeX r B nets i p k t).length<=t.length
 | [],_=>aam _
 | q::t,k=>by
  rw[aeX];split
  ·have h1:=ags r B nets i k p q;have h2:=afH r B nets i p t (k+1);rw[acv,aaB];omega
  simp
theorem af7(r:cP)(B:BR)(nets:List ByteArray):∀(t:List Piece) (i:Nat),(aeE r B nets i t).length<=t.length*t.length
 | [],_=>aam _
 | q::t,k=>by
  rw[aeE,acv,aaB,Nat.succ_mul_succ];have h1:=afH r B nets k q t (k+1);have h2:=af7 r B nets t (k+1);omega
theorem afS(r:cP)(B:BR)(nets:List ByteArray):∀(t:List Piece) (i:Nat),(aew r B nets i t).length<=t.length
 | [],_=>aam _
 | q::t,k=>by
  rw[aew,acv,aaB,afq];have h2:=afS r B nets t (k+1);split
  ·simp only[acs];omega
  simp only[aaB,acs];omega
theorem af8(g:Int)(o:List an):∀(t:List Piece) (i:Nat),(gQ g o i t).length<=t.length
 | [],_=>aam _
 | q::t,k=>by
  rw[gQ,acv,aaB,Dm];have h2:=af8 g o t (k+1);split
  ·simp only[acs];omega
  simp only[aaB,acs];omega
theorem afT(g:Int)(bs:List aS)(cs:List (List ae))(i:Nat)(x:aS):∀(n:Nat) (l:Int),(js g bs cs i x n l).length<=n
 | 0,_=>aam _
 | n+1,l=>by
  rw[js];split
  ·have h2:=afT g bs cs i x n (l+1);rw[acv,lS];split
   ·simp only[acs];omega
   split
   ·simp only[acs];omega
   simp only[aaB,acs];omega
  simp
theorem af9(g:Int)(bs:List aS)(cs:List (List ae)):∀(t:List aS) (i:Nat),(∀x∈t,x.hi+1-x.lo<=16)->(fG g bs cs i t).length<=16*t.length
 | [],_,_=>aam _
 | q::t,k,h=>by
  rw[fG,acv,aaB];have h1:=afT g bs cs k q (q.hi+1-q.lo).toNat q.lo;have h2:=af9 g bs cs t (k+1) fun x z=>h x (aaw _ z);have:=h q adU;omega
theorem afU(g:Int)(i:Nat)(x:aS):∀(t:List aS) (k:Nat),(nC g i x k t).length<=t.length
 | [],_=>aam _
 | q::t,k=>by
  rw[nC,acv,aaB,Dn];have h2:=afU g i x t (k+1);split
  ·simp only[acs];omega
  split
  ·simp only[aaB,acs];omega
  simp only[acs];omega
theorem af_(g:Int):∀(t:List aS) (i:Nat),(fY g i t).length<=t.length*t.length
 | [],_=>aam _
 | q::t,k=>by
  rw[fY,acv,aaB,Nat.succ_mul_succ];have h1:=afU g k q t (k+1);have h2:=af_ g t (k+1);omega
theorem ahB{n k:Nat}(h:n<=k):n*n<=k*k:=Nat.mul_le_mul h h
theorem ag7(r:cP)(D:e8 r)(a:fS)(V:ly a)(nets:List ByteArray)(W:afj nets):af C 29 [.pv (.ag (rl r)),.pv (.ag (dX a)),.pv (strs nets)] (.tu [.sl ((af2 r a nets).1.map nQ),i64 (af2 r a nets).2]) []:=by
 have J:=agJ r D a V nets W;by_cases g:aeJ r a nets=0
 ·rw[af2,aap g];rw[agl,aap g,g]at J;rw[aeJ]at g;by_cases L:bC r≠0
  ·rw[aap L]at g;exact absurd g L
  rw[aaa L]at g;by_cases N:dc a≠0
  ·rw[aap N]at g;exact absurd g N
  rw[aaa N]at g;by_cases O:nets.length≠(aC a).placed.groups.length
  ·rw[aap O]at g;cases g
  have I:zd r:=jU (by simpa using L);have z:Ft a:=jW (by simpa using N);have hl:nets.length=(aC a).placed.groups.length:=by simpa using O
  have n1:=af7 r (aC a) nets (aC a).pieces 0;have n2:=afS r (aC a) nets (aC a).pieces 0;have n3:=af9 r.ring a.bores a.coppers a.bores 0 fun x R=>by
   have:=z.art.bor x R;have:=z.art.cop;obtain⟨_,b1,b2,b3⟩:=z.art.bor x R;omega
  have n4:=af8 r.edge (aB a.outline) (aC a).pieces 0;have n5:=af_ r.holeGap a.bores 0;have Y:=z.jB;have Z:=z.art.jB;have f3:=ahB Y;have f4:=ahB Z;have c1:=agA r I a z nets hl;have c2:=agr r I a z nets hl;have c3:=F1 r I a z;have c4:=F0 r I a z;have c5:=Ad r I a z;have U:=s8 (afI r a nets);have eA:(afI r a nets).map nQ=((((aeE r (aC a) nets 0 (aC a).pieces).map nQ++(aew r (aC a) nets 0 (aC a).pieces).map nQ)++(fG r.ring a.bores a.coppers 0 a.bores).map nQ)++(gQ r.edge (aB a.outline) 0 (aC a).pieces).map nQ)++(fY r.holeGap 0 a.bores).map nQ:=by
   simp only[afI,abE,abx]
  rw[eA]at U;generalize mI (afI r a nets)=FR at *;generalize aeE r (aC a) nets 0 (aC a).pieces=l1 at *;generalize aew r (aC a) nets 0 (aC a).pieces=l2 at *;generalize fG r.ring a.bores a.coppers 0 a.bores=l3 at *;generalize gQ r.edge (aB a.outline) 0 (aC a).pieces=l4 at *;generalize fY r.holeGap 0 a.bores=l5 at *;refine fW hC Tryz.func29 rfl (by kernel_rfl) fun _=>?_;refine⟨_,_,J,_,_,c1,_,_,c2,⟨fun r D=>by obtain⟨b,_,rfl⟩:=adS.1 D;rfl,by simp only[aej,aaM,aan,acv,aaB,acs];omega,by simp only[aej,aaM,aan,acv,aaB,acs];omega⟩,_,_,c3,⟨fun r D=>by obtain⟨b,_,rfl⟩:=adS.1 D;rfl,by simp only[aej,aaM,aan,acv,aaB,acs];omega,by simp only[aej,aaM,aan,acv,aaB,acs];omega⟩,_,_,c4,⟨fun r D=>by obtain⟨b,_,rfl⟩:=adS.1 D;rfl,by simp only[aej,aaM,aan,acv,aaB,acs];omega,by simp only[aej,aaM,aan,acv,aaB,acs];omega⟩,_,_,c5,⟨fun r D=>by obtain⟨b,_,rfl⟩:=adS.1 D;rfl,by simp only[aej,aaM,aan,acv,aaB,acs];omega,by simp only[aej,aaM,aan,acv,aaB,acs];omega⟩,_,_,U,?_,trivial⟩;rfl
 rw[af2,aaa g];rw[agl,aaa g]at J;refine fW hC Tryz.func29 rfl (by kernel_rfl) fun _=>?_;refine⟨_,_,J,iW ?_ ?_⟩<;>intro h
 ·refine⟨?_,trivial⟩;rfl
 exact absurd (by simpa using h) g
theorem ag8{r:cP}{a:fS}{nets:List ByteArray}(g:aeJ r a nets=0)(l:List Break):jz r a l=mI l:=by
 have:i_ r a=0:=by
  rw[aeJ]at g;rw[i_];by_cases z:bC r≠0
  ·rw[aap z]at g;exact absurd g z
  rw[aaa z]at g ⊢;by_cases D:dc a≠0
  ·rw[aap D]at g;exact absurd g D
  simpa using D
 rw[jz,aap this]
theorem aeV(l:List Break):(5000<l.length/\mI l=([],2))\/(l.length<=5000/\mI l=(l,0)):=by
 rw[mI];by_cases c:5000<l.length
 ·rw[aap c];exact .inl ⟨c,rfl⟩
 rw[aaa c];exact .inr ⟨by omega,rfl⟩
theorem ahl(r:cP)(z:e8 r)(a:fS)(J:ly a)(nets:List ByteArray)(Y:afj nets):af C 30 [.pv (.ag (rl r)),.pv (.ag (dX a)),.pv (strs nets)] (.tu [.sl ((af2 r a nets).1.map nQ),i64 (af2 r a nets).2]) []:=by
 have I:=agO r z a J nets Y;have L:=agE r z a J nets Y;have N:=H6 r z a J;have O:=H7 r z a J;have R:=AX r z a J;have Z:=pK (afI r a nets);refine uX ⟨[17],[],[],[],[],[]⟩ hC Tryz.func30 rfl (by kernel_rfl) fun _=>?_;by_cases g:aeJ r a nets=0
 ·rw[af2,aap g];rw[agb,aap g]at I L;rw[ag8 g]at N O R;have eA:(afI r a nets).map nQ=((((aeE r (aC a) nets 0 (aC a).pieces).map nQ++(aew r (aC a) nets 0 (aC a).pieces).map nQ)++(fG r.ring a.bores a.coppers 0 a.bores).map nQ)++(gQ r.edge (aB a.outline) 0 (aC a).pieces).map nQ)++(fY r.holeGap 0 a.bores).map nQ:=by
   simp only[afI,abE,abx]
  have lA:(afI r a nets).length=(aeE r (aC a) nets 0 (aC a).pieces).length+((aew r (aC a) nets 0 (aC a).pieces).length+((fG r.ring a.bores a.coppers 0 a.bores).length+((gQ r.edge (aB a.outline) 0 (aC a).pieces).length+(fY r.holeGap 0 a.bores).length))):=by
   simp only[afI,acv]
  have hF:=aeV (afI r a nets);rw[eA]at Z;generalize mI (afI r a nets)=FR at *;generalize (afI r a nets).length=n at *;clear eA;generalize aeE r (aC a) nets 0 (aC a).pieces=l1 at *;generalize aew r (aC a) nets 0 (aC a).pieces=l2 at *;generalize fG r.ring a.bores a.coppers 0 a.bores=l3 at *;generalize gQ r.edge (aB a.outline) 0 (aC a).pieces=l4 at *;generalize fY r.holeGap 0 a.bores=l5 at *;have D:5000<n->FR=([],2):=fun c=>by
   rcases hF with⟨_,e⟩ | ⟨d,_⟩
   ·exact e
   omega
  rcases aeV l1 with⟨h1,e1⟩ | ⟨h1,e1⟩
  ·rw[e1]at I;rw[D (by omega)];refine⟨_,_,I,?_,trivial⟩;rfl
  rw[e1]at I;refine⟨_,_,I,?_⟩;rcases aeV l2 with⟨h2,e2⟩ | ⟨h2,e2⟩
  ·rw[e2]at L;rw[D (by omega)];refine⟨_,_,L,?_,trivial⟩;rfl
  rw[e2]at L;refine⟨_,_,L,?_⟩;rcases aeV l3 with⟨h3,U⟩ | ⟨h3,U⟩
  ·rw[U]at N;rw[D (by omega)];refine⟨_,_,N,?_,trivial⟩;rfl
  rw[U]at N;refine⟨_,_,N,?_⟩;rcases aeV l4 with⟨h4,V⟩ | ⟨h4,V⟩
  ·rw[V]at O;rw[D (by omega)];refine⟨_,_,O,?_,trivial⟩;rfl
  rw[V]at O;refine⟨_,_,O,?_⟩;rcases aeV l5 with⟨h5,W⟩ | ⟨h5,W⟩
  ·rw[W]at R;rw[D (by omega)];refine⟨_,_,R,?_,trivial⟩;rfl
  rw[W]at R;refine⟨_,_,R,?_⟩;refine qy (au.dk (by exact hC) _ 14 47 _ (by decide) (by exact rfl) (by exact rfl) (by decide)) ?_;refine⟨⟨fun r z=>by obtain⟨b,_,rfl⟩:=adS.1 z;rfl,by simp only[aej,aaM,aan,acv,aaB,acs];omega,by simp only[aej,aaM,aan,acv,aaB,acs];omega⟩,⟨fun r z=>by obtain⟨b,_,rfl⟩:=adS.1 z;rfl,by simp only[aej,aaM,aan,acv,aaB,acs];omega,by simp only[aej,aaM,aan,acv,aaB,acs];omega⟩,⟨fun r z=>by obtain⟨b,_,rfl⟩:=adS.1 z;rfl,by simp only[aej,aaM,aan,acv,aaB,acs];omega,by simp only[aej,aaM,aan,acv,aaB,acs];omega⟩,⟨fun r z=>by obtain⟨b,_,rfl⟩:=adS.1 z;rfl,by simp only[aej,aaM,aan,acv,aaB,acs];omega,by simp only[aej,aaM,aan,acv,aaB,acs];omega⟩,⟨fun r z=>by obtain⟨b,_,rfl⟩:=adS.1 z;rfl,by simp only[aej,aaM,aan,acv,aaB,acs];omega,by simp only[aej,aaM,aan,acv,aaB,acs];omega⟩,_,_,Z,?_,trivial⟩;rfl
 rw[af2,aaa g];rw[agb,aaa g]at I;refine⟨_,_,I,iW ?_ ?_⟩<;>intro h
 ·refine⟨?_,trivial⟩;rfl
 exact absurd (by simpa using h) g
theorem ahu(r:cP)(a:fS)(nets:List ByteArray):(af2 r a nets).1.length<=5000:=by
 rw[af2];split
 ·exact Ld _
 simp
theorem ahv(r:cP)(z:e8 r)(a:fS)(D:ly a)(nets:List ByteArray)(I:afj nets):af C 7 [.pv (.ag (rl r)),.pv (.ag (dX a)),.pv (strs nets)] (.p (bool true)) []:=by
 have J:=ag7 r z a D nets I;have L:=ahl r z a D nets I;have N:=pL _ (ahu r a nets);generalize af2 r a nets=R at *;obtain⟨R1,R2⟩:=R;refine fW hC Tryz.func7 rfl (by kernel_rfl) fun _=>?_;refine⟨_,_,J,_,_,L,_,_,N,iW ?_ ?_⟩<;>intro O
 ·refine⟨_,_,KG,?_,trivial⟩;rfl
 exact absurd rfl O
end M
end Go.Proofs.YtfloceomobknoaaGreatDoor
namespace Go.Proofs.YtfloceomobknoaaGreatDoor
open Go.ChangeShapes Go.WideShapes Go.ChangeAt Go.RowKit Go.AM
open Go.ChangeMaps (open_string shut_string)
open Go.Proofs.YtfloceomobknoaaGreatDoor.M
namespace rulesAllMatchSpec
theorem Af{P:Program}{f:FuncId}{fn:Func}{s:ChangeSpec}{c:OpenClaim}(D:(laidOutB P)=true)(I:(mapsRowed P)=true)(J:((c.inPlace==P.inPlace f))=true)(L:((c.unfollowed==P.unfollowed f))=true)(N:((c.recurses==P.recurses f))=true)(O:((c.named==P.varsNamed f))=true)(R:((c.plainKeys==P.plainKeys))=true)(U:(P.stopsHeard)=true)(V:(P.mayEnter)=true)(W:((c.lifted==P.liftsFinal))=true)(Y:((P.make==some c.make))=true)
  (z:(c.wf (OpenSpec.ofChange s)&&true&&fn.params.all (P.readableRec ·)&&namedTie P c.named s.vars&&(c.stops==[])&&(P.stops==[])&&(c.knobs==[])&&(P.stopKnobs==[])&&true&&(c.maps==(fn.params.toList++s.plain.varTypes P).any (P.mapsRec ·))&&(c.ifaces==(fn.params.toList++s.plain.varTypes P).any (P.ifacesRec ·))&&(c.mapsOut==P.mapsAmong fn.resultTypes.toList)&&(c.loops==(fn.params.toList++s.plain.varTypes P).any (P.loopsFrom ·))&&(c.wideKeys==(fn.params.toList++s.plain.varTypes P++fn.resultTypes.toList).any (P.wideKeysFrom ·))&&s.vars.all (P.varReadable ·)&&fn.resultTypes.all (fun t=>P.readableRec t&&decide (t<P.types.size))&&(c.ifacesOut==fn.resultTypes.toList.any (P.ifacesRec ·))&&(c.loopsOut==fn.resultTypes.toList.any (P.loopsFrom ·))&&c.shortTexts.isNone&&(c.kinds==(if c.domain.isEmpty then [] else fn.params.toList.map fun t=>match P.underlying t with | some (.int k)=>some k | _=>none))&&(c.pinned==c.pinnedBy)&&(c.veiled==(fn.params.toList++s.plain.varTypes P++fn.resultTypes.toList).any (P.veiledRec ·))&&c.veiledFits P fn.params.toList (fn.params.toList++s.plain.varTypes P++fn.resultTypes.toList))=true):joinedFacts P f fn s c=true:=by
 simp only[aaZ]at z;simp only[joinedFacts,aaZ];simp only[D,I,J,L,N,O,R,U,V,W,Y,and_true];simp only[and_assoc,and_true]at z ⊢;exact z
theorem Ti{W:World}(z:laidMetH Tryz.prog Rows.rulesAllMatchSpecUptoRow.laid W)(h:W.ShapedOpen Tryz.prog):M.Env (fun b=>b<W.heap.size) W:=by
 refine EM (Go.Proofs.cell_of_shapedOpen_int (zero:=#[.int .i64 0]) (t:=3) h (adw (by kernel_rfl)) (by kernel_rfl) rfl (by kernel_rfl) (by kernel_rfl) acI) ?_;rw[MakeChecks.laidMetH_plain _ _ _ (by kernel_rfl)]at z;exact Lib.tabIs_of_head (rest:=Rows.rulesAllMatchSpecUptoRow.laid.drop 3) M.St (by kernel_rfl) Tryz.underlying297 adE (by kernel_rfl) (by kernel_rfl) (laidMet.tail (laidMet.tail z))
theorem Og(H:Type)(enc:TypeId×Value->H)(W:World)(base:Nat)(args:Array Value)(ds V:List (DataW H))(before:List MemPlace)
  (z:∀(j:Nat) t v,Tryz.f7.params[j]?=some t->args[j]?=some v->Value.okWide Tryz.prog W .any base t v)
  (Y:DataW.Whole enc Tryz.prog Tryz.f7.params.toList Rows.rulesAllMatchSpecSpec.vars false W args.toList ds V before) (hk:Rows.uptoSmall H (ds++V)=true) (hE:M.Env (fun b=>b<W.heap.size) W):
  Calls Tryz.prog 7 args W fun e I=>∃v,e=.returned v/\Rows.rulesAllMatchSpecSpec.post enc Tryz.prog Tryz.f7 false true false false W args v I:=by
 have L:=Y;obtain⟨Z,q,N,hV,rfl,DI,Oo⟩:=Y;have J:DataW.TrodAll enc Tryz.prog W 0 (fun _=>true) true Tryz.f7.params.toList args.toList ds Z:=N;have D:=fun (I:World) (hb:Below W.heap.size W I)=>By U9 hb (by kernel_rfl) J J.lt;rw[Tryz.params7]at J z;obtain⟨v0,vs0,d0,ds0,p0,q0,hargs,rfl,ZF,h0,r0⟩:=trodAll_cons J;obtain⟨v1,vs1,d1,ds1,p1,q1,rfl,rfl,rfl,h1,r1⟩:=trodAll_cons r0;obtain⟨v2,vs2,d2,ds2,p2,q2,rfl,rfl,rfl,h2,r2⟩:=trodAll_cons r1;obtain⟨rfl,rfl,rfl⟩:=trodAll_nil r2;obtain rfl:args=#[v0,v1,v2]:=by cases args;simp_all
 obtain⟨rfl,rfl⟩:=trodVars_none hV;obtain⟨_,w0,r,rfl,z0⟩:=yS (S:=fun b=>b<W.heap.size) Tryz.underlying39 (M8 fun _ h=>h) (z 0 39 v0 rfl rfl) h0;have O:e8 r:=M9 (Da _ _ _ (IU hk (abY _ (by repeat (first | exact adU .. | apply aaw)))) z0);obtain⟨_,w1,a,rfl,z1⟩:=yS (S:=fun b=>b<W.heap.size) Tryz.underlying27 (SZ fun _ h=>h) (z 1 27 v1 rfl rfl) h1;have R:ly a:=S0 (HI _ _ _ (IU hk (abY _ (by repeat (first | exact adU .. | apply aaw)))) z1);obtain⟨_,w2,nets,e2,z2⟩:=agV (S:=fun b=>b<W.heap.size) acL (PB fun _ h=>h) (z 2 49 v2 rfl rfl) h2;cases e2;have U:afj nets:=ahp (IU hk (abY _ (by repeat (first | exact adU .. | apply aaw)))) z2;refine (Sy (C:=C) (xs:=[.ag (rl r),.ag (dX a),strs nets]) (y:=.bool true) (ahv r O a R nets U) hE (Bv (w0) (Bv (w1) (Bv (w2) MU)))).mono fun e I ⟨he,hb⟩=>?_;subst he;exact⟨_,rfl,AG (pa:=Z) (pv:=[]) L (fun _ _ _=>trodAll_cons_mk (shut_bool acm _) trodAll_mk0) (fun sp h=>D I hb sp (fun p hp=>h p (abY _ hp))) (fun _ _=>rfl) rfl
  hb (ok_one (by kernel_rfl) rfl (okWide_bool_mk acm _))⟩
theorem reads(os:Os){H:Type}(enc:TypeId×Value->H):∃z,DataW.whole enc Tryz.prog ((World.laidAll Tryz.prog os Rows.rulesAllMatchSpecUptoRow.laid).forCall (fun _ _=>0) ⟨#[],#[.agg #[.int .i64 0,.int .i64 0,.int .i64 0,.int .i64 0,.int .i64 0,.slice none 0 0,.slice none 0 0],.agg #[.slice none 0 0,.slice none 0 0,.slice none 0 0,.slice none 0 0],.slice none 0 0],[]⟩).memory Tryz.f7.params.toList Rows.rulesAllMatchSpecSpec.vars false (#[.agg #[.int .i64 0,.int .i64 0,.int .i64 0,.int .i64 0,.int .i64 0,.slice none 0 0,.slice none 0 0],.agg #[.slice none 0 0,.slice none 0 0,.slice none 0 0,.slice none 0 0],.slice none 0 0]:Array Value).toList 8=some ([.agg [.lit (.int .i64 0),.lit (.int .i64 0),.lit (.int .i64 0),.lit (.int .i64 0),.lit (.int .i64 0),.nil,.nil],.agg [.nil,.nil,.nil,.nil],.nil],[],z):=
 ⟨[],by kernel_rfl⟩
theorem lifted(os:Os)(z:os.Started)(H:Type)(enc:TypeId×Value->H)(F:Stop.Interp):
  ReturnsInHanded {} Tryz.checked os 7 .any ((Rows.OpenSpec.upto Rows.rulesAllMatchSpecSpec).preRow enc Tryz.prog Tryz.f7 Rows.rulesAllMatchSpecUptoRow.domain false Rows.rulesAllMatchSpecUptoRow.laid) (((Rows.OpenSpec.upto Rows.rulesAllMatchSpecSpec).at F).post enc Tryz.prog Tryz.f7 false true false false):=by
 obtain⟨places,J⟩:=reads os enc;refine returnsInHanded_of_row (C:=Tryz.checked) (s:=Rows.OpenSpec.upto Rows.rulesAllMatchSpecSpec) own z (by kernel_rfl) Tryz.func7
  (xr (enc:=enc) (C:=Tryz.checked) (World.laidAll Tryz.prog os Rows.rulesAllMatchSpecUptoRow.laid) #[.agg #[.int .i64 0,.int .i64 0,.int .i64 0,.int .i64 0,.int .i64 0,.slice none 0 0,.slice none 0 0],.agg #[.slice none 0 0,.slice none 0 0,.slice none 0 0,.slice none 0 0],.slice none 0 0] (World.laidAll_os _ _ _) (World.shaped_of_ZipB (by kernel_rfl) (by kernel_rfl)) (by kernel_rfl)
   (OpenSpec.preRow_of_cond 8 J (by kernel_rfl) (fun k hk=>by cases hk;kernel_rfl) (by kernel_rfl)
    (by rw[MakeChecks.laidMetH_plain _ _ _ (by kernel_rfl)];exact laidMet_laidAll _ (by kernel_rfl) (by kernel_rfl)))) ?_
 intro W base args ds L before D N _ O _ R I _;exact Og H enc W base args ds L before D N (O _ rfl) (Ti R I)
theorem Tj:laidOutB Tryz.prog=true:=by kernel_rfl
theorem Qh:mapsRowed Tryz.prog=true:=by kernel_rfl
theorem Tk:(Rows.rulesAllMatchSpecUptoRow.inPlace==Tryz.prog.inPlace 7)=true:=by kernel_rfl
theorem VV:(Rows.rulesAllMatchSpecUptoRow.unfollowed==Tryz.prog.unfollowed 7)=true:=by kernel_rfl
theorem VW:(Rows.rulesAllMatchSpecUptoRow.recurses==Tryz.prog.recurses 7)=true:=by kernel_rfl
theorem Qi:(Rows.rulesAllMatchSpecUptoRow.named==Tryz.prog.varsNamed 7)=true:=by kernel_rfl
theorem VX:(Rows.rulesAllMatchSpecUptoRow.plainKeys==Tryz.prog.plainKeys)=true:=by kernel_rfl
theorem Qj:Tryz.prog.stopsHeard=true:=by kernel_rfl
theorem Qk:Tryz.prog.mayEnter=true:=by kernel_rfl
theorem Tl:(Rows.rulesAllMatchSpecUptoRow.lifted==Tryz.prog.liftsFinal)=true:=by kernel_rfl
theorem Tm:(Tryz.prog.make==some Rows.rulesAllMatchSpecUptoRow.make)=true:=by kernel_rfl
theorem Tn:false=Rows.rulesAllMatchSpecUptoRow.goesBy Tryz.prog:=by kernel_rfl
theorem Ql:false=Tryz.prog.looks []:=by kernel_rfl
theorem YL:Rows.rulesAllMatchSpecUptoRow.wfByText (Rows.OpenSpec.upto Rows.rulesAllMatchSpecSpec)=true:=by kernel_rfl
theorem dG:joinedFacts Tryz.prog 7 Tryz.f7 (Rows.OpenSpec.upto Rows.rulesAllMatchSpecSpec).bare Rows.rulesAllMatchSpecUptoRow=true:=
 Af Tj Qh Tk VV VW Qi VX Qj Qk Tl Tm (by kernel_rfl)
theorem Oh:Rows.RulesAllMatchSpecUptoSaid:=
 OpenClaim.holds_of_cond 7 Tryz.f7 rfl rfl rfl rfl rfl rfl rfl ⟨rfl,rfl,rfl,rfl,rfl⟩ rfl rfl rfl rfl rfl (by kernel_rfl) Tryz.func7 dG
  (adw (by kernel_rfl)) (by unfold Func.isWrapper;first | (rw[aap (by decide +kernel)];kernel_rfl) | (rw[aaa (by decide +kernel)];exact⟨rfl,rfl⟩))
  (fun os z H enc _ F=>by rw[OpenClaim.pre_eq_preRow];exact lifted os z H enc F)
theorem plain(f:FuncId)(fn:Func)(I:Tryz.pinned.checked.prog.funcNamed Rows.rulesAllMatchSpecUptoRow.func=some f)(J:Tryz.pinned.checked.prog.funcs[f]?=some fn):
  false=Tryz.pinned.checked.prog.looks []/\∀(j:Nat) t,fn.params[j]?=some t->Tryz.pinned.checked.prog.wantsStandIn t=false:=by
 obtain rfl:f=7:=Option.some.inj ((show Tryz.prog.funcNamed Rows.rulesAllMatchSpecUptoRow.func=some 7 by kernel_rfl).symm.trans I) |>.symm;obtain rfl:fn=Tryz.f7:=(Option.some.inj (Tryz.func7.symm.trans J)).symm;refine⟨Ql,fun j t D=>?_⟩;rw[Tryz.params7]at D;have L:=abr D;have z:((Tryz.f7.params.toList).all fun u=>!Tryz.prog.wantsStandIn u)=true:=by kernel_rfl
 exact (show Tryz.prog.wantsStandIn t=false by simpa using abh.1 z t (by rw[Tryz.params7];simpa using L))
theorem cardUpto:Rows.RulesAllMatchSpecUptoCardSaid:=
 Claim7.holds_tied_plain_at .later [] _ _ _ _ Oh (fun _ h=>by cases h) YL (fun _ h=>by cases h) rulesAllMatchSpecUpto_row_tie rfl ⟨rfl,rfl⟩ (by kernel_rfl) rfl plain Tn
end rulesAllMatchSpec
end Go.Proofs.YtfloceomobknoaaGreatDoor
