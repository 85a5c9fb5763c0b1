/- Room and Fits give just what the reference gives, with all errors. Condition: what is read is of bulk at most 1048576; the listed variables are tied to the program's text by the card. -/
import Derived.Test.YtfloceomobknoaaGreatDoorR14
set_option linter.unusedVariables false
set_option linter.unusedSimpArgs false
set_option maxRecDepth 100000
set_option maxHeartbeats 8000000
namespace Go.Proofs.YtfloceomobknoaaGreatDoor
namespace M
open Go.AM Go.RowKit Go.Lib
open Reg (ae an aS fS Piece BR bE cv told aB bO aa through fT aC ahD bN uo nM a_ coreS P4)
theorem aiV(L:List (Int×List an)):∀(n:Nat) (lv:List Int) (rest:List an),(ahU L n lv rest).length<=n+1
 | 0,_,_=>by simp[ahU]
 | n+1,lv,rest=>by
  rw[ahU];split
  ·simp
  have:=aiV L n (aiM lv) (bN rest (ahF L (ah5 lv)));simp only[aaB];omega
theorem ajP(layer:Int):∀(z:List sJ) (l:List (Int×List an)),(byZ layer z l).length<=l.length+z.length
 | [],l=>by simp[byZ]
 | a::z,l=>by
  have h1:=ajP layer z (aih layer l a);have h2:(aih layer l a).length<=l.length+1:=by
   rw[aih];split
   ·exact akf _ _ _
   omega
  rw[aiv,aaB];omega
theorem ajL(r:cP)(layer:Int)(all:List an):(ahX r layer all).length<=r.areas.length+1:=by
 have h1:=aiV (byZ layer r.areas []) (byZ layer r.areas []).length ((byZ layer r.areas []).map (·.1)) all;have z:=ajP layer r.areas [];rw[acs]at z;rw[ahX];omega
theorem ajQ{a:fS}(D:Ft a){nets:List ByteArray}(L:nets.length=(aC a).placed.groups.length){j:Nat}(I:j<a.bores.length):(∃(k:Nat) (s:ByteArray),(aC a).ofBore[j]?=some (k:Int)/\(aC a).ofBore.getD j 0=(k:Int)/\nets[k]?=some s/\aft nets (k:Int)=s)\/((aC a).ofBore[j]?=some (-1)/\(aC a).ofBore.getD j 0=-1):=by
 cases hp:Reg.bD a.bores j
 ·have z:(aC a).ofBore[j]?=some (-1):=D.gr.d j I hp;exact .inr ⟨z,by rw[aav,z];rfl⟩
 obtain⟨k,g,z,N,_⟩:=D.gr.b j I hp;have hk:=(aao.1 N).1;have z:(aC a).ofBore[j]?=some (k:Int):=z;rw[<-agL,<-L]at hk;obtain⟨s,J⟩:=ak hk;exact .inl ⟨k,s,z,by rw[aav,z];rfl,J,by rw[aft,aaS,aav,J];rfl⟩
variable {s:List an}
theorem ajh{b:List an}(h:bE s)(k:cv 1000000 s)(hb:bE b):bE (bN s b)/\cv 1000000 (bN s b):=⟨(Reg.b6 h hb).1,I1 h hb k⟩
theorem aiW(r:cP)(hg:zd r)(a:fS)(U:Ft a)(nets:List ByteArray)(hn:nets.length=(aC a).placed.groups.length)(net:ByteArray)(layer:Int):af C 61 [.pv (.ag (rl r)),.pv (.ip (kW a)),.pv (strs nets),.pv (str net),.pv (i64 layer)] (.p (aw (ahT r a nets net layer))) []:=by
 have lb:=ai a.bores bc;have lp:=ai (aC a).pieces jb;have jB:=U.jB;have Td:=U.art.jB;have B_:=jv U.art;have HY:=hg.nums;simp only[gM,cL,aaZ,aaH]at HY;have Yw:=zG (ph U.art.out);obtain⟨so,ko⟩:=xS U.art.out;obtain⟨N,_⟩:=ain hg U.art nets net layer;have hzg:=aij hg layer N.sok N.ink;have V4:=ajL r layer (ah8 r a nets net layer);have hna:=hg.na;obtain⟨R,hR⟩:∃R,R=ahT r a nets net layer:=⟨_,rfl⟩;rw[<-hR];rw[ahT]at hR;have hzo:=ajx r hg layer (ah8 r a nets net layer) N.sok N.ink;obtain⟨V,W⟩:∃V,V=ah8 r a nets net layer:=⟨_,rfl⟩;rw[<-W]at hR hzo hzg V4 N;obtain⟨O,hZS⟩:∃O,O=ahX r layer V:=⟨_,rfl⟩;rw[<-hZS]at hR hzo hzg V4;have lz:=ai O zoc;rw[ah8]at W;have Z3:=zt (aB a.outline) so ko r.edge (by omega) (by omega);have YG:=Reg.pe so (l:=r.edge) (r:=r.edge) (d:=r.edge) (u:=r.edge) (by omega) (by omega) (by omega) (by omega);have Z4:=Dd YG.1 so ko fun x y hx=>(YG.2.1 x y).1 hx x y (by omega) (by omega) (by omega) (by omega);have YH:=YG.1;obtain⟨I,hI⟩:∃I,I=coreS (aB a.outline) r.edge r.edge r.edge r.edge:=⟨_,rfl⟩;rw[<-hI]at Z3 YH Z4 W;clear YG;refine uX ⟨[1,5,16,20],[],[],[],[],[]⟩ hC Tryz.func61 rfl (by kernel_rfl) fun _=>?_;refine xp 5 (y:=.ip (rl r)) (fz:=[(5,.jd (rl r))]) (by exact hC) (by exact⟨rfl,rfl⟩) ?_;refine⟨_,_,Yw,_,_,Z3,?_⟩;refine aJ (fun x:Nat×List an=>ahN r (aC a).ofBore nets net layer x.1 (a.bores.drop x.1) x.2=V/\bE x.2/\cv 1000000 x.2/\x.1<=a.bores.length) (fun x=>[(1,.p (.ip (kW a))),(2,.p (strs nets)),(3,.p (str net)),(4,.p (i64 layer)),(5,.p (.ip (rl r))),(11,.p (aw x.2)),(37,.p (.sl (a.bores.map bc))),(38,.p (i64 a.bores.length)),(39,.p (i64 x.1))]) (fun _=>[]) (fun x=>a.bores.length-x.1) (0,I) _ (au.refl _ _) ⟨W.symm,YH,Z4,aaj _⟩ ⟨rfl,rfl,rfl,rfl,rfl,rfl,rfl,adV (fun m:Nat=>AV.p (i64 m)) lb,Z,Y⟩ trivial fun ⟨k,s⟩ hx t h=>?_;obtain⟨x1,x2,x3,x4⟩:=hx;simp only at x1 x2 x3 x4;apply iW<;>intro g1<;>try simp only[zB]at g1
 ·obtain⟨x,DL⟩:=ak (l:=a.bores) (i:=k) (by omega);have bx:=B_ x (aad DL);rw[drop_at DL,ahN]at x1;obtain⟨so1,ko1⟩:=gz bx;have VB:=zH bx;have hob:=ajQ U hn (j:=k) (by omega);refine⟨(bc x),(idx rfl DL),?_⟩;refine xp 13 (y:=.ip (bc x)) (fz:=[(13,.jd (bc x))]) (by exact hC) (by exact⟨rfl,rfl⟩) ?_;refine⟨_,_,(jk x layer),?_⟩;cases g2:through x layer
  ·rw[g2,aaa (by decide)]at x1;exact⟨wO (by omega),(k+1,s),_,au.refl _ _,⟨x1,x2,x3,by simp only;omega⟩,by simp only;omega,⟨Z,Z,Z,Z,Z,Z,Z,Z,Z,Y⟩,trivial⟩
  rw[g2,aap rfl]at x1;have hw:=Hk (aB [aa x]) so1 (ko1.up (by omega)) r.clearance (by omega) (by omega);obtain⟨ws,_,wk⟩:=Reg.bW so1 (l:=r.clearance) (r:=r.clearance) (d:=r.clearance) (u:=r.clearance) (by omega) (by omega) (by omega) (by omega);have wk:=wk 1010000 100000 ko1 (by omega) (by omega) (by omega) (by omega);have Qo:=iJ s _ x2 ws (x3.up (by omega)) (wk.up (by omega));have F4:=iJ s _ x2 so1 (x3.up (by omega)) (ko1.up (by omega));have D:=ajh x2 x3 ws;have ok2:=ajh x2 x3 so1;rcases hob with⟨gk,J,k1,k2,k3,k4⟩ | ⟨k1,k2⟩
  ·rw[aiw,k2,k4]at x1;refine⟨_,_,(cF x bx),_,_,VB,[i64 gk],(idx rfl k1),[str J],(idx rfl k3),iW ?_ ?_⟩<;>intro g4
   ·rw[aap (.inr (by simpa using g4))]at x1;exact⟨_,_,hw,_,_,Qo,wO (by omega),(k+1,bN s (a_ (aB [aa x]) r.clearance r.clearance r.clearance r.clearance)),_,au.refl _ _,⟨x1,D.1,D.2,by simp only;omega⟩,by simp only;omega,⟨Z,Z,Z,Z,Z,Z,Z,Z,Z,Y⟩,trivial⟩
   rw[aaa (by rintro (e | e);omega;exact e (by simpa using g4))]at x1;exact⟨_,_,F4,wO (by omega),(k+1,bN s (aB [aa x])),_,au.refl _ _,⟨x1,ok2.1,ok2.2,by simp only;omega⟩,by simp only;omega,⟨Z,Z,Z,Z,Z,Z,Z,Z,Z,Y⟩,trivial⟩
  rw[aiw,k2,aap (.inl (by decide))]at x1;exact⟨_,_,(cF x bx),_,_,VB,[i64 (-1)],(idx rfl k1),_,_,hw,_,_,Qo,wO (by omega),(k+1,bN s (a_ (aB [aa x]) r.clearance r.clearance r.clearance r.clearance)),_,au.refl _ _,⟨x1,D.1,D.2,by simp only;omega⟩,by simp only;omega,⟨Z,Z,Z,Z,Z,Z,Z,Z,Z,Y⟩,trivial⟩
 rw[aaz (by omega),ahN]at x1;subst x1;refine⟨_,_,hzo,?_⟩;refine aJ (fun x:Nat×List an=>aii r (aC a).ofPiece nets net layer (aC a).pieces (O.drop x.1) x.2=R/\bE x.2/\cv 1000000 x.2/\x.1<=O.length) (fun x=>[(1,.p (.ip (kW a))),(2,.p (strs nets)),(3,.p (str net)),(4,.p (i64 layer)),(5,.p (.ip (rl r))),(16,.p (aw x.2)),(80,.p (.sl (O.map zoc))),(81,.p (i64 O.length)),(82,.p (i64 x.1))]) (fun _=>[]) (fun x=>O.length-x.1) (0,([]:List an)) _ (au.nil (by exact hC) _ 16 (by exact rfl)) ⟨hR.symm,trivial,fun b hb=>(by cases hb),aaj _⟩ ⟨rfl,rfl,rfl,rfl,rfl,rfl,rfl,adV (fun m:Nat=>AV.p (i64 m)) lz,Z,Y⟩ trivial fun ⟨i,out⟩ hx t h=>?_;obtain⟨x1,x5,x6,x7⟩:=hx;simp only at x1 x5 x6 x7;apply iW<;>intro g1<;>try simp only[zB]at g1
 ·obtain⟨z,hzm⟩:=ak (l:=O) (i:=i) (by omega);have zg:=hzg z (aad hzm);obtain⟨zn,zs,zk,_⟩:=zg;rw[drop_at hzm,aii]at x1;obtain⟨Q,hQ⟩:∃Q,Q=ay r (aC a).ofPiece nets net layer z.1 0 (aC a).pieces z.2:=⟨_,rfl⟩;rw[<-hQ]at x1;refine⟨(zoc z),(idx rfl hzm),?_⟩;refine xp 18 (y:=.ip (zoc z)) (fz:=[(18,.jd (zoc z))]) (by exact hC) (by exact⟨rfl,rfl⟩) ?_;refine aJ (fun y:Nat×List an=>ay r (aC a).ofPiece nets net layer z.1 y.1 ((aC a).pieces.drop y.1) y.2=Q/\bE y.2/\cv 1000000 y.2/\y.1<=(aC a).pieces.length) (fun y=>[(1,.p (.ip (kW a))),(2,.p (strs nets)),(3,.p (str net)),(4,.p (i64 layer)),(5,.p (.ip (rl r))),(16,.p (aw out)),(18,.p (.ip (zoc z))),(19,.p (aw y.2)),(80,.p (.sl (O.map zoc))),(81,.p (i64 O.length)),(82,.p (i64 i)),(91,.p (.sl ((aC a).pieces.map jb))),(92,.p (i64 (aC a).pieces.length)),(93,.p (i64 y.1))]) (fun _=>[]) (fun y=>(aC a).pieces.length-y.1) (0,z.2) _ (au.refl _ _) ⟨hQ.symm,zs,zk,aaj _⟩ ⟨rfl,rfl,rfl,rfl,rfl,rfl,rfl,rfl,rfl,rfl,rfl,rfl,adV (fun m:Nat=>AV.p (i64 m)) lp,Z,Y⟩ trivial fun ⟨k,s⟩ hy t h=>?_;obtain⟨L,w2,w3,w4⟩:=hy;simp only at L w2 w3 w4;apply iW<;>intro g2<;>try simp only[zB]at g2
  ·obtain⟨p,hp⟩:=ak (l:=(aC a).pieces) (i:=k) (by omega);have gp:=U.pc p (aad hp);obtain⟨gk,J,k1,k2,k3,k4⟩:=afM U hn (i:=k) (by omega);rw[drop_at hp,ay,ah2,k2,k4]at L;refine⟨(jb p),(idx rfl hp),?_⟩;refine xp 21 (y:=.ip (jb p)) (fz:=[(21,.jd (jb p))]) (by exact hC) (by exact⟨rfl,rfl⟩) ?_;refine⟨[i64 gk],(idx rfl k1),[str J],(idx rfl k3),iW ?_ ?_⟩<;>intro g3
   ·rw[aap (.inl (by simpa using g3))]at L;exact⟨wO (by omega),(k+1,s),_,au.refl _ _,⟨L,w2,w3,by simp only;omega⟩,by simp only;omega,⟨Z,Z,Z,Z,Z,Z,Z,Z,Z,Z,Z,Z,Z,Z,Y⟩,trivial⟩
   have g3:p.layer=layer:=by simpa using g3
   apply iW<;>intro g4
   ·rw[aap (.inr (by simpa using g4))]at L;exact⟨wO (by omega),(k+1,s),_,au.refl _ _,⟨L,w2,w3,by simp only;omega⟩,by simp only;omega,⟨Z,Z,Z,Z,Z,Z,Z,Z,Z,Z,Z,Z,Z,Z,Y⟩,trivial⟩
   rw[aaa (by rintro (e | e);exact e g3;exact g4 (by simpa using e))]at L;obtain⟨n0,n1⟩:=aiz hg net J zn;have hwi:=Hk p.set gp.sok (gp.ink.up (by omega)) (ahy r net J z.1) n0 n1;obtain⟨ws,_,wk⟩:=Reg.bW gp.sok n0 n0 n0 n0;have wk:=wk 1000000 100000 gp.ink n1 n1 n1 n1;have hle:=iJ s _ w2 ws (w3.up (by omega)) (wk.up (by omega));have D:=ajh w2 w3 ws;apply iW<;>intro g5
   ·have e:ahy r net J z.1=max (ae2 r net) (ae2 r J):=by rw[ahy,aap g5]
    rw[e]at hwi hle L D;exact⟨_,_,(afk r hg net),_,_,(afk r hg J),_,_,hwi,_,_,hle,wO (by omega),(k+1,bN s (a_ p.set (max (ae2 r net) (ae2 r J)) (max (ae2 r net) (ae2 r J)) (max (ae2 r net) (ae2 r J)) (max (ae2 r net) (ae2 r J)))),_,au.refl _ _,⟨L,D.1,D.2,by simp only;omega⟩,by simp only;omega,⟨Z,Z,Z,Z,Z,Z,Z,Z,Z,Z,Z,Z,Z,Z,Y⟩,trivial⟩
   have e:ahy r net J z.1=z.1:=by rw[ahy,aaa g5]
   rw[e]at hwi hle L D;exact⟨_,_,hwi,_,_,hle,wO (by omega),(k+1,bN s (a_ p.set z.1 z.1 z.1 z.1)),_,au.refl _ _,⟨L,D.1,D.2,by simp only;omega⟩,by simp only;omega,⟨Z,Z,Z,Z,Z,Z,Z,Z,Z,Z,Z,Z,Z,Z,Y⟩,trivial⟩
  rw[aaz (by omega),ay]at L;rw[<-L]at x1;have Wt:=ES out s x5 w2 (x6.up (by omega)) (w3.up (by omega));obtain⟨or1,_,YK⟩:=Reg.kH x5 w2;exact⟨_,_,Wt,wO (by omega),(i+1,uo out s),_,au.refl _ _,⟨x1,or1,YK _ x6 w3,by simp only;omega⟩,by simp only;omega,⟨Z,Z,Z,Z,Z,Z,Z,Z,Z,Y⟩,trivial⟩
 rw[aaz (by omega),aii]at x1;subst x1;refine⟨?_,trivial⟩;rfl
structure aki(r:cP)(a:fS)(nets:List ByteArray):Prop where
 rules:zd r
 faults:bC r=0
 open':dc a=0
 board:Ft a
 len:nets.length=(aC a).placed.groups.length
theorem aiE{r:cP}{a:fS}{nets:List ByteArray}(g:aeJ r a nets=0):aki r a nets:=by
 rw[aeJ]at g;by_cases z:bC r≠0
 ·rw[aap z]at g;exact absurd g z
 rw[aaa z]at g;by_cases D:dc a≠0
 ·rw[aap D]at g;exact absurd g D
 rw[aaa D]at g;by_cases I:nets.length≠(aC a).placed.groups.length
 ·rw[aap I]at g;cases g
 exact⟨jU (by simpa using z),by simpa using z,by simpa using D,jW (by simpa using D),by simpa using I⟩
theorem aiX{r:cP}{a:fS}{nets:List ByteArray}{net:ByteArray}{layer:Int}(g:ah3 r a nets net layer=0):aki r a nets/\0<=layer/\layer<=(a.coppers.length:Int)-1:=by
 rw[ah3]at g;by_cases z:aeJ r a nets≠0
 ·rw[aap z]at g;exact absurd g z
 rw[aaa z]at g;refine⟨aiE (by simpa using z),?_⟩;split at g
 ·cases g
 split at g
 ·rename_i h;simpa [Reg.within] using h
 cases g
def ai9(r:cP)(a:fS)(nets:List ByteArray)(net:ByteArray)(layer:Int):PV:=if ah3 r a nets net layer=0 then .ip (kW a) else .im (.pointer none)
theorem aid(r:cP)(O:e8 r)(a:fS)(R:ly a)(nets:List ByteArray)(U:afj nets)(net:ByteArray)(L:ue net)(layer:Int):af C 60 [.pv (.ag (rl r)),.pv (.ag (dX a)),.pv (strs nets),.pv (str net),.pv (i64 layer)] (.tu [ai9 r a nets net layer,i64 (ah3 r a nets net layer)]) []:=by
 have N:(a.coppers.map fun r=>[aj r]).length=a.coppers.length:=by rw[aej]
 obtain⟨F,z⟩:∃F,F=ah3 r a nets net layer:=⟨_,rfl⟩;have V:ai9 r a nets net layer=if F=0 then .ip (kW a) else .im (.pointer none):=by rw[z];rfl
 rw[V,<-z];rw[ah3]at z;have J:=agJ r O a R nets U;refine fW hC Tryz.func60 rfl (by kernel_rfl) fun _=>?_;by_cases g:aeJ r a nets=0
 ·rw[agl,aap g,g]at J;rw[aaa (by simpa using g)]at z;have cop:=(aiE g).board.art.cop;refine⟨_,_,J,iW ?_ ?_⟩<;>intro I
  ·have I:net=M4:=I;rw[aap (.inl I)]at z;refine⟨?_,trivial⟩;rw[z];rfl
  have I:¬net=M4:=I;refine⟨_,_,(agt net L),?_⟩;cases g2:afe net
  ·rw[aap (.inr g2)]at z;refine⟨?_,trivial⟩;rw[z];rfl
  rw[aaa (by rintro (e | e);exact I e;rw[g2]at e;cases e)]at z;refine⟨⟨by rw[N];omega,by rw[N];omega⟩,_,_,(tU layer 0 (((a.coppers.map fun r=>[aj r]).length:Int)-1)),?_⟩;rw[N];cases g3:Reg.within layer 0 ((a.coppers.length:Int)-1)
  ·rw[g3,aaa (by decide)]at z;have D:(decide (0<=layer)&&decide (layer<=(a.coppers.length:Int)-1))=false:=g3;rw[D];refine⟨?_,trivial⟩;rw[z];rfl
  rw[g3,aap rfl]at z;have D:(decide (0<=layer)&&decide (layer<=(a.coppers.length:Int)-1))=true:=g3;rw[D];refine⟨?_,trivial⟩;rw[z];rfl
 rw[agl,aaa g]at J;rw[aap g]at z;refine⟨_,_,J,iW ?_ ?_⟩<;>intro h
 ·refine⟨?_,trivial⟩;rw[z,aaa g]
 exact absurd (by simpa using h) g
theorem ajM(r:cP)(L:e8 r)(a:fS)(N:ly a)(nets:List ByteArray)(O:afj nets)(net:ByteArray)(D:ue net)(layer:Int):af C 21 [.pv (.ag (rl r)),.pv (.ag (dX a)),.pv (strs nets),.pv (str net),.pv (i64 layer)] (.tu [aj (aic r a nets net layer).1,i64 (aic r a nets net layer).2]) []:=by
 have z:=aid r L a N nets O net D layer;by_cases g:ah3 r a nets net layer=0
 ·rw[aic,aap g];rw[ai9,aap g,g]at z;obtain⟨ok,_⟩:=aiX g;have I:=aiW r ok.rules a ok.board nets ok.len net layer;have J:=(aio ok.rules ok.board nets net layer).1;have R:=l5 (ahT r a nets net layer) J.sok (J.ink.up (by omega));refine fW hC Tryz.func21 rfl (by kernel_rfl) fun _=>?_;refine⟨_,_,z,_,_,I,_,_,R,?_,trivial⟩;rfl
 rw[aic,aaa g];rw[ai9,aaa g]at z;refine fW hC Tryz.func21 rfl (by kernel_rfl) fun _=>?_;refine⟨_,_,z,iW ?_ ?_⟩<;>intro h
 ·refine⟨?_,trivial⟩;rfl
 exact absurd (by simpa using h) g
theorem ajN(r:cP)(hr:e8 r)(a:fS)(ha:ly a)(nets:List ByteArray)(hn:afj nets)(net:ByteArray)(R:ue net)(layer:Int)(z:List ae):af C 23 [.pv (.ag (rl r)),.pv (.ag (dX a)),.pv (strs nets),.pv (str net),.pv (i64 layer),.pv (aj z)] (.tu [bool (aix r a nets net layer z).1,i64 (aix r a nets net layer z).2]) []:=by
 have D:=aid r hr a ha nets hn net R layer;by_cases g:ah3 r a nets net layer=0
 ·rw[aix,aap g];rw[ai9,aap g,g]at D;obtain⟨ok,_⟩:=aiX g;have U:=aiW r ok.rules a ok.board nets ok.len net layer;have N:=(aio ok.rules ok.board nets net layer).1;have ZP:=l5 (ahT r a nets net layer) N.sok (N.ink.up (by omega));have V:=N.sok;have W:=N.ink;generalize ahT r a nets net layer=L at *;refine fW hC Tryz.func23 rfl (by kernel_rfl) fun _=>?_;refine⟨_,_,D,_,_,U,_,_,ZP,?_⟩;by_cases O:(gx L).2=0
  ·rw[aap O];apply iW<;>intro h
   ·exact absurd (show (gx L).2=0 from O) (by simpa using h)
   refine⟨_,_,(jj z),?_⟩;by_cases I:Reg.aF z=0
   ·rw[aap I];apply iW<;>intro Y
    ·exact absurd I (by simpa using Y)
    obtain⟨Z,mk⟩:=xS I;obtain⟨w0,w1⟩:=agx ok.rules net;have s_:=Nh (aB z) L Z V (mk.up (by omega)) (W.up (by omega));refine⟨_,_,(zG (ph I)),_,_,s_,iW ?_ ?_⟩<;>intro J
    ·have J:bN (aB z) L=[]:=by simpa using J
     refine⟨_,_,(agu r ok.rules net),_,_,(afY (aB z) Z mk (E3 r net) w0 w1),?_,trivial⟩;rw[len_nil,aaA J,adr];rfl
    have J:¬bN (aB z) L=[]:=by simpa using J
    refine⟨?_,trivial⟩;rw[aaC J,aaI];rfl
   rw[aaa I];apply iW<;>intro Y
   ·refine⟨?_,trivial⟩;rfl
   exact absurd (by simpa using Y) I
  rw[aaa O];apply iW<;>intro h
  ·refine⟨?_,trivial⟩;rfl
  exact absurd (by simpa using h) O
 rw[aix,aaa g];rw[ai9,aaa g]at D;refine fW hC Tryz.func23 rfl (by kernel_rfl) fun _=>?_;refine⟨_,_,D,iW ?_ ?_⟩<;>intro h
 ·refine⟨?_,trivial⟩;rfl
 exact absurd (by simpa using h) g
open Reg (Full RK fo bh zx ax ai1 ajI ff kY dR bare s6 at')
theorem akj{a:fS}(z:Ft a){j:Nat}(D:j<a.bores.length)(hp:Reg.bD a.bores j=true):kY ⟨true,j⟩ 0 (aC a).placed.groups=(aC a).ofBore.getD j 0:=by
 have J:=Reg.s7 a.bores (aC a).pieces;have N:∀r∈a.coppers,∀q∈r,Full q:=fun r O=>(ph (z.art.reg r O)).full;have R:=Reg.DB (jv z.art) N;have hb:=agd (bs:=a.bores) (ps:=(aC a).pieces) a.lands (dR a.bores (aC a).bB (aC a).pieces.length);rw[R]at hb;have e2:=Reg.uM (Reg.aeO a.bores (aC a).pieces) J fun j D h=>Reg.uT D h;obtain⟨k,g,I,U,V⟩:=z.gr.b j D hp;have I:(aC a).ofBore[j]?=some (k:Int):=I;have L:(dR a.bores (aC a).bB (aC a).pieces.length)[k]?=some g:=by rw[show dR a.bores (aC a).bB (aC a).pieces.length=_ from e2];exact U
 have hi:Reg.dz ⟨true,j⟩ g=true:=by simp[Reg.dz,Reg.oA,V]
 have:=Reg.NT (m:=0) L hi fun i q W Y=>Reg.H3 J W L Y hi;rw[Reg.FZ _ _ _ 0 hb,this,aav,I,abC];rfl
theorem aky{q:ae}(z:Full q):told (aB [q])=[q]:=Reg.qS z
theorem ai_(D:bE s)(ks:cv 1000000 s){q:ae}(z:Full q)(I:cv 1400000 (aB [q])):af C 54 [.pv (aj (told s)),.pv (aj [q])] (.p (aj (told (bN s (aB [q]))))) []:=by
 have l:=Reg.vQ (K:=1000000) D ks;have:=mL D (Reg.gz z).1 (ks.up (by omega)) I (by rw[aky z,abS];omega);rw[aky z]at this;exact this
theorem aiY:∀{l:List (Int×List an)} {s:List (Int×List an)×List an},(∀a∈l,bE a.2/\cv 1000000 a.2/\0<=a.1/\a.1<=100000)->bE s.2/\cv 1000000 s.2->(∀z∈s.1,bE z.2/\cv 1000000 z.2/\0<=z.1/\z.1<=100000)->(∀z∈(l.foldl ax s).1,bE z.2/\cv 1000000 z.2/\0<=z.1/\z.1<=100000)/\(l.foldl ax s).1.length=s.1.length+l.length
 | [],s,_,_,h=>⟨h,rfl⟩
 | a::l,s,h1,h2,h3=>by
  obtain⟨I,J,N,O⟩:=h1 a adU;have L:=Reg.kH h2.1 I;have hl:=(Reg.b6 I h2.1).1;obtain⟨R,U⟩:=aiY (l:=l) (s:=ax s a) (fun b hb=>h1 b (aaw _ hb)) ⟨L.1,L.2.2 _ h2.2 J⟩ (fun z D=>by
   rcases abi.1 D with D | D
   ·exact h3 z D
   rw[ab_.1 D];exact⟨hl,I1 I h2.1 J,N,O⟩)
  have D:(ax s a).1.length=s.1.length+1:=acv;refine⟨R,U.trans ?_⟩;rw[D,aaB];omega
theorem akk:∀{l:List (Int×List an)} {A:List an},bE A/\cv 1000000 A->(∀z∈l,bE z.2/\cv 1000000 z.2)->bE (l.foldl (fun A z=>uo A z.2) A)/\cv 1000000 (l.foldl (fun A z=>uo A z.2) A)/\∀x y,at' (l.foldl (fun A z=>uo A z.2) A) x y=true↔at' A x y=true\/∃z∈l,at' z.2 x y=true
 | [],A,h,_=>⟨h.1,h.2,fun x y=>by simp⟩
 | z::l,A,h,hl=>by
  have I:=hl z adU;have D:=Reg.kH h.1 I.1;obtain⟨J,L,N⟩:=akk (l:=l) (A:=uo A z.2) ⟨D.1,D.2.2 _ h.2 I.2⟩ fun u O=>hl u (aaw _ O);refine⟨J,L,fun x y=>?_⟩;rw[aaq,N,D.2.1,adZ];simp only[adq,exists_eq_or_imp,or_assoc]
def yOf(l:List ae):List Int:=l.flatMap fun r=>[r.y0,r.y1]
theorem ajR(l:List ae):(yOf l).length=2*l.length:=by
 induction l with
 | nil=>rfl
 | cons r l ih=>
  have:(yOf (r::l)).length=(yOf l).length+2:=rfl;rw[aaB];omega
theorem akl(l:List ae):Reg.Yp (yOf l) l:=fun r z=>⟨aax.2 ⟨r,z,adU⟩,aax.2 ⟨r,z,aaw _ adU⟩⟩
theorem ajy{α:Type}(f:α->List Int)(M:Nat):∀(l:List α),(∀a∈l,(f a).length<=M)->(l.flatMap f).length<=l.length*M
 | [],_=>by simp
 | a::l,h=>by
  have ih:=ajy f M l fun b hb=>h b (aaw _ hb);have:=h a adU;rw[abz,acv,aaB,abR];omega
theorem ajS{YQ:List Int}:∀{l:List (Int×List an)} {s:List (Int×List an)×List an},(∀a∈l,bE a.2/\Reg.Yp YQ (told a.2))->bE s.2->Reg.Yp YQ (told s.2)->Reg.Yp YQ (told (l.foldl ax s).2)
 | [],_,_,_,h=>h
 | a::l,s,h1,h2,h3=>by
  obtain⟨z,D⟩:=h1 a adU;have I:=Reg.kH h2 z;refine ajS (l:=l) (s:=ax s a) (fun b hb=>h1 b (aaw _ hb)) I.1 ?_;have:=Reg.ajj 1 h3 D;rw[Reg.Ra h2 z]at this;exact this
theorem ais{p:Reg.Piece}(V:bE p.set)(hk:cv 1000000 p.set)(jB:(told p.set).length<=2000){z:List an}(L:bE z)(z3:cv 1000000 z){YQ:List Int}(W:Reg.Yp YQ (told z))(hl:YQ.length<=400000){c:Int}(I:0<=c)(J:c<=100000):
  (told (a_ p.set c c c c)).length<=4400000000/\(told (bN (a_ p.set c c c c) z)).length<=444400000000:=by
 have D:=Reg.bW V I I I I;have U:=D.2.2 1000000 100000 hk J J J J;have N:=Reg.b6 D.1 L;have O:=I1 D.1 L U;have y1:Reg.Yp (yOf ((told p.set).map fun q=>ff q c)) (told (a_ p.set c c c c)):=Reg.ajT (akl _);have l1:=ajR ((told p.set).map fun q=>ff q c);rw[aej]at l1;have Y:Reg.Yp (yOf ((told p.set).map fun q=>ff q c)++YQ) (told (bN (a_ p.set c c c c) z)):=by
  rw[<-Reg.FC D.1 L];exact Reg.ajj 3 (y1.mono fun y R=>abY _ R) (W.mono fun y R=>adt _ R)
 have t1:=Reg.aj9 (K:=1100000) D.1 U y1;have Z:=Reg.aj9 (K:=1100000) N.1 O Y;rw[acv]at Z;omega
theorem ajO{r:cP}(W:zd r)(layer:Int){J:List (Int×List an)×List an}(hZ:J=((ahZ r layer).map ail).foldl ax ([],[])):
  (∀z∈J.1,bE z.2/\cv 1000000 z.2/\0<=z.1/\z.1<=100000)/\bE J.2/\cv 1000000 J.2/\J.1.foldl (fun A z=>uo A z.2) []=J.2/\J.1.length<=100/\∃YQ:List Int,Reg.Yp YQ (told J.2)/\YQ.length<=400000:=by
 obtain⟨hf,Z⟩:=aiB r layer;have I:∀a∈(ahZ r layer).map ail,bE a.2/\cv 1000000 a.2/\0<=a.1/\a.1<=100000:=fun u Y=>by
  obtain⟨a,D,rfl⟩:=adS.1 ((Z u).1 Y);have N:=W.ar a (adu.1 D).1;have ra:=ph N.2.1;have:=N.2.2;simp[cL]at this;exact⟨ra.sok,ra.ink,this.1,this.2⟩
 have O:bE ([]:List an)/\cv 1000000 ([]:List an):=⟨trivial,fun b hb=>by cases hb⟩;obtain⟨e1,e2⟩:=aiY (s:=([],[])) I O (fun z L=>by cases L);have U:=akB (s:=([],[])) (fun a D=>⟨(I a D).1,(I a D).2.1⟩) O;obtain⟨R,V,_,_,_,r5⟩:=Reg.aik _ ([],[]) hf (fun a D=>(I a D).1) O.1;have hs:(ahZ r layer).length<=r.areas.length:=by
  have:∀(l s:List sJ),(l.foldl (Reg.aiq (fun a:sJ=>a.clearance) ah_) s).length=s.length+l.length:=fun l=>by
   induction l with
   | nil=>intro s;rfl
   | cons a l ih=>
    intro s;rw[aaq,ih,ajt,aaB];omega
  rw[ahZ,Reg.ai5,this,acs,abC];exact adb _ _
 have hna:=W.na;have e4:Reg.Yp (((ahZ r layer).map ail).flatMap fun a=>yOf (told a.2)) (told (((ahZ r layer).map ail).foldl ax ([],[])).2):=ajS (fun a D=>⟨(I a D).1,(akl _).mono fun y hy=>aax.2 ⟨a,D,hy⟩⟩) O.1 fun r hr=>by cases hr
 have e5:=ajy (fun a:Int×List an=>yOf (told a.2)) 4000 ((ahZ r layer).map ail) fun u Y=>by
  obtain⟨a,D,rfl⟩:=adS.1 ((Z u).1 Y);have N:=W.ar a (adu.1 D).1;have hl:=(ph N.2.1).len;have e:=nF N.2.1;show (yOf (told (aB a.region))).length<=4000;rw[ajR,e];omega
 rw[aej]at e5;rw[<-hZ]at e1 e2 U V r5 e4;have ho:=akk (l:=J.1) O fun z L=>⟨(e1 z L).1,(e1 z L).2.1⟩;refine⟨e1,U.1,U.2,Reg.iK _ _ ho.1 U.1 fun x y=>?_,?_,_,e4,by omega⟩
 ·obtain⟨q1,q2,q3⟩:=r5 x y;have V:J.1=R:=V;rw[abb,ho.2.2,q1,V];constructor
  ·rintro (h | ⟨z,L,h⟩)
   ·exact .inl h
   obtain⟨_,a,D,k,_⟩:=q2 z L h;exact .inr ⟨a,D,k⟩
  rintro (h | h)
  ·exact .inl h
  exact .inr (q3 rfl h)
 rw[aej,acs]at e2;omega
def aiH(s:List an):Prop:=bE s/\cv 1000000 s
theorem aiH.less{b:List an}(h:aiH s)(hb:bE b):aiH (bN s b):=⟨(Reg.b6 h.1 hb).1,I1 h.1 hb h.2⟩
theorem lm{b:List an}(h:aiH s)(hb:bE b)(z:cv 1400000 b)(hn:(told b).length<=2300000000000):af C 54 [.pv (aj (told s)),.pv (aj (told b))] (.p (aj (told (bN s b)))) []:=
 mL h.1 hb (h.2.up (by omega)) z (by have:=Reg.vQ (K:=1000000) h.1 h.2;omega)
theorem ajz(r:cP)(V:zd r)(a:fS)(N:Ft a)(nets:List ByteArray)(hn:nets.length=(aC a).placed.groups.length)(net:ByteArray)(layer:Int):af C 65 [.pv (.ag (rl r)),.pv (FR a),.pv (strs nets),.pv (str net),.pv (i64 layer)] (.p (aj (told (ahT r a nets net layer)))) []:=by
 have lb:=ai a.bores bc;have lr:(eB (aC a).pieces).length=(aC a).pieces.length:=aej ..;have jB:=N.jB;have Td:=N.art.jB;have B_:=jv N.art;have HY:=V.nums;simp only[gM,cL,aaZ,aaH]at HY;have gok:=(ahk N).ok;obtain⟨hf,hm⟩:=aiB r layer;have aku:=ajZ V N nets net layer hf hm;obtain⟨D,hZ⟩:∃D,D=((ahZ r layer).map ail).foldl ax ([],[]):=⟨_,rfl⟩;have akm:=ajK r V layer;obtain⟨z1,z2,z3,z4,z5,YQ,y0,yl⟩:=ajO V layer hZ;rw[<-hZ]at aku akm;have lZ:=ai D.1 zrc;have rg:=ph N.art.out;have ot:=nF N.art.out;have hsh:=xc _ rg.sok rg.ink (by rw[ot];have:=rg.len;omega) r.edge (by omega) (by omega);rw[ot]at hsh;obtain⟨c1,c2⟩:=Jn rg.sok rg.ink (n:=r.edge) (by omega);obtain⟨I,hI⟩:∃I,I=coreS (aB a.outline) r.edge r.edge r.edge r.edge:=⟨_,rfl⟩;obtain⟨FRE,hFS⟩:∃FRE,FRE=ah8 r a nets net layer:=⟨_,rfl⟩;rw[<-hFS]at aku;rw[ah8,<-hI]at hFS;rw[<-hI]at hsh c1 c2;obtain⟨R,hR⟩:∃R,R=ahT r a nets net layer:=⟨_,rfl⟩;rw[<-hR]at aku ⊢;refine fW hC Tryz.func65 rfl (by kernel_rfl) fun _=>?_;refine⟨_,_,hsh,?_⟩;refine aJ (fun x:Nat×List an=>ahN r (aC a).ofBore nets net layer x.1 (a.bores.drop x.1) x.2=FRE/\aiH x.2/\x.1<=a.bores.length) (fun x=>[(1,.p (FR a)),(2,.p (strs nets)),(3,.p (str net)),(4,.p (i64 layer)),(5,.bx 5 0),(11,.p (aj (told x.2))),(12,.p (i64 x.1))]) (fun _=>[(5,.box (C_ r))]) (fun x=>a.bores.length-x.1) (0,I) _ (au.refl _ _) ⟨hFS.symm,⟨c1,c2⟩,aaj _⟩ ⟨Z,Z,Z,Z,Z,Z,Z,Y⟩ ⟨Z,Y⟩ fun ⟨k,s⟩ hx t h=>?_;obtain⟨x1,W,x3⟩:=hx;dsimp only at x1 W x3;apply iW<;>intro g1
 ·obtain⟨x,DL⟩:=ak (l:=a.bores) (i:=k) (by omega);have bx:=B_ x (aad DL);have hfq:Full (aa x):=Reg.bX bx;obtain⟨so1,ko1⟩:=gz bx;have wfq:Full (ff (aa x) r.clearance):=Reg.l6 hfq (by omega);have ew:=NP hfq (n:=r.clearance) (by omega);have O:=Reg.bW so1 (l:=r.clearance) (r:=r.clearance) (d:=r.clearance) (u:=r.clearance) (by omega) (by omega) (by omega) (by omega);have wk:=O.2.2 1010000 100000 ko1 (by omega) (by omega) (by omega) (by omega);have Qo:=ai_ W.1 W.2 wfq (by rw[ew];exact wk.up (by omega));rw[ew]at Qo;have F4:=ai_ W.1 W.2 hfq (ko1.up (by omega));have L:=vS (aa x) r.clearance (sW (by
   have:=Reg.er bx;unfold RK at this ⊢;omega) hfq) (by omega) (by omega)
  rw[drop_at DL,ahN]at x1;refine⟨(bc x),(idx rfl DL),?_⟩;by_cases th:through x layer=true
  ·rw[aap th]at x1;simp only[through,aaZ,aaH]at th;apply iW<;>intro c1
   ·exfalso;omega
   apply iW<;>intro c2
   ·exfalso;omega
   refine⟨_,_,(di x bx),?_⟩;have hob:=ajQ N hn (j:=k) (by omega);have epl:Reg.bD a.bores k=x.plated:=by rw[Reg.bD,aav,DL];rfl
   apply iW<;>intro c3
   ·have c3':x.plated=true:=c3;have hgb:=akj N (j:=k) (by omega) (by rw[epl];exact c3');have hgo:=xx a ⟨true,k⟩ (aC a).pieces (aC a).placed.groups (aC a).bB gok.jB (fun g V=>⟨(gok.len g V).1,(gok.len g V).2.1⟩);rw[hgb]at hgo;rcases hob with⟨gk,sk,k1,k2,k3,k4⟩ | ⟨k1,k2⟩
    ·rw[k2]at hgo;rw[aiw,k2,k4]at x1;refine⟨_,_,hgo,[str sk],(idx rfl k3),iW ?_ ?_⟩<;>intro c4
     ·rw[aap (.inr c4)]at x1;exact⟨_,_,L,_,_,Qo,wO (by omega),(k+1,bN s (a_ (aB [aa x]) r.clearance r.clearance r.clearance r.clearance)),_,au.refl _ _,⟨x1,W.less O.1,by dsimp only;omega⟩,by dsimp only;omega,⟨Z,Z,Z,Z,Z,Z,Z,Y⟩,⟨Z,Y⟩⟩
     rw[aaa (by rintro (e | e);omega;exact e c4)]at x1;exact⟨_,_,F4,wO (by omega),(k+1,bN s (aB [aa x])),_,au.refl _ _,⟨x1,W.less so1,by dsimp only;omega⟩,by dsimp only;omega,⟨Z,Z,Z,Z,Z,Z,Z,Y⟩,⟨Z,Y⟩⟩
    obtain⟨gk,g,h1,_,_⟩:=N.gr.b k (by omega) (by rw[epl];exact c3');have h1:(aC a).ofBore[k]?=some (gk:Int):=h1;rw[h1]at k1;injection k1 with k1;omega
   have c3':x.plated=false:=by simpa using c3
   have hd:(aC a).ofBore.getD k 0=-1:=by rw[aav,N.gr.d k (by omega) (by rw[epl];exact c3')];rfl
   rw[aiw,hd,aap (.inl (by decide))]at x1;exact⟨_,_,L,_,_,Qo,wO (by omega),(k+1,bN s (a_ (aB [aa x]) r.clearance r.clearance r.clearance r.clearance)),_,au.refl _ _,⟨x1,W.less O.1,by dsimp only;omega⟩,by dsimp only;omega,⟨Z,Z,Z,Z,Z,Z,Z,Y⟩,⟨Z,Y⟩⟩
  rw[aaa th]at x1;simp only[through,aaZ,aaH]at th;apply iW<;>intro c1
  ·exact⟨wO (by omega),(k+1,s),_,au.refl _ _,⟨x1,W,by dsimp only;omega⟩,by dsimp only;omega,⟨Z,Z,Z,Z,Z,Z,Z,Y⟩,⟨Z,Y⟩⟩
  apply iW<;>intro c2
  ·exact⟨wO (by omega),(k+1,s),_,au.refl _ _,⟨x1,W,by dsimp only;omega⟩,by dsimp only;omega,⟨Z,Z,Z,Z,Z,Z,Z,Y⟩,⟨Z,Y⟩⟩
  exfalso;omega
 rw[aaz (by omega),ahN]at x1;subst x1;refine⟨_,_,akm,?_⟩;refine aJ (fun x:Nat×List an=>(D.1.drop x.1).foldl (fun A z=>uo A z.2) x.2=D.2/\aiH x.2/\x.1<=D.1.length) (fun x=>[(1,.p (FR a)),(2,.p (strs nets)),(3,.p (str net)),(4,.p (i64 layer)),(5,.bx 5 0),(11,.p (aj (told s))),(16,.p (.sl (D.1.map zrc))),(17,.p (aj (told x.2))),(18,.p (i64 x.1))]) (fun _=>[(5,.box (C_ r))]) (fun x=>D.1.length-x.1) (0,[]) _ (au.nil hC _ 17 rfl) ⟨z4,⟨trivial,fun b hb=>by cases hb⟩,aaj _⟩ ⟨Z,Z,Z,Z,Z,Z,Z,Z,Z,Y⟩ ⟨Z,Y⟩ fun ⟨j,A⟩ hy t h=>?_;obtain⟨y1,y2,y3⟩:=hy;dsimp only at y1 y2 y3;apply iW<;>intro g2
 ·obtain⟨z,hz⟩:=ak (l:=D.1) (i:=j) (by omega);obtain⟨q1,q2,q3,q4⟩:=z1 z (aad hz);rw[drop_at hz,aaq]at y1;have Wt:=S6 y2.1 q1 (y2.2.up (by omega)) (q2.up (by omega)) (by have:=Reg.vQ (K:=1000000) y2.1 y2.2;have:=Reg.vQ (K:=1000000) q1 q2;omega);have ho:=Reg.kH y2.1 q1;exact⟨(zrc z),(idx rfl hz),_,_,Wt,wO (by omega),(j+1,uo A z.2),_,au.refl _ _,⟨y1,⟨ho.1,ho.2.2 _ y2.2 q2⟩,by dsimp only;omega⟩,by dsimp only;omega,⟨Z,Z,Z,Z,Z,Z,Z,Z,Z,Y⟩,⟨Z,Y⟩⟩
 rw[aaz (by omega),adk]at y1;rw[y1];refine⟨_,_,(afP a N),?_⟩;refine aJ (fun x:Nat×List an=>aiA r (aC a).ofPiece nets net layer D.1 D.2 x.1 ((aC a).pieces.drop x.1) x.2=R/\aiH x.2/\x.1<=(aC a).pieces.length) (fun x=>[(1,.p (FR a)),(2,.p (strs nets)),(3,.p (str net)),(4,.p (i64 layer)),(5,.bx 5 0),(11,.p (aj (told x.2))),(16,.p (.sl (D.1.map zrc))),(17,.p (aj (told D.2))),(19,.p (ints (aC a).ofPiece)),(20,.p (i64 x.1))]) (fun _=>[(5,.box (C_ r))]) (fun x=>(aC a).pieces.length-x.1) (0,s) _ (au.refl _ _) ⟨aku,W,aaj _⟩ ⟨Z,Z,Z,Z,Z,Z,Z,Z,Z,Z,Y⟩ ⟨Z,Y⟩ fun ⟨i,o⟩ hw t h=>?_;obtain⟨U,w2,w3⟩:=hw;dsimp only at U w2 w3;apply iW<;>intro g3
 ·obtain⟨p,hp⟩:=ak (l:=(aC a).pieces) (i:=i) (by omega);have J:=N.pc p (aad hp);obtain⟨gi,si,i1,i2,i3,i4⟩:=afM N hn (i:=i) (by omega);rw[drop_at hp,aiA,i2,i4]at U;refine⟨[i64 gi],(idx rfl i1),[str si],(idx rfl i3),[i64 p.layer],(idx rfl hp),iW ?_ ?_⟩<;>intro c1
  ·rw[aap (.inl c1)]at U;exact⟨wO (by omega),(i+1,o),_,au.refl _ _,⟨U,w2,by dsimp only;omega⟩,by dsimp only;omega,⟨Z,Z,Z,Z,Z,Z,Z,Z,Z,Z,Y⟩,⟨Z,Y⟩⟩
  apply iW<;>intro c2
  ·rw[aap (.inr c2)]at U;exact⟨wO (by omega),(i+1,o),_,au.refl _ _,⟨U,w2,by dsimp only;omega⟩,by dsimp only;omega,⟨Z,Z,Z,Z,Z,Z,Z,Z,Z,Z,Y⟩,⟨Z,Y⟩⟩
  rw[aaa (fun e=>e.elim (fun h=>h c1) c2),ajI]at U;obtain⟨Q,hQ⟩:∃Q,Q=D.1.foldl (ai1 p.set) o:=⟨_,rfl⟩;rw[<-hQ]at U;refine aJ (fun x:Nat×List an=>(D.1.drop x.1).foldl (ai1 p.set) x.2=Q/\aiH x.2/\x.1<=D.1.length) (fun x=>[(1,.p (FR a)),(2,.p (strs nets)),(3,.p (str net)),(4,.p (i64 layer)),(5,.bx 5 0),(11,.p (aj (told x.2))),(16,.p (.sl (D.1.map zrc))),(17,.p (aj (told D.2))),(19,.p (ints (aC a).ofPiece)),(20,.p (i64 i)),(21,.p (str si)),(22,.p (i64 x.1))]) (fun _=>[(5,.box (C_ r))]) (fun x=>D.1.length-x.1) (0,o) _ (au.refl _ _) ⟨hQ.symm,w2,aaj _⟩ ⟨Z,Z,Z,Z,Z,Z,Z,Z,Z,Z,Z,Z,Y⟩ ⟨Z,Y⟩ fun ⟨j',o'⟩ hv t h=>?_;obtain⟨v1,v2,v3⟩:=hv;dsimp only at v1 v2 v3;apply iW<;>intro g4
  ·obtain⟨z,hz⟩:=ak (l:=D.1) (i:=j') (by omega);obtain⟨q1,q2,q3,q4⟩:=z1 z (aad hz);rw[drop_at hz,aaq,ai1]at v1;have O:=Reg.bW J.sok q3 q3 q3 q3;have wk:=O.2.2 1000000 100000 J.ink q4 q4 q4 q4;have han:=Reg.Ky O.1 q1;have L:=HQ p.set J.sok (J.ink.up (by omega)) z.1 q3 q4;have hba:=akr O.1 q1 (wk.up (by omega)) (q2.up (by omega)) (by have:=(ais J.sok J.ink J.jB z2 z3 y0 yl q3 q4).1;have:=Reg.vQ (K:=1000000) q1 q2;omega);have kan:=Dd han.1 q1 q2 fun x y h=>by
    rw[han.2.1,aaZ]at h;exact h.2
   have lan:=Reg.vQ (K:=1000000) han.1 kan;have lsp:=(ais J.sok J.ink J.jB z2 z3 y0 yl q3 q4).1;exact⟨[aj (told p.set)],(idx rfl hp),(zrc z),(idx rfl hz),_,_,L,(zrc z),(idx rfl hz),_,_,hba,_,_,(lm v2 han.1 (kan.up (by omega)) (by omega)),wO (by omega),(j'+1,bN o' (nM (a_ p.set z.1 z.1 z.1 z.1) z.2)),_,au.refl _ _,⟨v1,v2.less han.1,by dsimp only;omega⟩,by dsimp only;omega,⟨Z,Z,Z,Z,Z,Z,Z,Z,Z,Z,Z,Z,Y⟩,⟨Z,Y⟩⟩
  rw[aaz (by omega),adk]at v1;subst v1;have cn:=aie V net;have ci:=aie V si;obtain⟨cc,Xq⟩:∃cc,cc=max (ae2 r net) (ae2 r si):=⟨_,rfl⟩;rw[<-Xq]at U;have m0:0<=cc:=by omega
  have m1:cc<=100000:=by omega
  have O:=Reg.bW J.sok m0 m0 m0 m0;have wk:=O.2.2 1000000 100000 J.ink m1 m1 m1 m1;have RJ:=ais J.sok J.ink J.jB z2 z3 y0 yl m0 m1;have hle:=Reg.b6 O.1 z2;have kle:=I1 O.1 z2 wk;have L:=HQ p.set J.sok (J.ink.up (by omega)) cc m0 m1;have hl3:=mL O.1 z2 (wk.up (by omega)) (z3.up (by omega)) (by have:=RJ.1;have:=Reg.vQ (K:=1000000) z2 z3;omega);rw[Xq]at L;refine⟨[aj (told p.set)],(idx rfl hp),_,_,(afF r V net),_,_,(afF r V si),_,_,L,?_⟩;rw[<-Xq];exact⟨_,_,hl3,_,_,(lm v2 hle.1 (kle.up (by omega)) (by omega)),wO (by omega),(i+1,bN o' (bN (a_ p.set cc cc cc cc) D.2)),_,au.refl _ _,⟨U,v2.less hle.1,by dsimp only;omega⟩,by dsimp only;omega,⟨Z,Z,Z,Z,Z,Z,Z,Z,Z,Z,Y⟩,⟨Z,Y⟩⟩
 rw[aaz (by omega),aiA]at U;refine⟨?_,trivial⟩;rw[U]
open Reg (dD)
open Reg (bG)
theorem akn(s:List Reg.an):(gx s).1.length<=2000:=by
 rw[gx];split
 ·simp
 simp only;omega
theorem ng(l:List ae)(hN:l.length<=2000):af C 12 [.pv (aj l),.pv (aj l)] (.p (bool true)) []:=by
 have:=Az l l (by omega);rw[aaA (rfl:l=l)]at this;exact this
theorem ajA:lh M4=false:=by decide
theorem aja(r:cP)(R:e8 r)(a:fS)(U:ly a)(nets:List ByteArray)(V:afj nets)(net:ByteArray)(J:ue net)(layer:Int):af C 22 [.pv (.ag (rl r)),.pv (.ag (dX a)),.pv (strs nets),.pv (str net),.pv (i64 layer)] (.tu [aj (aic r a nets net layer).1,i64 (aic r a nets net layer).2]) []:=by
 have L:(a.coppers.map fun r=>[aj r]).length=a.coppers.length:=by rw[aej]
 obtain⟨F,z⟩:∃F,F=ah3 r a nets net layer:=⟨_,rfl⟩;rw[aic,<-z];rw[ah3]at z;have I:=age r R a U nets V;refine fW hC Tryz.func22 rfl (by kernel_rfl) fun _=>?_;by_cases g:aeJ r a nets=0
 ·have ok:=aiE g;have cop:=ok.board.art.cop;rw[afr,aap g,g]at I;rw[aaa (by simpa using g)]at z;refine⟨_,_,I,_,_,(wH net J),?_⟩;cases g2:lh net
  ·rw[aap (by
    by_cases e:net=M4
    ·exact .inl e
    right;rw[afe,aaC e,g2];rfl)]at z
   refine⟨?_,trivial⟩;rw[z];rfl
  have ne:net≠M4:=by
   rintro rfl;rw[ajA]at g2;cases g2
  rw[aaa (by
   rintro (e | e)
   ·exact ne e
   rw[afe,g2,ads]at e;cases e)]at z
  refine⟨⟨by rw[L];omega,by rw[L];omega⟩,_,_,(wD layer 0 (((a.coppers.map fun r=>[aj r]).length:Int)-1)),?_⟩;rw[L];cases g3:Reg.within layer 0 ((a.coppers.length:Int)-1)
  ·rw[g3,aaa (by decide)]at z;have D:(decide (0<=layer)&&decide (layer<=(a.coppers.length:Int)-1))=false:=g3;rw[D];refine⟨?_,trivial⟩;rw[z];rfl
  rw[g3,aap rfl]at z;have D:(decide (0<=layer)&&decide (layer<=(a.coppers.length:Int)-1))=true:=g3;rw[D,z,aap rfl];have N:=ajz r ok.rules a ok.board nets ok.len net layer;generalize ahT r a nets net layer=W at *;have lt:=ai (told W) rc;refine⟨_,_,N,iW ?_ ?_⟩<;>intro O
  ·rw[lt]at O;rw[gx,aap (by omega)];refine⟨?_,trivial⟩;rfl
  rw[lt]at O;rw[gx,aaa (by omega)];refine⟨?_,trivial⟩;rfl
 rw[afr,aaa g]at I;rw[aap g]at z;rw[aaa (by rw[z];exact g),z];refine⟨_,_,I,iW ?_ ?_⟩<;>intro h
 ·refine⟨?_,trivial⟩;rfl
 exact absurd (by simpa using h) g
theorem ajb(h:bE s):decide ((((told s).map rc).length:Int)=0)=decide (s=[]):=by
 rw[ai (told s) rc,decide_eq_decide];refine⟨fun e=>Reg.qD h (adl (by omega)),fun e=>by rw[e];rfl⟩
theorem aj4(r:cP)(hr:e8 r)(a:fS)(ha:ly a)(nets:List ByteArray)(hn:afj nets)(net:ByteArray)(R:ue net)(layer:Int)(z:List ae):af C 24 [.pv (.ag (rl r)),.pv (.ag (dX a)),.pv (strs nets),.pv (str net),.pv (i64 layer),.pv (aj z)] (.tu [bool (aix r a nets net layer z).1,i64 (aix r a nets net layer z).2]) []:=by
 have D:=aja r hr a ha nets hn net R layer;by_cases g:ah3 r a nets net layer=0
 ·rw[aix,aap g];rw[aic,aap g]at D;obtain⟨ok,_⟩:=aiX g;have Y:=(aio ok.rules ok.board nets net layer).1;have J:=Y.sok;have U:=Y.ink;generalize ahT r a nets net layer=RS at *;refine fW hC Tryz.func24 rfl (by kernel_rfl) fun _=>?_;by_cases L:(gx RS).2=0
  ·obtain⟨e1,e2⟩:=aj6 L;rw[aap L];rw[e1]at D;refine⟨_,_,D,iW ?_ ?_⟩<;>intro h1
   ·exact absurd L (by simpa using h1)
   refine⟨_,_,(kS z),?_⟩;by_cases I:Reg.aF z=0
   ·rw[aap I];have rk:=ph I;have V:=nF I;obtain⟨w0,w1⟩:=agx ok.rules net;have Z:=mL rk.sok J (rk.ink.up (by omega)) (U.up (by omega)) (by rw[V];have:=rk.len;omega);have N:=afN (aB z) rk.sok rk.ink (by rw[V];have:=rk.len;omega) (E3 r net) w0 w1;have O:=ajb (Reg.b6 rk.sok J).1;have z2:=ajb (Reg.aeS rk.sok (E3 r net)).1;rw[V]at Z N;apply iW<;>intro W
    ·exact absurd I (by simpa using W)
    refine⟨_,_,Z,iW ?_ ?_⟩<;>intro h3
    ·rw[aaA h3]at O;rw[<-O,adr,<-z2];refine⟨_,_,(agp r ok.rules net),_,_,N,?_,trivial⟩;rfl
    rw[aaC h3]at O;rw[<-O,aaI];refine⟨?_,trivial⟩;rfl
   rw[aaa I];apply iW<;>intro W
   ·refine⟨?_,trivial⟩;rfl
   exact absurd (by simpa using W) I
  rw[aaa L];refine⟨_,_,D,iW ?_ ?_⟩<;>intro h
  ·refine⟨?_,trivial⟩;rfl
  exact absurd (by simpa using h) L
 rw[aix,aaa g];rw[aic,aaa g]at D;refine fW hC Tryz.func24 rfl (by kernel_rfl) fun _=>?_;refine⟨_,_,D,iW ?_ ?_⟩<;>intro h
 ·refine⟨?_,trivial⟩;rfl
 exact absurd (by simpa using h) g
theorem ako(r:cP)(a:fS)(nets:List ByteArray)(net:ByteArray)(layer:Int):(aic r a nets net layer).1.length<=2000:=by
 rw[aic];split
 ·exact akn _
 simp
theorem ai3(r:cP)(I:e8 r)(a:fS)(J:ly a)(nets:List ByteArray)(L:afj nets)(net:ByteArray)(D:ue net)(layer:Int)(z:List ae):af C 5 [.pv (.ag (rl r)),.pv (.ag (dX a)),.pv (strs nets),.pv (str net),.pv (i64 layer),.pv (aj z)] (.p (bool true)) []:=by
 have N:=ajM r I a J nets L net D layer;have O:=aja r I a J nets L net D layer;have e1:=ajN r I a J nets L net D layer z;have e2:=aj4 r I a J nets L net D layer z;have U:=ng _ (ako r a nets net layer);generalize aic r a nets net layer=R at *;generalize aix r a nets net layer z=E at *;obtain⟨R1,R2⟩:=R;obtain⟨E1,E2⟩:=E;refine fW hC Tryz.func5 rfl (by kernel_rfl) fun _=>?_;refine⟨_,_,N,_,_,O,_,_,e1,_,_,e2,_,_,U,iW ?_ ?_⟩<;>intro V
 ·apply iW<;>intro W
  ·apply iW<;>intro Y
   ·refine⟨_,_,KG,?_,trivial⟩;rfl
   exact absurd rfl Y
  exact absurd rfl W
 exact absurd rfl V
end M
end Go.Proofs.YtfloceomobknoaaGreatDoor
namespace Go.Proofs.YtfloceomobknoaaGreatDoor
open Go.ChangeShapes Go.WideShapes Go.ChangeAt Go.RowKit Go.AM
open Go.ChangeMaps (open_string shut_string)
open Go.Proofs.YtfloceomobknoaaGreatDoor.M
namespace rulesRoomMatchSpec
theorem Af{P:Program}{f:FuncId}{fn:Func}{s:ChangeSpec}{c:OpenClaim}(D:(laidOutB P)=true)(I:(mapsRowed P)=true)(J:((c.inPlace==P.inPlace f))=true)(L:((c.unfollowed==P.unfollowed f))=true)(N:((c.recurses==P.recurses f))=true)(O:((c.named==P.varsNamed f))=true)(R:((c.plainKeys==P.plainKeys))=true)(U:(P.stopsHeard)=true)(V:(P.mayEnter)=true)(W:((c.lifted==P.liftsFinal))=true)(Y:((P.make==some c.make))=true)
  (z:(c.wf (OpenSpec.ofChange s)&&true&&fn.params.all (P.readableRec ·)&&namedTie P c.named s.vars&&(c.stops==[])&&(P.stops==[])&&(c.knobs==[])&&(P.stopKnobs==[])&&true&&(c.maps==(fn.params.toList++s.plain.varTypes P).any (P.mapsRec ·))&&(c.ifaces==(fn.params.toList++s.plain.varTypes P).any (P.ifacesRec ·))&&(c.mapsOut==P.mapsAmong fn.resultTypes.toList)&&(c.loops==(fn.params.toList++s.plain.varTypes P).any (P.loopsFrom ·))&&(c.wideKeys==(fn.params.toList++s.plain.varTypes P++fn.resultTypes.toList).any (P.wideKeysFrom ·))&&s.vars.all (P.varReadable ·)&&fn.resultTypes.all (fun t=>P.readableRec t&&decide (t<P.types.size))&&(c.ifacesOut==fn.resultTypes.toList.any (P.ifacesRec ·))&&(c.loopsOut==fn.resultTypes.toList.any (P.loopsFrom ·))&&c.shortTexts.isNone&&(c.kinds==(if c.domain.isEmpty then [] else fn.params.toList.map fun t=>match P.underlying t with | some (.int k)=>some k | _=>none))&&(c.pinned==c.pinnedBy)&&(c.veiled==(fn.params.toList++s.plain.varTypes P++fn.resultTypes.toList).any (P.veiledRec ·))&&c.veiledFits P fn.params.toList (fn.params.toList++s.plain.varTypes P++fn.resultTypes.toList))=true):joinedFacts P f fn s c=true:=by
 simp only[aaZ]at z;simp only[joinedFacts,aaZ];simp only[D,I,J,L,N,O,R,U,V,W,Y,and_true];simp only[and_assoc,and_true]at z ⊢;exact z
theorem Ti{W:World}(z:laidMetH Tryz.prog Rows.rulesRoomMatchSpecUptoRow.laid W)(h:W.ShapedOpen Tryz.prog):M.Env (fun b=>b<W.heap.size) W:=by
 refine EM (Go.Proofs.cell_of_shapedOpen_int (zero:=#[.int .i64 0]) (t:=3) h (abJ (by kernel_rfl)) (by kernel_rfl) rfl (by kernel_rfl) (by kernel_rfl) ab0) ?_;rw[MakeChecks.laidMetH_plain _ _ _ (by kernel_rfl)]at z;exact Lib.tabIs_of_head (rest:=Rows.rulesRoomMatchSpecUptoRow.laid.drop 3) M.St (by kernel_rfl) Tryz.underlying297 adF (by kernel_rfl) (by kernel_rfl) (laidMet.tail (laidMet.tail z))
theorem Og(H:Type)(enc:TypeId×Value->H)(W:World)(base:Nat)(args:Array Value)(ds Z:List (DataW H))(before:List MemPlace)
  (z:∀(j:Nat) t v,Tryz.f5.params[j]?=some t->args[j]?=some v->Value.okWide Tryz.prog W .any base t v)
  (hW:DataW.Whole enc Tryz.prog Tryz.f5.params.toList Rows.rulesRoomMatchSpecSpec.vars false W args.toList ds Z before) (hk:Rows.uptoSmall H (ds++Z)=true) (hE:M.Env (fun b=>b<W.heap.size) W):
  Calls Tryz.prog 5 args W fun e J=>∃v,e=.returned v/\Rows.rulesRoomMatchSpecSpec.post enc Tryz.prog Tryz.f5 false true false false W args v J:=by
 have N:=hW;obtain⟨pp,q,O,hV,rfl,DI,Oo⟩:=hW;have L:DataW.TrodAll enc Tryz.prog W 0 (fun _=>true) true Tryz.f5.params.toList args.toList ds pp:=O;have I:=fun (J:World) (hb:Below W.heap.size W J)=>By U9 hb (by kernel_rfl) L L.lt;rw[Tryz.params5]at L z;obtain⟨v0,vs0,d0,ds0,p0,q0,hargs,rfl,ZF,h0,r0⟩:=trodAll_cons L;obtain⟨v1,vs1,d1,ds1,p1,q1,rfl,rfl,rfl,h1,r1⟩:=trodAll_cons r0;obtain⟨v2,vs2,d2,ds2,p2,q2,rfl,rfl,rfl,h2,r2⟩:=trodAll_cons r1;obtain⟨v3,vs3,d3,ds3,p3,q3,rfl,rfl,rfl,h3,r3⟩:=trodAll_cons r2;obtain⟨v4,vs4,d4,ds4,p4,q4,rfl,rfl,rfl,h4,r4⟩:=trodAll_cons r3;obtain⟨v5,vs5,d5,ds5,p5,q5,rfl,rfl,rfl,h5,r5⟩:=trodAll_cons r4;obtain⟨rfl,rfl,rfl⟩:=trodAll_nil r5;obtain rfl:args=#[v0,v1,v2,v3,v4,v5]:=by cases args;simp_all
 obtain⟨rfl,rfl⟩:=trodVars_none hV;obtain⟨_,w0,r,rfl,z0⟩:=yS (S:=fun b=>b<W.heap.size) Tryz.underlying39 (M8 fun _ h=>h) (z 0 39 v0 rfl rfl) h0;have R:e8 r:=M9 (Da _ _ _ (IU hk (abY _ (by repeat (first | exact adU .. | apply aaw)))) z0);obtain⟨_,w1,a,rfl,z1⟩:=yS (S:=fun b=>b<W.heap.size) Tryz.underlying27 (SZ fun _ h=>h) (z 1 27 v1 rfl rfl) h1;have U:ly a:=S0 (HI _ _ _ (IU hk (abY _ (by repeat (first | exact adU .. | apply aaw)))) z1);obtain⟨_,w2,nets,e2,z2⟩:=agV (S:=fun b=>b<W.heap.size) adf (PB fun _ h=>h) (z 2 49 v2 rfl rfl) h2;cases e2;have V:afj nets:=ahp (IU hk (abY _ (by repeat (first | exact adU .. | apply aaw)))) z2;obtain⟨net,rfl,rfl,rfl,w3⟩:=open_string aca (z 3 9 v3 rfl rfl) h3;have Y:ue net:=M_ (ajc hk (abY _ (by repeat (first | exact adU .. | apply aaw))));obtain⟨layer,rfl,rfl,rfl,w4⟩:=open_int ab0 (z 4 3 v4 rfl rfl) h4;obtain⟨_,w5,D,e5,-⟩:=agV (S:=fun b=>b<W.heap.size) Tryz.underlying22 (yZ fun _ h=>h) (z 5 22 v5 rfl rfl) h5;cases e5;refine (Sy (C:=C) (xs:=[.ag (rl r),.ag (dX a),strs nets,str net,i64 layer,aj D]) (y:=.bool true) (ai3 r R a U nets V net Y layer D) hE (Bv (w0) (Bv (w1) (Bv (w2) (Bv (.im _) (Bv (.im _) (Bv (w5) MU))))))).mono fun e J ⟨he,hb⟩=>?_;subst he;exact⟨_,rfl,AG (pa:=pp) (pv:=[]) N (fun _ _ _=>trodAll_cons_mk (shut_bool acn _) trodAll_mk0) (fun sp h=>I J hb sp (fun p hp=>h p (abY _ hp))) (fun _ _=>rfl) rfl
  hb (ok_one (by kernel_rfl) rfl (okWide_bool_mk acn _))⟩
theorem reads(os:Os){H:Type}(enc:TypeId×Value->H):∃z,DataW.whole enc Tryz.prog ((World.laidAll Tryz.prog os Rows.rulesRoomMatchSpecUptoRow.laid).forCall (fun _ _=>0) ⟨#[],#[.agg #[.int .i64 0,.int .i64 0,.int .i64 0,.int .i64 0,.int .i64 0,.slice none 0 0,.slice none 0 0],.agg #[.slice none 0 0,.slice none 0 0,.slice none 0 0,.slice none 0 0],.slice none 0 0,.string ByteArray.empty,.int .i64 0,.slice none 0 0],[]⟩).memory Tryz.f5.params.toList Rows.rulesRoomMatchSpecSpec.vars false (#[.agg #[.int .i64 0,.int .i64 0,.int .i64 0,.int .i64 0,.int .i64 0,.slice none 0 0,.slice none 0 0],.agg #[.slice none 0 0,.slice none 0 0,.slice none 0 0,.slice none 0 0],.slice none 0 0,.string ByteArray.empty,.int .i64 0,.slice none 0 0]:Array Value).toList 8=some ([.agg [.lit (.int .i64 0),.lit (.int .i64 0),.lit (.int .i64 0),.lit (.int .i64 0),.lit (.int .i64 0),.nil,.nil],.agg [.nil,.nil,.nil,.nil],.nil,.lit (.string []),.lit (.int .i64 0),.nil],[],z):=
 ⟨[],by kernel_rfl⟩
theorem lifted(os:Os)(z:os.Started)(H:Type)(enc:TypeId×Value->H)(F:Stop.Interp):
  ReturnsInHanded {} Tryz.checked os 5 .any ((Rows.OpenSpec.upto Rows.rulesRoomMatchSpecSpec).preRow enc Tryz.prog Tryz.f5 Rows.rulesRoomMatchSpecUptoRow.domain false Rows.rulesRoomMatchSpecUptoRow.laid) (((Rows.OpenSpec.upto Rows.rulesRoomMatchSpecSpec).at F).post enc Tryz.prog Tryz.f5 false true false false):=by
 obtain⟨places,J⟩:=reads os enc;refine returnsInHanded_of_row (C:=Tryz.checked) (s:=Rows.OpenSpec.upto Rows.rulesRoomMatchSpecSpec) own z (by kernel_rfl) Tryz.func5
  (xr (enc:=enc) (C:=Tryz.checked) (World.laidAll Tryz.prog os Rows.rulesRoomMatchSpecUptoRow.laid) #[.agg #[.int .i64 0,.int .i64 0,.int .i64 0,.int .i64 0,.int .i64 0,.slice none 0 0,.slice none 0 0],.agg #[.slice none 0 0,.slice none 0 0,.slice none 0 0,.slice none 0 0],.slice none 0 0,.string ByteArray.empty,.int .i64 0,.slice none 0 0] (World.laidAll_os _ _ _) (World.shaped_of_ZipB (by kernel_rfl) (by kernel_rfl)) (by kernel_rfl)
   (OpenSpec.preRow_of_cond 8 J (by kernel_rfl) (fun k hk=>by cases hk;kernel_rfl) (by kernel_rfl)
    (by rw[MakeChecks.laidMetH_plain _ _ _ (by kernel_rfl)];exact laidMet_laidAll _ (by kernel_rfl) (by kernel_rfl)))) ?_
 intro W base args ds L before D N _ O _ R I _;exact Og H enc W base args ds L before D N (O _ rfl) (Ti R I)
theorem Tj:laidOutB Tryz.prog=true:=by kernel_rfl
theorem Qh:mapsRowed Tryz.prog=true:=by kernel_rfl
theorem Tk:(Rows.rulesRoomMatchSpecUptoRow.inPlace==Tryz.prog.inPlace 5)=true:=by kernel_rfl
theorem VV:(Rows.rulesRoomMatchSpecUptoRow.unfollowed==Tryz.prog.unfollowed 5)=true:=by kernel_rfl
theorem VW:(Rows.rulesRoomMatchSpecUptoRow.recurses==Tryz.prog.recurses 5)=true:=by kernel_rfl
theorem Qi:(Rows.rulesRoomMatchSpecUptoRow.named==Tryz.prog.varsNamed 5)=true:=by kernel_rfl
theorem VX:(Rows.rulesRoomMatchSpecUptoRow.plainKeys==Tryz.prog.plainKeys)=true:=by kernel_rfl
theorem Qj:Tryz.prog.stopsHeard=true:=by kernel_rfl
theorem Qk:Tryz.prog.mayEnter=true:=by kernel_rfl
theorem Tl:(Rows.rulesRoomMatchSpecUptoRow.lifted==Tryz.prog.liftsFinal)=true:=by kernel_rfl
theorem Tm:(Tryz.prog.make==some Rows.rulesRoomMatchSpecUptoRow.make)=true:=by kernel_rfl
theorem Tn:false=Rows.rulesRoomMatchSpecUptoRow.goesBy Tryz.prog:=by kernel_rfl
theorem Ql:false=Tryz.prog.looks []:=by kernel_rfl
theorem YL:Rows.rulesRoomMatchSpecUptoRow.wfByText (Rows.OpenSpec.upto Rows.rulesRoomMatchSpecSpec)=true:=by kernel_rfl
theorem dG:joinedFacts Tryz.prog 5 Tryz.f5 (Rows.OpenSpec.upto Rows.rulesRoomMatchSpecSpec).bare Rows.rulesRoomMatchSpecUptoRow=true:=
 Af Tj Qh Tk VV VW Qi VX Qj Qk Tl Tm (by kernel_rfl)
theorem Oh:Rows.RulesRoomMatchSpecUptoSaid:=
 OpenClaim.holds_of_cond 5 Tryz.f5 rfl rfl rfl rfl rfl rfl rfl ⟨rfl,rfl,rfl,rfl,rfl⟩ rfl rfl rfl rfl rfl (by kernel_rfl) Tryz.func5 dG
  (abJ (by kernel_rfl)) (by unfold Func.isWrapper;first | (rw[aap (by decide +kernel)];kernel_rfl) | (rw[aaa (by decide +kernel)];exact⟨rfl,rfl⟩))
  (fun os z H enc _ F=>by rw[OpenClaim.pre_eq_preRow];exact lifted os z H enc F)
theorem plain(f:FuncId)(fn:Func)(I:Tryz.pinned.checked.prog.funcNamed Rows.rulesRoomMatchSpecUptoRow.func=some f)(J:Tryz.pinned.checked.prog.funcs[f]?=some fn):
  false=Tryz.pinned.checked.prog.looks []/\∀(j:Nat) t,fn.params[j]?=some t->Tryz.pinned.checked.prog.wantsStandIn t=false:=by
 obtain rfl:f=5:=Option.some.inj ((show Tryz.prog.funcNamed Rows.rulesRoomMatchSpecUptoRow.func=some 5 by kernel_rfl).symm.trans I) |>.symm;obtain rfl:fn=Tryz.f5:=(Option.some.inj (Tryz.func5.symm.trans J)).symm;refine⟨Ql,fun j t D=>?_⟩;rw[Tryz.params5]at D;have L:=abr D;have z:((Tryz.f5.params.toList).all fun u=>!Tryz.prog.wantsStandIn u)=true:=by kernel_rfl
 exact (show Tryz.prog.wantsStandIn t=false by simpa using abh.1 z t (by rw[Tryz.params5];simpa using L))
theorem cardUpto:Rows.RulesRoomMatchSpecUptoCardSaid:=
 Claim7.holds_tied_plain_at .later [] _ _ _ _ Oh (fun _ h=>by cases h) YL (fun _ h=>by cases h) rulesRoomMatchSpecUpto_row_tie rfl ⟨rfl,rfl⟩ (by kernel_rfl) rfl plain Tn
end rulesRoomMatchSpec
end Go.Proofs.YtfloceomobknoaaGreatDoor
