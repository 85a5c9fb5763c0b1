/- Part 9 of the proof of RulesNetsMatchSpec. -/
import Derived.Test.YtliffnpbaeijgaaGreatDoorN08
import Derived.Sort.Walk0
set_option linter.unusedVariables false
set_option linter.unusedSimpArgs false
set_option maxRecDepth 100000
set_option maxHeartbeats 8000000
namespace Go
abbrev jh:=@Int.toNat_of_nonneg
abbrev Ba:=@List.map_replicate
abbrev ad2:=@List.nodup_append
abbrev xF:=@List.length_range
end Go
namespace Go.Proofs.YtliffnpbaeijgaaGreatDoor
namespace M
open Go.AM Go.RowKit Go.Lib
open Reg (aB aR dq oW yr Piece dW UK UF iota kU ya Ab Lx dF gy told cH ew bM through pO Js yb th vR Ac zp x_)
def DZ(g:dW):List PV:=[ints g.pieces,ints g.bores,.sl (g.pins.map pc)]
def PE(g:dW):List PV:=[ints g.pieces,ints g.bores,.im (.slice none 0 0)]
def Pc(p:List (ByteArray×ByteArray)):HX:=if p=[] then .av .nl else .row 49 (p.map pc)
def gh(g:dW):List HX:=[.av (.p (ints g.pieces)),.av (.p (ints g.bores)),Pc g.pins]
theorem UN(f:AV->AV)(u:f .nl=.nl)(p:List (ByteArray×ByteArray)):HX.dn f (Pc p)=Pc p:=by
 unfold Pc;split
 ·simp only[HX.dn,u]
 rfl
theorem Sy(f:AV->AV)(hp:∀x,f (.p x)=.p x)(u:f .nl=.nl)(G:List dW):(G.map gh).map (fun r=>r.map (HX.dn f))=G.map gh:=by
 rw[Mu];refine qY fun g _=>?_;show [HX.dn f _,HX.dn f _,HX.dn f (Pc g.pins)]=_;rw[UN f u];simp only[HX.dn,hp];rfl
theorem EZ(d:Nat)(G:List dW):(G.map gh).map (fun r=>r.map (HX.dn (sc d)))=G.map gh:=Sy _ (fun _=>rfl) rfl G
theorem Sz(i d:Nat)(G:List dW):(G.map gh).map (fun r=>r.map (HX.dn (rn i d)))=G.map gh:=Sy _ (fun _=>rfl) rfl G
theorem lQ(n:Nat)(G:List dW)(k d:Nat)(a b:PV)(h:sc n (.ow d)=.ow d):((G.map gh).set k [.av (.p a),.av (.p b),.av (.ow d)]).map (fun r=>r.map (HX.dn (sc n)))=(G.map gh).set k [.av (.p a),.av (.p b),.av (.ow d)]:=by
 rw[w_,EZ];simp only[eH,xB,HX.dn,h];rfl
theorem XQ{G:List dW}(h:∀g∈G,g.pins=[]):(G.map PE).map uN=G.map gh:=by
 rw[Mu];refine qY fun g u=>?_;simp only[Function.comp,PE,gh,h g u];rfl
theorem XR(p:List (ByteArray×ByteArray)):Yc (Pc p) (.sl (p.map pc)):=by
 unfold Pc;split
 ·rename_i e;rw[e];exact .nl
 exact .row _ _
theorem Ly(G:List dW):SU (G.map gh) (G.map DZ):=SU.map fun g _=>⟨rfl,fun j u v z D=>by
 match j with
 | 0=>simp only[gh,DZ,wi,Option.some.injEq]at z D;subst z;subst D;exact .p _
 | 1=>simp only[gh,DZ,vX,wi,Option.some.injEq]at z D;subst z;subst D;exact .p _
 | 2=>simp only[gh,DZ,vX,wi,Option.some.injEq]at z D;subst z;subst D;exact XR _
 | j+3=>simp[gh]at z⟩
theorem of_eq{A:rZ}{s u:AS}(h:s=u):aA A s u:=h▸aA.refl A s
theorem aA.UO{A:rZ}(hC:bP A.C)(s:AS)(id k d:Nat){e:TypeId}{G:List dW}{g:dW}{J:TI}(L:d<100000)(hid:id≠d)(hb:s.h id=.aw e (G.map gh))(hk:G[k]?=some g)(O:A.C.T 49=some J)(D:0<J.size):
  aA A s ⟨(jk d s).t,a8 (a8 (jk d s).h d (.row 49 (g.pins.map pc))) id (.aw e ((G.map gh).set k [.av (.p (ints g.pieces)),.av (.p (ints g.bores)),.av (.ow d)]))⟩:=by
 have R:=(az.1 hk).1;have u:(G.map gh)[k]?=some (gh g):=by rw[aD,hk];rfl
 have N:∀r∈G.map gh,∀x∈r,Mo x:=fun r u x z=>by
  obtain⟨g,_,rfl⟩:=aZ.1 u;simp only[gh,L8,Gc,or_false]at z;rcases z with rfl | rfl | rfl
  ·trivial
  ·trivial
  unfold Pc;split<;>trivial
 by_cases c:g.pins=[]
 ·have U:=aA.W0 hC s id k 2 (e':=49) hb u (by rw[gh,Pc,ae c];rfl) O D;have I:=aA.tN hC ⟨s.t,a8 s.h id (.aw e ((G.map gh).set k ((gh g).set 2 (.row 49 []))))⟩ id k 2 d (e:=e) (r:=(gh g).set 2 (.row 49 [])) L hid (aF _ _ _) (fun r u x z=>by
   rcases m_ u with u | u
   ·exact N r u x z
   subst u;simp only[gh,List.set_cons_succ,List.set_cons_zero,L8,Gc,or_false]at z;rcases z with rfl | rfl | rfl<;>trivial) (dZ (by rw[E5];exact R)) rfl
  refine (U.trans I).trans (of_eq ?_);rw[c];refine ar (AS.mk _) ?_;funext j;by_cases e1:j=id
  ·subst e1;rw[aF,aF,GA];rfl
  rw[bg _ _ e1,bg _ _ e1];by_cases e2:j=d
  ·subst e2;rw[aF,aF];rfl
  rw[bg _ _ e2,bg _ _ e2];show a8 (fun m=>zF d (a8 s.h id _ m)) d .none j=a8 (fun m=>zF d (s.h m)) d .none j;rw[bg _ _ e2,bg _ _ e2];show zF d (a8 _ _ _ j)=_;rw[bg _ _ e1]
 have I:=aA.tN hC s id k 2 d (e':=49) (xs:=g.pins.map pc) L hid hb N u (by rw[gh,Pc,aa c];rfl);exact I
theorem UP(p:List (ByteArray×ByteArray))(x:ByteArray×ByteArray):Pc (p++[x])=.row 49 ((p++[x]).map pc):=by
 rw[Pc,aa (by simp)]
theorem C7(a:yr)(ha:xY a)(J:List (List PV))(P:List Piece)(T:List (List Int))(hP:P.length<=2000)(VU:∀p∈P,(told p.set).length<=4398046511104)(hT:T.length=a.bores.length)(U:List Int)(hU:U=Lx P.length a.bores.length T)(o:List Int×List Int)(G0:List dW)(hF:yb a.bores P.length (Reg.a7 (Reg.kV U) (P.length+a.bores.length))=(o,G0))(R:vR)(hR:R=a.lands.foldl (Ac a.bores P o) ⟨G0,[],[]⟩)(hTi:∀x∈T,∀p∈x,0<=p/\p<P.length)(hTl:∀x∈T,x.length<=1000000000):ai C 51 [.aU [.p (.sl (a.coppers.map rr)),.p (aE a.outline),.p (.sl (a.bores.map bc)),.p (.sl (a.lands.map lc)),.row 158 J,.row 169 (P.map mJ),.row 54 (T.map fun l=>[ints l]),.row 59 [],.row 3 [],.row 3 [],.row 3 [],.row 177 []]] (.tu []) [.aU [.p (.sl (a.coppers.map rr)),.p (aE a.outline),.p (.sl (a.bores.map bc)),.p (.sl (a.lands.map lc)),.row 158 J,.row 169 (P.map mJ),.row 54 (T.map fun l=>[ints l]),.row 59 (R.groups.map DZ),.row 3 (aK o.1),.row 3 (aK o.2),.row 3 (aK R.ofLand),.row 177 (R.atLand.map jx)]]:=by
 have lb:=an a.bores bc;have lp:=an P mJ;have lT:=an T fun l=>[ints l];have Jo:=ha.few;obtain⟨n,hn⟩:∃n,n=P.length:=⟨_,rfl⟩;rw[<-hn]at hU hF;have afW:=Reg.Jr (n:=n) (nb:=a.bores.length) T 0 (iota (n+a.bores.length)) (Reg.Bf _) (Reg.qz _) (by omega) (by rw[hn];exact hTi);refine ZF ⟨[27,37],[],[(11,[66]),(37,[14,1000014,15,1000015,90003,1090003,100000,1100000]),(38,[14,1000014,15,1000015,90003,1090003,100000,1100000,219])],[28,37,38],[(11,[true,true,true,true,true,true,true,true,true,false,false,true,true,false,true,true,true]),(37,[true,false,false,false,true,true,true,true,true,true,true,true,true,true,true,true,false,true,true,true]),(38,[true,true,true,true,true,true,true,true,false,true,false,false,false,false,false,true,true,true,true,true,true,true])],[]⟩ hC Tryz.func51 rfl (by kernel_rfl) fun _=>⟨_,aA.open hC _ 100000 [90000,90001,90002,90003,90004,90005,90006,90007] (by exact rfl) rfl rfl rfl,?_⟩;refine⟨wO (by omega),?_⟩;have QP:=OX (n+a.bores.length) (by omega);have aaf:((n+a.bores.length:Nat):Int)=((P.map mJ).length:Int)+((a.bores.map bc).length:Int):=by omega
 rw[aaf]at QP;refine⟨_,_,QP,?_⟩;refine aP (fun x:Nat×List Int=>Ab n x.1 (T.drop x.1) x.2=U/\UF x.2/\x.2.length=n+a.bores.length/\x.1<=T.length) (fun x=>[(0,.bx 100000 0),(2,.p (i64 n)),(3,.bx 31 0),(35,.ow 90002),(36,.p (i64 T.length)),(37,.p (i64 x.1))]) (fun x=>[(100000,.box [.p (.sl (a.coppers.map rr)),.p (aE a.outline),.p (.sl (a.bores.map bc)),.p (.sl (a.lands.map lc)),.ow 90000,.ow 90001,.ow 90002,.ow 90003,.ow 90004,.ow 90005,.ow 90006,.ow 90007]),(90000,.row 158 J),(90001,.row 169 (P.map mJ)),(90002,.row 54 (T.map fun l=>[ints l])),(90003,.row 59 []),(90004,.row 3 []),(90005,.row 3 []),(90006,.row 3 []),(90007,.row 177 []),(31,.aU [.row 3 (aK x.2)])]) (fun x=>T.length-x.1) (0,iota (n+a.bores.length)) _ (aA.refl _ _) ⟨hU.symm,Reg.Bf _,Reg.qz _,ak _⟩ ⟨rfl,ar (fun m:Nat=>AV.p (i64 m)) (lp.trans hn.symm),rfl,rfl,ar (fun m:Nat=>AV.p (i64 m)) lT,Z,Y⟩ ⟨Z,Z,Z,Z,Z,Z,Z,Z,Z,Z,Y⟩ fun ⟨k,u⟩ hx t h=>?_;obtain⟨q1,q2,q3,q4⟩:=hx;simp only at q1 q2 q3 q4;apply iW<;>intro g<;>try simp only[zB]at g
 ·obtain⟨l,hlk⟩:=ax (l:=T) (i:=k) (by omega);have hl0:=hTi l (aj hlk);have hll:=hTl l (aj hlk);have ll:=an l fun n=>[i64 n];rw[drop_at hlk,Ab]at q1;refine⟨⟨by omega,by (try dsimp only);omega⟩,[ints l],(idx rfl hlk).2,?_⟩;refine aP (fun z:Nat×List Int=>ya (n+k) (l.drop z.1) z.2=ya (n+k) l u/\UF z.2/\z.2.length=n+a.bores.length) (fun z=>[(0,.bx 100000 0),(2,.p (i64 n)),(3,.bx 31 0),(35,.ow 90002),(36,.p (i64 T.length)),(37,.p (i64 k)),(4,.p (i64 k)),(42,.p (ints l)),(43,.p (i64 l.length)),(44,.p (i64 z.1))]) (fun z=>[(100000,.box [.p (.sl (a.coppers.map rr)),.p (aE a.outline),.p (.sl (a.bores.map bc)),.p (.sl (a.lands.map lc)),.ow 90000,.ow 90001,.ow 90002,.ow 90003,.ow 90004,.ow 90005,.ow 90006,.ow 90007]),(90000,.row 158 J),(90001,.row 169 (P.map mJ)),(90002,.row 54 (T.map fun l=>[ints l])),(90003,.row 59 []),(90004,.row 3 []),(90005,.row 3 []),(90006,.row 3 []),(90007,.row 177 []),(31,.aU [.row 3 (aK z.2)])]) (fun z=>l.length-z.1) (0,u) _ (aA.refl _ _) ⟨rfl,q2,q3⟩ ⟨rfl,rfl,rfl,rfl,rfl,rfl,rfl,rfl,ar (fun m:Nat=>AV.p (i64 m)) ll,Z,Y⟩ ⟨Z,Z,Z,Z,Z,Z,Z,Z,Z,Z,Y⟩ fun ⟨j,v⟩ hz t h=>?_;obtain⟨z1,z2,z3⟩:=hz;simp only at z1 z2 z3;apply iW<;>intro g2<;>try simp only[zB]at g2
  ·obtain⟨p,hpj⟩:=ax (l:=l) (i:=j) (by omega);have hp0:=hl0 p (aj hpj);rw[drop_at hpj,ya]at z1;have hpp:((p.toNat:Nat):Int)=p:=jh hp0.1;have hj:=Lp v z2 p.toNat (n+k) (by omega) (by omega);rw[hpp,Int.natCast_add]at hj;obtain⟨L,w2⟩:=Reg.xR z2 (i:=p.toNat) (k:=n+k) (by omega) (by omega);exact⟨[i64 p],(idx rfl hpj),wO (by omega),_,_,hj,wO (by omega),(j+1,kU v p.toNat (n+k)),_,aA.refl _ _,⟨z1,L,w2.trans z3⟩,by simp only;omega,⟨Z,Z,Z,Z,Z,Z,Z,Z,Z,Z,Y⟩,⟨Z,Z,Z,Z,Z,Z,Z,Z,Z,Z,Y⟩⟩
  rw[jR (by omega),ya]at z1;exact⟨wO (by omega),(k+1,v),_,aA.refl _ _,⟨by rw[z1];exact q1,z2,z3,by simp only;omega⟩,by simp only;omega,⟨Z,Z,Z,Z,Z,Z,Y⟩,⟨Z,Z,Z,Z,Z,Z,Z,Z,Z,Z,Y⟩⟩
 rw[jR (by omega),Ab]at q1;have SA:=Lr u q2 (by omega);rw[q3]at SA;obtain⟨O,UI⟩:∃O,O=Reg.a7 (Reg.kV u) (n+a.bores.length):=⟨_,rfl⟩;rw[<-UI]at SA;have hLi:∀l∈O,l.length<=n+a.bores.length/\∀i∈l,i<n+a.bores.length:=fun l hl=>by
  rw[UI,Reg.a7]at hl;obtain⟨r,_,rfl⟩:=aZ.1 hl;exact⟨Reg.xT _ _ _,fun i hi=>(Reg.pM.1 hi).1⟩
 have Kk:O.length<=n+a.bores.length:=by rw[UI,Reg.qA];exact Reg.tb _ _
 obtain⟨F,hFe⟩:∃F,F=yb a.bores n O:=⟨_,rfl⟩;have hFo:F=(o,G0):=by rw[hFe,UI,<-hF,<-q1]
 refine⟨⟨by omega,by omega,by dsimp only;omega,by omega⟩,⟨by omega,by omega,by dsimp only;omega,by omega⟩,_,_,SA,?_⟩;have lLL:=an O pl;have op0:aK (List.replicate n 0)=List.replicate n [i64 0]:=by rw[aK,Ba]
 have ob0:aK (List.replicate a.bores.length 0)=List.replicate a.bores.length [i64 0]:=by rw[aK,Ba]
 refine aP (fun x:Nat×(List Int×List Int)×List dW=>(O.drop x.1).foldl (Js a.bores n) x.2=F/\x.2.1.1.length=n/\x.2.1.2.length=a.bores.length/\x.2.2.length<=x.1/\x.1<=O.length) (fun x=>[(0,.bx 100000 0),(2,.p (i64 n)),(72,.p (.sl (O.map pl))),(73,.p (i64 O.length)),(74,.p (i64 x.1))]) (fun x=>[(100000,.box [.p (.sl (a.coppers.map rr)),.p (aE a.outline),.p (.sl (a.bores.map bc)),.p (.sl (a.lands.map lc)),.ow 90000,.ow 90001,.ow 90002,.ow 90003,.ow 90004,.ow 90005,.ow 90006,.ow 90007]),(90000,.row 158 J),(90001,.row 169 (P.map mJ)),(90002,.row 54 (T.map fun l=>[ints l])),(90003,.row 59 (x.2.2.map PE)),(90004,.row 3 (aK x.2.1.1)),(90005,.row 3 (aK x.2.1.2)),(90006,.row 3 []),(90007,.row 177 [])]) (fun x=>O.length-x.1) (0,(List.replicate n 0,List.replicate a.bores.length 0),[]) _ ((aA.own (by exact hC) _ 72 (id:=72) (by exact rfl) (by exact rfl)).trans ((aA.pack (by exact hC) _ 100000 (cs:=[.p (.sl (a.coppers.map rr)),.p (aE a.outline),.p (.sl (a.bores.map bc)),.p (.sl (a.lands.map lc)),.row 158 J,.row 169 (P.map mJ),.row 54 (T.map fun l=>[ints l]),.row 59 [],.row 3 (aK (List.replicate n 0)),.row 3 (aK (List.replicate a.bores.length 0)),.row 3 [],.row 177 []]) (by exact rfl) (by exact rfl) (by exact⟨rfl,rfl,rfl,rfl,rfl,rfl,rfl,rfl,ar (AB.row _) (by rw[op0];rfl),ar (AB.row _) (by rw[ob0,<-lb];rfl),Z,Z,Y⟩)).trans (aA.open (by exact hC) _ 100000 [90000,90001,90002,90003,90004,90005,90006,90007] (cs:=[.p (.sl (a.coppers.map rr)),.p (aE a.outline),.p (.sl (a.bores.map bc)),.p (.sl (a.lands.map lc)),.row 158 J,.row 169 (P.map mJ),.row 54 (T.map fun l=>[ints l]),.row 59 [],.row 3 (aK (List.replicate n 0)),.row 3 (aK (List.replicate a.bores.length 0)),.row 3 [],.row 177 []]) (by exact rfl) rfl rfl rfl))) ⟨hFe.symm,bX,bX,ak _,ak _⟩ ⟨rfl,rfl,rfl,ar (fun m:Nat=>AV.p (i64 m)) lLL,Z,Y⟩ ⟨Z,Z,Z,Z,Z,Z,Z,Z,Z,Y⟩ fun ⟨j,⟨op,ob⟩,G⟩ hx t h=>?_;obtain⟨y1,y2,y3,y4,y5⟩:=hx;simp only at y1 y2 y3 y4 y5;apply iW<;>intro g2<;>try simp only[zB]at g2
 ·obtain⟨l,hlj⟩:=ax (l:=O) (i:=j) (by omega);obtain⟨Vc,Hd⟩:=hLi l (aj hlj);rw[drop_at hlj,jN]at y1;refine⟨(pl l),(idx rfl hlj),?_⟩;have ll2:(aK (l.map fun (m:Nat)=>(m:Int))).length=l.length:=by rw[cA,E5]
  obtain⟨r,I⟩:∃r,r=l.foldl (pO a.bores n G.length) ((op,ob),[],[]):=⟨_,rfl⟩;have qh:Js a.bores n ((op,ob),G) l=(r.1,if 0<r.2.1.length+r.2.2.length then G++[⟨r.2.1,r.2.2,[]⟩] else G):=by rw[I];rfl
  rw[qh]at y1;refine aP (fun y:Nat×(List Int×List Int)×List Int×List Int=>(l.drop y.1).foldl (pO a.bores n G.length) y.2=r/\y.2.1.1.length=n/\y.2.1.2.length=a.bores.length/\y.2.2.1.length<=y.1/\y.2.2.2.length<=y.1/\y.1<=l.length) (fun y=>[(0,.bx 100000 0),(2,.p (i64 n)),(72,.p (.sl (O.map pl))),(73,.p (i64 O.length)),(74,.p (i64 j)),(10,.bx 10 0),(78,.p (.sl (aK (l.map fun (m:Nat)=>(m:Int))))),(79,.p (i64 l.length)),(80,.p (i64 y.1))]) (fun y=>[(100000,.box [.p (.sl (a.coppers.map rr)),.p (aE a.outline),.p (.sl (a.bores.map bc)),.p (.sl (a.lands.map lc)),.ow 90000,.ow 90001,.ow 90002,.ow 90003,.ow 90004,.ow 90005,.ow 90006,.ow 90007]),(90000,.row 158 J),(90001,.row 169 (P.map mJ)),(90002,.row 54 (T.map fun l=>[ints l])),(90003,.row 59 (G.map PE)),(90004,.row 3 (aK y.2.1.1)),(90005,.row 3 (aK y.2.1.2)),(90006,.row 3 []),(90007,.row 177 []),(10,.box [.ow 90100,.ow 90101,.nl]),(90100,.row 3 (aK y.2.2.1)),(90101,.row 3 (aK y.2.2.2))]) (fun y=>l.length-y.1) (0,(op,ob),[],[]) _ ((aA.gH (by exact hC) _ 10 0 90100 3 _ _ (by decide) (by decide) (by exact rfl) (by exact rfl) (by exact rfl) (by decide)).trans (aA.gH (by exact hC) _ 10 1 90101 3 _ _ (by decide) (by decide) (by exact rfl) (by exact rfl) (by exact rfl) (by decide))) ⟨I.symm,y2,y3,aG _,aG _,ak _⟩ ⟨rfl,rfl,rfl,rfl,rfl,rfl,rfl,ar (fun m:Nat=>AV.p (i64 m)) ll2,Z,Y⟩ ⟨Z,Z,Z,Z,Z,Z,Z,Z,Z,Z,Z,Z,Y⟩ fun ⟨m,⟨V,N⟩,ps,bs⟩ hy t h=>?_;obtain⟨L,w2,w3,w4,w5,w6⟩:=hy;simp only at L w2 w3 w4 w5 w6;apply iW<;>intro g3<;>try simp only[zB]at g3
  ·obtain⟨i,him⟩:=ax (l:=l) (i:=m) (by omega);have hiN:=Hd i (aj him);rw[drop_at him,jN]at L;have lG:=an G PE;refine⟨[i64 i],⟨by omega,da (by rw[aD];simp[him])⟩,?_⟩;apply iW<;>intro g4
   ·rw[pO,ae (by omega)]at L;obtain⟨v,hv⟩:=ax (l:=V) (i:=i) (by omega);have lv:=cA V;have lps:=cA ps;exact⟨⟨by omega,by (try dsimp only);omega⟩,[i64 v],(da hv),⟨fun r I=>by simp at I;subst I;rfl,by simp only[lps,List.length_set,List.length_replicate];omega,by simp only[lps,List.length_set,List.length_replicate];omega⟩,wO (by omega),(m+1,(V.set i (G.length:Int),N),ps++[(i:Int)],bs),_,aA.N0 _ 111 90100 (by decide) (by decide),⟨L,by simp only[List.length_set];exact w2,w3,by simp only[List.length_append,List.length_singleton];omega,by simp only;omega,by simp only;omega⟩,by simp only;omega,⟨Z,Z,Z,Z,Z,Z,Z,Z,Z,Y⟩,⟨rfl,rfl,rfl,rfl,rfl,congrArg (AB.row _) ((gQ V i ((G.map PE).length:Int)).trans (by rw[lG])),rfl,rfl,rfl,rfl,congrArg (AB.row _) (mF ps i).symm,Z,Y⟩⟩
   rw[pO,aa (by omega)]at L;refine⟨wO (by omega),?_⟩;obtain⟨b,PD⟩:=ax (l:=a.bores) (i:=i-n) (by omega);have PA:a.bores.getD (i-n) ⟨0,0,0,0,0,false⟩=b:=by rw[dc,PD];rfl
   rw[PA]at L;refine⟨(bc b),(idx (show (i:Int)-n=((i-n:Nat):Int) by omega) PD),iW ?_ ?_⟩<;>intro g5
   ·rw[ae g5]at L;have e1:(i:Int)-n=((i-n:Nat):Int):=by omega
    obtain⟨v,hv⟩:=ax (l:=N) (i:=i-n) (by omega);have lv:=cA N;have lbs:=cA bs;exact⟨wO (by omega),⟨by omega,by (try dsimp only);omega⟩,[i64 v],(by rw[e1];exact da hv),wO (by omega),⟨fun r I=>by simp at I;subst I;rfl,by simp only[lbs,List.length_set,List.length_replicate];omega,by simp only[lbs,List.length_set,List.length_replicate];omega⟩,wO (by omega),(m+1,(V,N.set (i-n) (G.length:Int)),ps,bs++[(i:Int)-n]),_,aA.N0 _ 144 90101 (by decide) (by decide),⟨L,w2,by simp only[List.length_set];exact w3,by simp only;omega,by simp only[List.length_append,List.length_singleton];omega,by simp only;omega⟩,by simp only;omega,⟨Z,Z,Z,Z,Z,Z,Z,Z,Z,Y⟩,⟨rfl,rfl,rfl,rfl,rfl,rfl,congrArg (AB.row _) ((congrArg (fun z=>List.set (aK N) z _) (show ((i:Int)-n).toNat=i-n by omega)).trans ((gQ N (i-n) ((G.map PE).length:Int)).trans (by rw[lG]))),rfl,rfl,rfl,rfl,congrArg (AB.row _) (mF bs ((i:Int)-n)).symm,trivial⟩⟩
   rw[aa (by rw[g5];decide)]at L;have e1:(i:Int)-n=((i-n:Nat):Int):=by omega
   obtain⟨v,hv⟩:=ax (l:=N) (i:=i-n) (by omega);have lv:=cA N;exact⟨wO (by omega),⟨by omega,by (try dsimp only);omega⟩,[i64 v],(by rw[e1];exact da hv),wO (by omega),(m+1,(V,N.set (i-n) (-1)),ps,bs),_,aA.refl _ _,⟨L,w2,by simp only[List.length_set];exact w3,by simp only;omega,by simp only;omega,by simp only;omega⟩,by simp only;omega,⟨Z,Z,Z,Z,Z,Z,Z,Z,Z,Y⟩,⟨rfl,rfl,rfl,rfl,rfl,rfl,congrArg (AB.row _) ((congrArg (fun z=>List.set (aK N) z _) (show ((i:Int)-n).toNat=i-n by omega)).trans (gQ N (i-n) (-1))),Z,Z,Z,Z,Z,Y⟩⟩
  have e:l.length<=m:=by omega
  rw[jR e]at L;have L:((V,N),ps,bs)=r:=L;rw[<-L]at y1;simp only at y1;have lps:=cA ps;have lbs:=cA bs;have lG:=an G PE;refine abA ((aA.gI (by exact hC) _ 10 0 90100 3 _ _ (by decide) (by exact rfl) (by exact rfl) (by exact rfl)).trans ((aA.gI (by exact hC) _ 10 1 90101 3 _ _ (by decide) (by exact rfl) (by exact rfl) (by exact rfl)).trans (aA.ZA (by exact hC) _ 10 2 _ (by exact rfl) (by exact rfl)))) ?_;refine⟨⟨by dsimp only;omega,by dsimp only;omega⟩,iW ?_ ?_⟩<;>intro g4<;>try simp only[zB]at g4
  ·rw[ae (by omega)]at y1;exact⟨⟨fun r I=>by simp at I;subst I;rfl,by simp only[lG,aQ,bX];omega,by simp only[lG,aQ,bX];omega⟩,wO (by omega),(j+1,(V,N),G++[dW.mk ps bs []]),_,((aA.pack (by exact hC) _ 100000 (cs:=[.p (.sl (a.coppers.map rr)),.p (aE a.outline),.p (.sl (a.bores.map bc)),.p (.sl (a.lands.map lc)),.row 158 J,.row 169 (P.map mJ),.row 54 (T.map fun l=>[ints l]),.row 59 ((G++[dW.mk ps bs []]).map PE),.row 3 (aK V),.row 3 (aK N),.row 3 [],.row 177 []]) (by exact rfl) (by exact rfl) (by exact⟨rfl,rfl,rfl,rfl,rfl,rfl,rfl,by rw[E8];rfl,Z,Z,Z,Z,Y⟩)).trans (aA.open (by exact hC) _ 100000 [90000,90001,90002,90003,90004,90005,90006,90007] (cs:=[.p (.sl (a.coppers.map rr)),.p (aE a.outline),.p (.sl (a.bores.map bc)),.p (.sl (a.lands.map lc)),.row 158 J,.row 169 (P.map mJ),.row 54 (T.map fun l=>[ints l]),.row 59 ((G++[dW.mk ps bs []]).map PE),.row 3 (aK V),.row 3 (aK N),.row 3 [],.row 177 []]) (by exact rfl) rfl rfl rfl)),⟨y1,w2,w3,by simp only[bJ,ij];omega,by simp only;omega⟩,by simp only;omega,⟨Z,Z,Z,Z,Z,Y⟩,⟨Z,Z,Z,Z,Z,Z,Z,Z,Z,Y⟩⟩
  rw[aa (by omega)]at y1;exact⟨wO (by omega),(j+1,(V,N),G),_,aA.refl _ _,⟨y1,w2,w3,by simp only;omega,by simp only;omega⟩,by simp only;omega,⟨Z,Z,Z,Z,Z,Y⟩,⟨Z,Z,Z,Z,Z,Z,Z,Z,Z,Y⟩⟩
 rw[jR (by omega)]at y1;have y1:((op,ob),G)=F:=y1;have XS:th a.bores n F:=by rw[hFe,UI];exact Reg.Pa q2 q3
 rw[<-y1]at XS;have lG:=an G PE;have ll:=an a.lands lc;have af4:=ha.lan;have MQ:∀g∈G,g.pins=[]:=fun g W=>by
  obtain⟨k,hk⟩:=ca.1 W;exact (XS.c k g hk).1
 have hoG:((op,ob),G)=(o,G0):=y1.trans hFo;injection hoG with ho hG0;subst ho;subst hG0;refine aP (fun x:Nat×vR=>(a.lands.drop x.1).foldl (Ac a.bores P (op,ob)) x.2=R/\x.2.groups.length=G.length/\x.2.ofLand.length=x.1/\x.2.atLand.length=x.1/\x.1<=a.lands.length/\∀g∈x.2.groups,g.pins.length<=x.1) (fun x=>[(0,.bx 100000 0),(170,.p (.sl (a.lands.map lc))),(171,.p (i64 a.lands.length)),(172,.p (i64 x.1))]) (fun x=>[(100000,.box [.p (.sl (a.coppers.map rr)),.p (aE a.outline),.p (.sl (a.bores.map bc)),.p (.sl (a.lands.map lc)),.ow 90000,.ow 90001,.ow 90002,.ow 90003,.ow 90004,.ow 90005,.ow 90006,.ow 90007]),(90000,.row 158 J),(90001,.row 169 (P.map mJ)),(90002,.row 54 (T.map fun l=>[ints l])),(90003,.aw 59 (x.2.groups.map gh)),(90004,.row 3 (aK op)),(90005,.row 3 (aK ob)),(90006,.row 3 (aK x.2.ofLand)),(90007,.row 177 (x.2.atLand.map jx))]) (fun x=>a.lands.length-x.1) (0,⟨G,[],[]⟩) _ (aA.toH (by exact hC) _ 90003 (e:=59) (es:=G.map PE) (by exact rfl)) ⟨hR.symm,rfl,rfl,rfl,ak _,fun g W=>by rw[MQ g W];exact aG _⟩ ⟨rfl,rfl,ar (fun m:Nat=>AV.p (i64 m)) ll,Z,Y⟩ ⟨rfl,rfl,rfl,rfl,ar (AB.aw _) (XQ MQ),Z,Z,Z,Z,Y⟩ fun ⟨i,s⟩ hx t h=>?_;obtain⟨v1,v2,v3,v4,v5,v6⟩:=hx;simp only at v1 v2 v3 v4 v5 v6;apply iW<;>intro g3<;>try simp only[zB]at g3
 ·obtain⟨l,XN⟩:=ax (l:=a.lands) (i:=i) (by omega);rw[drop_at XN,jN]at v1;refine⟨(lc l),(idx rfl XN),?_⟩;obtain⟨hp,hhp⟩:∃hp,hp=x_ a.bores P l:=⟨_,rfl⟩;have jy:=G7 a ha l J (T.map fun l=>[ints l]) (s.groups.map DZ) (aK s.ofLand) (s.atLand.map jx) op ob P (by omega) VU;rw[<-hhp]at jy;refine⟨[.ip ((uR a)++[.sl J,.sl (P.map mJ),.sl (T.map fun l=>[ints l]),.sl (s.groups.map DZ),ints op,ints ob,.sl (aK s.ofLand),.sl (s.atLand.map jx)]),.ag (lc l)],_,.cons (.box 100000 0 _ ((uR a)++[.sl J,.sl (P.map mJ),.sl (T.map fun l=>[ints l]),.sl (s.groups.map DZ),ints op,ints ob,.sl (aK s.ofLand),.sl (s.atLand.map jx)]) (by exact rfl) (.cons (.p _) (.cons (.p _) (.cons (.p _) (.cons (.p _) (.cons (.row 90000 _ _ (by exact rfl)) (.cons (.row 90001 _ _ (by exact rfl)) (.cons (.row 90002 _ _ (by exact rfl)) (.cons (.aw 90003 59 (s.groups.map gh) (s.groups.map DZ) (by exact ar (AB.aw _) (by simp only[EZ])) (Ly _)) (.cons (.row 90004 _ _ (by exact rfl)) (.cons (.row 90005 _ _ (by exact rfl)) (.cons (.row 90006 _ _ (by exact rfl)) (.cons (.row 90007 _ _ (by exact rfl)) .nil))))))))))))) (.cons (.one (.p _)) .nil),jy,rfl,iW ?_ ?_⟩<;>intro g4
  ·have aah:th a.bores P.length ((op,ob),G):=hn▸XS;obtain⟨m,k,e1,e2,e3⟩:=Reg.Pb aah l (by rw[<-hhp];exact g4);rw[<-hhp]at e1 e2;have e3:k<G.length:=e3;obtain⟨D,hgk⟩:=ax (l:=s.groups) (i:=k) (by omega);have qH:=v6 D (aj hgk);have Rc:Ac a.bores P (op,ob) s l=⟨s.groups.set k (zp (l.part,l.pin) D),s.ofLand++[(k:Int)],s.atLand++[hp.1]⟩:=by
    rw[Ac];simp only[<-hhp];have g4:hp.2=true:=g4;rw[g4,ae rfl,ae rfl,e1,FY,dc (l:=if hp.1.bore=true then ob else op),e2];simp only[Fs,FY,dc,hgk]
   rw[Rc]at v1;have hgh:=yc a hp.1 J (T.map fun l=>[ints l]) (s.groups.map DZ) (aK s.ofLand) (s.atLand.map jx) op ob P m e1 k e2;refine⟨[.ip ((uR a)++[.sl J,.sl (P.map mJ),.sl (T.map fun l=>[ints l]),.sl (s.groups.map DZ),ints op,ints ob,.sl (aK s.ofLand),.sl (s.atLand.map jx)]),.ag (jx hp.1)],_,.cons (.box 100000 0 _ ((uR a)++[.sl J,.sl (P.map mJ),.sl (T.map fun l=>[ints l]),.sl (s.groups.map DZ),ints op,ints ob,.sl (aK s.ofLand),.sl (s.atLand.map jx)]) (by exact rfl) (.cons (.p _) (.cons (.p _) (.cons (.p _) (.cons (.p _) (.cons (.row 90000 _ _ (by exact rfl)) (.cons (.row 90001 _ _ (by exact rfl)) (.cons (.row 90002 _ _ (by exact rfl)) (.cons (.aw 90003 59 (s.groups.map gh) (s.groups.map DZ) (by exact ar (AB.aw _) (by simp only[EZ])) (Ly _)) (.cons (.row 90004 _ _ (by exact rfl)) (.cons (.row 90005 _ _ (by exact rfl)) (.cons (.row 90006 _ _ (by exact rfl)) (.cons (.row 90007 _ _ (by exact rfl)) .nil))))))))))))) (.cons (.one (.p _)) .nil),hgh,rfl,?_⟩;refine abA (aA.UO (by exact hC) _ 90003 k 90200 (e:=59) (by decide) (by decide) (by exact ar (AB.aw _) (by simp only[EZ])) hgk (by exact rfl) (by decide)) ?_;have lgs:(s.groups.map gh).length=s.groups.length:=E5 _;have lpp:=an D.pins pc;have lol:=cA s.ofLand;have lal:=an s.atLand jx;refine⟨⟨by omega,by simp only[E5,aQ];omega⟩,?_⟩;have ggx:((s.groups.map gh).set k [.av (.p (ints D.pieces)),.av (.p (ints D.bores)),.av (.ow 90200)])[k]?=some [.av (.p (ints D.pieces)),.av (.p (ints D.bores)),.av (.ow 90200)]:=dZ (by rw[lgs];omega);refine⟨[.av (.p (ints D.pieces)),.av (.p (ints D.bores)),.av (.ow 90200)],(by rw[lQ,lQ,lQ];exact ggx;rfl;rfl;rfl),_,_,(rU l),⟨fun r I=>by simp at I;subst I;rfl,by simp only[lpp,aQ,bX];omega,by simp only[lpp,aQ,bX];omega⟩,⟨by omega,by simp only[E5,aQ];omega⟩,[.av (.p (ints D.pieces)),.av (.p (ints D.bores)),.av (.ow 90200)],(by rw[lQ,lQ,lQ];exact ggx;rfl;rfl;rfl),⟨fun r I=>by simp at I;subst I;rfl,by simp only[lol,aQ,bX];omega,by simp only[lol,aQ,bX];omega⟩,⟨fun r I=>by simp at I;subst I;rfl,by simp only[lal,aQ,bX];omega,by simp only[lal,aQ,bX];omega⟩,wO (by omega),?_⟩;have adl:((s.groups.map gh).set k [.av (.p (ints D.pieces)),.av (.p (ints D.bores)),.av (.ow 202)]).set k (([.av (.p (ints D.pieces)),.av (.p (ints D.bores)),.av (.ow 202)]:List HX).set 2 (.row 49 ((D.pins++[(l.part,l.pin)]).map pc)))=(s.groups.set k (zp (l.part,l.pin) D)).map gh:=by
    rw[GA,w_];congr 1;show _=[.av (.p (ints D.pieces)),.av (.p (ints D.bores)),Pc (D.pins++[(l.part,l.pin)])];rw[UP];rfl
   refine⟨(i+1,⟨s.groups.set k (zp (l.part,l.pin) D),s.ofLand++[(k:Int)],s.atLand++[hp.1]⟩),_,(aA.H7 (by exact hC) _ 90003 k 2 202 (e:=59) (es:=(s.groups.map gh).set k [.av (.p (ints D.pieces)),.av (.p (ints D.bores)),.av (.ow 202)]) (r:=[.av (.p (ints D.pieces)),.av (.p (ints D.bores)),.av (.ow 202)]) (e':=49) (xs:=(D.pins++[(l.part,l.pin)]).map pc) (by decide) (by exact ar (AB.aw _) (by rw[lQ,lQ,lQ];simp only[FY];rw[GA];show List.map (fun r=>List.map (HX.dn (sc 220)) r) (List.map (fun r=>List.map (HX.dn (sc 219)) r) (List.map (fun r=>List.map (HX.dn (sc 213)) r) (List.map (fun r=>List.map (HX.dn (sc 212)) r) ((List.map gh s.groups).set k [.av (.p (ints D.pieces)),.av (.p (ints D.bores)),.av (.ow 202)]))))=_;rw[lQ,lQ,lQ,lQ];all_goals rfl)) (by exact ar (AB.row _) (by rw[E8];rfl)) (dZ (by rw[lgs];omega)) (by exact rfl)).trans ((aA.N0 _ 213 90006 (by decide) (by decide)).trans (aA.N0 _ 220 90007 (by decide) (by decide))),?_⟩;exact⟨⟨v1,by simp only[aQ];exact v2,by simp only[bJ,ij];omega,by simp only[bJ,ij];omega,by simp only;omega,fun g W=>by
    rcases m_ W with W | W
    ·have:=v6 g W;simp only;omega
    subst W;simp only[zp,bJ,ij];omega⟩,by simp only;omega,⟨Z,Z,Z,Z,Y⟩,⟨rfl,rfl,rfl,rfl,ar (AB.aw _) (by refine (ar (List.map _) (ar (List.map _) adl)).trans ?_;simp only[Sz]),rfl,rfl,ar (AB.row _) (mF _ _).symm,ar (AB.row _) (by rw[E8 (f:=jx)];rfl),trivial⟩⟩
  have g4:hp.2=false:=g4;have Rc:Ac a.bores P (op,ob) s l=⟨s.groups,s.ofLand++[-1],s.atLand++[hp.1]⟩:=by
   rw[Ac];simp only[<-hhp,g4];rfl
  rw[Rc]at v1;have lol:=cA s.ofLand;have lal:=an s.atLand jx;exact⟨⟨fun r I=>by simp at I;subst I;rfl,by simp only[lol,aQ,bX];omega,by simp only[lol,aQ,bX];omega⟩,⟨fun r I=>by simp at I;subst I;rfl,by simp only[lal,aQ,bX];omega,by simp only[lal,aQ,bX];omega⟩,wO (by omega),(i+1,⟨s.groups,s.ofLand++[-1],s.atLand++[hp.1]⟩),_,(aA.N0 _ 213 90006 (by decide) (by decide)).trans (aA.N0 _ 220 90007 (by decide) (by decide)),⟨v1,v2,by simp only[bJ,ij];omega,by simp only[bJ,ij];omega,by simp only;omega,fun g W=>by have:=v6 g W;simp only;omega⟩,by simp only;omega,⟨Z,Z,Z,Z,Y⟩,⟨rfl,rfl,rfl,rfl,ar (AB.aw _) (by show _=List.map gh s.groups;simp only[EZ,Sz]),rfl,rfl,ar (AB.row _) (mF _ _).symm,ar (AB.row _) (by rw[E8 (f:=jx)];rfl),trivial⟩⟩
 rw[jR (by omega)]at v1;have v1:s=R:=v1;rw[<-v1];refine⟨_,aA.QZ (by exact hC) _ 90003 (s.groups.map DZ) (e:=59) (by exact ar (AB.aw _) (by simp only[EZ,Sz])) (Ly _),?_⟩;exact And.intro rfl (And.intro ⟨Z,Z,Z,Z,Z,Z,Z,Z,Z,Z,Z,Z,Z,Y⟩ trivial)
end M
namespace Reg
def ny(x y:dq):Bool:=(decide (x.lo<=y.hi)&&decide (y.lo<=x.hi))&&decide (VQ (bM x) (bM y)=0)
def n9(bs:List dq)(i:Nat):Bool:=(bs.take i).any (ny (bs.getD i VV))
def jj(bs:List dq)(i:Nat):Bool:=(List.range' i (bs.length-i)).any (n9 bs)
variable {bs:List dq}
theorem Lz{i:Nat}(h:i<bs.length):jj bs i=(n9 bs i||jj bs (i+1)):=by
 rw[jj,show bs.length-i=(bs.length-(i+1))+1 by omega,List.range'_succ,uc];rfl
theorem Pd{i:Nat}(h:bs.length<=i):jj bs i=false:=by
 rw[jj,show bs.length-i=0 by omega];rfl
def jJ:List (List aB)->Int
 | []=>0
 | r::l=>if bA r≠0 then bA r else jJ l
def Ng(n:Int)(l:List (List aB)):Int:=l.foldl (fun n r=>n+r.length) n
theorem rX:∀{l:List (List aB)},jJ l=0->∀r∈l,bA r=0
 | [],_,r,h=>by cases h
 | q::l,h,r,u=>by
  rw[jJ]at h;by_cases e:bA q=0
  ·rw[aa (by simpa using e)]at h;rcases L8.1 u with rfl | u
   ·exact e
   exact rX h r u
  rw[ae e]at h;exact absurd h e
structure aak where
 drilled:List (List aR)
 pieces:List Piece
 fP:List (List Int)
 ofPiece:List Int
 ofBore:List Int
 placed:vR
def aX(a:yr):aak:=
 let P:=gf a.bores 0 a.coppers;let T:=fP a.bores P;let U:=Lx P.length a.bores.length T;let F:=yb a.bores P.length (a7 (kV U) (P.length+a.bores.length))
 ⟨kX a.bores 0 a.coppers,P,T,F.1.1,F.1.2,a.lands.foldl (Ac a.bores P F.1) ⟨F.2,[],[]⟩⟩
theorem C8:∀{l:List (List aB)} {k:Int} {p:Piece},p∈gf bs k l->∃(i:Nat) (r:List aB),l[i]?=some r/\p.layer=k+i/\p.set∈iO (mE bs (k+i) r)
 | [],k,p,h=>by cases h
 | r::l,k,p,h=>by
  rw[gf]at h;rcases fC.1 h with h | h
  ·obtain⟨s,u,rfl⟩:=aZ.1 h;exact⟨0,r,rfl,by simp,by simpa using u⟩
  obtain⟨i,r',z,D,I⟩:=C8 h;have e:k+((i+1:Nat):Int)=k+1+(i:Int):=by omega
  exact⟨i+1,r',by simpa using z,by rw[D,e],by rw[e];exact I⟩
theorem C9(b:dq):∀(ps:List Piece) (k:Nat),(jv b k ps).length<=ps.length
 | [],k=>aG _
 | q::ps,k=>by
  have:=C9 b ps (k+1);rw[jv];split<;>simp only[bN]<;>omega
end Reg
namespace M
open Go.AM Go.RowKit Go.Lib
open Reg (aB aR dq oW yr Piece dW UK vR dF gy told cH ew bM VQ ny n9 jj jJ Ng b8 pN aX P4)
def SC(a:yr):List PV:=uR a++[.sl ((aX a).drilled.map fun s=>[a_ s]),.sl ((aX a).pieces.map mJ),.sl ((aX a).fP.map fun l=>[ints l]),.sl ((aX a).placed.groups.map DZ),ints (aX a).ofPiece,ints (aX a).ofBore,ints (aX a).placed.ofLand,.sl ((aX a).placed.atLand.map jx)]
def gw(a:yr):Int:=if a.coppers.length=0 then 9 else if 16<a.coppers.length then 2 else
 if jJ a.coppers≠0 then jJ a.coppers else
 if Reg.bA a.outline≠0 then Reg.bA a.outline else
 if 2000<Ng a.outline.length a.coppers then 2 else
 if b8 a≠0 then b8 a else
 if fQ a≠0 then fQ a else
 if jj a.bores 0=true then 12 else
 if pN a=true then 0 else 2
def SD(a:yr):PV:=if gw a=0 then .ip (SC a) else .im (.pointer none)
theorem Jx(a:yr)(ho:M6 a):ai C 17 [.pv (.ag (uR a))] (.tu [SD a,i64 (gw a)]) []:=by
 have lk:=an a.coppers rr;have lk':(a.coppers.map fun r=>[aE r]).length=a.coppers.length:=lk;have lo:=an a.outline rc;have lb:=an a.bores bc;obtain⟨F,u⟩:∃F,F=gw a:=⟨_,rfl⟩;have hV:SD a=if F=0 then .ip (SC a) else .im (.pointer none):=by rw[u];rfl
 rw[hV,<-u];rw[gw]at u;refine FP ⟨[36,40],[],[],[],[],[]⟩ hC Tryz.func17 rfl (by kernel_rfl) fun _=>?_;apply iW<;>intro g1
 ·rw[ae (by omega)]at u;refine⟨?_,trivial⟩;rw[u];rfl
 rw[aa (by omega)]at u;apply iW<;>intro g2
 ·rw[ae (by omega)]at u;refine⟨?_,trivial⟩;rw[u];rfl
 rw[aa (by omega)]at u;obtain⟨M,hM⟩:∃M,M=Ng a.outline.length a.coppers:=⟨_,rfl⟩;rw[<-hM]at u;have af8:=ho.out;refine aP (fun x:Nat×Int=>Ng x.2 (a.coppers.drop x.1)=M/\jJ (a.coppers.drop x.1)=jJ a.coppers/\0<=x.2/\x.2<=1048576+1048576*x.1) (fun x=>[(1,.bx 1 0),(4,.p (i64 x.2)),(28,.p (.sl (a.coppers.map rr))),(29,.p (i64 a.coppers.length)),(30,.p (i64 x.1))]) (fun _=>[(1,.box [.p (.sl (a.coppers.map rr)),.p (aE a.outline),.p (.sl (a.bores.map bc)),.p (.sl (a.lands.map lc))])]) (fun x=>a.coppers.length-x.1) (0,a.outline.length) _ (aA.refl _ _) ⟨hM.symm,rfl,by simp only;omega,by simp only;omega⟩ ⟨rfl,ar (fun m:Nat=>AV.p (i64 m)) lo,rfl,ar (fun m:Nat=>AV.p (i64 m)) lk,Z,Y⟩ ⟨Z,Y⟩ fun ⟨i,n⟩ L t h=>?_;obtain⟨R,D,q3,q4⟩:=L;simp only at R D q3 q4;apply iW<;>intro g3<;>try simp only[zB]at g3
 ·obtain⟨r,V⟩:=ax (l:=a.coppers) (i:=i) (by omega);have Ah:=ho.rcs r (aj V);have lr:=an r rc;rw[drop_at V]at R D;rw[jJ]at D;refine⟨(rr r),(idx rfl V),_,_,(kP r),iW ?_ ?_⟩<;>intro z
  ·have z:Reg.bA r≠0:=by simpa using z
   rw[ae z]at D;rw[<-D,ae z]at u;refine⟨?_,trivial⟩;rw[u,aa z]
  have z:Reg.bA r=0:=by simpa using z
  rw[aa (by simpa using z)]at D;exact⟨wO (by omega),wO (by omega),(i+1,n+r.length),_,aA.refl _ _,⟨R,D,by simp only;omega,by simp only;omega⟩,by simp only;omega,⟨rfl,ar (fun m:Nat=>AV.p (i64 (n+m))) lr,Z,Z,Z,Y⟩,⟨Z,Y⟩⟩
 rw[jR (by omega)]at R D;have R:n=M:=R;have D:jJ a.coppers=0:=D.symm;rw[aa (by simpa using D)]at u;refine⟨_,_,(kP a.outline),iW ?_ ?_⟩<;>intro z
 ·have z:Reg.bA a.outline≠0:=by simpa using z
  rw[ae z]at u;refine⟨?_,trivial⟩;rw[u,aa z]
 have z:Reg.bA a.outline=0:=by simpa using z
 rw[aa (by simpa using z)]at u;apply iW<;>intro g5<;>try simp only[zB]at g5
 ·rw[ae (by omega)]at u;refine⟨?_,trivial⟩;rw[u];rfl
 rw[aa (by omega)]at u;refine⟨_,_,(xP a (by omega)),iW ?_ ?_⟩<;>intro I
 ·have I:b8 a≠0:=by simpa using I
  rw[ae I]at u;refine⟨?_,trivial⟩;rw[u,aa I]
 have I:b8 a=0:=by simpa using I
 rw[aa (by simpa using I)]at u;refine⟨_,_,(xQ a ho),iW ?_ ?_⟩<;>intro J
 ·have J:fQ a≠0:=by simpa using J
  rw[ae J]at u;refine⟨?_,trivial⟩;rw[u,aa J]
 have J:fQ a=0:=by simpa using J
 rw[aa (by simpa using J)]at u;have Jo:a.bores.length<=500:=by
  unfold Reg.b8 at I;split at I
  ·cases I
  omega
 have hbf:Reg.eL a.coppers.length a.bores=0:=by rwa [Reg.b8,aa (by omega)]at I
 have Zy:=Reg.Ln hbf;have W:∀b∈a.bores,ew b=true/\P4 1000000000 (bM b):=fun b hb=>by
  have O:=xZ (Zy b hb);obtain⟨a1,a2,a3,a4⟩:=Reg.VT (Reg.mC O) (Reg.uC O);exact⟨O,⟨by omega,by omega⟩,⟨by omega,by omega⟩,⟨by omega,by omega⟩,⟨by omega,by omega⟩⟩
 refine aP (fun i:Nat=>jj a.bores i=jj a.bores 0) (fun i=>[(1,.bx 1 0),(63,.p (.sl (a.bores.map bc))),(64,.p (i64 a.bores.length)),(65,.p (i64 i))]) (fun _=>[(1,.box [.p (.sl (a.coppers.map rr)),.p (aE a.outline),.p (.sl (a.bores.map bc)),.p (.sl (a.lands.map lc))])]) (fun i=>a.bores.length-i) 0 _ (aA.refl _ _) rfl ⟨rfl,rfl,ar (fun m:Nat=>AV.p (i64 m)) lb,Z,Y⟩ ⟨Z,Y⟩ fun i hi t h=>?_;apply iW<;>intro g8
 ·obtain⟨x,L⟩:=ax (l:=a.bores) (i:=i) (by omega);obtain⟨x1,x2⟩:=W x (aj L);rw[Reg.Lz (by omega)]at hi;have aw:n9 a.bores i=(a.bores.take i).any (ny x):=by rw[n9,dc,L];rfl
  rw[aw]at hi;refine⟨(bc x),(idx rfl L),⟨by decide,by omega,by omega,fun r V=>by obtain⟨b,_,rfl⟩:=aZ.1 V;rfl⟩,?_⟩;have ltk:((a.bores.take i).map bc).length=i:=by rw[E5,cE];omega
  have af9:(a.bores.take i).length=i:=by rw[cE];omega
  refine aP (fun j:Nat=>((a.bores.take i).drop j).any (ny x)=(a.bores.take i).any (ny x)) (fun j=>[(1,.bx 1 0),(63,.p (.sl (a.bores.map bc))),(64,.p (i64 a.bores.length)),(65,.p (i64 i)),(12,.bx 12 0),(73,.p (.sl ((a.bores.take i).map bc))),(74,.p (i64 i)),(75,.p (i64 j))]) (fun _=>[(1,.box [.p (.sl (a.coppers.map rr)),.p (aE a.outline),.p (.sl (a.bores.map bc)),.p (.sl (a.lands.map lc))]),(12,.box [.p (i64 x.x),.p (i64 x.y),.p (i64 x.size),.p (i64 x.lo),.p (i64 x.hi),.p (bool x.plated)])]) (fun j=>i-j) 0 _ (aA.refl _ _) rfl ⟨rfl,rfl,rfl,rfl,rfl,ar (fun l=>AV.p (PV.sl l)) (by simp[cS]),ar (fun m:Nat=>AV.p (i64 m)) (by simp;omega),Z,Y⟩ ⟨Z,Z,Y⟩ fun j N t h=>?_;apply iW<;>intro U
  ·obtain⟨y,hy⟩:=ax (l:=a.bores.take i) (i:=j) (by omega);obtain⟨y1,y2⟩:=W y (Ay (aj hy));rw[drop_at hy,uc]at N;have yes:ny x y=true->F=12:=fun hc=>by
    rw[hc,Ft]at N;rw[<-N,Ft]at hi;rw[<-hi,ae rfl]at u;exact u
   have no:ny x y=false->((a.bores.take i).drop (j+1)).any (ny x)=(a.bores.take i).any (ny x):=fun hc=>by
    rw[hc,ph]at N;exact N
   refine⟨(bc y),(idx rfl hy),iW ?_ ?_⟩<;>intro O
   ·apply iW<;>intro h2
    ·refine⟨_,_,(fA x x1),_,_,(fA y y1),_,_,(OY (bM x) (bM y) x2 y2),iW ?_ ?_⟩<;>intro h3
     ·have hy:=yes (by simp only[ny,aJ,fV];exact⟨⟨O,h2⟩,h3⟩);refine⟨?_,trivial⟩;rw[hy];rfl
     have hn:=no (by simp only[ny];rw[fJ h3,wS]);exact⟨wO (by omega),(j+1),_,aA.refl _ _,hn,by omega,⟨Z,Z,Z,Z,Z,Z,Z,Z,Y⟩,⟨Z,Z,Y⟩⟩
    have hn:=no (by simp only[ny];rw[fJ h2,wS,uh]);exact⟨wO (by omega),(j+1),_,aA.refl _ _,hn,by omega,⟨Z,Z,Z,Z,Z,Z,Z,Z,Y⟩,⟨Z,Z,Y⟩⟩
   have hn:=no (by simp only[ny];rw[fJ O,uh,uh]);exact⟨wO (by omega),(j+1),_,aA.refl _ _,hn,by omega,⟨Z,Z,Z,Z,Z,Z,Z,Z,Y⟩,⟨Z,Z,Y⟩⟩
  rw[jR (by omega)]at N;have N:false=(a.bores.take i).any (ny x):=N;rw[<-N,ph]at hi;exact⟨wO (by omega),(i+1),_,aA.refl _ _,hi,by omega,⟨Z,Z,Z,Z,Y⟩,⟨Z,Y⟩⟩
 rw[Reg.Pd (by omega)]at hi;rw[<-hi,aa (by decide)]at u;refine abA ((aA.vh (by exact hC) _ 103 4 [.p (.sl (a.coppers.map rr)),.p (aE a.outline),.p (.sl (a.bores.map bc)),.p (.sl (a.lands.map lc)),.p (.im (.slice none 0 0)),.p (.im (.slice none 0 0)),.p (.im (.slice none 0 0)),.p (.im (.slice none 0 0)),.p (.im (.slice none 0 0)),.p (.im (.slice none 0 0)),.p (.im (.slice none 0 0)),.p (.im (.slice none 0 0))] (by exact rfl) (by exact rfl)).trans ((aA.gH (by exact hC) _ 103 4 90000 158 _ [.p (.sl (a.coppers.map rr)),.p (aE a.outline),.p (.sl (a.bores.map bc)),.p (.sl (a.lands.map lc)),.nl,.p (.im (.slice none 0 0)),.p (.im (.slice none 0 0)),.p (.im (.slice none 0 0)),.p (.im (.slice none 0 0)),.p (.im (.slice none 0 0)),.p (.im (.slice none 0 0)),.p (.im (.slice none 0 0))] (by decide) (by decide) (by exact rfl) (by exact rfl) (by exact rfl) (by decide)).trans ((aA.vh (by exact hC) _ 103 5 [.p (.sl (a.coppers.map rr)),.p (aE a.outline),.p (.sl (a.bores.map bc)),.p (.sl (a.lands.map lc)),.ow 90000,.p (.im (.slice none 0 0)),.p (.im (.slice none 0 0)),.p (.im (.slice none 0 0)),.p (.im (.slice none 0 0)),.p (.im (.slice none 0 0)),.p (.im (.slice none 0 0)),.p (.im (.slice none 0 0))] (by exact rfl) (by exact rfl)).trans ((aA.gH (by exact hC) _ 103 5 90001 169 _ [.p (.sl (a.coppers.map rr)),.p (aE a.outline),.p (.sl (a.bores.map bc)),.p (.sl (a.lands.map lc)),.ow 90000,.nl,.p (.im (.slice none 0 0)),.p (.im (.slice none 0 0)),.p (.im (.slice none 0 0)),.p (.im (.slice none 0 0)),.p (.im (.slice none 0 0)),.p (.im (.slice none 0 0))] (by decide) (by decide) (by exact rfl) (by exact rfl) (by exact rfl) (by decide)).trans ((aA.vh (by exact hC) _ 103 6 [.p (.sl (a.coppers.map rr)),.p (aE a.outline),.p (.sl (a.bores.map bc)),.p (.sl (a.lands.map lc)),.ow 90000,.ow 90001,.p (.im (.slice none 0 0)),.p (.im (.slice none 0 0)),.p (.im (.slice none 0 0)),.p (.im (.slice none 0 0)),.p (.im (.slice none 0 0)),.p (.im (.slice none 0 0))] (by exact rfl) (by exact rfl)).trans ((aA.gH (by exact hC) _ 103 6 90002 54 _ [.p (.sl (a.coppers.map rr)),.p (aE a.outline),.p (.sl (a.bores.map bc)),.p (.sl (a.lands.map lc)),.ow 90000,.ow 90001,.nl,.p (.im (.slice none 0 0)),.p (.im (.slice none 0 0)),.p (.im (.slice none 0 0)),.p (.im (.slice none 0 0)),.p (.im (.slice none 0 0))] (by decide) (by decide) (by exact rfl) (by exact rfl) (by exact rfl) (by decide)).trans ((aA.vh (by exact hC) _ 103 7 [.p (.sl (a.coppers.map rr)),.p (aE a.outline),.p (.sl (a.bores.map bc)),.p (.sl (a.lands.map lc)),.ow 90000,.ow 90001,.ow 90002,.p (.im (.slice none 0 0)),.p (.im (.slice none 0 0)),.p (.im (.slice none 0 0)),.p (.im (.slice none 0 0)),.p (.im (.slice none 0 0))] (by exact rfl) (by exact rfl)).trans ((aA.gH (by exact hC) _ 103 7 90003 59 _ [.p (.sl (a.coppers.map rr)),.p (aE a.outline),.p (.sl (a.bores.map bc)),.p (.sl (a.lands.map lc)),.ow 90000,.ow 90001,.ow 90002,.nl,.p (.im (.slice none 0 0)),.p (.im (.slice none 0 0)),.p (.im (.slice none 0 0)),.p (.im (.slice none 0 0))] (by decide) (by decide) (by exact rfl) (by exact rfl) (by exact rfl) (by decide)).trans ((aA.vh (by exact hC) _ 103 8 [.p (.sl (a.coppers.map rr)),.p (aE a.outline),.p (.sl (a.bores.map bc)),.p (.sl (a.lands.map lc)),.ow 90000,.ow 90001,.ow 90002,.ow 90003,.p (.im (.slice none 0 0)),.p (.im (.slice none 0 0)),.p (.im (.slice none 0 0)),.p (.im (.slice none 0 0))] (by exact rfl) (by exact rfl)).trans ((aA.gH (by exact hC) _ 103 8 90004 3 _ [.p (.sl (a.coppers.map rr)),.p (aE a.outline),.p (.sl (a.bores.map bc)),.p (.sl (a.lands.map lc)),.ow 90000,.ow 90001,.ow 90002,.ow 90003,.nl,.p (.im (.slice none 0 0)),.p (.im (.slice none 0 0)),.p (.im (.slice none 0 0))] (by decide) (by decide) (by exact rfl) (by exact rfl) (by exact rfl) (by decide)).trans ((aA.vh (by exact hC) _ 103 9 [.p (.sl (a.coppers.map rr)),.p (aE a.outline),.p (.sl (a.bores.map bc)),.p (.sl (a.lands.map lc)),.ow 90000,.ow 90001,.ow 90002,.ow 90003,.ow 90004,.p (.im (.slice none 0 0)),.p (.im (.slice none 0 0)),.p (.im (.slice none 0 0))] (by exact rfl) (by exact rfl)).trans ((aA.gH (by exact hC) _ 103 9 90005 3 _ [.p (.sl (a.coppers.map rr)),.p (aE a.outline),.p (.sl (a.bores.map bc)),.p (.sl (a.lands.map lc)),.ow 90000,.ow 90001,.ow 90002,.ow 90003,.ow 90004,.nl,.p (.im (.slice none 0 0)),.p (.im (.slice none 0 0))] (by decide) (by decide) (by exact rfl) (by exact rfl) (by exact rfl) (by decide)).trans ((aA.vh (by exact hC) _ 103 10 [.p (.sl (a.coppers.map rr)),.p (aE a.outline),.p (.sl (a.bores.map bc)),.p (.sl (a.lands.map lc)),.ow 90000,.ow 90001,.ow 90002,.ow 90003,.ow 90004,.ow 90005,.p (.im (.slice none 0 0)),.p (.im (.slice none 0 0))] (by exact rfl) (by exact rfl)).trans ((aA.gH (by exact hC) _ 103 10 90006 3 _ [.p (.sl (a.coppers.map rr)),.p (aE a.outline),.p (.sl (a.bores.map bc)),.p (.sl (a.lands.map lc)),.ow 90000,.ow 90001,.ow 90002,.ow 90003,.ow 90004,.ow 90005,.nl,.p (.im (.slice none 0 0))] (by decide) (by decide) (by exact rfl) (by exact rfl) (by exact rfl) (by decide)).trans ((aA.vh (by exact hC) _ 103 11 [.p (.sl (a.coppers.map rr)),.p (aE a.outline),.p (.sl (a.bores.map bc)),.p (.sl (a.lands.map lc)),.ow 90000,.ow 90001,.ow 90002,.ow 90003,.ow 90004,.ow 90005,.ow 90006,.p (.im (.slice none 0 0))] (by exact rfl) (by exact rfl)).trans ((aA.gH (by exact hC) _ 103 11 90007 177 _ [.p (.sl (a.coppers.map rr)),.p (aE a.outline),.p (.sl (a.bores.map bc)),.p (.sl (a.lands.map lc)),.ow 90000,.ow 90001,.ow 90002,.ow 90003,.ow 90004,.ow 90005,.ow 90006,.nl] (by decide) (by decide) (by exact rfl) (by exact rfl) (by exact rfl) (by decide)).trans (aA.pack (by exact hC) _ 103 (bs:=[.p (.sl (a.coppers.map rr)),.p (aE a.outline),.p (.sl (a.bores.map bc)),.p (.sl (a.lands.map lc)),.ow 90000,.ow 90001,.ow 90002,.ow 90003,.ow 90004,.ow 90005,.ow 90006,.ow 90007]) (cs:=[.p (.sl (a.coppers.map rr)),.p (aE a.outline),.p (.sl (a.bores.map bc)),.p (.sl (a.lands.map lc)),.row 158 [],.row 169 [],.row 54 [],.row 59 [],.row 3 [],.row 3 [],.row 3 [],.row 177 []]) (by exact rfl) (by exact rfl) (by exact⟨Z,Z,Z,Z,Z,Z,Z,Z,Z,Z,Z,Z,Y⟩)))))))))))))))))) ?_;have ha:xY a:=by
  refine⟨⟨by omega,by omega⟩,Reg.rX D,z,Jo,Zy,?_⟩;unfold fQ at J;split at J
  ·cases J
  omega
 refine⟨_,_,(G5 a ha),iW ?_ ?_⟩<;>intro U
 ·rw[aa (by simpa using U)]at u;refine⟨?_,trivial⟩;rw[u];rfl
 rw[ae (by simpa using U)]at u;have U:pN a=true:=by simpa using U
 simp only[pN,aJ,fV]at U;have VU:∀p∈Reg.gf a.bores 0 a.coppers,(told p.set).length<=4398046511104:=fun p hp=>by
  obtain⟨i,r,O,h2,h3⟩:=Reg.C8 hp;have dr:=C6 (fun b hb=>xZ (Zy b hb)) Jo (0+(i:Int)) (Reg.rX D r (aj O));obtain⟨p1,_,_,p3⟩:=Reg.EV dr.sok h3;exact Reg.aav p1 ((p3 _ dr.ink).up (by omega))
 have adm:=C7 a ha ((Reg.kX a.bores 0 a.coppers).map fun s=>[a_ s]) (Reg.gf a.bores 0 a.coppers) (Reg.fP a.bores (Reg.gf a.bores 0 a.coppers)) (by omega) VU (E5 _) _ rfl _ _ rfl _ rfl (fun x L p hp=>by
  obtain⟨b,_,rfl⟩:=aZ.1 L;have:=Reg.EY b _ 0 p hp;omega) (fun x L=>by
  obtain⟨b,_,rfl⟩:=aZ.1 L;have:=Reg.C9 b (Reg.gf a.bores 0 a.coppers) 0;omega)
 refine⟨_,_,(G6 a ha _ _ (by omega) VU),_,_,adm,?_⟩;refine abA ((aA.open (by exact hC) _ 103 [90000,90001,90002,90003,90004,90005,90006,90007] (cs:=[.p (.sl (a.coppers.map rr)),.p (aE a.outline),.p (.sl (a.bores.map bc)),.p (.sl (a.lands.map lc)),.row 158 ((aX a).drilled.map fun s=>[a_ s]),.row 169 ((aX a).pieces.map mJ),.row 54 ((aX a).fP.map fun l=>[ints l]),.row 59 ((aX a).placed.groups.map DZ),.row 3 (aK (aX a).ofPiece),.row 3 (aK (aX a).ofBore),.row 3 (aK (aX a).placed.ofLand),.row 177 ((aX a).placed.atLand.map jx)]) (by exact rfl) rfl rfl rfl).trans ((aA.gI (by exact hC) _ 103 4 90000 158 ((aX a).drilled.map fun s=>[a_ s]) [.p (.sl (a.coppers.map rr)),.p (aE a.outline),.p (.sl (a.bores.map bc)),.p (.sl (a.lands.map lc)),.ow 90000,.ow 90001,.ow 90002,.ow 90003,.ow 90004,.ow 90005,.ow 90006,.ow 90007] (by decide) (by exact rfl) (by exact rfl) (by exact rfl)).trans ((aA.gI (by exact hC) _ 103 5 90001 169 ((aX a).pieces.map mJ) [.p (.sl (a.coppers.map rr)),.p (aE a.outline),.p (.sl (a.bores.map bc)),.p (.sl (a.lands.map lc)),.p (.sl ((aX a).drilled.map fun s=>[a_ s])),.ow 90001,.ow 90002,.ow 90003,.ow 90004,.ow 90005,.ow 90006,.ow 90007] (by decide) (by exact rfl) (by exact rfl) (by exact rfl)).trans ((aA.gI (by exact hC) _ 103 6 90002 54 ((aX a).fP.map fun l=>[ints l]) [.p (.sl (a.coppers.map rr)),.p (aE a.outline),.p (.sl (a.bores.map bc)),.p (.sl (a.lands.map lc)),.p (.sl ((aX a).drilled.map fun s=>[a_ s])),.p (.sl ((aX a).pieces.map mJ)),.ow 90002,.ow 90003,.ow 90004,.ow 90005,.ow 90006,.ow 90007] (by decide) (by exact rfl) (by exact rfl) (by exact rfl)).trans ((aA.gI (by exact hC) _ 103 7 90003 59 ((aX a).placed.groups.map DZ) [.p (.sl (a.coppers.map rr)),.p (aE a.outline),.p (.sl (a.bores.map bc)),.p (.sl (a.lands.map lc)),.p (.sl ((aX a).drilled.map fun s=>[a_ s])),.p (.sl ((aX a).pieces.map mJ)),.p (.sl ((aX a).fP.map fun l=>[ints l])),.ow 90003,.ow 90004,.ow 90005,.ow 90006,.ow 90007] (by decide) (by exact rfl) (by exact rfl) (by exact rfl)).trans ((aA.gI (by exact hC) _ 103 8 90004 3 (aK (aX a).ofPiece) [.p (.sl (a.coppers.map rr)),.p (aE a.outline),.p (.sl (a.bores.map bc)),.p (.sl (a.lands.map lc)),.p (.sl ((aX a).drilled.map fun s=>[a_ s])),.p (.sl ((aX a).pieces.map mJ)),.p (.sl ((aX a).fP.map fun l=>[ints l])),.p (.sl ((aX a).placed.groups.map DZ)),.ow 90004,.ow 90005,.ow 90006,.ow 90007] (by decide) (by exact rfl) (by exact rfl) (by exact rfl)).trans ((aA.gI (by exact hC) _ 103 9 90005 3 (aK (aX a).ofBore) [.p (.sl (a.coppers.map rr)),.p (aE a.outline),.p (.sl (a.bores.map bc)),.p (.sl (a.lands.map lc)),.p (.sl ((aX a).drilled.map fun s=>[a_ s])),.p (.sl ((aX a).pieces.map mJ)),.p (.sl ((aX a).fP.map fun l=>[ints l])),.p (.sl ((aX a).placed.groups.map DZ)),.p (.sl (aK (aX a).ofPiece)),.ow 90005,.ow 90006,.ow 90007] (by decide) (by exact rfl) (by exact rfl) (by exact rfl)).trans ((aA.gI (by exact hC) _ 103 10 90006 3 (aK (aX a).placed.ofLand) [.p (.sl (a.coppers.map rr)),.p (aE a.outline),.p (.sl (a.bores.map bc)),.p (.sl (a.lands.map lc)),.p (.sl ((aX a).drilled.map fun s=>[a_ s])),.p (.sl ((aX a).pieces.map mJ)),.p (.sl ((aX a).fP.map fun l=>[ints l])),.p (.sl ((aX a).placed.groups.map DZ)),.p (.sl (aK (aX a).ofPiece)),.p (.sl (aK (aX a).ofBore)),.ow 90006,.ow 90007] (by decide) (by exact rfl) (by exact rfl) (by exact rfl)).trans (aA.gI (by exact hC) _ 103 11 90007 177 ((aX a).placed.atLand.map jx) [.p (.sl (a.coppers.map rr)),.p (aE a.outline),.p (.sl (a.bores.map bc)),.p (.sl (a.lands.map lc)),.p (.sl ((aX a).drilled.map fun s=>[a_ s])),.p (.sl ((aX a).pieces.map mJ)),.p (.sl ((aX a).fP.map fun l=>[ints l])),.p (.sl ((aX a).placed.groups.map DZ)),.p (.sl (aK (aX a).ofPiece)),.p (.sl (aK (aX a).ofBore)),.p (.sl (aK (aX a).placed.ofLand)),.ow 90007] (by decide) (by exact rfl) (by exact rfl) (by exact rfl)))))))))) ?_;exact And.intro (by rw[u,ae rfl];rfl) trivial
open Reg (aak through iL at')
structure Break where
 kind:Int
 a:Int
 b:Int
 is:Int
 need:Int
 spot:Int×Int
def amt(nets:List ByteArray)(g:Int):ByteArray:=nets.getD g.toNat bC
end M
namespace Reg
theorem aaY{y:Int}:∀{s:List aR},dF s->∀{b c:aR},b∈s->c∈s->b.y0<=y->y<b.y1->c.y0<=y->y<c.y1->b=c
 | [],_,b,c,hb,_,_,_,_,_=>by cases hb
 | d::s,h,b,c,hb,hc,J,L,c1,c2=>by
  rcases L8.1 hb with I | z
  ·rcases L8.1 hc with D | u
   ·rw[I,D]
   have:=h.j_ c u;subst I;omega
  rcases L8.1 hc with D | u
  ·have:=h.j_ b z;subst D;omega
  exact aaY h.tail z u J L c1 c2
theorem ady{x:Int}:∀{s:cw},Canon s->∀{p q:Int×Int},p∈s->q∈s->p.1<=x->x<p.2->q.1<=x->x<q.2->p=q
 | [],_,p,q,hp,_,_,_,_,_=>by cases hp
 | d::s,h,p,q,hp,hq,I,J,q1,L=>by
  rcases L8.1 hp with D | z
  ·rcases L8.1 hq with eq | u
   ·rw[D,eq]
   have:=h.behind q u;subst D;omega
  rcases L8.1 hq with eq | u
  ·have:=h.behind p z;subst eq;omega
  exact ady h.tail z u I J q1 L
variable {s:List aR}
theorem agk(h:dF s){x y:Int}{a b:aB}(z:a∈told s)(hb:b∈told s)(D:oV x y a=true)(I:oV x y b=true):a=b:=by
 obtain⟨c,u,p,hp,rfl⟩:=mA.1 z;obtain⟨d,J,q,L,rfl⟩:=mA.1 hb;obtain⟨N,O,R,U⟩:=dC.1 D;obtain⟨V,W,Y,Z⟩:=dC.1 I;have e:=aaY h u J R U Y Z;subst e;have e:=ady (h.mem c u).can hp L N O V W;subst e;rfl
theorem agl(h:dF s):(told s).Nodup:=by
 rw[rR];refine (Lk h).imp fun {a b} u e=>?_;have:=vL.1 u;subst e;omega
theorem ac7(h:dF s){l:List aB}(hl:∀r∈l,r∈told s):(told (cH l)).length<=l.length:=by
 obtain⟨I,L,_⟩:=b7 fun r J=>nW h r (hl r J);have hn:((told (cH l)).map fun q=>(q.y0,q.x0)).Nodup:=by
  rw[rR,gM];refine (Lk I).imp fun {a b} Hh e=>?_;have:=vL.1 Hh;simp only[Prod.mk.injEq]at e;omega
 have:=Ji (m:=l.map fun q=>(q.y0,q.x0)) hn fun z hz=>by
  obtain⟨q,hq,rfl⟩:=aZ.1 hz;obtain⟨b,hb,p,hp,rfl⟩:=mA.1 hq;have D:=I.mem b hb;have Y:at' (cH l) p.1 b.y0=true:=by
   rw[Sn I hb (pq _) D.lt,dL D.can];exact⟨p,hp,pq _,iK D.can p hp⟩
  rw[L,wy]at Y;obtain⟨r,J,hx⟩:=Y;have N:=hl r J;obtain⟨c,Z,t,ht,rfl⟩:=mA.1 N;obtain⟨x1,x2,x3,x4⟩:=dC.1 hx;simp only at x1 x2 x3 x4;have e1:t.1=p.1:=by
   refine qZ fun cO=>?_;have:at' (cH l) (p.1-1) b.y0=true:=by
    rw[L,wy];exact⟨_,J,dC.2 ⟨by simp only;omega,by simp only;omega,x3,x4⟩⟩
   rw[Sn I hb (pq _) D.lt,dL D.can]at this;exact CW D.can hp this
  have e2:c.y0=b.y0:=by
   refine qZ fun cO=>?_;obtain⟨x,O⟩:=O1 I hb;refine O ?_;rw[L,L];refine xV fun r' yz=>?_;obtain⟨d,hd,u,hu,rfl⟩:=mA.1 (hl r' yz);rw[Ax,dC,dC];simp only;constructor
   ·rintro⟨R,U,V,W⟩;have:=aaY h hd Z V W (by omega) (by omega);subst this;exact⟨R,U,by omega,by omega⟩
   rintro⟨R,U,V,W⟩;have:=aaY h hd Z V W (by omega) (by omega);subst this;exact⟨R,U,by omega,by omega⟩
  exact aZ.2 ⟨_,J,by simp only[e1,e2]⟩
 rw[E5,E5]at this;exact this
theorem afB{l:List aB}{m:Nat}(h:m<l.length):l[m]?=some (l.getD m kW):=by
 rw[dc,oX h];rfl
theorem ad9(p:Nat->Nat)(i r:Nat):(kj p i r).Nodup:=pE ga List.nodup_range
theorem aeQ{α:Type}:∀{l:List α},l.Nodup->∀{a b:Nat} {x:α},l[a]?=some x->l[b]?=some x->a=b
 | [],_,a,b,x,ha,_=>by simp at ha
 | y::l,h,a,b,x,ha,hb=>by
  have h':=L9.1 h;cases a with
  | zero=>
   cases b with
   | zero=>rfl
   | succ b=>
    have e:=Option.some.inj ha;exact absurd (by rw[e];exact aj (by simpa using hb)) h'.1
  | succ a=>
   cases b with
   | zero=>
    have e:=Option.some.inj hb;exact absurd (by rw[e];exact aj (by simpa using ha)) h'.1
   | succ b=>rw[aeQ h'.2 (a:=a) (b:=b) (by simpa using ha) (by simpa using hb)]
theorem ag_(h:dF s){a b:Nat}{l m:List aB}(u:(Jg s)[a]?=some l)(hb:(Jg s)[b]?=some m)(Y:a≠b):
  l.length+m.length<=(told s).length/\∀r∈l,∀q∈m,∀x y,¬(oV x y r=true/\oV x y q=true):=by
 obtain⟨u1,u2⟩:=Sm s;rw[Jg,aD,a7,aD]at u hb;cases z:(dy (kV (ET s)) (told s).length)[a]? with
 | none=>rw[z]at u;cases u
 | some J=>
  cases D:(dy (kV (ET s)) (told s).length)[b]? with
  | none=>rw[D]at hb;cases hb
  | some L=>
   rw[z]at u;rw[D]at hb;have u:=(Option.some.inj u).symm;have hb:=(Option.some.inj hb).symm;have hk:J≠L:=fun e=>by
    subst e;exact Y (Sh (CO _ _) z D)
   have Z:(kj (kV (ET s)) (told s).length J++kj (kV (ET s)) (told s).length L).Nodup:=by
    rw[ad2];refine⟨ad9 _ _ _,ad9 _ _ _,fun i hi j I e=>?_⟩;subst e;exact hk ((pM.1 hi).2.symm.trans (pM.1 I).2)
   have:=Ji (m:=List.range (told s).length) Z fun i hi=>by
    rw[wx];rcases fC.1 hi with hi | hi
    ·exact (pM.1 hi).1
    exact (pM.1 hi).1
   rw[bJ,xF]at this;refine⟨by rw[u,hb,E5,E5];exact this,fun r N q O x y R=>?_⟩;rw[u]at N;rw[hb]at O;obtain⟨i,hi,rfl⟩:=aZ.1 N;obtain⟨j,I,rfl⟩:=aZ.1 O;obtain⟨U,i2⟩:=pM.1 hi;obtain⟨V,j2⟩:=pM.1 I;have e:=agk h (O6 U) (O6 V) R.1 R.2;have W:=afB U;have Th:=afB V;rw[e]at W;have:=aeQ (agl h) W Th;subst this;exact hk (i2.symm.trans j2)
theorem ahN{a:Nat}{l:List aB}(u:(Jg s)[a]?=some l):l.length<=(told s).length:=by
 rw[Jg,aD,a7,aD]at u;cases z:(dy (kV (ET s)) (told s).length)[a]? with
 | none=>rw[z]at u;cases u
 | some ka=>
  rw[z]at u;have u:=(Option.some.inj u).symm;rw[u,E5];exact xT _ _ _
variable {bs:List dq}
theorem agm{p q:Piece}(I:p.layer=q.layer)(l:List (List aB)):∀(k:Int) (i j:Nat),(gf bs k l)[i]?=some p->(gf bs k l)[j]?=some q->i<j ->
  ∃(n:Nat) (r:List aB) (a b:Nat),l[n]?=some r/\a<b/\(iO (mE bs (k+n) r))[a]?=some p.set/\(iO (mE bs (k+n) r))[b]?=some q.set:=by
 induction l with
 | nil=>intro k i j hp;rw[gf]at hp;cases hp
 | cons r l ih=>
  intro k i j hp u N;rw[gf]at hp u;obtain⟨S,hS⟩:∃S,S=iO (mE bs k r):=⟨_,rfl⟩;rw[<-hS]at hp u;by_cases c:j<S.length
  ·rw[dN (by rw[E5];omega),aD]at hp u;cases D:S[i]? with
   | none=>rw[D]at hp;cases hp
   | some s=>
    cases eq:S[j]? with
    | none=>rw[eq]at u;cases u
    | some t=>
     rw[D]at hp;rw[eq]at u;have hp:=Option.some.inj hp;have u:=Option.some.inj u;have z:k+((0:Nat):Int)=k:=by omega
     refine⟨0,r,i,j,rfl,N,?_,?_⟩
     ·rw[z,<-hS,D,<-hp]
     rw[z,<-hS,eq,<-u]
  rw[du (by rw[E5];omega)]at u;obtain⟨n,r',J,L,_⟩:=C8 (aj u);by_cases d:i<S.length
  ·rw[dN (by rw[E5];omega),aD]at hp;cases D:S[i]? with
   | none=>rw[D]at hp;cases hp
   | some s=>
    rw[D]at hp;have hp:=Option.some.inj hp;rw[<-hp]at I;simp only at I;omega
  rw[du (by rw[E5];omega)]at hp;obtain⟨n,r',a,b,J,L,O,R⟩:=ih (k+1) _ _ hp u (by rw[E5];omega);have e:k+((n+1:Nat):Int)=k+1+(n:Int):=by omega
  exact⟨n+1,r',a,b,by simpa using J,L,by rw[e];exact O,by rw[e];exact R⟩
theorem ad3:∀{l:List (List aB)} {k:Int},Jj bs k l=true->∀(n:Nat) r,l[n]?=some r->(told (mE bs (k+n) r)).length<=2000
 | [],k,_,n,r,h=>by simp at h
 | q::l,k,hf,n,r,h=>by
  rw[Jj,aJ,fV]at hf;cases n with
  | zero=>
   have:=Option.some.inj h;subst this;simpa using hf.1
  | succ n=>
   have:=ad3 hf.2 n r (by simpa using h);have e:k+((n+1:Nat):Int)=k+1+(n:Int):=by omega
   rw[e];exact this
structure acb(p q:Piece):Prop where
 few:(told p.set).length+(told q.set).length<=2000
 apart:∀x y,¬(at' p.set x y=true/\at' q.set x y=true)
theorem air{l:List (List aB)}{k:Int}{i j:Nat}{p q:Piece}(W:∀(n:Nat) r,l[n]?=some r->dF (mE bs (k+n) r))(Y:Jj bs k l=true)(hp:(gf bs k l)[i]?=some p)(Z:(gf bs k l)[j]?=some q)(Ma:i<j)(he:p.layer=q.layer):acb p q:=by
 obtain⟨n,r,a,b,R,h2,z,D⟩:=agm he _ _ _ _ hp Z Ma;have I:=W n r R;have Jo:=ad3 Y n r R;rw[iO,aD]at z D;cases L:(Jg (mE bs (k+n) r))[a]? with
 | none=>rw[L]at z;cases z
 | some x=>
  cases N:(Jg (mE bs (k+n) r))[b]? with
  | none=>rw[N]at D;cases D
  | some y=>
   rw[L]at z;rw[N]at D;have z:=Option.some.inj z;have D:=Option.some.inj D;obtain⟨c1,c2⟩:=ag_ I L N (by omega);have U:=(O7 (aj L)).2;have V:=(O7 (aj N)).2;have sx:=ac7 I U;have sy:=ac7 I V;obtain⟨_,bx,_⟩:=b7 fun r O=>nW I r (U r O);obtain⟨_,mf,_⟩:=b7 fun r O=>nW I r (V r O);refine⟨by rw[<-z,<-D];omega,fun u v J=>?_⟩;rw[<-z,<-D,bx,mf,wy,wy]at J;obtain⟨⟨r1,m1,e1⟩,r2,m2,e2⟩:=J;exact c2 r1 m1 r2 m2 u v ⟨e1,e2⟩
end Reg
namespace M
open Reg (aB aR dq yr Piece aak dF gy told cH ew bM through VQ aX iL at' yb a7 kV Lx fP gf th)
theorem afC{a:yr}(h:gw a=0):xY a/\Reg.pN a=true/\Reg.jj a.bores 0=false:=by
 unfold gw at h;split at h
 ·cases h
 rename_i g1;split at h
 ·cases h
 rename_i g2;split at h
 ·rename_i g;exact absurd h g
 rename_i D;have D:Reg.jJ a.coppers=0:=by simpa using D
 split at h
 ·rename_i g;exact absurd h g
 rename_i I;have I:Reg.bA a.outline=0:=by simpa using I
 split at h
 ·cases h
 split at h
 ·rename_i g;exact absurd h g
 rename_i u;have u:Reg.b8 a=0:=by simpa using u
 split at h
 ·rename_i g;exact absurd h g
 rename_i z;have z:fQ a=0:=by simpa using z
 split at h
 ·cases h
 rename_i L;split at h
 ·rename_i N;have O:a.bores.length<=500:=by
   unfold Reg.b8 at u;split at u
   ·cases u
   omega
  have J:Reg.eL a.coppers.length a.bores=0:=by rwa [Reg.b8,aa (by omega)]at u
  refine⟨⟨⟨by omega,by omega⟩,Reg.rX D,I,O,Reg.Ln J,?_⟩,N,by simpa using L⟩;unfold fQ at z;split at z
  ·cases z
  omega
 cases h
structure ajC(a:yr)(p:Piece):Prop where
 sok:dF p.set
 ink:gy 1000000 p.set
 ne:p.set≠[]
 few:(told p.set).length<=2000
 lo:0<=p.layer
 hi:p.layer<a.coppers.length
structure ahO(a:yr):Prop where
 art:xY a
 few:(aX a).pieces.length<=2000
 pc:∀p∈(aX a).pieces,ajC a p
 two:∀(i j:Nat) p q,(aX a).pieces[i]?=some p->(aX a).pieces[j]?=some q->i<j->p.layer=q.layer->Reg.acb p q
 gr:th a.bores (aX a).pieces.length (((aX a).ofPiece,(aX a).ofBore),(yb a.bores (aX a).pieces.length (a7 (kV (Lx (aX a).pieces.length a.bores.length (aX a).fP)) ((aX a).pieces.length+a.bores.length))).2)
theorem abC{a:yr}(u:xY a):∀b∈a.bores,ew b=true:=fun b hb=>xZ (u.bor b hb)
theorem abV{a:yr}(h:gw a=0):ahO a:=by
 obtain⟨z,D,_⟩:=afC h;have I:∀(n:Nat) r,a.coppers[n]?=some r->ac8 (Reg.mE a.bores (0+n) r):=fun n r J=>C6 (abC z) z.few _ (z.reg r (aj J));rw[Reg.pN,aJ,fV]at D;refine⟨z,D.2,fun p hp=>?_,fun i j p q hp N O R=>Reg.air (fun n r J=>(I n r J).sok) D.1 hp N O R,?_⟩
 ·obtain⟨n,r,u,h2,L⟩:=Reg.C8 hp;have hn:=(az.1 u).1;obtain⟨U,V,_,W⟩:=Reg.EV (I n r u).sok L;refine⟨U,W _ (I n r u).ink,V,?_,by omega,by omega⟩;have Jo:=Reg.ad3 D.1 n r u;obtain⟨l,hl,e⟩:=aZ.1 L;have Y:=(Reg.O7 hl).2;have s1:=Reg.ac7 (I n r u).sok Y;obtain⟨k,hk⟩:=il hl;have s2:=Reg.ahN hk;rw[<-e];omega
 have Z:∀x∈fP a.bores (gf a.bores 0 a.coppers),∀p∈x,0<=p/\p<((gf a.bores 0 a.coppers).length:Int):=fun x hx p hp=>by
  obtain⟨b,_,rfl⟩:=aZ.1 hx;have:=Reg.EY b (gf a.bores 0 a.coppers) 0 p hp;omega
 have hl:(fP a.bores (gf a.bores 0 a.coppers)).length=a.bores.length:=by rw[Reg.fP,E5]
 obtain⟨u1,u2⟩:=Reg.Jr (n:=(gf a.bores 0 a.coppers).length) (nb:=a.bores.length) (fP a.bores (gf a.bores 0 a.coppers)) 0 (Reg.iota ((gf a.bores 0 a.coppers).length+a.bores.length)) (Reg.Bf _) (Reg.qz _) (by omega) Z;exact Reg.Pa u1 u2
def aaG(a b:Break):Prop:=a.kind=b.kind/\a.a=b.a/\a.b=b.b/\a.is=b.is
def Has(l m:List Break):Prop:=∀b∈l,∃c∈m,aaG b c
theorem Has.nil(m:List Break):Has [] m:=fun b hb=>by cases hb
end M
end Go.Proofs.YtliffnpbaeijgaaGreatDoor
namespace Go.AM
end Go.AM
namespace Go.Proofs.YtliffnpbaeijgaaGreatDoor
namespace M
open Go.AM Go.RowKit Go.Lib
open Reg (aB aR dq yr Piece aak dF gy told cH ew bM through aX iL)
end M
end Go.Proofs.YtliffnpbaeijgaaGreatDoor
namespace Go.AM
open Go.RowKit Go.ChangeShapes
section
variable {H:Type} {enc:TypeId×Value->H} {P:Program} {w:World} {S:Nat->Prop}
theorem RC{t:TypeId}(u:P.underlying t=some .bool):Mz enc P w S t 1 fun xs d=>∃b:Bool,xs=[.im (.bool b)]:=fun n cs x h=>by
 obtain⟨b,rfl,rfl⟩:=DataW.trod_bool u h;exact⟨[.im (.bool b)],rfl,rfl,one_cell ⟨.im _,rfl⟩,b,rfl⟩
def bL(S:Nat->Prop)(w:World)(o:Nat)(xs:List PV)(cs:List Value):Prop:=∀(i:Nat) c v,xs[i]?=some c->cs[o+i]?=some v->aO S w c v/\v.oneCell'=true
theorem bL.join{o:Nat}{xs ys:List PV}{cs:List Value}(h:bL S w o xs cs)(k:bL S w (o+xs.length) ys cs):bL S w o (xs++ys) cs:=fun i c v u z=>by
 by_cases e:i<xs.length
 ·rw[dN e]at u;exact h i c v u z
 rw[du (by omega)]at u;refine k (i-xs.length) c v u ?_;rw[<-z];congr 1;omega
theorem cU{t:TypeId}{u:Array Field}(L:P.underlying t=some (.struct u))(ks:Nat->Nat)(hk:∀(i:Nat) (f:Field),u[i]?=some f->P.cellsOf f.type=ks i)(Qs:Nat->List PV->DataW H->Prop)(N:∀(i:Nat) (f:Field),u[i]?=some f->Mz enc P w S f.type (ks i) (Qs i)){n:Nat}{cs:List Value}{x:DataW H×List MemPlace}(h:DataW.trod enc P w 0 (fun _=>true) true n t cs=some x):
  cs.length=P.cellsOf t/\∃ds:List (DataW H),x.1=.agg ds/\ds.length=u.size/\∀(i:Nat) (f:Field),u[i]?=some f->∃xs d,xs.length=ks i/\bL S w f.offset xs cs/\ds[i]?=some d/\Qs i xs d:=by
 obtain⟨ys,m,_,rfl,hl,hlen,O⟩:=DataW.trod_struct L h;refine⟨hl,ys.map (·.1),rfl,by rw[E5,hlen],fun i f z=>?_⟩;have hi:i<u.size:=(qS.1 z).1;have D:=O i f z;have I:ys[i]?=some ys[i]:=oX (by omega);rw[I,hk i f z]at D;obtain⟨xs,l1,l2,R,U⟩:=N i f z _ _ _ D;refine⟨xs,ys[i].1,l1,fun j c v J V=>R j c v J ?_,by rw[aD,I];rfl,U⟩;have hj:=(az.1 J).1;rw[oZ (by omega),aW];exact V
end
end Go.AM
namespace Go.Proofs.YtliffnpbaeijgaaGreatDoor
namespace M
open Go.AM Go.RowKit Go.Lib
open Reg (aB cw aR dq oW yr)
variable {H:Type} {enc:TypeId×Value->H} {w:World} {S:Nat->Prop}
theorem alg:Sp enc w S 4 1 (fun b=>[bool b]) fun _ _=>True:=fun n cs x h=>by
 obtain⟨xs,l1,l2,u,b,e⟩:=RC (S:=S) tS n cs x h;exact⟨xs,l1,l2,u,b,e,trivial⟩
def Xj(P:Program)(fs:Array Field)(ks:Nat->Nat):Bool:=(List.range fs.size).all fun i=>match fs[i]? with
 | some f=>Nat.beq (P.cellsOf f.type) (ks i)
 | none=>true
theorem dI{P:Program}{u:Array Field}{ks:Nat->Nat}(h:Xj P u ks=true):∀(i:Nat) (f:Field),u[i]?=some f->P.cellsOf f.type=ks i:=fun i f z=>by
 have hi:=(qS.1 z).1;have:=dY.1 h i (wx.2 hi);rw[z]at this;exact cY this
theorem ais:Sp enc w S 87 6 bc fun _ _=>True:=fun n cs x h=>by
 obtain⟨hl,ds,e,ld,q⟩:=cU (S:=S) (ks:=fun i=>match i with | 0=>2 | _=>1) (hk:=dI (by kernel_rfl)) (Qs:=fun i xs d=>match i with
   | 0=>∃p:Int×Int,xs=[i64 p.1,i64 p.2]/\True
   | 4=>∃b,xs=[bool b]/\True
   | _=>∃n,xs=[i64 n]/\True) Tryz.underlying87 (fun i f u=>by
  match i,u with
  | 0,u=>cases u;exact Ro
  | 1,u=>cases u;exact An
  | 2,u=>cases u;exact An
  | 3,u=>cases u;exact An
  | 4,u=>cases u;exact alg
  | n+5,u=>cases u) h
 have hl:cs.length=6:=hl.trans (by kernel_rfl);obtain⟨x0,_,_,N,_,p,O,_⟩:=q 0 _ rfl;obtain⟨x1,_,_,R,_,D,e1,_⟩:=q 1 _ rfl;obtain⟨x2,_,_,U,_,I,e2,_⟩:=q 2 _ rfl;obtain⟨x3,_,_,V,_,J,W,_⟩:=q 3 _ rfl;obtain⟨x4,_,_,r4,_,L,e4,_⟩:=q 4 _ rfl;cases O;cases e1;cases e2;cases W;cases e4;have z:bL S w 0 ([i64 p.1,i64 p.2]++([i64 D]++([i64 I]++([i64 J]++[bool L])))) cs:=bL.join N (bL.join R (bL.join U (bL.join V r4)));exact⟨_,rfl,hl,fun i c v h1 h2=>z i c v h1 (by rw[fX];exact h2),⟨p.1,p.2,D,I,J,L⟩,Z,Y⟩
def ad_(l:oW)(n:Nat):Prop:=l.part.size<=n/\l.pin.size<=n
theorem abE(l:oW)(m n:Nat)(h:m<=n):ad_ l m->ad_ l n:=fun ⟨u,z⟩=>⟨aS u h,aS z h⟩
theorem ait:Sp enc w S 142 5 lc ad_:=fun n cs x h=>by
 obtain⟨hl,ds,e,ld,q⟩:=cU (S:=S) (ks:=fun i=>match i with | 3=>2 | _=>1) (hk:=dI (by kernel_rfl)) (Qs:=fun i xs d=>match i with
   | 0=>∃s,xs=[str s]/\s.size<=Rows.uptoBulk d
   | 1=>∃s,xs=[str s]/\s.size<=Rows.uptoBulk d
   | 2=>∃n,xs=[i64 n]/\True
   | _=>∃p:Int×Int,xs=[i64 p.1,i64 p.2]/\True) Tryz.underlying142 (fun i f u=>by
  match i,u with
  | 0,u=>cases u;exact Xc
  | 1,u=>cases u;exact Xc
  | 2,u=>cases u;exact An
  | 3,u=>cases u;exact Ro
  | n+4,u=>cases u) h
 have hl:cs.length=5:=hl.trans (by kernel_rfl);obtain⟨x0,y0',_,O,R,D,U,V⟩:=q 0 _ rfl;obtain⟨x1,y1',_,W,Y,I,e1,Z⟩:=q 1 _ rfl;obtain⟨x2,_,_,r2,_,J,e2,_⟩:=q 2 _ rfl;obtain⟨x3,_,_,r3,_,p,e3,_⟩:=q 3 _ rfl;cases U;cases e1;cases e2;cases e3;have z:bL S w 0 ([str D]++([str I]++([i64 J]++[i64 p.1,i64 p.2]))) cs:=bL.join O (bL.join W (bL.join r2 r3));have L:=bE R;have N:=bE Y;rw[<-e]at L N;exact⟨_,rfl,hl,fun i c v h1 h2=>z i c v h1 (by rw[fX];exact h2),⟨D,I,J,p.1,p.2⟩,rfl,aS V L,aS Z N⟩
def agV(a:yr)(n:Nat):Prop:=a.coppers.length<=n/\(∀r∈a.coppers,r.length<=n)/\a.outline.length<=n/\a.bores.length<=n/\a.lands.length<=n/\∀l∈a.lands,ad_ l n
theorem ai9(hS:∀b,b<w.heap.size->S b):Sp enc w S 32 4 uR agV:=fun n cs x h=>by
 obtain⟨xs,l1,l2,Z,ds,e,N,q⟩:=oy (S:=S) (Qs:=fun i xs d=>match i with
   | 0=>∃r:List (List aB),xs=[.sl (r.map fun q=>[aE q])]/\(r.length<=Rows.uptoBulk d/\∀c∈r,(c.length<=Rows.uptoBulk d/\∀z∈c,True))
   | 1=>∃r,xs=[aE r]/\(r.length<=Rows.uptoBulk d/\∀z∈r,True)
   | 2=>∃r:List dq,xs=[.sl (r.map bc)]/\(r.length<=Rows.uptoBulk d/\∀c∈r,True)
   | _=>∃r:List oW,xs=[.sl (r.map lc)]/\(r.length<=Rows.uptoBulk d/\∀c∈r,ad_ c (Rows.uptoBulk d))) Tryz.underlying32 (Mw (by kernel_rfl)) (by kernel_rfl) (fun i f u=>by
  match i,u with
  | 0,u=>cases u;exact sV (k:=1) Tryz.underlying27 (by kernel_rfl) (by decide) hS (fun r m n h ⟨h1,h2⟩=>⟨aS h1 h,h2⟩) (Rl hS)
  | 1,u=>cases u;exact Rl hS
  | 2,u=>cases u;exact sV (k:=6) Tryz.underlying29 (by kernel_rfl) (by decide) hS (fun _ _ _ _ h=>h) ais
  | 3,u=>cases u;exact sV (k:=5) Tryz.underlying30 (by kernel_rfl) (by decide) hS abE ait
  | n+4,u=>cases u) _ _ _ h
 have l1:xs.length=4:=l1;have N:ds.length=4:=N;obtain⟨a,b,c,d,rfl⟩:∃a b c d,xs=[a,b,c,d]:=by
  match xs,l1 with
  | [a,b,c,d],_=>exact⟨a,b,c,d,rfl⟩
 obtain⟨D,I,J,L,rfl⟩:∃a b c d,ds=[a,b,c,d]:=by
  match ds,N with
  | [a,b,c,d],_=>exact⟨a,b,c,d,rfl⟩
 obtain⟨n0,e0,p0,O⟩:=q 0 _ _ rfl rfl;obtain⟨n1,e1,p1,_⟩:=q 1 _ _ rfl rfl;obtain⟨n2,e2,p2,_⟩:=q 2 _ _ rfl rfl;obtain⟨n3,e3,p3,R⟩:=q 3 _ _ rfl rfl;cases e0;cases e1;cases e2;cases e3;have U:=bE (ds:=[D,I,J,L]) (i:=0) rfl;have W:=bE (ds:=[D,I,J,L]) (i:=1) rfl;have Y:=bE (ds:=[D,I,J,L]) (i:=2) rfl;have V:=bE (ds:=[D,I,J,L]) (i:=3) rfl;rw[<-e]at U W Y V;exact⟨_,rfl,l2,Z,⟨n0,n1,n2,n3⟩,rfl,by exact aS p0 U,fun r hr=>aS (O r hr).1 U,by exact aS p1 W,by exact aS p2 Y,by exact aS p3 V,fun l hl=>abE l _ _ V (R l hl)⟩
theorem agn(a:yr)(m n:Nat)(h:m<=n):agV a m->agV a n:=fun ⟨h1,u,h3,h4,h5,z⟩=>⟨by omega,fun r D=>aS (u r D) h,by omega,by omega,by omega,fun l hl=>abE l _ _ h (z l hl)⟩
theorem XT{a:yr}(h:agV a 1048576):M6 a:=⟨h.1,h.2.1,h.2.2.1,h.2.2.2.1,h.2.2.2.2.1,fun l hl=>⟨Xd (h.2.2.2.2.2 l hl).1,Xd (h.2.2.2.2.2 l hl).2⟩⟩
end M
namespace M
open Go.AM Go.RowKit Go.Lib
open Reg (aB cw aR)
def gT(n lo hi:Int):Bool:=decide (lo<=n)&&decide (n<=hi)
theorem cd{n lo hi:Int}:gT n lo hi=true↔lo<=n/\n<=hi:=by simp[gT]
theorem abF(n lo hi:Int):ai C 111 [.pv (i64 n),.pv (i64 lo),.pv (i64 hi)] (.p (bool (gT n lo hi))) []:=by
 refine fW hC Tryz.func111 rfl (by kernel_rfl) fun _=>?_;apply iW<;>intro h<;>(refine⟨?_,trivial⟩)<;>simp[bool,gT,h]
theorem abG(s:ByteArray)(hs:s.size<=9223372036854775807):ai C 110 [.pv (str s)] (.p (bool (gV s))) []:=by
 refine fW hC Tryz.func110 rfl (by kernel_rfl) fun _=>?_;have hsz:s.data.toList.length=s.size:=by simp
 refine aP (fun i:Nat=>i<=s.size/\(s.data.toList.take i).all okB=true) (fun i=>[(0,.p (str s)),(6,.p (i64 s.size)),(7,.p (i64 i))]) (fun _=>[]) (fun i=>s.size-i) 0 _ (aA.refl _ _) ⟨ak _,by simp⟩ ⟨Z,Z,Z,Y⟩ trivial fun i hi t h=>?_;apply iW<;>intro h1
 ·obtain⟨b,hb,z⟩:=Ij (s:=s) (i:=i) (by omega);have I:okB b=false->gV s=false:=fun h=>by
   rw[gV,F1];refine .inl ?_;rw[wT];exact⟨b,aj z,by simp[h]⟩
  have u:okB b=true->(s.data.toList.take (i+1)).all okB=true:=fun h=>by rw[bq z,A3,hi.2];simp[h]
  refine⟨b,⟨by omega,by rw[FY];exact hb⟩,?_⟩;have D:=DL ⟨#[95,43,45,35]⟩ b.toNat;rw[byte_back]at D
  repeat' first | apply iW<;>intro h<;>try simp only[zB]at h | refine⟨_,_,D,?_⟩
  all_goals skip
  all_goals first
   | (
     refine⟨wO (by omega),?_⟩;refine⟨(i+1),_,aA.refl _ _,?_⟩;exact⟨⟨by omega,u (by simp only[okB,lZ,aJ,fV,Fq,dG];omega)⟩,by omega,⟨Z,Z,Z,Y⟩,trivial⟩)
   | (
     refine⟨?_,trivial⟩;rw[I (by simp only[okB,wj,F1,dG,Bool.not_eq_false',fV];omega)];rfl)
 have J:s.data.toList.all okB=true:=by
  have:=hi.2
  rwa [kG (by omega)]at this
 refine⟨_,_,(abF s.size 1 40),?_,trivial⟩;rw[gV,J,tG];rfl
theorem adA(s:ByteArray)(I:s.size<4294967281):ai C 54 [.pv (str s)] (.p (bool (si s))) []:=by
 refine fW hC Tryz.func54 rfl (by kernel_rfl) fun _=>?_;have J:=an (parts s) fun s=>[str s];have pl:=Il s;refine⟨_,_,(Om s I),?_⟩;refine aP (fun i:Nat=>i<=(parts s).length/\((parts s).take i).all gV=true) (fun i=>[(0,.p (str s)),(6,.p (strs (parts s))),(7,.p (i64 (parts s).length)),(8,.p (i64 i))]) (fun _=>[]) (fun i=>(parts s).length-i) 0 _ (aA.own hC _ 6 rfl rfl) ⟨ak _,by simp⟩ ⟨rfl,rfl,ar (fun n:Nat=>AV.p (i64 n)) J,Z,Y⟩ trivial fun i hi t h=>?_;apply iW<;>intro h1
 ·obtain⟨x,u⟩:=ax (l:=parts s) (i:=i) (by omega);have uN:=Ik _ _ _ x (aj u);refine⟨[str x],(idx rfl u),_,_,(abG x (by omega)),iW ?_ ?_⟩<;>intro z
  ·refine⟨?_,trivial⟩;rw[show si s=false from ?_]
   ·rfl
   rw[si,F1,wT];exact .inl ⟨x,aj u,by simp[z]⟩
  refine⟨wO (by omega),(i+1),_,aA.refl _ _,⟨by omega,?_⟩,by omega,⟨Z,Z,Z,Z,Y⟩,trivial⟩;rw[bq u,A3,hi.2];simp[z]
 refine⟨?_,trivial⟩;have D:=hi.2;rw[kG (by omega)]at D;rw[si,D,tG];rfl
end M
end Go.Proofs.YtliffnpbaeijgaaGreatDoor
