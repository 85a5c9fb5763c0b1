/- Part 10 of the proof of ThinMatchSpec. -/
import Derived.Test.YtfloceomobknoaaGreatDoorT09
set_option linter.unusedVariables false
set_option linter.unusedSimpArgs false
set_option maxRecDepth 100000
set_option maxHeartbeats 8000000
namespace Go
abbrev abO:=@Int.toNat_of_nonneg
abbrev ac3:=@List.map_replicate
abbrev aee:=@List.nodup_append
abbrev adM:=@List.length_range
abbrev aef:=@List.length_eq_zero_iff
end Go
namespace Go.Proofs.YtfloceomobknoaaGreatDoor
namespace M
open Go.AM Go.RowKit Go.Lib
open Reg (ae an aS fo fS Piece bh zx UF iota gj r_ uz jm bE cv told aB bO aa through jF AT jn mG qN uA iN il)
def sT(g:bh):List PV:=[ints g.pieces,ints g.bores,.sl (g.pins.map pc)]
def wR(g:bh):List PV:=[ints g.pieces,ints g.bores,.im (.slice none 0 0)]
def I8(p:List (ByteArray×ByteArray)):HX:=if p=[] then .av .nl else .row 205 (p.map pc)
def gh(g:bh):List HX:=[.av (.p (ints g.pieces)),.av (.p (ints g.bores)),I8 g.pins]
theorem PQ(f:AV->AV)(hn:f .nl=.nl)(p:List (ByteArray×ByteArray)):HX.cS f (I8 p)=I8 p:=by
 unfold I8;split
 ·simp only[HX.cS,hn]
 rfl
theorem NA(f:AV->AV)(hp:∀x,f (.p x)=.p x)(hn:f .nl=.nl)(G:List bh):(G.map gh).map (fun r=>r.map (HX.cS f))=G.map gh:=by
 rw[ad5];refine aci fun g _=>?_;show [HX.cS f _,HX.cS f _,HX.cS f (I8 g.pins)]=_;rw[PQ f hn];simp only[HX.cS,hp];rfl
theorem qO(d:Nat)(G:List bh):(G.map gh).map (fun r=>r.map (HX.cS (sc d)))=G.map gh:=NA _ (fun _=>rfl) rfl G
theorem Fo(i d:Nat)(G:List bh):(G.map gh).map (fun r=>r.map (HX.cS (rn i d)))=G.map gh:=NA _ (fun _=>rfl) rfl G
theorem dC(n:Nat)(G:List bh)(k d:Nat)(a b:PV)(h:sc n (.ow d)=.ow d):((G.map gh).set k [.av (.p a),.av (.p b),.av (.ow d)]).map (fun r=>r.map (HX.cS (sc n)))=(G.map gh).set k [.av (.p a),.av (.p b),.av (.ow d)]:=by
 rw[ad7,qO];simp only[aa8,ab3,HX.cS,h];rfl
theorem NB{G:List bh}(h:∀g∈G,g.pins=[]):(G.map wR).map s9=G.map gh:=by
 rw[ad5];refine aci fun g hg=>?_;simp only[Function.comp,wR,gh,h g hg];rfl
theorem SR(p:List (ByteArray×ByteArray)):Tr (I8 p) (.sl (p.map pc)):=by
 unfold I8;split
 ·rename_i e;rw[e];exact .nl
 exact .row _ _
theorem vM(G:List bh):Oi (G.map gh) (G.map sT):=Oi.map fun g _=>⟨rfl,fun j u v hu hv=>by
 match j with
 | 0=>simp only[gh,sT,aa9,Option.some.injEq]at hu hv;subst hu;subst hv;exact .p _
 | 1=>simp only[gh,sT,abc,aa9,Option.some.injEq]at hu hv;subst hu;subst hv;exact .p _
 | 2=>simp only[gh,sT,abc,aa9,Option.some.injEq]at hu hv;subst hu;subst hv;exact SR _
 | j+3=>simp[gh]at hu⟩
theorem of_eq{A:cD}{s s':AS}(h:s=s'):au A s s':=h▸au.refl A s
theorem au.I9{A:cD}(hC:bI A.C)(s:AS)(id k d:Nat){e:TypeId}{G:List bh}{g:bh}{ti:TI}(hd:d<100000)(hid:id≠d)(hb:s.h id=.az e (G.map gh))(hk:G[k]?=some g)(hT:A.C.T 205=some ti)(hpos:0<ti.size):
  au A s ⟨(gX d s).t,aT (aT (gX d s).h d (.row 205 (g.pins.map pc))) id (.az e ((G.map gh).set k [.av (.p (ints g.pieces)),.av (.p (ints g.bores)),.av (.ow d)]))⟩:=by
 have Ov:=(aao.1 hk).1;have hr:(G.map gh)[k]?=some (gh g):=by rw[aak,hk];rfl
 have Q_:∀r∈G.map gh,∀x∈r,IC x:=fun r hr x hx=>by
  obtain⟨g,_,rfl⟩:=adS.1 hr;simp only[gh,adq,ace,or_false]at hx;rcases hx with rfl | rfl | rfl
  ·trivial
  ·trivial
  unfold I8;split<;>trivial
 by_cases c:g.pins=[]
 ·have h1:=au.Sr hC s id k 2 (e':=205) hb hr (by rw[gh,I8,aap c];rfl) hT hpos;have h2:=au.rq hC ⟨s.t,aT s.h id (.az e ((G.map gh).set k ((gh g).set 2 (.row 205 []))))⟩ id k 2 d (e:=e) (r:=(gh g).set 2 (.row 205 [])) hd hid (aH _ _ _) (fun r hr x hx=>by
   rcases abg hr with hr | hr
   ·exact Q_ r hr x hx
   subst hr;simp only[gh,List.set_cons_succ,List.set_cons_zero,adq,ace,or_false]at hx;rcases hx with rfl | rfl | rfl<;>trivial) (ab7 (by rw[aej];exact Ov)) rfl
  refine (h1.trans h2).trans (of_eq ?_);rw[c];refine adV (AS.mk _) ?_;funext j;by_cases e1:j=id
  ·subst e1;rw[aH,aH,ac2];rfl
  rw[aV _ _ e1,aV _ _ e1];by_cases e2:j=d
  ·subst e2;rw[aH,aH];rfl
  rw[aV _ _ e2,aV _ _ e2];show aT (fun m=>xm d (aT s.h id _ m)) d .none j=aT (fun m=>xm d (s.h m)) d .none j;rw[aV _ _ e2,aV _ _ e2];show xm d (aT _ _ _ j)=_;rw[aV _ _ e1]
 have h2:=au.rq hC s id k 2 d (e':=205) (xs:=g.pins.map pc) hd hid hb Q_ hr (by rw[gh,I8,aaa c];rfl);exact h2
theorem I_(p:List (ByteArray×ByteArray))(x:ByteArray×ByteArray):I8 (p++[x])=.row 205 ((p++[x]).map pc):=by
 rw[I8,aaa (by simp)]
theorem zE(a:fS)(ha:iD a)(dr:List (List PV))(P:List Piece)(T:List (List Int))(hP:P.length<=2000)(Q9:∀p∈P,(told p.set).length<=4398046511104)(hT:T.length=a.bores.length)(U:List Int)(hU:U=jm P.length a.bores.length T)(o:List Int×List Int)(G0:List bh)(hF:jn a.bores P.length (Reg.aP (Reg.cQ U) (P.length+a.bores.length))=(o,G0))(R:qN)(hR:R=a.lands.foldl (uA a.bores P o) ⟨G0,[],[]⟩)(ZD:∀x∈T,∀p∈x,0<=p/\p<P.length)(Vs:∀x∈T,x.length<=1000000000):af C 102 [.aN [.p (.sl (a.coppers.map rr)),.p (aj a.outline),.p (.sl (a.bores.map bc)),.p (.sl (a.lands.map lc)),.row 59 dr,.row 76 (P.map jb),.row 71 (T.map fun l=>[ints l]),.row 142 [],.row 3 [],.row 3 [],.row 3 [],.row 174 []]] (.tu []) [.aN [.p (.sl (a.coppers.map rr)),.p (aj a.outline),.p (.sl (a.bores.map bc)),.p (.sl (a.lands.map lc)),.row 59 dr,.row 76 (P.map jb),.row 71 (T.map fun l=>[ints l]),.row 142 (R.groups.map sT),.row 3 (aA o.1),.row 3 (aA o.2),.row 3 (aA R.ofLand),.row 174 (R.atLand.map je)]]:=by
 have lb:=ai a.bores bc;have lp:=ai P jb;have lT:=ai T fun l=>[ints l];have zA:=ha.jB;obtain⟨n,hn⟩:∃n,n=P.length:=⟨_,rfl⟩;rw[<-hn]at hU hF;have abl:=Reg.qM (n:=n) (nb:=a.bores.length) T 0 (iota (n+a.bores.length)) (Reg.ny _) (Reg.aeM _) (by omega) (by rw[hn];exact ZD);refine UO ⟨[27,37],[],[(11,[66]),(37,[14,1000014,15,1000015,90003,1090003,100000,1100000]),(38,[14,1000014,15,1000015,90003,1090003,100000,1100000,219])],[28,37,38],[(11,[true,true,true,true,true,true,true,true,true,false,false,true,true,false,true,true,true]),(37,[true,false,false,false,true,true,true,true,true,true,true,true,true,true,true,true,false,true,true,true]),(38,[true,true,true,true,true,true,true,true,false,true,false,false,false,false,false,true,true,true,true,true,true,true])],[]⟩ hC Tryz.func102 rfl (by kernel_rfl) fun _=>⟨_,au.open hC _ 100000 [90000,90001,90002,90003,90004,90005,90006,90007] (by exact rfl) rfl rfl rfl,?_⟩;refine⟨⟨by omega,by omega⟩,?_⟩;have GU:=KJ (n+a.bores.length) (by omega);have Vt:((n+a.bores.length:Nat):Int)=((P.map jb).length:Int)+((a.bores.map bc).length:Int):=by omega
 rw[Vt]at GU;refine⟨_,_,GU,?_⟩;refine aJ (fun x:Nat×List Int=>uz n x.1 (T.drop x.1) x.2=U/\UF x.2/\x.2.length=n+a.bores.length/\x.1<=T.length) (fun x=>[(0,.bx 100000 0),(2,.p (i64 n)),(3,.bx 31 0),(35,.ow 90002),(36,.p (i64 T.length)),(37,.p (i64 x.1))]) (fun x=>[(100000,.box [.p (.sl (a.coppers.map rr)),.p (aj a.outline),.p (.sl (a.bores.map bc)),.p (.sl (a.lands.map lc)),.ow 90000,.ow 90001,.ow 90002,.ow 90003,.ow 90004,.ow 90005,.ow 90006,.ow 90007]),(90000,.row 59 dr),(90001,.row 76 (P.map jb)),(90002,.row 71 (T.map fun l=>[ints l])),(90003,.row 142 []),(90004,.row 3 []),(90005,.row 3 []),(90006,.row 3 []),(90007,.row 174 []),(31,.aN [.row 3 (aA x.2)])]) (fun x=>T.length-x.1) (0,iota (n+a.bores.length)) _ (au.refl _ _) ⟨hU.symm,Reg.ny _,Reg.aeM _,aaj _⟩ ⟨rfl,adV (fun m:Nat=>AV.p (i64 m)) (lp.trans hn.symm),rfl,rfl,adV (fun m:Nat=>AV.p (i64 m)) lT,Z,Y⟩ ⟨Z,Z,Z,Z,Z,Z,Z,Z,Z,Z,Y⟩ fun ⟨k,u⟩ hx t h=>?_;obtain⟨q1,q2,q3,q4⟩:=hx;simp only at q1 q2 q3 q4;refine iW ?_ ?_<;>intro g<;>try simp only[zB]at g
 ·obtain⟨l,Ws⟩:=ak (l:=T) (i:=k) (by omega);have Wq:=ZD l (aad Ws);have ZE:=Vs l (aad Ws);have ll:=ai l fun n=>[i64 n];rw[drop_at Ws,uz]at q1;refine⟨⟨by omega,by (try dsimp only);omega⟩,?_⟩;refine⟨[ints l],(idx rfl Ws).2,?_⟩;refine aJ (fun z:Nat×List Int=>r_ (n+k) (l.drop z.1) z.2=r_ (n+k) l u/\UF z.2/\z.2.length=n+a.bores.length) (fun z=>[(0,.bx 100000 0),(2,.p (i64 n)),(3,.bx 31 0),(35,.ow 90002),(36,.p (i64 T.length)),(37,.p (i64 k)),(4,.p (i64 k)),(42,.p (ints l)),(43,.p (i64 l.length)),(44,.p (i64 z.1))]) (fun z=>[(100000,.box [.p (.sl (a.coppers.map rr)),.p (aj a.outline),.p (.sl (a.bores.map bc)),.p (.sl (a.lands.map lc)),.ow 90000,.ow 90001,.ow 90002,.ow 90003,.ow 90004,.ow 90005,.ow 90006,.ow 90007]),(90000,.row 59 dr),(90001,.row 76 (P.map jb)),(90002,.row 71 (T.map fun l=>[ints l])),(90003,.row 142 []),(90004,.row 3 []),(90005,.row 3 []),(90006,.row 3 []),(90007,.row 174 []),(31,.aN [.row 3 (aA z.2)])]) (fun z=>l.length-z.1) (0,u) _ (au.refl _ _) ⟨rfl,q2,q3⟩ ⟨rfl,rfl,rfl,rfl,rfl,rfl,rfl,rfl,adV (fun m:Nat=>AV.p (i64 m)) ll,Z,Y⟩ ⟨Z,Z,Z,Z,Z,Z,Z,Z,Z,Z,Y⟩ fun ⟨j,v⟩ hz t h=>?_;obtain⟨z1,z2,z3⟩:=hz;simp only at z1 z2 z3;refine iW ?_ ?_<;>intro g2<;>try simp only[zB]at g2
  ·obtain⟨p,Yb⟩:=ak (l:=l) (i:=j) (by omega);have Wn:=Wq p (aad Yb);rw[drop_at Yb,r_]at z1;have ZF:((p.toNat:Nat):Int)=p:=abO Wn.1;have hj:=Hx v z2 p.toNat (n+k) (by omega) (by omega);rw[ZF,Int.natCast_add]at hj;obtain⟨w1,w2⟩:=Reg.mC z2 (i:=p.toNat) (k:=n+k) (by omega) (by omega);refine⟨[i64 p],(idx rfl Yb),?_⟩;refine⟨⟨by omega,by omega⟩,?_⟩;refine⟨_,_,hj,?_⟩;refine⟨⟨by omega,by omega⟩,?_⟩;exact⟨(j+1,gj v p.toNat (n+k)),_,au.refl _ _,⟨z1,w1,w2.trans z3⟩,by simp only;omega,⟨Z,Z,Z,Z,Z,Z,Z,Z,Z,Z,Y⟩,⟨Z,Z,Z,Z,Z,Z,Z,Z,Z,Z,Y⟩⟩
  rw[acX (by omega),r_]at z1;refine⟨⟨by omega,by omega⟩,?_⟩;exact⟨(k+1,v),_,au.refl _ _,⟨by rw[z1];exact q1,z2,z3,by simp only;omega⟩,by simp only;omega,⟨Z,Z,Z,Z,Z,Z,Y⟩,⟨Z,Z,Z,Z,Z,Z,Z,Z,Z,Z,Y⟩⟩
 rw[acX (by omega),uz]at q1;have NC:=Hz u q2 (by omega);rw[q3]at NC;obtain⟨LL,PM⟩:∃LL,LL=Reg.aP (Reg.cQ u) (n+a.bores.length):=⟨_,rfl⟩;rw[<-PM]at NC;have hLi:∀l∈LL,l.length<=n+a.bores.length/\∀i∈l,i<n+a.bores.length:=fun l hl=>by
  rw[PM,Reg.aP]at hl;obtain⟨r,_,rfl⟩:=adS.1 hl;exact⟨Reg.qJ _ _ _,fun i hi=>(Reg.dx.1 hi).1⟩
 have Gz:LL.length<=n+a.bores.length:=by rw[PM,Reg.oq];exact Reg.qI _ _
 obtain⟨F,Yc⟩:∃F,F=jn a.bores n LL:=⟨_,rfl⟩;have hFo:F=(o,G0):=by rw[Yc,PM,<-hF,<-q1]
 refine⟨⟨by omega,by omega,by dsimp only;omega,by omega⟩,?_⟩;refine⟨⟨by omega,by omega,by dsimp only;omega,by omega⟩,?_⟩;refine⟨_,_,NC,?_⟩;have lLL:=ai LL pl;have op0:aA (List.replicate n 0)=List.replicate n [i64 0]:=by rw[aA,ac3]
 have ob0:aA (List.replicate a.bores.length 0)=List.replicate a.bores.length [i64 0]:=by rw[aA,ac3]
 refine aJ (fun x:Nat×(List Int×List Int)×List bh=>(LL.drop x.1).foldl (AT a.bores n) x.2=F/\x.2.1.1.length=n/\x.2.1.2.length=a.bores.length/\x.2.2.length<=x.1/\x.1<=LL.length) (fun x=>[(0,.bx 100000 0),(2,.p (i64 n)),(72,.p (.sl (LL.map pl))),(73,.p (i64 LL.length)),(74,.p (i64 x.1))]) (fun x=>[(100000,.box [.p (.sl (a.coppers.map rr)),.p (aj a.outline),.p (.sl (a.bores.map bc)),.p (.sl (a.lands.map lc)),.ow 90000,.ow 90001,.ow 90002,.ow 90003,.ow 90004,.ow 90005,.ow 90006,.ow 90007]),(90000,.row 59 dr),(90001,.row 76 (P.map jb)),(90002,.row 71 (T.map fun l=>[ints l])),(90003,.row 142 (x.2.2.map wR)),(90004,.row 3 (aA x.2.1.1)),(90005,.row 3 (aA x.2.1.2)),(90006,.row 3 []),(90007,.row 174 [])]) (fun x=>LL.length-x.1) (0,(List.replicate n 0,List.replicate a.bores.length 0),[]) _ ((au.own (by exact hC) _ 72 (id:=72) (by exact rfl) (by exact rfl)).trans ((au.pack (by exact hC) _ 100000 (cs:=[.p (.sl (a.coppers.map rr)),.p (aj a.outline),.p (.sl (a.bores.map bc)),.p (.sl (a.lands.map lc)),.row 59 dr,.row 76 (P.map jb),.row 71 (T.map fun l=>[ints l]),.row 142 [],.row 3 (aA (List.replicate n 0)),.row 3 (aA (List.replicate a.bores.length 0)),.row 3 [],.row 174 []]) (by exact rfl) (by exact rfl) (by exact⟨rfl,rfl,rfl,rfl,rfl,rfl,rfl,rfl,adV (AB.row _) (by rw[op0];rfl),adV (AB.row _) (by rw[ob0,<-lb];rfl),Z,Z,Y⟩)).trans (au.open (by exact hC) _ 100000 [90000,90001,90002,90003,90004,90005,90006,90007] (cs:=[.p (.sl (a.coppers.map rr)),.p (aj a.outline),.p (.sl (a.bores.map bc)),.p (.sl (a.lands.map lc)),.row 59 dr,.row 76 (P.map jb),.row 71 (T.map fun l=>[ints l]),.row 142 [],.row 3 (aA (List.replicate n 0)),.row 3 (aA (List.replicate a.bores.length 0)),.row 3 [],.row 174 []]) (by exact rfl) rfl rfl rfl))) ⟨Yc.symm,aan,aan,aaj _,aaj _⟩ ⟨rfl,rfl,rfl,adV (fun m:Nat=>AV.p (i64 m)) lLL,Z,Y⟩ ⟨Z,Z,Z,Z,Z,Z,Z,Z,Z,Y⟩ fun ⟨j,⟨op,ob⟩,G⟩ hx t h=>?_;obtain⟨y1,y2,y3,y4,y5⟩:=hx;simp only at y1 y2 y3 y4 y5;refine iW ?_ ?_<;>intro g2<;>try simp only[zB]at g2
 ·obtain⟨l,Yd⟩:=ak (l:=LL) (i:=j) (by omega);obtain⟨Qo,F4⟩:=hLi l (aad Yd);rw[drop_at Yd,aaq]at y1;refine⟨(pl l),(idx rfl Yd),?_⟩;have ZG:(aA (l.map fun (m:Nat)=>(m:Int))).length=l.length:=by rw[bQ,aej]
  obtain⟨r,hr⟩:∃r,r=l.foldl (jF a.bores n G.length) ((op,ob),[],[]):=⟨_,rfl⟩;have mT:AT a.bores n ((op,ob),G) l=(r.1,if 0<r.2.1.length+r.2.2.length then G++[⟨r.2.1,r.2.2,[]⟩] else G):=by rw[hr];rfl
  rw[mT]at y1;refine aJ (fun y:Nat×(List Int×List Int)×List Int×List Int=>(l.drop y.1).foldl (jF a.bores n G.length) y.2=r/\y.2.1.1.length=n/\y.2.1.2.length=a.bores.length/\y.2.2.1.length<=y.1/\y.2.2.2.length<=y.1/\y.1<=l.length) (fun y=>[(0,.bx 100000 0),(2,.p (i64 n)),(72,.p (.sl (LL.map pl))),(73,.p (i64 LL.length)),(74,.p (i64 j)),(10,.bx 10 0),(78,.p (.sl (aA (l.map fun (m:Nat)=>(m:Int))))),(79,.p (i64 l.length)),(80,.p (i64 y.1))]) (fun y=>[(100000,.box [.p (.sl (a.coppers.map rr)),.p (aj a.outline),.p (.sl (a.bores.map bc)),.p (.sl (a.lands.map lc)),.ow 90000,.ow 90001,.ow 90002,.ow 90003,.ow 90004,.ow 90005,.ow 90006,.ow 90007]),(90000,.row 59 dr),(90001,.row 76 (P.map jb)),(90002,.row 71 (T.map fun l=>[ints l])),(90003,.row 142 (G.map wR)),(90004,.row 3 (aA y.2.1.1)),(90005,.row 3 (aA y.2.1.2)),(90006,.row 3 []),(90007,.row 174 []),(10,.box [.ow 90100,.ow 90101,.nl]),(90100,.row 3 (aA y.2.2.1)),(90101,.row 3 (aA y.2.2.2))]) (fun y=>l.length-y.1) (0,(op,ob),[],[]) _ ((au.aeK (by exact hC) _ 10 0 90100 3 _ _ (by decide) (by decide) (by exact rfl) (by exact rfl) (by exact rfl) (by decide)).trans (au.aeK (by exact hC) _ 10 1 90101 3 _ _ (by decide) (by decide) (by exact rfl) (by exact rfl) (by exact rfl) (by decide))) ⟨hr.symm,y2,y3,aam _,aam _,aaj _⟩ ⟨rfl,rfl,rfl,rfl,rfl,rfl,rfl,adV (fun m:Nat=>AV.p (i64 m)) ZG,Z,Y⟩ ⟨Z,Z,Z,Z,Z,Z,Z,Z,Z,Z,Z,Z,Y⟩ fun ⟨m,⟨ND,F5⟩,ps,bs⟩ hy t h=>?_;obtain⟨w1,w2,w3,w4,w5,w6⟩:=hy;simp only at w1 w2 w3 w4 w5 w6;refine iW ?_ ?_<;>intro g3<;>try simp only[zB]at g3
  ·obtain⟨i,Ye⟩:=ak (l:=l) (i:=m) (by omega);have hiN:=F4 i (aad Ye);rw[drop_at Ye,aaq]at w1;have lG:=ai G wR;refine⟨[i64 i],⟨by omega,cM (by rw[aak];simp[Ye])⟩,?_⟩;refine iW ?_ ?_<;>intro g4
   ·rw[jF,aap (by omega)]at w1;obtain⟨v,hv⟩:=ak (l:=ND) (i:=i) (by omega);have lv:=bQ ND;have Yf:=bQ ps;refine⟨⟨by omega,by (try dsimp only);omega⟩,?_⟩;refine⟨[i64 v],(cM hv),?_⟩;refine⟨⟨fun r hr=>by simp at hr;subst hr;rfl,by simp only[Yf,aaM,aan];omega,by simp only[Yf,aaM,aan];omega⟩,?_⟩;refine⟨⟨by omega,by omega⟩,?_⟩;refine⟨(m+1,(ND.set i (G.length:Int),F5),ps++[(i:Int)],bs),_,au.Cx _ 111 90100 (by decide) (by decide),?_⟩;exact⟨⟨w1,by simp only[aaM];exact w2,w3,by simp only[acv,abS];omega,by simp only;omega,by simp only;omega⟩,by simp only;omega,⟨Z,Z,Z,Z,Z,Z,Z,Z,Z,Y⟩,⟨rfl,rfl,rfl,rfl,rfl,adV (AB.row _) ((fV ND i ((G.map wR).length:Int)).trans (by rw[lG])),rfl,rfl,rfl,rfl,adV (AB.row _) (gP ps i).symm,Z,Y⟩⟩
   rw[jF,aaa (by omega)]at w1;refine⟨⟨by omega,by omega⟩,?_⟩;obtain⟨b,Oz⟩:=ak (l:=a.bores) (i:=i-n) (by omega);have Ox:a.bores.getD (i-n) ⟨0,0,0,0,0,false⟩=b:=by rw[acp,Oz];rfl
   rw[Ox]at w1;refine⟨(bc b),(idx (show (i:Int)-n=((i-n:Nat):Int) by omega) Oz),?_⟩;refine iW ?_ ?_<;>intro g5
   ·rw[aap g5]at w1;have e1:(i:Int)-n=((i-n:Nat):Int):=by omega
    obtain⟨v,hv⟩:=ak (l:=F5) (i:=i-n) (by omega);have lv:=bQ F5;have Wo:=bQ bs;refine⟨⟨by omega,by omega⟩,?_⟩;refine⟨⟨by omega,by (try dsimp only);omega⟩,?_⟩;refine⟨[i64 v],(by rw[e1];exact cM hv),?_⟩;refine⟨⟨by omega,by omega⟩,?_⟩;refine⟨⟨fun r hr=>by simp at hr;subst hr;rfl,by simp only[Wo,aaM,aan];omega,by simp only[Wo,aaM,aan];omega⟩,?_⟩;refine⟨⟨by omega,by omega⟩,?_⟩;refine⟨(m+1,(ND,F5.set (i-n) (G.length:Int)),ps,bs++[(i:Int)-n]),_,au.Cx _ 144 90101 (by decide) (by decide),?_⟩;exact⟨⟨w1,w2,by simp only[aaM];exact w3,by simp only;omega,by simp only[acv,abS];omega,by simp only;omega⟩,by simp only;omega,⟨Z,Z,Z,Z,Z,Z,Z,Z,Z,Y⟩,⟨rfl,rfl,rfl,rfl,rfl,rfl,adV (AB.row _) ((adV (fun z=>List.set (aA F5) z _) (show ((i:Int)-n).toNat=i-n by omega)).trans ((fV F5 (i-n) ((G.map wR).length:Int)).trans (by rw[lG]))),rfl,rfl,rfl,rfl,adV (AB.row _) (gP bs ((i:Int)-n)).symm,trivial⟩⟩
   rw[aaa (by rw[g5];decide)]at w1;have e1:(i:Int)-n=((i-n:Nat):Int):=by omega
   obtain⟨v,hv⟩:=ak (l:=F5) (i:=i-n) (by omega);have lv:=bQ F5;refine⟨⟨by omega,by omega⟩,?_⟩;refine⟨⟨by omega,by (try dsimp only);omega⟩,?_⟩;refine⟨[i64 v],(by rw[e1];exact cM hv),?_⟩;refine⟨⟨by omega,by omega⟩,?_⟩;exact⟨(m+1,(ND,F5.set (i-n) (-1)),ps,bs),_,au.refl _ _,⟨w1,w2,by simp only[aaM];exact w3,by simp only;omega,by simp only;omega,by simp only;omega⟩,by simp only;omega,⟨Z,Z,Z,Z,Z,Z,Z,Z,Z,Y⟩,⟨rfl,rfl,rfl,rfl,rfl,rfl,adV (AB.row _) ((adV (fun z=>List.set (aA F5) z _) (show ((i:Int)-n).toNat=i-n by omega)).trans (fV F5 (i-n) (-1))),Z,Z,Z,Z,Z,Y⟩⟩
  have e:l.length<=m:=by omega
  rw[acX e]at w1;have w1:((ND,F5),ps,bs)=r:=w1;rw[<-w1]at y1;simp only at y1;have Yf:=bQ ps;have Wo:=bQ bs;have lG:=ai G wR;refine qy ((au.fB (by exact hC) _ 10 0 90100 3 _ _ (by decide) (by exact rfl) (by exact rfl) (by exact rfl)).trans ((au.fB (by exact hC) _ 10 1 90101 3 _ _ (by decide) (by exact rfl) (by exact rfl) (by exact rfl)).trans (au.MJ (by exact hC) _ 10 2 _ (by exact rfl) (by exact rfl)))) ?_;refine⟨⟨by dsimp only;omega,by dsimp only;omega⟩,?_⟩;refine iW ?_ ?_<;>intro g4<;>try simp only[zB]at g4
  ·rw[aap (by omega)]at y1;refine⟨⟨fun r hr=>by simp at hr;subst hr;rfl,by simp only[lG,aaM,aan];omega,by simp only[lG,aaM,aan];omega⟩,?_⟩;refine⟨⟨by omega,by omega⟩,?_⟩;refine⟨(j+1,(ND,F5),G++[bh.mk ps bs []]),_,((au.pack (by exact hC) _ 100000 (cs:=[.p (.sl (a.coppers.map rr)),.p (aj a.outline),.p (.sl (a.bores.map bc)),.p (.sl (a.lands.map lc)),.row 59 dr,.row 76 (P.map jb),.row 71 (T.map fun l=>[ints l]),.row 142 ((G++[bh.mk ps bs []]).map wR),.row 3 (aA ND),.row 3 (aA F5),.row 3 [],.row 174 []]) (by exact rfl) (by exact rfl) (by exact⟨rfl,rfl,rfl,rfl,rfl,rfl,rfl,by rw[abz];rfl,Z,Z,Z,Z,Y⟩)).trans (au.open (by exact hC) _ 100000 [90000,90001,90002,90003,90004,90005,90006,90007] (cs:=[.p (.sl (a.coppers.map rr)),.p (aj a.outline),.p (.sl (a.bores.map bc)),.p (.sl (a.lands.map lc)),.row 59 dr,.row 76 (P.map jb),.row 71 (T.map fun l=>[ints l]),.row 142 ((G++[bh.mk ps bs []]).map wR),.row 3 (aA ND),.row 3 (aA F5),.row 3 [],.row 174 []]) (by exact rfl) rfl rfl rfl)),?_⟩;exact⟨⟨y1,w2,w3,by simp only[acv,abS];omega,by simp only;omega⟩,by simp only;omega,⟨Z,Z,Z,Z,Z,Y⟩,⟨Z,Z,Z,Z,Z,Z,Z,Z,Z,Y⟩⟩
  rw[aaa (by omega)]at y1;refine⟨⟨by omega,by omega⟩,?_⟩;exact⟨(j+1,(ND,F5),G),_,au.refl _ _,⟨y1,w2,w3,by simp only;omega,by simp only;omega⟩,by simp only;omega,⟨Z,Z,Z,Z,Z,Y⟩,⟨Z,Z,Z,Z,Z,Z,Z,Z,Z,Y⟩⟩
 rw[acX (by omega)]at y1;have y1:((op,ob),G)=F:=y1;have SS:mG a.bores n F:=by rw[Yc,PM];exact Reg.vL q2 q3
 rw[<-y1]at SS;have lG:=ai G wR;have ll:=ai a.lands lc;have SU:=ha.lan;have Ja:∀g∈G,g.pins=[]:=fun g hg=>by
  obtain⟨k,hk⟩:=ab8.1 hg;exact (SS.c k g hk).1
 have hoG:((op,ob),G)=(o,G0):=y1.trans hFo;injection hoG with ho Vu;subst ho;subst Vu;refine aJ (fun x:Nat×qN=>(a.lands.drop x.1).foldl (uA a.bores P (op,ob)) x.2=R/\x.2.groups.length=G.length/\x.2.ofLand.length=x.1/\x.2.atLand.length=x.1/\x.1<=a.lands.length/\∀g∈x.2.groups,g.pins.length<=x.1) (fun x=>[(0,.bx 100000 0),(170,.p (.sl (a.lands.map lc))),(171,.p (i64 a.lands.length)),(172,.p (i64 x.1))]) (fun x=>[(100000,.box [.p (.sl (a.coppers.map rr)),.p (aj a.outline),.p (.sl (a.bores.map bc)),.p (.sl (a.lands.map lc)),.ow 90000,.ow 90001,.ow 90002,.ow 90003,.ow 90004,.ow 90005,.ow 90006,.ow 90007]),(90000,.row 59 dr),(90001,.row 76 (P.map jb)),(90002,.row 71 (T.map fun l=>[ints l])),(90003,.az 142 (x.2.groups.map gh)),(90004,.row 3 (aA op)),(90005,.row 3 (aA ob)),(90006,.row 3 (aA x.2.ofLand)),(90007,.row 174 (x.2.atLand.map je))]) (fun x=>a.lands.length-x.1) (0,⟨G,[],[]⟩) _ (au.Wg (by exact hC) _ 90003 (e:=142) (es:=G.map wR) (by exact rfl)) ⟨hR.symm,rfl,rfl,rfl,aaj _,fun g hg=>by rw[Ja g hg];exact aam _⟩ ⟨rfl,rfl,adV (fun m:Nat=>AV.p (i64 m)) ll,Z,Y⟩ ⟨rfl,rfl,rfl,rfl,adV (AB.az _) (NB Ja),Z,Z,Z,Z,Y⟩ fun ⟨i,s⟩ hx t h=>?_;obtain⟨v1,v2,v3,v4,v5,v6⟩:=hx;simp only at v1 v2 v3 v4 v5 v6;refine iW ?_ ?_<;>intro g3<;>try simp only[zB]at g3
 ·obtain⟨l,ZH⟩:=ak (l:=a.lands) (i:=i) (by omega);rw[drop_at ZH,aaq]at v1;refine⟨(lc l),(idx rfl ZH),?_⟩;obtain⟨hp,Vv⟩:∃hp,hp=il a.bores P l:=⟨_,rfl⟩;have Gp:=Dl a ha l dr (T.map fun l=>[ints l]) (s.groups.map sT) (aA s.ofLand) (s.atLand.map je) op ob P (by omega) Q9;rw[<-Vv]at Gp;refine⟨[.ip ((dX a)++[.sl dr,.sl (P.map jb),.sl (T.map fun l=>[ints l]),.sl (s.groups.map sT),ints op,ints ob,.sl (aA s.ofLand),.sl (s.atLand.map je)]),.ag (lc l)],_,.cons (.box 100000 0 _ ((dX a)++[.sl dr,.sl (P.map jb),.sl (T.map fun l=>[ints l]),.sl (s.groups.map sT),ints op,ints ob,.sl (aA s.ofLand),.sl (s.atLand.map je)]) (by exact rfl) (.cons (.p _) (.cons (.p _) (.cons (.p _) (.cons (.p _) (.cons (.row 90000 _ _ (by exact rfl)) (.cons (.row 90001 _ _ (by exact rfl)) (.cons (.row 90002 _ _ (by exact rfl)) (.cons (.az 90003 142 (s.groups.map gh) (s.groups.map sT) (by exact adV (AB.az _) (by simp only[qO])) (vM _)) (.cons (.row 90004 _ _ (by exact rfl)) (.cons (.row 90005 _ _ (by exact rfl)) (.cons (.row 90006 _ _ (by exact rfl)) (.cons (.row 90007 _ _ (by exact rfl)) .nil))))))))))))) (.cons (.one (.p _)) .nil),Gp,rfl,?_⟩;refine iW ?_ ?_<;>intro g4
  ·have Vw:mG a.bores P.length ((op,ob),G):=hn▸SS;obtain⟨m,k,e1,e2,e3⟩:=Reg.KQ Vw l (by rw[<-Vv];exact g4);rw[<-Vv]at e1 e2;have e3:k<G.length:=e3;obtain⟨gg,PG⟩:=ak (l:=s.groups) (i:=k) (by omega);have qg:=v6 gg (aad PG);have IM:uA a.bores P (op,ob) s l=⟨s.groups.set k (iN (l.part,l.pin) gg),s.ofLand++[(k:Int)],s.atLand++[hp.1]⟩:=by
    rw[uA];simp only[<-Vv];have g4:hp.2=true:=g4;rw[g4,aap rfl,aap rfl,e1,adF,acp (l:=if hp.1.bore=true then ob else op),e2];simp only[acy,adF,acp,PG]
   rw[IM]at v1;have hgh:=uB a hp.1 dr (T.map fun l=>[ints l]) (s.groups.map sT) (aA s.ofLand) (s.atLand.map je) op ob P m e1 k e2;refine⟨[.ip ((dX a)++[.sl dr,.sl (P.map jb),.sl (T.map fun l=>[ints l]),.sl (s.groups.map sT),ints op,ints ob,.sl (aA s.ofLand),.sl (s.atLand.map je)]),.ag (je hp.1)],_,.cons (.box 100000 0 _ ((dX a)++[.sl dr,.sl (P.map jb),.sl (T.map fun l=>[ints l]),.sl (s.groups.map sT),ints op,ints ob,.sl (aA s.ofLand),.sl (s.atLand.map je)]) (by exact rfl) (.cons (.p _) (.cons (.p _) (.cons (.p _) (.cons (.p _) (.cons (.row 90000 _ _ (by exact rfl)) (.cons (.row 90001 _ _ (by exact rfl)) (.cons (.row 90002 _ _ (by exact rfl)) (.cons (.az 90003 142 (s.groups.map gh) (s.groups.map sT) (by exact adV (AB.az _) (by simp only[qO])) (vM _)) (.cons (.row 90004 _ _ (by exact rfl)) (.cons (.row 90005 _ _ (by exact rfl)) (.cons (.row 90006 _ _ (by exact rfl)) (.cons (.row 90007 _ _ (by exact rfl)) .nil))))))))))))) (.cons (.one (.p _)) .nil),hgh,rfl,?_⟩;refine qy (au.I9 (by exact hC) _ 90003 k 90200 (e:=142) (by decide) (by decide) (by exact adV (AB.az _) (by simp only[qO])) PG (by exact rfl) (by decide)) ?_;have Vx:(s.groups.map gh).length=s.groups.length:=aej _;have Vy:=ai gg.pins pc;have Vz:=bQ s.ofLand;have VA:=ai s.atLand je;refine⟨⟨by omega,by simp only[aej,aaM];omega⟩,?_⟩;have NF:((s.groups.map gh).set k [.av (.p (ints gg.pieces)),.av (.p (ints gg.bores)),.av (.ow 90200)])[k]?=some [.av (.p (ints gg.pieces)),.av (.p (ints gg.bores)),.av (.ow 90200)]:=ab7 (by rw[Vx];omega);refine⟨[.av (.p (ints gg.pieces)),.av (.p (ints gg.bores)),.av (.ow 90200)],(by rw[dC,dC,dC];exact NF;rfl;rfl;rfl),?_⟩;refine⟨_,_,(pw l),?_⟩;refine⟨⟨fun r hr=>by simp at hr;subst hr;rfl,by simp only[Vy,aaM,aan];omega,by simp only[Vy,aaM,aan];omega⟩,?_⟩;refine⟨⟨by omega,by simp only[aej,aaM];omega⟩,?_⟩;refine⟨[.av (.p (ints gg.pieces)),.av (.p (ints gg.bores)),.av (.ow 90200)],(by rw[dC,dC,dC];exact NF;rfl;rfl;rfl),?_⟩;refine⟨⟨fun r hr=>by simp at hr;subst hr;rfl,by simp only[Vz,aaM,aan];omega,by simp only[Vz,aaM,aan];omega⟩,?_⟩;refine⟨⟨fun r hr=>by simp at hr;subst hr;rfl,by simp only[VA,aaM,aan];omega,by simp only[VA,aaM,aan];omega⟩,?_⟩;refine⟨⟨by omega,by omega⟩,?_⟩;have SV:((s.groups.map gh).set k [.av (.p (ints gg.pieces)),.av (.p (ints gg.bores)),.av (.ow 202)]).set k (([.av (.p (ints gg.pieces)),.av (.p (ints gg.bores)),.av (.ow 202)]:List HX).set 2 (.row 205 ((gg.pins++[(l.part,l.pin)]).map pc)))=(s.groups.set k (iN (l.part,l.pin) gg)).map gh:=by
    rw[ac2,ad7];congr 1;show _=[.av (.p (ints gg.pieces)),.av (.p (ints gg.bores)),I8 (gg.pins++[(l.part,l.pin)])];rw[I_];rfl
   refine⟨(i+1,⟨s.groups.set k (iN (l.part,l.pin) gg),s.ofLand++[(k:Int)],s.atLand++[hp.1]⟩),_,(au.Bm (by exact hC) _ 90003 k 2 202 (e:=142) (es:=(s.groups.map gh).set k [.av (.p (ints gg.pieces)),.av (.p (ints gg.bores)),.av (.ow 202)]) (r:=[.av (.p (ints gg.pieces)),.av (.p (ints gg.bores)),.av (.ow 202)]) (e':=205) (xs:=(gg.pins++[(l.part,l.pin)]).map pc) (by decide) (by exact adV (AB.az _) (by rw[dC,dC,dC];simp only[adF];rw[ac2];show List.map (fun r=>List.map (HX.cS (sc 220)) r) (List.map (fun r=>List.map (HX.cS (sc 219)) r) (List.map (fun r=>List.map (HX.cS (sc 213)) r) (List.map (fun r=>List.map (HX.cS (sc 212)) r) ((List.map gh s.groups).set k [.av (.p (ints gg.pieces)),.av (.p (ints gg.bores)),.av (.ow 202)]))))=_;rw[dC,dC,dC,dC];all_goals rfl)) (by exact adV (AB.row _) (by rw[abz];rfl)) (ab7 (by rw[Vx];omega)) (by exact rfl)).trans ((au.Cx _ 213 90006 (by decide) (by decide)).trans (au.Cx _ 220 90007 (by decide) (by decide))),?_⟩;exact⟨⟨v1,by simp only[aaM];exact v2,by simp only[acv,abS];omega,by simp only[acv,abS];omega,by simp only;omega,fun g hg=>by
    rcases abg hg with hg | hg
    ·have:=v6 g hg;simp only;omega
    subst hg;simp only[iN,acv,abS];omega⟩,by simp only;omega,⟨Z,Z,Z,Z,Y⟩,⟨rfl,rfl,rfl,rfl,adV (AB.az _) (by refine (adV (List.map _) (adV (List.map _) SV)).trans ?_;simp only[Fo]),rfl,rfl,adV (AB.row _) (gP _ _).symm,adV (AB.row _) (by rw[abz (f:=je)];rfl),trivial⟩⟩
  have g4:hp.2=false:=g4;have IM:uA a.bores P (op,ob) s l=⟨s.groups,s.ofLand++[-1],s.atLand++[hp.1]⟩:=by
   rw[uA];simp only[<-Vv,g4];rfl
  rw[IM]at v1;have Vz:=bQ s.ofLand;have VA:=ai s.atLand je;refine⟨⟨fun r hr=>by simp at hr;subst hr;rfl,by simp only[Vz,aaM,aan];omega,by simp only[Vz,aaM,aan];omega⟩,?_⟩;refine⟨⟨fun r hr=>by simp at hr;subst hr;rfl,by simp only[VA,aaM,aan];omega,by simp only[VA,aaM,aan];omega⟩,?_⟩;refine⟨⟨by omega,by omega⟩,?_⟩;refine⟨(i+1,⟨s.groups,s.ofLand++[-1],s.atLand++[hp.1]⟩),_,(au.Cx _ 213 90006 (by decide) (by decide)).trans (au.Cx _ 220 90007 (by decide) (by decide)),?_⟩;exact⟨⟨v1,v2,by simp only[acv,abS];omega,by simp only[acv,abS];omega,by simp only;omega,fun g hg=>by have:=v6 g hg;simp only;omega⟩,by simp only;omega,⟨Z,Z,Z,Z,Y⟩,⟨rfl,rfl,rfl,rfl,adV (AB.az _) (by show _=List.map gh s.groups;simp only[qO,Fo]),rfl,rfl,adV (AB.row _) (gP _ _).symm,adV (AB.row _) (by rw[abz (f:=je)];rfl),trivial⟩⟩
 rw[acX (by omega)]at v1;have v1:s=R:=v1;rw[<-v1];refine⟨_,au.ID (by exact hC) _ 90003 (s.groups.map sT) (e:=142) (by exact adV (AB.az _) (by simp only[qO,Fo])) (vM _),?_⟩;exact And.intro rfl (And.intro ⟨Z,Z,Z,Z,Z,Z,Z,Z,Z,Z,Z,Z,Z,Y⟩ trivial)
end M
namespace Reg
def eO(x y:aS):Bool:=(decide (x.lo<=y.hi)&&decide (y.lo<=x.hi))&&decide (fT (aa x) (aa y)=0)
def aeH(bs:List aS)(i:Nat):Bool:=(bs.take i).any (eO (bs.getD i I7))
def da(bs:List aS)(i:Nat):Bool:=(List.range' i (bs.length-i)).any (aeH bs)
variable {bs:List aS}
theorem HB{i:Nat}(h:i<bs.length):da bs i=(aeH bs i||da bs (i+1)):=by
 rw[da,show bs.length-i=(bs.length-(i+1))+1 by omega,List.range'_succ,ad6];rfl
theorem KR{i:Nat}(h:bs.length<=i):da bs i=false:=by
 rw[da,show bs.length-i=0 by omega];rfl
def db:List (List ae)->Int
 | []=>0
 | r::l=>if aF r≠0 then aF r else db l
def sa(n:Int)(l:List (List ae)):Int:=l.foldl (fun n r=>n+r.length) n
theorem jo:∀{l:List (List ae)},db l=0->∀r∈l,aF r=0
 | [],_,r,h=>by cases h
 | q::l,h,r,hr=>by
  rw[db]at h;by_cases e:aF q=0
  ·rw[aaa (by simpa using e)]at h;rcases adq.1 hr with rfl | hr
   ·exact e
   exact jo h r hr
  rw[aap e]at h;exact absurd h e
structure BR where
 drilled:List (List an)
 pieces:List Piece
 bB:List (List Int)
 ofPiece:List Int
 ofBore:List Int
 placed:qN
def aC(a:fS):BR:=
 let P:=bG a.bores 0 a.coppers;let T:=bB a.bores P;let U:=jm P.length a.bores.length T;let F:=jn a.bores P.length (aP (cQ U) (P.length+a.bores.length))
 ⟨gO a.bores 0 a.coppers,P,T,F.1.1,F.1.2,a.lands.foldl (uA a.bores P F.1) ⟨F.2,[],[]⟩⟩
theorem mH:∀{l:List (List ae)} {k:Int} {p:Piece},p∈bG bs k l->∃(i:Nat) (r:List ae),l[i]?=some r/\p.layer=k+i/\p.set∈cV (bU bs (k+i) r)
 | [],k,p,h=>by cases h
 | r::l,k,p,h=>by
  rw[bG]at h;rcases abi.1 h with h | h
  ·obtain⟨s,hs,rfl⟩:=adS.1 h;exact⟨0,r,rfl,by simp,by simpa using hs⟩
  obtain⟨i,r',h1,h2,h3⟩:=mH h;have e:k+((i+1:Nat):Int)=k+1+(i:Int):=by omega
  exact⟨i+1,r',by simpa using h1,by rw[h2,e],by rw[e];exact h3⟩
theorem sU(b:aS):∀(ps:List Piece) (k:Nat),(fu b k ps).length<=ps.length
 | [],k=>aam _
 | q::ps,k=>by
  have:=sU b ps (k+1);rw[fu];split<;>simp only[aaB]<;>omega
end Reg
namespace M
open Go.AM Go.RowKit Go.Lib
open Reg (ae an aS fo fS Piece bh zx qN bE cv told aB bO aa fT eO aeH da db sa bT eG aC P4)
def kW(a:fS):List PV:=dX a++[.sl ((aC a).drilled.map fun s=>[aw s]),.sl ((aC a).pieces.map jb),.sl ((aC a).bB.map fun l=>[ints l]),.sl ((aC a).placed.groups.map sT),ints (aC a).ofPiece,ints (aC a).ofBore,ints (aC a).placed.ofLand,.sl ((aC a).placed.atLand.map je)]
def dc(a:fS):Int:=if a.coppers.length=0 then 9 else if 16<a.coppers.length then 2 else
 if db a.coppers≠0 then db a.coppers else
 if Reg.aF a.outline≠0 then Reg.aF a.outline else
 if 2000<sa a.outline.length a.coppers then 2 else
 if bT a≠0 then bT a else
 if c8 a≠0 then c8 a else
 if da a.bores 0=true then 12 else
 if eG a=true then 0 else 2
def Jb(a:fS):PV:=if dc a=0 then .ip (kW a) else .im (.pointer none)
theorem Fp(a:fS)(ho:ly a):af C 39 [.pv (.ag (dX a))] (.tu [Jb a,i64 (dc a)]) []:=by
 have lk:=ai a.coppers rr;have lk':(a.coppers.map fun r=>[aj r]).length=a.coppers.length:=lk;have lo:=ai a.outline rc;have lb:=ai a.bores bc;obtain⟨F,hF⟩:∃F,F=dc a:=⟨_,rfl⟩;have hV:Jb a=if F=0 then .ip (kW a) else .im (.pointer none):=by rw[hF];rfl
 rw[hV,<-hF];rw[dc]at hF;refine uX ⟨[36,40],[],[],[],[],[]⟩ hC Tryz.func39 rfl (by kernel_rfl) fun _=>?_;refine iW ?_ ?_<;>intro g1
 ·rw[aap (by omega)]at hF;refine⟨?_,trivial⟩;rw[hF];rfl
 rw[aaa (by omega)]at hF;refine iW ?_ ?_<;>intro g2
 ·rw[aap (by omega)]at hF;refine⟨?_,trivial⟩;rw[hF];rfl
 rw[aaa (by omega)]at hF;obtain⟨M,hM⟩:∃M,M=sa a.outline.length a.coppers:=⟨_,rfl⟩;rw[<-hM]at hF;have Yg:=ho.out;refine aJ (fun x:Nat×Int=>sa x.2 (a.coppers.drop x.1)=M/\db (a.coppers.drop x.1)=db a.coppers/\0<=x.2/\x.2<=1048576+1048576*x.1) (fun x=>[(1,.bx 1 0),(4,.p (i64 x.2)),(28,.p (.sl (a.coppers.map rr))),(29,.p (i64 a.coppers.length)),(30,.p (i64 x.1))]) (fun _=>[(1,.box [.p (.sl (a.coppers.map rr)),.p (aj a.outline),.p (.sl (a.bores.map bc)),.p (.sl (a.lands.map lc))])]) (fun x=>a.coppers.length-x.1) (0,a.outline.length) _ (au.refl _ _) ⟨hM.symm,rfl,by simp only;omega,by simp only;omega⟩ ⟨rfl,adV (fun m:Nat=>AV.p (i64 m)) lo,rfl,adV (fun m:Nat=>AV.p (i64 m)) lk,Z,Y⟩ ⟨Z,Y⟩ fun ⟨i,n⟩ hx t h=>?_;obtain⟨q1,q2,q3,q4⟩:=hx;simp only at q1 q2 q3 q4;refine iW ?_ ?_<;>intro g3<;>try simp only[zB]at g3
 ·obtain⟨r,hr⟩:=ak (l:=a.coppers) (i:=i) (by omega);have xj:=ho.rcs r (aad hr);have lr:=ai r rc;rw[drop_at hr]at q1 q2;rw[db]at q2;refine⟨(rr r),(idx rfl hr),?_⟩;refine⟨_,_,(jj r),?_⟩;refine iW ?_ ?_<;>intro g4
  ·have g4:Reg.aF r≠0:=by simpa using g4
   rw[aap g4]at q2;rw[<-q2,aap g4]at hF;refine⟨?_,trivial⟩;rw[hF,aaa g4]
  have g4:Reg.aF r=0:=by simpa using g4
  rw[aaa (by simpa using g4)]at q2;refine⟨⟨by omega,by omega⟩,?_⟩;refine⟨⟨by omega,by omega⟩,?_⟩;exact⟨(i+1,n+r.length),_,au.refl _ _,⟨q1,q2,by simp only;omega,by simp only;omega⟩,by simp only;omega,⟨rfl,adV (fun m:Nat=>AV.p (i64 (n+m))) lr,Z,Z,Z,Y⟩,⟨Z,Y⟩⟩
 rw[acX (by omega)]at q1 q2;have q1:n=M:=q1;have q2:db a.coppers=0:=q2.symm;rw[aaa (by simpa using q2)]at hF;refine⟨_,_,(jj a.outline),?_⟩;refine iW ?_ ?_<;>intro g4
 ·have g4:Reg.aF a.outline≠0:=by simpa using g4
  rw[aap g4]at hF;refine⟨?_,trivial⟩;rw[hF,aaa g4]
 have g4:Reg.aF a.outline=0:=by simpa using g4
 rw[aaa (by simpa using g4)]at hF;refine iW ?_ ?_<;>intro g5<;>try simp only[zB]at g5
 ·rw[aap (by omega)]at hF;refine⟨?_,trivial⟩;rw[hF];rfl
 rw[aaa (by omega)]at hF;refine⟨_,_,(uu a (by omega)),?_⟩;refine iW ?_ ?_<;>intro g6
 ·have g6:bT a≠0:=by simpa using g6
  rw[aap g6]at hF;refine⟨?_,trivial⟩;rw[hF,aaa g6]
 have g6:bT a=0:=by simpa using g6
 rw[aaa (by simpa using g6)]at hF;refine⟨_,_,(uv a ho),?_⟩;refine iW ?_ ?_<;>intro g7
 ·have g7:c8 a≠0:=by simpa using g7
  rw[aap g7]at hF;refine⟨?_,trivial⟩;rw[hF,aaa g7]
 have g7:c8 a=0:=by simpa using g7
 rw[aaa (by simpa using g7)]at hF;have zA:a.bores.length<=500:=by
  unfold Reg.bT at g6;split at g6
  ·cases g6
  omega
 have T4:Reg.c_ a.coppers.length a.bores=0:=by rwa [Reg.bT,aaa (by omega)]at g6
 have Sq:=Reg.sM T4;have VB:∀b∈a.bores,bO b=true/\P4 1000000000 (aa b):=fun b hb=>by
  have h1:=ky (Sq b hb);obtain⟨a1,a2,a3,a4⟩:=Reg.Q8 (Reg.bX h1) (Reg.er h1);exact⟨h1,⟨by omega,by omega⟩,⟨by omega,by omega⟩,⟨by omega,by omega⟩,⟨by omega,by omega⟩⟩
 refine aJ (fun i:Nat=>da a.bores i=da a.bores 0) (fun i=>[(1,.bx 1 0),(63,.p (.sl (a.bores.map bc))),(64,.p (i64 a.bores.length)),(65,.p (i64 i))]) (fun _=>[(1,.box [.p (.sl (a.coppers.map rr)),.p (aj a.outline),.p (.sl (a.bores.map bc)),.p (.sl (a.lands.map lc))])]) (fun i=>a.bores.length-i) 0 _ (au.refl _ _) rfl ⟨rfl,rfl,adV (fun m:Nat=>AV.p (i64 m)) lb,Z,Y⟩ ⟨Z,Y⟩ fun i hi t h=>?_;refine iW ?_ ?_<;>intro g8
 ·obtain⟨x,hx⟩:=ak (l:=a.bores) (i:=i) (by omega);obtain⟨x1,x2⟩:=VB x (aad hx);rw[Reg.HB (by omega)]at hi;have az:aeH a.bores i=(a.bores.take i).any (eO x):=by rw[aeH,acp,hx];rfl
  rw[az]at hi;refine⟨(bc x),(idx rfl hx),?_⟩;refine⟨⟨by decide,by omega,by omega,fun r hr=>by obtain⟨b,_,rfl⟩:=adS.1 hr;rfl⟩,?_⟩;have VC:((a.bores.take i).map bc).length=i:=by rw[aej,aat];omega
  have abu:(a.bores.take i).length=i:=by rw[aat];omega
  refine aJ (fun j:Nat=>((a.bores.take i).drop j).any (eO x)=(a.bores.take i).any (eO x)) (fun j=>[(1,.bx 1 0),(63,.p (.sl (a.bores.map bc))),(64,.p (i64 a.bores.length)),(65,.p (i64 i)),(12,.bx 12 0),(73,.p (.sl ((a.bores.take i).map bc))),(74,.p (i64 i)),(75,.p (i64 j))]) (fun _=>[(1,.box [.p (.sl (a.coppers.map rr)),.p (aj a.outline),.p (.sl (a.bores.map bc)),.p (.sl (a.lands.map lc))]),(12,.box [.p (i64 x.x),.p (i64 x.y),.p (i64 x.size),.p (i64 x.lo),.p (i64 x.hi),.p (bool x.plated)])]) (fun j=>i-j) 0 _ (au.refl _ _) rfl ⟨rfl,rfl,rfl,rfl,rfl,adV (fun l=>AV.p (PV.sl l)) (by simp[abk]),adV (fun m:Nat=>AV.p (i64 m)) (by simp;omega),Z,Y⟩ ⟨Z,Z,Y⟩ fun j hj t h=>?_;refine iW ?_ ?_<;>intro g9
  ·obtain⟨y,hy⟩:=ak (l:=a.bores.take i) (i:=j) (by omega);obtain⟨y1,y2⟩:=VB y (acM (aad hy));rw[drop_at hy,ad6]at hj;have yes:eO x y=true->F=12:=fun hc=>by
    rw[hc,adr]at hj;rw[<-hj,adr]at hi;rw[<-hi,aap rfl]at hF;exact hF
   have no:eO x y=false->((a.bores.take i).drop (j+1)).any (eO x)=(a.bores.take i).any (eO x):=fun hc=>by
    rw[hc,adZ]at hj;exact hj
   refine⟨(bc y),(idx rfl hy),?_⟩;refine iW ?_ ?_<;>intro h1
   ·refine iW ?_ ?_<;>intro h2
    ·refine⟨_,_,(cF x x1),?_⟩;refine⟨_,_,(cF y y1),?_⟩;refine⟨_,_,(BM (aa x) (aa y) x2 y2),?_⟩;refine iW ?_ ?_<;>intro h3
     ·have hy:=yes (by simp only[eO,aaZ,aaH];exact⟨⟨h1,h2⟩,h3⟩);refine⟨?_,trivial⟩;rw[hy];rfl
     have hn:=no (by simp only[eO];rw[ab1 h3,ad4]);refine⟨⟨by omega,by omega⟩,?_⟩;exact⟨(j+1),_,au.refl _ _,hn,by omega,⟨Z,Z,Z,Z,Z,Z,Z,Z,Y⟩,⟨Z,Z,Y⟩⟩
    have hn:=no (by simp only[eO];rw[ab1 h2,ad4,aeo]);refine⟨⟨by omega,by omega⟩,?_⟩;exact⟨(j+1),_,au.refl _ _,hn,by omega,⟨Z,Z,Z,Z,Z,Z,Z,Z,Y⟩,⟨Z,Z,Y⟩⟩
   have hn:=no (by simp only[eO];rw[ab1 h1,aeo,aeo]);refine⟨⟨by omega,by omega⟩,?_⟩;exact⟨(j+1),_,au.refl _ _,hn,by omega,⟨Z,Z,Z,Z,Z,Z,Z,Z,Y⟩,⟨Z,Z,Y⟩⟩
  rw[acX (by omega)]at hj;have hj:false=(a.bores.take i).any (eO x):=hj;rw[<-hj,adZ]at hi;refine⟨⟨by omega,by omega⟩,?_⟩;exact⟨(i+1),_,au.refl _ _,hi,by omega,⟨Z,Z,Z,Z,Y⟩,⟨Z,Y⟩⟩
 rw[Reg.KR (by omega)]at hi;rw[<-hi,aaa (by decide)]at hF;refine qy ((au.pX (by exact hC) _ 103 4 [.p (.sl (a.coppers.map rr)),.p (aj a.outline),.p (.sl (a.bores.map bc)),.p (.sl (a.lands.map lc)),.p (.im (.slice none 0 0)),.p (.im (.slice none 0 0)),.p (.im (.slice none 0 0)),.p (.im (.slice none 0 0)),.p (.im (.slice none 0 0)),.p (.im (.slice none 0 0)),.p (.im (.slice none 0 0)),.p (.im (.slice none 0 0))] (by exact rfl) (by exact rfl)).trans ((au.aeK (by exact hC) _ 103 4 90000 59 _ [.p (.sl (a.coppers.map rr)),.p (aj a.outline),.p (.sl (a.bores.map bc)),.p (.sl (a.lands.map lc)),.nl,.p (.im (.slice none 0 0)),.p (.im (.slice none 0 0)),.p (.im (.slice none 0 0)),.p (.im (.slice none 0 0)),.p (.im (.slice none 0 0)),.p (.im (.slice none 0 0)),.p (.im (.slice none 0 0))] (by decide) (by decide) (by exact rfl) (by exact rfl) (by exact rfl) (by decide)).trans ((au.pX (by exact hC) _ 103 5 [.p (.sl (a.coppers.map rr)),.p (aj a.outline),.p (.sl (a.bores.map bc)),.p (.sl (a.lands.map lc)),.ow 90000,.p (.im (.slice none 0 0)),.p (.im (.slice none 0 0)),.p (.im (.slice none 0 0)),.p (.im (.slice none 0 0)),.p (.im (.slice none 0 0)),.p (.im (.slice none 0 0)),.p (.im (.slice none 0 0))] (by exact rfl) (by exact rfl)).trans ((au.aeK (by exact hC) _ 103 5 90001 76 _ [.p (.sl (a.coppers.map rr)),.p (aj a.outline),.p (.sl (a.bores.map bc)),.p (.sl (a.lands.map lc)),.ow 90000,.nl,.p (.im (.slice none 0 0)),.p (.im (.slice none 0 0)),.p (.im (.slice none 0 0)),.p (.im (.slice none 0 0)),.p (.im (.slice none 0 0)),.p (.im (.slice none 0 0))] (by decide) (by decide) (by exact rfl) (by exact rfl) (by exact rfl) (by decide)).trans ((au.pX (by exact hC) _ 103 6 [.p (.sl (a.coppers.map rr)),.p (aj a.outline),.p (.sl (a.bores.map bc)),.p (.sl (a.lands.map lc)),.ow 90000,.ow 90001,.p (.im (.slice none 0 0)),.p (.im (.slice none 0 0)),.p (.im (.slice none 0 0)),.p (.im (.slice none 0 0)),.p (.im (.slice none 0 0)),.p (.im (.slice none 0 0))] (by exact rfl) (by exact rfl)).trans ((au.aeK (by exact hC) _ 103 6 90002 71 _ [.p (.sl (a.coppers.map rr)),.p (aj a.outline),.p (.sl (a.bores.map bc)),.p (.sl (a.lands.map lc)),.ow 90000,.ow 90001,.nl,.p (.im (.slice none 0 0)),.p (.im (.slice none 0 0)),.p (.im (.slice none 0 0)),.p (.im (.slice none 0 0)),.p (.im (.slice none 0 0))] (by decide) (by decide) (by exact rfl) (by exact rfl) (by exact rfl) (by decide)).trans ((au.pX (by exact hC) _ 103 7 [.p (.sl (a.coppers.map rr)),.p (aj a.outline),.p (.sl (a.bores.map bc)),.p (.sl (a.lands.map lc)),.ow 90000,.ow 90001,.ow 90002,.p (.im (.slice none 0 0)),.p (.im (.slice none 0 0)),.p (.im (.slice none 0 0)),.p (.im (.slice none 0 0)),.p (.im (.slice none 0 0))] (by exact rfl) (by exact rfl)).trans ((au.aeK (by exact hC) _ 103 7 90003 142 _ [.p (.sl (a.coppers.map rr)),.p (aj a.outline),.p (.sl (a.bores.map bc)),.p (.sl (a.lands.map lc)),.ow 90000,.ow 90001,.ow 90002,.nl,.p (.im (.slice none 0 0)),.p (.im (.slice none 0 0)),.p (.im (.slice none 0 0)),.p (.im (.slice none 0 0))] (by decide) (by decide) (by exact rfl) (by exact rfl) (by exact rfl) (by decide)).trans ((au.pX (by exact hC) _ 103 8 [.p (.sl (a.coppers.map rr)),.p (aj a.outline),.p (.sl (a.bores.map bc)),.p (.sl (a.lands.map lc)),.ow 90000,.ow 90001,.ow 90002,.ow 90003,.p (.im (.slice none 0 0)),.p (.im (.slice none 0 0)),.p (.im (.slice none 0 0)),.p (.im (.slice none 0 0))] (by exact rfl) (by exact rfl)).trans ((au.aeK (by exact hC) _ 103 8 90004 3 _ [.p (.sl (a.coppers.map rr)),.p (aj a.outline),.p (.sl (a.bores.map bc)),.p (.sl (a.lands.map lc)),.ow 90000,.ow 90001,.ow 90002,.ow 90003,.nl,.p (.im (.slice none 0 0)),.p (.im (.slice none 0 0)),.p (.im (.slice none 0 0))] (by decide) (by decide) (by exact rfl) (by exact rfl) (by exact rfl) (by decide)).trans ((au.pX (by exact hC) _ 103 9 [.p (.sl (a.coppers.map rr)),.p (aj a.outline),.p (.sl (a.bores.map bc)),.p (.sl (a.lands.map lc)),.ow 90000,.ow 90001,.ow 90002,.ow 90003,.ow 90004,.p (.im (.slice none 0 0)),.p (.im (.slice none 0 0)),.p (.im (.slice none 0 0))] (by exact rfl) (by exact rfl)).trans ((au.aeK (by exact hC) _ 103 9 90005 3 _ [.p (.sl (a.coppers.map rr)),.p (aj a.outline),.p (.sl (a.bores.map bc)),.p (.sl (a.lands.map lc)),.ow 90000,.ow 90001,.ow 90002,.ow 90003,.ow 90004,.nl,.p (.im (.slice none 0 0)),.p (.im (.slice none 0 0))] (by decide) (by decide) (by exact rfl) (by exact rfl) (by exact rfl) (by decide)).trans ((au.pX (by exact hC) _ 103 10 [.p (.sl (a.coppers.map rr)),.p (aj a.outline),.p (.sl (a.bores.map bc)),.p (.sl (a.lands.map lc)),.ow 90000,.ow 90001,.ow 90002,.ow 90003,.ow 90004,.ow 90005,.p (.im (.slice none 0 0)),.p (.im (.slice none 0 0))] (by exact rfl) (by exact rfl)).trans ((au.aeK (by exact hC) _ 103 10 90006 3 _ [.p (.sl (a.coppers.map rr)),.p (aj a.outline),.p (.sl (a.bores.map bc)),.p (.sl (a.lands.map lc)),.ow 90000,.ow 90001,.ow 90002,.ow 90003,.ow 90004,.ow 90005,.nl,.p (.im (.slice none 0 0))] (by decide) (by decide) (by exact rfl) (by exact rfl) (by exact rfl) (by decide)).trans ((au.pX (by exact hC) _ 103 11 [.p (.sl (a.coppers.map rr)),.p (aj a.outline),.p (.sl (a.bores.map bc)),.p (.sl (a.lands.map lc)),.ow 90000,.ow 90001,.ow 90002,.ow 90003,.ow 90004,.ow 90005,.ow 90006,.p (.im (.slice none 0 0))] (by exact rfl) (by exact rfl)).trans ((au.aeK (by exact hC) _ 103 11 90007 174 _ [.p (.sl (a.coppers.map rr)),.p (aj a.outline),.p (.sl (a.bores.map bc)),.p (.sl (a.lands.map lc)),.ow 90000,.ow 90001,.ow 90002,.ow 90003,.ow 90004,.ow 90005,.ow 90006,.nl] (by decide) (by decide) (by exact rfl) (by exact rfl) (by exact rfl) (by decide)).trans (au.pack (by exact hC) _ 103 (bs:=[.p (.sl (a.coppers.map rr)),.p (aj a.outline),.p (.sl (a.bores.map bc)),.p (.sl (a.lands.map lc)),.ow 90000,.ow 90001,.ow 90002,.ow 90003,.ow 90004,.ow 90005,.ow 90006,.ow 90007]) (cs:=[.p (.sl (a.coppers.map rr)),.p (aj a.outline),.p (.sl (a.bores.map bc)),.p (.sl (a.lands.map lc)),.row 59 [],.row 76 [],.row 71 [],.row 142 [],.row 3 [],.row 3 [],.row 3 [],.row 174 []]) (by exact rfl) (by exact rfl) (by exact⟨Z,Z,Z,Z,Z,Z,Z,Z,Z,Z,Z,Z,Y⟩)))))))))))))))))) ?_;have ha:iD a:=by
  refine⟨⟨by omega,by omega⟩,Reg.jo q2,g4,zA,Sq,?_⟩;unfold c8 at g7;split at g7
  ·cases g7
  omega
 refine⟨_,_,(Dj a ha),?_⟩;refine iW ?_ ?_<;>intro g9
 ·rw[aaa (by simpa using g9)]at hF;refine⟨?_,trivial⟩;rw[hF];rfl
 rw[aap (by simpa using g9)]at hF;have g9:eG a=true:=by simpa using g9
 simp only[eG,aaZ,aaH]at g9;have Q9:∀p∈Reg.bG a.bores 0 a.coppers,(told p.set).length<=4398046511104:=fun p hp=>by
  obtain⟨i,r,h1,h2,h3⟩:=Reg.mH hp;have dr:=jV (fun b hb=>ky (Sq b hb)) zA (0+(i:Int)) (Reg.jo q2 r (aad h1));obtain⟨p1,_,_,p3⟩:=Reg.rD dr.sok h3;exact Reg.fj p1 ((p3 _ dr.ink).up (by omega))
 have Yh:=zE a ha ((Reg.gO a.bores 0 a.coppers).map fun s=>[aw s]) (Reg.bG a.bores 0 a.coppers) (Reg.bB a.bores (Reg.bG a.bores 0 a.coppers)) (by omega) Q9 (aej _) _ rfl _ _ rfl _ rfl (fun x hx p hp=>by
  obtain⟨b,_,rfl⟩:=adS.1 hx;have:=Reg.rE b _ 0 p hp;omega) (fun x hx=>by
  obtain⟨b,_,rfl⟩:=adS.1 hx;have:=Reg.sU b (Reg.bG a.bores 0 a.coppers) 0;omega)
 refine⟨_,_,(Dk a ha _ _ (by omega) Q9),?_⟩;refine⟨_,_,Yh,?_⟩;refine qy ((au.open (by exact hC) _ 103 [90000,90001,90002,90003,90004,90005,90006,90007] (cs:=[.p (.sl (a.coppers.map rr)),.p (aj a.outline),.p (.sl (a.bores.map bc)),.p (.sl (a.lands.map lc)),.row 59 ((aC a).drilled.map fun s=>[aw s]),.row 76 ((aC a).pieces.map jb),.row 71 ((aC a).bB.map fun l=>[ints l]),.row 142 ((aC a).placed.groups.map sT),.row 3 (aA (aC a).ofPiece),.row 3 (aA (aC a).ofBore),.row 3 (aA (aC a).placed.ofLand),.row 174 ((aC a).placed.atLand.map je)]) (by exact rfl) rfl rfl rfl).trans ((au.fB (by exact hC) _ 103 4 90000 59 ((aC a).drilled.map fun s=>[aw s]) [.p (.sl (a.coppers.map rr)),.p (aj a.outline),.p (.sl (a.bores.map bc)),.p (.sl (a.lands.map lc)),.ow 90000,.ow 90001,.ow 90002,.ow 90003,.ow 90004,.ow 90005,.ow 90006,.ow 90007] (by decide) (by exact rfl) (by exact rfl) (by exact rfl)).trans ((au.fB (by exact hC) _ 103 5 90001 76 ((aC a).pieces.map jb) [.p (.sl (a.coppers.map rr)),.p (aj a.outline),.p (.sl (a.bores.map bc)),.p (.sl (a.lands.map lc)),.p (.sl ((aC a).drilled.map fun s=>[aw s])),.ow 90001,.ow 90002,.ow 90003,.ow 90004,.ow 90005,.ow 90006,.ow 90007] (by decide) (by exact rfl) (by exact rfl) (by exact rfl)).trans ((au.fB (by exact hC) _ 103 6 90002 71 ((aC a).bB.map fun l=>[ints l]) [.p (.sl (a.coppers.map rr)),.p (aj a.outline),.p (.sl (a.bores.map bc)),.p (.sl (a.lands.map lc)),.p (.sl ((aC a).drilled.map fun s=>[aw s])),.p (.sl ((aC a).pieces.map jb)),.ow 90002,.ow 90003,.ow 90004,.ow 90005,.ow 90006,.ow 90007] (by decide) (by exact rfl) (by exact rfl) (by exact rfl)).trans ((au.fB (by exact hC) _ 103 7 90003 142 ((aC a).placed.groups.map sT) [.p (.sl (a.coppers.map rr)),.p (aj a.outline),.p (.sl (a.bores.map bc)),.p (.sl (a.lands.map lc)),.p (.sl ((aC a).drilled.map fun s=>[aw s])),.p (.sl ((aC a).pieces.map jb)),.p (.sl ((aC a).bB.map fun l=>[ints l])),.ow 90003,.ow 90004,.ow 90005,.ow 90006,.ow 90007] (by decide) (by exact rfl) (by exact rfl) (by exact rfl)).trans ((au.fB (by exact hC) _ 103 8 90004 3 (aA (aC a).ofPiece) [.p (.sl (a.coppers.map rr)),.p (aj a.outline),.p (.sl (a.bores.map bc)),.p (.sl (a.lands.map lc)),.p (.sl ((aC a).drilled.map fun s=>[aw s])),.p (.sl ((aC a).pieces.map jb)),.p (.sl ((aC a).bB.map fun l=>[ints l])),.p (.sl ((aC a).placed.groups.map sT)),.ow 90004,.ow 90005,.ow 90006,.ow 90007] (by decide) (by exact rfl) (by exact rfl) (by exact rfl)).trans ((au.fB (by exact hC) _ 103 9 90005 3 (aA (aC a).ofBore) [.p (.sl (a.coppers.map rr)),.p (aj a.outline),.p (.sl (a.bores.map bc)),.p (.sl (a.lands.map lc)),.p (.sl ((aC a).drilled.map fun s=>[aw s])),.p (.sl ((aC a).pieces.map jb)),.p (.sl ((aC a).bB.map fun l=>[ints l])),.p (.sl ((aC a).placed.groups.map sT)),.p (.sl (aA (aC a).ofPiece)),.ow 90005,.ow 90006,.ow 90007] (by decide) (by exact rfl) (by exact rfl) (by exact rfl)).trans ((au.fB (by exact hC) _ 103 10 90006 3 (aA (aC a).placed.ofLand) [.p (.sl (a.coppers.map rr)),.p (aj a.outline),.p (.sl (a.bores.map bc)),.p (.sl (a.lands.map lc)),.p (.sl ((aC a).drilled.map fun s=>[aw s])),.p (.sl ((aC a).pieces.map jb)),.p (.sl ((aC a).bB.map fun l=>[ints l])),.p (.sl ((aC a).placed.groups.map sT)),.p (.sl (aA (aC a).ofPiece)),.p (.sl (aA (aC a).ofBore)),.ow 90006,.ow 90007] (by decide) (by exact rfl) (by exact rfl) (by exact rfl)).trans (au.fB (by exact hC) _ 103 11 90007 174 ((aC a).placed.atLand.map je) [.p (.sl (a.coppers.map rr)),.p (aj a.outline),.p (.sl (a.bores.map bc)),.p (.sl (a.lands.map lc)),.p (.sl ((aC a).drilled.map fun s=>[aw s])),.p (.sl ((aC a).pieces.map jb)),.p (.sl ((aC a).bB.map fun l=>[ints l])),.p (.sl ((aC a).placed.groups.map sT)),.p (.sl (aA (aC a).ofPiece)),.p (.sl (aA (aC a).ofBore)),.p (.sl (aA (aC a).placed.ofLand)),.ow 90007] (by decide) (by exact rfl) (by exact rfl) (by exact rfl)))))))))) ?_;exact And.intro (by rw[hF,aap rfl];rfl) trivial
open Reg (BR through afd ax bN a_ coreS at')
structure Break where
 kind:Int
 a:Int
 b:Int
 is:Int
 need:Int
 spot:Int×Int
end M
namespace Reg
theorem nD{y:Int}:∀{s:List an},bE s->∀{b c:an},b∈s->c∈s->b.y0<=y->y<b.y1->c.y0<=y->y<c.y1->b=c
 | [],_,b,c,hb,_,_,_,_,_=>by cases hb
 | d::s,h,b,c,hb,hc,b1,b2,c1,c2=>by
  rcases adq.1 hb with eb | hb'
  ·rcases adq.1 hc with ec | hc'
   ·rw[eb,ec]
   have:=h.fM c hc';subst eb;omega
  rcases adq.1 hc with ec | hc'
  ·have:=h.fM b hb';subst ec;omega
  exact nD h.tail hb' hc' b1 b2 c1 c2
theorem wS{x:Int}:∀{s:aU},Canon s->∀{p q:Int×Int},p∈s->q∈s->p.1<=x->x<p.2->q.1<=x->x<q.2->p=q
 | [],_,p,q,hp,_,_,_,_,_=>by cases hp
 | d::s,h,p,q,hp,hq,p1,p2,q1,q2=>by
  rcases adq.1 hp with ep | hp'
  ·rcases adq.1 hq with eq | hq'
   ·rw[ep,eq]
   have:=h.behind q hq';subst ep;omega
  rcases adq.1 hq with eq | hq'
  ·have:=h.behind p hp';subst eq;omega
  exact wS h.tail hp' hq' p1 p2 q1 q2
variable {s:List an}
theorem HE(h:bE s){x y:Int}{a b:ae}(ha:a∈told s)(hb:b∈told s)(ka:dE x y a=true)(kb:dE x y b=true):a=b:=by
 obtain⟨c,hc,p,hp,rfl⟩:=gf.1 ha;obtain⟨d,hd,q,hq,rfl⟩:=gf.1 hb;obtain⟨a1,a2,a3,a4⟩:=aQ.1 ka;obtain⟨b1,b2,b3,b4⟩:=aQ.1 kb;have e:=nD h hc hd a3 a4 b3 b4;subst e;have e:=wS (h.mem c hc).can hp hq a1 a2 b1 b2;subst e;rfl
theorem HF(h:bE s):(told s).Nodup:=by
 rw[aec];refine (pk h).imp fun {a b} qb e=>?_;have:=gN.1 qb;subst e;omega
theorem vN(h:bE s){l:List ae}(hl:∀r∈l,r∈told s):(told (aB l)).length<=l.length:=by
 obtain⟨b1,b2,_⟩:=aR fun r hr=>bP h r (hl r hr);have hn:((told (aB l)).map fun q=>(q.y0,q.x0)).Nodup:=by
  rw[aec,adJ];refine (pk b1).imp fun {a b} qb e=>?_;have:=gN.1 qb;simp only[Prod.mk.injEq]at e;omega
 have:=uy (m:=l.map fun q=>(q.y0,q.x0)) hn fun z hz=>by
  obtain⟨q,hq,rfl⟩:=adS.1 hz;obtain⟨b,hb,p,hp,rfl⟩:=gf.1 hq;have hB:=b1.mem b hb;have h1:at' (aB l) p.1 b.y0=true:=by
   rw[Dh b1 hb (acE _) hB.lt,cu hB.can];exact⟨p,hp,acE _,ga hB.can p hp⟩
  rw[b2,aaR]at h1;obtain⟨r,hr,hx⟩:=h1;have Yi:=hl r hr;obtain⟨c,hc,t,ht,rfl⟩:=gf.1 Yi;obtain⟨x1,x2,x3,x4⟩:=aQ.1 hx;simp only at x1 x2 x3 x4;have e1:t.1=p.1:=by
   refine abo fun b8=>?_;have:at' (aB l) (p.1-1) b.y0=true:=by
    rw[b2,aaR];exact⟨_,hr,aQ.2 ⟨by simp only;omega,by simp only;omega,x3,x4⟩⟩
   rw[Dh b1 hb (acE _) hB.lt,cu hB.can]at this;exact sS hB.can hp this
  have e2:c.y0=b.y0:=by
   refine abo fun b8=>?_;obtain⟨x,Yj⟩:=BN b1 hb;refine Yj ?_;rw[b2,b2];refine oy fun r' m_=>?_;obtain⟨d,hd,u,hu,rfl⟩:=gf.1 (hl r' m_);rw[abb,aQ,aQ];simp only;constructor
   ·rintro⟨a1,a2,a3,a4⟩;have:=nD h hd hc a3 a4 (by omega) (by omega);subst this;exact⟨a1,a2,by omega,by omega⟩
   rintro⟨a1,a2,a3,a4⟩;have:=nD h hd hc a3 a4 (by omega) (by omega);subst this;exact⟨a1,a2,by omega,by omega⟩
  exact adS.2 ⟨_,hr,by simp only[e1,e2]⟩
 rw[aej,aej]at this;exact this
theorem Fq{l:List ae}{m:Nat}(h:m<l.length):l[m]?=some (l.getD m bg):=by
 rw[acp,acg h];rfl
theorem zF(p:Nat->Nat)(i r:Nat):(dh p i r).Nodup:=ac0 aea List.nodup_range
theorem BT{α:Type}:∀{l:List α},l.Nodup->∀{a b:Nat} {x:α},l[a]?=some x->l[b]?=some x->a=b
 | [],_,a,b,x,ha,_=>by simp at ha
 | y::l,h,a,b,x,ha,hb=>by
  have h':=aai.1 h;cases a with
  | zero=>
   cases b with
   | zero=>rfl
   | succ b=>
    have e:=Option.some.inj ha;exact absurd (by rw[e];exact aad (by simpa using hb)) h'.1
  | succ a=>
   cases b with
   | zero=>
    have e:=Option.some.inj hb;exact absurd (by rw[e];exact aad (by simpa using ha)) h'.1
   | succ b=>rw[BT h'.2 (a:=a) (b:=b) (by simpa using ha) (by simpa using hb)]
theorem KS(h:bE s){a b:Nat}{l m:List ae}(ha:(ox s)[a]?=some l)(hb:(ox s)[b]?=some m)(b8:a≠b):
  l.length+m.length<=(told s).length/\∀r∈l,∀q∈m,∀x y,¬(dE x y r=true/\dE x y q=true):=by
 obtain⟨u1,u2⟩:=zv s;rw[ox,aak,aP,aak]at ha hb;cases ea:(cd (cQ (jE s)) (told s).length)[a]? with
 | none=>rw[ea]at ha;cases ha
 | some ka=>
  cases eb:(cd (cQ (jE s)) (told s).length)[b]? with
  | none=>rw[eb]at hb;cases hb
  | some kb=>
   rw[ea]at ha;rw[eb]at hb;have ha:=(Option.some.inj ha).symm;have hb:=(Option.some.inj hb).symm;have hk:ka≠kb:=fun e=>by
    subst e;exact b8 (zn (afh _ _) ea eb)
   have hd:(dh (cQ (jE s)) (told s).length ka++dh (cQ (jE s)) (told s).length kb).Nodup:=by
    rw[aee];refine⟨zF _ _ _,zF _ _ _,fun i hi j hj e=>?_⟩;subst e;exact hk ((dx.1 hi).2.symm.trans (dx.1 hj).2)
   have:=uy (m:=List.range (told s).length) hd fun i hi=>by
    rw[abv];rcases abi.1 hi with hi | hi
    ·exact (dx.1 hi).1
    exact (dx.1 hi).1
   rw[acv,adM]at this;refine⟨by rw[ha,hb,aej,aej];exact this,fun r hr q hq x y Oy=>?_⟩;rw[ha]at hr;rw[hb]at hq;obtain⟨i,hi,rfl⟩:=adS.1 hr;obtain⟨j,hj,rfl⟩:=adS.1 hq;obtain⟨i1,i2⟩:=dx.1 hi;obtain⟨j1,j2⟩:=dx.1 hj;have e:=HE h (vK i1) (vK j1) Oy.1 Oy.2;have xB:=Fq i1;have Lw:=Fq j1;rw[e]at xB;have:=BT (HF h) xB Lw;subst this;exact hk (i2.symm.trans j2)
theorem NG{a:Nat}{l:List ae}(ha:(ox s)[a]?=some l):l.length<=(told s).length:=by
 rw[ox,aak,aP,aak]at ha;cases ea:(cd (cQ (jE s)) (told s).length)[a]? with
 | none=>rw[ea]at ha;cases ha
 | some ka=>
  rw[ea]at ha;have ha:=(Option.some.inj ha).symm;rw[ha,aej];exact qJ _ _ _
variable {bs:List aS}
theorem HG{p q:Piece}(he:p.layer=q.layer)(l:List (List ae)):∀(k:Int) (i j:Nat),(bG bs k l)[i]?=some p->(bG bs k l)[j]?=some q->i<j ->
  ∃(n:Nat) (r:List ae) (a b:Nat),l[n]?=some r/\a<b/\(cV (bU bs (k+n) r))[a]?=some p.set/\(cV (bU bs (k+n) r))[b]?=some q.set:=by
 induction l with
 | nil=>intro k i j hp;rw[bG]at hp;cases hp
 | cons r l ih=>
  intro k i j hp hq DX;rw[bG]at hp hq;obtain⟨S,hS⟩:∃S,S=cV (bU bs k r):=⟨_,rfl⟩;rw[<-hS]at hp hq;by_cases c:j<S.length
  ·rw[aaE (by rw[aej];omega),aak]at hp hq;cases ep:S[i]? with
   | none=>rw[ep]at hp;cases hp
   | some s=>
    cases eq:S[j]? with
    | none=>rw[eq]at hq;cases hq
    | some t=>
     rw[ep]at hp;rw[eq]at hq;have hp:=Option.some.inj hp;have hq:=Option.some.inj hq;have z:k+((0:Nat):Int)=k:=by omega
     refine⟨0,r,i,j,rfl,DX,?_,?_⟩
     ·rw[z,<-hS,ep,<-hp]
     rw[z,<-hS,eq,<-hq]
  rw[acu (by rw[aej];omega)]at hq;obtain⟨n,r',h1,h2,_⟩:=mH (aad hq);by_cases d:i<S.length
  ·rw[aaE (by rw[aej];omega),aak]at hp;cases ep:S[i]? with
   | none=>rw[ep]at hp;cases hp
   | some s=>
    rw[ep]at hp;have hp:=Option.some.inj hp;rw[<-hp]at he;simp only at he;omega
  rw[acu (by rw[aej];omega)]at hp;obtain⟨n,r',a,b,h1,h2,h3,h4⟩:=ih (k+1) _ _ hp hq (by rw[aej];omega);have e:k+((n+1:Nat):Int)=k+1+(n:Int):=by omega
  exact⟨n+1,r',a,b,by simpa using h1,h2,by rw[e];exact h3,by rw[e];exact h4⟩
theorem xR:∀{l:List (List ae)} {k:Int},qL bs k l=true->∀(n:Nat) r,l[n]?=some r->(told (bU bs (k+n) r)).length<=2000
 | [],k,_,n,r,h=>by simp at h
 | q::l,k,hf,n,r,h=>by
  rw[qL,aaZ,aaH]at hf;cases n with
  | zero=>
   have:=Option.some.inj h;subst this;simpa using hf.1
  | succ n=>
   have:=xR hf.2 n r (by simpa using h);have e:k+((n+1:Nat):Int)=k+1+(n:Int):=by omega
   rw[e];exact this
structure O7(p q:Piece):Prop where
 jB:(told p.set).length+(told q.set).length<=2000
 apart:∀x y,¬(at' p.set x y=true/\at' q.set x y=true)
theorem PR{l:List (List ae)}{k:Int}{i j:Nat}{p q:Piece}(hs:∀(n:Nat) r,l[n]?=some r->bE (bU bs (k+n) r))(hf:qL bs k l=true)(hp:(bG bs k l)[i]?=some p)(hq:(bG bs k l)[j]?=some q)(DX:i<j)(he:p.layer=q.layer):O7 p q:=by
 obtain⟨n,r,a,b,h1,h2,h3,h4⟩:=HG he _ _ _ _ hp hq DX;have h0:=hs n r h1;have zA:=xR hf n r h1;rw[cV,aak]at h3 h4;cases ea:(ox (bU bs (k+n) r))[a]? with
 | none=>rw[ea]at h3;cases h3
 | some x=>
  cases eb:(ox (bU bs (k+n) r))[b]? with
  | none=>rw[eb]at h4;cases h4
  | some y=>
   rw[ea]at h3;rw[eb]at h4;have h3:=Option.some.inj h3;have h4:=Option.some.inj h4;obtain⟨c1,c2⟩:=KS h0 ea eb (by omega);have mx:=(afp (aad ea)).2;have my:=(afp (aad eb)).2;have sx:=vN h0 mx;have sy:=vN h0 my;obtain⟨_,bx,_⟩:=aR fun r hr=>bP h0 r (mx r hr);obtain⟨_,by',_⟩:=aR fun r hr=>bP h0 r (my r hr);refine⟨by rw[<-h3,<-h4];omega,fun u v ZI=>?_⟩;rw[<-h3,<-h4,bx,by',aaR,aaR]at ZI;obtain⟨⟨r1,m1,e1⟩,r2,m2,e2⟩:=ZI;exact c2 r1 m1 r2 m2 u v ⟨e1,e2⟩
end Reg
namespace M
open Reg (ae an aS fS Piece BR bE cv told aB bO aa through fT afd aC ax bN a_ coreS at' jn aP cQ jm bB bG mG)
theorem Fs{a:fS}(h:dc a=0):iD a/\Reg.eG a=true/\Reg.da a.bores 0=false:=by
 unfold dc at h;split at h
 ·cases h
 rename_i g1;split at h
 ·cases h
 rename_i g2;split at h
 ·rename_i g;exact absurd h g
 rename_i g3;have g3:Reg.db a.coppers=0:=by simpa using g3
 split at h
 ·rename_i g;exact absurd h g
 rename_i g4;have g4:Reg.aF a.outline=0:=by simpa using g4
 split at h
 ·cases h
 split at h
 ·rename_i g;exact absurd h g
 rename_i g6;have g6:Reg.bT a=0:=by simpa using g6
 split at h
 ·rename_i g;exact absurd h g
 rename_i g7;have g7:c8 a=0:=by simpa using g7
 split at h
 ·cases h
 rename_i g8;split at h
 ·rename_i g9;have zA:a.bores.length<=500:=by
   unfold Reg.bT at g6;split at g6
   ·cases g6
   omega
  have T4:Reg.c_ a.coppers.length a.bores=0:=by rwa [Reg.bT,aaa (by omega)]at g6
  refine⟨⟨⟨by omega,by omega⟩,Reg.jo g3,g4,zA,Reg.sM T4,?_⟩,g9,by simpa using g8⟩;unfold c8 at g7;split at g7
  ·cases g7
  omega
 cases h
structure VD(a:fS)(p:Piece):Prop where
 sok:bE p.set
 ink:cv 1000000 p.set
 ne:p.set≠[]
 jB:(told p.set).length<=2000
 lo:0<=p.layer
 hi:p.layer<a.coppers.length
structure Ft(a:fS):Prop where
 art:iD a
 jB:(aC a).pieces.length<=2000
 pc:∀p∈(aC a).pieces,VD a p
 two:∀(i j:Nat) p q,(aC a).pieces[i]?=some p->(aC a).pieces[j]?=some q->i<j->p.layer=q.layer->Reg.O7 p q
 gr:mG a.bores (aC a).pieces.length (((aC a).ofPiece,(aC a).ofBore),(jn a.bores (aC a).pieces.length (aP (cQ (jm (aC a).pieces.length a.bores.length (aC a).bB)) ((aC a).pieces.length+a.bores.length))).2)
theorem jv{a:fS}(ha:iD a):∀b∈a.bores,bO b=true:=fun b hb=>ky (ha.bor b hb)
theorem jW{a:fS}(h:dc a=0):Ft a:=by
 obtain⟨ha,hd,_⟩:=Fs h;have hs:∀(n:Nat) r,a.coppers[n]?=some r->SO (Reg.bU a.bores (0+n) r):=fun n r hr=>jV (jv ha) ha.jB _ (ha.reg r (aad hr));rw[Reg.eG,aaZ,aaH]at hd;refine⟨ha,hd.2,fun p hp=>?_,fun i j p q hp hq DX he=>Reg.PR (fun n r hr=>(hs n r hr).sok) hd.1 hp hq DX he,?_⟩
 ·obtain⟨n,r,h1,h2,h3⟩:=Reg.mH hp;have hn:=(aao.1 h1).1;obtain⟨c1,c2,_,c4⟩:=Reg.rD (hs n r h1).sok h3;refine⟨c1,c4 _ (hs n r h1).ink,c2,?_,by omega,by omega⟩;have zA:=Reg.xR hd.1 n r h1;obtain⟨l,hl,e⟩:=adS.1 h3;have Wa:=(Reg.afp hl).2;have s1:=Reg.vN (hs n r h1).sok Wa;obtain⟨k,hk⟩:=List.getElem?_of_mem hl;have s2:=Reg.NG hk;rw[<-e];omega
 have ht:∀x∈bB a.bores (bG a.bores 0 a.coppers),∀p∈x,0<=p/\p<((bG a.bores 0 a.coppers).length:Int):=fun x hx p hp=>by
  obtain⟨b,_,rfl⟩:=adS.1 hx;have:=Reg.rE b (bG a.bores 0 a.coppers) 0 p hp;omega
 have hl:(bB a.bores (bG a.bores 0 a.coppers)).length=a.bores.length:=by rw[Reg.bB,aej]
 obtain⟨u1,u2⟩:=Reg.qM (n:=(bG a.bores 0 a.coppers).length) (nb:=a.bores.length) (bB a.bores (bG a.bores 0 a.coppers)) 0 (Reg.iota ((bG a.bores 0 a.coppers).length+a.bores.length)) (Reg.ny _) (Reg.aeM _) (by omega) ht;exact Reg.vL u1 u2
def kU(a b:Break):Prop:=a.kind=b.kind/\a.a=b.a/\a.b=b.b/\a.is=b.is
def Has(l m:List Break):Prop:=∀b∈l,∃c∈m,kU b c
theorem Has.nil(m:List Break):Has [] m:=fun b hb=>by cases hb
theorem gz{b:aS}(h:bO b=true):bE (aB [aa b])/\cv 1010000 (aB [aa b]):=by
 have Ox:=Reg.aR (l:=[aa b]) (fun q hq=>by rw[ab_]at hq;subst hq;exact Reg.bX h);refine⟨Ox.1,Ox.2.2 _ fun q hq=>?_⟩;rw[ab_]at hq;subst hq;exact Reg.er h
end M
end Go.Proofs.YtfloceomobknoaaGreatDoor
namespace Go.AM
end Go.AM
namespace Go.Proofs.YtfloceomobknoaaGreatDoor
namespace M
open Go.AM Go.RowKit Go.Lib
open Reg (ae an aS fS Piece BR bE cv told aB bO aa through aC ax bN a_ coreS)
end M
end Go.Proofs.YtfloceomobknoaaGreatDoor
namespace Go.AM
open Go.RowKit Go.ChangeShapes
section
variable {H:Type} {enc:TypeId×Value->H} {P:Program} {w:World} {S:Nat->Prop}
theorem NH{t:TypeId}(ht:P.underlying t=some .bool):IK enc P w S t 1 fun xs d=>∃b:Bool,xs=[.im (.bool b)]:=fun n cs x h=>by
 obtain⟨b,rfl,rfl⟩:=DataW.trod_bool ht h;exact⟨[.im (.bool b)],rfl,rfl,one_cell ⟨.im _,rfl⟩,b,rfl⟩
def nE(S:Nat->Prop)(w:World)(o:Nat)(xs:List PV)(cs:List Value):Prop:=∀(i:Nat) c v,xs[i]?=some c->cs[o+i]?=some v->aO S w c v/\v.oneCell'=true
theorem nE.join{o:Nat}{xs ys:List PV}{cs:List Value}(h:nE S w o xs cs)(k:nE S w (o+xs.length) ys cs):nE S w o (xs++ys) cs:=fun i c v h1 h2=>by
 by_cases e:i<xs.length
 ·rw[aaE e]at h1;exact h i c v h1 h2
 rw[acu (by omega)]at h1;refine k (i-xs.length) c v h1 ?_;rw[<-h2];congr 1;omega
theorem zI{t:TypeId}{fs:Array Field}(ht:P.underlying t=some (.struct fs))(ks:Nat->Nat)(hk:∀(i:Nat) (f:Field),fs[i]?=some f->P.cellsOf f.type=ks i)(Qs:Nat->List PV->DataW H->Prop)(hf:∀(i:Nat) (f:Field),fs[i]?=some f->IK enc P w S f.type (ks i) (Qs i)){n:Nat}{cs:List Value}{x:DataW H×List MemPlace}(h:DataW.trod enc P w 0 (fun _=>true) true n t cs=some x):
  cs.length=P.cellsOf t/\∃ds:List (DataW H),x.1=.agg ds/\ds.length=fs.size/\∀(i:Nat) (f:Field),fs[i]?=some f->∃xs d,xs.length=ks i/\nE S w f.offset xs cs/\ds[i]?=some d/\Qs i xs d:=by
 obtain⟨ys,m,_,rfl,hl,hlen,hy⟩:=DataW.trod_struct ht h;refine⟨hl,ys.map (·.1),rfl,by rw[aej,hlen],fun i f QV=>?_⟩;have hi:i<fs.size:=(ab9.1 QV).1;have QW:=hy i f QV;have UZ:ys[i]?=some ys[i]:=acg (by omega);rw[UZ,hk i f QV]at QW;obtain⟨xs,l1,l2,l3,l4⟩:=hf i f QV _ _ _ QW;refine⟨xs,ys[i].1,l1,fun j c v h1 h2=>l3 j c v h1 ?_,by rw[aak,UZ];rfl,l4⟩;have hj:=(aao.1 h1).1;rw[aa0 (by omega),aas];exact h2
end
end Go.AM
namespace Go.Proofs.YtfloceomobknoaaGreatDoor
namespace M
open Go.AM Go.RowKit Go.Lib
open Reg (ae aU an aS fo fS)
variable {H:Type} {enc:TypeId×Value->H} {w:World} {S:Nat->Prop}
theorem Yk:Sp enc w S 4 1 (fun b=>[bool b]) fun _ _=>True:=fun n cs x h=>by
 obtain⟨xs,l1,l2,l3,b,e⟩:=NH (S:=S) ack n cs x h;exact⟨xs,l1,l2,l3,b,e,trivial⟩
def SY(P:Program)(fs:Array Field)(ks:Nat->Nat):Bool:=(List.range fs.size).all fun i=>match fs[i]? with
 | some f=>Nat.beq (P.cellsOf f.type) (ks i)
 | none=>true
theorem Fw{P:Program}{fs:Array Field}{ks:Nat->Nat}(h:SY P fs ks=true):∀(i:Nat) (f:Field),fs[i]?=some f->P.cellsOf f.type=ks i:=fun i f hf=>by
 have hi:=(ab9.1 hf).1;have:=abh.1 h i (abv.2 hi);rw[hf]at this;exact aa2 this
theorem PU:Sp enc w S 95 6 bc fun _ _=>True:=fun n cs x h=>by
 obtain⟨hl,ds,e,ld,q⟩:=zI (S:=S) (ks:=fun i=>match i with | 0=>2 | _=>1) (hk:=Fw (by kernel_rfl)) (Qs:=fun i xs d=>match i with
   | 0=>∃p:Int×Int,xs=[i64 p.1,i64 p.2]/\True
   | 4=>∃b,xs=[bool b]/\True
   | _=>∃n,xs=[i64 n]/\True) Tryz.underlying95 (fun i f hf=>by
  match i,hf with
  | 0,hf=>cases hf;exact EL
  | 1,hf=>cases hf;exact sL
  | 2,hf=>cases hf;exact sL
  | 3,hf=>cases hf;exact sL
  | 4,hf=>cases hf;exact Yk
  | n+5,hf=>cases hf) h
 have hl:cs.length=6:=hl.trans (by kernel_rfl);obtain⟨x0,_,_,r0,_,p,e0,_⟩:=q 0 _ rfl;obtain⟨x1,_,_,r1,_,n1,e1,_⟩:=q 1 _ rfl;obtain⟨x2,_,_,r2,_,n2,e2,_⟩:=q 2 _ rfl;obtain⟨x3,_,_,r3,_,n3,e3,_⟩:=q 3 _ rfl;obtain⟨x4,_,_,r4,_,b4,e4,_⟩:=q 4 _ rfl;cases e0;cases e1;cases e2;cases e3;cases e4;have rel:nE S w 0 ([i64 p.1,i64 p.2]++([i64 n1]++([i64 n2]++([i64 n3]++[bool b4])))) cs:=nE.join r0 (nE.join r1 (nE.join r2 (nE.join r3 r4)));exact⟨_,rfl,hl,fun i c v h1 h2=>rel i c v h1 (by rw[abC];exact h2),⟨p.1,p.2,n1,n2,n3,b4⟩,Z,Y⟩
def zJ(l:fo)(n:Nat):Prop:=l.part.size<=n/\l.pin.size<=n
theorem qQ(l:fo)(m n:Nat)(h:m<=n):zJ l m->zJ l n:=fun ⟨h1,h2⟩=>⟨aaF h1 h,aaF h2 h⟩
theorem PX:Sp enc w S 201 5 lc zJ:=fun n cs x h=>by
 obtain⟨hl,ds,e,ld,q⟩:=zI (S:=S) (ks:=fun i=>match i with | 3=>2 | _=>1) (hk:=Fw (by kernel_rfl)) (Qs:=fun i xs d=>match i with
   | 0=>∃s,xs=[str s]/\s.size<=Rows.uptoBulk d
   | 1=>∃s,xs=[str s]/\s.size<=Rows.uptoBulk d
   | 2=>∃n,xs=[i64 n]/\True
   | _=>∃p:Int×Int,xs=[i64 p.1,i64 p.2]/\True) Tryz.underlying201 (fun i f hf=>by
  match i,hf with
  | 0,hf=>cases hf;exact Pz
  | 1,hf=>cases hf;exact Pz
  | 2,hf=>cases hf;exact sL
  | 3,hf=>cases hf;exact EL
  | n+4,hf=>cases hf) h
 have hl:cs.length=5:=hl.trans (by kernel_rfl);obtain⟨x0,y0',_,r0,i0,n0,e0,b0⟩:=q 0 _ rfl;obtain⟨x1,y1',_,r1,i1,n1,e1,b1⟩:=q 1 _ rfl;obtain⟨x2,_,_,r2,_,n2,e2,_⟩:=q 2 _ rfl;obtain⟨x3,_,_,r3,_,p,e3,_⟩:=q 3 _ rfl;cases e0;cases e1;cases e2;cases e3;have rel:nE S w 0 ([str n0]++([str n1]++([i64 n2]++[i64 p.1,i64 p.2]))) cs:=nE.join r0 (nE.join r1 (nE.join r2 r3));have j0:=nK i0;have j1:=nK i1;rw[<-e]at j0 j1;exact⟨_,rfl,hl,fun i c v h1 h2=>rel i c v h1 (by rw[abC];exact h2),⟨n0,n1,n2,p.1,p.2⟩,rfl,aaF b0 j0,aaF b1 j1⟩
def Je(a:fS)(n:Nat):Prop:=a.coppers.length<=n/\(∀r∈a.coppers,r.length<=n)/\a.outline.length<=n/\a.bores.length<=n/\a.lands.length<=n/\∀l∈a.lands,zJ l n
theorem SZ(hS:∀b,b<w.heap.size->S b):Sp enc w S 27 4 dX Je:=fun n cs x h=>by
 obtain⟨xs,l1,l2,l3,ds,e,ld,q⟩:=jP (S:=S) (Qs:=fun i xs d=>match i with
   | 0=>∃r:List (List ae),xs=[.sl (r.map fun q=>[aj q])]/\(r.length<=Rows.uptoBulk d/\∀c∈r,(c.length<=Rows.uptoBulk d/\∀z∈c,True))
   | 1=>∃r,xs=[aj r]/\(r.length<=Rows.uptoBulk d/\∀z∈r,True)
   | 2=>∃r:List aS,xs=[.sl (r.map bc)]/\(r.length<=Rows.uptoBulk d/\∀c∈r,True)
   | _=>∃r:List fo,xs=[.sl (r.map lc)]/\(r.length<=Rows.uptoBulk d/\∀c∈r,zJ c (Rows.uptoBulk d))) Tryz.underlying27 (abL (by kernel_rfl)) (by kernel_rfl) (fun i f hf=>by
  match i,hf with
  | 0,hf=>cases hf;exact mA (k:=1) Tryz.underlying23 (by kernel_rfl) (by decide) hS (fun r m n h ⟨h1,h2⟩=>⟨aaF h1 h,h2⟩) (yZ hS)
  | 1,hf=>cases hf;exact yZ hS
  | 2,hf=>cases hf;exact mA (k:=6) Tryz.underlying24 (by kernel_rfl) (by decide) hS (fun _ _ _ _ h=>h) PU
  | 3,hf=>cases hf;exact mA (k:=5) Tryz.underlying25 (by kernel_rfl) (by decide) hS qQ PX
  | n+4,hf=>cases hf) _ _ _ h
 have l1:xs.length=4:=l1;have ld:ds.length=4:=ld;obtain⟨a,b,c,d,rfl⟩:∃a b c d,xs=[a,b,c,d]:=by
  match xs,l1 with
  | [a,b,c,d],_=>exact⟨a,b,c,d,rfl⟩
 obtain⟨a',b',c',d',rfl⟩:∃a b c d,ds=[a,b,c,d]:=by
  match ds,ld with
  | [a,b,c,d],_=>exact⟨a,b,c,d,rfl⟩
 obtain⟨n0,e0,p0,p0'⟩:=q 0 _ _ rfl rfl;obtain⟨n1,e1,p1,_⟩:=q 1 _ _ rfl rfl;obtain⟨n2,e2,p2,_⟩:=q 2 _ _ rfl rfl;obtain⟨n3,e3,p3,p3'⟩:=q 3 _ _ rfl rfl;cases e0;cases e1;cases e2;cases e3;have i0:=nK (ds:=[a',b',c',d']) (i:=0) rfl;have i1:=nK (ds:=[a',b',c',d']) (i:=1) rfl;have i2:=nK (ds:=[a',b',c',d']) (i:=2) rfl;have i3:=nK (ds:=[a',b',c',d']) (i:=3) rfl;rw[<-e]at i0 i1 i2 i3;exact⟨_,rfl,l2,l3,⟨n0,n1,n2,n3⟩,rfl,by exact aaF p0 i0,fun r hr=>aaF (p0' r hr).1 i0,by exact aaF p1 i1,by exact aaF p2 i2,by exact aaF p3 i3,fun l hl=>qQ l _ _ i3 (p3' l hl)⟩
theorem HI(a:fS)(m n:Nat)(h:m<=n):Je a m->Je a n:=fun ⟨h1,h2,h3,h4,h5,h6⟩=>⟨by omega,fun r hr=>aaF (h2 r hr) h,by omega,by omega,by omega,fun l hl=>qQ l _ _ h (h6 l hl)⟩
theorem S0{a:fS}(h:Je a 1048576):ly a:=⟨h.1,h.2.1,h.2.2.1,h.2.2.2.1,h.2.2.2.2.1,fun l hl=>⟨M_ (h.2.2.2.2.2 l hl).1,M_ (h.2.2.2.2.2 l hl).2⟩⟩
end M
namespace Reg
def gR(w:Int)(p q:Bool):Bool:=(decide (w=1)&&(p||q)||(decide (w=2)&&p)&&q)||(decide (w=3)&&p)&&!q
theorem mJ(w:Int):gR w false false=false:=by simp[gR]
def aL(s:aU)(x:Int):Bool:=s.any fun p=>decide (p.1<=x)&&decide (x<p.2)
variable {s:aU}
theorem jw{x:Int}:aL s x=true↔cover s x:=by simp[aL,cover]
theorem zK(h:Canon s)(x:Int):aL s x=par (bw s) x:=by
 rw[abb,jw,cu h]
def fH(xs:List Int)(s:aU):List Int:=s.foldl (fun xs p=>put (put xs p.1) p.2) xs
theorem jX:∀(s:aU) (xs:List Int),bF xs->bF (fH xs s)/\∀y,y∈fH xs s↔y∈xs\/∃p∈s,y=p.1\/y=p.2
 | [],xs,h=>⟨h,fun y=>by simp[fH]⟩
 | p::s,xs,h=>by
  obtain⟨i1,i2⟩:=jX s (put (put xs p.1) p.2) (iG _ _ (iG _ _ h));refine⟨i1,fun y=>?_⟩;show y∈fH (put (put xs p.1) p.2) s↔_;rw[i2,tO,tO];simp only[adq,exists_eq_or_imp];constructor
  ·rintro (((h | h) | h) | h)
   ·exact .inl h
   ·exact .inr (.inl (.inl h))
   ·exact .inr (.inl (.inr h))
   exact .inr (.inr h)
  rintro (h | ((h | h) | h))
  ·exact .inl (.inl (.inl h))
  ·exact .inl (.inl (.inr h))
  ·exact .inl (.inr h)
  exact .inr h
def hY(w:Int)(a b:aU)(xs:List Int):Nat->aU
 | 0=>[]
 | i+1=>if gR w (aL a (xs.getD i 0)) (aL b (xs.getD i 0))=true then dG (hY w a b xs i) (xs.getD i 0) (xs.getD (i+1) 0) else hY w a b xs i
def fI(a b:aU):List Int:=fH (fH [] a) b
def mixed(w:Int)(a b:aU):aU:=hY w a b (fI a b) ((fI a b).length-1)
theorem Dp(a b:aU):bF (fI a b)/\∀y,y∈fI a b↔(∃p∈a,y=p.1\/y=p.2)\/∃p∈b,y=p.1\/y=p.2:=by
 obtain⟨h1,h2⟩:=jX a [] List.Pairwise.nil;obtain⟨h3,h4⟩:=jX b _ h1;exact⟨h3,fun y=>by rw[fI,h4,h2];simp⟩
theorem wT{xs:List Int}(hr:bF xs)(hm:∀p∈s,p.1∈xs/\p.2∈xs){k:Nat}{u v x:Int}(hu:xs[k]?=some u)(hv:xs[k+1]?=some v)(h1:u<=x)(h2:x<v):aL s u=aL s x:=by
 rw[abb,jw,jw];constructor
 ·rintro⟨p,hp,a,b⟩;have g1:=Q0 hr hu hv (hm p hp).1;have g2:=Q0 hr hu hv (hm p hp).2;exact⟨p,hp,by omega,by omega⟩
 rintro⟨p,hp,a,b⟩;have g1:=Q0 hr hu hv (hm p hp).1;have g2:=Q0 hr hu hv (hm p hp).2;exact⟨p,hp,by omega,by omega⟩
theorem uD{xs:List Int}(hr:bF xs){a c:Int}(ha:xs[0]?=some a)(hc:c∈xs):a<=c:=by
 cases xs with
 | nil=>cases hc
 | cons u t=>
  simp at ha;subst ha;rcases adq.1 hc with rfl | hc
  ·exact acE _
  exact Int.le_of_lt ((abZ.1 hr).1 c hc)
theorem wU{xs:List Int}(hr:bF xs){a c:Int}(ha:xs[xs.length-1]?=some a)(hc:c∈xs):c<=a:=by
 obtain⟨j,hj⟩:=ab8.1 hc;obtain⟨a1,a2⟩:=aao.1 ha;obtain⟨j1,j2⟩:=aao.1 hj;rcases adH j (xs.length-1) with e | e
 ·have:=ad2.1 hr j _ j1 a1 e;omega
 have:j=xs.length-1:=by omega
 subst this;rw[a2]at j2;omega
theorem wV{xs:List Int}(hr:bF xs){k:Nat}{a b:Int}(ha:xs[k]?=some a)(hb:xs[k+1]?=some b):a<b:=by
 obtain⟨a1,a2⟩:=aao.1 ha;obtain⟨b1,b2⟩:=aao.1 hb;have:=ad2.1 hr k (k+1) a1 b1 (by omega);omega
theorem wW(w:Int){a b:aU}{xs:List Int}(hr:bF xs)(ha:∀p∈a,p.1∈xs/\p.2∈xs)(hb:∀p∈b,p.1∈xs/\p.2∈xs):∀(k:Nat) (y:Int),xs[k]?=some y ->
  Canon (hY w a b xs k)/\∀x,cover (hY w a b xs k) x↔x<y/\gR w (aL a x) (aL b x)=true
 | 0,y,hy=>by
  refine⟨trivial,fun x=>⟨fun h=>absurd h (eQ x),fun ⟨h1,h2⟩=>?_⟩⟩;have no:∀s:aU,(∀p∈s,p.1∈xs/\p.2∈xs)->aL s x=false:=fun s hs=>by
   rw[aaV];intro h;obtain⟨p,hp,h3,_⟩:=jw.1 h;have:=uD hr hy (hs p hp).1;omega
  rw[no a ha,no b hb,mJ]at h2;cases h2
 | k+1,y,hy=>by
  obtain⟨y',ar⟩:∃y',xs[k]?=some y':=by
   have:=(aao.1 hy).1;exact⟨_,acg (by omega)⟩
  obtain⟨i1,i2⟩:=wW w hr ha hb k y' ar;have eF:=wV hr ar hy;rw[hY,getD_some ar,getD_some hy];have go:∀x,y'<=x->x<y->(gR w (aL a y') (aL b y')=gR w (aL a x) (aL b x)):=fun x h1 h2=>by
   rw[wT hr ha ar hy h1 h2,wT hr hb ar hy h1 h2]
  by_cases c:gR w (aL a y') (aL b y')=true
  ·rw[aap c];obtain⟨j1,j2,_⟩:=tN (hY w a b xs k) y' y i1 eF;refine⟨j1,fun x=>?_⟩;rw[j2,i2];constructor
   ·rintro (⟨h1,h2⟩ | ⟨h1,h2⟩)
    ·exact⟨by omega,h2⟩
    exact⟨h2,(go x h1 h2)▸c⟩
   rintro⟨h1,h2⟩;by_cases h3:x<y'
   ·exact .inl ⟨h3,h2⟩
   exact .inr ⟨by omega,h1⟩
  rw[aaa c];refine⟨i1,fun x=>?_⟩;rw[i2];constructor
  ·rintro⟨h1,h2⟩;exact⟨by omega,h2⟩
  rintro⟨h1,h2⟩;refine⟨?_,h2⟩;by_cases h3:x<y'
  ·exact h3
  exact absurd ((go x (by omega) h1).trans h2) c
theorem Fx(w:Int){a b:aU}(ha:Canon a)(hb:Canon b):Canon (mixed w a b)/\∀x,par (bw (mixed w a b)) x=gR w (par (bw a) x) (par (bw b) x):=by
 obtain⟨hr,hm⟩:=Dp a b;have ma:∀p∈a,p.1∈fI a b/\p.2∈fI a b:=fun p hp=>⟨(hm _).2 (.inl ⟨p,hp,.inl rfl⟩),(hm _).2 (.inl ⟨p,hp,.inr rfl⟩)⟩;have mb:∀p∈b,p.1∈fI a b/\p.2∈fI a b:=fun p hp=>⟨(hm _).2 (.inr ⟨p,hp,.inl rfl⟩),(hm _).2 (.inr ⟨p,hp,.inr rfl⟩)⟩;have key:Canon (mixed w a b)/\∀x,cover (mixed w a b) x↔gR w (aL a x) (aL b x)=true:=by
  rcases abm (fI a b).length with h0 | h0
  ·have e:fI a b=[]:=aef.1 h0;have ea:a=[]:=aby.2 fun p hp=>by have:=(ma p hp).1;rw[e]at this;cases this
   have eb:b=[]:=aby.2 fun p hp=>by have:=(mb p hp).1;rw[e]at this;cases this
   subst ea;subst eb;refine⟨trivial,fun x=>⟨fun h=>absurd h (eQ x),fun h=>?_⟩⟩;have h:gR w false false=true:=h;rw[mJ]at h;cases h
  obtain⟨y,hy⟩:∃y,(fI a b)[(fI a b).length-1]?=some y:=⟨_,acg (by omega)⟩;obtain⟨h1,h2⟩:=wW w hr ma mb _ y hy;refine⟨h1,fun x=>(h2 x).trans ⟨fun h=>h.2,fun h=>⟨?_,h⟩⟩⟩;by_cases hx:x<y
  ·exact hx
  have no:∀s:aU,(∀p∈s,p.1∈fI a b/\p.2∈fI a b)->aL s x=false:=fun s hs=>by
   rw[aaV];intro h;obtain⟨p,hp,_,h4⟩:=jw.1 h;have:=wU hr hy (hs p hp).2;omega
  rw[no a ma,no b mb,mJ]at h;cases h
 refine⟨key.1,fun x=>?_⟩;rw[abb,cu key.1,key.2,zK ha,zK hb]
def gS(w:Int)(a b:List ae)(ys:List Int):Nat->List an
 | 0=>[]
 | k+1=>cA (gS w a b ys k) ⟨ys.getD k 0,ys.getD (k+1) 0,mixed w (rowOf a (ys.getD k 0)) (rowOf b (ys.getD k 0))⟩
def BU(w:Int)(a b:List ae):List an:=gS w a b (aE (a++b)) ((aE (a++b)).length-1)
def aeB(w:Int)(a b:List ae):List ae:=told (BU w a b)
theorem Fy{l all:List ae}(hl:∀r∈l,r∈all){k:Nat}{u v:Int}(hu:(aE all)[k]?=some u)(hv:(aE all)[k+1]?=some v){x z:Int}(h1:u<=z)(h2:z<v):l.any (dE x u)=l.any (dE x z):=by
 obtain⟨hr,hm⟩:=cT all;rw[abb,aaR,aaR];have go:∀r∈l,(dE x u r=true↔dE x z r=true):=fun r m_=>by
  have g1:=Q0 hr hu hv ((hm r.y0).2 ⟨r,hl r m_,.inl rfl⟩);have g2:=Q0 hr hu hv ((hm r.y1).2 ⟨r,hl r m_,.inr rfl⟩);rw[aQ,aQ];omega
 constructor
 ·rintro⟨r,m_,h⟩;exact⟨r,m_,(go r m_).1 h⟩
 rintro⟨r,m_,h⟩;exact⟨r,m_,(go r m_).2 h⟩
theorem uE(w:Int){a b:List ae}(ha:∀r∈a,Full r)(hb:∀r∈b,Full r):∀(k:Nat) (y:Int),(aE (a++b))[k]?=some y ->
  bE (gS w a b (aE (a++b)) k)/\(∀t∈gS w a b (aE (a++b)) k,t.y1<=y)/\∀x z,at' (gS w a b (aE (a++b)) k) x z=(decide (z<y)&&gR w (a.any (dE x z)) (b.any (dE x z)))
 | 0,y,hy=>by
  obtain⟨hr,hm⟩:=cT (a++b);refine⟨trivial,fun t ht=>(by cases ht),fun x z=>?_⟩;show false=_;symm;rw[aaz];by_cases hz:z<y
  ·right;have no:∀l:List ae,(∀r∈l,r∈a++b)->l.any (dE x z)=false:=fun l hl=>by
    rw[aaV];intro hp;obtain⟨r,m_,h⟩:=aaR.1 hp;obtain⟨_,_,h3,_⟩:=aQ.1 h;have:=uD hr hy ((hm r.y0).2 ⟨r,hl r m_,.inl rfl⟩);omega
   rw[no a fun r h=>acz _ h,no b fun r h=>aba _ h,mJ]
  left;exact ab1 hz
 | k+1,y,hy=>by
  obtain⟨hr,hm⟩:=cT (a++b);obtain⟨y',ar⟩:∃y',(aE (a++b))[k]?=some y':=by
   have:=(aao.1 hy).1;exact⟨_,acg (by omega)⟩
  obtain⟨i1,i2,i3⟩:=uE w ha hb k y' ar;have eF:=wV hr ar hy;rw[gS,getD_some ar,getD_some hy];obtain⟨m1,m2⟩:=Fx w (iS a y' (fun r hr=>(ha r hr).1)).1 (iS b y' (fun r hr=>(hb r hr).1)).1;obtain⟨p1,p2,p3,p4⟩:=jT (b:=⟨y',y,mixed w (rowOf a y') (rowOf b y')⟩) i1 eF m1 i2;refine⟨p1,p2,fun x z=>?_⟩;rw[p3,i3,at_one];show (decide (z<y')&&gR w (a.any (dE x z)) (b.any (dE x z))||decide (y'<=z)&&decide (z<y)&&par (bw (mixed w (rowOf a y') (rowOf b y'))) x)=_;rw[m2,Db ha,Db hb];by_cases c1:z<y'
  ·rw[abF c1,ab1 (by omega:¬y'<=z),abF (by omega:z<y)];simp
  by_cases c2:z<y
  ·rw[ab1 c1,abF (by omega:y'<=z),abF c2];simp only[aeo,adZ,adY];rw[Fy (fun r h=>acz _ h) ar hy (by omega) c2,Fy (fun r h=>aba _ h) ar hy (by omega) c2]
  rw[ab1 c1,ab1 c2];simp
theorem HK(w:Int){a b:List ae}(ha:∀r∈a,Full r)(hb:∀r∈b,Full r):bE (BU w a b)/\∀x z,at' (BU w a b) x z=gR w (a.any (dE x z)) (b.any (dE x z)):=by
 obtain⟨hr,hm⟩:=cT (a++b);rcases abm (aE (a++b)).length with h0 | h0
 ·have e:aE (a++b)=[]:=aef.1 h0;have no:a++b=[]:=aby.2 fun r m_=>by
   have:=(hm r.y0).2 ⟨r,m_,.inl rfl⟩;rw[e]at this;cases this
  obtain⟨e1,e2⟩:=List.append_eq_nil_iff.1 no;subst e1;subst e2;exact⟨trivial,fun x z=>(mJ w).symm⟩
 obtain⟨y,hy⟩:∃y,(aE (a++b))[(aE (a++b)).length-1]?=some y:=⟨_,acg (by omega)⟩;obtain⟨h1,h2,h3⟩:=uE w ha hb _ y hy;refine⟨h1,fun x z=>?_⟩;show at' (gS w a b (aE (a++b)) ((aE (a++b)).length-1)) x z=_;rw[h3];by_cases hz:z<y
 ·rw[abF hz,adY]
 rw[ab1 hz,aeo];have no:∀l:List ae,(∀r∈l,r∈a++b)->l.any (dE x z)=false:=fun l hl=>by
  rw[aaV];intro hp;obtain⟨r,m_,h⟩:=aaR.1 hp;obtain⟨_,_,_,h5⟩:=aQ.1 h;have:=wU hr hy ((hm r.y1).2 ⟨r,hl r m_,.inr rfl⟩);omega
 rw[no a fun r h=>acz _ h,no b fun r h=>aba _ h,mJ]
theorem zL{w:Int}{k:Bool->Bool->Bool}(hk:∀p q,gR w p q=k p q){a b:List ae}(ha:∀r∈a,Full r)(hb:∀r∈b,Full r):BU w a b=ik k (aB a) (aB b):=by
 obtain⟨h1,h2⟩:=HK w ha hb;obtain⟨a1,a2,_⟩:=aR ha;obtain⟨b1,b2,_⟩:=aR hb;obtain⟨m1,m2,_⟩:=lO (k:=k) ((hk false false).symm.trans (mJ w)) a1 b1;exact iK _ _ h1 m1 fun x y=>by rw[h2,m2,hk,a2,b2]
theorem KU{a b:List ae}(ha:∀r∈a,Full r)(hb:∀r∈b,Full r):BU 3 a b=bN (aB a) (aB b):=zL (fun p q=>by cases p<;>cases q<;>rfl) ha hb
end Reg
end Go.Proofs.YtfloceomobknoaaGreatDoor
