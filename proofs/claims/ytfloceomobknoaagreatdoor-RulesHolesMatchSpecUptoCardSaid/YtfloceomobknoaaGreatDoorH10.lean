/- Part 10 of the proof of RulesHolesMatchSpec. -/
import Derived.Test.YtfloceomobknoaaGreatDoorH09
set_option linter.unusedVariables false
set_option linter.unusedSimpArgs false
set_option maxRecDepth 100000
set_option maxHeartbeats 8000000
namespace Go
abbrev abO:=@Int.toNat_of_nonneg
abbrev ac3:=@List.map_replicate
abbrev aee:=@List.nodup_append
abbrev adM:=@List.length_range
end Go
namespace Go.Proofs.YtfloceomobknoaaGreatDoor
namespace M
open Go.AM Go.RowKit Go.Lib
open Reg (ae an aS fo fS Piece bh zx UF iota gj r_ uz jm bE cv told aB bO aa through jF AT jn mG qN uA iN il)
def sT(g:bh):List PV:=[ints g.pieces,ints g.bores,.sl (g.pins.map pc)]
def wR(g:bh):List PV:=[ints g.pieces,ints g.bores,.im (.slice none 0 0)]
def I8(p:List (ByteArray×ByteArray)):HX:=if p=[] then .av .nl else .row 205 (p.map pc)
def gh(g:bh):List HX:=[.av (.p (ints g.pieces)),.av (.p (ints g.bores)),I8 g.pins]
theorem PQ(f:AV->AV)(hn:f .nl=.nl)(p:List (ByteArray×ByteArray)):HX.cS f (I8 p)=I8 p:=by
 unfold I8;split
 ·simp only[HX.cS,hn]
 rfl
theorem NA(f:AV->AV)(hp:∀x,f (.p x)=.p x)(hn:f .nl=.nl)(G:List bh):(G.map gh).map (fun r=>r.map (HX.cS f))=G.map gh:=by
 rw[ad6];refine aaG fun g _=>?_;show [HX.cS f _,HX.cS f _,HX.cS f (I8 g.pins)]=_;rw[PQ f hn];simp only[HX.cS,hp];rfl
theorem qO(d:Nat)(G:List bh):(G.map gh).map (fun r=>r.map (HX.cS (sc d)))=G.map gh:=NA _ (fun _=>rfl) rfl G
theorem Fo(i d:Nat)(G:List bh):(G.map gh).map (fun r=>r.map (HX.cS (rn i d)))=G.map gh:=NA _ (fun _=>rfl) rfl G
theorem dC(n:Nat)(G:List bh)(k d:Nat)(a b:PV)(h:sc n (.ow d)=.ow d):((G.map gh).set k [.av (.p a),.av (.p b),.av (.ow d)]).map (fun r=>r.map (HX.cS (sc n)))=(G.map gh).set k [.av (.p a),.av (.p b),.av (.ow d)]:=by
 rw[ad8,qO];simp only[aa8,ab4,HX.cS,h];rfl
theorem NB{G:List bh}(h:∀g∈G,g.pins=[]):(G.map wR).map s9=G.map gh:=by
 rw[ad6];refine aaG fun g hg=>?_;simp only[Function.comp,wR,gh,h g hg];rfl
theorem SR(p:List (ByteArray×ByteArray)):Tr (I8 p) (.sl (p.map pc)):=by
 unfold I8;split
 ·rename_i e;rw[e];exact .nl
 exact .row _ _
theorem vM(G:List bh):Oi (G.map gh) (G.map sT):=Oi.map fun g _=>⟨rfl,fun j u v hu hv=>by
 match j with
 | 0=>simp only[gh,sT,aa9,Option.some.injEq]at hu hv;subst hu;subst hv;exact .p _
 | 1=>simp only[gh,sT,abc,aa9,Option.some.injEq]at hu hv;subst hu;subst hv;exact .p _
 | 2=>simp only[gh,sT,abc,aa9,Option.some.injEq]at hu hv;subst hu;subst hv;exact SR _
 | j+3=>simp[gh]at hu⟩
theorem of_eq{A:cD}{s s':AS}(h:s=s'):au A s s':=h▸au.refl A s
theorem au.I9{A:cD}(hC:bI A.C)(s:AS)(id k d:Nat){e:TypeId}{G:List bh}{g:bh}{ti:TI}(hd:d<100000)(hid:id≠d)(hb:s.h id=.az e (G.map gh))(hk:G[k]?=some g)(hT:A.C.T 205=some ti)(hpos:0<ti.size):
  au A s ⟨(gX d s).t,aT (aT (gX d s).h d (.row 205 (g.pins.map pc))) id (.az e ((G.map gh).set k [.av (.p (ints g.pieces)),.av (.p (ints g.bores)),.av (.ow d)]))⟩:=by
 have Ov:=(aao.1 hk).1;have hr:(G.map gh)[k]?=some (gh g):=by rw[aak,hk];rfl
 have Q_:∀r∈G.map gh,∀x∈r,IC x:=fun r hr x hx=>by
  obtain⟨g,_,rfl⟩:=adS.1 hr;simp only[gh,adq,adI,or_false]at hx;rcases hx with rfl | rfl | rfl
  ·trivial
  ·trivial
  unfold I8;split<;>trivial
 by_cases c:g.pins=[]
 ·have h1:=au.Sr hC s id k 2 (e':=205) hb hr (by rw[gh,I8,aap c];rfl) hT hpos;have h2:=au.rq hC ⟨s.t,aT s.h id (.az e ((G.map gh).set k ((gh g).set 2 (.row 205 []))))⟩ id k 2 d (e:=e) (r:=(gh g).set 2 (.row 205 [])) hd hid (aH _ _ _) (fun r hr x hx=>by
   rcases abg hr with hr | hr
   ·exact Q_ r hr x hx
   subst hr;simp only[gh,List.set_cons_succ,List.set_cons_zero,adq,adI,or_false]at hx;rcases hx with rfl | rfl | rfl<;>trivial) (ab7 (by rw[aej];exact Ov)) rfl
  refine (h1.trans h2).trans (of_eq ?_);rw[c];refine adV (AS.mk _) ?_;funext j;by_cases e1:j=id
  ·subst e1;rw[aH,aH,aeb];rfl
  rw[aV _ _ e1,aV _ _ e1];by_cases e2:j=d
  ·subst e2;rw[aH,aH];rfl
  rw[aV _ _ e2,aV _ _ e2];show aT (fun m=>xm d (aT s.h id _ m)) d .none j=aT (fun m=>xm d (s.h m)) d .none j;rw[aV _ _ e2,aV _ _ e2];show xm d (aT _ _ _ j)=_;rw[aV _ _ e1]
 have h2:=au.rq hC s id k 2 d (e':=205) (xs:=g.pins.map pc) hd hid hb Q_ hr (by rw[gh,I8,aaa c];rfl);exact h2
theorem I_(p:List (ByteArray×ByteArray))(x:ByteArray×ByteArray):I8 (p++[x])=.row 205 ((p++[x]).map pc):=by
 rw[I8,aaa (by simp)]
theorem zE(a:fS)(ha:iD a)(dr:List (List PV))(P:List Piece)(T:List (List Int))(hP:P.length<=2000)(Q9:∀p∈P,(told p.set).length<=4398046511104)(hT:T.length=a.bores.length)(U:List Int)(hU:U=jm P.length a.bores.length T)(o:List Int×List Int)(G0:List bh)(hF:jn a.bores P.length (Reg.aP (Reg.cQ U) (P.length+a.bores.length))=(o,G0))(R:qN)(hR:R=a.lands.foldl (uA a.bores P o) ⟨G0,[],[]⟩)(ZD:∀x∈T,∀p∈x,0<=p/\p<P.length)(Vs:∀x∈T,x.length<=1000000000):af C 102 [.aN [.p (.sl (a.coppers.map rr)),.p (aj a.outline),.p (.sl (a.bores.map bc)),.p (.sl (a.lands.map lc)),.row 59 dr,.row 76 (P.map jb),.row 71 (T.map fun l=>[ints l]),.row 142 [],.row 3 [],.row 3 [],.row 3 [],.row 174 []]] (.tu []) [.aN [.p (.sl (a.coppers.map rr)),.p (aj a.outline),.p (.sl (a.bores.map bc)),.p (.sl (a.lands.map lc)),.row 59 dr,.row 76 (P.map jb),.row 71 (T.map fun l=>[ints l]),.row 142 (R.groups.map sT),.row 3 (aA o.1),.row 3 (aA o.2),.row 3 (aA R.ofLand),.row 174 (R.atLand.map je)]]:=by
 have lb:=ai a.bores bc;have lp:=ai P jb;have lT:=ai T fun l=>[ints l];have zA:=ha.jB;obtain⟨n,hn⟩:∃n,n=P.length:=⟨_,rfl⟩;rw[<-hn]at hU hF;have abl:=Reg.qM (n:=n) (nb:=a.bores.length) T 0 (iota (n+a.bores.length)) (Reg.ny _) (Reg.aeM _) (by omega) (by rw[hn];exact ZD);refine UO ⟨[27,37],[],[(11,[66]),(37,[14,1000014,15,1000015,90003,1090003,100000,1100000]),(38,[14,1000014,15,1000015,90003,1090003,100000,1100000,219])],[28,37,38],[(11,[true,true,true,true,true,true,true,true,true,false,false,true,true,false,true,true,true]),(37,[true,false,false,false,true,true,true,true,true,true,true,true,true,true,true,true,false,true,true,true]),(38,[true,true,true,true,true,true,true,true,false,true,false,false,false,false,false,true,true,true,true,true,true,true])],[]⟩ hC Tryz.func102 rfl (by kernel_rfl) fun _=>⟨_,au.open hC _ 100000 [90000,90001,90002,90003,90004,90005,90006,90007] (by exact rfl) rfl rfl rfl,?_⟩;refine⟨⟨by omega,by omega⟩,?_⟩;have GU:=KJ (n+a.bores.length) (by omega);have Vt:((n+a.bores.length:Nat):Int)=((P.map jb).length:Int)+((a.bores.map bc).length:Int):=by omega
 rw[Vt]at GU;refine⟨_,_,GU,?_⟩;refine aJ (fun x:Nat×List Int=>uz n x.1 (T.drop x.1) x.2=U/\UF x.2/\x.2.length=n+a.bores.length/\x.1<=T.length) (fun x=>[(0,.bx 100000 0),(2,.p (i64 n)),(3,.bx 31 0),(35,.ow 90002),(36,.p (i64 T.length)),(37,.p (i64 x.1))]) (fun x=>[(100000,.box [.p (.sl (a.coppers.map rr)),.p (aj a.outline),.p (.sl (a.bores.map bc)),.p (.sl (a.lands.map lc)),.ow 90000,.ow 90001,.ow 90002,.ow 90003,.ow 90004,.ow 90005,.ow 90006,.ow 90007]),(90000,.row 59 dr),(90001,.row 76 (P.map jb)),(90002,.row 71 (T.map fun l=>[ints l])),(90003,.row 142 []),(90004,.row 3 []),(90005,.row 3 []),(90006,.row 3 []),(90007,.row 174 []),(31,.aN [.row 3 (aA x.2)])]) (fun x=>T.length-x.1) (0,iota (n+a.bores.length)) _ (au.refl _ _) ⟨hU.symm,Reg.ny _,Reg.aeM _,aaj _⟩ ⟨rfl,adV (fun m:Nat=>AV.p (i64 m)) (lp.trans hn.symm),rfl,rfl,adV (fun m:Nat=>AV.p (i64 m)) lT,Z,Y⟩ ⟨Z,Z,Z,Z,Z,Z,Z,Z,Z,Z,Y⟩ fun ⟨k,u⟩ hx t h=>?_;obtain⟨q1,q2,q3,q4⟩:=hx;simp only at q1 q2 q3 q4;refine iW ?_ ?_<;>intro g<;>try simp only[zB]at g
 ·obtain⟨l,Ws⟩:=ak (l:=T) (i:=k) (by omega);have Wq:=ZD l (aad Ws);have ZE:=Vs l (aad Ws);have ll:=ai l fun n=>[i64 n];rw[drop_at Ws,uz]at q1;refine⟨⟨by omega,by (try dsimp only);omega⟩,?_⟩;refine⟨[ints l],(idx rfl Ws).2,?_⟩;refine aJ (fun z:Nat×List Int=>r_ (n+k) (l.drop z.1) z.2=r_ (n+k) l u/\UF z.2/\z.2.length=n+a.bores.length) (fun z=>[(0,.bx 100000 0),(2,.p (i64 n)),(3,.bx 31 0),(35,.ow 90002),(36,.p (i64 T.length)),(37,.p (i64 k)),(4,.p (i64 k)),(42,.p (ints l)),(43,.p (i64 l.length)),(44,.p (i64 z.1))]) (fun z=>[(100000,.box [.p (.sl (a.coppers.map rr)),.p (aj a.outline),.p (.sl (a.bores.map bc)),.p (.sl (a.lands.map lc)),.ow 90000,.ow 90001,.ow 90002,.ow 90003,.ow 90004,.ow 90005,.ow 90006,.ow 90007]),(90000,.row 59 dr),(90001,.row 76 (P.map jb)),(90002,.row 71 (T.map fun l=>[ints l])),(90003,.row 142 []),(90004,.row 3 []),(90005,.row 3 []),(90006,.row 3 []),(90007,.row 174 []),(31,.aN [.row 3 (aA z.2)])]) (fun z=>l.length-z.1) (0,u) _ (au.refl _ _) ⟨rfl,q2,q3⟩ ⟨rfl,rfl,rfl,rfl,rfl,rfl,rfl,rfl,adV (fun m:Nat=>AV.p (i64 m)) ll,Z,Y⟩ ⟨Z,Z,Z,Z,Z,Z,Z,Z,Z,Z,Y⟩ fun ⟨j,v⟩ hz t h=>?_;obtain⟨z1,z2,z3⟩:=hz;simp only at z1 z2 z3;refine iW ?_ ?_<;>intro g2<;>try simp only[zB]at g2
  ·obtain⟨p,Yb⟩:=ak (l:=l) (i:=j) (by omega);have Wn:=Wq p (aad Yb);rw[drop_at Yb,r_]at z1;have ZF:((p.toNat:Nat):Int)=p:=abO Wn.1;have hj:=Hx v z2 p.toNat (n+k) (by omega) (by omega);rw[ZF,Int.natCast_add]at hj;obtain⟨w1,w2⟩:=Reg.mC z2 (i:=p.toNat) (k:=n+k) (by omega) (by omega);refine⟨[i64 p],(idx rfl Yb),?_⟩;refine⟨⟨by omega,by omega⟩,?_⟩;refine⟨_,_,hj,?_⟩;refine⟨⟨by omega,by omega⟩,?_⟩;exact⟨(j+1,gj v p.toNat (n+k)),_,au.refl _ _,⟨z1,w1,w2.trans z3⟩,by simp only;omega,⟨Z,Z,Z,Z,Z,Z,Z,Z,Z,Z,Y⟩,⟨Z,Z,Z,Z,Z,Z,Z,Z,Z,Z,Y⟩⟩
  rw[ab1 (by omega),r_]at z1;refine⟨⟨by omega,by omega⟩,?_⟩;exact⟨(k+1,v),_,au.refl _ _,⟨by rw[z1];exact q1,z2,z3,by simp only;omega⟩,by simp only;omega,⟨Z,Z,Z,Z,Z,Z,Y⟩,⟨Z,Z,Z,Z,Z,Z,Z,Z,Z,Z,Y⟩⟩
 rw[ab1 (by omega),uz]at q1;have NC:=Hz u q2 (by omega);rw[q3]at NC;obtain⟨LL,PM⟩:∃LL,LL=Reg.aP (Reg.cQ u) (n+a.bores.length):=⟨_,rfl⟩;rw[<-PM]at NC;have hLi:∀l∈LL,l.length<=n+a.bores.length/\∀i∈l,i<n+a.bores.length:=fun l hl=>by
  rw[PM,Reg.aP]at hl;obtain⟨r,_,rfl⟩:=adS.1 hl;exact⟨Reg.qJ _ _ _,fun i hi=>(Reg.dx.1 hi).1⟩
 have Gz:LL.length<=n+a.bores.length:=by rw[PM,Reg.oq];exact Reg.qI _ _
 obtain⟨F,Yc⟩:∃F,F=jn a.bores n LL:=⟨_,rfl⟩;have hFo:F=(o,G0):=by rw[Yc,PM,<-hF,<-q1]
 refine⟨⟨by omega,by omega,by dsimp only;omega,by omega⟩,?_⟩;refine⟨⟨by omega,by omega,by dsimp only;omega,by omega⟩,?_⟩;refine⟨_,_,NC,?_⟩;have lLL:=ai LL pl;have op0:aA (List.replicate n 0)=List.replicate n [i64 0]:=by rw[aA,ac3]
 have ob0:aA (List.replicate a.bores.length 0)=List.replicate a.bores.length [i64 0]:=by rw[aA,ac3]
 refine aJ (fun x:Nat×(List Int×List Int)×List bh=>(LL.drop x.1).foldl (AT a.bores n) x.2=F/\x.2.1.1.length=n/\x.2.1.2.length=a.bores.length/\x.2.2.length<=x.1/\x.1<=LL.length) (fun x=>[(0,.bx 100000 0),(2,.p (i64 n)),(72,.p (.sl (LL.map pl))),(73,.p (i64 LL.length)),(74,.p (i64 x.1))]) (fun x=>[(100000,.box [.p (.sl (a.coppers.map rr)),.p (aj a.outline),.p (.sl (a.bores.map bc)),.p (.sl (a.lands.map lc)),.ow 90000,.ow 90001,.ow 90002,.ow 90003,.ow 90004,.ow 90005,.ow 90006,.ow 90007]),(90000,.row 59 dr),(90001,.row 76 (P.map jb)),(90002,.row 71 (T.map fun l=>[ints l])),(90003,.row 142 (x.2.2.map wR)),(90004,.row 3 (aA x.2.1.1)),(90005,.row 3 (aA x.2.1.2)),(90006,.row 3 []),(90007,.row 174 [])]) (fun x=>LL.length-x.1) (0,(List.replicate n 0,List.replicate a.bores.length 0),[]) _ ((au.own (by exact hC) _ 72 (id:=72) (by exact rfl) (by exact rfl)).trans ((au.pack (by exact hC) _ 100000 (cs:=[.p (.sl (a.coppers.map rr)),.p (aj a.outline),.p (.sl (a.bores.map bc)),.p (.sl (a.lands.map lc)),.row 59 dr,.row 76 (P.map jb),.row 71 (T.map fun l=>[ints l]),.row 142 [],.row 3 (aA (List.replicate n 0)),.row 3 (aA (List.replicate a.bores.length 0)),.row 3 [],.row 174 []]) (by exact rfl) (by exact rfl) (by exact⟨rfl,rfl,rfl,rfl,rfl,rfl,rfl,rfl,adV (AB.row _) (by rw[op0];rfl),adV (AB.row _) (by rw[ob0,<-lb];rfl),Z,Z,Y⟩)).trans (au.open (by exact hC) _ 100000 [90000,90001,90002,90003,90004,90005,90006,90007] (cs:=[.p (.sl (a.coppers.map rr)),.p (aj a.outline),.p (.sl (a.bores.map bc)),.p (.sl (a.lands.map lc)),.row 59 dr,.row 76 (P.map jb),.row 71 (T.map fun l=>[ints l]),.row 142 [],.row 3 (aA (List.replicate n 0)),.row 3 (aA (List.replicate a.bores.length 0)),.row 3 [],.row 174 []]) (by exact rfl) rfl rfl rfl))) ⟨Yc.symm,aan,aan,aaj _,aaj _⟩ ⟨rfl,rfl,rfl,adV (fun m:Nat=>AV.p (i64 m)) lLL,Z,Y⟩ ⟨Z,Z,Z,Z,Z,Z,Z,Z,Z,Y⟩ fun ⟨j,⟨op,ob⟩,G⟩ hx t h=>?_;obtain⟨y1,y2,y3,y4,y5⟩:=hx;simp only at y1 y2 y3 y4 y5;refine iW ?_ ?_<;>intro g2<;>try simp only[zB]at g2
 ·obtain⟨l,Yd⟩:=ak (l:=LL) (i:=j) (by omega);obtain⟨Qo,F4⟩:=hLi l (aad Yd);rw[drop_at Yd,aaq]at y1;refine⟨(pl l),(idx rfl Yd),?_⟩;have ZG:(aA (l.map fun (m:Nat)=>(m:Int))).length=l.length:=by rw[bQ,aej]
  obtain⟨r,hr⟩:∃r,r=l.foldl (jF a.bores n G.length) ((op,ob),[],[]):=⟨_,rfl⟩;have mT:AT a.bores n ((op,ob),G) l=(r.1,if 0<r.2.1.length+r.2.2.length then G++[⟨r.2.1,r.2.2,[]⟩] else G):=by rw[hr];rfl
  rw[mT]at y1;refine aJ (fun y:Nat×(List Int×List Int)×List Int×List Int=>(l.drop y.1).foldl (jF a.bores n G.length) y.2=r/\y.2.1.1.length=n/\y.2.1.2.length=a.bores.length/\y.2.2.1.length<=y.1/\y.2.2.2.length<=y.1/\y.1<=l.length) (fun y=>[(0,.bx 100000 0),(2,.p (i64 n)),(72,.p (.sl (LL.map pl))),(73,.p (i64 LL.length)),(74,.p (i64 j)),(10,.bx 10 0),(78,.p (.sl (aA (l.map fun (m:Nat)=>(m:Int))))),(79,.p (i64 l.length)),(80,.p (i64 y.1))]) (fun y=>[(100000,.box [.p (.sl (a.coppers.map rr)),.p (aj a.outline),.p (.sl (a.bores.map bc)),.p (.sl (a.lands.map lc)),.ow 90000,.ow 90001,.ow 90002,.ow 90003,.ow 90004,.ow 90005,.ow 90006,.ow 90007]),(90000,.row 59 dr),(90001,.row 76 (P.map jb)),(90002,.row 71 (T.map fun l=>[ints l])),(90003,.row 142 (G.map wR)),(90004,.row 3 (aA y.2.1.1)),(90005,.row 3 (aA y.2.1.2)),(90006,.row 3 []),(90007,.row 174 []),(10,.box [.ow 90100,.ow 90101,.nl]),(90100,.row 3 (aA y.2.2.1)),(90101,.row 3 (aA y.2.2.2))]) (fun y=>l.length-y.1) (0,(op,ob),[],[]) _ ((au.aeK (by exact hC) _ 10 0 90100 3 _ _ (by decide) (by decide) (by exact rfl) (by exact rfl) (by exact rfl) (by decide)).trans (au.aeK (by exact hC) _ 10 1 90101 3 _ _ (by decide) (by decide) (by exact rfl) (by exact rfl) (by exact rfl) (by decide))) ⟨hr.symm,y2,y3,aam _,aam _,aaj _⟩ ⟨rfl,rfl,rfl,rfl,rfl,rfl,rfl,adV (fun m:Nat=>AV.p (i64 m)) ZG,Z,Y⟩ ⟨Z,Z,Z,Z,Z,Z,Z,Z,Z,Z,Z,Z,Y⟩ fun ⟨m,⟨ND,F5⟩,ps,bs⟩ hy t h=>?_;obtain⟨w1,w2,w3,w4,w5,w6⟩:=hy;simp only at w1 w2 w3 w4 w5 w6;refine iW ?_ ?_<;>intro g3<;>try simp only[zB]at g3
  ·obtain⟨i,Ye⟩:=ak (l:=l) (i:=m) (by omega);have hiN:=F4 i (aad Ye);rw[drop_at Ye,aaq]at w1;have lG:=ai G wR;refine⟨[i64 i],⟨by omega,cM (by rw[aak];simp[Ye])⟩,?_⟩;refine iW ?_ ?_<;>intro g4
   ·rw[jF,aap (by omega)]at w1;obtain⟨v,hv⟩:=ak (l:=ND) (i:=i) (by omega);have lv:=bQ ND;have Yf:=bQ ps;refine⟨⟨by omega,by (try dsimp only);omega⟩,?_⟩;refine⟨[i64 v],(cM hv),?_⟩;refine⟨⟨fun r hr=>by simp at hr;subst hr;rfl,by simp only[Yf,aaM,aan];omega,by simp only[Yf,aaM,aan];omega⟩,?_⟩;refine⟨⟨by omega,by omega⟩,?_⟩;refine⟨(m+1,(ND.set i (G.length:Int),F5),ps++[(i:Int)],bs),_,au.Cx _ 111 90100 (by decide) (by decide),?_⟩;exact⟨⟨w1,by simp only[aaM];exact w2,w3,by simp only[acv,abS];omega,by simp only;omega,by simp only;omega⟩,by simp only;omega,⟨Z,Z,Z,Z,Z,Z,Z,Z,Z,Y⟩,⟨rfl,rfl,rfl,rfl,rfl,adV (AB.row _) ((fV ND i ((G.map wR).length:Int)).trans (by rw[lG])),rfl,rfl,rfl,rfl,adV (AB.row _) (gP ps i).symm,Z,Y⟩⟩
   rw[jF,aaa (by omega)]at w1;refine⟨⟨by omega,by omega⟩,?_⟩;obtain⟨b,Oz⟩:=ak (l:=a.bores) (i:=i-n) (by omega);have Ox:a.bores.getD (i-n) ⟨0,0,0,0,0,false⟩=b:=by rw[ad4,Oz];rfl
   rw[Ox]at w1;refine⟨(bc b),(idx (show (i:Int)-n=((i-n:Nat):Int) by omega) Oz),?_⟩;refine iW ?_ ?_<;>intro g5
   ·rw[aap g5]at w1;have e1:(i:Int)-n=((i-n:Nat):Int):=by omega
    obtain⟨v,hv⟩:=ak (l:=F5) (i:=i-n) (by omega);have lv:=bQ F5;have Wo:=bQ bs;refine⟨⟨by omega,by omega⟩,?_⟩;refine⟨⟨by omega,by (try dsimp only);omega⟩,?_⟩;refine⟨[i64 v],(by rw[e1];exact cM hv),?_⟩;refine⟨⟨by omega,by omega⟩,?_⟩;refine⟨⟨fun r hr=>by simp at hr;subst hr;rfl,by simp only[Wo,aaM,aan];omega,by simp only[Wo,aaM,aan];omega⟩,?_⟩;refine⟨⟨by omega,by omega⟩,?_⟩;refine⟨(m+1,(ND,F5.set (i-n) (G.length:Int)),ps,bs++[(i:Int)-n]),_,au.Cx _ 144 90101 (by decide) (by decide),?_⟩;exact⟨⟨w1,w2,by simp only[aaM];exact w3,by simp only;omega,by simp only[acv,abS];omega,by simp only;omega⟩,by simp only;omega,⟨Z,Z,Z,Z,Z,Z,Z,Z,Z,Y⟩,⟨rfl,rfl,rfl,rfl,rfl,rfl,adV (AB.row _) ((adV (fun z=>List.set (aA F5) z _) (show ((i:Int)-n).toNat=i-n by omega)).trans ((fV F5 (i-n) ((G.map wR).length:Int)).trans (by rw[lG]))),rfl,rfl,rfl,rfl,adV (AB.row _) (gP bs ((i:Int)-n)).symm,trivial⟩⟩
   rw[aaa (by rw[g5];decide)]at w1;have e1:(i:Int)-n=((i-n:Nat):Int):=by omega
   obtain⟨v,hv⟩:=ak (l:=F5) (i:=i-n) (by omega);have lv:=bQ F5;refine⟨⟨by omega,by omega⟩,?_⟩;refine⟨⟨by omega,by (try dsimp only);omega⟩,?_⟩;refine⟨[i64 v],(by rw[e1];exact cM hv),?_⟩;refine⟨⟨by omega,by omega⟩,?_⟩;exact⟨(m+1,(ND,F5.set (i-n) (-1)),ps,bs),_,au.refl _ _,⟨w1,w2,by simp only[aaM];exact w3,by simp only;omega,by simp only;omega,by simp only;omega⟩,by simp only;omega,⟨Z,Z,Z,Z,Z,Z,Z,Z,Z,Y⟩,⟨rfl,rfl,rfl,rfl,rfl,rfl,adV (AB.row _) ((adV (fun z=>List.set (aA F5) z _) (show ((i:Int)-n).toNat=i-n by omega)).trans (fV F5 (i-n) (-1))),Z,Z,Z,Z,Z,Y⟩⟩
  have e:l.length<=m:=by omega
  rw[ab1 e]at w1;have w1:((ND,F5),ps,bs)=r:=w1;rw[<-w1]at y1;simp only at y1;have Yf:=bQ ps;have Wo:=bQ bs;have lG:=ai G wR;refine qy ((au.fB (by exact hC) _ 10 0 90100 3 _ _ (by decide) (by exact rfl) (by exact rfl) (by exact rfl)).trans ((au.fB (by exact hC) _ 10 1 90101 3 _ _ (by decide) (by exact rfl) (by exact rfl) (by exact rfl)).trans (au.MJ (by exact hC) _ 10 2 _ (by exact rfl) (by exact rfl)))) ?_;refine⟨⟨by dsimp only;omega,by dsimp only;omega⟩,?_⟩;refine iW ?_ ?_<;>intro g4<;>try simp only[zB]at g4
  ·rw[aap (by omega)]at y1;refine⟨⟨fun r hr=>by simp at hr;subst hr;rfl,by simp only[lG,aaM,aan];omega,by simp only[lG,aaM,aan];omega⟩,?_⟩;refine⟨⟨by omega,by omega⟩,?_⟩;refine⟨(j+1,(ND,F5),G++[bh.mk ps bs []]),_,((au.pack (by exact hC) _ 100000 (cs:=[.p (.sl (a.coppers.map rr)),.p (aj a.outline),.p (.sl (a.bores.map bc)),.p (.sl (a.lands.map lc)),.row 59 dr,.row 76 (P.map jb),.row 71 (T.map fun l=>[ints l]),.row 142 ((G++[bh.mk ps bs []]).map wR),.row 3 (aA ND),.row 3 (aA F5),.row 3 [],.row 174 []]) (by exact rfl) (by exact rfl) (by exact⟨rfl,rfl,rfl,rfl,rfl,rfl,rfl,by rw[abE];rfl,Z,Z,Z,Z,Y⟩)).trans (au.open (by exact hC) _ 100000 [90000,90001,90002,90003,90004,90005,90006,90007] (cs:=[.p (.sl (a.coppers.map rr)),.p (aj a.outline),.p (.sl (a.bores.map bc)),.p (.sl (a.lands.map lc)),.row 59 dr,.row 76 (P.map jb),.row 71 (T.map fun l=>[ints l]),.row 142 ((G++[bh.mk ps bs []]).map wR),.row 3 (aA ND),.row 3 (aA F5),.row 3 [],.row 174 []]) (by exact rfl) rfl rfl rfl)),?_⟩;exact⟨⟨y1,w2,w3,by simp only[acv,abS];omega,by simp only;omega⟩,by simp only;omega,⟨Z,Z,Z,Z,Z,Y⟩,⟨Z,Z,Z,Z,Z,Z,Z,Z,Z,Y⟩⟩
  rw[aaa (by omega)]at y1;refine⟨⟨by omega,by omega⟩,?_⟩;exact⟨(j+1,(ND,F5),G),_,au.refl _ _,⟨y1,w2,w3,by simp only;omega,by simp only;omega⟩,by simp only;omega,⟨Z,Z,Z,Z,Z,Y⟩,⟨Z,Z,Z,Z,Z,Z,Z,Z,Z,Y⟩⟩
 rw[ab1 (by omega)]at y1;have y1:((op,ob),G)=F:=y1;have SS:mG a.bores n F:=by rw[Yc,PM];exact Reg.vL q2 q3
 rw[<-y1]at SS;have lG:=ai G wR;have ll:=ai a.lands lc;have SU:=ha.lan;have Ja:∀g∈G,g.pins=[]:=fun g hg=>by
  obtain⟨k,hk⟩:=ab8.1 hg;exact (SS.c k g hk).1
 have hoG:((op,ob),G)=(o,G0):=y1.trans hFo;injection hoG with ho Vu;subst ho;subst Vu;refine aJ (fun x:Nat×qN=>(a.lands.drop x.1).foldl (uA a.bores P (op,ob)) x.2=R/\x.2.groups.length=G.length/\x.2.ofLand.length=x.1/\x.2.atLand.length=x.1/\x.1<=a.lands.length/\∀g∈x.2.groups,g.pins.length<=x.1) (fun x=>[(0,.bx 100000 0),(170,.p (.sl (a.lands.map lc))),(171,.p (i64 a.lands.length)),(172,.p (i64 x.1))]) (fun x=>[(100000,.box [.p (.sl (a.coppers.map rr)),.p (aj a.outline),.p (.sl (a.bores.map bc)),.p (.sl (a.lands.map lc)),.ow 90000,.ow 90001,.ow 90002,.ow 90003,.ow 90004,.ow 90005,.ow 90006,.ow 90007]),(90000,.row 59 dr),(90001,.row 76 (P.map jb)),(90002,.row 71 (T.map fun l=>[ints l])),(90003,.az 142 (x.2.groups.map gh)),(90004,.row 3 (aA op)),(90005,.row 3 (aA ob)),(90006,.row 3 (aA x.2.ofLand)),(90007,.row 174 (x.2.atLand.map je))]) (fun x=>a.lands.length-x.1) (0,⟨G,[],[]⟩) _ (au.Wg (by exact hC) _ 90003 (e:=142) (es:=G.map wR) (by exact rfl)) ⟨hR.symm,rfl,rfl,rfl,aaj _,fun g hg=>by rw[Ja g hg];exact aam _⟩ ⟨rfl,rfl,adV (fun m:Nat=>AV.p (i64 m)) ll,Z,Y⟩ ⟨rfl,rfl,rfl,rfl,adV (AB.az _) (NB Ja),Z,Z,Z,Z,Y⟩ fun ⟨i,s⟩ hx t h=>?_;obtain⟨v1,v2,v3,v4,v5,v6⟩:=hx;simp only at v1 v2 v3 v4 v5 v6;refine iW ?_ ?_<;>intro g3<;>try simp only[zB]at g3
 ·obtain⟨l,ZH⟩:=ak (l:=a.lands) (i:=i) (by omega);rw[drop_at ZH,aaq]at v1;refine⟨(lc l),(idx rfl ZH),?_⟩;obtain⟨hp,Vv⟩:∃hp,hp=il a.bores P l:=⟨_,rfl⟩;have Gp:=Dl a ha l dr (T.map fun l=>[ints l]) (s.groups.map sT) (aA s.ofLand) (s.atLand.map je) op ob P (by omega) Q9;rw[<-Vv]at Gp;refine⟨[.ip ((dX a)++[.sl dr,.sl (P.map jb),.sl (T.map fun l=>[ints l]),.sl (s.groups.map sT),ints op,ints ob,.sl (aA s.ofLand),.sl (s.atLand.map je)]),.ag (lc l)],_,.cons (.box 100000 0 _ ((dX a)++[.sl dr,.sl (P.map jb),.sl (T.map fun l=>[ints l]),.sl (s.groups.map sT),ints op,ints ob,.sl (aA s.ofLand),.sl (s.atLand.map je)]) (by exact rfl) (.cons (.p _) (.cons (.p _) (.cons (.p _) (.cons (.p _) (.cons (.row 90000 _ _ (by exact rfl)) (.cons (.row 90001 _ _ (by exact rfl)) (.cons (.row 90002 _ _ (by exact rfl)) (.cons (.az 90003 142 (s.groups.map gh) (s.groups.map sT) (by exact adV (AB.az _) (by simp only[qO])) (vM _)) (.cons (.row 90004 _ _ (by exact rfl)) (.cons (.row 90005 _ _ (by exact rfl)) (.cons (.row 90006 _ _ (by exact rfl)) (.cons (.row 90007 _ _ (by exact rfl)) .nil))))))))))))) (.cons (.one (.p _)) .nil),Gp,rfl,?_⟩;refine iW ?_ ?_<;>intro g4
  ·have Vw:mG a.bores P.length ((op,ob),G):=hn▸SS;obtain⟨m,k,e1,e2,e3⟩:=Reg.KQ Vw l (by rw[<-Vv];exact g4);rw[<-Vv]at e1 e2;have e3:k<G.length:=e3;obtain⟨gg,PG⟩:=ak (l:=s.groups) (i:=k) (by omega);have qg:=v6 gg (aad PG);have IM:uA a.bores P (op,ob) s l=⟨s.groups.set k (iN (l.part,l.pin) gg),s.ofLand++[(k:Int)],s.atLand++[hp.1]⟩:=by
    rw[uA];simp only[<-Vv];have g4:hp.2=true:=g4;rw[g4,aap rfl,aap rfl,e1,ad2,ad4 (l:=if hp.1.bore=true then ob else op),e2];simp only[acy,ad2,ad4,PG]
   rw[IM]at v1;have hgh:=uB a hp.1 dr (T.map fun l=>[ints l]) (s.groups.map sT) (aA s.ofLand) (s.atLand.map je) op ob P m e1 k e2;refine⟨[.ip ((dX a)++[.sl dr,.sl (P.map jb),.sl (T.map fun l=>[ints l]),.sl (s.groups.map sT),ints op,ints ob,.sl (aA s.ofLand),.sl (s.atLand.map je)]),.ag (je hp.1)],_,.cons (.box 100000 0 _ ((dX a)++[.sl dr,.sl (P.map jb),.sl (T.map fun l=>[ints l]),.sl (s.groups.map sT),ints op,ints ob,.sl (aA s.ofLand),.sl (s.atLand.map je)]) (by exact rfl) (.cons (.p _) (.cons (.p _) (.cons (.p _) (.cons (.p _) (.cons (.row 90000 _ _ (by exact rfl)) (.cons (.row 90001 _ _ (by exact rfl)) (.cons (.row 90002 _ _ (by exact rfl)) (.cons (.az 90003 142 (s.groups.map gh) (s.groups.map sT) (by exact adV (AB.az _) (by simp only[qO])) (vM _)) (.cons (.row 90004 _ _ (by exact rfl)) (.cons (.row 90005 _ _ (by exact rfl)) (.cons (.row 90006 _ _ (by exact rfl)) (.cons (.row 90007 _ _ (by exact rfl)) .nil))))))))))))) (.cons (.one (.p _)) .nil),hgh,rfl,?_⟩;refine qy (au.I9 (by exact hC) _ 90003 k 90200 (e:=142) (by decide) (by decide) (by exact adV (AB.az _) (by simp only[qO])) PG (by exact rfl) (by decide)) ?_;have Vx:(s.groups.map gh).length=s.groups.length:=aej _;have Vy:=ai gg.pins pc;have Vz:=bQ s.ofLand;have VA:=ai s.atLand je;refine⟨⟨by omega,by simp only[aej,aaM];omega⟩,?_⟩;have NF:((s.groups.map gh).set k [.av (.p (ints gg.pieces)),.av (.p (ints gg.bores)),.av (.ow 90200)])[k]?=some [.av (.p (ints gg.pieces)),.av (.p (ints gg.bores)),.av (.ow 90200)]:=ab7 (by rw[Vx];omega);refine⟨[.av (.p (ints gg.pieces)),.av (.p (ints gg.bores)),.av (.ow 90200)],(by rw[dC,dC,dC];exact NF;rfl;rfl;rfl),?_⟩;refine⟨_,_,(pw l),?_⟩;refine⟨⟨fun r hr=>by simp at hr;subst hr;rfl,by simp only[Vy,aaM,aan];omega,by simp only[Vy,aaM,aan];omega⟩,?_⟩;refine⟨⟨by omega,by simp only[aej,aaM];omega⟩,?_⟩;refine⟨[.av (.p (ints gg.pieces)),.av (.p (ints gg.bores)),.av (.ow 90200)],(by rw[dC,dC,dC];exact NF;rfl;rfl;rfl),?_⟩;refine⟨⟨fun r hr=>by simp at hr;subst hr;rfl,by simp only[Vz,aaM,aan];omega,by simp only[Vz,aaM,aan];omega⟩,?_⟩;refine⟨⟨fun r hr=>by simp at hr;subst hr;rfl,by simp only[VA,aaM,aan];omega,by simp only[VA,aaM,aan];omega⟩,?_⟩;refine⟨⟨by omega,by omega⟩,?_⟩;have SV:((s.groups.map gh).set k [.av (.p (ints gg.pieces)),.av (.p (ints gg.bores)),.av (.ow 202)]).set k (([.av (.p (ints gg.pieces)),.av (.p (ints gg.bores)),.av (.ow 202)]:List HX).set 2 (.row 205 ((gg.pins++[(l.part,l.pin)]).map pc)))=(s.groups.set k (iN (l.part,l.pin) gg)).map gh:=by
    rw[aeb,ad8];congr 1;show _=[.av (.p (ints gg.pieces)),.av (.p (ints gg.bores)),I8 (gg.pins++[(l.part,l.pin)])];rw[I_];rfl
   refine⟨(i+1,⟨s.groups.set k (iN (l.part,l.pin) gg),s.ofLand++[(k:Int)],s.atLand++[hp.1]⟩),_,(au.Bm (by exact hC) _ 90003 k 2 202 (e:=142) (es:=(s.groups.map gh).set k [.av (.p (ints gg.pieces)),.av (.p (ints gg.bores)),.av (.ow 202)]) (r:=[.av (.p (ints gg.pieces)),.av (.p (ints gg.bores)),.av (.ow 202)]) (e':=205) (xs:=(gg.pins++[(l.part,l.pin)]).map pc) (by decide) (by exact adV (AB.az _) (by rw[dC,dC,dC];simp only[ad2];rw[aeb];show List.map (fun r=>List.map (HX.cS (sc 220)) r) (List.map (fun r=>List.map (HX.cS (sc 219)) r) (List.map (fun r=>List.map (HX.cS (sc 213)) r) (List.map (fun r=>List.map (HX.cS (sc 212)) r) ((List.map gh s.groups).set k [.av (.p (ints gg.pieces)),.av (.p (ints gg.bores)),.av (.ow 202)]))))=_;rw[dC,dC,dC,dC];all_goals rfl)) (by exact adV (AB.row _) (by rw[abE];rfl)) (ab7 (by rw[Vx];omega)) (by exact rfl)).trans ((au.Cx _ 213 90006 (by decide) (by decide)).trans (au.Cx _ 220 90007 (by decide) (by decide))),?_⟩;exact⟨⟨v1,by simp only[aaM];exact v2,by simp only[acv,abS];omega,by simp only[acv,abS];omega,by simp only;omega,fun g hg=>by
    rcases abg hg with hg | hg
    ·have:=v6 g hg;simp only;omega
    subst hg;simp only[iN,acv,abS];omega⟩,by simp only;omega,⟨Z,Z,Z,Z,Y⟩,⟨rfl,rfl,rfl,rfl,adV (AB.az _) (by refine (adV (List.map _) (adV (List.map _) SV)).trans ?_;simp only[Fo]),rfl,rfl,adV (AB.row _) (gP _ _).symm,adV (AB.row _) (by rw[abE (f:=je)];rfl),trivial⟩⟩
  have g4:hp.2=false:=g4;have IM:uA a.bores P (op,ob) s l=⟨s.groups,s.ofLand++[-1],s.atLand++[hp.1]⟩:=by
   rw[uA];simp only[<-Vv,g4];rfl
  rw[IM]at v1;have Vz:=bQ s.ofLand;have VA:=ai s.atLand je;refine⟨⟨fun r hr=>by simp at hr;subst hr;rfl,by simp only[Vz,aaM,aan];omega,by simp only[Vz,aaM,aan];omega⟩,?_⟩;refine⟨⟨fun r hr=>by simp at hr;subst hr;rfl,by simp only[VA,aaM,aan];omega,by simp only[VA,aaM,aan];omega⟩,?_⟩;refine⟨⟨by omega,by omega⟩,?_⟩;refine⟨(i+1,⟨s.groups,s.ofLand++[-1],s.atLand++[hp.1]⟩),_,(au.Cx _ 213 90006 (by decide) (by decide)).trans (au.Cx _ 220 90007 (by decide) (by decide)),?_⟩;exact⟨⟨v1,v2,by simp only[acv,abS];omega,by simp only[acv,abS];omega,by simp only;omega,fun g hg=>by have:=v6 g hg;simp only;omega⟩,by simp only;omega,⟨Z,Z,Z,Z,Y⟩,⟨rfl,rfl,rfl,rfl,adV (AB.az _) (by show _=List.map gh s.groups;simp only[qO,Fo]),rfl,rfl,adV (AB.row _) (gP _ _).symm,adV (AB.row _) (by rw[abE (f:=je)];rfl),trivial⟩⟩
 rw[ab1 (by omega)]at v1;have v1:s=R:=v1;rw[<-v1];refine⟨_,au.ID (by exact hC) _ 90003 (s.groups.map sT) (e:=142) (by exact adV (AB.az _) (by simp only[qO,Fo])) (vM _),?_⟩;exact And.intro rfl (And.intro ⟨Z,Z,Z,Z,Z,Z,Z,Z,Z,Z,Z,Z,Z,Y⟩ trivial)
end M
namespace Reg
def eO(x y:aS):Bool:=(decide (x.lo<=y.hi)&&decide (y.lo<=x.hi))&&decide (fT (aa x) (aa y)=0)
def aeH(bs:List aS)(i:Nat):Bool:=(bs.take i).any (eO (bs.getD i I7))
def da(bs:List aS)(i:Nat):Bool:=(List.range' i (bs.length-i)).any (aeH bs)
variable {bs:List aS}
theorem HB{i:Nat}(h:i<bs.length):da bs i=(aeH bs i||da bs (i+1)):=by
 rw[da,show bs.length-i=(bs.length-(i+1))+1 by omega,List.range'_succ,abd];rfl
theorem KR{i:Nat}(h:bs.length<=i):da bs i=false:=by
 rw[da,show bs.length-i=0 by omega];rfl
def db:List (List ae)->Int
 | []=>0
 | r::l=>if aF r≠0 then aF r else db l
def sa(n:Int)(l:List (List ae)):Int:=l.foldl (fun n r=>n+r.length) n
theorem jo:∀{l:List (List ae)},db l=0->∀r∈l,aF r=0
 | [],_,r,h=>by cases h
 | q::l,h,r,hr=>by
  rw[db]at h;by_cases e:aF q=0
  ·rw[aaa (by simpa using e)]at h;rcases adq.1 hr with rfl | hr
   ·exact e
   exact jo h r hr
  rw[aap e]at h;exact absurd h e
structure BR where
 drilled:List (List an)
 pieces:List Piece
 bB:List (List Int)
 ofPiece:List Int
 ofBore:List Int
 placed:qN
def aC(a:fS):BR:=
 let P:=bG a.bores 0 a.coppers;let T:=bB a.bores P;let U:=jm P.length a.bores.length T;let F:=jn a.bores P.length (aP (cQ U) (P.length+a.bores.length))
 ⟨gO a.bores 0 a.coppers,P,T,F.1.1,F.1.2,a.lands.foldl (uA a.bores P F.1) ⟨F.2,[],[]⟩⟩
theorem mH:∀{l:List (List ae)} {k:Int} {p:Piece},p∈bG bs k l->∃(i:Nat) (r:List ae),l[i]?=some r/\p.layer=k+i/\p.set∈cV (bU bs (k+i) r)
 | [],k,p,h=>by cases h
 | r::l,k,p,h=>by
  rw[bG]at h;rcases abi.1 h with h | h
  ·obtain⟨s,hs,rfl⟩:=adS.1 h;exact⟨0,r,rfl,by simp,by simpa using hs⟩
  obtain⟨i,r',h1,h2,h3⟩:=mH h;have e:k+((i+1:Nat):Int)=k+1+(i:Int):=by omega
  exact⟨i+1,r',by simpa using h1,by rw[h2,e],by rw[e];exact h3⟩
theorem sU(b:aS):∀(ps:List Piece) (k:Nat),(fu b k ps).length<=ps.length
 | [],k=>aam _
 | q::ps,k=>by
  have:=sU b ps (k+1);rw[fu];split<;>simp only[aaB]<;>omega
end Reg
namespace M
open Go.AM Go.RowKit Go.Lib
open Reg (ae an aS fo fS Piece bh zx qN bE cv told aB bO aa fT eO aeH da db sa bT eG aC P4)
def kW(a:fS):List PV:=dX a++[.sl ((aC a).drilled.map fun s=>[aw s]),.sl ((aC a).pieces.map jb),.sl ((aC a).bB.map fun l=>[ints l]),.sl ((aC a).placed.groups.map sT),ints (aC a).ofPiece,ints (aC a).ofBore,ints (aC a).placed.ofLand,.sl ((aC a).placed.atLand.map je)]
def dc(a:fS):Int:=if a.coppers.length=0 then 9 else if 16<a.coppers.length then 2 else
 if db a.coppers≠0 then db a.coppers else
 if Reg.aF a.outline≠0 then Reg.aF a.outline else
 if 2000<sa a.outline.length a.coppers then 2 else
 if bT a≠0 then bT a else
 if c8 a≠0 then c8 a else
 if da a.bores 0=true then 12 else
 if eG a=true then 0 else 2
def Jb(a:fS):PV:=if dc a=0 then .ip (kW a) else .im (.pointer none)
theorem Fp(a:fS)(ho:ly a):af C 39 [.pv (.ag (dX a))] (.tu [Jb a,i64 (dc a)]) []:=by
 have lk:=ai a.coppers rr;have lk':(a.coppers.map fun r=>[aj r]).length=a.coppers.length:=lk;have lo:=ai a.outline rc;have lb:=ai a.bores bc;obtain⟨F,hF⟩:∃F,F=dc a:=⟨_,rfl⟩;have hV:Jb a=if F=0 then .ip (kW a) else .im (.pointer none):=by rw[hF];rfl
 rw[hV,<-hF];rw[dc]at hF;refine uX ⟨[36,40],[],[],[],[],[]⟩ hC Tryz.func39 rfl (by kernel_rfl) fun _=>?_;refine iW ?_ ?_<;>intro g1
 ·rw[aap (by omega)]at hF;refine⟨?_,trivial⟩;rw[hF];rfl
 rw[aaa (by omega)]at hF;refine iW ?_ ?_<;>intro g2
 ·rw[aap (by omega)]at hF;refine⟨?_,trivial⟩;rw[hF];rfl
 rw[aaa (by omega)]at hF;obtain⟨M,hM⟩:∃M,M=sa a.outline.length a.coppers:=⟨_,rfl⟩;rw[<-hM]at hF;have Yg:=ho.out;refine aJ (fun x:Nat×Int=>sa x.2 (a.coppers.drop x.1)=M/\db (a.coppers.drop x.1)=db a.coppers/\0<=x.2/\x.2<=1048576+1048576*x.1) (fun x=>[(1,.bx 1 0),(4,.p (i64 x.2)),(28,.p (.sl (a.coppers.map rr))),(29,.p (i64 a.coppers.length)),(30,.p (i64 x.1))]) (fun _=>[(1,.box [.p (.sl (a.coppers.map rr)),.p (aj a.outline),.p (.sl (a.bores.map bc)),.p (.sl (a.lands.map lc))])]) (fun x=>a.coppers.length-x.1) (0,a.outline.length) _ (au.refl _ _) ⟨hM.symm,rfl,by simp only;omega,by simp only;omega⟩ ⟨rfl,adV (fun m:Nat=>AV.p (i64 m)) lo,rfl,adV (fun m:Nat=>AV.p (i64 m)) lk,Z,Y⟩ ⟨Z,Y⟩ fun ⟨i,n⟩ hx t h=>?_;obtain⟨q1,q2,q3,q4⟩:=hx;simp only at q1 q2 q3 q4;refine iW ?_ ?_<;>intro g3<;>try simp only[zB]at g3
 ·obtain⟨r,hr⟩:=ak (l:=a.coppers) (i:=i) (by omega);have xj:=ho.rcs r (aad hr);have lr:=ai r rc;rw[drop_at hr]at q1 q2;rw[db]at q2;refine⟨(rr r),(idx rfl hr),?_⟩;refine⟨_,_,(jj r),?_⟩;refine iW ?_ ?_<;>intro g4
  ·have g4:Reg.aF r≠0:=by simpa using g4
   rw[aap g4]at q2;rw[<-q2,aap g4]at hF;refine⟨?_,trivial⟩;rw[hF,aaa g4]
  have g4:Reg.aF r=0:=by simpa using g4
  rw[aaa (by simpa using g4)]at q2;refine⟨⟨by omega,by omega⟩,?_⟩;refine⟨⟨by omega,by omega⟩,?_⟩;exact⟨(i+1,n+r.length),_,au.refl _ _,⟨q1,q2,by simp only;omega,by simp only;omega⟩,by simp only;omega,⟨rfl,adV (fun m:Nat=>AV.p (i64 (n+m))) lr,Z,Z,Z,Y⟩,⟨Z,Y⟩⟩
 rw[ab1 (by omega)]at q1 q2;have q1:n=M:=q1;have q2:db a.coppers=0:=q2.symm;rw[aaa (by simpa using q2)]at hF;refine⟨_,_,(jj a.outline),?_⟩;refine iW ?_ ?_<;>intro g4
 ·have g4:Reg.aF a.outline≠0:=by simpa using g4
  rw[aap g4]at hF;refine⟨?_,trivial⟩;rw[hF,aaa g4]
 have g4:Reg.aF a.outline=0:=by simpa using g4
 rw[aaa (by simpa using g4)]at hF;refine iW ?_ ?_<;>intro g5<;>try simp only[zB]at g5
 ·rw[aap (by omega)]at hF;refine⟨?_,trivial⟩;rw[hF];rfl
 rw[aaa (by omega)]at hF;refine⟨_,_,(uu a (by omega)),?_⟩;refine iW ?_ ?_<;>intro g6
 ·have g6:bT a≠0:=by simpa using g6
  rw[aap g6]at hF;refine⟨?_,trivial⟩;rw[hF,aaa g6]
 have g6:bT a=0:=by simpa using g6
 rw[aaa (by simpa using g6)]at hF;refine⟨_,_,(uv a ho),?_⟩;refine iW ?_ ?_<;>intro g7
 ·have g7:c8 a≠0:=by simpa using g7
  rw[aap g7]at hF;refine⟨?_,trivial⟩;rw[hF,aaa g7]
 have g7:c8 a=0:=by simpa using g7
 rw[aaa (by simpa using g7)]at hF;have zA:a.bores.length<=500:=by
  unfold Reg.bT at g6;split at g6
  ·cases g6
  omega
 have T4:Reg.c_ a.coppers.length a.bores=0:=by rwa [Reg.bT,aaa (by omega)]at g6
 have Sq:=Reg.sM T4;have VB:∀b∈a.bores,bO b=true/\P4 1000000000 (aa b):=fun b hb=>by
  have h1:=ky (Sq b hb);obtain⟨a1,a2,a3,a4⟩:=Reg.Q8 (Reg.bX h1) (Reg.er h1);exact⟨h1,⟨by omega,by omega⟩,⟨by omega,by omega⟩,⟨by omega,by omega⟩,⟨by omega,by omega⟩⟩
 refine aJ (fun i:Nat=>da a.bores i=da a.bores 0) (fun i=>[(1,.bx 1 0),(63,.p (.sl (a.bores.map bc))),(64,.p (i64 a.bores.length)),(65,.p (i64 i))]) (fun _=>[(1,.box [.p (.sl (a.coppers.map rr)),.p (aj a.outline),.p (.sl (a.bores.map bc)),.p (.sl (a.lands.map lc))])]) (fun i=>a.bores.length-i) 0 _ (au.refl _ _) rfl ⟨rfl,rfl,adV (fun m:Nat=>AV.p (i64 m)) lb,Z,Y⟩ ⟨Z,Y⟩ fun i hi t h=>?_;refine iW ?_ ?_<;>intro g8
 ·obtain⟨x,hx⟩:=ak (l:=a.bores) (i:=i) (by omega);obtain⟨x1,x2⟩:=VB x (aad hx);rw[Reg.HB (by omega)]at hi;have az:aeH a.bores i=(a.bores.take i).any (eO x):=by rw[aeH,ad4,hx];rfl
  rw[az]at hi;refine⟨(bc x),(idx rfl hx),?_⟩;refine⟨⟨by decide,by omega,by omega,fun r hr=>by obtain⟨b,_,rfl⟩:=adS.1 hr;rfl⟩,?_⟩;have VC:((a.bores.take i).map bc).length=i:=by rw[aej,aat];omega
  have abu:(a.bores.take i).length=i:=by rw[aat];omega
  refine aJ (fun j:Nat=>((a.bores.take i).drop j).any (eO x)=(a.bores.take i).any (eO x)) (fun j=>[(1,.bx 1 0),(63,.p (.sl (a.bores.map bc))),(64,.p (i64 a.bores.length)),(65,.p (i64 i)),(12,.bx 12 0),(73,.p (.sl ((a.bores.take i).map bc))),(74,.p (i64 i)),(75,.p (i64 j))]) (fun _=>[(1,.box [.p (.sl (a.coppers.map rr)),.p (aj a.outline),.p (.sl (a.bores.map bc)),.p (.sl (a.lands.map lc))]),(12,.box [.p (i64 x.x),.p (i64 x.y),.p (i64 x.size),.p (i64 x.lo),.p (i64 x.hi),.p (bool x.plated)])]) (fun j=>i-j) 0 _ (au.refl _ _) rfl ⟨rfl,rfl,rfl,rfl,rfl,adV (fun l=>AV.p (PV.sl l)) (by simp[aco]),adV (fun m:Nat=>AV.p (i64 m)) (by simp;omega),Z,Y⟩ ⟨Z,Z,Y⟩ fun j hj t h=>?_;refine iW ?_ ?_<;>intro g9
  ·obtain⟨y,hy⟩:=ak (l:=a.bores.take i) (i:=j) (by omega);obtain⟨y1,y2⟩:=VB y (acM (aad hy));rw[drop_at hy,abd]at hj;have yes:eO x y=true->F=12:=fun hc=>by
    rw[hc,abn]at hj;rw[<-hj,abn]at hi;rw[<-hi,aap rfl]at hF;exact hF
   have no:eO x y=false->((a.bores.take i).drop (j+1)).any (eO x)=(a.bores.take i).any (eO x):=fun hc=>by
    rw[hc,abv]at hj;exact hj
   refine⟨(bc y),(idx rfl hy),?_⟩;refine iW ?_ ?_<;>intro h1
   ·refine iW ?_ ?_<;>intro h2
    ·refine⟨_,_,(cF x x1),?_⟩;refine⟨_,_,(cF y y1),?_⟩;refine⟨_,_,(BM (aa x) (aa y) x2 y2),?_⟩;refine iW ?_ ?_<;>intro h3
     ·have hy:=yes (by simp only[eO,aaZ,aaH];exact⟨⟨h1,h2⟩,h3⟩);refine⟨?_,trivial⟩;rw[hy];rfl
     have hn:=no (by simp only[eO];rw[aaz h3,aav]);refine⟨⟨by omega,by omega⟩,?_⟩;exact⟨(j+1),_,au.refl _ _,hn,by omega,⟨Z,Z,Z,Z,Z,Z,Z,Z,Y⟩,⟨Z,Z,Y⟩⟩
    have hn:=no (by simp only[eO];rw[aaz h2,aav,adJ]);refine⟨⟨by omega,by omega⟩,?_⟩;exact⟨(j+1),_,au.refl _ _,hn,by omega,⟨Z,Z,Z,Z,Z,Z,Z,Z,Y⟩,⟨Z,Z,Y⟩⟩
   have hn:=no (by simp only[eO];rw[aaz h1,adJ,adJ]);refine⟨⟨by omega,by omega⟩,?_⟩;exact⟨(j+1),_,au.refl _ _,hn,by omega,⟨Z,Z,Z,Z,Z,Z,Z,Z,Y⟩,⟨Z,Z,Y⟩⟩
  rw[ab1 (by omega)]at hj;have hj:false=(a.bores.take i).any (eO x):=hj;rw[<-hj,abv]at hi;refine⟨⟨by omega,by omega⟩,?_⟩;exact⟨(i+1),_,au.refl _ _,hi,by omega,⟨Z,Z,Z,Z,Y⟩,⟨Z,Y⟩⟩
 rw[Reg.KR (by omega)]at hi;rw[<-hi,aaa (by decide)]at hF;refine qy ((au.pX (by exact hC) _ 103 4 [.p (.sl (a.coppers.map rr)),.p (aj a.outline),.p (.sl (a.bores.map bc)),.p (.sl (a.lands.map lc)),.p (.im (.slice none 0 0)),.p (.im (.slice none 0 0)),.p (.im (.slice none 0 0)),.p (.im (.slice none 0 0)),.p (.im (.slice none 0 0)),.p (.im (.slice none 0 0)),.p (.im (.slice none 0 0)),.p (.im (.slice none 0 0))] (by exact rfl) (by exact rfl)).trans ((au.aeK (by exact hC) _ 103 4 90000 59 _ [.p (.sl (a.coppers.map rr)),.p (aj a.outline),.p (.sl (a.bores.map bc)),.p (.sl (a.lands.map lc)),.nl,.p (.im (.slice none 0 0)),.p (.im (.slice none 0 0)),.p (.im (.slice none 0 0)),.p (.im (.slice none 0 0)),.p (.im (.slice none 0 0)),.p (.im (.slice none 0 0)),.p (.im (.slice none 0 0))] (by decide) (by decide) (by exact rfl) (by exact rfl) (by exact rfl) (by decide)).trans ((au.pX (by exact hC) _ 103 5 [.p (.sl (a.coppers.map rr)),.p (aj a.outline),.p (.sl (a.bores.map bc)),.p (.sl (a.lands.map lc)),.ow 90000,.p (.im (.slice none 0 0)),.p (.im (.slice none 0 0)),.p (.im (.slice none 0 0)),.p (.im (.slice none 0 0)),.p (.im (.slice none 0 0)),.p (.im (.slice none 0 0)),.p (.im (.slice none 0 0))] (by exact rfl) (by exact rfl)).trans ((au.aeK (by exact hC) _ 103 5 90001 76 _ [.p (.sl (a.coppers.map rr)),.p (aj a.outline),.p (.sl (a.bores.map bc)),.p (.sl (a.lands.map lc)),.ow 90000,.nl,.p (.im (.slice none 0 0)),.p (.im (.slice none 0 0)),.p (.im (.slice none 0 0)),.p (.im (.slice none 0 0)),.p (.im (.slice none 0 0)),.p (.im (.slice none 0 0))] (by decide) (by decide) (by exact rfl) (by exact rfl) (by exact rfl) (by decide)).trans ((au.pX (by exact hC) _ 103 6 [.p (.sl (a.coppers.map rr)),.p (aj a.outline),.p (.sl (a.bores.map bc)),.p (.sl (a.lands.map lc)),.ow 90000,.ow 90001,.p (.im (.slice none 0 0)),.p (.im (.slice none 0 0)),.p (.im (.slice none 0 0)),.p (.im (.slice none 0 0)),.p (.im (.slice none 0 0)),.p (.im (.slice none 0 0))] (by exact rfl) (by exact rfl)).trans ((au.aeK (by exact hC) _ 103 6 90002 71 _ [.p (.sl (a.coppers.map rr)),.p (aj a.outline),.p (.sl (a.bores.map bc)),.p (.sl (a.lands.map lc)),.ow 90000,.ow 90001,.nl,.p (.im (.slice none 0 0)),.p (.im (.slice none 0 0)),.p (.im (.slice none 0 0)),.p (.im (.slice none 0 0)),.p (.im (.slice none 0 0))] (by decide) (by decide) (by exact rfl) (by exact rfl) (by exact rfl) (by decide)).trans ((au.pX (by exact hC) _ 103 7 [.p (.sl (a.coppers.map rr)),.p (aj a.outline),.p (.sl (a.bores.map bc)),.p (.sl (a.lands.map lc)),.ow 90000,.ow 90001,.ow 90002,.p (.im (.slice none 0 0)),.p (.im (.slice none 0 0)),.p (.im (.slice none 0 0)),.p (.im (.slice none 0 0)),.p (.im (.slice none 0 0))] (by exact rfl) (by exact rfl)).trans ((au.aeK (by exact hC) _ 103 7 90003 142 _ [.p (.sl (a.coppers.map rr)),.p (aj a.outline),.p (.sl (a.bores.map bc)),.p (.sl (a.lands.map lc)),.ow 90000,.ow 90001,.ow 90002,.nl,.p (.im (.slice none 0 0)),.p (.im (.slice none 0 0)),.p (.im (.slice none 0 0)),.p (.im (.slice none 0 0))] (by decide) (by decide) (by exact rfl) (by exact rfl) (by exact rfl) (by decide)).trans ((au.pX (by exact hC) _ 103 8 [.p (.sl (a.coppers.map rr)),.p (aj a.outline),.p (.sl (a.bores.map bc)),.p (.sl (a.lands.map lc)),.ow 90000,.ow 90001,.ow 90002,.ow 90003,.p (.im (.slice none 0 0)),.p (.im (.slice none 0 0)),.p (.im (.slice none 0 0)),.p (.im (.slice none 0 0))] (by exact rfl) (by exact rfl)).trans ((au.aeK (by exact hC) _ 103 8 90004 3 _ [.p (.sl (a.coppers.map rr)),.p (aj a.outline),.p (.sl (a.bores.map bc)),.p (.sl (a.lands.map lc)),.ow 90000,.ow 90001,.ow 90002,.ow 90003,.nl,.p (.im (.slice none 0 0)),.p (.im (.slice none 0 0)),.p (.im (.slice none 0 0))] (by decide) (by decide) (by exact rfl) (by exact rfl) (by exact rfl) (by decide)).trans ((au.pX (by exact hC) _ 103 9 [.p (.sl (a.coppers.map rr)),.p (aj a.outline),.p (.sl (a.bores.map bc)),.p (.sl (a.lands.map lc)),.ow 90000,.ow 90001,.ow 90002,.ow 90003,.ow 90004,.p (.im (.slice none 0 0)),.p (.im (.slice none 0 0)),.p (.im (.slice none 0 0))] (by exact rfl) (by exact rfl)).trans ((au.aeK (by exact hC) _ 103 9 90005 3 _ [.p (.sl (a.coppers.map rr)),.p (aj a.outline),.p (.sl (a.bores.map bc)),.p (.sl (a.lands.map lc)),.ow 90000,.ow 90001,.ow 90002,.ow 90003,.ow 90004,.nl,.p (.im (.slice none 0 0)),.p (.im (.slice none 0 0))] (by decide) (by decide) (by exact rfl) (by exact rfl) (by exact rfl) (by decide)).trans ((au.pX (by exact hC) _ 103 10 [.p (.sl (a.coppers.map rr)),.p (aj a.outline),.p (.sl (a.bores.map bc)),.p (.sl (a.lands.map lc)),.ow 90000,.ow 90001,.ow 90002,.ow 90003,.ow 90004,.ow 90005,.p (.im (.slice none 0 0)),.p (.im (.slice none 0 0))] (by exact rfl) (by exact rfl)).trans ((au.aeK (by exact hC) _ 103 10 90006 3 _ [.p (.sl (a.coppers.map rr)),.p (aj a.outline),.p (.sl (a.bores.map bc)),.p (.sl (a.lands.map lc)),.ow 90000,.ow 90001,.ow 90002,.ow 90003,.ow 90004,.ow 90005,.nl,.p (.im (.slice none 0 0))] (by decide) (by decide) (by exact rfl) (by exact rfl) (by exact rfl) (by decide)).trans ((au.pX (by exact hC) _ 103 11 [.p (.sl (a.coppers.map rr)),.p (aj a.outline),.p (.sl (a.bores.map bc)),.p (.sl (a.lands.map lc)),.ow 90000,.ow 90001,.ow 90002,.ow 90003,.ow 90004,.ow 90005,.ow 90006,.p (.im (.slice none 0 0))] (by exact rfl) (by exact rfl)).trans ((au.aeK (by exact hC) _ 103 11 90007 174 _ [.p (.sl (a.coppers.map rr)),.p (aj a.outline),.p (.sl (a.bores.map bc)),.p (.sl (a.lands.map lc)),.ow 90000,.ow 90001,.ow 90002,.ow 90003,.ow 90004,.ow 90005,.ow 90006,.nl] (by decide) (by decide) (by exact rfl) (by exact rfl) (by exact rfl) (by decide)).trans (au.pack (by exact hC) _ 103 (bs:=[.p (.sl (a.coppers.map rr)),.p (aj a.outline),.p (.sl (a.bores.map bc)),.p (.sl (a.lands.map lc)),.ow 90000,.ow 90001,.ow 90002,.ow 90003,.ow 90004,.ow 90005,.ow 90006,.ow 90007]) (cs:=[.p (.sl (a.coppers.map rr)),.p (aj a.outline),.p (.sl (a.bores.map bc)),.p (.sl (a.lands.map lc)),.row 59 [],.row 76 [],.row 71 [],.row 142 [],.row 3 [],.row 3 [],.row 3 [],.row 174 []]) (by exact rfl) (by exact rfl) (by exact⟨Z,Z,Z,Z,Z,Z,Z,Z,Z,Z,Z,Z,Y⟩)))))))))))))))))) ?_;have ha:iD a:=by
  refine⟨⟨by omega,by omega⟩,Reg.jo q2,g4,zA,Sq,?_⟩;unfold c8 at g7;split at g7
  ·cases g7
  omega
 refine⟨_,_,(Dj a ha),?_⟩;refine iW ?_ ?_<;>intro g9
 ·rw[aaa (by simpa using g9)]at hF;refine⟨?_,trivial⟩;rw[hF];rfl
 rw[aap (by simpa using g9)]at hF;have g9:eG a=true:=by simpa using g9
 simp only[eG,aaZ,aaH]at g9;have Q9:∀p∈Reg.bG a.bores 0 a.coppers,(told p.set).length<=4398046511104:=fun p hp=>by
  obtain⟨i,r,h1,h2,h3⟩:=Reg.mH hp;have dr:=jV (fun b hb=>ky (Sq b hb)) zA (0+(i:Int)) (Reg.jo q2 r (aad h1));obtain⟨p1,_,_,p3⟩:=Reg.rD dr.sok h3;exact Reg.fj p1 ((p3 _ dr.ink).up (by omega))
 have Yh:=zE a ha ((Reg.gO a.bores 0 a.coppers).map fun s=>[aw s]) (Reg.bG a.bores 0 a.coppers) (Reg.bB a.bores (Reg.bG a.bores 0 a.coppers)) (by omega) Q9 (aej _) _ rfl _ _ rfl _ rfl (fun x hx p hp=>by
  obtain⟨b,_,rfl⟩:=adS.1 hx;have:=Reg.rE b _ 0 p hp;omega) (fun x hx=>by
  obtain⟨b,_,rfl⟩:=adS.1 hx;have:=Reg.sU b (Reg.bG a.bores 0 a.coppers) 0;omega)
 refine⟨_,_,(Dk a ha _ _ (by omega) Q9),?_⟩;refine⟨_,_,Yh,?_⟩;refine qy ((au.open (by exact hC) _ 103 [90000,90001,90002,90003,90004,90005,90006,90007] (cs:=[.p (.sl (a.coppers.map rr)),.p (aj a.outline),.p (.sl (a.bores.map bc)),.p (.sl (a.lands.map lc)),.row 59 ((aC a).drilled.map fun s=>[aw s]),.row 76 ((aC a).pieces.map jb),.row 71 ((aC a).bB.map fun l=>[ints l]),.row 142 ((aC a).placed.groups.map sT),.row 3 (aA (aC a).ofPiece),.row 3 (aA (aC a).ofBore),.row 3 (aA (aC a).placed.ofLand),.row 174 ((aC a).placed.atLand.map je)]) (by exact rfl) rfl rfl rfl).trans ((au.fB (by exact hC) _ 103 4 90000 59 ((aC a).drilled.map fun s=>[aw s]) [.p (.sl (a.coppers.map rr)),.p (aj a.outline),.p (.sl (a.bores.map bc)),.p (.sl (a.lands.map lc)),.ow 90000,.ow 90001,.ow 90002,.ow 90003,.ow 90004,.ow 90005,.ow 90006,.ow 90007] (by decide) (by exact rfl) (by exact rfl) (by exact rfl)).trans ((au.fB (by exact hC) _ 103 5 90001 76 ((aC a).pieces.map jb) [.p (.sl (a.coppers.map rr)),.p (aj a.outline),.p (.sl (a.bores.map bc)),.p (.sl (a.lands.map lc)),.p (.sl ((aC a).drilled.map fun s=>[aw s])),.ow 90001,.ow 90002,.ow 90003,.ow 90004,.ow 90005,.ow 90006,.ow 90007] (by decide) (by exact rfl) (by exact rfl) (by exact rfl)).trans ((au.fB (by exact hC) _ 103 6 90002 71 ((aC a).bB.map fun l=>[ints l]) [.p (.sl (a.coppers.map rr)),.p (aj a.outline),.p (.sl (a.bores.map bc)),.p (.sl (a.lands.map lc)),.p (.sl ((aC a).drilled.map fun s=>[aw s])),.p (.sl ((aC a).pieces.map jb)),.ow 90002,.ow 90003,.ow 90004,.ow 90005,.ow 90006,.ow 90007] (by decide) (by exact rfl) (by exact rfl) (by exact rfl)).trans ((au.fB (by exact hC) _ 103 7 90003 142 ((aC a).placed.groups.map sT) [.p (.sl (a.coppers.map rr)),.p (aj a.outline),.p (.sl (a.bores.map bc)),.p (.sl (a.lands.map lc)),.p (.sl ((aC a).drilled.map fun s=>[aw s])),.p (.sl ((aC a).pieces.map jb)),.p (.sl ((aC a).bB.map fun l=>[ints l])),.ow 90003,.ow 90004,.ow 90005,.ow 90006,.ow 90007] (by decide) (by exact rfl) (by exact rfl) (by exact rfl)).trans ((au.fB (by exact hC) _ 103 8 90004 3 (aA (aC a).ofPiece) [.p (.sl (a.coppers.map rr)),.p (aj a.outline),.p (.sl (a.bores.map bc)),.p (.sl (a.lands.map lc)),.p (.sl ((aC a).drilled.map fun s=>[aw s])),.p (.sl ((aC a).pieces.map jb)),.p (.sl ((aC a).bB.map fun l=>[ints l])),.p (.sl ((aC a).placed.groups.map sT)),.ow 90004,.ow 90005,.ow 90006,.ow 90007] (by decide) (by exact rfl) (by exact rfl) (by exact rfl)).trans ((au.fB (by exact hC) _ 103 9 90005 3 (aA (aC a).ofBore) [.p (.sl (a.coppers.map rr)),.p (aj a.outline),.p (.sl (a.bores.map bc)),.p (.sl (a.lands.map lc)),.p (.sl ((aC a).drilled.map fun s=>[aw s])),.p (.sl ((aC a).pieces.map jb)),.p (.sl ((aC a).bB.map fun l=>[ints l])),.p (.sl ((aC a).placed.groups.map sT)),.p (.sl (aA (aC a).ofPiece)),.ow 90005,.ow 90006,.ow 90007] (by decide) (by exact rfl) (by exact rfl) (by exact rfl)).trans ((au.fB (by exact hC) _ 103 10 90006 3 (aA (aC a).placed.ofLand) [.p (.sl (a.coppers.map rr)),.p (aj a.outline),.p (.sl (a.bores.map bc)),.p (.sl (a.lands.map lc)),.p (.sl ((aC a).drilled.map fun s=>[aw s])),.p (.sl ((aC a).pieces.map jb)),.p (.sl ((aC a).bB.map fun l=>[ints l])),.p (.sl ((aC a).placed.groups.map sT)),.p (.sl (aA (aC a).ofPiece)),.p (.sl (aA (aC a).ofBore)),.ow 90006,.ow 90007] (by decide) (by exact rfl) (by exact rfl) (by exact rfl)).trans (au.fB (by exact hC) _ 103 11 90007 174 ((aC a).placed.atLand.map je) [.p (.sl (a.coppers.map rr)),.p (aj a.outline),.p (.sl (a.bores.map bc)),.p (.sl (a.lands.map lc)),.p (.sl ((aC a).drilled.map fun s=>[aw s])),.p (.sl ((aC a).pieces.map jb)),.p (.sl ((aC a).bB.map fun l=>[ints l])),.p (.sl ((aC a).placed.groups.map sT)),.p (.sl (aA (aC a).ofPiece)),.p (.sl (aA (aC a).ofBore)),.p (.sl (aA (aC a).placed.ofLand)),.ow 90007] (by decide) (by exact rfl) (by exact rfl) (by exact rfl)))))))))) ?_;exact And.intro (by rw[hF,aap rfl];rfl) trivial
def jq:List an->Int×Int
 | []=>(0,0)
 | b::_=>((b.xs.headD (0,0)).1,b.y0)
def gn(h:Int->Bool):Nat->Int->Int->Int
 | 0,low,_=>low
 | n+1,low,high=>if low<high then (if h (low+(high-low+1).tdiv 2)=true then gn h n (low+(high-low+1).tdiv 2) high else gn h n low (low+(high-low+1).tdiv 2-1)) else low
def dL(h:Int->Bool)(cx:Int):Int:=gn h (cx+1).toNat (-1) cx
theorem pA{d:Int}(h:0<d):0<(d+1).tdiv 2/\(d+1).tdiv 2<=d:=by
 rw[abk (by omega)];omega
theorem nB(h:Int->Bool){n:Nat}{low high:Int}(hl:low<high)(hn:(high-low).toNat<=n):
  gn h n low high=if h (low+(high-low+1).tdiv 2)=true then gn h (n-1) (low+(high-low+1).tdiv 2) high else gn h (n-1) low (low+(high-low+1).tdiv 2-1):=by
 obtain⟨m,rfl⟩:∃m,n=m+1:=⟨n-1,by omega⟩;rw[gn,aap hl];rfl
theorem pB(h:Int->Bool){n:Nat}{low high:Int}(hl:¬low<high):gn h n low high=low:=by
 cases n with
 | zero=>rfl
 | succ n=>rw[gn,aaa hl]
theorem pC(h:Int->Bool):∀(n:Nat) (low high:Int),(high-low).toNat<=n->low<=high ->
  low<=gn h n low high/\gn h n low high<=high/\(gn h n low high=low\/h (gn h n low high)=true)/\(gn h n low high=high\/h (gn h n low high+1)=false)
 | 0,low,high,hn,hl=>by
  have:low=high:=by omega
  subst this;exact⟨acP _,acP _,.inl rfl,.inl rfl⟩
 | n+1,low,high,hn,hl=>by
  by_cases g:low<high
  ·obtain⟨m,hm⟩:∃m,m=low+(high-low+1).tdiv 2:=⟨_,rfl⟩;have hf:=pA (d:=high-low) (by omega);rw[nB h g hn,<-hm,Nat.add_sub_cancel];by_cases k:h m=true
   ·rw[aap k];obtain⟨a1,a2,a3,a4⟩:=pC h n m high (by omega) (by omega);refine⟨by omega,a2,?_,a4⟩;rcases a3 with e | e
    ·exact .inr (by rw[e];exact k)
    exact .inr e
   rw[aaa k];obtain⟨a1,a2,a3,a4⟩:=pC h n low (m-1) (by omega) (by omega);refine⟨a1,by omega,a3,?_⟩;rcases a4 with e | e
   ·refine .inr ?_;rw[e,Int.sub_add_cancel];simpa using k
   exact .inr e
  rw[pB h g];have:low=high:=by omega
  exact⟨acP _,hl,.inl rfl,.inl this⟩
theorem HD{h:Int->Bool}{cx:Int}(h0:0<=cx)(hn:h cx=false):-1<=dL h cx/\dL h cx<cx/\(dL h cx=-1\/h (dL h cx)=true)/\h (dL h cx+1)=false:=by
 obtain⟨a1,a2,a3,a4⟩:=pC h (cx+1).toNat (-1) cx (by omega) (by omega);have a1:-1<=dL h cx:=a1;have a2:dL h cx<=cx:=a2;have a3:dL h cx=-1\/h (dL h cx)=true:=a3;have a4:dL h cx=cx\/h (dL h cx+1)=false:=a4;have ne:dL h cx≠cx:=fun e=>by
  rcases a3 with e' | e'
  ·omega
  rw[e,hn]at e';cases e'
 refine⟨a1,by omega,a3,?_⟩;rcases a4 with e | e
 ·exact absurd e ne
 exact e
open Reg (BR through bN uo nM a_ coreS at')
structure Break where
 kind:Int
 a:Int
 b:Int
 is:Int
 need:Int
 spot:Int×Int
def qP(x:aS):List an:=uo (a_ (aB [aa x]) 1 1 0 0) (a_ (aB [aa x]) 0 0 1 1)
def dM(bs:List aS)(i:Nat)(layer:Int):Nat->List aS->List an->List an
 | _,[],s=>s
 | k,y::t,s=>dM bs i layer (k+1) t (if k≠i/\through y layer=true then uo s (aB [aa y]) else s)
def fF(bs:List aS)(cs:List (List ae))(i:Nat)(layer:Int):List an:=dM bs i layer 0 bs (aB (cs.getD layer.toNat []))
def jr(own c:List an)(n:Int):List an:=bN (bN (a_ own n n n n) own) c
def lS(g:Int)(bs:List aS)(cs:List (List ae))(i:Nat)(x:aS)(layer:Int):List Break:=
 if nM (aB (cs.getD layer.toNat [])) (qP x)=[] then [] else
 if jr (aB [aa x]) (fF bs cs i layer) g=[] then [] else
  [⟨3,i,layer,dL (fun n=>decide (n<0)||decide (jr (aB [aa x]) (fF bs cs i layer) n=[])) g,g,jq (jr (aB [aa x]) (fF bs cs i layer) g)⟩]
def js(g:Int)(bs:List aS)(cs:List (List ae))(i:Nat)(x:aS):Nat->Int->List Break
 | 0,_=>[]
 | n+1,layer=>if x.plated=true/\layer<=x.hi then lS g bs cs i x layer++js g bs cs i x n (layer+1) else []
def fG(g:Int)(bs:List aS)(cs:List (List ae)):Nat->List aS->List Break
 | _,[]=>[]
 | i,x::t=>js g bs cs i x (x.hi+1-x.lo).toNat x.lo++fG g bs cs (i+1) t
def Dm(g:Int)(o:List an)(i:Nat)(p:Piece):List Break:=
 if bN p.set (coreS o g g g g)=[] then [] else
  [⟨4,i,0,dL (fun n=>decide (bN p.set (coreS o n n n n)=[])) g,g,jq (bN p.set (coreS o g g g g))⟩]
def gQ(g:Int)(o:List an):Nat->List Piece->List Break
 | _,[]=>[]
 | i,p::t=>Dm g o i p++gQ g o (i+1) t
def Dn(g:Int)(i k:Nat)(x y:aS):List Break:=
 if y.hi<x.lo\/x.hi<y.lo then [] else
 if fT (aa x) (aa y)-1<g then [⟨5,i,k,fT (aa x) (aa y)-1,g,((aa x).x0,(aa x).y0)⟩] else []
def nC(g:Int)(i:Nat)(x:aS):Nat->List aS->List Break
 | _,[]=>[]
 | k,y::t=>Dn g i k x y++nC g i x (k+1) t
def fY(g:Int):Nat->List aS->List Break
 | _,[]=>[]
 | i,x::t=>nC g i x (i+1) t++fY g (i+1) t
def mI(l:List Break):List Break×Int:=if 5000<l.length then ([],2) else (l,0)
end M
namespace Reg
theorem nD{y:Int}:∀{s:List an},bE s->∀{b c:an},b∈s->c∈s->b.y0<=y->y<b.y1->c.y0<=y->y<c.y1->b=c
 | [],_,b,c,hb,_,_,_,_,_=>by cases hb
 | d::s,h,b,c,hb,hc,b1,b2,c1,c2=>by
  rcases adq.1 hb with eb | hb'
  ·rcases adq.1 hc with ec | hc'
   ·rw[eb,ec]
   have:=h.fM c hc';subst eb;omega
  rcases adq.1 hc with ec | hc'
  ·have:=h.fM b hb';subst ec;omega
  exact nD h.tail hb' hc' b1 b2 c1 c2
theorem wS{x:Int}:∀{s:aU},Canon s->∀{p q:Int×Int},p∈s->q∈s->p.1<=x->x<p.2->q.1<=x->x<q.2->p=q
 | [],_,p,q,hp,_,_,_,_,_=>by cases hp
 | d::s,h,p,q,hp,hq,p1,p2,q1,q2=>by
  rcases adq.1 hp with ep | hp'
  ·rcases adq.1 hq with eq | hq'
   ·rw[ep,eq]
   have:=h.behind q hq';subst ep;omega
  rcases adq.1 hq with eq | hq'
  ·have:=h.behind p hp';subst eq;omega
  exact wS h.tail hp' hq' p1 p2 q1 q2
variable {s:List an}
theorem HE(h:bE s){x y:Int}{a b:ae}(ha:a∈told s)(hb:b∈told s)(ka:dE x y a=true)(kb:dE x y b=true):a=b:=by
 obtain⟨c,hc,p,hp,rfl⟩:=gf.1 ha;obtain⟨d,hd,q,hq,rfl⟩:=gf.1 hb;obtain⟨a1,a2,a3,a4⟩:=aQ.1 ka;obtain⟨b1,b2,b3,b4⟩:=aQ.1 kb;have e:=nD h hc hd a3 a4 b3 b4;subst e;have e:=wS (h.mem c hc).can hp hq a1 a2 b1 b2;subst e;rfl
theorem HF(h:bE s):(told s).Nodup:=by
 rw[aec];refine (pk h).imp fun {a b} qb e=>?_;have:=gN.1 qb;subst e;omega
theorem vN(h:bE s){l:List ae}(hl:∀r∈l,r∈told s):(told (aB l)).length<=l.length:=by
 obtain⟨b1,b2,_⟩:=aR fun r hr=>bP h r (hl r hr);have hn:((told (aB l)).map fun q=>(q.y0,q.x0)).Nodup:=by
  rw[aec,abp];refine (pk b1).imp fun {a b} qb e=>?_;have:=gN.1 qb;simp only[Prod.mk.injEq]at e;omega
 have:=uy (m:=l.map fun q=>(q.y0,q.x0)) hn fun z hz=>by
  obtain⟨q,hq,rfl⟩:=adS.1 hz;obtain⟨b,hb,p,hp,rfl⟩:=gf.1 hq;have hB:=b1.mem b hb;have h1:at' (aB l) p.1 b.y0=true:=by
   rw[Dh b1 hb (acP _) hB.lt,cu hB.can];exact⟨p,hp,acP _,ga hB.can p hp⟩
  rw[b2,aci]at h1;obtain⟨r,hr,hx⟩:=h1;have Yi:=hl r hr;obtain⟨c,hc,t,ht,rfl⟩:=gf.1 Yi;obtain⟨x1,x2,x3,x4⟩:=aQ.1 hx;simp only at x1 x2 x3 x4;have e1:t.1=p.1:=by
   refine acz fun b8=>?_;have:at' (aB l) (p.1-1) b.y0=true:=by
    rw[b2,aci];exact⟨_,hr,aQ.2 ⟨by simp only;omega,by simp only;omega,x3,x4⟩⟩
   rw[Dh b1 hb (acP _) hB.lt,cu hB.can]at this;exact sS hB.can hp this
  have e2:c.y0=b.y0:=by
   refine acz fun b8=>?_;obtain⟨x,Yj⟩:=BN b1 hb;refine Yj ?_;rw[b2,b2];refine oy fun r' m_=>?_;obtain⟨d,hd,u,hu,rfl⟩:=gf.1 (hl r' m_);rw[abb,aQ,aQ];simp only;constructor
   ·rintro⟨a1,a2,a3,a4⟩;have:=nD h hd hc a3 a4 (by omega) (by omega);subst this;exact⟨a1,a2,by omega,by omega⟩
   rintro⟨a1,a2,a3,a4⟩;have:=nD h hd hc a3 a4 (by omega) (by omega);subst this;exact⟨a1,a2,by omega,by omega⟩
  exact adS.2 ⟨_,hr,by simp only[e1,e2]⟩
 rw[aej,aej]at this;exact this
theorem Fq{l:List ae}{m:Nat}(h:m<l.length):l[m]?=some (l.getD m bg):=by
 rw[ad4,acg h];rfl
theorem zF(p:Nat->Nat)(i r:Nat):(dh p i r).Nodup:=aea ac1 List.nodup_range
theorem BT{α:Type}:∀{l:List α},l.Nodup->∀{a b:Nat} {x:α},l[a]?=some x->l[b]?=some x->a=b
 | [],_,a,b,x,ha,_=>by simp at ha
 | y::l,h,a,b,x,ha,hb=>by
  have h':=aai.1 h;cases a with
  | zero=>
   cases b with
   | zero=>rfl
   | succ b=>
    have e:=Option.some.inj ha;exact absurd (by rw[e];exact aad (by simpa using hb)) h'.1
  | succ a=>
   cases b with
   | zero=>
    have e:=Option.some.inj hb;exact absurd (by rw[e];exact aad (by simpa using ha)) h'.1
   | succ b=>rw[BT h'.2 (a:=a) (b:=b) (by simpa using ha) (by simpa using hb)]
theorem KS(h:bE s){a b:Nat}{l m:List ae}(ha:(ox s)[a]?=some l)(hb:(ox s)[b]?=some m)(b8:a≠b):
  l.length+m.length<=(told s).length/\∀r∈l,∀q∈m,∀x y,¬(dE x y r=true/\dE x y q=true):=by
 obtain⟨u1,u2⟩:=zv s;rw[ox,aak,aP,aak]at ha hb;cases ea:(cd (cQ (jE s)) (told s).length)[a]? with
 | none=>rw[ea]at ha;cases ha
 | some ka=>
  cases eb:(cd (cQ (jE s)) (told s).length)[b]? with
  | none=>rw[eb]at hb;cases hb
  | some kb=>
   rw[ea]at ha;rw[eb]at hb;have ha:=(Option.some.inj ha).symm;have hb:=(Option.some.inj hb).symm;have hk:ka≠kb:=fun e=>by
    subst e;exact b8 (zn (afh _ _) ea eb)
   have hd:(dh (cQ (jE s)) (told s).length ka++dh (cQ (jE s)) (told s).length kb).Nodup:=by
    rw[aee];refine⟨zF _ _ _,zF _ _ _,fun i hi j hj e=>?_⟩;subst e;exact hk ((dx.1 hi).2.symm.trans (dx.1 hj).2)
   have:=uy (m:=List.range (told s).length) hd fun i hi=>by
    rw[abD];rcases abi.1 hi with hi | hi
    ·exact (dx.1 hi).1
    exact (dx.1 hi).1
   rw[acv,adM]at this;refine⟨by rw[ha,hb,aej,aej];exact this,fun r hr q hq x y Oy=>?_⟩;rw[ha]at hr;rw[hb]at hq;obtain⟨i,hi,rfl⟩:=adS.1 hr;obtain⟨j,hj,rfl⟩:=adS.1 hq;obtain⟨i1,i2⟩:=dx.1 hi;obtain⟨j1,j2⟩:=dx.1 hj;have e:=HE h (vK i1) (vK j1) Oy.1 Oy.2;have xB:=Fq i1;have Lw:=Fq j1;rw[e]at xB;have:=BT (HF h) xB Lw;subst this;exact hk (i2.symm.trans j2)
theorem NG{a:Nat}{l:List ae}(ha:(ox s)[a]?=some l):l.length<=(told s).length:=by
 rw[ox,aak,aP,aak]at ha;cases ea:(cd (cQ (jE s)) (told s).length)[a]? with
 | none=>rw[ea]at ha;cases ha
 | some ka=>
  rw[ea]at ha;have ha:=(Option.some.inj ha).symm;rw[ha,aej];exact qJ _ _ _
variable {bs:List aS}
theorem HG{p q:Piece}(he:p.layer=q.layer)(l:List (List ae)):∀(k:Int) (i j:Nat),(bG bs k l)[i]?=some p->(bG bs k l)[j]?=some q->i<j ->
  ∃(n:Nat) (r:List ae) (a b:Nat),l[n]?=some r/\a<b/\(cV (bU bs (k+n) r))[a]?=some p.set/\(cV (bU bs (k+n) r))[b]?=some q.set:=by
 induction l with
 | nil=>intro k i j hp;rw[bG]at hp;cases hp
 | cons r l ih=>
  intro k i j hp hq DX;rw[bG]at hp hq;obtain⟨S,hS⟩:∃S,S=cV (bU bs k r):=⟨_,rfl⟩;rw[<-hS]at hp hq;by_cases c:j<S.length
  ·rw[aaE (by rw[aej];omega),aak]at hp hq;cases ep:S[i]? with
   | none=>rw[ep]at hp;cases hp
   | some s=>
    cases eq:S[j]? with
    | none=>rw[eq]at hq;cases hq
    | some t=>
     rw[ep]at hp;rw[eq]at hq;have hp:=Option.some.inj hp;have hq:=Option.some.inj hq;have z:k+((0:Nat):Int)=k:=by omega
     refine⟨0,r,i,j,rfl,DX,?_,?_⟩
     ·rw[z,<-hS,ep,<-hp]
     rw[z,<-hS,eq,<-hq]
  rw[acu (by rw[aej];omega)]at hq;obtain⟨n,r',h1,h2,_⟩:=mH (aad hq);by_cases d:i<S.length
  ·rw[aaE (by rw[aej];omega),aak]at hp;cases ep:S[i]? with
   | none=>rw[ep]at hp;cases hp
   | some s=>
    rw[ep]at hp;have hp:=Option.some.inj hp;rw[<-hp]at he;simp only at he;omega
  rw[acu (by rw[aej];omega)]at hp;obtain⟨n,r',a,b,h1,h2,h3,h4⟩:=ih (k+1) _ _ hp hq (by rw[aej];omega);have e:k+((n+1:Nat):Int)=k+1+(n:Int):=by omega
  exact⟨n+1,r',a,b,by simpa using h1,h2,by rw[e];exact h3,by rw[e];exact h4⟩
theorem xR:∀{l:List (List ae)} {k:Int},qL bs k l=true->∀(n:Nat) r,l[n]?=some r->(told (bU bs (k+n) r)).length<=2000
 | [],k,_,n,r,h=>by simp at h
 | q::l,k,hf,n,r,h=>by
  rw[qL,aaZ,aaH]at hf;cases n with
  | zero=>
   have:=Option.some.inj h;subst this;simpa using hf.1
  | succ n=>
   have:=xR hf.2 n r (by simpa using h);have e:k+((n+1:Nat):Int)=k+1+(n:Int):=by omega
   rw[e];exact this
structure O7(p q:Piece):Prop where
 jB:(told p.set).length+(told q.set).length<=2000
 apart:∀x y,¬(at' p.set x y=true/\at' q.set x y=true)
theorem PR{l:List (List ae)}{k:Int}{i j:Nat}{p q:Piece}(hs:∀(n:Nat) r,l[n]?=some r->bE (bU bs (k+n) r))(hf:qL bs k l=true)(hp:(bG bs k l)[i]?=some p)(hq:(bG bs k l)[j]?=some q)(DX:i<j)(he:p.layer=q.layer):O7 p q:=by
 obtain⟨n,r,a,b,h1,h2,h3,h4⟩:=HG he _ _ _ _ hp hq DX;have h0:=hs n r h1;have zA:=xR hf n r h1;rw[cV,aak]at h3 h4;cases ea:(ox (bU bs (k+n) r))[a]? with
 | none=>rw[ea]at h3;cases h3
 | some x=>
  cases eb:(ox (bU bs (k+n) r))[b]? with
  | none=>rw[eb]at h4;cases h4
  | some y=>
   rw[ea]at h3;rw[eb]at h4;have h3:=Option.some.inj h3;have h4:=Option.some.inj h4;obtain⟨c1,c2⟩:=KS h0 ea eb (by omega);have mx:=(afp (aad ea)).2;have my:=(afp (aad eb)).2;have sx:=vN h0 mx;have sy:=vN h0 my;obtain⟨_,bx,_⟩:=aR fun r hr=>bP h0 r (mx r hr);obtain⟨_,by',_⟩:=aR fun r hr=>bP h0 r (my r hr);refine⟨by rw[<-h3,<-h4];omega,fun u v ZI=>?_⟩;rw[<-h3,<-h4,bx,by',aci,aci]at ZI;obtain⟨⟨r1,m1,e1⟩,r2,m2,e2⟩:=ZI;exact c2 r1 m1 r2 m2 u v ⟨e1,e2⟩
end Reg
namespace M
open Reg (ae an aS fS Piece BR bE cv told aB bO aa through fT aC bN uo nM a_ coreS at' jn aP cQ jm bB bG mG)
theorem Fs{a:fS}(h:dc a=0):iD a/\Reg.eG a=true/\Reg.da a.bores 0=false:=by
 unfold dc at h;split at h
 ·cases h
 rename_i g1;split at h
 ·cases h
 rename_i g2;split at h
 ·rename_i g;exact absurd h g
 rename_i g3;have g3:Reg.db a.coppers=0:=by simpa using g3
 split at h
 ·rename_i g;exact absurd h g
 rename_i g4;have g4:Reg.aF a.outline=0:=by simpa using g4
 split at h
 ·cases h
 split at h
 ·rename_i g;exact absurd h g
 rename_i g6;have g6:Reg.bT a=0:=by simpa using g6
 split at h
 ·rename_i g;exact absurd h g
 rename_i g7;have g7:c8 a=0:=by simpa using g7
 split at h
 ·cases h
 rename_i g8;split at h
 ·rename_i g9;have zA:a.bores.length<=500:=by
   unfold Reg.bT at g6;split at g6
   ·cases g6
   omega
  have T4:Reg.c_ a.coppers.length a.bores=0:=by rwa [Reg.bT,aaa (by omega)]at g6
  refine⟨⟨⟨by omega,by omega⟩,Reg.jo g3,g4,zA,Reg.sM T4,?_⟩,g9,by simpa using g8⟩;unfold c8 at g7;split at g7
  ·cases g7
  omega
 cases h
structure VD(a:fS)(p:Piece):Prop where
 sok:bE p.set
 ink:cv 1000000 p.set
 ne:p.set≠[]
 jB:(told p.set).length<=2000
 lo:0<=p.layer
 hi:p.layer<a.coppers.length
structure Ft(a:fS):Prop where
 art:iD a
 jB:(aC a).pieces.length<=2000
 pc:∀p∈(aC a).pieces,VD a p
 two:∀(i j:Nat) p q,(aC a).pieces[i]?=some p->(aC a).pieces[j]?=some q->i<j->p.layer=q.layer->Reg.O7 p q
 gr:mG a.bores (aC a).pieces.length (((aC a).ofPiece,(aC a).ofBore),(jn a.bores (aC a).pieces.length (aP (cQ (jm (aC a).pieces.length a.bores.length (aC a).bB)) ((aC a).pieces.length+a.bores.length))).2)
theorem jv{a:fS}(ha:iD a):∀b∈a.bores,bO b=true:=fun b hb=>ky (ha.bor b hb)
theorem jW{a:fS}(h:dc a=0):Ft a:=by
 obtain⟨ha,hd,_⟩:=Fs h;have hs:∀(n:Nat) r,a.coppers[n]?=some r->SO (Reg.bU a.bores (0+n) r):=fun n r hr=>jV (jv ha) ha.jB _ (ha.reg r (aad hr));rw[Reg.eG,aaZ,aaH]at hd;refine⟨ha,hd.2,fun p hp=>?_,fun i j p q hp hq DX he=>Reg.PR (fun n r hr=>(hs n r hr).sok) hd.1 hp hq DX he,?_⟩
 ·obtain⟨n,r,h1,h2,h3⟩:=Reg.mH hp;have hn:=(aao.1 h1).1;obtain⟨c1,c2,_,c4⟩:=Reg.rD (hs n r h1).sok h3;refine⟨c1,c4 _ (hs n r h1).ink,c2,?_,by omega,by omega⟩;have zA:=Reg.xR hd.1 n r h1;obtain⟨l,hl,e⟩:=adS.1 h3;have Wa:=(Reg.afp hl).2;have s1:=Reg.vN (hs n r h1).sok Wa;obtain⟨k,hk⟩:=List.getElem?_of_mem hl;have s2:=Reg.NG hk;rw[<-e];omega
 have ht:∀x∈bB a.bores (bG a.bores 0 a.coppers),∀p∈x,0<=p/\p<((bG a.bores 0 a.coppers).length:Int):=fun x hx p hp=>by
  obtain⟨b,_,rfl⟩:=adS.1 hx;have:=Reg.rE b (bG a.bores 0 a.coppers) 0 p hp;omega
 have hl:(bB a.bores (bG a.bores 0 a.coppers)).length=a.bores.length:=by rw[Reg.bB,aej]
 obtain⟨u1,u2⟩:=Reg.qM (n:=(bG a.bores 0 a.coppers).length) (nb:=a.bores.length) (bB a.bores (bG a.bores 0 a.coppers)) 0 (Reg.iota ((bG a.bores 0 a.coppers).length+a.bores.length)) (Reg.ny _) (Reg.aeM _) (by omega) ht;exact Reg.vL u1 u2
def kU(a b:Break):Prop:=a.kind=b.kind/\a.a=b.a/\a.b=b.b/\a.is=b.is
def Has(l m:List Break):Prop:=∀b∈l,∃c∈m,kU b c
theorem Has.nil(m:List Break):Has [] m:=fun b hb=>by cases hb
theorem KT{own c:List an}(ho:bE own)(hc:bE c){n:Int}(h0:0<=n):bE (jr own c n)/\∀x y,at' (jr own c n) x y=((at' (a_ own n n n n) x y&&!at' own x y)&&!at' c x y):=by
 obtain⟨s1,_,_⟩:=Reg.bW ho h0 h0 h0 h0;obtain⟨l1,l2,_⟩:=Reg.b6 s1 ho;obtain⟨m1,m2,_⟩:=Reg.b6 l1 hc;exact⟨m1,fun x y=>by rw[jr,m2,l2]⟩
theorem Jc{bs:List aS}{i:Nat}{layer:Int}:∀(t:List aS) (k:Nat) (s:List an),(∀b∈t,bO b=true)->bE s->cv 2000000 s->bE (dM bs i layer k t s)/\cv 2000000 (dM bs i layer k t s)
 | [],k,s,_,h,hk=>⟨h,hk⟩
 | y::t,k,s,hb,h,hk=>by
  rw[dM];refine Jc t (k+1) _ (fun b h=>hb b (aaw _ h)) ?_ ?_
  ·split
   ·exact (Reg.kH h (Reg.aR (l:=[aa y]) (fun q hq=>by rw[ab_]at hq;subst hq;exact Reg.bX (hb y adU))).1).1
   exact h
  split
  ·have Ox:=Reg.aR (l:=[aa y]) (fun q hq=>by rw[ab_]at hq;subst hq;exact Reg.bX (hb y adU));refine (Reg.kH h Ox.1).2.2 2000000 hk (Ox.2.2 2000000 fun q hq=>?_);rw[ab_]at hq;subst hq;obtain⟨a1,a2,a3,a4⟩:=Reg.er (hb y adU);exact⟨by omega,by omega,by omega,by omega⟩
  exact hk
theorem gz{b:aS}(h:bO b=true):bE (aB [aa b])/\cv 1010000 (aB [aa b]):=by
 have Ox:=Reg.aR (l:=[aa b]) (fun q hq=>by rw[ab_]at hq;subst hq;exact Reg.bX h);refine⟨Ox.1,Ox.2.2 _ fun q hq=>?_⟩;rw[ab_]at hq;subst hq;exact Reg.er h
theorem xS{l:List ae}(h:Reg.aF l=0):bE (aB l)/\cv 1000000 (aB l):=by
 have h:=ph h;have hb:=Reg.aR h.full;exact⟨hb.1,hb.2.2 _ h.rk⟩
theorem HH{a:fS}(ha:iD a)(i:Nat)(layer:Int):bE (fF a.bores a.coppers i layer)/\cv 2000000 (fF a.bores a.coppers i layer):=by
 refine Jc _ _ _ (jv ha) ?_ ?_
 ·rw[ad4];cases e:a.coppers[layer.toNat]? with
  | none=>exact (Reg.aR (l:=[]) fun q hq=>by cases hq).1
  | some r=>exact (xS (ha.reg r (aad e))).1
 rw[ad4];cases e:a.coppers[layer.toNat]? with
 | none=>exact (Reg.aR (l:=[]) fun q hq=>by cases hq).2.2 _ (fun q hq=>by cases hq)
 | some r=>
  exact Reg.cv.up (by omega) (xS (ha.reg r (aad e))).2
end M
end Go.Proofs.YtfloceomobknoaaGreatDoor
namespace Go.AM
theorem au.SX{A:cD}(hC:bI A.C)(s:AS)(id j:Nat)(f:FuncId)(cap:List PV)(cs:List AV)(hb:s.h id=.box cs)(hn:cs[j]?=some (.fn f (cap.map .p))):au A s ⟨s.t,aT s.h id (.box (cs.set j (.p (.fn f cap))))⟩:=by
 intro S rho a w sim;refine⟨S,rho,sim.write hC id trivial (by rw[hb];trivial) _ (fun _ h=>by cases h) w rfl rfl rfl rfl (fun _ _=>rfl) fun T=>?_⟩;have hh:=sim.hp id trivial;rw[hb]at hh;obtain⟨g,ty,c,k1,k2,k3,k4⟩:=hh;refine⟨g,ty,c,k1,k2,by rw[k3,aaM],fun q x u hi hu=>?_⟩;by_cases ei:q=j
 ·subst ei;rw[ab7 (aD hn)]at hi;injection hi with hi;subst hi;obtain⟨k5,k6⟩:=k4 q _ u hn hu;refine⟨k5,?_⟩;have k7:aO S w (.fn f cap) u:=by
   cases k6 with
   | fn _ _ vs hl hc=>
    refine .fn f cap vs (by rw[<-hl,aej]) fun i x v hx hv=>?_;have:=hc i (.p x) v (by rw[aak,hx];rfl) hv;cases this with
    | p _ _ h=>exact h
  exact (aY.p _ _ k7).cK T
 rw[ac5 (fun e=>ei e.symm)]at hi;obtain⟨k5,k6⟩:=k4 q x u hi hu;exact⟨k5,k6.cK T⟩
theorem eL.ZJ{S S':Nat->Prop}{w:World}{P:Program}:∀{xs:List PV} {vs:List Value},eL S w P (xs.map .pv) [] vs->eL S' w P (xs.map .pv) [] vs
 | [],[],h=>h
 | [],_::_,h=>h
 | _::_,[],h=>h
 | _::xs,_::vs,h=>eL.ZJ (xs:=xs) (vs:=vs) h
theorem af.jA{C:Ctx}{f:FuncId}{xs:List PV}{e:TypeId}{es:List (List PV)}(h:af C f (xs.map .pv) (.own e es) []):af C f (xs.map .pv) (.p (.sl es)) []:=by
 refine⟨h.1,fun S w vs hE hS hl ha hd=>(h.2 S w vs hE hS hl ha hd).mono ?_⟩;rintro e' w' ⟨v,S',rfl,fr,s1,s2,s3,hr,hf,ho,hg⟩;have m_:aG C.P w' (aO S' w') e es v:=hr.1;refine⟨v,fun b=>S' b\/cC v=some b,rfl,fr,fun b hb=>.inl (s1 b hb),fun b hb=>?_,fun b hb=>?_,m_.DT (fun b h=>.inl h) (fun g h=>.inr h),eL.ZJ hf,ho,fun g hn=>by cases hn⟩
 ·rcases hb with hb | hb
  ·exact s2 b hb
  exact (hg b rfl (DM hb)).1
 rcases hb with hb | hb
 ·exact s3 b hb
 exact .inr (hg b rfl (DM hb)).2.1
end Go.AM
namespace Go.Proofs.YtfloceomobknoaaGreatDoor
namespace M
open Go.AM Go.RowKit Go.Lib
open Reg (ae an aS fS Piece BR bE cv told aB bO aa through aC bN uo nM a_ coreS)
theorem zG{l:List ae}(h:Nf l):af C 34 [.pv (aj l)] (.p (aw (aB l))) []:=af.jA (xs:=[aj l]) (BB h)
theorem zH{b:aS}(h:bO b=true):af C 34 [.pv (aj [aa b])] (.p (aw (aB [aa b]))) []:=af.jA (xs:=[aj [aa b]]) (kG [aa b] 1010000 (by omega) (by omega) (fun q hq=>by rw[ab_]at hq;subst hq;exact Reg.bX h) (fun q hq=>by rw[ab_]at hq;subst hq;exact Reg.er h) (by simp))
theorem len_nil{s:List an}:decide (((s.map hb).length:Int)=0)=decide (s=[]):=by
 cases s with
 | nil=>rfl
 | cons b s=>simp;omega
theorem PS(p:Piece)(o:List an)(hs:bE p.set)(ks:cv 1000000 p.set)(ho:bE o)(ko:cv 1000000 o)(n:Int)(h0:0<=n)(h1:n<=100000):af C 134 [.pv (i64 n),.pv (.ip (jb p)),.pv (.ip [aw o])] (.p (bool (decide (bN p.set (coreS o n n n n)=[])))) []:=by
 have co:=Reg.pe ho h0 h0 h0 h0;have ck:=Dd co.1 ho ko fun x y hx=>(co.2.1 x y).1 hx x y (by omega) (by omega) (by omega) (by omega);refine fW hC Tryz.func134 rfl (by kernel_rfl) fun _=>?_;refine⟨_,_,(zt o ho ko n h0 h1),?_⟩;refine⟨_,_,(Nh p.set (coreS o n n n n) hs co.1 (ks.up (by omega)) (ck.up (by omega))),?_⟩;refine⟨?_,trivial⟩;rfl
theorem Jd(own c:List an)(ho:bE own)(ko:cv 1010000 own)(hc:bE c)(kc:cv 2000000 c)(n:Int)(h0:0<=n)(h1:n<=100000):af C 125 [.pv (i64 n),.pv (.ip [aw own]),.pv (.ip [aw c])] (.p (aw (jr own c n))) []:=by
 obtain⟨s1,_,s3⟩:=Reg.bW ho h0 h0 h0 h0;have s3:=s3 1010000 100000 ko h1 h1 h1 h1;obtain⟨l1,_,_⟩:=Reg.b6 s1 ho;have l3:=I1 s1 ho s3;refine fW hC Tryz.func125 rfl (by kernel_rfl) fun _=>?_;refine⟨_,_,(Hk own ho (ko.up (by omega)) n h0 h1),?_⟩;refine⟨_,_,(iJ (a_ own n n n n) own s1 ho (s3.up (by omega)) (ko.up (by omega))),?_⟩;refine⟨_,_,(iJ (bN (a_ own n n n n) own) c l1 hc (l3.up (by omega)) kc),?_⟩;refine⟨?_,trivial⟩;rfl
def vO(own c:List an):PV:=.fn 125 [.ip [aw own],.ip [aw c]]
theorem PT(own c:List an)(ho:bE own)(ko:cv 1010000 own)(hc:bE c)(kc:cv 2000000 c)(n:Int)(h0:0<=n)(h1:n<=100000):af C 128 [.pv (i64 n),.pv (.ip [vO own c])] (.p (bool (decide (n<0)||decide (jr own c n=[])))) []:=by
 refine fW hC Tryz.func128 rfl (by kernel_rfl) fun _=>?_;refine iW ?_ ?_<;>intro g
 ·omega
 refine⟨_,_,(Jd own c ho ko hc kc n h0 h1),?_⟩;refine⟨?_,trivial⟩;rw[len_nil,aaz g,abv];rfl
theorem Fu(p:Piece)(o:List an)(hs:bE p.set)(ks:cv 1000000 p.set)(ho:bE o)(ko:cv 1000000 o)(cx:Int)(h0:0<=cx)(h1:cx<=100000):af C 127 [.pv (i64 cx),.pv (.fn 134 [.ip (jb p),.ip [aw o]])] (.p (i64 (dL (fun n=>decide (bN p.set (coreS o n n n n)=[])) cx))) []:=by
 refine fW hC Tryz.func127 rfl (by kernel_rfl) fun _=>?_;obtain⟨H,hH⟩:∃H:Int->Bool,H=fun n=>decide (bN p.set (coreS o n n n n)=[]):=⟨_,rfl⟩;rw[<-hH];have hc:∀n,0<=n->n<=100000->af C 134 [.pv (i64 n),.pv (.ip (jb p)),.pv (.ip [aw o])] (.p (bool (H n))) []:=fun n a b=>by rw[hH];exact PS p o hs ks ho ko n a b
 refine aJ (fun x:Nat×Int×Int=>gn H x.1 x.2.1 x.2.2=dL H cx/\(x.2.2-x.2.1).toNat<=x.1/\-1<=x.2.1/\x.2.1<=x.2.2/\x.2.2<=cx) (fun x=>[(1,.p (.fn 134 [.ip (jb p),.ip [aw o]])),(5,.p (i64 x.2.1)),(6,.p (i64 x.2.2))]) (fun _=>[]) (fun x=>x.1) ((cx+1).toNat,-1,cx) _ (au.refl _ _) ⟨rfl,by simp only;omega,by simp only;omega,by simp only;omega,by simp only;omega⟩ ⟨Z,Z,Z,Y⟩ trivial fun ⟨n,low,high⟩ hx t h=>?_;obtain⟨x1,x2,x3,x4,x5⟩:=hx;simp only at x1 x2 x3 x4 x5;refine iW ?_ ?_<;>intro g<;>try simp only[zB]at g
 ·have hf:=pA (d:=high-low) (by omega);rw[nB H g x2]at x1;refine⟨⟨by dsimp only;omega,by dsimp only;omega⟩,?_⟩;refine⟨⟨by dsimp only;omega,by dsimp only;omega⟩,?_⟩;refine⟨by decide,?_⟩;refine⟨⟨by dsimp only;omega,by dsimp only;omega⟩,?_⟩;refine⟨⟨by dsimp only;omega,by dsimp only;omega⟩,?_⟩;refine⟨_,_,(hc (low+(high-low+1).tdiv 2) (by omega) (by omega)),?_⟩;refine iW ?_ ?_<;>intro k
  ·rw[aap k]at x1;exact⟨(n-1,low+(high-low+1).tdiv 2,high),_,au.refl _ _,⟨x1,by simp only;omega,by simp only;omega,by simp only;omega,by simp only;omega⟩,by simp only;omega,⟨Z,Z,Z,Y⟩,trivial⟩
  rw[aaa (by simpa using k)]at x1;refine⟨⟨by dsimp only;omega,by dsimp only;omega⟩,?_⟩;exact⟨(n-1,low,low+(high-low+1).tdiv 2-1),_,au.refl _ _,⟨x1,by simp only;omega,by simp only;omega,by simp only;omega,by simp only;omega⟩,by simp only;omega,⟨Z,Z,Z,Y⟩,trivial⟩
 rw[pB H g]at x1;refine⟨?_,trivial⟩;rw[x1]
theorem Fv(own c:List an)(ho:bE own)(ko:cv 1010000 own)(hc:bE c)(kc:cv 2000000 c)(cx:Int)(h0:0<=cx)(h1:cx<=100000):af C 127 [.pv (i64 cx),.pv (.fn 128 [.ip [vO own c]])] (.p (i64 (dL (fun n=>decide (n<0)||decide (jr own c n=[])) cx))) []:=by
 refine fW hC Tryz.func127 rfl (by kernel_rfl) fun _=>?_;obtain⟨H,hH⟩:∃H:Int->Bool,H=fun n=>decide (n<0)||decide (jr own c n=[]):=⟨_,rfl⟩;rw[<-hH];have je:∀n,0<=n->n<=100000->af C 128 [.pv (i64 n),.pv (.ip [vO own c])] (.p (bool (H n))) []:=fun n a b=>by rw[hH];exact PT own c ho ko hc kc n a b
 refine aJ (fun x:Nat×Int×Int=>gn H x.1 x.2.1 x.2.2=dL H cx/\(x.2.2-x.2.1).toNat<=x.1/\-1<=x.2.1/\x.2.1<=x.2.2/\x.2.2<=cx) (fun x=>[(1,.p (.fn 128 [.ip [vO own c]])),(5,.p (i64 x.2.1)),(6,.p (i64 x.2.2))]) (fun _=>[]) (fun x=>x.1) ((cx+1).toNat,-1,cx) _ (au.refl _ _) ⟨rfl,by simp only;omega,by simp only;omega,by simp only;omega,by simp only;omega⟩ ⟨Z,Z,Z,Y⟩ trivial fun ⟨n,low,high⟩ hx t h=>?_;obtain⟨x1,x2,x3,x4,x5⟩:=hx;simp only at x1 x2 x3 x4 x5;refine iW ?_ ?_<;>intro g<;>try simp only[zB]at g
 ·have hf:=pA (d:=high-low) (by omega);rw[nB H g x2]at x1;refine⟨⟨by dsimp only;omega,by dsimp only;omega⟩,?_⟩;refine⟨⟨by dsimp only;omega,by dsimp only;omega⟩,?_⟩;refine⟨by decide,?_⟩;refine⟨⟨by dsimp only;omega,by dsimp only;omega⟩,?_⟩;refine⟨⟨by dsimp only;omega,by dsimp only;omega⟩,?_⟩;refine⟨_,_,(je (low+(high-low+1).tdiv 2) (by omega) (by omega)),?_⟩;refine iW ?_ ?_<;>intro k
  ·rw[aap k]at x1;exact⟨(n-1,low+(high-low+1).tdiv 2,high),_,au.refl _ _,⟨x1,by simp only;omega,by simp only;omega,by simp only;omega,by simp only;omega⟩,by simp only;omega,⟨Z,Z,Z,Y⟩,trivial⟩
  rw[aaa (by simpa using k)]at x1;refine⟨⟨by dsimp only;omega,by dsimp only;omega⟩,?_⟩;exact⟨(n-1,low,low+(high-low+1).tdiv 2-1),_,au.refl _ _,⟨x1,by simp only;omega,by simp only;omega,by simp only;omega,by simp only;omega⟩,by simp only;omega,⟨Z,Z,Z,Y⟩,trivial⟩
 rw[pB H g]at x1;refine⟨?_,trivial⟩;rw[x1]
end M
end Go.Proofs.YtfloceomobknoaaGreatDoor
