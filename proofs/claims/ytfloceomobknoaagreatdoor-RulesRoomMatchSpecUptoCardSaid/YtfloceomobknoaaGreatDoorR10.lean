/- Part 10 of the proof of RulesRoomMatchSpec. -/
import Derived.Test.YtfloceomobknoaaGreatDoorR09
set_option linter.unusedVariables false
set_option linter.unusedSimpArgs false
set_option maxRecDepth 100000
set_option maxHeartbeats 8000000
namespace Go
abbrev adM:=@Int.toNat_of_nonneg
abbrev aef:=@List.map_replicate
abbrev abV:=@List.nodup_append
abbrev adN:=@List.length_range
abbrev aeg:=@List.mem_of_find?_eq_some
end Go
namespace Go.Proofs.YtfloceomobknoaaGreatDoor
namespace M
open Go.AM Go.RowKit Go.Lib
open Reg (ae an aS fo fS Piece bh zx UF iota gj r_ uz jm bE cv told aB bO aa through jF AT jn mG qN uA iN il)
def sT(g:bh):List PV:=[ints g.pieces,ints g.bores,.sl (g.pins.map pc)]
def wR(g:bh):List PV:=[ints g.pieces,ints g.bores,.im (.slice none 0 0)]
def I8(p:List (ByteArray×ByteArray)):HX:=if p=[] then .av .nl else .row 205 (p.map pc)
def gh(g:bh):List HX:=[.av (.p (ints g.pieces)),.av (.p (ints g.bores)),I8 g.pins]
theorem PQ(f:AV->AV)(z:f .nl=.nl)(p:List (ByteArray×ByteArray)):HX.cS f (I8 p)=I8 p:=by
 unfold I8;split
 ·simp only[HX.cS,z]
 rfl
theorem NA(f:AV->AV)(hp:∀x,f (.p x)=.p x)(z:f .nl=.nl)(G:List bh):(G.map gh).map (fun r=>r.map (HX.cS f))=G.map gh:=by
 rw[abd];refine aaG fun g _=>?_;show [HX.cS f _,HX.cS f _,HX.cS f (I8 g.pins)]=_;rw[PQ f z];simp only[HX.cS,hp];rfl
theorem qO(d:Nat)(G:List bh):(G.map gh).map (fun r=>r.map (HX.cS (sc d)))=G.map gh:=NA _ (fun _=>rfl) rfl G
theorem Fo(i d:Nat)(G:List bh):(G.map gh).map (fun r=>r.map (HX.cS (rn i d)))=G.map gh:=NA _ (fun _=>rfl) rfl G
theorem dC(n:Nat)(G:List bh)(k d:Nat)(a b:PV)(h:sc n (.ow d)=.ow d):((G.map gh).set k [.av (.p a),.av (.p b),.av (.ow d)]).map (fun r=>r.map (HX.cS (sc n)))=(G.map gh).set k [.av (.p a),.av (.p b),.av (.ow d)]:=by
 rw[abL,qO];simp only[aa8,ac1,HX.cS,h];rfl
theorem NB{G:List bh}(h:∀g∈G,g.pins=[]):(G.map wR).map s9=G.map gh:=by
 rw[abd];refine aaG fun g z=>?_;simp only[Function.comp,wR,gh,h g z];rfl
theorem SR(p:List (ByteArray×ByteArray)):Tr (I8 p) (.sl (p.map pc)):=by
 unfold I8;split
 ·rename_i e;rw[e];exact .nl
 exact .row _ _
theorem vM(G:List bh):Oi (G.map gh) (G.map sT):=Oi.map fun g _=>⟨rfl,fun j u v z D=>by
 match j with
 | 0=>simp only[gh,sT,aa9,Option.some.injEq]at z D;subst z;subst D;exact .p _
 | 1=>simp only[gh,sT,abc,aa9,Option.some.injEq]at z D;subst z;subst D;exact .p _
 | 2=>simp only[gh,sT,abc,aa9,Option.some.injEq]at z D;subst z;subst D;exact SR _
 | j+3=>simp[gh]at z⟩
theorem of_eq{A:cD}{s z:AS}(h:s=z):au A s z:=h▸au.refl A s
theorem au.I9{A:cD}(hC:bI A.C)(s:AS)(id k d:Nat){e:TypeId}{G:List bh}{g:bh}{L:TI}(N:d<100000)(hid:id≠d)(hb:s.h id=.az e (G.map gh))(hk:G[k]?=some g)(R:A.C.T 205=some L)(I:0<L.size):
  au A s ⟨(gX d s).t,aT (aT (gX d s).h d (.row 205 (g.pins.map pc))) id (.az e ((G.map gh).set k [.av (.p (ints g.pieces)),.av (.p (ints g.bores)),.av (.ow d)]))⟩:=by
 have U:=(aao.1 hk).1;have z:(G.map gh)[k]?=some (gh g):=by rw[aak,hk];rfl
 have O:∀r∈G.map gh,∀x∈r,IC x:=fun r z x D=>by
  obtain⟨g,_,rfl⟩:=adS.1 z;simp only[gh,adq,ab2,or_false]at D;rcases D with rfl | rfl | rfl
  ·trivial
  ·trivial
  unfold I8;split<;>trivial
 by_cases c:g.pins=[]
 ·have V:=au.Sr hC s id k 2 (e':=205) hb z (by rw[gh,I8,aap c];rfl) R I;have J:=au.rq hC ⟨s.t,aT s.h id (.az e ((G.map gh).set k ((gh g).set 2 (.row 205 []))))⟩ id k 2 d (e:=e) (r:=(gh g).set 2 (.row 205 [])) N hid (aH _ _ _) (fun r z x D=>by
   rcases abg z with z | z
   ·exact O r z x D
   subst z;simp only[gh,List.set_cons_succ,List.set_cons_zero,adq,ab2,or_false]at D;rcases D with rfl | rfl | rfl<;>trivial) (ab7 (by rw[aej];exact U)) rfl
  refine (V.trans J).trans (of_eq ?_);rw[c];refine adV (AS.mk _) ?_;funext j;by_cases e1:j=id
  ·subst e1;rw[aH,aH,adL];rfl
  rw[aV _ _ e1,aV _ _ e1];by_cases e2:j=d
  ·subst e2;rw[aH,aH];rfl
  rw[aV _ _ e2,aV _ _ e2];show aT (fun m=>xm d (aT s.h id _ m)) d .none j=aT (fun m=>xm d (s.h m)) d .none j;rw[aV _ _ e2,aV _ _ e2];show xm d (aT _ _ _ j)=_;rw[aV _ _ e1]
 have J:=au.rq hC s id k 2 d (e':=205) (xs:=g.pins.map pc) N hid hb O z (by rw[gh,I8,aaa c];rfl);exact J
theorem I_(p:List (ByteArray×ByteArray))(x:ByteArray×ByteArray):I8 (p++[x])=.row 205 ((p++[x]).map pc):=by
 rw[I8,aaa (by simp)]
theorem zE(a:fS)(ha:iD a)(J:List (List PV))(P:List Piece)(T:List (List Int))(hP:P.length<=2000)(Q9:∀p∈P,(told p.set).length<=4398046511104)(hT:T.length=a.bores.length)(U:List Int)(hU:U=jm P.length a.bores.length T)(o:List Int×List Int)(G0:List bh)(hF:jn a.bores P.length (Reg.aP (Reg.cQ U) (P.length+a.bores.length))=(o,G0))(R:qN)(hR:R=a.lands.foldl (uA a.bores P o) ⟨G0,[],[]⟩)(ZD:∀x∈T,∀p∈x,0<=p/\p<P.length)(Vs:∀x∈T,x.length<=1000000000):af C 102 [.aN [.p (.sl (a.coppers.map rr)),.p (aj a.outline),.p (.sl (a.bores.map bc)),.p (.sl (a.lands.map lc)),.row 59 J,.row 76 (P.map jb),.row 71 (T.map fun l=>[ints l]),.row 142 [],.row 3 [],.row 3 [],.row 3 [],.row 174 []]] (.tu []) [.aN [.p (.sl (a.coppers.map rr)),.p (aj a.outline),.p (.sl (a.bores.map bc)),.p (.sl (a.lands.map lc)),.row 59 J,.row 76 (P.map jb),.row 71 (T.map fun l=>[ints l]),.row 142 (R.groups.map sT),.row 3 (aA o.1),.row 3 (aA o.2),.row 3 (aA R.ofLand),.row 174 (R.atLand.map je)]]:=by
 have lb:=ai a.bores bc;have lp:=ai P jb;have lT:=ai T fun l=>[ints l];have zA:=ha.jB;obtain⟨n,hn⟩:∃n,n=P.length:=⟨_,rfl⟩;rw[<-hn]at hU hF;have abl:=Reg.qM (n:=n) (nb:=a.bores.length) T 0 (iota (n+a.bores.length)) (Reg.ny _) (Reg.aeM _) (by omega) (by rw[hn];exact ZD);refine UO ⟨[27,37],[],[(11,[66]),(37,[14,1000014,15,1000015,90003,1090003,100000,1100000]),(38,[14,1000014,15,1000015,90003,1090003,100000,1100000,219])],[28,37,38],[(11,[true,true,true,true,true,true,true,true,true,false,false,true,true,false,true,true,true]),(37,[true,false,false,false,true,true,true,true,true,true,true,true,true,true,true,true,false,true,true,true]),(38,[true,true,true,true,true,true,true,true,false,true,false,false,false,false,false,true,true,true,true,true,true,true])],[]⟩ hC Tryz.func102 rfl (by kernel_rfl) fun _=>⟨_,au.open hC _ 100000 [90000,90001,90002,90003,90004,90005,90006,90007] (by exact rfl) rfl rfl rfl,?_⟩;refine⟨wO (by omega),?_⟩;have GU:=KJ (n+a.bores.length) (by omega);have Vt:((n+a.bores.length:Nat):Int)=((P.map jb).length:Int)+((a.bores.map bc).length:Int):=by omega
 rw[Vt]at GU;refine⟨_,_,GU,?_⟩;refine aJ (fun x:Nat×List Int=>uz n x.1 (T.drop x.1) x.2=U/\UF x.2/\x.2.length=n+a.bores.length/\x.1<=T.length) (fun x=>[(0,.bx 100000 0),(2,.p (i64 n)),(3,.bx 31 0),(35,.ow 90002),(36,.p (i64 T.length)),(37,.p (i64 x.1))]) (fun x=>[(100000,.box [.p (.sl (a.coppers.map rr)),.p (aj a.outline),.p (.sl (a.bores.map bc)),.p (.sl (a.lands.map lc)),.ow 90000,.ow 90001,.ow 90002,.ow 90003,.ow 90004,.ow 90005,.ow 90006,.ow 90007]),(90000,.row 59 J),(90001,.row 76 (P.map jb)),(90002,.row 71 (T.map fun l=>[ints l])),(90003,.row 142 []),(90004,.row 3 []),(90005,.row 3 []),(90006,.row 3 []),(90007,.row 174 []),(31,.aN [.row 3 (aA x.2)])]) (fun x=>T.length-x.1) (0,iota (n+a.bores.length)) _ (au.refl _ _) ⟨hU.symm,Reg.ny _,Reg.aeM _,aaj _⟩ ⟨rfl,adV (fun m:Nat=>AV.p (i64 m)) (lp.trans hn.symm),rfl,rfl,adV (fun m:Nat=>AV.p (i64 m)) lT,Z,Y⟩ ⟨Z,Z,Z,Z,Z,Z,Z,Z,Z,Z,Y⟩ fun ⟨k,u⟩ hx t h=>?_;obtain⟨q1,q2,q3,q4⟩:=hx;simp only at q1 q2 q3 q4;apply iW<;>intro g<;>try simp only[zB]at g
 ·obtain⟨l,Ws⟩:=ak (l:=T) (i:=k) (by omega);have Wq:=ZD l (aad Ws);have ZE:=Vs l (aad Ws);have ll:=ai l fun n=>[i64 n];rw[drop_at Ws,uz]at q1;refine⟨⟨by omega,by (try dsimp only);omega⟩,[ints l],(idx rfl Ws).2,?_⟩;refine aJ (fun z:Nat×List Int=>r_ (n+k) (l.drop z.1) z.2=r_ (n+k) l u/\UF z.2/\z.2.length=n+a.bores.length) (fun z=>[(0,.bx 100000 0),(2,.p (i64 n)),(3,.bx 31 0),(35,.ow 90002),(36,.p (i64 T.length)),(37,.p (i64 k)),(4,.p (i64 k)),(42,.p (ints l)),(43,.p (i64 l.length)),(44,.p (i64 z.1))]) (fun z=>[(100000,.box [.p (.sl (a.coppers.map rr)),.p (aj a.outline),.p (.sl (a.bores.map bc)),.p (.sl (a.lands.map lc)),.ow 90000,.ow 90001,.ow 90002,.ow 90003,.ow 90004,.ow 90005,.ow 90006,.ow 90007]),(90000,.row 59 J),(90001,.row 76 (P.map jb)),(90002,.row 71 (T.map fun l=>[ints l])),(90003,.row 142 []),(90004,.row 3 []),(90005,.row 3 []),(90006,.row 3 []),(90007,.row 174 []),(31,.aN [.row 3 (aA z.2)])]) (fun z=>l.length-z.1) (0,u) _ (au.refl _ _) ⟨rfl,q2,q3⟩ ⟨rfl,rfl,rfl,rfl,rfl,rfl,rfl,rfl,adV (fun m:Nat=>AV.p (i64 m)) ll,Z,Y⟩ ⟨Z,Z,Z,Z,Z,Z,Z,Z,Z,Z,Y⟩ fun ⟨j,v⟩ hz t h=>?_;obtain⟨z1,z2,z3⟩:=hz;simp only at z1 z2 z3;apply iW<;>intro g2<;>try simp only[zB]at g2
  ·obtain⟨p,Yb⟩:=ak (l:=l) (i:=j) (by omega);have Wn:=Wq p (aad Yb);rw[drop_at Yb,r_]at z1;have ZF:((p.toNat:Nat):Int)=p:=adM Wn.1;have hj:=Hx v z2 p.toNat (n+k) (by omega) (by omega);rw[ZF,Int.natCast_add]at hj;obtain⟨L,w2⟩:=Reg.mC z2 (i:=p.toNat) (k:=n+k) (by omega) (by omega);exact⟨[i64 p],(idx rfl Yb),wO (by omega),_,_,hj,wO (by omega),(j+1,gj v p.toNat (n+k)),_,au.refl _ _,⟨z1,L,w2.trans z3⟩,by simp only;omega,⟨Z,Z,Z,Z,Z,Z,Z,Z,Z,Z,Y⟩,⟨Z,Z,Z,Z,Z,Z,Z,Z,Z,Z,Y⟩⟩
  rw[aaz (by omega),r_]at z1;exact⟨wO (by omega),(k+1,v),_,au.refl _ _,⟨by rw[z1];exact q1,z2,z3,by simp only;omega⟩,by simp only;omega,⟨Z,Z,Z,Z,Z,Z,Y⟩,⟨Z,Z,Z,Z,Z,Z,Z,Z,Z,Z,Y⟩⟩
 rw[aaz (by omega),uz]at q1;have NC:=Hz u q2 (by omega);rw[q3]at NC;obtain⟨O,PM⟩:∃O,O=Reg.aP (Reg.cQ u) (n+a.bores.length):=⟨_,rfl⟩;rw[<-PM]at NC;have hLi:∀l∈O,l.length<=n+a.bores.length/\∀i∈l,i<n+a.bores.length:=fun l hl=>by
  rw[PM,Reg.aP]at hl;obtain⟨r,_,rfl⟩:=adS.1 hl;exact⟨Reg.qJ _ _ _,fun i hi=>(Reg.dx.1 hi).1⟩
 have Gz:O.length<=n+a.bores.length:=by rw[PM,Reg.oq];exact Reg.qI _ _
 obtain⟨F,Yc⟩:∃F,F=jn a.bores n O:=⟨_,rfl⟩;have hFo:F=(o,G0):=by rw[Yc,PM,<-hF,<-q1]
 refine⟨⟨by omega,by omega,by dsimp only;omega,by omega⟩,⟨by omega,by omega,by dsimp only;omega,by omega⟩,_,_,NC,?_⟩;have lLL:=ai O pl;have op0:aA (List.replicate n 0)=List.replicate n [i64 0]:=by rw[aA,aef]
 have ob0:aA (List.replicate a.bores.length 0)=List.replicate a.bores.length [i64 0]:=by rw[aA,aef]
 refine aJ (fun x:Nat×(List Int×List Int)×List bh=>(O.drop x.1).foldl (AT a.bores n) x.2=F/\x.2.1.1.length=n/\x.2.1.2.length=a.bores.length/\x.2.2.length<=x.1/\x.1<=O.length) (fun x=>[(0,.bx 100000 0),(2,.p (i64 n)),(72,.p (.sl (O.map pl))),(73,.p (i64 O.length)),(74,.p (i64 x.1))]) (fun x=>[(100000,.box [.p (.sl (a.coppers.map rr)),.p (aj a.outline),.p (.sl (a.bores.map bc)),.p (.sl (a.lands.map lc)),.ow 90000,.ow 90001,.ow 90002,.ow 90003,.ow 90004,.ow 90005,.ow 90006,.ow 90007]),(90000,.row 59 J),(90001,.row 76 (P.map jb)),(90002,.row 71 (T.map fun l=>[ints l])),(90003,.row 142 (x.2.2.map wR)),(90004,.row 3 (aA x.2.1.1)),(90005,.row 3 (aA x.2.1.2)),(90006,.row 3 []),(90007,.row 174 [])]) (fun x=>O.length-x.1) (0,(List.replicate n 0,List.replicate a.bores.length 0),[]) _ ((au.own (by exact hC) _ 72 (id:=72) (by exact rfl) (by exact rfl)).trans ((au.pack (by exact hC) _ 100000 (cs:=[.p (.sl (a.coppers.map rr)),.p (aj a.outline),.p (.sl (a.bores.map bc)),.p (.sl (a.lands.map lc)),.row 59 J,.row 76 (P.map jb),.row 71 (T.map fun l=>[ints l]),.row 142 [],.row 3 (aA (List.replicate n 0)),.row 3 (aA (List.replicate a.bores.length 0)),.row 3 [],.row 174 []]) (by exact rfl) (by exact rfl) (by exact⟨rfl,rfl,rfl,rfl,rfl,rfl,rfl,rfl,adV (AB.row _) (by rw[op0];rfl),adV (AB.row _) (by rw[ob0,<-lb];rfl),Z,Z,Y⟩)).trans (au.open (by exact hC) _ 100000 [90000,90001,90002,90003,90004,90005,90006,90007] (cs:=[.p (.sl (a.coppers.map rr)),.p (aj a.outline),.p (.sl (a.bores.map bc)),.p (.sl (a.lands.map lc)),.row 59 J,.row 76 (P.map jb),.row 71 (T.map fun l=>[ints l]),.row 142 [],.row 3 (aA (List.replicate n 0)),.row 3 (aA (List.replicate a.bores.length 0)),.row 3 [],.row 174 []]) (by exact rfl) rfl rfl rfl))) ⟨Yc.symm,aan,aan,aaj _,aaj _⟩ ⟨rfl,rfl,rfl,adV (fun m:Nat=>AV.p (i64 m)) lLL,Z,Y⟩ ⟨Z,Z,Z,Z,Z,Z,Z,Z,Z,Y⟩ fun ⟨j,⟨op,ob⟩,G⟩ hx t h=>?_;obtain⟨y1,y2,y3,y4,y5⟩:=hx;simp only at y1 y2 y3 y4 y5;apply iW<;>intro g2<;>try simp only[zB]at g2
 ·obtain⟨l,Yd⟩:=ak (l:=O) (i:=j) (by omega);obtain⟨Qo,F4⟩:=hLi l (aad Yd);rw[drop_at Yd,aaq]at y1;refine⟨(pl l),(idx rfl Yd),?_⟩;have ZG:(aA (l.map fun (m:Nat)=>(m:Int))).length=l.length:=by rw[bQ,aej]
  obtain⟨r,I⟩:∃r,r=l.foldl (jF a.bores n G.length) ((op,ob),[],[]):=⟨_,rfl⟩;have mT:AT a.bores n ((op,ob),G) l=(r.1,if 0<r.2.1.length+r.2.2.length then G++[⟨r.2.1,r.2.2,[]⟩] else G):=by rw[I];rfl
  rw[mT]at y1;refine aJ (fun y:Nat×(List Int×List Int)×List Int×List Int=>(l.drop y.1).foldl (jF a.bores n G.length) y.2=r/\y.2.1.1.length=n/\y.2.1.2.length=a.bores.length/\y.2.2.1.length<=y.1/\y.2.2.2.length<=y.1/\y.1<=l.length) (fun y=>[(0,.bx 100000 0),(2,.p (i64 n)),(72,.p (.sl (O.map pl))),(73,.p (i64 O.length)),(74,.p (i64 j)),(10,.bx 10 0),(78,.p (.sl (aA (l.map fun (m:Nat)=>(m:Int))))),(79,.p (i64 l.length)),(80,.p (i64 y.1))]) (fun y=>[(100000,.box [.p (.sl (a.coppers.map rr)),.p (aj a.outline),.p (.sl (a.bores.map bc)),.p (.sl (a.lands.map lc)),.ow 90000,.ow 90001,.ow 90002,.ow 90003,.ow 90004,.ow 90005,.ow 90006,.ow 90007]),(90000,.row 59 J),(90001,.row 76 (P.map jb)),(90002,.row 71 (T.map fun l=>[ints l])),(90003,.row 142 (G.map wR)),(90004,.row 3 (aA y.2.1.1)),(90005,.row 3 (aA y.2.1.2)),(90006,.row 3 []),(90007,.row 174 []),(10,.box [.ow 90100,.ow 90101,.nl]),(90100,.row 3 (aA y.2.2.1)),(90101,.row 3 (aA y.2.2.2))]) (fun y=>l.length-y.1) (0,(op,ob),[],[]) _ ((au.aeK (by exact hC) _ 10 0 90100 3 _ _ (by decide) (by decide) (by exact rfl) (by exact rfl) (by exact rfl) (by decide)).trans (au.aeK (by exact hC) _ 10 1 90101 3 _ _ (by decide) (by decide) (by exact rfl) (by exact rfl) (by exact rfl) (by decide))) ⟨I.symm,y2,y3,aam _,aam _,aaj _⟩ ⟨rfl,rfl,rfl,rfl,rfl,rfl,rfl,adV (fun m:Nat=>AV.p (i64 m)) ZG,Z,Y⟩ ⟨Z,Z,Z,Z,Z,Z,Z,Z,Z,Z,Z,Z,Y⟩ fun ⟨m,⟨V,N⟩,ps,bs⟩ hy t h=>?_;obtain⟨L,w2,w3,w4,w5,w6⟩:=hy;simp only at L w2 w3 w4 w5 w6;apply iW<;>intro g3<;>try simp only[zB]at g3
  ·obtain⟨i,Ye⟩:=ak (l:=l) (i:=m) (by omega);have hiN:=F4 i (aad Ye);rw[drop_at Ye,aaq]at L;have lG:=ai G wR;refine⟨[i64 i],⟨by omega,cM (by rw[aak];simp[Ye])⟩,?_⟩;apply iW<;>intro g4
   ·rw[jF,aap (by omega)]at L;obtain⟨v,hv⟩:=ak (l:=V) (i:=i) (by omega);have lv:=bQ V;have Yf:=bQ ps;exact⟨⟨by omega,by (try dsimp only);omega⟩,[i64 v],(cM hv),⟨fun r I=>by simp at I;subst I;rfl,by simp only[Yf,List.length_set,List.length_replicate];omega,by simp only[Yf,List.length_set,List.length_replicate];omega⟩,wO (by omega),(m+1,(V.set i (G.length:Int),N),ps++[(i:Int)],bs),_,au.Cx _ 111 90100 (by decide) (by decide),⟨L,by simp only[List.length_set];exact w2,w3,by simp only[List.length_append,List.length_singleton];omega,by simp only;omega,by simp only;omega⟩,by simp only;omega,⟨Z,Z,Z,Z,Z,Z,Z,Z,Z,Y⟩,⟨rfl,rfl,rfl,rfl,rfl,congrArg (AB.row _) ((fV V i ((G.map wR).length:Int)).trans (by rw[lG])),rfl,rfl,rfl,rfl,congrArg (AB.row _) (gP ps i).symm,Z,Y⟩⟩
   rw[jF,aaa (by omega)]at L;refine⟨wO (by omega),?_⟩;obtain⟨b,Oz⟩:=ak (l:=a.bores) (i:=i-n) (by omega);have Ox:a.bores.getD (i-n) ⟨0,0,0,0,0,false⟩=b:=by rw[aav,Oz];rfl
   rw[Ox]at L;refine⟨(bc b),(idx (show (i:Int)-n=((i-n:Nat):Int) by omega) Oz),iW ?_ ?_⟩<;>intro g5
   ·rw[aap g5]at L;have e1:(i:Int)-n=((i-n:Nat):Int):=by omega
    obtain⟨v,hv⟩:=ak (l:=N) (i:=i-n) (by omega);have lv:=bQ N;have Wo:=bQ bs;exact⟨wO (by omega),⟨by omega,by (try dsimp only);omega⟩,[i64 v],(by rw[e1];exact cM hv),wO (by omega),⟨fun r I=>by simp at I;subst I;rfl,by simp only[Wo,List.length_set,List.length_replicate];omega,by simp only[Wo,List.length_set,List.length_replicate];omega⟩,wO (by omega),(m+1,(V,N.set (i-n) (G.length:Int)),ps,bs++[(i:Int)-n]),_,au.Cx _ 144 90101 (by decide) (by decide),⟨L,w2,by simp only[List.length_set];exact w3,by simp only;omega,by simp only[List.length_append,List.length_singleton];omega,by simp only;omega⟩,by simp only;omega,⟨Z,Z,Z,Z,Z,Z,Z,Z,Z,Y⟩,⟨rfl,rfl,rfl,rfl,rfl,rfl,congrArg (AB.row _) ((congrArg (fun z=>List.set (aA N) z _) (show ((i:Int)-n).toNat=i-n by omega)).trans ((fV N (i-n) ((G.map wR).length:Int)).trans (by rw[lG]))),rfl,rfl,rfl,rfl,congrArg (AB.row _) (gP bs ((i:Int)-n)).symm,trivial⟩⟩
   rw[aaa (by rw[g5];decide)]at L;have e1:(i:Int)-n=((i-n:Nat):Int):=by omega
   obtain⟨v,hv⟩:=ak (l:=N) (i:=i-n) (by omega);have lv:=bQ N;exact⟨wO (by omega),⟨by omega,by (try dsimp only);omega⟩,[i64 v],(by rw[e1];exact cM hv),wO (by omega),(m+1,(V,N.set (i-n) (-1)),ps,bs),_,au.refl _ _,⟨L,w2,by simp only[List.length_set];exact w3,by simp only;omega,by simp only;omega,by simp only;omega⟩,by simp only;omega,⟨Z,Z,Z,Z,Z,Z,Z,Z,Z,Y⟩,⟨rfl,rfl,rfl,rfl,rfl,rfl,congrArg (AB.row _) ((congrArg (fun z=>List.set (aA N) z _) (show ((i:Int)-n).toNat=i-n by omega)).trans (fV N (i-n) (-1))),Z,Z,Z,Z,Z,Y⟩⟩
  have e:l.length<=m:=by omega
  rw[aaz e]at L;have L:((V,N),ps,bs)=r:=L;rw[<-L]at y1;simp only at y1;have Yf:=bQ ps;have Wo:=bQ bs;have lG:=ai G wR;refine qy ((au.fB (by exact hC) _ 10 0 90100 3 _ _ (by decide) (by exact rfl) (by exact rfl) (by exact rfl)).trans ((au.fB (by exact hC) _ 10 1 90101 3 _ _ (by decide) (by exact rfl) (by exact rfl) (by exact rfl)).trans (au.MJ (by exact hC) _ 10 2 _ (by exact rfl) (by exact rfl)))) ?_;refine⟨⟨by dsimp only;omega,by dsimp only;omega⟩,iW ?_ ?_⟩<;>intro g4<;>try simp only[zB]at g4
  ·rw[aap (by omega)]at y1;exact⟨⟨fun r I=>by simp at I;subst I;rfl,by simp only[lG,aaM,aan];omega,by simp only[lG,aaM,aan];omega⟩,wO (by omega),(j+1,(V,N),G++[bh.mk ps bs []]),_,((au.pack (by exact hC) _ 100000 (cs:=[.p (.sl (a.coppers.map rr)),.p (aj a.outline),.p (.sl (a.bores.map bc)),.p (.sl (a.lands.map lc)),.row 59 J,.row 76 (P.map jb),.row 71 (T.map fun l=>[ints l]),.row 142 ((G++[bh.mk ps bs []]).map wR),.row 3 (aA V),.row 3 (aA N),.row 3 [],.row 174 []]) (by exact rfl) (by exact rfl) (by exact⟨rfl,rfl,rfl,rfl,rfl,rfl,rfl,by rw[abE];rfl,Z,Z,Z,Z,Y⟩)).trans (au.open (by exact hC) _ 100000 [90000,90001,90002,90003,90004,90005,90006,90007] (cs:=[.p (.sl (a.coppers.map rr)),.p (aj a.outline),.p (.sl (a.bores.map bc)),.p (.sl (a.lands.map lc)),.row 59 J,.row 76 (P.map jb),.row 71 (T.map fun l=>[ints l]),.row 142 ((G++[bh.mk ps bs []]).map wR),.row 3 (aA V),.row 3 (aA N),.row 3 [],.row 174 []]) (by exact rfl) rfl rfl rfl)),⟨y1,w2,w3,by simp only[acv,abS];omega,by simp only;omega⟩,by simp only;omega,⟨Z,Z,Z,Z,Z,Y⟩,⟨Z,Z,Z,Z,Z,Z,Z,Z,Z,Y⟩⟩
  rw[aaa (by omega)]at y1;exact⟨wO (by omega),(j+1,(V,N),G),_,au.refl _ _,⟨y1,w2,w3,by simp only;omega,by simp only;omega⟩,by simp only;omega,⟨Z,Z,Z,Z,Z,Y⟩,⟨Z,Z,Z,Z,Z,Z,Z,Z,Z,Y⟩⟩
 rw[aaz (by omega)]at y1;have y1:((op,ob),G)=F:=y1;have SS:mG a.bores n F:=by rw[Yc,PM];exact Reg.vL q2 q3
 rw[<-y1]at SS;have lG:=ai G wR;have ll:=ai a.lands lc;have SU:=ha.lan;have Ja:∀g∈G,g.pins=[]:=fun g W=>by
  obtain⟨k,hk⟩:=ab8.1 W;exact (SS.c k g hk).1
 have hoG:((op,ob),G)=(o,G0):=y1.trans hFo;injection hoG with ho Vu;subst ho;subst Vu;refine aJ (fun x:Nat×qN=>(a.lands.drop x.1).foldl (uA a.bores P (op,ob)) x.2=R/\x.2.groups.length=G.length/\x.2.ofLand.length=x.1/\x.2.atLand.length=x.1/\x.1<=a.lands.length/\∀g∈x.2.groups,g.pins.length<=x.1) (fun x=>[(0,.bx 100000 0),(170,.p (.sl (a.lands.map lc))),(171,.p (i64 a.lands.length)),(172,.p (i64 x.1))]) (fun x=>[(100000,.box [.p (.sl (a.coppers.map rr)),.p (aj a.outline),.p (.sl (a.bores.map bc)),.p (.sl (a.lands.map lc)),.ow 90000,.ow 90001,.ow 90002,.ow 90003,.ow 90004,.ow 90005,.ow 90006,.ow 90007]),(90000,.row 59 J),(90001,.row 76 (P.map jb)),(90002,.row 71 (T.map fun l=>[ints l])),(90003,.az 142 (x.2.groups.map gh)),(90004,.row 3 (aA op)),(90005,.row 3 (aA ob)),(90006,.row 3 (aA x.2.ofLand)),(90007,.row 174 (x.2.atLand.map je))]) (fun x=>a.lands.length-x.1) (0,⟨G,[],[]⟩) _ (au.Wg (by exact hC) _ 90003 (e:=142) (es:=G.map wR) (by exact rfl)) ⟨hR.symm,rfl,rfl,rfl,aaj _,fun g W=>by rw[Ja g W];exact aam _⟩ ⟨rfl,rfl,adV (fun m:Nat=>AV.p (i64 m)) ll,Z,Y⟩ ⟨rfl,rfl,rfl,rfl,adV (AB.az _) (NB Ja),Z,Z,Z,Z,Y⟩ fun ⟨i,s⟩ hx t h=>?_;obtain⟨v1,v2,v3,v4,v5,v6⟩:=hx;simp only at v1 v2 v3 v4 v5 v6;apply iW<;>intro g3<;>try simp only[zB]at g3
 ·obtain⟨l,ZH⟩:=ak (l:=a.lands) (i:=i) (by omega);rw[drop_at ZH,aaq]at v1;refine⟨(lc l),(idx rfl ZH),?_⟩;obtain⟨hp,Vv⟩:∃hp,hp=il a.bores P l:=⟨_,rfl⟩;have Gp:=Dl a ha l J (T.map fun l=>[ints l]) (s.groups.map sT) (aA s.ofLand) (s.atLand.map je) op ob P (by omega) Q9;rw[<-Vv]at Gp;refine⟨[.ip ((dX a)++[.sl J,.sl (P.map jb),.sl (T.map fun l=>[ints l]),.sl (s.groups.map sT),ints op,ints ob,.sl (aA s.ofLand),.sl (s.atLand.map je)]),.ag (lc l)],_,.cons (.box 100000 0 _ ((dX a)++[.sl J,.sl (P.map jb),.sl (T.map fun l=>[ints l]),.sl (s.groups.map sT),ints op,ints ob,.sl (aA s.ofLand),.sl (s.atLand.map je)]) (by exact rfl) (.cons (.p _) (.cons (.p _) (.cons (.p _) (.cons (.p _) (.cons (.row 90000 _ _ (by exact rfl)) (.cons (.row 90001 _ _ (by exact rfl)) (.cons (.row 90002 _ _ (by exact rfl)) (.cons (.az 90003 142 (s.groups.map gh) (s.groups.map sT) (by exact adV (AB.az _) (by simp only[qO])) (vM _)) (.cons (.row 90004 _ _ (by exact rfl)) (.cons (.row 90005 _ _ (by exact rfl)) (.cons (.row 90006 _ _ (by exact rfl)) (.cons (.row 90007 _ _ (by exact rfl)) .nil))))))))))))) (.cons (.one (.p _)) .nil),Gp,rfl,iW ?_ ?_⟩<;>intro g4
  ·have Vw:mG a.bores P.length ((op,ob),G):=hn▸SS;obtain⟨m,k,e1,e2,e3⟩:=Reg.KQ Vw l (by rw[<-Vv];exact g4);rw[<-Vv]at e1 e2;have e3:k<G.length:=e3;obtain⟨D,PG⟩:=ak (l:=s.groups) (i:=k) (by omega);have qg:=v6 D (aad PG);have IM:uA a.bores P (op,ob) s l=⟨s.groups.set k (iN (l.part,l.pin) D),s.ofLand++[(k:Int)],s.atLand++[hp.1]⟩:=by
    rw[uA];simp only[<-Vv];have g4:hp.2=true:=g4;rw[g4,aap rfl,aap rfl,e1,aaS,aav (l:=if hp.1.bore=true then ob else op),e2];simp only[acy,aaS,aav,PG]
   rw[IM]at v1;have hgh:=uB a hp.1 J (T.map fun l=>[ints l]) (s.groups.map sT) (aA s.ofLand) (s.atLand.map je) op ob P m e1 k e2;refine⟨[.ip ((dX a)++[.sl J,.sl (P.map jb),.sl (T.map fun l=>[ints l]),.sl (s.groups.map sT),ints op,ints ob,.sl (aA s.ofLand),.sl (s.atLand.map je)]),.ag (je hp.1)],_,.cons (.box 100000 0 _ ((dX a)++[.sl J,.sl (P.map jb),.sl (T.map fun l=>[ints l]),.sl (s.groups.map sT),ints op,ints ob,.sl (aA s.ofLand),.sl (s.atLand.map je)]) (by exact rfl) (.cons (.p _) (.cons (.p _) (.cons (.p _) (.cons (.p _) (.cons (.row 90000 _ _ (by exact rfl)) (.cons (.row 90001 _ _ (by exact rfl)) (.cons (.row 90002 _ _ (by exact rfl)) (.cons (.az 90003 142 (s.groups.map gh) (s.groups.map sT) (by exact adV (AB.az _) (by simp only[qO])) (vM _)) (.cons (.row 90004 _ _ (by exact rfl)) (.cons (.row 90005 _ _ (by exact rfl)) (.cons (.row 90006 _ _ (by exact rfl)) (.cons (.row 90007 _ _ (by exact rfl)) .nil))))))))))))) (.cons (.one (.p _)) .nil),hgh,rfl,?_⟩;refine qy (au.I9 (by exact hC) _ 90003 k 90200 (e:=142) (by decide) (by decide) (by exact adV (AB.az _) (by simp only[qO])) PG (by exact rfl) (by decide)) ?_;have Vx:(s.groups.map gh).length=s.groups.length:=aej _;have Vy:=ai D.pins pc;have Vz:=bQ s.ofLand;have VA:=ai s.atLand je;refine⟨⟨by omega,by simp only[aej,aaM];omega⟩,?_⟩;have NF:((s.groups.map gh).set k [.av (.p (ints D.pieces)),.av (.p (ints D.bores)),.av (.ow 90200)])[k]?=some [.av (.p (ints D.pieces)),.av (.p (ints D.bores)),.av (.ow 90200)]:=ab7 (by rw[Vx];omega);refine⟨[.av (.p (ints D.pieces)),.av (.p (ints D.bores)),.av (.ow 90200)],(by rw[dC,dC,dC];exact NF;rfl;rfl;rfl),_,_,(pw l),⟨fun r I=>by simp at I;subst I;rfl,by simp only[Vy,aaM,aan];omega,by simp only[Vy,aaM,aan];omega⟩,⟨by omega,by simp only[aej,aaM];omega⟩,[.av (.p (ints D.pieces)),.av (.p (ints D.bores)),.av (.ow 90200)],(by rw[dC,dC,dC];exact NF;rfl;rfl;rfl),⟨fun r I=>by simp at I;subst I;rfl,by simp only[Vz,aaM,aan];omega,by simp only[Vz,aaM,aan];omega⟩,⟨fun r I=>by simp at I;subst I;rfl,by simp only[VA,aaM,aan];omega,by simp only[VA,aaM,aan];omega⟩,wO (by omega),?_⟩;have SV:((s.groups.map gh).set k [.av (.p (ints D.pieces)),.av (.p (ints D.bores)),.av (.ow 202)]).set k (([.av (.p (ints D.pieces)),.av (.p (ints D.bores)),.av (.ow 202)]:List HX).set 2 (.row 205 ((D.pins++[(l.part,l.pin)]).map pc)))=(s.groups.set k (iN (l.part,l.pin) D)).map gh:=by
    rw[adL,abL];congr 1;show _=[.av (.p (ints D.pieces)),.av (.p (ints D.bores)),I8 (D.pins++[(l.part,l.pin)])];rw[I_];rfl
   refine⟨(i+1,⟨s.groups.set k (iN (l.part,l.pin) D),s.ofLand++[(k:Int)],s.atLand++[hp.1]⟩),_,(au.Bm (by exact hC) _ 90003 k 2 202 (e:=142) (es:=(s.groups.map gh).set k [.av (.p (ints D.pieces)),.av (.p (ints D.bores)),.av (.ow 202)]) (r:=[.av (.p (ints D.pieces)),.av (.p (ints D.bores)),.av (.ow 202)]) (e':=205) (xs:=(D.pins++[(l.part,l.pin)]).map pc) (by decide) (by exact adV (AB.az _) (by rw[dC,dC,dC];simp only[aaS];rw[adL];show List.map (fun r=>List.map (HX.cS (sc 220)) r) (List.map (fun r=>List.map (HX.cS (sc 219)) r) (List.map (fun r=>List.map (HX.cS (sc 213)) r) (List.map (fun r=>List.map (HX.cS (sc 212)) r) ((List.map gh s.groups).set k [.av (.p (ints D.pieces)),.av (.p (ints D.bores)),.av (.ow 202)]))))=_;rw[dC,dC,dC,dC];all_goals rfl)) (by exact adV (AB.row _) (by rw[abE];rfl)) (ab7 (by rw[Vx];omega)) (by exact rfl)).trans ((au.Cx _ 213 90006 (by decide) (by decide)).trans (au.Cx _ 220 90007 (by decide) (by decide))),?_⟩;exact⟨⟨v1,by simp only[aaM];exact v2,by simp only[acv,abS];omega,by simp only[acv,abS];omega,by simp only;omega,fun g W=>by
    rcases abg W with W | W
    ·have:=v6 g W;simp only;omega
    subst W;simp only[iN,acv,abS];omega⟩,by simp only;omega,⟨Z,Z,Z,Z,Y⟩,⟨rfl,rfl,rfl,rfl,adV (AB.az _) (by refine (adV (List.map _) (adV (List.map _) SV)).trans ?_;simp only[Fo]),rfl,rfl,adV (AB.row _) (gP _ _).symm,adV (AB.row _) (by rw[abE (f:=je)];rfl),trivial⟩⟩
  have g4:hp.2=false:=g4;have IM:uA a.bores P (op,ob) s l=⟨s.groups,s.ofLand++[-1],s.atLand++[hp.1]⟩:=by
   rw[uA];simp only[<-Vv,g4];rfl
  rw[IM]at v1;have Vz:=bQ s.ofLand;have VA:=ai s.atLand je;exact⟨⟨fun r I=>by simp at I;subst I;rfl,by simp only[Vz,aaM,aan];omega,by simp only[Vz,aaM,aan];omega⟩,⟨fun r I=>by simp at I;subst I;rfl,by simp only[VA,aaM,aan];omega,by simp only[VA,aaM,aan];omega⟩,wO (by omega),(i+1,⟨s.groups,s.ofLand++[-1],s.atLand++[hp.1]⟩),_,(au.Cx _ 213 90006 (by decide) (by decide)).trans (au.Cx _ 220 90007 (by decide) (by decide)),⟨v1,v2,by simp only[acv,abS];omega,by simp only[acv,abS];omega,by simp only;omega,fun g W=>by have:=v6 g W;simp only;omega⟩,by simp only;omega,⟨Z,Z,Z,Z,Y⟩,⟨rfl,rfl,rfl,rfl,adV (AB.az _) (by show _=List.map gh s.groups;simp only[qO,Fo]),rfl,rfl,adV (AB.row _) (gP _ _).symm,adV (AB.row _) (by rw[abE (f:=je)];rfl),trivial⟩⟩
 rw[aaz (by omega)]at v1;have v1:s=R:=v1;rw[<-v1];refine⟨_,au.ID (by exact hC) _ 90003 (s.groups.map sT) (e:=142) (by exact adV (AB.az _) (by simp only[qO,Fo])) (vM _),?_⟩;exact And.intro rfl (And.intro ⟨Z,Z,Z,Z,Z,Z,Z,Z,Z,Z,Z,Z,Z,Y⟩ trivial)
end M
namespace Reg
def eO(x y:aS):Bool:=(decide (x.lo<=y.hi)&&decide (y.lo<=x.hi))&&decide (fT (aa x) (aa y)=0)
def aeH(bs:List aS)(i:Nat):Bool:=(bs.take i).any (eO (bs.getD i I7))
def da(bs:List aS)(i:Nat):Bool:=(List.range' i (bs.length-i)).any (aeH bs)
variable {bs:List aS}
theorem HB{i:Nat}(h:i<bs.length):da bs i=(aeH bs i||da bs (i+1)):=by
 rw[da,show bs.length-i=(bs.length-(i+1))+1 by omega,List.range'_succ,abK];rfl
theorem KR{i:Nat}(h:bs.length<=i):da bs i=false:=by
 rw[da,show bs.length-i=0 by omega];rfl
def db:List (List ae)->Int
 | []=>0
 | r::l=>if aF r≠0 then aF r else db l
def sa(n:Int)(l:List (List ae)):Int:=l.foldl (fun n r=>n+r.length) n
theorem jo:∀{l:List (List ae)},db l=0->∀r∈l,aF r=0
 | [],_,r,h=>by cases h
 | q::l,h,r,z=>by
  rw[db]at h;by_cases e:aF q=0
  ·rw[aaa (by simpa using e)]at h;rcases adq.1 z with rfl | z
   ·exact e
   exact jo h r z
  rw[aap e]at h;exact absurd h e
structure BR where
 drilled:List (List an)
 pieces:List Piece
 bB:List (List Int)
 ofPiece:List Int
 ofBore:List Int
 placed:qN
def aC(a:fS):BR:=
 let P:=bG a.bores 0 a.coppers;let T:=bB a.bores P;let U:=jm P.length a.bores.length T;let F:=jn a.bores P.length (aP (cQ U) (P.length+a.bores.length))
 ⟨gO a.bores 0 a.coppers,P,T,F.1.1,F.1.2,a.lands.foldl (uA a.bores P F.1) ⟨F.2,[],[]⟩⟩
theorem mH:∀{l:List (List ae)} {k:Int} {p:Piece},p∈bG bs k l->∃(i:Nat) (r:List ae),l[i]?=some r/\p.layer=k+i/\p.set∈cV (bU bs (k+i) r)
 | [],k,p,h=>by cases h
 | r::l,k,p,h=>by
  rw[bG]at h;rcases abi.1 h with h | h
  ·obtain⟨s,z,rfl⟩:=adS.1 h;exact⟨0,r,rfl,by simp,by simpa using z⟩
  obtain⟨i,r',D,I,J⟩:=mH h;have e:k+((i+1:Nat):Int)=k+1+(i:Int):=by omega
  exact⟨i+1,r',by simpa using D,by rw[I,e],by rw[e];exact J⟩
theorem sU(b:aS):∀(ps:List Piece) (k:Nat),(fu b k ps).length<=ps.length
 | [],k=>aam _
 | q::ps,k=>by
  have:=sU b ps (k+1);rw[fu];split<;>simp only[aaB]<;>omega
end Reg
namespace M
open Go.AM Go.RowKit Go.Lib
open Reg (ae an aS fo fS Piece bh zx qN bE cv told aB bO aa fT eO aeH da db sa bT eG aC P4)
def kW(a:fS):List PV:=dX a++[.sl ((aC a).drilled.map fun s=>[aw s]),.sl ((aC a).pieces.map jb),.sl ((aC a).bB.map fun l=>[ints l]),.sl ((aC a).placed.groups.map sT),ints (aC a).ofPiece,ints (aC a).ofBore,ints (aC a).placed.ofLand,.sl ((aC a).placed.atLand.map je)]
def dc(a:fS):Int:=if a.coppers.length=0 then 9 else if 16<a.coppers.length then 2 else
 if db a.coppers≠0 then db a.coppers else
 if Reg.aF a.outline≠0 then Reg.aF a.outline else
 if 2000<sa a.outline.length a.coppers then 2 else
 if bT a≠0 then bT a else
 if c8 a≠0 then c8 a else
 if da a.bores 0=true then 12 else
 if eG a=true then 0 else 2
def Jb(a:fS):PV:=if dc a=0 then .ip (kW a) else .im (.pointer none)
theorem Fp(a:fS)(ho:ly a):af C 39 [.pv (.ag (dX a))] (.tu [Jb a,i64 (dc a)]) []:=by
 have lk:=ai a.coppers rr;have lk':(a.coppers.map fun r=>[aj r]).length=a.coppers.length:=lk;have lo:=ai a.outline rc;have lb:=ai a.bores bc;obtain⟨F,z⟩:∃F,F=dc a:=⟨_,rfl⟩;have hV:Jb a=if F=0 then .ip (kW a) else .im (.pointer none):=by rw[z];rfl
 rw[hV,<-z];rw[dc]at z;refine uX ⟨[36,40],[],[],[],[],[]⟩ hC Tryz.func39 rfl (by kernel_rfl) fun _=>?_;apply iW<;>intro g1
 ·rw[aap (by omega)]at z;refine⟨?_,trivial⟩;rw[z];rfl
 rw[aaa (by omega)]at z;apply iW<;>intro g2
 ·rw[aap (by omega)]at z;refine⟨?_,trivial⟩;rw[z];rfl
 rw[aaa (by omega)]at z;obtain⟨M,hM⟩:∃M,M=sa a.outline.length a.coppers:=⟨_,rfl⟩;rw[<-hM]at z;have Yg:=ho.out;refine aJ (fun x:Nat×Int=>sa x.2 (a.coppers.drop x.1)=M/\db (a.coppers.drop x.1)=db a.coppers/\0<=x.2/\x.2<=1048576+1048576*x.1) (fun x=>[(1,.bx 1 0),(4,.p (i64 x.2)),(28,.p (.sl (a.coppers.map rr))),(29,.p (i64 a.coppers.length)),(30,.p (i64 x.1))]) (fun _=>[(1,.box [.p (.sl (a.coppers.map rr)),.p (aj a.outline),.p (.sl (a.bores.map bc)),.p (.sl (a.lands.map lc))])]) (fun x=>a.coppers.length-x.1) (0,a.outline.length) _ (au.refl _ _) ⟨hM.symm,rfl,by simp only;omega,by simp only;omega⟩ ⟨rfl,adV (fun m:Nat=>AV.p (i64 m)) lo,rfl,adV (fun m:Nat=>AV.p (i64 m)) lk,Z,Y⟩ ⟨Z,Y⟩ fun ⟨i,n⟩ N t h=>?_;obtain⟨U,I,q3,q4⟩:=N;simp only at U I q3 q4;apply iW<;>intro g3<;>try simp only[zB]at g3
 ·obtain⟨r,W⟩:=ak (l:=a.coppers) (i:=i) (by omega);have xj:=ho.rcs r (aad W);have lr:=ai r rc;rw[drop_at W]at U I;rw[db]at I;refine⟨(rr r),(idx rfl W),_,_,(jj r),iW ?_ ?_⟩<;>intro D
  ·have D:Reg.aF r≠0:=by simpa using D
   rw[aap D]at I;rw[<-I,aap D]at z;refine⟨?_,trivial⟩;rw[z,aaa D]
  have D:Reg.aF r=0:=by simpa using D
  rw[aaa (by simpa using D)]at I;exact⟨wO (by omega),wO (by omega),(i+1,n+r.length),_,au.refl _ _,⟨U,I,by simp only;omega,by simp only;omega⟩,by simp only;omega,⟨rfl,adV (fun m:Nat=>AV.p (i64 (n+m))) lr,Z,Z,Z,Y⟩,⟨Z,Y⟩⟩
 rw[aaz (by omega)]at U I;have U:n=M:=U;have I:db a.coppers=0:=I.symm;rw[aaa (by simpa using I)]at z;refine⟨_,_,(jj a.outline),iW ?_ ?_⟩<;>intro D
 ·have D:Reg.aF a.outline≠0:=by simpa using D
  rw[aap D]at z;refine⟨?_,trivial⟩;rw[z,aaa D]
 have D:Reg.aF a.outline=0:=by simpa using D
 rw[aaa (by simpa using D)]at z;apply iW<;>intro g5<;>try simp only[zB]at g5
 ·rw[aap (by omega)]at z;refine⟨?_,trivial⟩;rw[z];rfl
 rw[aaa (by omega)]at z;refine⟨_,_,(uu a (by omega)),iW ?_ ?_⟩<;>intro J
 ·have J:bT a≠0:=by simpa using J
  rw[aap J]at z;refine⟨?_,trivial⟩;rw[z,aaa J]
 have J:bT a=0:=by simpa using J
 rw[aaa (by simpa using J)]at z;refine⟨_,_,(uv a ho),iW ?_ ?_⟩<;>intro L
 ·have L:c8 a≠0:=by simpa using L
  rw[aap L]at z;refine⟨?_,trivial⟩;rw[z,aaa L]
 have L:c8 a=0:=by simpa using L
 rw[aaa (by simpa using L)]at z;have zA:a.bores.length<=500:=by
  unfold Reg.bT at J;split at J
  ·cases J
  omega
 have T4:Reg.c_ a.coppers.length a.bores=0:=by rwa [Reg.bT,aaa (by omega)]at J
 have Sq:=Reg.sM T4;have VB:∀b∈a.bores,bO b=true/\P4 1000000000 (aa b):=fun b hb=>by
  have R:=ky (Sq b hb);obtain⟨a1,a2,a3,a4⟩:=Reg.Q8 (Reg.bX R) (Reg.er R);exact⟨R,⟨by omega,by omega⟩,⟨by omega,by omega⟩,⟨by omega,by omega⟩,⟨by omega,by omega⟩⟩
 refine aJ (fun i:Nat=>da a.bores i=da a.bores 0) (fun i=>[(1,.bx 1 0),(63,.p (.sl (a.bores.map bc))),(64,.p (i64 a.bores.length)),(65,.p (i64 i))]) (fun _=>[(1,.box [.p (.sl (a.coppers.map rr)),.p (aj a.outline),.p (.sl (a.bores.map bc)),.p (.sl (a.lands.map lc))])]) (fun i=>a.bores.length-i) 0 _ (au.refl _ _) rfl ⟨rfl,rfl,adV (fun m:Nat=>AV.p (i64 m)) lb,Z,Y⟩ ⟨Z,Y⟩ fun i hi t h=>?_;apply iW<;>intro g8
 ·obtain⟨x,N⟩:=ak (l:=a.bores) (i:=i) (by omega);obtain⟨x1,x2⟩:=VB x (aad N);rw[Reg.HB (by omega)]at hi;have az:aeH a.bores i=(a.bores.take i).any (eO x):=by rw[aeH,aav,N];rfl
  rw[az]at hi;refine⟨(bc x),(idx rfl N),⟨by decide,by omega,by omega,fun r W=>by obtain⟨b,_,rfl⟩:=adS.1 W;rfl⟩,?_⟩;have VC:((a.bores.take i).map bc).length=i:=by rw[aej,aat];omega
  have abu:(a.bores.take i).length=i:=by rw[aat];omega
  refine aJ (fun j:Nat=>((a.bores.take i).drop j).any (eO x)=(a.bores.take i).any (eO x)) (fun j=>[(1,.bx 1 0),(63,.p (.sl (a.bores.map bc))),(64,.p (i64 a.bores.length)),(65,.p (i64 i)),(12,.bx 12 0),(73,.p (.sl ((a.bores.take i).map bc))),(74,.p (i64 i)),(75,.p (i64 j))]) (fun _=>[(1,.box [.p (.sl (a.coppers.map rr)),.p (aj a.outline),.p (.sl (a.bores.map bc)),.p (.sl (a.lands.map lc))]),(12,.box [.p (i64 x.x),.p (i64 x.y),.p (i64 x.size),.p (i64 x.lo),.p (i64 x.hi),.p (bool x.plated)])]) (fun j=>i-j) 0 _ (au.refl _ _) rfl ⟨rfl,rfl,rfl,rfl,rfl,adV (fun l=>AV.p (PV.sl l)) (by simp[acb]),adV (fun m:Nat=>AV.p (i64 m)) (by simp;omega),Z,Y⟩ ⟨Z,Z,Y⟩ fun j O t h=>?_;apply iW<;>intro V
  ·obtain⟨y,hy⟩:=ak (l:=a.bores.take i) (i:=j) (by omega);obtain⟨y1,y2⟩:=VB y (acM (aad hy));rw[drop_at hy,abK]at O;have yes:eO x y=true->F=12:=fun hc=>by
    rw[hc,abn]at O;rw[<-O,abn]at hi;rw[<-hi,aap rfl]at z;exact z
   have no:eO x y=false->((a.bores.take i).drop (j+1)).any (eO x)=(a.bores.take i).any (eO x):=fun hc=>by
    rw[hc,abv]at O;exact O
   refine⟨(bc y),(idx rfl hy),iW ?_ ?_⟩<;>intro R
   ·apply iW<;>intro h2
    ·refine⟨_,_,(cF x x1),_,_,(cF y y1),_,_,(BM (aa x) (aa y) x2 y2),iW ?_ ?_⟩<;>intro h3
     ·have hy:=yes (by simp only[eO,aaZ,aaH];exact⟨⟨R,h2⟩,h3⟩);refine⟨?_,trivial⟩;rw[hy];rfl
     have hn:=no (by simp only[eO];rw[aaC h3,acC]);exact⟨wO (by omega),(j+1),_,au.refl _ _,hn,by omega,⟨Z,Z,Z,Z,Z,Z,Z,Z,Y⟩,⟨Z,Z,Y⟩⟩
    have hn:=no (by simp only[eO];rw[aaC h2,acC,aaI]);exact⟨wO (by omega),(j+1),_,au.refl _ _,hn,by omega,⟨Z,Z,Z,Z,Z,Z,Z,Z,Y⟩,⟨Z,Z,Y⟩⟩
   have hn:=no (by simp only[eO];rw[aaC R,aaI,aaI]);exact⟨wO (by omega),(j+1),_,au.refl _ _,hn,by omega,⟨Z,Z,Z,Z,Z,Z,Z,Z,Y⟩,⟨Z,Z,Y⟩⟩
  rw[aaz (by omega)]at O;have O:false=(a.bores.take i).any (eO x):=O;rw[<-O,abv]at hi;exact⟨wO (by omega),(i+1),_,au.refl _ _,hi,by omega,⟨Z,Z,Z,Z,Y⟩,⟨Z,Y⟩⟩
 rw[Reg.KR (by omega)]at hi;rw[<-hi,aaa (by decide)]at z;refine qy ((au.pX (by exact hC) _ 103 4 [.p (.sl (a.coppers.map rr)),.p (aj a.outline),.p (.sl (a.bores.map bc)),.p (.sl (a.lands.map lc)),.p (.im (.slice none 0 0)),.p (.im (.slice none 0 0)),.p (.im (.slice none 0 0)),.p (.im (.slice none 0 0)),.p (.im (.slice none 0 0)),.p (.im (.slice none 0 0)),.p (.im (.slice none 0 0)),.p (.im (.slice none 0 0))] (by exact rfl) (by exact rfl)).trans ((au.aeK (by exact hC) _ 103 4 90000 59 _ [.p (.sl (a.coppers.map rr)),.p (aj a.outline),.p (.sl (a.bores.map bc)),.p (.sl (a.lands.map lc)),.nl,.p (.im (.slice none 0 0)),.p (.im (.slice none 0 0)),.p (.im (.slice none 0 0)),.p (.im (.slice none 0 0)),.p (.im (.slice none 0 0)),.p (.im (.slice none 0 0)),.p (.im (.slice none 0 0))] (by decide) (by decide) (by exact rfl) (by exact rfl) (by exact rfl) (by decide)).trans ((au.pX (by exact hC) _ 103 5 [.p (.sl (a.coppers.map rr)),.p (aj a.outline),.p (.sl (a.bores.map bc)),.p (.sl (a.lands.map lc)),.ow 90000,.p (.im (.slice none 0 0)),.p (.im (.slice none 0 0)),.p (.im (.slice none 0 0)),.p (.im (.slice none 0 0)),.p (.im (.slice none 0 0)),.p (.im (.slice none 0 0)),.p (.im (.slice none 0 0))] (by exact rfl) (by exact rfl)).trans ((au.aeK (by exact hC) _ 103 5 90001 76 _ [.p (.sl (a.coppers.map rr)),.p (aj a.outline),.p (.sl (a.bores.map bc)),.p (.sl (a.lands.map lc)),.ow 90000,.nl,.p (.im (.slice none 0 0)),.p (.im (.slice none 0 0)),.p (.im (.slice none 0 0)),.p (.im (.slice none 0 0)),.p (.im (.slice none 0 0)),.p (.im (.slice none 0 0))] (by decide) (by decide) (by exact rfl) (by exact rfl) (by exact rfl) (by decide)).trans ((au.pX (by exact hC) _ 103 6 [.p (.sl (a.coppers.map rr)),.p (aj a.outline),.p (.sl (a.bores.map bc)),.p (.sl (a.lands.map lc)),.ow 90000,.ow 90001,.p (.im (.slice none 0 0)),.p (.im (.slice none 0 0)),.p (.im (.slice none 0 0)),.p (.im (.slice none 0 0)),.p (.im (.slice none 0 0)),.p (.im (.slice none 0 0))] (by exact rfl) (by exact rfl)).trans ((au.aeK (by exact hC) _ 103 6 90002 71 _ [.p (.sl (a.coppers.map rr)),.p (aj a.outline),.p (.sl (a.bores.map bc)),.p (.sl (a.lands.map lc)),.ow 90000,.ow 90001,.nl,.p (.im (.slice none 0 0)),.p (.im (.slice none 0 0)),.p (.im (.slice none 0 0)),.p (.im (.slice none 0 0)),.p (.im (.slice none 0 0))] (by decide) (by decide) (by exact rfl) (by exact rfl) (by exact rfl) (by decide)).trans ((au.pX (by exact hC) _ 103 7 [.p (.sl (a.coppers.map rr)),.p (aj a.outline),.p (.sl (a.bores.map bc)),.p (.sl (a.lands.map lc)),.ow 90000,.ow 90001,.ow 90002,.p (.im (.slice none 0 0)),.p (.im (.slice none 0 0)),.p (.im (.slice none 0 0)),.p (.im (.slice none 0 0)),.p (.im (.slice none 0 0))] (by exact rfl) (by exact rfl)).trans ((au.aeK (by exact hC) _ 103 7 90003 142 _ [.p (.sl (a.coppers.map rr)),.p (aj a.outline),.p (.sl (a.bores.map bc)),.p (.sl (a.lands.map lc)),.ow 90000,.ow 90001,.ow 90002,.nl,.p (.im (.slice none 0 0)),.p (.im (.slice none 0 0)),.p (.im (.slice none 0 0)),.p (.im (.slice none 0 0))] (by decide) (by decide) (by exact rfl) (by exact rfl) (by exact rfl) (by decide)).trans ((au.pX (by exact hC) _ 103 8 [.p (.sl (a.coppers.map rr)),.p (aj a.outline),.p (.sl (a.bores.map bc)),.p (.sl (a.lands.map lc)),.ow 90000,.ow 90001,.ow 90002,.ow 90003,.p (.im (.slice none 0 0)),.p (.im (.slice none 0 0)),.p (.im (.slice none 0 0)),.p (.im (.slice none 0 0))] (by exact rfl) (by exact rfl)).trans ((au.aeK (by exact hC) _ 103 8 90004 3 _ [.p (.sl (a.coppers.map rr)),.p (aj a.outline),.p (.sl (a.bores.map bc)),.p (.sl (a.lands.map lc)),.ow 90000,.ow 90001,.ow 90002,.ow 90003,.nl,.p (.im (.slice none 0 0)),.p (.im (.slice none 0 0)),.p (.im (.slice none 0 0))] (by decide) (by decide) (by exact rfl) (by exact rfl) (by exact rfl) (by decide)).trans ((au.pX (by exact hC) _ 103 9 [.p (.sl (a.coppers.map rr)),.p (aj a.outline),.p (.sl (a.bores.map bc)),.p (.sl (a.lands.map lc)),.ow 90000,.ow 90001,.ow 90002,.ow 90003,.ow 90004,.p (.im (.slice none 0 0)),.p (.im (.slice none 0 0)),.p (.im (.slice none 0 0))] (by exact rfl) (by exact rfl)).trans ((au.aeK (by exact hC) _ 103 9 90005 3 _ [.p (.sl (a.coppers.map rr)),.p (aj a.outline),.p (.sl (a.bores.map bc)),.p (.sl (a.lands.map lc)),.ow 90000,.ow 90001,.ow 90002,.ow 90003,.ow 90004,.nl,.p (.im (.slice none 0 0)),.p (.im (.slice none 0 0))] (by decide) (by decide) (by exact rfl) (by exact rfl) (by exact rfl) (by decide)).trans ((au.pX (by exact hC) _ 103 10 [.p (.sl (a.coppers.map rr)),.p (aj a.outline),.p (.sl (a.bores.map bc)),.p (.sl (a.lands.map lc)),.ow 90000,.ow 90001,.ow 90002,.ow 90003,.ow 90004,.ow 90005,.p (.im (.slice none 0 0)),.p (.im (.slice none 0 0))] (by exact rfl) (by exact rfl)).trans ((au.aeK (by exact hC) _ 103 10 90006 3 _ [.p (.sl (a.coppers.map rr)),.p (aj a.outline),.p (.sl (a.bores.map bc)),.p (.sl (a.lands.map lc)),.ow 90000,.ow 90001,.ow 90002,.ow 90003,.ow 90004,.ow 90005,.nl,.p (.im (.slice none 0 0))] (by decide) (by decide) (by exact rfl) (by exact rfl) (by exact rfl) (by decide)).trans ((au.pX (by exact hC) _ 103 11 [.p (.sl (a.coppers.map rr)),.p (aj a.outline),.p (.sl (a.bores.map bc)),.p (.sl (a.lands.map lc)),.ow 90000,.ow 90001,.ow 90002,.ow 90003,.ow 90004,.ow 90005,.ow 90006,.p (.im (.slice none 0 0))] (by exact rfl) (by exact rfl)).trans ((au.aeK (by exact hC) _ 103 11 90007 174 _ [.p (.sl (a.coppers.map rr)),.p (aj a.outline),.p (.sl (a.bores.map bc)),.p (.sl (a.lands.map lc)),.ow 90000,.ow 90001,.ow 90002,.ow 90003,.ow 90004,.ow 90005,.ow 90006,.nl] (by decide) (by decide) (by exact rfl) (by exact rfl) (by exact rfl) (by decide)).trans (au.pack (by exact hC) _ 103 (bs:=[.p (.sl (a.coppers.map rr)),.p (aj a.outline),.p (.sl (a.bores.map bc)),.p (.sl (a.lands.map lc)),.ow 90000,.ow 90001,.ow 90002,.ow 90003,.ow 90004,.ow 90005,.ow 90006,.ow 90007]) (cs:=[.p (.sl (a.coppers.map rr)),.p (aj a.outline),.p (.sl (a.bores.map bc)),.p (.sl (a.lands.map lc)),.row 59 [],.row 76 [],.row 71 [],.row 142 [],.row 3 [],.row 3 [],.row 3 [],.row 174 []]) (by exact rfl) (by exact rfl) (by exact⟨Z,Z,Z,Z,Z,Z,Z,Z,Z,Z,Z,Z,Y⟩)))))))))))))))))) ?_;have ha:iD a:=by
  refine⟨⟨by omega,by omega⟩,Reg.jo I,D,zA,Sq,?_⟩;unfold c8 at L;split at L
  ·cases L
  omega
 refine⟨_,_,(Dj a ha),iW ?_ ?_⟩<;>intro V
 ·rw[aaa (by simpa using V)]at z;refine⟨?_,trivial⟩;rw[z];rfl
 rw[aap (by simpa using V)]at z;have V:eG a=true:=by simpa using V
 simp only[eG,aaZ,aaH]at V;have Q9:∀p∈Reg.bG a.bores 0 a.coppers,(told p.set).length<=4398046511104:=fun p hp=>by
  obtain⟨i,r,R,h2,h3⟩:=Reg.mH hp;have dr:=jV (fun b hb=>ky (Sq b hb)) zA (0+(i:Int)) (Reg.jo I r (aad R));obtain⟨p1,_,_,p3⟩:=Reg.rD dr.sok h3;exact Reg.fj p1 ((p3 _ dr.ink).up (by omega))
 have Yh:=zE a ha ((Reg.gO a.bores 0 a.coppers).map fun s=>[aw s]) (Reg.bG a.bores 0 a.coppers) (Reg.bB a.bores (Reg.bG a.bores 0 a.coppers)) (by omega) Q9 (aej _) _ rfl _ _ rfl _ rfl (fun x N p hp=>by
  obtain⟨b,_,rfl⟩:=adS.1 N;have:=Reg.rE b _ 0 p hp;omega) (fun x N=>by
  obtain⟨b,_,rfl⟩:=adS.1 N;have:=Reg.sU b (Reg.bG a.bores 0 a.coppers) 0;omega)
 refine⟨_,_,(Dk a ha _ _ (by omega) Q9),_,_,Yh,?_⟩;refine qy ((au.open (by exact hC) _ 103 [90000,90001,90002,90003,90004,90005,90006,90007] (cs:=[.p (.sl (a.coppers.map rr)),.p (aj a.outline),.p (.sl (a.bores.map bc)),.p (.sl (a.lands.map lc)),.row 59 ((aC a).drilled.map fun s=>[aw s]),.row 76 ((aC a).pieces.map jb),.row 71 ((aC a).bB.map fun l=>[ints l]),.row 142 ((aC a).placed.groups.map sT),.row 3 (aA (aC a).ofPiece),.row 3 (aA (aC a).ofBore),.row 3 (aA (aC a).placed.ofLand),.row 174 ((aC a).placed.atLand.map je)]) (by exact rfl) rfl rfl rfl).trans ((au.fB (by exact hC) _ 103 4 90000 59 ((aC a).drilled.map fun s=>[aw s]) [.p (.sl (a.coppers.map rr)),.p (aj a.outline),.p (.sl (a.bores.map bc)),.p (.sl (a.lands.map lc)),.ow 90000,.ow 90001,.ow 90002,.ow 90003,.ow 90004,.ow 90005,.ow 90006,.ow 90007] (by decide) (by exact rfl) (by exact rfl) (by exact rfl)).trans ((au.fB (by exact hC) _ 103 5 90001 76 ((aC a).pieces.map jb) [.p (.sl (a.coppers.map rr)),.p (aj a.outline),.p (.sl (a.bores.map bc)),.p (.sl (a.lands.map lc)),.p (.sl ((aC a).drilled.map fun s=>[aw s])),.ow 90001,.ow 90002,.ow 90003,.ow 90004,.ow 90005,.ow 90006,.ow 90007] (by decide) (by exact rfl) (by exact rfl) (by exact rfl)).trans ((au.fB (by exact hC) _ 103 6 90002 71 ((aC a).bB.map fun l=>[ints l]) [.p (.sl (a.coppers.map rr)),.p (aj a.outline),.p (.sl (a.bores.map bc)),.p (.sl (a.lands.map lc)),.p (.sl ((aC a).drilled.map fun s=>[aw s])),.p (.sl ((aC a).pieces.map jb)),.ow 90002,.ow 90003,.ow 90004,.ow 90005,.ow 90006,.ow 90007] (by decide) (by exact rfl) (by exact rfl) (by exact rfl)).trans ((au.fB (by exact hC) _ 103 7 90003 142 ((aC a).placed.groups.map sT) [.p (.sl (a.coppers.map rr)),.p (aj a.outline),.p (.sl (a.bores.map bc)),.p (.sl (a.lands.map lc)),.p (.sl ((aC a).drilled.map fun s=>[aw s])),.p (.sl ((aC a).pieces.map jb)),.p (.sl ((aC a).bB.map fun l=>[ints l])),.ow 90003,.ow 90004,.ow 90005,.ow 90006,.ow 90007] (by decide) (by exact rfl) (by exact rfl) (by exact rfl)).trans ((au.fB (by exact hC) _ 103 8 90004 3 (aA (aC a).ofPiece) [.p (.sl (a.coppers.map rr)),.p (aj a.outline),.p (.sl (a.bores.map bc)),.p (.sl (a.lands.map lc)),.p (.sl ((aC a).drilled.map fun s=>[aw s])),.p (.sl ((aC a).pieces.map jb)),.p (.sl ((aC a).bB.map fun l=>[ints l])),.p (.sl ((aC a).placed.groups.map sT)),.ow 90004,.ow 90005,.ow 90006,.ow 90007] (by decide) (by exact rfl) (by exact rfl) (by exact rfl)).trans ((au.fB (by exact hC) _ 103 9 90005 3 (aA (aC a).ofBore) [.p (.sl (a.coppers.map rr)),.p (aj a.outline),.p (.sl (a.bores.map bc)),.p (.sl (a.lands.map lc)),.p (.sl ((aC a).drilled.map fun s=>[aw s])),.p (.sl ((aC a).pieces.map jb)),.p (.sl ((aC a).bB.map fun l=>[ints l])),.p (.sl ((aC a).placed.groups.map sT)),.p (.sl (aA (aC a).ofPiece)),.ow 90005,.ow 90006,.ow 90007] (by decide) (by exact rfl) (by exact rfl) (by exact rfl)).trans ((au.fB (by exact hC) _ 103 10 90006 3 (aA (aC a).placed.ofLand) [.p (.sl (a.coppers.map rr)),.p (aj a.outline),.p (.sl (a.bores.map bc)),.p (.sl (a.lands.map lc)),.p (.sl ((aC a).drilled.map fun s=>[aw s])),.p (.sl ((aC a).pieces.map jb)),.p (.sl ((aC a).bB.map fun l=>[ints l])),.p (.sl ((aC a).placed.groups.map sT)),.p (.sl (aA (aC a).ofPiece)),.p (.sl (aA (aC a).ofBore)),.ow 90006,.ow 90007] (by decide) (by exact rfl) (by exact rfl) (by exact rfl)).trans (au.fB (by exact hC) _ 103 11 90007 174 ((aC a).placed.atLand.map je) [.p (.sl (a.coppers.map rr)),.p (aj a.outline),.p (.sl (a.bores.map bc)),.p (.sl (a.lands.map lc)),.p (.sl ((aC a).drilled.map fun s=>[aw s])),.p (.sl ((aC a).pieces.map jb)),.p (.sl ((aC a).bB.map fun l=>[ints l])),.p (.sl ((aC a).placed.groups.map sT)),.p (.sl (aA (aC a).ofPiece)),.p (.sl (aA (aC a).ofBore)),.p (.sl (aA (aC a).placed.ofLand)),.ow 90007] (by decide) (by exact rfl) (by exact rfl) (by exact rfl)))))))))) ?_;exact And.intro (by rw[z,aap rfl];rfl) trivial
open Reg (BR through ahD bN uo nM a_ coreS at')
structure Break where
 kind:Int
 a:Int
 b:Int
 is:Int
 need:Int
 spot:Int×Int
def aft(nets:List ByteArray)(g:Int):ByteArray:=nets.getD g.toNat M4
def aeJ(r:cP)(a:fS)(nets:List ByteArray):Int:=
 if bC r≠0 then bC r else
 if dc a≠0 then dc a else
 if nets.length≠(aC a).placed.groups.length then 3 else
 if (nets.any fun s=>!afe s)=true then 5 else 0
end M
namespace Reg
theorem nD{y:Int}:∀{s:List an},bE s->∀{b c:an},b∈s->c∈s->b.y0<=y->y<b.y1->c.y0<=y->y<c.y1->b=c
 | [],_,b,c,hb,_,_,_,_,_=>by cases hb
 | d::s,h,b,c,hb,hc,L,N,c1,c2=>by
  rcases adq.1 hb with J | D
  ·rcases adq.1 hc with I | z
   ·rw[J,I]
   have:=h.fM c z;subst J;omega
  rcases adq.1 hc with I | z
  ·have:=h.fM b D;subst I;omega
  exact nD h.tail D z L N c1 c2
theorem wS{x:Int}:∀{s:aU},Canon s->∀{p q:Int×Int},p∈s->q∈s->p.1<=x->x<p.2->q.1<=x->x<q.2->p=q
 | [],_,p,q,hp,_,_,_,_,_=>by cases hp
 | d::s,h,p,q,hp,hq,J,L,q1,N=>by
  rcases adq.1 hp with I | D
  ·rcases adq.1 hq with eq | z
   ·rw[I,eq]
   have:=h.behind q z;subst I;omega
  rcases adq.1 hq with eq | z
  ·have:=h.behind p D;subst eq;omega
  exact wS h.tail D z J L q1 N
variable {s:List an}
theorem HE(h:bE s){x y:Int}{a b:ae}(D:a∈told s)(hb:b∈told s)(I:dE x y a=true)(J:dE x y b=true):a=b:=by
 obtain⟨c,z,p,hp,rfl⟩:=gf.1 D;obtain⟨d,L,q,N,rfl⟩:=gf.1 hb;obtain⟨O,R,U,V⟩:=aQ.1 I;obtain⟨W,Y,Z,b4⟩:=aQ.1 J;have e:=nD h z L U V Z b4;subst e;have e:=wS (h.mem c z).can hp N O R W Y;subst e;rfl
theorem HF(h:bE s):(told s).Nodup:=by
 rw[abO];refine (pk h).imp fun {a b} z e=>?_;have:=gN.1 z;subst e;omega
theorem vN(h:bE s){l:List ae}(hl:∀r∈l,r∈told s):(told (aB l)).length<=l.length:=by
 obtain⟨I,L,_⟩:=aR fun r J=>bP h r (hl r J);have hn:((told (aB l)).map fun q=>(q.y0,q.x0)).Nodup:=by
  rw[abO,acZ];refine (pk I).imp fun {a b} qb e=>?_;have:=gN.1 qb;simp only[Prod.mk.injEq]at e;omega
 have:=uy (m:=l.map fun q=>(q.y0,q.x0)) hn fun z hz=>by
  obtain⟨q,hq,rfl⟩:=adS.1 hz;obtain⟨b,hb,p,hp,rfl⟩:=gf.1 hq;have D:=I.mem b hb;have V:at' (aB l) p.1 b.y0=true:=by
   rw[Dh I hb (aaD _) D.lt,cu D.can];exact⟨p,hp,aaD _,ahL D.can p hp⟩
  rw[L,aci]at V;obtain⟨r,J,hx⟩:=V;have Yi:=hl r J;obtain⟨c,W,t,ht,rfl⟩:=gf.1 Yi;obtain⟨x1,x2,Y,Z⟩:=aQ.1 hx;simp only at x1 x2 Y Z;have e1:t.1=p.1:=by
   refine acz fun b8=>?_;have:at' (aB l) (p.1-1) b.y0=true:=by
    rw[L,aci];exact⟨_,J,aQ.2 ⟨by simp only;omega,by simp only;omega,Y,Z⟩⟩
   rw[Dh I hb (aaD _) D.lt,cu D.can]at this;exact sS D.can hp this
  have e2:c.y0=b.y0:=by
   refine acz fun b8=>?_;obtain⟨x,Yj⟩:=BN I hb;refine Yj ?_;rw[L,L];refine oy fun r' m_=>?_;obtain⟨d,hd,u,hu,rfl⟩:=gf.1 (hl r' m_);rw[abb,aQ,aQ];simp only;constructor
   ·rintro⟨N,O,R,U⟩;have:=nD h hd W R U (by omega) (by omega);subst this;exact⟨N,O,by omega,by omega⟩
   rintro⟨N,O,R,U⟩;have:=nD h hd W R U (by omega) (by omega);subst this;exact⟨N,O,by omega,by omega⟩
  exact adS.2 ⟨_,J,by simp only[e1,e2]⟩
 rw[aej,aej]at this;exact this
theorem Fq{l:List ae}{m:Nat}(h:m<l.length):l[m]?=some (l.getD m bg):=by
 rw[aav,acg h];rfl
theorem zF(p:Nat->Nat)(i r:Nat):(dh p i r).Nodup:=ac2 aeb List.nodup_range
theorem BT{α:Type}:∀{l:List α},l.Nodup->∀{a b:Nat} {x:α},l[a]?=some x->l[b]?=some x->a=b
 | [],_,a,b,x,ha,_=>by simp at ha
 | y::l,h,a,b,x,ha,hb=>by
  have h':=aai.1 h;cases a with
  | zero=>
   cases b with
   | zero=>rfl
   | succ b=>
    have e:=Option.some.inj ha;exact absurd (by rw[e];exact aad (by simpa using hb)) h'.1
  | succ a=>
   cases b with
   | zero=>
    have e:=Option.some.inj hb;exact absurd (by rw[e];exact aad (by simpa using ha)) h'.1
   | succ b=>rw[BT h'.2 (a:=a) (b:=b) (by simpa using ha) (by simpa using hb)]
theorem KS(h:bE s){a b:Nat}{l m:List ae}(z:(ox s)[a]?=some l)(hb:(ox s)[b]?=some m)(Z:a≠b):
  l.length+m.length<=(told s).length/\∀r∈l,∀q∈m,∀x y,¬(dE x y r=true/\dE x y q=true):=by
 obtain⟨u1,u2⟩:=zv s;rw[ox,aak,aP,aak]at z hb;cases D:(cd (cQ (jE s)) (told s).length)[a]? with
 | none=>rw[D]at z;cases z
 | some L=>
  cases I:(cd (cQ (jE s)) (told s).length)[b]? with
  | none=>rw[I]at hb;cases hb
  | some N=>
   rw[D]at z;rw[I]at hb;have z:=(Option.some.inj z).symm;have hb:=(Option.some.inj hb).symm;have hk:L≠N:=fun e=>by
    subst e;exact Z (aiK (afh _ _) D I)
   have hd:(dh (cQ (jE s)) (told s).length L++dh (cQ (jE s)) (told s).length N).Nodup:=by
    rw[abV];refine⟨zF _ _ _,zF _ _ _,fun i hi j J e=>?_⟩;subst e;exact hk ((dx.1 hi).2.symm.trans (dx.1 J).2)
   have:=uy (m:=List.range (told s).length) hd fun i hi=>by
    rw[abD];rcases abi.1 hi with hi | hi
    ·exact (dx.1 hi).1
    exact (dx.1 hi).1
   rw[acv,adN]at this;refine⟨by rw[z,hb,aej,aej];exact this,fun r O q R x y U=>?_⟩;rw[z]at O;rw[hb]at R;obtain⟨i,hi,rfl⟩:=adS.1 O;obtain⟨j,J,rfl⟩:=adS.1 R;obtain⟨V,i2⟩:=dx.1 hi;obtain⟨W,j2⟩:=dx.1 J;have e:=HE h (vK V) (vK W) U.1 U.2;have Y:=Fq V;have Lw:=Fq W;rw[e]at Y;have:=BT (HF h) Y Lw;subst this;exact hk (i2.symm.trans j2)
theorem NG{a:Nat}{l:List ae}(z:(ox s)[a]?=some l):l.length<=(told s).length:=by
 rw[ox,aak,aP,aak]at z;cases D:(cd (cQ (jE s)) (told s).length)[a]? with
 | none=>rw[D]at z;cases z
 | some ka=>
  rw[D]at z;have z:=(Option.some.inj z).symm;rw[z,aej];exact qJ _ _ _
variable {bs:List aS}
theorem HG{p q:Piece}(J:p.layer=q.layer)(l:List (List ae)):∀(k:Int) (i j:Nat),(bG bs k l)[i]?=some p->(bG bs k l)[j]?=some q->i<j ->
  ∃(n:Nat) (r:List ae) (a b:Nat),l[n]?=some r/\a<b/\(cV (bU bs (k+n) r))[a]?=some p.set/\(cV (bU bs (k+n) r))[b]?=some q.set:=by
 induction l with
 | nil=>intro k i j hp;rw[bG]at hp;cases hp
 | cons r l ih=>
  intro k i j hp D O;rw[bG]at hp D;obtain⟨S,hS⟩:∃S,S=cV (bU bs k r):=⟨_,rfl⟩;rw[<-hS]at hp D;by_cases c:j<S.length
  ·rw[aaE (by rw[aej];omega),aak]at hp D;cases I:S[i]? with
   | none=>rw[I]at hp;cases hp
   | some s=>
    cases eq:S[j]? with
    | none=>rw[eq]at D;cases D
    | some t=>
     rw[I]at hp;rw[eq]at D;have hp:=Option.some.inj hp;have D:=Option.some.inj D;have z:k+((0:Nat):Int)=k:=by omega
     refine⟨0,r,i,j,rfl,O,?_,?_⟩
     ·rw[z,<-hS,I,<-hp]
     rw[z,<-hS,eq,<-D]
  rw[acu (by rw[aej];omega)]at D;obtain⟨n,r',L,N,_⟩:=mH (aad D);by_cases d:i<S.length
  ·rw[aaE (by rw[aej];omega),aak]at hp;cases I:S[i]? with
   | none=>rw[I]at hp;cases hp
   | some s=>
    rw[I]at hp;have hp:=Option.some.inj hp;rw[<-hp]at J;simp only at J;omega
  rw[acu (by rw[aej];omega)]at hp;obtain⟨n,r',a,b,L,N,R,U⟩:=ih (k+1) _ _ hp D (by rw[aej];omega);have e:k+((n+1:Nat):Int)=k+1+(n:Int):=by omega
  exact⟨n+1,r',a,b,by simpa using L,N,by rw[e];exact R,by rw[e];exact U⟩
theorem xR:∀{l:List (List ae)} {k:Int},qL bs k l=true->∀(n:Nat) r,l[n]?=some r->(told (bU bs (k+n) r)).length<=2000
 | [],k,_,n,r,h=>by simp at h
 | q::l,k,hf,n,r,h=>by
  rw[qL,aaZ,aaH]at hf;cases n with
  | zero=>
   have:=Option.some.inj h;subst this;simpa using hf.1
  | succ n=>
   have:=xR hf.2 n r (by simpa using h);have e:k+((n+1:Nat):Int)=k+1+(n:Int):=by omega
   rw[e];exact this
structure O7(p q:Piece):Prop where
 jB:(told p.set).length+(told q.set).length<=2000
 apart:∀x y,¬(at' p.set x y=true/\at' q.set x y=true)
theorem PR{l:List (List ae)}{k:Int}{i j:Nat}{p q:Piece}(Y:∀(n:Nat) r,l[n]?=some r->bE (bU bs (k+n) r))(Z:qL bs k l=true)(hp:(bG bs k l)[i]?=some p)(hq:(bG bs k l)[j]?=some q)(DX:i<j)(he:p.layer=q.layer):O7 p q:=by
 obtain⟨n,r,a,b,R,h2,z,D⟩:=HG he _ _ _ _ hp hq DX;have I:=Y n r R;have zA:=xR Z n r R;rw[cV,aak]at z D;cases J:(ox (bU bs (k+n) r))[a]? with
 | none=>rw[J]at z;cases z
 | some x=>
  cases L:(ox (bU bs (k+n) r))[b]? with
  | none=>rw[L]at D;cases D
  | some y=>
   rw[J]at z;rw[L]at D;have z:=Option.some.inj z;have D:=Option.some.inj D;obtain⟨c1,c2⟩:=KS I J L (by omega);have U:=(afp (aad J)).2;have V:=(afp (aad L)).2;have sx:=vN I U;have sy:=vN I V;obtain⟨_,bx,_⟩:=aR fun r N=>bP I r (U r N);obtain⟨_,O,_⟩:=aR fun r N=>bP I r (V r N);refine⟨by rw[<-z,<-D];omega,fun u v W=>?_⟩;rw[<-z,<-D,bx,O,aci,aci]at W;obtain⟨⟨r1,m1,e1⟩,r2,m2,e2⟩:=W;exact c2 r1 m1 r2 m2 u v ⟨e1,e2⟩
end Reg
namespace M
open Reg (ae an aS fS Piece BR bE cv told aB bO aa through fT aC ahD bN uo nM a_ coreS at' jn aP cQ jm bB bG mG)
theorem Fs{a:fS}(h:dc a=0):iD a/\Reg.eG a=true/\Reg.da a.bores 0=false:=by
 unfold dc at h;split at h
 ·cases h
 rename_i g1;split at h
 ·cases h
 rename_i g2;split at h
 ·rename_i g;exact absurd h g
 rename_i I;have I:Reg.db a.coppers=0:=by simpa using I
 split at h
 ·rename_i g;exact absurd h g
 rename_i J;have J:Reg.aF a.outline=0:=by simpa using J
 split at h
 ·cases h
 split at h
 ·rename_i g;exact absurd h g
 rename_i z;have z:Reg.bT a=0:=by simpa using z
 split at h
 ·rename_i g;exact absurd h g
 rename_i D;have D:c8 a=0:=by simpa using D
 split at h
 ·cases h
 rename_i L;split at h
 ·rename_i N;have O:a.bores.length<=500:=by
   unfold Reg.bT at z;split at z
   ·cases z
   omega
  have R:Reg.c_ a.coppers.length a.bores=0:=by rwa [Reg.bT,aaa (by omega)]at z
  refine⟨⟨⟨by omega,by omega⟩,Reg.jo I,J,O,Reg.sM R,?_⟩,N,by simpa using L⟩;unfold c8 at D;split at D
  ·cases D
  omega
 cases h
structure VD(a:fS)(p:Piece):Prop where
 sok:bE p.set
 ink:cv 1000000 p.set
 ne:p.set≠[]
 jB:(told p.set).length<=2000
 lo:0<=p.layer
 hi:p.layer<a.coppers.length
structure Ft(a:fS):Prop where
 art:iD a
 jB:(aC a).pieces.length<=2000
 pc:∀p∈(aC a).pieces,VD a p
 two:∀(i j:Nat) p q,(aC a).pieces[i]?=some p->(aC a).pieces[j]?=some q->i<j->p.layer=q.layer->Reg.O7 p q
 gr:mG a.bores (aC a).pieces.length (((aC a).ofPiece,(aC a).ofBore),(jn a.bores (aC a).pieces.length (aP (cQ (jm (aC a).pieces.length a.bores.length (aC a).bB)) ((aC a).pieces.length+a.bores.length))).2)
theorem jv{a:fS}(z:iD a):∀b∈a.bores,bO b=true:=fun b hb=>ky (z.bor b hb)
theorem jW{a:fS}(h:dc a=0):Ft a:=by
 obtain⟨D,I,_⟩:=Fs h;have J:∀(n:Nat) r,a.coppers[n]?=some r->SO (Reg.bU a.bores (0+n) r):=fun n r L=>jV (jv D) D.jB _ (D.reg r (aad L));rw[Reg.eG,aaZ,aaH]at I;refine⟨D,I.2,fun p hp=>?_,fun i j p q hp O R U=>Reg.PR (fun n r L=>(J n r L).sok) I.1 hp O R U,?_⟩
 ·obtain⟨n,r,z,h2,N⟩:=Reg.mH hp;have hn:=(aao.1 z).1;obtain⟨V,W,_,Y⟩:=Reg.rD (J n r z).sok N;refine⟨V,Y _ (J n r z).ink,W,?_,by omega,by omega⟩;have zA:=Reg.xR I.1 n r z;obtain⟨l,hl,e⟩:=adS.1 N;have Z:=(Reg.afp hl).2;have s1:=Reg.vN (J n r z).sok Z;obtain⟨k,hk⟩:=List.getElem?_of_mem hl;have s2:=Reg.NG hk;rw[<-e];omega
 have ht:∀x∈bB a.bores (bG a.bores 0 a.coppers),∀p∈x,0<=p/\p<((bG a.bores 0 a.coppers).length:Int):=fun x hx p hp=>by
  obtain⟨b,_,rfl⟩:=adS.1 hx;have:=Reg.rE b (bG a.bores 0 a.coppers) 0 p hp;omega
 have hl:(bB a.bores (bG a.bores 0 a.coppers)).length=a.bores.length:=by rw[Reg.bB,aej]
 obtain⟨u1,u2⟩:=Reg.qM (n:=(bG a.bores 0 a.coppers).length) (nb:=a.bores.length) (bB a.bores (bG a.bores 0 a.coppers)) 0 (Reg.iota ((bG a.bores 0 a.coppers).length+a.bores.length)) (Reg.ny _) (Reg.aeM _) (by omega) ht;exact Reg.vL u1 u2
theorem agx{r:cP}(z:zd r)(x:ByteArray):0<=E3 r x/\E3 r x<=100000:=by
 have D:=z.nums;simp only[gM,cL,aaZ,aaH]at D;rw[E3];split
 ·rename_i h;refine⟨by omega,?_⟩;rw[aeR]at h ⊢;cases e:r.classes.find? fun c=>hasB c.nets x&&!decide (x=M4) with
  | none=>rw[e]at h;simp[agP]at h
  | some c=>
   have:=(z.cl c (aeg e)).2.2.2.2;simp only[cL,aaZ,aaH]at this;exact this.2
 exact⟨by omega,by omega⟩
theorem aie{r:cP}(z:zd r)(x:ByteArray):0<=ae2 r x/\ae2 r x<=100000:=by
 have D:=z.nums;simp only[gM,cL,aaZ,aaH]at D;rw[ae2];split
 ·rename_i h;refine⟨by omega,?_⟩;rw[aeR]at h ⊢;cases e:r.classes.find? fun c=>hasB c.nets x&&!decide (x=M4) with
  | none=>rw[e]at h;simp[agP]at h
  | some c=>
   have:=(z.cl c (aeg e)).2.2.2.1;simp only[cL,aaZ,aaH]at this;exact this.2
 exact⟨by omega,by omega⟩
def kU(a b:Break):Prop:=a.kind=b.kind/\a.a=b.a/\a.b=b.b/\a.is=b.is
def Has(l m:List Break):Prop:=∀b∈l,∃c∈m,kU b c
theorem Has.nil(m:List Break):Has [] m:=fun b hb=>by cases hb
theorem gz{b:aS}(h:bO b=true):bE (aB [aa b])/\cv 1010000 (aB [aa b]):=by
 have D:=Reg.aR (l:=[aa b]) (fun q z=>by rw[ab_]at z;subst z;exact Reg.bX h);refine⟨D.1,D.2.2 _ fun q z=>?_⟩;rw[ab_]at z;subst z;exact Reg.er h
theorem xS{l:List ae}(h:Reg.aF l=0):bE (aB l)/\cv 1000000 (aB l):=by
 have h:=ph h;have hb:=Reg.aR h.full;exact⟨hb.1,hb.2.2 _ h.rk⟩
end M
end Go.Proofs.YtfloceomobknoaaGreatDoor
namespace Go.AM
theorem eL.ZJ{S S':Nat->Prop}{w:World}{P:Program}:∀{xs:List PV} {vs:List Value},eL S w P (xs.map .pv) [] vs->eL S' w P (xs.map .pv) [] vs
 | [],[],h=>h
 | [],_::_,h=>h
 | _::_,[],h=>h
 | _::xs,_::vs,h=>eL.ZJ (xs:=xs) (vs:=vs) h
theorem af.jA{C:Ctx}{f:FuncId}{xs:List PV}{e:TypeId}{es:List (List PV)}(h:af C f (xs.map .pv) (.own e es) []):af C f (xs.map .pv) (.p (.sl es)) []:=by
 refine⟨h.1,fun S w vs D hS hl I J=>(h.2 S w vs D hS hl I J).mono ?_⟩;rintro e' w' ⟨v,S',rfl,fr,L,N,O,R,U,V,z⟩;have W:aG C.P w' (aO S' w') e es v:=R.1;refine⟨v,fun b=>S' b\/cC v=some b,rfl,fr,fun b hb=>.inl (L b hb),fun b hb=>?_,fun b hb=>?_,W.DT (fun b h=>.inl h) (fun g h=>.inr h),eL.ZJ U,V,fun g Y=>by cases Y⟩
 ·rcases hb with hb | hb
  ·exact N b hb
  exact (z b rfl (DM hb)).1
 rcases hb with hb | hb
 ·exact O b hb
 exact .inr (z b rfl (DM hb)).2.1
end Go.AM
namespace Go.Proofs.YtfloceomobknoaaGreatDoor
namespace M
open Go.AM Go.RowKit Go.Lib
open Reg (ae an aS fS Piece BR bE cv told aB bO aa through aC ahD bN uo nM a_ coreS)
theorem zG{l:List ae}(h:Nf l):af C 34 [.pv (aj l)] (.p (aw (aB l))) []:=af.jA (xs:=[aj l]) (BB h)
theorem zH{b:aS}(h:bO b=true):af C 34 [.pv (aj [aa b])] (.p (aw (aB [aa b]))) []:=af.jA (xs:=[aj [aa b]]) (kG [aa b] 1010000 (by omega) (by omega) (fun q z=>by rw[ab_]at z;subst z;exact Reg.bX h) (fun q z=>by rw[ab_]at z;subst z;exact Reg.er h) (by simp))
theorem open_1(s:ByteArray)(z:ue s):af C 150 [.pv (str s)] (.p (bool (!afe s))) []:=by
 refine fW hC Tryz.func150 rfl (by kernel_rfl) fun _=>?_;refine⟨_,_,(agt s z),?_,trivial⟩;rfl
theorem agI(l:List ByteArray)(hN:l.length<=140737488355328)(L:∀s∈l,ue s):af C 210 [.pv (strs l),.pv (vA 150)] (.p (i64 (jO (fun s=>!afe s) l 0))) []:=by
 refine fW hC Tryz.func210 rfl (by kernel_rfl) fun _=>?_;have lm:=ai l fun s=>[str s];refine aJ (fun i:Nat=>i<=l.length/\∀z∈l.take i,(!afe z)=false) (fun i=>[(0,.p (strs l)),(1,.p (vA 150)),(7,.p (i64 (l.map fun s=>[str s]).length)),(8,.p (i64 i))]) (fun _=>[]) (fun i=>l.length-i) 0 _ (au.refl _ _) ⟨aaj _,by simp⟩ ⟨Z,Z,Z,Z,Y⟩ trivial fun i hi t h=>?_;apply iW<;>intro J
 ·rw[lm]at J;obtain⟨r,I⟩:=ak (l:=l) (i:=i) (by omega);refine⟨[str r],(idx rfl I),_,_,(open_1 r (L r (aad I))),iW ?_ ?_⟩<;>intro D
  ·have D:(!afe r)=true:=by simpa using D
   refine⟨?_,trivial⟩;rw[lY (p:=fun s=>!afe s) I D hi.2,abC]
  have D:(!afe r)=false:=by simpa using D
  exact⟨wO (by omega),(i+1),_,au.refl _ _,⟨by omega,tW (p:=fun s=>!afe s) I D hi.2⟩,by omega,⟨Z,Z,Z,Z,Y⟩,trivial⟩
 rw[lm]at J;refine⟨?_,trivial⟩;have D:=hi.2;rw[adW (by omega)]at D;rw[iV (p:=fun s=>!afe s) D];rfl
theorem aga(l:List ByteArray)(z:l.length<=140737488355328)(D:∀s∈l,ue s):af C 149 [.pv (strs l),.pv (vA 150)] (.p (bool (l.any fun s=>!afe s))) []:=by
 refine fW hC Tryz.func149 rfl (by kernel_rfl) fun _=>?_;refine⟨_,_,(agI l z D),?_,trivial⟩;rw[<-oX _ l 0];rfl
def agl(r:cP)(a:fS)(nets:List ByteArray):PV:=if aeJ r a nets=0 then .ip (kW a) else .im (.pointer none)
structure afj(l:List ByteArray):Prop where
 len:l.length<=1000000000
 str:∀s∈l,ue s
theorem agJ(r:cP)(N:e8 r)(a:fS)(O:ly a)(nets:List ByteArray)(J:afj nets):af C 69 [.pv (.ag (rl r)),.pv (.ag (dX a)),.pv (strs nets)] (.tu [agl r a nets,i64 (aeJ r a nets)]) []:=by
 have ln:=ai nets fun s=>[str s];have lg:=ai (aC a).placed.groups sT;have hn1:=J.len;obtain⟨F,z⟩:∃F,F=aeJ r a nets:=⟨_,rfl⟩;have R:agl r a nets=if F=0 then .ip (kW a) else .im (.pointer none):=by rw[z];rfl
 rw[R,<-z];rw[aeJ]at z;refine fW hC Tryz.func69 rfl (by kernel_rfl) fun _=>?_;refine⟨_,_,(jQ r N),iW ?_ ?_⟩<;>intro D
 ·have D:bC r≠0:=by simpa using D
  rw[aap D]at z;refine⟨?_,trivial⟩;rw[z,aaa D]
 have D:bC r=0:=by simpa using D
 rw[aaa (by simpa using D)]at z;have I:=Fp a O;by_cases g:dc a=0
 ·rw[Jb,aap g,g]at I;rw[aaa (by simpa using g)]at z;have gd:=jW g;refine⟨_,_,I,iW ?_ ?_⟩<;>intro g2
  ·rw[aap (by omega)]at z;refine⟨?_,trivial⟩;rw[z];rfl
  rw[aaa (by omega)]at z;refine⟨_,_,(aga nets (by omega) J.str),iW ?_ ?_⟩<;>intro L
  ·rw[aap L]at z;refine⟨?_,trivial⟩;rw[z];rfl
  rw[aaa (by simpa using L)]at z;refine⟨?_,trivial⟩;rw[z];rfl
 rw[Jb,aaa g]at I;rw[aap g]at z;refine⟨_,_,I,iW ?_ ?_⟩<;>intro h
 ·refine⟨?_,trivial⟩;rw[z,aaa g]
 exact absurd (by simpa using h) g
theorem len_nil{s:List an}:decide (((s.map hb).length:Int)=0)=decide (s=[]):=by
 cases s with
 | nil=>rfl
 | cons b s=>simp;omega
end M
end Go.Proofs.YtfloceomobknoaaGreatDoor
namespace Go.AM
open Go.RowKit Go.ChangeShapes
section
variable {H:Type} {enc:TypeId×Value->H} {P:Program} {w:World} {S:Nat->Prop}
theorem NH{t:TypeId}(z:P.underlying t=some .bool):IK enc P w S t 1 fun xs d=>∃b:Bool,xs=[.im (.bool b)]:=fun n cs x h=>by
 obtain⟨b,rfl,rfl⟩:=DataW.trod_bool z h;exact⟨[.im (.bool b)],rfl,rfl,one_cell ⟨.im _,rfl⟩,b,rfl⟩
def nE(S:Nat->Prop)(w:World)(o:Nat)(xs:List PV)(cs:List Value):Prop:=∀(i:Nat) c v,xs[i]?=some c->cs[o+i]?=some v->aO S w c v/\v.oneCell'=true
theorem nE.join{o:Nat}{xs ys:List PV}{cs:List Value}(h:nE S w o xs cs)(k:nE S w (o+xs.length) ys cs):nE S w o (xs++ys) cs:=fun i c v z D=>by
 by_cases e:i<xs.length
 ·rw[aaE e]at z;exact h i c v z D
 rw[acu (by omega)]at z;refine k (i-xs.length) c v z ?_;rw[<-D];congr 1;omega
theorem zI{t:TypeId}{z:Array Field}(N:P.underlying t=some (.struct z))(ks:Nat->Nat)(hk:∀(i:Nat) (f:Field),z[i]?=some f->P.cellsOf f.type=ks i)(Qs:Nat->List PV->DataW H->Prop)(O:∀(i:Nat) (f:Field),z[i]?=some f->IK enc P w S f.type (ks i) (Qs i)){n:Nat}{cs:List Value}{x:DataW H×List MemPlace}(h:DataW.trod enc P w 0 (fun _=>true) true n t cs=some x):
  cs.length=P.cellsOf t/\∃ds:List (DataW H),x.1=.agg ds/\ds.length=z.size/\∀(i:Nat) (f:Field),z[i]?=some f->∃xs d,xs.length=ks i/\nE S w f.offset xs cs/\ds[i]?=some d/\Qs i xs d:=by
 obtain⟨ys,m,_,rfl,hl,hlen,R⟩:=DataW.trod_struct N h;refine⟨hl,ys.map (·.1),rfl,by rw[aej,hlen],fun i f D=>?_⟩;have hi:i<z.size:=(ab9.1 D).1;have I:=R i f D;have J:ys[i]?=some ys[i]:=acg (by omega);rw[J,hk i f D]at I;obtain⟨xs,l1,l2,U,V⟩:=O i f D _ _ _ I;refine⟨xs,ys[i].1,l1,fun j c v L W=>U j c v L ?_,by rw[aak,J];rfl,V⟩;have hj:=(aao.1 L).1;rw[aa0 (by omega),aas];exact W
end
end Go.AM
namespace Go.Proofs.YtfloceomobknoaaGreatDoor
namespace M
open Go.AM Go.RowKit Go.Lib
open Reg (ae aU an aS fo fS)
variable {H:Type} {enc:TypeId×Value->H} {w:World} {S:Nat->Prop}
theorem Yk:Sp enc w S 4 1 (fun b=>[bool b]) fun _ _=>True:=fun n cs x h=>by
 obtain⟨xs,l1,l2,z,b,e⟩:=NH (S:=S) acn n cs x h;exact⟨xs,l1,l2,z,b,e,trivial⟩
def SY(P:Program)(fs:Array Field)(ks:Nat->Nat):Bool:=(List.range fs.size).all fun i=>match fs[i]? with
 | some f=>Nat.beq (P.cellsOf f.type) (ks i)
 | none=>true
theorem Fw{P:Program}{z:Array Field}{ks:Nat->Nat}(h:SY P z ks=true):∀(i:Nat) (f:Field),z[i]?=some f->P.cellsOf f.type=ks i:=fun i f D=>by
 have hi:=(ab9.1 D).1;have:=abh.1 h i (abD.2 hi);rw[D]at this;exact aa2 this
theorem PU:Sp enc w S 95 6 bc fun _ _=>True:=fun n cs x h=>by
 obtain⟨hl,ds,e,ld,q⟩:=zI (S:=S) (ks:=fun i=>match i with | 0=>2 | _=>1) (hk:=Fw (by kernel_rfl)) (Qs:=fun i xs d=>match i with
   | 0=>∃p:Int×Int,xs=[i64 p.1,i64 p.2]/\True
   | 4=>∃b,xs=[bool b]/\True
   | _=>∃n,xs=[i64 n]/\True) Tryz.underlying95 (fun i f z=>by
  match i,z with
  | 0,z=>cases z;exact EL
  | 1,z=>cases z;exact sL
  | 2,z=>cases z;exact sL
  | 3,z=>cases z;exact sL
  | 4,z=>cases z;exact Yk
  | n+5,z=>cases z) h
 have hl:cs.length=6:=hl.trans (by kernel_rfl);obtain⟨x0,_,_,O,_,p,R,_⟩:=q 0 _ rfl;obtain⟨x1,_,_,U,_,I,e1,_⟩:=q 1 _ rfl;obtain⟨x2,_,_,V,_,J,e2,_⟩:=q 2 _ rfl;obtain⟨x3,_,_,W,_,L,e3,_⟩:=q 3 _ rfl;obtain⟨x4,_,_,r4,_,N,e4,_⟩:=q 4 _ rfl;cases R;cases e1;cases e2;cases e3;cases e4;have D:nE S w 0 ([i64 p.1,i64 p.2]++([i64 I]++([i64 J]++([i64 L]++[bool N])))) cs:=nE.join O (nE.join U (nE.join V (nE.join W r4)));exact⟨_,rfl,hl,fun i c v h1 h2=>D i c v h1 (by rw[abC];exact h2),⟨p.1,p.2,I,J,L,N⟩,Z,Y⟩
def zJ(l:fo)(n:Nat):Prop:=l.part.size<=n/\l.pin.size<=n
theorem qQ(l:fo)(m n:Nat)(h:m<=n):zJ l m->zJ l n:=fun ⟨z,D⟩=>⟨aaF z h,aaF D h⟩
theorem PX:Sp enc w S 201 5 lc zJ:=fun n cs x h=>by
 obtain⟨hl,ds,e,ld,q⟩:=zI (S:=S) (ks:=fun i=>match i with | 3=>2 | _=>1) (hk:=Fw (by kernel_rfl)) (Qs:=fun i xs d=>match i with
   | 0=>∃s,xs=[str s]/\s.size<=Rows.uptoBulk d
   | 1=>∃s,xs=[str s]/\s.size<=Rows.uptoBulk d
   | 2=>∃n,xs=[i64 n]/\True
   | _=>∃p:Int×Int,xs=[i64 p.1,i64 p.2]/\True) Tryz.underlying201 (fun i f z=>by
  match i,z with
  | 0,z=>cases z;exact Pz
  | 1,z=>cases z;exact Pz
  | 2,z=>cases z;exact sL
  | 3,z=>cases z;exact EL
  | n+4,z=>cases z) h
 have hl:cs.length=5:=hl.trans (by kernel_rfl);obtain⟨x0,y0',_,R,U,I,V,W⟩:=q 0 _ rfl;obtain⟨x1,y1',_,Y,Z,J,e1,b1⟩:=q 1 _ rfl;obtain⟨x2,_,_,r2,_,L,e2,_⟩:=q 2 _ rfl;obtain⟨x3,_,_,r3,_,p,e3,_⟩:=q 3 _ rfl;cases V;cases e1;cases e2;cases e3;have D:nE S w 0 ([str I]++([str J]++([i64 L]++[i64 p.1,i64 p.2]))) cs:=nE.join R (nE.join Y (nE.join r2 r3));have N:=nK U;have O:=nK Z;rw[<-e]at N O;exact⟨_,rfl,hl,fun i c v h1 h2=>D i c v h1 (by rw[abC];exact h2),⟨I,J,L,p.1,p.2⟩,rfl,aaF W N,aaF b1 O⟩
def Je(a:fS)(n:Nat):Prop:=a.coppers.length<=n/\(∀r∈a.coppers,r.length<=n)/\a.outline.length<=n/\a.bores.length<=n/\a.lands.length<=n/\∀l∈a.lands,zJ l n
theorem SZ(hS:∀b,b<w.heap.size->S b):Sp enc w S 27 4 dX Je:=fun n cs x h=>by
 obtain⟨xs,l1,l2,l3,ds,e,O,q⟩:=jP (S:=S) (Qs:=fun i xs d=>match i with
   | 0=>∃r:List (List ae),xs=[.sl (r.map fun q=>[aj q])]/\(r.length<=Rows.uptoBulk d/\∀c∈r,(c.length<=Rows.uptoBulk d/\∀z∈c,True))
   | 1=>∃r,xs=[aj r]/\(r.length<=Rows.uptoBulk d/\∀z∈r,True)
   | 2=>∃r:List aS,xs=[.sl (r.map bc)]/\(r.length<=Rows.uptoBulk d/\∀c∈r,True)
   | _=>∃r:List fo,xs=[.sl (r.map lc)]/\(r.length<=Rows.uptoBulk d/\∀c∈r,zJ c (Rows.uptoBulk d))) Tryz.underlying27 (aeo (by kernel_rfl)) (by kernel_rfl) (fun i f D=>by
  match i,D with
  | 0,D=>cases D;exact mA (k:=1) Tryz.underlying23 (by kernel_rfl) (by decide) hS (fun r m n h ⟨h1,h2⟩=>⟨aaF h1 h,h2⟩) (yZ hS)
  | 1,D=>cases D;exact yZ hS
  | 2,D=>cases D;exact mA (k:=6) Tryz.underlying24 (by kernel_rfl) (by decide) hS (fun _ _ _ _ h=>h) PU
  | 3,D=>cases D;exact mA (k:=5) Tryz.underlying25 (by kernel_rfl) (by decide) hS qQ PX
  | n+4,D=>cases D) _ _ _ h
 have l1:xs.length=4:=l1;have O:ds.length=4:=O;obtain⟨a,b,c,d,rfl⟩:∃a b c d,xs=[a,b,c,d]:=by
  match xs,l1 with
  | [a,b,c,d],_=>exact⟨a,b,c,d,rfl⟩
 obtain⟨I,J,L,N,rfl⟩:∃a b c d,ds=[a,b,c,d]:=by
  match ds,O with
  | [a,b,c,d],_=>exact⟨a,b,c,d,rfl⟩
 obtain⟨n0,e0,p0,R⟩:=q 0 _ _ rfl rfl;obtain⟨n1,e1,p1,_⟩:=q 1 _ _ rfl rfl;obtain⟨n2,e2,p2,_⟩:=q 2 _ _ rfl rfl;obtain⟨n3,e3,p3,U⟩:=q 3 _ _ rfl rfl;cases e0;cases e1;cases e2;cases e3;have V:=nK (ds:=[I,J,L,N]) (i:=0) rfl;have Y:=nK (ds:=[I,J,L,N]) (i:=1) rfl;have Z:=nK (ds:=[I,J,L,N]) (i:=2) rfl;have W:=nK (ds:=[I,J,L,N]) (i:=3) rfl;rw[<-e]at V Y Z W;exact⟨_,rfl,l2,l3,⟨n0,n1,n2,n3⟩,rfl,by exact aaF p0 V,fun r hr=>aaF (R r hr).1 V,by exact aaF p1 Y,by exact aaF p2 Z,by exact aaF p3 W,fun l hl=>qQ l _ _ W (U l hl)⟩
theorem HI(a:fS)(m n:Nat)(h:m<=n):Je a m->Je a n:=fun ⟨h1,z,h3,h4,h5,D⟩=>⟨by omega,fun r I=>aaF (z r I) h,by omega,by omega,by omega,fun l hl=>qQ l _ _ h (D l hl)⟩
theorem S0{a:fS}(h:Je a 1048576):ly a:=⟨h.1,h.2.1,h.2.2.1,h.2.2.2.1,h.2.2.2.2.1,fun l hl=>⟨M_ (h.2.2.2.2.2 l hl).1,M_ (h.2.2.2.2.2 l hl).2⟩⟩
theorem ahp{l:List ByteArray}{n:Nat}(z:n<=1048576)(h:l.length<=n/\∀s∈l,s.size<=n):afj l:=⟨by omega,fun s D=>M_ (aaF (h.2 s D) z)⟩
end M
end Go.Proofs.YtfloceomobknoaaGreatDoor
