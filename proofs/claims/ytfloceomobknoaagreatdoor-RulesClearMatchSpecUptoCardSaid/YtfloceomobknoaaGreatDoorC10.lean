/- Part 10 of the proof of RulesClearMatchSpec. -/
import Derived.Test.YtfloceomobknoaaGreatDoorC09
set_option linter.unusedVariables false
set_option linter.unusedSimpArgs false
set_option maxRecDepth 100000
set_option maxHeartbeats 8000000
namespace Go
abbrev ac3:=@List.singleton_append
abbrev aee:=@Int.toNat_of_nonneg
abbrev adM:=@List.map_replicate
end Go
namespace Go.Proofs.YtfloceomobknoaaGreatDoor
namespace M
open Go.AM Go.RowKit Go.Lib
open Reg (ae an aS fS Piece bE cv Full RK told aB bN cV bO cJ qF aa through bq bU gO bG qL eG)
def jb(p:Piece):List PV:=[i64 p.layer,aw p.set,aj (told p.set)]
structure iD(a:fS):Prop where
 cop:0<a.coppers.length/\a.coppers.length<=16
 reg:∀r∈a.coppers,Reg.aF r=0
 out:Reg.aF a.outline=0
 jB:a.bores.length<=500
 bor:∀b∈a.bores,qF a.coppers.length b
 lan:a.lands.length<=1000
theorem ky{n:Int}{b:aS}(h:qF n b):bO b=true:=by
 have:=h.ok;simp only[cJ,aaZ]at this;exact this.1
structure SO(s:List an):Prop where
 sok:bE s
 ink:cv 1000000 s
 jB:(told s).length<=25000000
theorem jV{bs:List aS}(hb':∀b∈bs,bO b=true)(hn:bs.length<=500)(k:Int){r:List ae}(hr:Reg.aF r=0):SO (bU bs k r):=by
 have h:=ph hr;have hf:∀q∈bq bs k,Full q:=fun q hq=>by
  obtain⟨b,hb,rfl⟩:=adS.1 hq;exact Reg.bX (hb' b (adu.1 hb).1)
 have hl:(bq bs k).length<=500:=by
  rw[bq,aej];exact aaF (adb _ _) hn
 obtain⟨b1,b2,b3⟩:=Reg.aR hf;obtain⟨c1,c2,_⟩:=Reg.b6 h.sok b1;refine⟨c1,I1 h.sok b1 h.ink,aaF (Reg.BP h.full hf) ?_⟩;have:2*(r.length+(bq bs k).length)<=5000:=by have:=h.len;omega
 exact Nat.mul_le_mul this this
theorem Dj(a:fS)(ha:iD a):af C 100 [.aN [.p (.sl (a.coppers.map rr)),.p (aj a.outline),.p (.sl (a.bores.map bc)),.p (.sl (a.lands.map lc)),.row 59 [],.row 76 [],.row 71 [],.row 142 [],.row 3 [],.row 3 [],.row 3 [],.row 174 []]] (.p (bool (eG a))) [.aN [.p (.sl (a.coppers.map rr)),.p (aj a.outline),.p (.sl (a.bores.map bc)),.p (.sl (a.lands.map lc)),.row 59 ((gO a.bores 0 a.coppers).map fun s=>[aw s]),.row 76 ((bG a.bores 0 a.coppers).map jb),.row 71 [],.row 142 [],.row 3 [],.row 3 [],.row 3 [],.row 174 []]]:=by
 have lk:=ai a.coppers rr;have lb:=ai a.bores bc;have hb':∀b∈a.bores,bO b=true:=fun b h=>ky (ha.bor b h);have zA:=ha.jB;have KH:=ha.cop;obtain⟨DD,Zx⟩:∃DD,DD=gO a.bores 0 a.coppers:=⟨_,rfl⟩;obtain⟨PP,SP⟩:∃PP,PP=bG a.bores 0 a.coppers:=⟨_,rfl⟩;obtain⟨OK,Zy⟩:∃OK,OK=qL a.bores 0 a.coppers:=⟨_,rfl⟩;have hres:eG a=(OK&&decide (PP.length<=2000)):=by rw[eG,Zy,SP]
 rw[hres,<-Zx,<-SP];refine UP ⟨[],[],[],[18],[],[14]⟩ hC Tryz.func100 rfl (by kernel_rfl) fun _=>⟨_,au.open hC _ 100000 [90000,90001,90002,90003,90004,90005,90006,90007] (by exact rfl) rfl rfl rfl,?_⟩;refine aJ (fun x:Nat×Bool×List (List an)×List Piece=>x.2.2.1++gO a.bores x.1 (a.coppers.drop x.1)=DD/\x.2.2.2++bG a.bores x.1 (a.coppers.drop x.1)=PP/\(x.2.1&&qL a.bores x.1 (a.coppers.drop x.1))=OK/\x.2.2.1.length<=x.1/\x.2.2.2.length<=25000000*x.1/\x.1<=a.coppers.length) (fun x=>[(0,.bx 100000 0),(3,.p (bool x.2.1)),(16,.p (.sl (a.coppers.map rr))),(17,.p (i64 a.coppers.length)),(18,.p (i64 x.1))]) (fun x=>[(100000,.box [.p (.sl (a.coppers.map rr)),.p (aj a.outline),.p (.sl (a.bores.map bc)),.p (.sl (a.lands.map lc)),.ow 90000,.ow 90001,.ow 90002,.ow 90003,.ow 90004,.ow 90005,.ow 90006,.ow 90007]),(90000,.row 59 (x.2.2.1.map fun s=>[aw s])),(90001,.row 76 (x.2.2.2.map jb)),(90002,.row 71 []),(90003,.row 142 []),(90004,.row 3 []),(90005,.row 3 []),(90006,.row 3 []),(90007,.row 174 [])]) (fun x=>a.coppers.length-x.1) (0,true,[],[]) _ (au.refl _ _) ⟨Zx.symm,SP.symm,by rw[Zy];rfl,aam _,aaj _,aaj _⟩ ⟨rfl,rfl,rfl,adV (fun m:Nat=>AV.p (i64 m)) lk,Z,Y⟩ ⟨Z,Z,Z,Z,Z,Z,Z,Z,Z,Y⟩ fun ⟨i,ok,D,P⟩ hx t h=>?_;obtain⟨q1,q2,q3,q4,q5,q6⟩:=hx;simp only at q1 q2 q3 q4 q5 q6;refine iW ?_ ?_<;>intro g<;>try simp only[zB]at g
 ·obtain⟨r,hr⟩:=ak (l:=a.coppers) (i:=i) (by omega);have HA:=ha.reg r (aad hr);have X8:=ph HA;rw[drop_at hr]at q1 q2 q3;simp only[gO,bG,qL]at q1 q2 q3;have Sm:=jV hb' zA i HA;refine⟨(rr r),(idx rfl hr),?_⟩;refine aJ (fun y:Nat×List ae=>y.2++bq (a.bores.drop y.1) i=bq a.bores i/\y.2.length<=y.1/\y.1<=a.bores.length/\∀q∈y.2,∃b∈a.bores,q=aa b) (fun y=>[(0,.bx 100000 0),(3,.p (bool ok)),(16,.p (.sl (a.coppers.map rr))),(17,.p (i64 a.coppers.length)),(18,.p (i64 i)),(4,.p (i64 i)),(5,.p (aj r)),(27,.p (.sl (a.bores.map bc))),(28,.p (i64 a.bores.length)),(29,.p (i64 y.1)),(6,.ow 6)]) (fun y=>[(100000,.box [.p (.sl (a.coppers.map rr)),.p (aj a.outline),.p (.sl (a.bores.map bc)),.p (.sl (a.lands.map lc)),.ow 90000,.ow 90001,.ow 90002,.ow 90003,.ow 90004,.ow 90005,.ow 90006,.ow 90007]),(90000,.row 59 (D.map fun s=>[aw s])),(90001,.row 76 (P.map jb)),(90002,.row 71 []),(90003,.row 142 []),(90004,.row 3 []),(90005,.row 3 []),(90006,.row 3 []),(90007,.row 174 []),(6,.row 87 (y.2.map rc))]) (fun y=>a.bores.length-y.1) (0,[]) _ (au.dk (by exact hC) _ 6 87 _ (by decide) (by exact rfl) (by exact rfl) (by decide)) ⟨rfl,aam _,aaj _,fun q h=>by cases h⟩ ⟨rfl,rfl,rfl,rfl,rfl,rfl,rfl,rfl,adV (fun m:Nat=>AV.p (i64 m)) lb,Z,Z,Y⟩ ⟨Z,Z,Z,Z,Z,Z,Z,Z,Z,Z,Y⟩ fun ⟨j,hl⟩ hy t h=>?_;obtain⟨k1,k2,k3,k4⟩:=hy;simp only at k1 k2 k3 k4;refine iW ?_ ?_<;>intro g2<;>try simp only[zB]at g2
  ·obtain⟨b,Wr⟩:=ak (l:=a.bores) (i:=j) (by omega);have uW:=hb' b (aad Wr);rw[drop_at Wr]at k1;refine⟨(bc b),(idx rfl Wr),?_⟩;refine⟨_,_,(jk b i),?_⟩;refine iW ?_ ?_<;>intro g3
   ·have e:bq (b::a.bores.drop (j+1)) i=aa b::bq (a.bores.drop (j+1)) i:=by rw[bq,aby,aap (by simpa using g3)];rfl
    rw[e]at k1;refine⟨_,_,(cF b uW),?_⟩;refine⟨⟨fun r hr=>by simp at hr;subst hr;rfl,by simp only[aej,aaM,aan];omega,by simp only[aej,aaM,aan];omega⟩,?_⟩;refine⟨⟨by omega,by omega⟩,?_⟩;refine⟨(j+1,hl++[aa b]),_,au.refl _ _,?_⟩;exact⟨⟨by simp only[abx,ac3];exact k1,by simp only[acv,abS];omega,by simp only;omega,fun q hq=>by
     rcases abi.1 hq with hq | hq
     ·exact k4 q hq
     rw[ab_]at hq;exact⟨b,aad Wr,hq⟩⟩,by simp only;omega,⟨Z,Z,Z,Z,Z,Z,Z,Z,Z,Z,Z,Y⟩,⟨rfl,rfl,rfl,rfl,rfl,rfl,rfl,rfl,rfl,by rw[abE];rfl,trivial⟩⟩
   have e:bq (b::a.bores.drop (j+1)) i=bq (a.bores.drop (j+1)) i:=by rw[bq,aby,aaa (by simpa using g3)];rfl
   rw[e]at k1;refine⟨⟨by omega,by omega⟩,?_⟩;exact⟨(j+1,hl),_,au.refl _ _,⟨k1,by simp only;omega,by simp only;omega,k4⟩,by simp only;omega,⟨Z,Z,Z,Z,Z,Z,Z,Z,Z,Z,Z,Y⟩,⟨Z,Z,Z,Z,Z,Z,Z,Z,Z,Z,Y⟩⟩
  have e:hl=bq a.bores i:=by
   rw[ab1 (by omega)]at k1;rw[<-k1];simp[bq]
  have so:=kG hl 1010000 (by omega) (by omega) (fun q hq=>by obtain⟨b,hb,rfl⟩:=k4 q hq;exact Reg.bX (hb' b hb)) (fun q hq=>by obtain⟨b,hb,rfl⟩:=k4 q hq;exact Reg.er (hb' b hb)) (by omega);have bf:=Reg.aR (l:=hl) fun q hq=>by obtain⟨b,hb,rfl⟩:=k4 q hq;exact Reg.bX (hb' b hb)
  have bk:=bf.2.2 1010000 fun q hq=>by obtain⟨b,hb,rfl⟩:=k4 q hq;exact Reg.er (hb' b hb)
  have IM:=iJ _ _ X8.sok bf.1 (X8.ink.up (by omega)) (bk.up (by omega));have hS:bN (aB r) (aB hl)=bU a.bores i r:=by rw[e];rfl
  rw[hS]at IM;obtain⟨S,hSe⟩:∃S,S=bU a.bores i r:=⟨_,rfl⟩;rw[<-hSe]at IM Sm q1 q2 q3;obtain⟨d1,d2,d3⟩:=Sm;have sl:=Reg.cc d1 (by omega) d2;have sx:=Reg.kT d1 (by omega) d2;refine⟨_,_,(BB X8),?_⟩;refine⟨_,_,so,?_⟩;refine⟨_,_,IM,?_⟩;have ml:=Hg S (by omega) (fun t ht=>by have:=sx t ht;omega) (by omega);refine (XN (fun SQ:Bool=>SQ=(ok&&decide ((told S).length<=2000))) (fun SQ=>[(0,.bx 100000 0),(3,.p (bool SQ)),(16,.p (.sl (a.coppers.map rr))),(17,.p (i64 a.coppers.length)),(18,.p (i64 i)),(4,.p (i64 i)),(9,.p (aw S))]) (fun _=>[(100000,.box [.p (.sl (a.coppers.map rr)),.p (aj a.outline),.p (.sl (a.bores.map bc)),.p (.sl (a.lands.map lc)),.ow 90000,.ow 90001,.ow 90002,.ow 90003,.ow 90004,.ow 90005,.ow 90006,.ow 90007]),(90000,.row 59 (D.map fun s=>[aw s])),(90001,.row 76 (P.map jb)),(90002,.row 71 []),(90003,.row 142 []),(90004,.row 3 []),(90005,.row 3 []),(90006,.row 3 []),(90007,.row 174 [])]) (fun SQ hok t h=>?_) ?_)
  ·have q3':(SQ&&qL a.bores ((i:Int)+1) (a.coppers.drop (i+1)))=OK:=by rw[hok,Bool.and_assoc];exact q3
   refine⟨⟨fun r hr=>by simp at hr;subst hr;rfl,by simp only[aej,aaM,aan];omega,by simp only[aej,aaM,aan];omega⟩,?_⟩;refine⟨_,_,(Fi S d1 (d2.up (by omega)) (by omega)),?_⟩;have pf:=Reg.BQ S;have lp:=ai (cV S) fun p=>[aw p];refine aJ (fun z:Nat×List Piece=>z.2++((cV S).drop z.1).map (⟨(i:Int),·⟩)++bG a.bores ((i:Int)+1) (a.coppers.drop (i+1))=PP/\z.2.length<=25000000*i+z.1/\z.1<=(cV S).length) (fun z=>[(0,.bx 100000 0),(3,.p (bool SQ)),(16,.p (.sl (a.coppers.map rr))),(17,.p (i64 a.coppers.length)),(18,.p (i64 i)),(4,.p (i64 i)),(64,.p (.sl ((cV S).map fun p=>[aw p]))),(65,.p (i64 (cV S).length)),(66,.p (i64 z.1))]) (fun z=>[(100000,.box [.p (.sl (a.coppers.map rr)),.p (aj a.outline),.p (.sl (a.bores.map bc)),.p (.sl (a.lands.map lc)),.ow 90000,.ow 90001,.ow 90002,.ow 90003,.ow 90004,.ow 90005,.ow 90006,.ow 90007]),(90000,.row 59 ((D++[S]).map fun s=>[aw s])),(90001,.row 76 (z.2.map jb)),(90002,.row 71 []),(90003,.row 142 []),(90004,.row 3 []),(90005,.row 3 []),(90006,.row 3 []),(90007,.row 174 [])]) (fun z=>(cV S).length-z.1) (0,P) _ ((au.own (by exact hC) _ 64 (id:=64) (by exact rfl) (by exact rfl)).trans ((au.pack (by exact hC) _ 100000 (cs:=[.p (.sl (a.coppers.map rr)),.p (aj a.outline),.p (.sl (a.bores.map bc)),.p (.sl (a.lands.map lc)),.row 59 ((D++[S]).map fun s=>[aw s]),.row 76 (P.map jb),.row 71 [],.row 142 [],.row 3 [],.row 3 [],.row 3 [],.row 174 []]) (by exact rfl) (by exact rfl) (by exact⟨rfl,rfl,rfl,rfl,by rw[abE];rfl,Z,Z,Z,Z,Z,Z,Z,Y⟩)).trans (au.open (by exact hC) _ 100000 [90000,90001,90002,90003,90004,90005,90006,90007] (cs:=[.p (.sl (a.coppers.map rr)),.p (aj a.outline),.p (.sl (a.bores.map bc)),.p (.sl (a.lands.map lc)),.row 59 ((D++[S]).map fun s=>[aw s]),.row 76 (P.map jb),.row 71 [],.row 142 [],.row 3 [],.row 3 [],.row 3 [],.row 174 []]) (by exact rfl) rfl rfl rfl))) ⟨by simp only[List.drop_zero,abx];exact q2,by simp only;omega,aaj _⟩ ⟨rfl,rfl,rfl,rfl,rfl,rfl,rfl,adV (fun m:Nat=>AV.p (i64 m)) lp,Z,Y⟩ ⟨Z,Z,Z,Z,Z,Z,Z,Z,Z,Y⟩ fun ⟨k,Ps⟩ hz t h=>?_;obtain⟨z1,z2,z3⟩:=hz;simp only at z1 z2 z3;refine iW ?_ ?_<;>intro g5<;>try simp only[zB]at g5
   ·obtain⟨p,hp⟩:=ak (l:=cV S) (i:=k) (by omega);obtain⟨p1,_,_,p3⟩:=Reg.rD d1 (aad hp);have p4:=p3 _ d2;have px:=Reg.kT p1 (by omega) p4;have pb:=Reg.cc p1 (by omega) p4;have pt:=Reg.fj p1 (p4.up (by omega));rw[drop_at hp,aa8]at z1;refine⟨[aw p],(idx rfl hp),?_⟩;refine⟨_,_,(Di p (by omega) (fun t ht=>by have:=px t ht;omega) pt),?_⟩;refine⟨⟨fun r hr=>by simp at hr;subst hr;rfl,by simp only[aej,aaM,aan];omega,by simp only[aej,aaM,aan];omega⟩,?_⟩;refine⟨⟨by omega,by omega⟩,?_⟩;refine⟨(k+1,Ps++[Piece.mk i p]),_,((au.pack (by exact hC) _ 100000 (cs:=[.p (.sl (a.coppers.map rr)),.p (aj a.outline),.p (.sl (a.bores.map bc)),.p (.sl (a.lands.map lc)),.row 59 ((D++[S]).map fun s=>[aw s]),.row 76 ((Ps++[Piece.mk i p]).map jb),.row 71 [],.row 142 [],.row 3 [],.row 3 [],.row 3 [],.row 174 []]) (by exact rfl) (by exact rfl) (by exact⟨rfl,rfl,rfl,rfl,rfl,by rw[abE (f:=jb)];rfl,Z,Z,Z,Z,Z,Z,Y⟩)).trans (au.open (by exact hC) _ 100000 [90000,90001,90002,90003,90004,90005,90006,90007] (cs:=[.p (.sl (a.coppers.map rr)),.p (aj a.outline),.p (.sl (a.bores.map bc)),.p (.sl (a.lands.map lc)),.row 59 ((D++[S]).map fun s=>[aw s]),.row 76 ((Ps++[Piece.mk i p]).map jb),.row 71 [],.row 142 [],.row 3 [],.row 3 [],.row 3 [],.row 174 []]) (by exact rfl) rfl rfl rfl)),?_⟩;exact⟨⟨by simp only[abx,ac3,aaI]at z1 ⊢;exact z1,by simp only[acv,abS];omega,by simp only;omega⟩,by simp only;omega,⟨Z,Z,Z,Z,Z,Z,Z,Z,Z,Y⟩,⟨Z,Z,Z,Z,Z,Z,Z,Z,Z,Y⟩⟩
   rw[ab1 (by omega),ac0,acw]at z1;refine⟨⟨by omega,by omega⟩,?_⟩;exact⟨(i+1,SQ,D++[S],Ps),_,au.refl _ _,⟨by simp only[abx,ac3];exact q1,z1,q3',by simp only[acv,abS];omega,by simp only;omega,by simp only;omega⟩,by simp only;omega,⟨Z,Z,Z,Z,Z,Y⟩,⟨Z,Z,Z,Z,Z,Z,Z,Z,Z,Y⟩⟩
  refine iW ?_ ?_<;>intro g4
  ·have g4:ok=true:=g4;refine⟨_,_,ml,?_⟩;exact⟨_,by rw[g4,adr];congr 1;exact propext ⟨fun h=>by omega,fun h=>by omega⟩,⟨Z,Z,Z,Z,Z,Z,Z,Y⟩,⟨Z,Z,Z,Z,Z,Z,Z,Z,Z,Y⟩⟩
  have g4:ok=false:=by simpa using g4
  exact⟨false,by rw[g4];rfl,⟨Z,Z,Z,Z,Z,Z,Z,Y⟩,⟨Z,Z,Z,Z,Z,Z,Z,Z,Z,Y⟩⟩
 have e:a.coppers.length<=i:=by omega
 rw[ab1 e]at q1 q2 q3;simp only[gO,bG,qL,acw,ac7]at q1 q2 q3;subst q1 q2 q3;have lP:=ai P jb;refine iW ?_ ?_<;>intro g4<;>try simp only[zB]at g4
 ·have g4:ok=true:=g4;exact And.intro (by rw[g4,adr];exact adV (fun b:Bool=>PV.im (Value.bool b)) (decide_eq_decide.2 ⟨fun h=>by rw[lP]at h;omega,fun h=>by rw[lP];omega⟩)) (And.intro ⟨Z,Z,Z,Z,Z,Z,Z,Z,Z,Z,Z,Z,Z,Y⟩ trivial)
 have g4:ok=false:=by simpa using g4
 exact And.intro (by rw[g4];rfl) (And.intro ⟨Z,Z,Z,Z,Z,Z,Z,Z,Z,Z,Z,Z,Z,Y⟩ trivial)
open Reg (fX fu bB beside)
theorem gP(l:List Int)(k:Int):aA (l++[k])=aA l++[[i64 k]]:=by rw[aA,abE];rfl
theorem Dk(a:fS)(ha:iD a)(dr:List (List PV))(P:List Piece)(hP:P.length<=1000000000)(Q9:∀p∈P,(told p.set).length<=4398046511104):af C 101 [.aN [.p (.sl (a.coppers.map rr)),.p (aj a.outline),.p (.sl (a.bores.map bc)),.p (.sl (a.lands.map lc)),.row 59 dr,.row 76 (P.map jb),.row 71 [],.row 142 [],.row 3 [],.row 3 [],.row 3 [],.row 174 []]] (.tu []) [.aN [.p (.sl (a.coppers.map rr)),.p (aj a.outline),.p (.sl (a.bores.map bc)),.p (.sl (a.lands.map lc)),.row 59 dr,.row 76 (P.map jb),.row 71 ((bB a.bores P).map fun l=>[ints l]),.row 142 [],.row 3 [],.row 3 [],.row 3 [],.row 174 []]]:=by
 have lb:=ai a.bores bc;have lp:=ai P jb;have zA:=ha.jB;obtain⟨TT,Zz⟩:∃TT,TT=bB a.bores P:=⟨_,rfl⟩;rw[<-Zz];refine UP ⟨[],[],[],[],[],[]⟩ hC Tryz.func101 rfl (by kernel_rfl) fun _=>⟨_,au.open hC _ 100000 [90000,90001,90002,90003,90004,90005,90006,90007] (by exact rfl) rfl rfl rfl,?_⟩;refine aJ (fun x:Nat×List (List Int)=>x.2++bB (a.bores.drop x.1) P=TT/\x.2.length<=x.1/\x.1<=a.bores.length) (fun x=>[(0,.bx 100000 0),(11,.p (.sl (a.bores.map bc))),(12,.p (i64 a.bores.length)),(13,.p (i64 x.1))]) (fun x=>[(100000,.box [.p (.sl (a.coppers.map rr)),.p (aj a.outline),.p (.sl (a.bores.map bc)),.p (.sl (a.lands.map lc)),.ow 90000,.ow 90001,.ow 90002,.ow 90003,.ow 90004,.ow 90005,.ow 90006,.ow 90007]),(90000,.row 59 dr),(90001,.row 76 (P.map jb)),(90002,.row 71 (x.2.map fun l=>[ints l])),(90003,.row 142 []),(90004,.row 3 []),(90005,.row 3 []),(90006,.row 3 []),(90007,.row 174 [])]) (fun x=>a.bores.length-x.1) (0,[]) _ (au.refl _ _) ⟨Zz.symm,aam _,aaj _⟩ ⟨rfl,rfl,adV (fun m:Nat=>AV.p (i64 m)) lb,Z,Y⟩ ⟨Z,Z,Z,Z,Z,Z,Z,Z,Z,Y⟩ fun ⟨i,T⟩ hx t h=>?_;obtain⟨q1,q2,q3⟩:=hx;simp only at q1 q2 q3;refine iW ?_ ?_<;>intro g<;>try simp only[zB]at g
 ·obtain⟨b,Oz⟩:=ak (l:=a.bores) (i:=i) (by omega);have uW:=ky (ha.bor b (aad Oz));rw[drop_at Oz,bB,aa8]at q1;refine⟨(bc b),(idx rfl Oz),?_⟩;refine aJ (fun y:Nat×List Int=>y.2++fu b y.1 (P.drop y.1)=fu b 0 P/\y.2.length<=y.1/\y.1<=P.length) (fun y=>[(0,.bx 100000 0),(11,.p (.sl (a.bores.map bc))),(12,.p (i64 a.bores.length)),(13,.p (i64 i)),(3,.p (.ip (bc b))),(4,.ow 4),(20,.ow 90001),(21,.p (i64 P.length)),(22,.p (i64 y.1))]) (fun y=>[(100000,.box [.p (.sl (a.coppers.map rr)),.p (aj a.outline),.p (.sl (a.bores.map bc)),.p (.sl (a.lands.map lc)),.ow 90000,.ow 90001,.ow 90002,.ow 90003,.ow 90004,.ow 90005,.ow 90006,.ow 90007]),(90000,.row 59 dr),(90001,.row 76 (P.map jb)),(90002,.row 71 (T.map fun l=>[ints l])),(90003,.row 142 []),(90004,.row 3 []),(90005,.row 3 []),(90006,.row 3 []),(90007,.row 174 []),(4,.row 3 (aA y.2))]) (fun y=>P.length-y.1) (0,[]) _ ((au.gD (by exact hC) _ 3 (y:=.ip (bc b)) (fz:=[(3,.jd (bc b))]) (by exact⟨rfl,rfl⟩)).trans (au.dk (by exact hC) _ 4 3 _ (by decide) (by exact rfl) (by exact rfl) (by decide))) ⟨rfl,aam _,aaj _⟩ ⟨rfl,rfl,rfl,rfl,rfl,rfl,rfl,adV (fun m:Nat=>AV.p (i64 m)) lp,Z,Y⟩ ⟨Z,Z,Z,Z,Z,Z,Z,Z,Z,Z,Y⟩ fun ⟨k,l⟩ hy t h=>?_;obtain⟨k1,k2,k3⟩:=hy;simp only at k1 k2 k3;have ll:=bQ l;refine iW ?_ ?_<;>intro g2<;>try simp only[zB]at g2
  ·obtain⟨p,J_⟩:=ak (l:=P) (i:=k) (by omega);have hpt:=Q9 p (aad J_);rw[drop_at J_,fu]at k1;have yes:fX b p=true->l++[(k:Int)]++fu b (k+1) (P.drop (k+1))=fu b 0 P:=fun h=>by
    rw[aap h]at k1;rw[abx];exact k1
   have no:fX b p=false->l++fu b (k+1) (P.drop (k+1))=fu b 0 P:=fun h=>by
    rw[aaa (by rw[h];decide)]at k1;exact k1
   refine⟨⟨by omega,by (try dsimp only);omega⟩,?_⟩;refine⟨(jb p),(idx rfl J_).2,?_⟩;refine iW ?_ ?_<;>intro g3
   ·refine⟨_,_,(jk b p.layer),?_⟩;refine iW ?_ ?_<;>intro g4
    ·refine⟨_,_,(zy (told p.set) (by omega) b uW),?_⟩;refine iW ?_ ?_<;>intro g5
     ·have hy:=yes (by simp only[fX,aaZ];exact⟨⟨g3,g4⟩,g5⟩);refine⟨⟨fun r hr=>by simp at hr;subst hr;rfl,by simp only[ll,aaM,aan];omega,by simp only[ll,aaM,aan];omega⟩,?_⟩;refine⟨⟨by omega,by omega⟩,?_⟩;exact⟨(k+1,l++[(k:Int)]),_,au.refl _ _,⟨hy,by simp only[acv,abS];omega,by simp only;omega⟩,by simp only;omega,⟨Z,Z,Z,Z,Z,Z,Z,Z,Z,Y⟩,⟨rfl,rfl,rfl,rfl,rfl,rfl,rfl,rfl,rfl,adV (AB.row _) (gP l k).symm,trivial⟩⟩
     have hn:=no (by simp only[fX];rw[aaC];exact .inr g5);refine⟨⟨by omega,by omega⟩,?_⟩;exact⟨(k+1,l),_,au.refl _ _,⟨hn,by simp only;omega,by simp only;omega⟩,by simp only;omega,⟨Z,Z,Z,Z,Z,Z,Z,Z,Z,Y⟩,⟨Z,Z,Z,Z,Z,Z,Z,Z,Z,Z,Y⟩⟩
    have hn:=no (by simp only[fX];rw[g4,aav,abp]);refine⟨⟨by omega,by omega⟩,?_⟩;exact⟨(k+1,l),_,au.refl _ _,⟨hn,by simp only;omega,by simp only;omega⟩,by simp only;omega,⟨Z,Z,Z,Z,Z,Z,Z,Z,Z,Y⟩,⟨Z,Z,Z,Z,Z,Z,Z,Z,Z,Z,Y⟩⟩
   have hn:=no (by simp only[fX];rw[g3,abp,abp]);refine⟨⟨by omega,by omega⟩,?_⟩;exact⟨(k+1,l),_,au.refl _ _,⟨hn,by simp only;omega,by simp only;omega⟩,by simp only;omega,⟨Z,Z,Z,Z,Z,Z,Z,Z,Z,Y⟩,⟨Z,Z,Z,Z,Z,Z,Z,Z,Z,Z,Y⟩⟩
  rw[ab1 (by omega),fu,acw]at k1;have lT:=ai T fun l=>[ints l];refine⟨⟨fun r hr=>by simp at hr;subst hr;rfl,by simp only[lT,aaM,aan];omega,by simp only[lT,aaM,aan];omega⟩,?_⟩;refine⟨⟨by omega,by omega⟩,?_⟩;refine⟨(i+1,T++[l]),_,((au.pack (by exact hC) _ 100000 (cs:=[.p (.sl (a.coppers.map rr)),.p (aj a.outline),.p (.sl (a.bores.map bc)),.p (.sl (a.lands.map lc)),.row 59 dr,.row 76 (P.map jb),.row 71 ((T++[l]).map fun l=>[ints l]),.row 142 [],.row 3 [],.row 3 [],.row 3 [],.row 174 []]) (by exact rfl) (by exact rfl) (by exact⟨rfl,rfl,rfl,rfl,rfl,rfl,by rw[abE];rfl,Z,Z,Z,Z,Z,Y⟩)).trans (au.open (by exact hC) _ 100000 [90000,90001,90002,90003,90004,90005,90006,90007] (cs:=[.p (.sl (a.coppers.map rr)),.p (aj a.outline),.p (.sl (a.bores.map bc)),.p (.sl (a.lands.map lc)),.row 59 dr,.row 76 (P.map jb),.row 71 ((T++[l]).map fun l=>[ints l]),.row 142 [],.row 3 [],.row 3 [],.row 3 [],.row 174 []]) (by exact rfl) rfl rfl rfl)),?_⟩;exact⟨⟨by rw[k1];simp only[abx,ac3];exact q1,by simp only[acv,abS];omega,by simp only;omega⟩,by simp only;omega,⟨Z,Z,Z,Z,Y⟩,⟨Z,Z,Z,Z,Z,Z,Z,Z,Z,Y⟩⟩
 rw[ab1 (by omega),bB,ac0,acw]at q1;subst q1;exact And.intro rfl (And.intro ⟨Z,Z,Z,Z,Z,Z,Z,Z,Z,Z,Z,Z,Z,Y⟩ trivial)
end M
namespace Reg
def mV(l:fo)(b:aS):Bool:=(b.plated&&through b l.layer)&&dE l.x l.y (aa b)
def pz(l:fo)(p:Piece):Bool:=decide (p.layer=l.layer)&&(told p.set).any (dE l.x l.y)
def nA(l:fo):Nat->List Piece->zx×Bool
 | _,[]=>(⟨false,0⟩,false)
 | k,p::r=>if pz l p=true then (⟨false,k⟩,true) else nA l (k+1) r
def mF(l:fo)(ps:List Piece):Nat->List aS->zx×Bool
 | _,[]=>nA l 0 ps
 | k,b::r=>if mV l b=true then (⟨true,k⟩,true) else mF l ps (k+1) r
def il(bs:List aS)(ps:List Piece)(l:fo):zx×Bool:=mF l ps 0 bs
def r_(m:Nat):List Int->List Int->List Int
 | [],u=>u
 | p::r,u=>r_ m r (gj u p.toNat m)
def uz(n:Nat):Nat->List (List Int)->List Int->List Int
 | _,[],u=>u
 | k,l::r,u=>uz n (k+1) r (r_ (n+k) l u)
def jm(n nb:Nat)(T:List (List Int)):List Int:=uz n 0 T (iota (n+nb))
theorem zC{m:Nat}:∀(l u:List Int),UF u->m<u.length->(∀p∈l,0<=p/\p.toNat<u.length)->UF (r_ m l u)/\(r_ m l u).length=u.length
 | [],u,h,_,_=>⟨h,rfl⟩
 | p::r,u,h,hm,hl=>by
  obtain⟨a,b⟩:=mC h (i:=p.toNat) (k:=m) (hl p adU).2 hm;obtain⟨c,d⟩:=zC (m:=m) r (gj u p.toNat m) a (by omega) fun q hq=>by have:=hl q (aaw _ hq);omega
  exact⟨c,d.trans b⟩
theorem qM{n nb:Nat}:∀(l:List (List Int)) (k:Nat) (u:List Int),UF u->u.length=n+nb->k+l.length<=nb->(∀x∈l,∀p∈x,0<=p/\p<n)->UF (uz n k l u)/\(uz n k l u).length=n+nb
 | [],k,u,h,hl,_,_=>⟨h,hl⟩
 | x::r,k,u,h,hl,hk,hx=>by
  simp only[aaB]at hk;obtain⟨a,b⟩:=zC (m:=n+k) x u h (by omega) fun p hp=>by have:=hx x adU p hp;omega
  exact qM r (k+1) _ a (b.trans hl) (by omega) fun y hy=>hx y (aaw _ hy)
theorem rE(b:aS):∀(ps:List Piece) (k:Nat),∀p∈fu b k ps,(k:Int)<=p/\p<((k+ps.length:Nat):Int)
 | [],k,p,h=>by cases h
 | q::ps,k,p,h=>by
  rw[fu]at h;have ih:=rE b ps (k+1) p;simp only[aaB];split at h
  ·rcases adq.1 h with rfl | h
   ·omega
   have:=ih h;omega
  have:=ih h;omega
def jF(bs:List aS)(n g:Nat)(s:(List Int×List Int)×List Int×List Int)(i:Nat):(List Int×List Int)×List Int×List Int:=
 if i<n then ((s.1.1.set i (g:Int),s.1.2),s.2.1++[(i:Int)],s.2.2) else
 if (bs.getD (i-n) ⟨0,0,0,0,0,false⟩).plated=true then ((s.1.1,s.1.2.set (i-n) (g:Int)),s.2.1,s.2.2++[((i:Int)-n)]) else
 ((s.1.1,s.1.2.set (i-n) (-1)),s.2.1,s.2.2)
def AT(bs:List aS)(n:Nat)(s:(List Int×List Int)×List bh)(l:List Nat):(List Int×List Int)×List bh:=
 let r:=l.foldl (jF bs n s.2.length) (s.1,[],[])
 (r.1,if 0<r.2.1.length+r.2.2.length then s.2++[⟨r.2.1,r.2.2,[]⟩] else s.2)
def jn(bs:List aS)(n:Nat)(L:List (List Nat)):(List Int×List Int)×List bh:=L.foldl (AT bs n) ((List.replicate n 0,List.replicate bs.length 0),[])
structure qN where
 groups:List bh
 ofLand:List Int
 atLand:List zx
def iN(p:ByteArray×ByteArray)(g:bh):bh:={ g with pins:=g.pins++[p] }
def uA(bs:List aS)(ps:List Piece)(o:List Int×List Int)(s:qN)(l:fo):qN:=
 let h:=il bs ps l;let k:Int:=if h.2=true then (if h.1.bore=true then o.2 else o.1).getD h.1.num.toNat 0 else -1
 ⟨if h.2=true then s.groups.set k.toNat (iN (l.part,l.pin) (s.groups.getD k.toNat ⟨[],[],[]⟩)) else s.groups,s.ofLand++[k],s.atLand++[h.1]⟩
end Reg
namespace M
open Go.AM Go.RowKit Go.Lib
open Reg (ae an aS fo fS Piece zx bE cv told aB bO aa through mV pz nA mF il)
def je(h:zx):List PV:=[bool h.bore,i64 h.num]
theorem Fk:M3=Reg.dE:=rfl
theorem Dl(a:fS)(ha:iD a)(l:fo)(dr tt gg ol ah:List (List PV))(op ob:List Int)(P:List Piece)(hP:P.length<=1000000000)(Q9:∀p∈P,(told p.set).length<=4398046511104):af C 184 [.pv (.ip ((dX a)++[.sl dr,.sl (P.map jb),.sl tt,.sl gg,ints op,ints ob,.sl ol,.sl ah])),.pv (.ag (lc l))] (.tu [.ag (je (il a.bores P l).1),bool (il a.bores P l).2]) []:=by
 have lb:=ai a.bores bc;have lp:=ai P jb;have zA:=ha.jB;obtain⟨R,hR⟩:∃R,R=il a.bores P l:=⟨_,rfl⟩;rw[<-hR];refine fW hC Tryz.func184 rfl (by kernel_rfl) fun _=>?_;refine aJ (fun i:Nat=>mF l P i (a.bores.drop i)=R) (fun i=>[(0,.p (.ip ((dX a)++[.sl dr,.sl (P.map jb),.sl tt,.sl gg,ints op,ints ob,.sl ol,.sl ah]))),(3,.bx 3 0),(4,.bx 4 0),(14,.p (.sl (a.bores.map bc))),(15,.p (i64 a.bores.length)),(16,.p (i64 i))]) (fun _=>[(3,.box [.p (str l.part),.p (str l.pin),.p (i64 l.layer),.p (i64 l.x),.p (i64 l.y)]),(4,.box [.p (bool false),.p (i64 0)])]) (fun i=>a.bores.length-i) 0 _ (au.refl _ _) hR.symm ⟨rfl,rfl,rfl,rfl,adV (fun m:Nat=>AV.p (i64 m)) lb,Z,Y⟩ ⟨Z,Z,Y⟩ fun i hi t h=>?_;refine iW ?_ ?_<;>intro g
 ·obtain⟨b,Oz⟩:=ak (l:=a.bores) (i:=i) (by omega);have uW:=ky (ha.bor b (aad Oz));rw[drop_at Oz,mF]at hi;refine⟨(bc b),(idx rfl Oz),?_⟩;have yes:mV l b=true->R=(⟨true,i⟩,true):=fun h=>by rw[aap h]at hi;exact hi.symm
  have no:mV l b=false->mF l P (i+1) (a.bores.drop (i+1))=R:=fun h=>by rw[aaa (by rw[h];decide)]at hi;exact hi
  refine iW ?_ ?_<;>intro g1
  ·refine⟨_,_,(jk b l.layer),?_⟩;refine iW ?_ ?_<;>intro g2
   ·refine⟨_,_,(cF b uW),?_⟩;refine⟨_,_,(pU [aa b] (by simp) l.x l.y),?_⟩;refine iW ?_ ?_<;>intro g3
    ·have hy:=yes (by simp only[mV,aaZ];exact⟨⟨g1,g2⟩,by simpa [Fk] using g3⟩);exact And.intro (by rw[hy];rfl) trivial
    have hn:=no (by simp only[mV];rw[aaC];exact .inr (by simpa [Fk] using g3));refine⟨⟨by omega,by omega⟩,?_⟩;exact⟨(i+1),_,au.refl _ _,hn,by omega,⟨Z,Z,Z,Z,Z,Z,Y⟩,⟨Z,Z,Y⟩⟩
   have hn:=no (by simp only[mV];rw[g2,aav,abp]);refine⟨⟨by omega,by omega⟩,?_⟩;exact⟨(i+1),_,au.refl _ _,hn,by omega,⟨Z,Z,Z,Z,Z,Z,Y⟩,⟨Z,Z,Y⟩⟩
  have hn:=no (by simp only[mV];rw[g1,abp,abp]);refine⟨⟨by omega,by omega⟩,?_⟩;exact⟨(i+1),_,au.refl _ _,hn,by omega,⟨Z,Z,Z,Z,Z,Z,Y⟩,⟨Z,Z,Y⟩⟩
 rw[ab1 (by omega),mF]at hi;refine aJ (fun k:Nat=>nA l k (P.drop k)=R) (fun k=>[(0,.p (.ip ((dX a)++[.sl dr,.sl (P.map jb),.sl tt,.sl gg,ints op,ints ob,.sl ol,.sl ah]))),(3,.bx 3 0),(4,.bx 4 0),(43,.p (.sl (P.map jb))),(44,.p (i64 P.length)),(45,.p (i64 k))]) (fun _=>[(3,.box [.p (str l.part),.p (str l.pin),.p (i64 l.layer),.p (i64 l.x),.p (i64 l.y)]),(4,.box [.p (bool false),.p (i64 0)])]) (fun k=>P.length-k) 0 _ (au.refl _ _) hi ⟨rfl,rfl,rfl,rfl,adV (fun m:Nat=>AV.p (i64 m)) lp,Z,Y⟩ ⟨Z,Z,Y⟩ fun k hk t h=>?_;refine iW ?_ ?_<;>intro g5
 ·obtain⟨p,J_⟩:=ak (l:=P) (i:=k) (by omega);have hpt:=Q9 p (aad J_);rw[drop_at J_,nA]at hk;have yes:pz l p=true->R=(⟨false,k⟩,true):=fun h=>by rw[aap h]at hk;exact hk.symm
  have no:pz l p=false->nA l (k+1) (P.drop (k+1))=R:=fun h=>by rw[aaa (by rw[h];decide)]at hk;exact hk
  refine⟨(jb p),(idx rfl J_),?_⟩;refine iW ?_ ?_<;>intro g1
  ·refine⟨_,_,(pU (told p.set) (by omega) l.x l.y),?_⟩;refine iW ?_ ?_<;>intro g2
   ·have hy:=yes (by simp only[pz,aaZ,aaH];exact⟨g1,g2⟩);exact And.intro (by rw[hy];rfl) trivial
   have hn:=no (by simp only[pz];rw[aaC];exact .inr g2);refine⟨⟨by omega,by omega⟩,?_⟩;exact⟨(k+1),_,au.refl _ _,hn,by omega,⟨Z,Z,Z,Z,Z,Z,Y⟩,⟨Z,Z,Y⟩⟩
  have hn:=no (by simp only[pz];rw[aaz g1,abp]);refine⟨⟨by omega,by omega⟩,?_⟩;exact⟨(k+1),_,au.refl _ _,hn,by omega,⟨Z,Z,Z,Z,Z,Z,Y⟩,⟨Z,Z,Y⟩⟩
 rw[ab1 (by omega),nA]at hk;exact And.intro (by rw[<-hk];rfl) trivial
theorem uB(a:fS)(hp:zx)(dr tt gg ol ah:List (List PV))(op ob:List Int)(P:List Piece)(n:Nat)(hn:hp.num=n)(v:Int)(hv:(if hp.bore=true then ob else op)[n]?=some v):af C 185 [.pv (.ip ((dX a)++[.sl dr,.sl (P.map jb),.sl tt,.sl gg,ints op,ints ob,.sl ol,.sl ah])),.pv (.ag (je hp))] (.p (i64 v)) []:=by
 obtain⟨b,m⟩:=hp;simp only at hn hv;subst hn;refine fW hC Tryz.func185 rfl (by kernel_rfl) fun _=>?_;refine iW ?_ ?_<;>intro g<;>try simp only[zB]at g
 ·rw[aap g]at hv;refine⟨[i64 v],(idx rfl hv),?_⟩;refine⟨?_,trivial⟩;rfl
 rw[aaa (by rw[g];decide)]at hv;refine⟨[i64 v],(idx rfl hv),?_⟩;refine⟨?_,trivial⟩;rfl
end M
namespace Reg
def I7:aS:=⟨0,0,0,0,0,false⟩
def bD(bs:List aS)(j:Nat):Bool:=(bs.getD j I7).plated
structure iB(bs:List aS)(n g:Nat)(l:List Nat)(s r:(List Int×List Int)×List Int×List Int):Prop where
 l1:r.1.1.length=s.1.1.length
 l2:r.1.2.length=s.1.2.length
 op:∀i,r.1.1[i]?=if i∈l/\i<n then some (g:Int) else s.1.1[i]?
 ob:∀j,r.1.2[j]?=if n+j∈l then some (if bD bs j=true then (g:Int) else -1) else s.1.2[j]?
 ps:∀x,x∈r.2.1↔x∈s.2.1\/∃i:Nat,i∈l/\i<n/\x=i
 bs':∀x,x∈r.2.2↔x∈s.2.2\/∃j:Nat,n+j∈l/\bD bs j=true/\x=j
theorem uC(bs:List aS)(n g:Nat):∀(l:List Nat) (s:(List Int×List Int)×List Int×List Int),s.1.1.length=n->s.1.2.length=bs.length->(∀i∈l,i<n+bs.length)->iB bs n g l s (l.foldl (jF bs n g) s)
 | [],s,_,_,_=>⟨rfl,rfl,fun i=>by simp,fun j=>by simp,fun x=>by simp,fun x=>by simp⟩
 | i::l,s,h1,h2,hl=>by
  have hi:=hl i adU;have J1:∀i∈l,i<n+bs.length:=fun i h=>hl i (aaw _ h);rw[aaq];by_cases c:i<n
  ·have e:jF bs n g s i=((s.1.1.set i (g:Int),s.1.2),s.2.1++[(i:Int)],s.2.2):=by rw[jF,aap c]
   rw[e];have r:=uC bs n g l ((s.1.1.set i (g:Int),s.1.2),s.2.1++[(i:Int)],s.2.2) (by simp only[aaM];exact h1) h2 J1;refine⟨r.l1.trans (aaM ..),r.l2,fun k=>?_,fun j=>?_,fun x=>?_,fun x=>?_⟩
   ·rw[r.op];by_cases hk:k∈l/\k<n
    ·rw[aap hk,aap ⟨aaw _ hk.1,hk.2⟩]
    rw[aaa hk,ew (by omega)];by_cases LG:k=i
    ·subst LG;rw[aap rfl,aap ⟨adU,c⟩]
    rw[aaa LG,aaa (fun hc=>hk ⟨(adq.1 hc.1).resolve_left LG,hc.2⟩)]
   ·rw[r.ob];have:(n+j∈i::l)↔n+j∈l:=by
     rw[adq];exact⟨fun h=>h.resolve_left (by omega),.inr⟩
    simp only[this]
   ·rw[r.ps];simp only[abi,adq,adI,or_false];constructor
    ·rintro ((h | h) | ⟨k,a,b,e⟩)
     ·exact .inl h
     ·exact .inr ⟨i,.inl rfl,c,h⟩
     exact .inr ⟨k,.inr a,b,e⟩
    rintro (h | ⟨k,a | a,b,e⟩)
    ·exact .inl (.inl h)
    ·exact .inl (.inr (by rw[e,a]))
    exact .inr ⟨k,a,b,e⟩
   rw[r.bs'];simp only[adq];constructor
   ·rintro (h | ⟨k,a,b⟩)
    ·exact .inl h
    exact .inr ⟨k,.inr a,b⟩
   rintro (h | ⟨k,a | a,b⟩)
   ·exact .inl h
   ·omega
   exact .inr ⟨k,a,b⟩
  have qg:(bs.getD (i-n) ⟨0,0,0,0,0,false⟩).plated=bD bs (i-n):=rfl;have X9:∀k,(k∈i::l/\k<n)↔(k∈l/\k<n):=fun k=>by
   rw[adq];exact⟨fun h=>⟨h.1.resolve_left (by omega),h.2⟩,fun h=>⟨.inr h.1,h.2⟩⟩
  have ZA:∀x:Int,(∃k:Nat,k∈i::l/\k<n/\x=k)↔(∃k:Nat,k∈l/\k<n/\x=k):=fun x=>
   ⟨fun ⟨k,a,b,e⟩=>⟨k,((X9 k).1 ⟨a,b⟩).1,b,e⟩,fun ⟨k,a,b,e⟩=>⟨k,aaw _ a,b,e⟩⟩
  have ZB:∀(o:List Int) (v:Int) (j:Nat),o.length=bs.length->(v=if bD bs (i-n)=true then (g:Int) else -1)->(if n+j∈l then some (if bD bs j=true then (g:Int) else -1) else (o.set (i-n) v)[j]?)=if n+j∈i::l then some (if bD bs j=true then (g:Int) else -1) else o[j]?:=fun o v j ho hv=>by
   by_cases hj:n+j∈l
   ·rw[aap hj,aap (aaw _ hj)]
   rw[aaa hj,ew (by omega)];by_cases Wf:j=i-n
   ·subst Wf;rw[aap rfl,aap (adq.2 (.inl (by omega))),hv]
   rw[aaa Wf,aaa (fun hc=>hj ((adq.1 hc).resolve_left (by omega)))]
  by_cases p:bD bs (i-n)=true
  ·have e:jF bs n g s i=((s.1.1,s.1.2.set (i-n) (g:Int)),s.2.1,s.2.2++[((i:Int)-n)]):=by rw[jF,aaa c,qg,aap p]
   rw[e];have r:=uC bs n g l ((s.1.1,s.1.2.set (i-n) (g:Int)),s.2.1,s.2.2++[((i:Int)-n)]) h1 (by simp only[aaM];exact h2) J1;refine⟨r.l1,r.l2.trans (aaM ..),fun k=>?_,fun j=>?_,fun x=>?_,fun x=>?_⟩
   ·rw[r.op];simp only[X9]
   ·rw[r.ob];exact ZB _ _ _ h2 (by rw[aap p])
   ·rw[r.ps,ZA]
   rw[r.bs'];simp only[abi,adq,adI,or_false];constructor
   ·rintro ((h | h) | ⟨k,a,b,e⟩)
    ·exact .inl h
    ·exact .inr ⟨i-n,.inl (by omega),p,by omega⟩
    exact .inr ⟨k,.inr a,b,e⟩
   rintro (h | ⟨k,a | a,b,e⟩)
   ·exact .inl (.inl h)
   ·exact .inl (.inr (by omega))
   exact .inr ⟨k,a,b,e⟩
  have e:jF bs n g s i=((s.1.1,s.1.2.set (i-n) (-1)),s.2.1,s.2.2):=by rw[jF,aaa c,qg,aaa p]
  rw[e];have r:=uC bs n g l ((s.1.1,s.1.2.set (i-n) (-1)),s.2.1,s.2.2) h1 (by simp only[aaM];exact h2) J1;refine⟨r.l1,r.l2.trans (aaM ..),fun k=>?_,fun j=>?_,fun x=>?_,fun x=>?_⟩
  ·rw[r.op];simp only[X9]
  ·rw[r.ob];exact ZB _ _ _ h2 (by rw[aaa p])
  ·rw[r.ps,ZA]
  rw[r.bs'];simp only[adq];constructor
  ·rintro (h | ⟨k,a,b⟩)
   ·exact .inl h
   exact .inr ⟨k,.inr a,b⟩
  rintro (h | ⟨k,a | a,b,e⟩)
  ·exact .inl h
  ·have:k=i-n:=by omega
   rw[this]at b;exact absurd b p
  exact .inr ⟨k,a,b,e⟩
structure Nz(bs:List aS)(n:Nat)(D:List (List Nat))(s:(List Int×List Int)×List bh):Prop where
 l1:s.1.1.length=n
 l2:s.1.2.length=bs.length
 a:∀i,i<n->(∃l∈D,i∈l)->∃(k:Nat) (g:bh),s.1.1[i]?=some (k:Int)/\s.2[k]?=some g/\(i:Int)∈g.pieces
 b:∀j,j<bs.length->bD bs j=true->(∃l∈D,n+j∈l)->∃(k:Nat) (g:bh),s.1.2[j]?=some (k:Int)/\s.2[k]?=some g/\(j:Int)∈g.bores
 c:∀(k:Nat) g,s.2[k]?=some g->g.pins=[]/\∀x∈g.pieces,∃i:Nat,x=i/\i<n/\s.1.1[i]?=some (k:Int)/\∃l∈D,i∈l
 d:∀j,j<bs.length->bD bs j=false->(∃l∈D,n+j∈l)->s.1.2[j]?=some (-1)
variable {bs:List aS}
theorem KP{n:Nat}{D:List (List Nat)}{s:(List Int×List Int)×List bh}(h:Nz bs n D s){l:List Nat}(hl:∀i∈l,i<n+bs.length)(hd:∀l'∈D,∀i∈l',¬i∈l):Nz bs n (D++[l]) (AT bs n s l):=by
 have r:=uC bs n s.2.length l (s.1,[],[]) h.l1 h.l2 hl;obtain⟨q,hq⟩:∃q,q=l.foldl (jF bs n s.2.length) (s.1,[],[]):=⟨_,rfl⟩;rw[<-hq]at r;have hs:AT bs n s l=(q.1,if 0<q.2.1.length+q.2.2.length then s.2++[⟨q.2.1,q.2.2,[]⟩] else s.2):=by rw[hq];rfl
 rw[hs];have X_:∀x,x∈q.2.1↔∃i:Nat,i∈l/\i<n/\x=i:=fun x=>by rw[r.ps];simp
 have ZC:∀x,x∈q.2.2↔∃j:Nat,n+j∈l/\bD bs j=true/\x=j:=fun x=>by rw[r.bs'];simp
 have keep:∀(k:Nat) g,s.2[k]?=some g->(if 0<q.2.1.length+q.2.2.length then s.2++[⟨q.2.1,q.2.2,[]⟩] else s.2)[k]?=some g:=fun k g hk=>by
  split
  ·rw[aaE (aao.1 hk).1];exact hk
  exact hk
 have Vr:∀x,(x∈q.2.1\/x∈q.2.2)->(if 0<q.2.1.length+q.2.2.length then s.2++[(⟨q.2.1,q.2.2,[]⟩:bh)] else s.2)[s.2.length]?=some ⟨q.2.1,q.2.2,[]⟩:=fun x hx=>by
  have:0<q.2.1.length+q.2.2.length:=by rcases hx with h | h<;>(have:=adL h;omega)
  rw[aap this,acu (aam _),aab];rfl
 have mD:∀i,(∃l'∈D++[l],i∈l')↔(∃l'∈D,i∈l')\/i∈l:=fun i=>by
  constructor
  ·rintro⟨l',h1,h2⟩;rcases abi.1 h1 with h1 | h1
   ·exact .inl ⟨l',h1,h2⟩
   rw[ab_]at h1;subst h1;exact .inr h2
  rintro (⟨l',h1,h2⟩ | h2)
  ·exact⟨l',abY _ h1,h2⟩
  exact⟨l,adt _ (ab_.2 rfl),h2⟩
 refine⟨r.l1.trans h.l1,r.l2.trans h.l2,fun i hi hm=>?_,fun j hj hp hm=>?_,fun k g hk=>?_,fun j hj hp hm=>?_⟩
 ·by_cases xD:i∈l
  ·refine⟨s.2.length,_,by rw[r.op,aap ⟨xD,hi⟩],Vr i (.inl ((X_ _).2 ⟨i,xD,hi,rfl⟩)),(X_ _).2 ⟨i,xD,hi,rfl⟩⟩
  obtain⟨k,g,h1,h2,h3⟩:=h.a i hi (((mD i).1 hm).resolve_right xD);exact⟨k,g,by rw[r.op,aaa (fun hc=>xD hc.1)];exact h1,keep k g h2,h3⟩
 ·by_cases xD:n+j∈l
  ·refine⟨s.2.length,_,by rw[r.ob,aap xD,aap hp],Vr j (.inr ((ZC _).2 ⟨j,xD,hp,rfl⟩)),(ZC _).2 ⟨j,xD,hp,rfl⟩⟩
  obtain⟨k,g,h1,h2,h3⟩:=h.b j hj hp (((mD _).1 hm).resolve_right xD);exact⟨k,g,by rw[r.ob,aaa xD];exact h1,keep k g h2,h3⟩
 ·by_cases Ts:k<s.2.length
  ·have xA:s.2[k]?=some g:=by
    have e:=keep k s.2[k] (acg Ts);have e2:=hk.symm.trans e;injection e2 with e2;rw[e2];exact acg Ts
   obtain⟨c1,c2⟩:=h.c k g xA;refine⟨c1,fun x hx=>?_⟩;obtain⟨i,e,hi,ho,hm⟩:=c2 x hx;have xD:¬i∈l:=fun hc=>by
    obtain⟨l',h1,h2⟩:=hm;exact hd l' h1 i h2 hc
   exact⟨i,e,hi,by rw[r.op,aaa (fun hc=>xD hc.1)];exact ho,(mD i).2 (.inl hm)⟩
  have l_:(if 0<q.2.1.length+q.2.2.length then s.2++[(⟨q.2.1,q.2.2,[]⟩:bh)] else s.2)[k]?=some g:=hk;split at l_
  ·rw[acu (by omega)]at l_;have Ov:k=s.2.length:=by
    have:=(aao.1 l_).1;simp at this;omega
   rw[Ov,aab]at l_;injection l_ with l_;subst l_;subst Ov;refine⟨rfl,fun x hx=>?_⟩;obtain⟨i,xD,hi,e⟩:=(X_ x).1 hx;exact⟨i,e,hi,by rw[r.op,aap ⟨xD,hi⟩],(mD i).2 (.inr xD)⟩
  exact absurd (aao.1 l_).1 Ts
 by_cases xD:n+j∈l
 ·rw[r.ob,aap xD,hp];rfl
 rw[r.ob,aaa xD];exact h.d j hj hp (((mD _).1 hm).resolve_right xD)
theorem Fl{n:Nat}:∀(L D:List (List Nat)) (s:(List Int×List Int)×List bh),Nz bs n D s->(∀l∈L,∀i∈l,i<n+bs.length)->(∀l'∈D,∀l∈L,∀i∈l',¬i∈l)->(L.Pairwise fun l' l=>∀i∈l',¬i∈l)->Nz bs n (D++L) (L.foldl (AT bs n) s)
 | [],D,s,h,_,_,_=>by rw[acw];exact h
 | l::L,D,s,h,hl,hd,hp=>by
  have hp':=ade.1 hp;have h1:=KP h (hl l adU) fun l' J1=>hd l' J1 l adU;have:=Fl L (D++[l]) (AT bs n s l) h1 (fun l' h'=>hl l' (aaw _ h')) (fun l' h' m hm i hi=>by
   rcases abi.1 h' with h' | h'
   ·exact hd l' h' m (aaw _ hm) i hi
   rw[ab_]at h';subst h';exact hp'.1 m hm i hi) hp'.2
  rw[abx,ac3]at this;exact this
structure mG(bs:List aS)(n:Nat)(s:(List Int×List Int)×List bh):Prop where
 l1:s.1.1.length=n
 l2:s.1.2.length=bs.length
 a:∀i,i<n->∃(k:Nat) (g:bh),s.1.1[i]?=some (k:Int)/\s.2[k]?=some g/\(i:Int)∈g.pieces
 b:∀j,j<bs.length->bD bs j=true->∃(k:Nat) (g:bh),s.1.2[j]?=some (k:Int)/\s.2[k]?=some g/\(j:Int)∈g.bores
 c:∀(k:Nat) g,s.2[k]?=some g->g.pins=[]/\∀x∈g.pieces,∃i:Nat,x=i/\i<n/\s.1.1[i]?=some (k:Int)
 d:∀j,j<bs.length->bD bs j=false->s.1.2[j]?=some (-1)
theorem vL{n:Nat}{u:List Int}(hu:UF u)(hl:u.length=n+bs.length):mG bs n (jn bs n (aP (cQ u) (n+bs.length))):=by
 have hT:=rz hu;rw[hl]at hT;have h0:Nz bs n [] ((List.replicate n 0,List.replicate bs.length 0),[]):=⟨aan,aan,fun i _ ⟨l,h,_⟩=>(by cases h),fun j _ _ ⟨l,h,_⟩=>(by cases h),fun k g h=>by simp at h,fun j _ _ ⟨l,h,_⟩=>(by cases h)⟩;have h1:=Fl (aP (cQ u) (n+bs.length)) [] _ h0 (fun l h i hi=>by
  obtain⟨r,_,rfl⟩:=adS.1 h;exact (dx.1 hi).1) (fun l' h=>by cases h) (by
  rw[aP,abe];refine (afh _ _).imp fun {r q} b8=>?_;intro i hi hc;exact b8 ((dx.1 hi).2.symm.trans (dx.1 hc).2))
 have Ya:∀i,i<n+bs.length->∃l∈[]++aP (cQ u) (n+bs.length),i∈l:=fun i hi=>by
  refine⟨dh (cQ u) (n+bs.length) (cQ u i),?_,dx.2 ⟨hi,rfl⟩⟩;rw[acZ,aP];exact adS.2 ⟨cQ u i,mem_keys.2 ⟨by have:=hT.le i hi;omega,hT.top i hi⟩,rfl⟩
 exact⟨h1.l1,h1.l2,fun i hi=>h1.a i hi (Ya i (by omega)),fun j hj hp=>h1.b j hj hp (Ya (n+j) (by omega)),fun k g hk=>⟨(h1.c k g hk).1,fun x hx=>by obtain⟨i,a,b,c,_⟩:=(h1.c k g hk).2 x hx;exact⟨i,a,b,c⟩⟩,fun j hj hp=>h1.d j hj hp (Ya (n+j) (by omega))⟩
theorem Fm(l:fo):∀(ps:List Piece) (k:Nat),(nA l k ps).2=true->∃m:Nat,(nA l k ps).1=⟨false,m⟩/\k<=m/\m<k+ps.length
 | [],k,h=>by cases h
 | p::ps,k,h=>by
  rw[nA]at h ⊢;by_cases c:pz l p=true
  ·rw[aap c];exact⟨k,rfl,aam _,by simp⟩
  rw[aaa c]at h ⊢;obtain⟨m,a,b,d⟩:=Fm l ps (k+1) h;exact⟨m,a,by omega,by simp only[aaB];omega⟩
theorem zD(l:fo)(ps:List Piece):∀(bs:List aS) (k:Nat),(mF l ps k bs).2=true->(∃m:Nat,(mF l ps k bs).1=⟨false,m⟩/\m<ps.length)\/∃m:Nat,(mF l ps k bs).1=⟨true,m⟩/\k<=m/\m<k+bs.length/\bD bs (m-k)=true
 | [],k,h=>by
  rw[mF]at h ⊢;obtain⟨m,a,_,b⟩:=Fm l ps 0 h;exact .inl ⟨m,a,by omega⟩
 | b::bs,k,h=>by
  rw[mF]at h ⊢;by_cases c:mV l b=true
  ·rw[aap c];simp only[mV,aaZ]at c;exact .inr ⟨k,rfl,aam _,by simp,by rw[aab];exact c.1.1⟩
  rw[aaa c]at h ⊢;rcases zD l ps bs (k+1) h with⟨m,a,d⟩ | ⟨m,a,d,e,f⟩
  ·exact .inl ⟨m,a,d⟩
  refine .inr ⟨m,a,by omega,by simp only[aaB];omega,?_⟩;rw[show m-k=(m-(k+1))+1 by omega];exact f
theorem KQ{ps:List Piece}{s:(List Int×List Int)×List bh}(h:mG bs ps.length s)(l:fo)(ht:(il bs ps l).2=true):∃m k:Nat,(il bs ps l).1.num=m/\(if (il bs ps l).1.bore=true then s.1.2 else s.1.1)[m]?=some (k:Int)/\k<s.2.length:=by
 rcases zD l ps bs 0 ht with⟨m,a,d⟩ | ⟨m,a,_,d,e⟩
 ·obtain⟨k,g,h1,h2,_⟩:=h.a m d;refine⟨m,k,by rw[il,a],?_,(aao.1 h2).1⟩;rw[il,a];exact h1
 obtain⟨k,g,h1,h2,_⟩:=h.b m (by omega) e;refine⟨m,k,by rw[il,a],?_,(aao.1 h2).1⟩;rw[il,a];exact h1
end Reg
namespace M
open Go.AM Go.RowKit Go.Lib
open Reg (ae an aS fo fS Piece bh zx UF iota gj r_ uz jm bE cv told aB bO aa through jF AT jn mG qN uA iN il)
def sT(g:bh):List PV:=[ints g.pieces,ints g.bores,.sl (g.pins.map pc)]
def wR(g:bh):List PV:=[ints g.pieces,ints g.bores,.im (.slice none 0 0)]
def I8(p:List (ByteArray×ByteArray)):HX:=if p=[] then .av .nl else .row 205 (p.map pc)
def gh(g:bh):List HX:=[.av (.p (ints g.pieces)),.av (.p (ints g.bores)),I8 g.pins]
theorem PQ(f:AV->AV)(hn:f .nl=.nl)(p:List (ByteArray×ByteArray)):HX.cS f (I8 p)=I8 p:=by
 unfold I8;split
 ·simp only[HX.cS,hn]
 rfl
theorem NA(f:AV->AV)(hp:∀x,f (.p x)=.p x)(hn:f .nl=.nl)(G:List bh):(G.map gh).map (fun r=>r.map (HX.cS f))=G.map gh:=by
 rw[ad6];refine aaG fun g _=>?_;show [HX.cS f _,HX.cS f _,HX.cS f (I8 g.pins)]=_;rw[PQ f hn];simp only[HX.cS,hp];rfl
theorem qO(d:Nat)(G:List bh):(G.map gh).map (fun r=>r.map (HX.cS (sc d)))=G.map gh:=NA _ (fun _=>rfl) rfl G
theorem Fo(i d:Nat)(G:List bh):(G.map gh).map (fun r=>r.map (HX.cS (rn i d)))=G.map gh:=NA _ (fun _=>rfl) rfl G
theorem dC(n:Nat)(G:List bh)(k d:Nat)(a b:PV)(h:sc n (.ow d)=.ow d):((G.map gh).set k [.av (.p a),.av (.p b),.av (.ow d)]).map (fun r=>r.map (HX.cS (sc n)))=(G.map gh).set k [.av (.p a),.av (.p b),.av (.ow d)]:=by
 rw[ad8,qO];simp only[aa8,ac0,HX.cS,h];rfl
theorem NB{G:List bh}(h:∀g∈G,g.pins=[]):(G.map wR).map s9=G.map gh:=by
 rw[ad6];refine aaG fun g hg=>?_;simp only[Function.comp,wR,gh,h g hg];rfl
theorem SR(p:List (ByteArray×ByteArray)):Tr (I8 p) (.sl (p.map pc)):=by
 unfold I8;split
 ·rename_i e;rw[e];exact .nl
 exact .row _ _
theorem vM(G:List bh):Oi (G.map gh) (G.map sT):=Oi.map fun g _=>⟨rfl,fun j u v hu hv=>by
 match j with
 | 0=>simp only[gh,sT,aa9,Option.some.injEq]at hu hv;subst hu;subst hv;exact .p _
 | 1=>simp only[gh,sT,abc,aa9,Option.some.injEq]at hu hv;subst hu;subst hv;exact .p _
 | 2=>simp only[gh,sT,abc,aa9,Option.some.injEq]at hu hv;subst hu;subst hv;exact SR _
 | j+3=>simp[gh]at hu⟩
theorem of_eq{A:cD}{s s':AS}(h:s=s'):au A s s':=h▸au.refl A s
theorem au.I9{A:cD}(hC:bI A.C)(s:AS)(id k d:Nat){e:TypeId}{G:List bh}{g:bh}{ti:TI}(hd:d<100000)(hid:id≠d)(hb:s.h id=.az e (G.map gh))(hk:G[k]?=some g)(hT:A.C.T 205=some ti)(hpos:0<ti.size):
  au A s ⟨(gX d s).t,aT (aT (gX d s).h d (.row 205 (g.pins.map pc))) id (.az e ((G.map gh).set k [.av (.p (ints g.pieces)),.av (.p (ints g.bores)),.av (.ow d)]))⟩:=by
 have Ov:=(aao.1 hk).1;have hr:(G.map gh)[k]?=some (gh g):=by rw[aak,hk];rfl
 have Q_:∀r∈G.map gh,∀x∈r,IC x:=fun r hr x hx=>by
  obtain⟨g,_,rfl⟩:=adS.1 hr;simp only[gh,adq,adI,or_false]at hx;rcases hx with rfl | rfl | rfl
  ·trivial
  ·trivial
  unfold I8;split<;>trivial
 by_cases c:g.pins=[]
 ·have h1:=au.Sr hC s id k 2 (e':=205) hb hr (by rw[gh,I8,aap c];rfl) hT hpos;have h2:=au.rq hC ⟨s.t,aT s.h id (.az e ((G.map gh).set k ((gh g).set 2 (.row 205 []))))⟩ id k 2 d (e:=e) (r:=(gh g).set 2 (.row 205 [])) hd hid (aH _ _ _) (fun r hr x hx=>by
   rcases abg hr with hr | hr
   ·exact Q_ r hr x hx
   subst hr;simp only[gh,List.set_cons_succ,List.set_cons_zero,adq,adI,or_false]at hx;rcases hx with rfl | rfl | rfl<;>trivial) (ab7 (by rw[aej];exact Ov)) rfl
  refine (h1.trans h2).trans (of_eq ?_);rw[c];refine adV (AS.mk _) ?_;funext j;by_cases e1:j=id
  ·subst e1;rw[aH,aH,abM];rfl
  rw[aV _ _ e1,aV _ _ e1];by_cases e2:j=d
  ·subst e2;rw[aH,aH];rfl
  rw[aV _ _ e2,aV _ _ e2];show aT (fun m=>xm d (aT s.h id _ m)) d .none j=aT (fun m=>xm d (s.h m)) d .none j;rw[aV _ _ e2,aV _ _ e2];show xm d (aT _ _ _ j)=_;rw[aV _ _ e1]
 have h2:=au.rq hC s id k 2 d (e':=205) (xs:=g.pins.map pc) hd hid hb Q_ hr (by rw[gh,I8,aaa c];rfl);exact h2
theorem I_(p:List (ByteArray×ByteArray))(x:ByteArray×ByteArray):I8 (p++[x])=.row 205 ((p++[x]).map pc):=by
 rw[I8,aaa (by simp)]
theorem zE(a:fS)(ha:iD a)(dr:List (List PV))(P:List Piece)(T:List (List Int))(hP:P.length<=2000)(Q9:∀p∈P,(told p.set).length<=4398046511104)(hT:T.length=a.bores.length)(U:List Int)(hU:U=jm P.length a.bores.length T)(o:List Int×List Int)(G0:List bh)(hF:jn a.bores P.length (Reg.aP (Reg.cQ U) (P.length+a.bores.length))=(o,G0))(R:qN)(hR:R=a.lands.foldl (uA a.bores P o) ⟨G0,[],[]⟩)(ZD:∀x∈T,∀p∈x,0<=p/\p<P.length)(Vs:∀x∈T,x.length<=1000000000):af C 102 [.aN [.p (.sl (a.coppers.map rr)),.p (aj a.outline),.p (.sl (a.bores.map bc)),.p (.sl (a.lands.map lc)),.row 59 dr,.row 76 (P.map jb),.row 71 (T.map fun l=>[ints l]),.row 142 [],.row 3 [],.row 3 [],.row 3 [],.row 174 []]] (.tu []) [.aN [.p (.sl (a.coppers.map rr)),.p (aj a.outline),.p (.sl (a.bores.map bc)),.p (.sl (a.lands.map lc)),.row 59 dr,.row 76 (P.map jb),.row 71 (T.map fun l=>[ints l]),.row 142 (R.groups.map sT),.row 3 (aA o.1),.row 3 (aA o.2),.row 3 (aA R.ofLand),.row 174 (R.atLand.map je)]]:=by
 have lb:=ai a.bores bc;have lp:=ai P jb;have lT:=ai T fun l=>[ints l];have zA:=ha.jB;obtain⟨n,hn⟩:∃n,n=P.length:=⟨_,rfl⟩;rw[<-hn]at hU hF;have abl:=Reg.qM (n:=n) (nb:=a.bores.length) T 0 (iota (n+a.bores.length)) (Reg.ny _) (Reg.aeM _) (by omega) (by rw[hn];exact ZD);refine UO ⟨[27,37],[],[(11,[66]),(37,[14,1000014,15,1000015,90003,1090003,100000,1100000]),(38,[14,1000014,15,1000015,90003,1090003,100000,1100000,219])],[28,37,38],[(11,[true,true,true,true,true,true,true,true,true,false,false,true,true,false,true,true,true]),(37,[true,false,false,false,true,true,true,true,true,true,true,true,true,true,true,true,false,true,true,true]),(38,[true,true,true,true,true,true,true,true,false,true,false,false,false,false,false,true,true,true,true,true,true,true])],[]⟩ hC Tryz.func102 rfl (by kernel_rfl) fun _=>⟨_,au.open hC _ 100000 [90000,90001,90002,90003,90004,90005,90006,90007] (by exact rfl) rfl rfl rfl,?_⟩;refine⟨⟨by omega,by omega⟩,?_⟩;have GU:=KJ (n+a.bores.length) (by omega);have Vt:((n+a.bores.length:Nat):Int)=((P.map jb).length:Int)+((a.bores.map bc).length:Int):=by omega
 rw[Vt]at GU;refine⟨_,_,GU,?_⟩;refine aJ (fun x:Nat×List Int=>uz n x.1 (T.drop x.1) x.2=U/\UF x.2/\x.2.length=n+a.bores.length/\x.1<=T.length) (fun x=>[(0,.bx 100000 0),(2,.p (i64 n)),(3,.bx 31 0),(35,.ow 90002),(36,.p (i64 T.length)),(37,.p (i64 x.1))]) (fun x=>[(100000,.box [.p (.sl (a.coppers.map rr)),.p (aj a.outline),.p (.sl (a.bores.map bc)),.p (.sl (a.lands.map lc)),.ow 90000,.ow 90001,.ow 90002,.ow 90003,.ow 90004,.ow 90005,.ow 90006,.ow 90007]),(90000,.row 59 dr),(90001,.row 76 (P.map jb)),(90002,.row 71 (T.map fun l=>[ints l])),(90003,.row 142 []),(90004,.row 3 []),(90005,.row 3 []),(90006,.row 3 []),(90007,.row 174 []),(31,.aN [.row 3 (aA x.2)])]) (fun x=>T.length-x.1) (0,iota (n+a.bores.length)) _ (au.refl _ _) ⟨hU.symm,Reg.ny _,Reg.aeM _,aaj _⟩ ⟨rfl,adV (fun m:Nat=>AV.p (i64 m)) (lp.trans hn.symm),rfl,rfl,adV (fun m:Nat=>AV.p (i64 m)) lT,Z,Y⟩ ⟨Z,Z,Z,Z,Z,Z,Z,Z,Z,Z,Y⟩ fun ⟨k,u⟩ hx t h=>?_;obtain⟨q1,q2,q3,q4⟩:=hx;simp only at q1 q2 q3 q4;refine iW ?_ ?_<;>intro g<;>try simp only[zB]at g
 ·obtain⟨l,Ws⟩:=ak (l:=T) (i:=k) (by omega);have Wq:=ZD l (aad Ws);have ZE:=Vs l (aad Ws);have ll:=ai l fun n=>[i64 n];rw[drop_at Ws,uz]at q1;refine⟨⟨by omega,by (try dsimp only);omega⟩,?_⟩;refine⟨[ints l],(idx rfl Ws).2,?_⟩;refine aJ (fun z:Nat×List Int=>r_ (n+k) (l.drop z.1) z.2=r_ (n+k) l u/\UF z.2/\z.2.length=n+a.bores.length) (fun z=>[(0,.bx 100000 0),(2,.p (i64 n)),(3,.bx 31 0),(35,.ow 90002),(36,.p (i64 T.length)),(37,.p (i64 k)),(4,.p (i64 k)),(42,.p (ints l)),(43,.p (i64 l.length)),(44,.p (i64 z.1))]) (fun z=>[(100000,.box [.p (.sl (a.coppers.map rr)),.p (aj a.outline),.p (.sl (a.bores.map bc)),.p (.sl (a.lands.map lc)),.ow 90000,.ow 90001,.ow 90002,.ow 90003,.ow 90004,.ow 90005,.ow 90006,.ow 90007]),(90000,.row 59 dr),(90001,.row 76 (P.map jb)),(90002,.row 71 (T.map fun l=>[ints l])),(90003,.row 142 []),(90004,.row 3 []),(90005,.row 3 []),(90006,.row 3 []),(90007,.row 174 []),(31,.aN [.row 3 (aA z.2)])]) (fun z=>l.length-z.1) (0,u) _ (au.refl _ _) ⟨rfl,q2,q3⟩ ⟨rfl,rfl,rfl,rfl,rfl,rfl,rfl,rfl,adV (fun m:Nat=>AV.p (i64 m)) ll,Z,Y⟩ ⟨Z,Z,Z,Z,Z,Z,Z,Z,Z,Z,Y⟩ fun ⟨j,v⟩ hz t h=>?_;obtain⟨z1,z2,z3⟩:=hz;simp only at z1 z2 z3;refine iW ?_ ?_<;>intro g2<;>try simp only[zB]at g2
  ·obtain⟨p,Yb⟩:=ak (l:=l) (i:=j) (by omega);have Wn:=Wq p (aad Yb);rw[drop_at Yb,r_]at z1;have ZF:((p.toNat:Nat):Int)=p:=aee Wn.1;have hj:=Hx v z2 p.toNat (n+k) (by omega) (by omega);rw[ZF,Int.natCast_add]at hj;obtain⟨w1,w2⟩:=Reg.mC z2 (i:=p.toNat) (k:=n+k) (by omega) (by omega);refine⟨[i64 p],(idx rfl Yb),?_⟩;refine⟨⟨by omega,by omega⟩,?_⟩;refine⟨_,_,hj,?_⟩;refine⟨⟨by omega,by omega⟩,?_⟩;exact⟨(j+1,gj v p.toNat (n+k)),_,au.refl _ _,⟨z1,w1,w2.trans z3⟩,by simp only;omega,⟨Z,Z,Z,Z,Z,Z,Z,Z,Z,Z,Y⟩,⟨Z,Z,Z,Z,Z,Z,Z,Z,Z,Z,Y⟩⟩
  rw[ab1 (by omega),r_]at z1;refine⟨⟨by omega,by omega⟩,?_⟩;exact⟨(k+1,v),_,au.refl _ _,⟨by rw[z1];exact q1,z2,z3,by simp only;omega⟩,by simp only;omega,⟨Z,Z,Z,Z,Z,Z,Y⟩,⟨Z,Z,Z,Z,Z,Z,Z,Z,Z,Z,Y⟩⟩
 rw[ab1 (by omega),uz]at q1;have NC:=Hz u q2 (by omega);rw[q3]at NC;obtain⟨LL,PM⟩:∃LL,LL=Reg.aP (Reg.cQ u) (n+a.bores.length):=⟨_,rfl⟩;rw[<-PM]at NC;have hLi:∀l∈LL,l.length<=n+a.bores.length/\∀i∈l,i<n+a.bores.length:=fun l hl=>by
  rw[PM,Reg.aP]at hl;obtain⟨r,_,rfl⟩:=adS.1 hl;exact⟨Reg.qJ _ _ _,fun i hi=>(Reg.dx.1 hi).1⟩
 have Gz:LL.length<=n+a.bores.length:=by rw[PM,Reg.oq];exact Reg.qI _ _
 obtain⟨F,Yc⟩:∃F,F=jn a.bores n LL:=⟨_,rfl⟩;have hFo:F=(o,G0):=by rw[Yc,PM,<-hF,<-q1]
 refine⟨⟨by omega,by omega,by dsimp only;omega,by omega⟩,?_⟩;refine⟨⟨by omega,by omega,by dsimp only;omega,by omega⟩,?_⟩;refine⟨_,_,NC,?_⟩;have lLL:=ai LL pl;have op0:aA (List.replicate n 0)=List.replicate n [i64 0]:=by rw[aA,adM]
 have ob0:aA (List.replicate a.bores.length 0)=List.replicate a.bores.length [i64 0]:=by rw[aA,adM]
 refine aJ (fun x:Nat×(List Int×List Int)×List bh=>(LL.drop x.1).foldl (AT a.bores n) x.2=F/\x.2.1.1.length=n/\x.2.1.2.length=a.bores.length/\x.2.2.length<=x.1/\x.1<=LL.length) (fun x=>[(0,.bx 100000 0),(2,.p (i64 n)),(72,.p (.sl (LL.map pl))),(73,.p (i64 LL.length)),(74,.p (i64 x.1))]) (fun x=>[(100000,.box [.p (.sl (a.coppers.map rr)),.p (aj a.outline),.p (.sl (a.bores.map bc)),.p (.sl (a.lands.map lc)),.ow 90000,.ow 90001,.ow 90002,.ow 90003,.ow 90004,.ow 90005,.ow 90006,.ow 90007]),(90000,.row 59 dr),(90001,.row 76 (P.map jb)),(90002,.row 71 (T.map fun l=>[ints l])),(90003,.row 142 (x.2.2.map wR)),(90004,.row 3 (aA x.2.1.1)),(90005,.row 3 (aA x.2.1.2)),(90006,.row 3 []),(90007,.row 174 [])]) (fun x=>LL.length-x.1) (0,(List.replicate n 0,List.replicate a.bores.length 0),[]) _ ((au.own (by exact hC) _ 72 (id:=72) (by exact rfl) (by exact rfl)).trans ((au.pack (by exact hC) _ 100000 (cs:=[.p (.sl (a.coppers.map rr)),.p (aj a.outline),.p (.sl (a.bores.map bc)),.p (.sl (a.lands.map lc)),.row 59 dr,.row 76 (P.map jb),.row 71 (T.map fun l=>[ints l]),.row 142 [],.row 3 (aA (List.replicate n 0)),.row 3 (aA (List.replicate a.bores.length 0)),.row 3 [],.row 174 []]) (by exact rfl) (by exact rfl) (by exact⟨rfl,rfl,rfl,rfl,rfl,rfl,rfl,rfl,adV (AB.row _) (by rw[op0];rfl),adV (AB.row _) (by rw[ob0,<-lb];rfl),Z,Z,Y⟩)).trans (au.open (by exact hC) _ 100000 [90000,90001,90002,90003,90004,90005,90006,90007] (cs:=[.p (.sl (a.coppers.map rr)),.p (aj a.outline),.p (.sl (a.bores.map bc)),.p (.sl (a.lands.map lc)),.row 59 dr,.row 76 (P.map jb),.row 71 (T.map fun l=>[ints l]),.row 142 [],.row 3 (aA (List.replicate n 0)),.row 3 (aA (List.replicate a.bores.length 0)),.row 3 [],.row 174 []]) (by exact rfl) rfl rfl rfl))) ⟨Yc.symm,aan,aan,aaj _,aaj _⟩ ⟨rfl,rfl,rfl,adV (fun m:Nat=>AV.p (i64 m)) lLL,Z,Y⟩ ⟨Z,Z,Z,Z,Z,Z,Z,Z,Z,Y⟩ fun ⟨j,⟨op,ob⟩,G⟩ hx t h=>?_;obtain⟨y1,y2,y3,y4,y5⟩:=hx;simp only at y1 y2 y3 y4 y5;refine iW ?_ ?_<;>intro g2<;>try simp only[zB]at g2
 ·obtain⟨l,Yd⟩:=ak (l:=LL) (i:=j) (by omega);obtain⟨Qo,F4⟩:=hLi l (aad Yd);rw[drop_at Yd,aaq]at y1;refine⟨(pl l),(idx rfl Yd),?_⟩;have ZG:(aA (l.map fun (m:Nat)=>(m:Int))).length=l.length:=by rw[bQ,aej]
  obtain⟨r,hr⟩:∃r,r=l.foldl (jF a.bores n G.length) ((op,ob),[],[]):=⟨_,rfl⟩;have mT:AT a.bores n ((op,ob),G) l=(r.1,if 0<r.2.1.length+r.2.2.length then G++[⟨r.2.1,r.2.2,[]⟩] else G):=by rw[hr];rfl
  rw[mT]at y1;refine aJ (fun y:Nat×(List Int×List Int)×List Int×List Int=>(l.drop y.1).foldl (jF a.bores n G.length) y.2=r/\y.2.1.1.length=n/\y.2.1.2.length=a.bores.length/\y.2.2.1.length<=y.1/\y.2.2.2.length<=y.1/\y.1<=l.length) (fun y=>[(0,.bx 100000 0),(2,.p (i64 n)),(72,.p (.sl (LL.map pl))),(73,.p (i64 LL.length)),(74,.p (i64 j)),(10,.bx 10 0),(78,.p (.sl (aA (l.map fun (m:Nat)=>(m:Int))))),(79,.p (i64 l.length)),(80,.p (i64 y.1))]) (fun y=>[(100000,.box [.p (.sl (a.coppers.map rr)),.p (aj a.outline),.p (.sl (a.bores.map bc)),.p (.sl (a.lands.map lc)),.ow 90000,.ow 90001,.ow 90002,.ow 90003,.ow 90004,.ow 90005,.ow 90006,.ow 90007]),(90000,.row 59 dr),(90001,.row 76 (P.map jb)),(90002,.row 71 (T.map fun l=>[ints l])),(90003,.row 142 (G.map wR)),(90004,.row 3 (aA y.2.1.1)),(90005,.row 3 (aA y.2.1.2)),(90006,.row 3 []),(90007,.row 174 []),(10,.box [.ow 90100,.ow 90101,.nl]),(90100,.row 3 (aA y.2.2.1)),(90101,.row 3 (aA y.2.2.2))]) (fun y=>l.length-y.1) (0,(op,ob),[],[]) _ ((au.aeK (by exact hC) _ 10 0 90100 3 _ _ (by decide) (by decide) (by exact rfl) (by exact rfl) (by exact rfl) (by decide)).trans (au.aeK (by exact hC) _ 10 1 90101 3 _ _ (by decide) (by decide) (by exact rfl) (by exact rfl) (by exact rfl) (by decide))) ⟨hr.symm,y2,y3,aam _,aam _,aaj _⟩ ⟨rfl,rfl,rfl,rfl,rfl,rfl,rfl,adV (fun m:Nat=>AV.p (i64 m)) ZG,Z,Y⟩ ⟨Z,Z,Z,Z,Z,Z,Z,Z,Z,Z,Z,Z,Y⟩ fun ⟨m,⟨ND,F5⟩,ps,bs⟩ hy t h=>?_;obtain⟨w1,w2,w3,w4,w5,w6⟩:=hy;simp only at w1 w2 w3 w4 w5 w6;refine iW ?_ ?_<;>intro g3<;>try simp only[zB]at g3
  ·obtain⟨i,Ye⟩:=ak (l:=l) (i:=m) (by omega);have hiN:=F4 i (aad Ye);rw[drop_at Ye,aaq]at w1;have lG:=ai G wR;refine⟨[i64 i],⟨by omega,cM (by rw[aak];simp[Ye])⟩,?_⟩;refine iW ?_ ?_<;>intro g4
   ·rw[jF,aap (by omega)]at w1;obtain⟨v,hv⟩:=ak (l:=ND) (i:=i) (by omega);have lv:=bQ ND;have Yf:=bQ ps;refine⟨⟨by omega,by (try dsimp only);omega⟩,?_⟩;refine⟨[i64 v],(cM hv),?_⟩;refine⟨⟨fun r hr=>by simp at hr;subst hr;rfl,by simp only[Yf,aaM,aan];omega,by simp only[Yf,aaM,aan];omega⟩,?_⟩;refine⟨⟨by omega,by omega⟩,?_⟩;refine⟨(m+1,(ND.set i (G.length:Int),F5),ps++[(i:Int)],bs),_,au.Cx _ 111 90100 (by decide) (by decide),?_⟩;exact⟨⟨w1,by simp only[aaM];exact w2,w3,by simp only[acv,abS];omega,by simp only;omega,by simp only;omega⟩,by simp only;omega,⟨Z,Z,Z,Z,Z,Z,Z,Z,Z,Y⟩,⟨rfl,rfl,rfl,rfl,rfl,adV (AB.row _) ((fV ND i ((G.map wR).length:Int)).trans (by rw[lG])),rfl,rfl,rfl,rfl,adV (AB.row _) (gP ps i).symm,Z,Y⟩⟩
   rw[jF,aaa (by omega)]at w1;refine⟨⟨by omega,by omega⟩,?_⟩;obtain⟨b,Oz⟩:=ak (l:=a.bores) (i:=i-n) (by omega);have Ox:a.bores.getD (i-n) ⟨0,0,0,0,0,false⟩=b:=by rw[ad4,Oz];rfl
   rw[Ox]at w1;refine⟨(bc b),(idx (show (i:Int)-n=((i-n:Nat):Int) by omega) Oz),?_⟩;refine iW ?_ ?_<;>intro g5
   ·rw[aap g5]at w1;have e1:(i:Int)-n=((i-n:Nat):Int):=by omega
    obtain⟨v,hv⟩:=ak (l:=F5) (i:=i-n) (by omega);have lv:=bQ F5;have Wo:=bQ bs;refine⟨⟨by omega,by omega⟩,?_⟩;refine⟨⟨by omega,by (try dsimp only);omega⟩,?_⟩;refine⟨[i64 v],(by rw[e1];exact cM hv),?_⟩;refine⟨⟨by omega,by omega⟩,?_⟩;refine⟨⟨fun r hr=>by simp at hr;subst hr;rfl,by simp only[Wo,aaM,aan];omega,by simp only[Wo,aaM,aan];omega⟩,?_⟩;refine⟨⟨by omega,by omega⟩,?_⟩;refine⟨(m+1,(ND,F5.set (i-n) (G.length:Int)),ps,bs++[(i:Int)-n]),_,au.Cx _ 144 90101 (by decide) (by decide),?_⟩;exact⟨⟨w1,w2,by simp only[aaM];exact w3,by simp only;omega,by simp only[acv,abS];omega,by simp only;omega⟩,by simp only;omega,⟨Z,Z,Z,Z,Z,Z,Z,Z,Z,Y⟩,⟨rfl,rfl,rfl,rfl,rfl,rfl,adV (AB.row _) ((adV (fun z=>List.set (aA F5) z _) (show ((i:Int)-n).toNat=i-n by omega)).trans ((fV F5 (i-n) ((G.map wR).length:Int)).trans (by rw[lG]))),rfl,rfl,rfl,rfl,adV (AB.row _) (gP bs ((i:Int)-n)).symm,trivial⟩⟩
   rw[aaa (by rw[g5];decide)]at w1;have e1:(i:Int)-n=((i-n:Nat):Int):=by omega
   obtain⟨v,hv⟩:=ak (l:=F5) (i:=i-n) (by omega);have lv:=bQ F5;refine⟨⟨by omega,by omega⟩,?_⟩;refine⟨⟨by omega,by (try dsimp only);omega⟩,?_⟩;refine⟨[i64 v],(by rw[e1];exact cM hv),?_⟩;refine⟨⟨by omega,by omega⟩,?_⟩;exact⟨(m+1,(ND,F5.set (i-n) (-1)),ps,bs),_,au.refl _ _,⟨w1,w2,by simp only[aaM];exact w3,by simp only;omega,by simp only;omega,by simp only;omega⟩,by simp only;omega,⟨Z,Z,Z,Z,Z,Z,Z,Z,Z,Y⟩,⟨rfl,rfl,rfl,rfl,rfl,rfl,adV (AB.row _) ((adV (fun z=>List.set (aA F5) z _) (show ((i:Int)-n).toNat=i-n by omega)).trans (fV F5 (i-n) (-1))),Z,Z,Z,Z,Z,Y⟩⟩
  have e:l.length<=m:=by omega
  rw[ab1 e]at w1;have w1:((ND,F5),ps,bs)=r:=w1;rw[<-w1]at y1;simp only at y1;have Yf:=bQ ps;have Wo:=bQ bs;have lG:=ai G wR;refine qy ((au.fB (by exact hC) _ 10 0 90100 3 _ _ (by decide) (by exact rfl) (by exact rfl) (by exact rfl)).trans ((au.fB (by exact hC) _ 10 1 90101 3 _ _ (by decide) (by exact rfl) (by exact rfl) (by exact rfl)).trans (au.MJ (by exact hC) _ 10 2 _ (by exact rfl) (by exact rfl)))) ?_;refine⟨⟨by dsimp only;omega,by dsimp only;omega⟩,?_⟩;refine iW ?_ ?_<;>intro g4<;>try simp only[zB]at g4
  ·rw[aap (by omega)]at y1;refine⟨⟨fun r hr=>by simp at hr;subst hr;rfl,by simp only[lG,aaM,aan];omega,by simp only[lG,aaM,aan];omega⟩,?_⟩;refine⟨⟨by omega,by omega⟩,?_⟩;refine⟨(j+1,(ND,F5),G++[bh.mk ps bs []]),_,((au.pack (by exact hC) _ 100000 (cs:=[.p (.sl (a.coppers.map rr)),.p (aj a.outline),.p (.sl (a.bores.map bc)),.p (.sl (a.lands.map lc)),.row 59 dr,.row 76 (P.map jb),.row 71 (T.map fun l=>[ints l]),.row 142 ((G++[bh.mk ps bs []]).map wR),.row 3 (aA ND),.row 3 (aA F5),.row 3 [],.row 174 []]) (by exact rfl) (by exact rfl) (by exact⟨rfl,rfl,rfl,rfl,rfl,rfl,rfl,by rw[abE];rfl,Z,Z,Z,Z,Y⟩)).trans (au.open (by exact hC) _ 100000 [90000,90001,90002,90003,90004,90005,90006,90007] (cs:=[.p (.sl (a.coppers.map rr)),.p (aj a.outline),.p (.sl (a.bores.map bc)),.p (.sl (a.lands.map lc)),.row 59 dr,.row 76 (P.map jb),.row 71 (T.map fun l=>[ints l]),.row 142 ((G++[bh.mk ps bs []]).map wR),.row 3 (aA ND),.row 3 (aA F5),.row 3 [],.row 174 []]) (by exact rfl) rfl rfl rfl)),?_⟩;exact⟨⟨y1,w2,w3,by simp only[acv,abS];omega,by simp only;omega⟩,by simp only;omega,⟨Z,Z,Z,Z,Z,Y⟩,⟨Z,Z,Z,Z,Z,Z,Z,Z,Z,Y⟩⟩
  rw[aaa (by omega)]at y1;refine⟨⟨by omega,by omega⟩,?_⟩;exact⟨(j+1,(ND,F5),G),_,au.refl _ _,⟨y1,w2,w3,by simp only;omega,by simp only;omega⟩,by simp only;omega,⟨Z,Z,Z,Z,Z,Y⟩,⟨Z,Z,Z,Z,Z,Z,Z,Z,Z,Y⟩⟩
 rw[ab1 (by omega)]at y1;have y1:((op,ob),G)=F:=y1;have SS:mG a.bores n F:=by rw[Yc,PM];exact Reg.vL q2 q3
 rw[<-y1]at SS;have lG:=ai G wR;have ll:=ai a.lands lc;have SU:=ha.lan;have Ja:∀g∈G,g.pins=[]:=fun g hg=>by
  obtain⟨k,hk⟩:=ab8.1 hg;exact (SS.c k g hk).1
 have hoG:((op,ob),G)=(o,G0):=y1.trans hFo;injection hoG with ho Vu;subst ho;subst Vu;refine aJ (fun x:Nat×qN=>(a.lands.drop x.1).foldl (uA a.bores P (op,ob)) x.2=R/\x.2.groups.length=G.length/\x.2.ofLand.length=x.1/\x.2.atLand.length=x.1/\x.1<=a.lands.length/\∀g∈x.2.groups,g.pins.length<=x.1) (fun x=>[(0,.bx 100000 0),(170,.p (.sl (a.lands.map lc))),(171,.p (i64 a.lands.length)),(172,.p (i64 x.1))]) (fun x=>[(100000,.box [.p (.sl (a.coppers.map rr)),.p (aj a.outline),.p (.sl (a.bores.map bc)),.p (.sl (a.lands.map lc)),.ow 90000,.ow 90001,.ow 90002,.ow 90003,.ow 90004,.ow 90005,.ow 90006,.ow 90007]),(90000,.row 59 dr),(90001,.row 76 (P.map jb)),(90002,.row 71 (T.map fun l=>[ints l])),(90003,.az 142 (x.2.groups.map gh)),(90004,.row 3 (aA op)),(90005,.row 3 (aA ob)),(90006,.row 3 (aA x.2.ofLand)),(90007,.row 174 (x.2.atLand.map je))]) (fun x=>a.lands.length-x.1) (0,⟨G,[],[]⟩) _ (au.Wg (by exact hC) _ 90003 (e:=142) (es:=G.map wR) (by exact rfl)) ⟨hR.symm,rfl,rfl,rfl,aaj _,fun g hg=>by rw[Ja g hg];exact aam _⟩ ⟨rfl,rfl,adV (fun m:Nat=>AV.p (i64 m)) ll,Z,Y⟩ ⟨rfl,rfl,rfl,rfl,adV (AB.az _) (NB Ja),Z,Z,Z,Z,Y⟩ fun ⟨i,s⟩ hx t h=>?_;obtain⟨v1,v2,v3,v4,v5,v6⟩:=hx;simp only at v1 v2 v3 v4 v5 v6;refine iW ?_ ?_<;>intro g3<;>try simp only[zB]at g3
 ·obtain⟨l,ZH⟩:=ak (l:=a.lands) (i:=i) (by omega);rw[drop_at ZH,aaq]at v1;refine⟨(lc l),(idx rfl ZH),?_⟩;obtain⟨hp,Vv⟩:∃hp,hp=il a.bores P l:=⟨_,rfl⟩;have Gp:=Dl a ha l dr (T.map fun l=>[ints l]) (s.groups.map sT) (aA s.ofLand) (s.atLand.map je) op ob P (by omega) Q9;rw[<-Vv]at Gp;refine⟨[.ip ((dX a)++[.sl dr,.sl (P.map jb),.sl (T.map fun l=>[ints l]),.sl (s.groups.map sT),ints op,ints ob,.sl (aA s.ofLand),.sl (s.atLand.map je)]),.ag (lc l)],_,.cons (.box 100000 0 _ ((dX a)++[.sl dr,.sl (P.map jb),.sl (T.map fun l=>[ints l]),.sl (s.groups.map sT),ints op,ints ob,.sl (aA s.ofLand),.sl (s.atLand.map je)]) (by exact rfl) (.cons (.p _) (.cons (.p _) (.cons (.p _) (.cons (.p _) (.cons (.row 90000 _ _ (by exact rfl)) (.cons (.row 90001 _ _ (by exact rfl)) (.cons (.row 90002 _ _ (by exact rfl)) (.cons (.az 90003 142 (s.groups.map gh) (s.groups.map sT) (by exact adV (AB.az _) (by simp only[qO])) (vM _)) (.cons (.row 90004 _ _ (by exact rfl)) (.cons (.row 90005 _ _ (by exact rfl)) (.cons (.row 90006 _ _ (by exact rfl)) (.cons (.row 90007 _ _ (by exact rfl)) .nil))))))))))))) (.cons (.one (.p _)) .nil),Gp,rfl,?_⟩;refine iW ?_ ?_<;>intro g4
  ·have Vw:mG a.bores P.length ((op,ob),G):=hn▸SS;obtain⟨m,k,e1,e2,e3⟩:=Reg.KQ Vw l (by rw[<-Vv];exact g4);rw[<-Vv]at e1 e2;have e3:k<G.length:=e3;obtain⟨gg,PG⟩:=ak (l:=s.groups) (i:=k) (by omega);have qg:=v6 gg (aad PG);have IM:uA a.bores P (op,ob) s l=⟨s.groups.set k (iN (l.part,l.pin) gg),s.ofLand++[(k:Int)],s.atLand++[hp.1]⟩:=by
    rw[uA];simp only[<-Vv];have g4:hp.2=true:=g4;rw[g4,aap rfl,aap rfl,e1,ad2,ad4 (l:=if hp.1.bore=true then ob else op),e2];simp only[acy,ad2,ad4,PG]
   rw[IM]at v1;have hgh:=uB a hp.1 dr (T.map fun l=>[ints l]) (s.groups.map sT) (aA s.ofLand) (s.atLand.map je) op ob P m e1 k e2;refine⟨[.ip ((dX a)++[.sl dr,.sl (P.map jb),.sl (T.map fun l=>[ints l]),.sl (s.groups.map sT),ints op,ints ob,.sl (aA s.ofLand),.sl (s.atLand.map je)]),.ag (je hp.1)],_,.cons (.box 100000 0 _ ((dX a)++[.sl dr,.sl (P.map jb),.sl (T.map fun l=>[ints l]),.sl (s.groups.map sT),ints op,ints ob,.sl (aA s.ofLand),.sl (s.atLand.map je)]) (by exact rfl) (.cons (.p _) (.cons (.p _) (.cons (.p _) (.cons (.p _) (.cons (.row 90000 _ _ (by exact rfl)) (.cons (.row 90001 _ _ (by exact rfl)) (.cons (.row 90002 _ _ (by exact rfl)) (.cons (.az 90003 142 (s.groups.map gh) (s.groups.map sT) (by exact adV (AB.az _) (by simp only[qO])) (vM _)) (.cons (.row 90004 _ _ (by exact rfl)) (.cons (.row 90005 _ _ (by exact rfl)) (.cons (.row 90006 _ _ (by exact rfl)) (.cons (.row 90007 _ _ (by exact rfl)) .nil))))))))))))) (.cons (.one (.p _)) .nil),hgh,rfl,?_⟩;refine qy (au.I9 (by exact hC) _ 90003 k 90200 (e:=142) (by decide) (by decide) (by exact adV (AB.az _) (by simp only[qO])) PG (by exact rfl) (by decide)) ?_;have Vx:(s.groups.map gh).length=s.groups.length:=aej _;have Vy:=ai gg.pins pc;have Vz:=bQ s.ofLand;have VA:=ai s.atLand je;refine⟨⟨by omega,by simp only[aej,aaM];omega⟩,?_⟩;have NF:((s.groups.map gh).set k [.av (.p (ints gg.pieces)),.av (.p (ints gg.bores)),.av (.ow 90200)])[k]?=some [.av (.p (ints gg.pieces)),.av (.p (ints gg.bores)),.av (.ow 90200)]:=ab7 (by rw[Vx];omega);refine⟨[.av (.p (ints gg.pieces)),.av (.p (ints gg.bores)),.av (.ow 90200)],(by rw[dC,dC,dC];exact NF;rfl;rfl;rfl),?_⟩;refine⟨_,_,(pw l),?_⟩;refine⟨⟨fun r hr=>by simp at hr;subst hr;rfl,by simp only[Vy,aaM,aan];omega,by simp only[Vy,aaM,aan];omega⟩,?_⟩;refine⟨⟨by omega,by simp only[aej,aaM];omega⟩,?_⟩;refine⟨[.av (.p (ints gg.pieces)),.av (.p (ints gg.bores)),.av (.ow 90200)],(by rw[dC,dC,dC];exact NF;rfl;rfl;rfl),?_⟩;refine⟨⟨fun r hr=>by simp at hr;subst hr;rfl,by simp only[Vz,aaM,aan];omega,by simp only[Vz,aaM,aan];omega⟩,?_⟩;refine⟨⟨fun r hr=>by simp at hr;subst hr;rfl,by simp only[VA,aaM,aan];omega,by simp only[VA,aaM,aan];omega⟩,?_⟩;refine⟨⟨by omega,by omega⟩,?_⟩;have SV:((s.groups.map gh).set k [.av (.p (ints gg.pieces)),.av (.p (ints gg.bores)),.av (.ow 202)]).set k (([.av (.p (ints gg.pieces)),.av (.p (ints gg.bores)),.av (.ow 202)]:List HX).set 2 (.row 205 ((gg.pins++[(l.part,l.pin)]).map pc)))=(s.groups.set k (iN (l.part,l.pin) gg)).map gh:=by
    rw[abM,ad8];congr 1;show _=[.av (.p (ints gg.pieces)),.av (.p (ints gg.bores)),I8 (gg.pins++[(l.part,l.pin)])];rw[I_];rfl
   refine⟨(i+1,⟨s.groups.set k (iN (l.part,l.pin) gg),s.ofLand++[(k:Int)],s.atLand++[hp.1]⟩),_,(au.Bm (by exact hC) _ 90003 k 2 202 (e:=142) (es:=(s.groups.map gh).set k [.av (.p (ints gg.pieces)),.av (.p (ints gg.bores)),.av (.ow 202)]) (r:=[.av (.p (ints gg.pieces)),.av (.p (ints gg.bores)),.av (.ow 202)]) (e':=205) (xs:=(gg.pins++[(l.part,l.pin)]).map pc) (by decide) (by exact adV (AB.az _) (by rw[dC,dC,dC];simp only[ad2];rw[abM];show List.map (fun r=>List.map (HX.cS (sc 220)) r) (List.map (fun r=>List.map (HX.cS (sc 219)) r) (List.map (fun r=>List.map (HX.cS (sc 213)) r) (List.map (fun r=>List.map (HX.cS (sc 212)) r) ((List.map gh s.groups).set k [.av (.p (ints gg.pieces)),.av (.p (ints gg.bores)),.av (.ow 202)]))))=_;rw[dC,dC,dC,dC];all_goals rfl)) (by exact adV (AB.row _) (by rw[abE];rfl)) (ab7 (by rw[Vx];omega)) (by exact rfl)).trans ((au.Cx _ 213 90006 (by decide) (by decide)).trans (au.Cx _ 220 90007 (by decide) (by decide))),?_⟩;exact⟨⟨v1,by simp only[aaM];exact v2,by simp only[acv,abS];omega,by simp only[acv,abS];omega,by simp only;omega,fun g hg=>by
    rcases abg hg with hg | hg
    ·have:=v6 g hg;simp only;omega
    subst hg;simp only[iN,acv,abS];omega⟩,by simp only;omega,⟨Z,Z,Z,Z,Y⟩,⟨rfl,rfl,rfl,rfl,adV (AB.az _) (by refine (adV (List.map _) (adV (List.map _) SV)).trans ?_;simp only[Fo]),rfl,rfl,adV (AB.row _) (gP _ _).symm,adV (AB.row _) (by rw[abE (f:=je)];rfl),trivial⟩⟩
  have g4:hp.2=false:=g4;have IM:uA a.bores P (op,ob) s l=⟨s.groups,s.ofLand++[-1],s.atLand++[hp.1]⟩:=by
   rw[uA];simp only[<-Vv,g4];rfl
  rw[IM]at v1;have Vz:=bQ s.ofLand;have VA:=ai s.atLand je;refine⟨⟨fun r hr=>by simp at hr;subst hr;rfl,by simp only[Vz,aaM,aan];omega,by simp only[Vz,aaM,aan];omega⟩,?_⟩;refine⟨⟨fun r hr=>by simp at hr;subst hr;rfl,by simp only[VA,aaM,aan];omega,by simp only[VA,aaM,aan];omega⟩,?_⟩;refine⟨⟨by omega,by omega⟩,?_⟩;refine⟨(i+1,⟨s.groups,s.ofLand++[-1],s.atLand++[hp.1]⟩),_,(au.Cx _ 213 90006 (by decide) (by decide)).trans (au.Cx _ 220 90007 (by decide) (by decide)),?_⟩;exact⟨⟨v1,v2,by simp only[acv,abS];omega,by simp only[acv,abS];omega,by simp only;omega,fun g hg=>by have:=v6 g hg;simp only;omega⟩,by simp only;omega,⟨Z,Z,Z,Z,Y⟩,⟨rfl,rfl,rfl,rfl,adV (AB.az _) (by show _=List.map gh s.groups;simp only[qO,Fo]),rfl,rfl,adV (AB.row _) (gP _ _).symm,adV (AB.row _) (by rw[abE (f:=je)];rfl),trivial⟩⟩
 rw[ab1 (by omega)]at v1;have v1:s=R:=v1;rw[<-v1];refine⟨_,au.ID (by exact hC) _ 90003 (s.groups.map sT) (e:=142) (by exact adV (AB.az _) (by simp only[qO,Fo])) (vM _),?_⟩;exact And.intro rfl (And.intro ⟨Z,Z,Z,Z,Z,Z,Z,Z,Z,Z,Z,Z,Z,Y⟩ trivial)
end M
namespace Reg
def eO(x y:aS):Bool:=(decide (x.lo<=y.hi)&&decide (y.lo<=x.hi))&&decide (fT (aa x) (aa y)=0)
def aeH(bs:List aS)(i:Nat):Bool:=(bs.take i).any (eO (bs.getD i I7))
def da(bs:List aS)(i:Nat):Bool:=(List.range' i (bs.length-i)).any (aeH bs)
variable {bs:List aS}
theorem HB{i:Nat}(h:i<bs.length):da bs i=(aeH bs i||da bs (i+1)):=by
 rw[da,show bs.length-i=(bs.length-(i+1))+1 by omega,List.range'_succ,abd];rfl
theorem KR{i:Nat}(h:bs.length<=i):da bs i=false:=by
 rw[da,show bs.length-i=0 by omega];rfl
def db:List (List ae)->Int
 | []=>0
 | r::l=>if aF r≠0 then aF r else db l
def sa(n:Int)(l:List (List ae)):Int:=l.foldl (fun n r=>n+r.length) n
theorem jo:∀{l:List (List ae)},db l=0->∀r∈l,aF r=0
 | [],_,r,h=>by cases h
 | q::l,h,r,hr=>by
  rw[db]at h;by_cases e:aF q=0
  ·rw[aaa (by simpa using e)]at h;rcases adq.1 hr with rfl | hr
   ·exact e
   exact jo h r hr
  rw[aap e]at h;exact absurd h e
structure BR where
 drilled:List (List an)
 pieces:List Piece
 bB:List (List Int)
 ofPiece:List Int
 ofBore:List Int
 placed:qN
def aC(a:fS):BR:=
 let P:=bG a.bores 0 a.coppers;let T:=bB a.bores P;let U:=jm P.length a.bores.length T;let F:=jn a.bores P.length (aP (cQ U) (P.length+a.bores.length))
 ⟨gO a.bores 0 a.coppers,P,T,F.1.1,F.1.2,a.lands.foldl (uA a.bores P F.1) ⟨F.2,[],[]⟩⟩
theorem mH:∀{l:List (List ae)} {k:Int} {p:Piece},p∈bG bs k l->∃(i:Nat) (r:List ae),l[i]?=some r/\p.layer=k+i/\p.set∈cV (bU bs (k+i) r)
 | [],k,p,h=>by cases h
 | r::l,k,p,h=>by
  rw[bG]at h;rcases abi.1 h with h | h
  ·obtain⟨s,hs,rfl⟩:=adS.1 h;exact⟨0,r,rfl,by simp,by simpa using hs⟩
  obtain⟨i,r',h1,h2,h3⟩:=mH h;have e:k+((i+1:Nat):Int)=k+1+(i:Int):=by omega
  exact⟨i+1,r',by simpa using h1,by rw[h2,e],by rw[e];exact h3⟩
theorem sU(b:aS):∀(ps:List Piece) (k:Nat),(fu b k ps).length<=ps.length
 | [],k=>aam _
 | q::ps,k=>by
  have:=sU b ps (k+1);rw[fu];split<;>simp only[aaB]<;>omega
end Reg
end Go.Proofs.YtfloceomobknoaaGreatDoor
