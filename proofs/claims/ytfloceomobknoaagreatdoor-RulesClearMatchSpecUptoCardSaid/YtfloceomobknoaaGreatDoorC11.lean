/- Part 11 of the proof of RulesClearMatchSpec. -/
import Derived.Test.YtfloceomobknoaaGreatDoorC10
set_option linter.unusedVariables false
set_option linter.unusedSimpArgs false
set_option maxRecDepth 100000
set_option maxHeartbeats 8000000
namespace Go
abbrev aef:=@List.nodup_append
abbrev abV:=@List.length_range
abbrev adN:=@List.length_eq_zero_iff
end Go
namespace Go.Proofs.YtfloceomobknoaaGreatDoor
namespace M
open Go.AM Go.RowKit Go.Lib
open Reg (ae an aS fo fS Piece bh zx qN bE cv told aB bO aa fT eO aeH da db sa bT eG aC P4)
def kW(a:fS):List PV:=dX a++[.sl ((aC a).drilled.map fun s=>[aw s]),.sl ((aC a).pieces.map jb),.sl ((aC a).bB.map fun l=>[ints l]),.sl ((aC a).placed.groups.map sT),ints (aC a).ofPiece,ints (aC a).ofBore,ints (aC a).placed.ofLand,.sl ((aC a).placed.atLand.map je)]
def dc(a:fS):Int:=if a.coppers.length=0 then 9 else if 16<a.coppers.length then 2 else
 if db a.coppers≠0 then db a.coppers else
 if Reg.aF a.outline≠0 then Reg.aF a.outline else
 if 2000<sa a.outline.length a.coppers then 2 else
 if bT a≠0 then bT a else
 if c8 a≠0 then c8 a else
 if da a.bores 0=true then 12 else
 if eG a=true then 0 else 2
def Jb(a:fS):PV:=if dc a=0 then .ip (kW a) else .im (.pointer none)
theorem Fp(a:fS)(ho:ly a):af C 39 [.pv (.ag (dX a))] (.tu [Jb a,i64 (dc a)]) []:=by
 have lk:=ai a.coppers rr;have lk':(a.coppers.map fun r=>[aj r]).length=a.coppers.length:=lk;have lo:=ai a.outline rc;have lb:=ai a.bores bc;obtain⟨F,hF⟩:∃F,F=dc a:=⟨_,rfl⟩;have hV:Jb a=if F=0 then .ip (kW a) else .im (.pointer none):=by rw[hF];rfl
 rw[hV,<-hF];rw[dc]at hF;refine uX ⟨[36,40],[],[],[],[],[]⟩ hC Tryz.func39 rfl (by kernel_rfl) fun _=>?_;refine iW ?_ ?_<;>intro g1
 ·rw[aap (by omega)]at hF;refine⟨?_,trivial⟩;rw[hF];rfl
 rw[aaa (by omega)]at hF;refine iW ?_ ?_<;>intro g2
 ·rw[aap (by omega)]at hF;refine⟨?_,trivial⟩;rw[hF];rfl
 rw[aaa (by omega)]at hF;obtain⟨M,hM⟩:∃M,M=sa a.outline.length a.coppers:=⟨_,rfl⟩;rw[<-hM]at hF;have Yg:=ho.out;refine aJ (fun x:Nat×Int=>sa x.2 (a.coppers.drop x.1)=M/\db (a.coppers.drop x.1)=db a.coppers/\0<=x.2/\x.2<=1048576+1048576*x.1) (fun x=>[(1,.bx 1 0),(4,.p (i64 x.2)),(28,.p (.sl (a.coppers.map rr))),(29,.p (i64 a.coppers.length)),(30,.p (i64 x.1))]) (fun _=>[(1,.box [.p (.sl (a.coppers.map rr)),.p (aj a.outline),.p (.sl (a.bores.map bc)),.p (.sl (a.lands.map lc))])]) (fun x=>a.coppers.length-x.1) (0,a.outline.length) _ (au.refl _ _) ⟨hM.symm,rfl,by simp only;omega,by simp only;omega⟩ ⟨rfl,adV (fun m:Nat=>AV.p (i64 m)) lo,rfl,adV (fun m:Nat=>AV.p (i64 m)) lk,Z,Y⟩ ⟨Z,Y⟩ fun ⟨i,n⟩ hx t h=>?_;obtain⟨q1,q2,q3,q4⟩:=hx;simp only at q1 q2 q3 q4;refine iW ?_ ?_<;>intro g3<;>try simp only[zB]at g3
 ·obtain⟨r,hr⟩:=ak (l:=a.coppers) (i:=i) (by omega);have xj:=ho.rcs r (aad hr);have lr:=ai r rc;rw[drop_at hr]at q1 q2;rw[db]at q2;refine⟨(rr r),(idx rfl hr),?_⟩;refine⟨_,_,(jj r),?_⟩;refine iW ?_ ?_<;>intro g4
  ·have g4:Reg.aF r≠0:=by simpa using g4
   rw[aap g4]at q2;rw[<-q2,aap g4]at hF;refine⟨?_,trivial⟩;rw[hF,aaa g4]
  have g4:Reg.aF r=0:=by simpa using g4
  rw[aaa (by simpa using g4)]at q2;refine⟨⟨by omega,by omega⟩,?_⟩;refine⟨⟨by omega,by omega⟩,?_⟩;exact⟨(i+1,n+r.length),_,au.refl _ _,⟨q1,q2,by simp only;omega,by simp only;omega⟩,by simp only;omega,⟨rfl,adV (fun m:Nat=>AV.p (i64 (n+m))) lr,Z,Z,Z,Y⟩,⟨Z,Y⟩⟩
 rw[ab1 (by omega)]at q1 q2;have q1:n=M:=q1;have q2:db a.coppers=0:=q2.symm;rw[aaa (by simpa using q2)]at hF;refine⟨_,_,(jj a.outline),?_⟩;refine iW ?_ ?_<;>intro g4
 ·have g4:Reg.aF a.outline≠0:=by simpa using g4
  rw[aap g4]at hF;refine⟨?_,trivial⟩;rw[hF,aaa g4]
 have g4:Reg.aF a.outline=0:=by simpa using g4
 rw[aaa (by simpa using g4)]at hF;refine iW ?_ ?_<;>intro g5<;>try simp only[zB]at g5
 ·rw[aap (by omega)]at hF;refine⟨?_,trivial⟩;rw[hF];rfl
 rw[aaa (by omega)]at hF;refine⟨_,_,(uu a (by omega)),?_⟩;refine iW ?_ ?_<;>intro g6
 ·have g6:bT a≠0:=by simpa using g6
  rw[aap g6]at hF;refine⟨?_,trivial⟩;rw[hF,aaa g6]
 have g6:bT a=0:=by simpa using g6
 rw[aaa (by simpa using g6)]at hF;refine⟨_,_,(uv a ho),?_⟩;refine iW ?_ ?_<;>intro g7
 ·have g7:c8 a≠0:=by simpa using g7
  rw[aap g7]at hF;refine⟨?_,trivial⟩;rw[hF,aaa g7]
 have g7:c8 a=0:=by simpa using g7
 rw[aaa (by simpa using g7)]at hF;have zA:a.bores.length<=500:=by
  unfold Reg.bT at g6;split at g6
  ·cases g6
  omega
 have T4:Reg.c_ a.coppers.length a.bores=0:=by rwa [Reg.bT,aaa (by omega)]at g6
 have Sq:=Reg.sM T4;have VB:∀b∈a.bores,bO b=true/\P4 1000000000 (aa b):=fun b hb=>by
  have h1:=ky (Sq b hb);obtain⟨a1,a2,a3,a4⟩:=Reg.Q8 (Reg.bX h1) (Reg.er h1);exact⟨h1,⟨by omega,by omega⟩,⟨by omega,by omega⟩,⟨by omega,by omega⟩,⟨by omega,by omega⟩⟩
 refine aJ (fun i:Nat=>da a.bores i=da a.bores 0) (fun i=>[(1,.bx 1 0),(63,.p (.sl (a.bores.map bc))),(64,.p (i64 a.bores.length)),(65,.p (i64 i))]) (fun _=>[(1,.box [.p (.sl (a.coppers.map rr)),.p (aj a.outline),.p (.sl (a.bores.map bc)),.p (.sl (a.lands.map lc))])]) (fun i=>a.bores.length-i) 0 _ (au.refl _ _) rfl ⟨rfl,rfl,adV (fun m:Nat=>AV.p (i64 m)) lb,Z,Y⟩ ⟨Z,Y⟩ fun i hi t h=>?_;refine iW ?_ ?_<;>intro g8
 ·obtain⟨x,hx⟩:=ak (l:=a.bores) (i:=i) (by omega);obtain⟨x1,x2⟩:=VB x (aad hx);rw[Reg.HB (by omega)]at hi;have az:aeH a.bores i=(a.bores.take i).any (eO x):=by rw[aeH,ad4,hx];rfl
  rw[az]at hi;refine⟨(bc x),(idx rfl hx),?_⟩;refine⟨⟨by decide,by omega,by omega,fun r hr=>by obtain⟨b,_,rfl⟩:=adS.1 hr;rfl⟩,?_⟩;have VC:((a.bores.take i).map bc).length=i:=by rw[aej,aat];omega
  have abu:(a.bores.take i).length=i:=by rw[aat];omega
  refine aJ (fun j:Nat=>((a.bores.take i).drop j).any (eO x)=(a.bores.take i).any (eO x)) (fun j=>[(1,.bx 1 0),(63,.p (.sl (a.bores.map bc))),(64,.p (i64 a.bores.length)),(65,.p (i64 i)),(12,.bx 12 0),(73,.p (.sl ((a.bores.take i).map bc))),(74,.p (i64 i)),(75,.p (i64 j))]) (fun _=>[(1,.box [.p (.sl (a.coppers.map rr)),.p (aj a.outline),.p (.sl (a.bores.map bc)),.p (.sl (a.lands.map lc))]),(12,.box [.p (i64 x.x),.p (i64 x.y),.p (i64 x.size),.p (i64 x.lo),.p (i64 x.hi),.p (bool x.plated)])]) (fun j=>i-j) 0 _ (au.refl _ _) rfl ⟨rfl,rfl,rfl,rfl,rfl,adV (fun l=>AV.p (PV.sl l)) (by simp[aco]),adV (fun m:Nat=>AV.p (i64 m)) (by simp;omega),Z,Y⟩ ⟨Z,Z,Y⟩ fun j hj t h=>?_;refine iW ?_ ?_<;>intro g9
  ·obtain⟨y,hy⟩:=ak (l:=a.bores.take i) (i:=j) (by omega);obtain⟨y1,y2⟩:=VB y (acM (aad hy));rw[drop_at hy,abd]at hj;have yes:eO x y=true->F=12:=fun hc=>by
    rw[hc,abn]at hj;rw[<-hj,abn]at hi;rw[<-hi,aap rfl]at hF;exact hF
   have no:eO x y=false->((a.bores.take i).drop (j+1)).any (eO x)=(a.bores.take i).any (eO x):=fun hc=>by
    rw[hc,abv]at hj;exact hj
   refine⟨(bc y),(idx rfl hy),?_⟩;refine iW ?_ ?_<;>intro h1
   ·refine iW ?_ ?_<;>intro h2
    ·refine⟨_,_,(cF x x1),?_⟩;refine⟨_,_,(cF y y1),?_⟩;refine⟨_,_,(BM (aa x) (aa y) x2 y2),?_⟩;refine iW ?_ ?_<;>intro h3
     ·have hy:=yes (by simp only[eO,aaZ,aaH];exact⟨⟨h1,h2⟩,h3⟩);refine⟨?_,trivial⟩;rw[hy];rfl
     have hn:=no (by simp only[eO];rw[aaz h3,aav]);refine⟨⟨by omega,by omega⟩,?_⟩;exact⟨(j+1),_,au.refl _ _,hn,by omega,⟨Z,Z,Z,Z,Z,Z,Z,Z,Y⟩,⟨Z,Z,Y⟩⟩
    have hn:=no (by simp only[eO];rw[aaz h2,aav,abp]);refine⟨⟨by omega,by omega⟩,?_⟩;exact⟨(j+1),_,au.refl _ _,hn,by omega,⟨Z,Z,Z,Z,Z,Z,Z,Z,Y⟩,⟨Z,Z,Y⟩⟩
   have hn:=no (by simp only[eO];rw[aaz h1,abp,abp]);refine⟨⟨by omega,by omega⟩,?_⟩;exact⟨(j+1),_,au.refl _ _,hn,by omega,⟨Z,Z,Z,Z,Z,Z,Z,Z,Y⟩,⟨Z,Z,Y⟩⟩
  rw[ab1 (by omega)]at hj;have hj:false=(a.bores.take i).any (eO x):=hj;rw[<-hj,abv]at hi;refine⟨⟨by omega,by omega⟩,?_⟩;exact⟨(i+1),_,au.refl _ _,hi,by omega,⟨Z,Z,Z,Z,Y⟩,⟨Z,Y⟩⟩
 rw[Reg.KR (by omega)]at hi;rw[<-hi,aaa (by decide)]at hF;refine qy ((au.pX (by exact hC) _ 103 4 [.p (.sl (a.coppers.map rr)),.p (aj a.outline),.p (.sl (a.bores.map bc)),.p (.sl (a.lands.map lc)),.p (.im (.slice none 0 0)),.p (.im (.slice none 0 0)),.p (.im (.slice none 0 0)),.p (.im (.slice none 0 0)),.p (.im (.slice none 0 0)),.p (.im (.slice none 0 0)),.p (.im (.slice none 0 0)),.p (.im (.slice none 0 0))] (by exact rfl) (by exact rfl)).trans ((au.aeK (by exact hC) _ 103 4 90000 59 _ [.p (.sl (a.coppers.map rr)),.p (aj a.outline),.p (.sl (a.bores.map bc)),.p (.sl (a.lands.map lc)),.nl,.p (.im (.slice none 0 0)),.p (.im (.slice none 0 0)),.p (.im (.slice none 0 0)),.p (.im (.slice none 0 0)),.p (.im (.slice none 0 0)),.p (.im (.slice none 0 0)),.p (.im (.slice none 0 0))] (by decide) (by decide) (by exact rfl) (by exact rfl) (by exact rfl) (by decide)).trans ((au.pX (by exact hC) _ 103 5 [.p (.sl (a.coppers.map rr)),.p (aj a.outline),.p (.sl (a.bores.map bc)),.p (.sl (a.lands.map lc)),.ow 90000,.p (.im (.slice none 0 0)),.p (.im (.slice none 0 0)),.p (.im (.slice none 0 0)),.p (.im (.slice none 0 0)),.p (.im (.slice none 0 0)),.p (.im (.slice none 0 0)),.p (.im (.slice none 0 0))] (by exact rfl) (by exact rfl)).trans ((au.aeK (by exact hC) _ 103 5 90001 76 _ [.p (.sl (a.coppers.map rr)),.p (aj a.outline),.p (.sl (a.bores.map bc)),.p (.sl (a.lands.map lc)),.ow 90000,.nl,.p (.im (.slice none 0 0)),.p (.im (.slice none 0 0)),.p (.im (.slice none 0 0)),.p (.im (.slice none 0 0)),.p (.im (.slice none 0 0)),.p (.im (.slice none 0 0))] (by decide) (by decide) (by exact rfl) (by exact rfl) (by exact rfl) (by decide)).trans ((au.pX (by exact hC) _ 103 6 [.p (.sl (a.coppers.map rr)),.p (aj a.outline),.p (.sl (a.bores.map bc)),.p (.sl (a.lands.map lc)),.ow 90000,.ow 90001,.p (.im (.slice none 0 0)),.p (.im (.slice none 0 0)),.p (.im (.slice none 0 0)),.p (.im (.slice none 0 0)),.p (.im (.slice none 0 0)),.p (.im (.slice none 0 0))] (by exact rfl) (by exact rfl)).trans ((au.aeK (by exact hC) _ 103 6 90002 71 _ [.p (.sl (a.coppers.map rr)),.p (aj a.outline),.p (.sl (a.bores.map bc)),.p (.sl (a.lands.map lc)),.ow 90000,.ow 90001,.nl,.p (.im (.slice none 0 0)),.p (.im (.slice none 0 0)),.p (.im (.slice none 0 0)),.p (.im (.slice none 0 0)),.p (.im (.slice none 0 0))] (by decide) (by decide) (by exact rfl) (by exact rfl) (by exact rfl) (by decide)).trans ((au.pX (by exact hC) _ 103 7 [.p (.sl (a.coppers.map rr)),.p (aj a.outline),.p (.sl (a.bores.map bc)),.p (.sl (a.lands.map lc)),.ow 90000,.ow 90001,.ow 90002,.p (.im (.slice none 0 0)),.p (.im (.slice none 0 0)),.p (.im (.slice none 0 0)),.p (.im (.slice none 0 0)),.p (.im (.slice none 0 0))] (by exact rfl) (by exact rfl)).trans ((au.aeK (by exact hC) _ 103 7 90003 142 _ [.p (.sl (a.coppers.map rr)),.p (aj a.outline),.p (.sl (a.bores.map bc)),.p (.sl (a.lands.map lc)),.ow 90000,.ow 90001,.ow 90002,.nl,.p (.im (.slice none 0 0)),.p (.im (.slice none 0 0)),.p (.im (.slice none 0 0)),.p (.im (.slice none 0 0))] (by decide) (by decide) (by exact rfl) (by exact rfl) (by exact rfl) (by decide)).trans ((au.pX (by exact hC) _ 103 8 [.p (.sl (a.coppers.map rr)),.p (aj a.outline),.p (.sl (a.bores.map bc)),.p (.sl (a.lands.map lc)),.ow 90000,.ow 90001,.ow 90002,.ow 90003,.p (.im (.slice none 0 0)),.p (.im (.slice none 0 0)),.p (.im (.slice none 0 0)),.p (.im (.slice none 0 0))] (by exact rfl) (by exact rfl)).trans ((au.aeK (by exact hC) _ 103 8 90004 3 _ [.p (.sl (a.coppers.map rr)),.p (aj a.outline),.p (.sl (a.bores.map bc)),.p (.sl (a.lands.map lc)),.ow 90000,.ow 90001,.ow 90002,.ow 90003,.nl,.p (.im (.slice none 0 0)),.p (.im (.slice none 0 0)),.p (.im (.slice none 0 0))] (by decide) (by decide) (by exact rfl) (by exact rfl) (by exact rfl) (by decide)).trans ((au.pX (by exact hC) _ 103 9 [.p (.sl (a.coppers.map rr)),.p (aj a.outline),.p (.sl (a.bores.map bc)),.p (.sl (a.lands.map lc)),.ow 90000,.ow 90001,.ow 90002,.ow 90003,.ow 90004,.p (.im (.slice none 0 0)),.p (.im (.slice none 0 0)),.p (.im (.slice none 0 0))] (by exact rfl) (by exact rfl)).trans ((au.aeK (by exact hC) _ 103 9 90005 3 _ [.p (.sl (a.coppers.map rr)),.p (aj a.outline),.p (.sl (a.bores.map bc)),.p (.sl (a.lands.map lc)),.ow 90000,.ow 90001,.ow 90002,.ow 90003,.ow 90004,.nl,.p (.im (.slice none 0 0)),.p (.im (.slice none 0 0))] (by decide) (by decide) (by exact rfl) (by exact rfl) (by exact rfl) (by decide)).trans ((au.pX (by exact hC) _ 103 10 [.p (.sl (a.coppers.map rr)),.p (aj a.outline),.p (.sl (a.bores.map bc)),.p (.sl (a.lands.map lc)),.ow 90000,.ow 90001,.ow 90002,.ow 90003,.ow 90004,.ow 90005,.p (.im (.slice none 0 0)),.p (.im (.slice none 0 0))] (by exact rfl) (by exact rfl)).trans ((au.aeK (by exact hC) _ 103 10 90006 3 _ [.p (.sl (a.coppers.map rr)),.p (aj a.outline),.p (.sl (a.bores.map bc)),.p (.sl (a.lands.map lc)),.ow 90000,.ow 90001,.ow 90002,.ow 90003,.ow 90004,.ow 90005,.nl,.p (.im (.slice none 0 0))] (by decide) (by decide) (by exact rfl) (by exact rfl) (by exact rfl) (by decide)).trans ((au.pX (by exact hC) _ 103 11 [.p (.sl (a.coppers.map rr)),.p (aj a.outline),.p (.sl (a.bores.map bc)),.p (.sl (a.lands.map lc)),.ow 90000,.ow 90001,.ow 90002,.ow 90003,.ow 90004,.ow 90005,.ow 90006,.p (.im (.slice none 0 0))] (by exact rfl) (by exact rfl)).trans ((au.aeK (by exact hC) _ 103 11 90007 174 _ [.p (.sl (a.coppers.map rr)),.p (aj a.outline),.p (.sl (a.bores.map bc)),.p (.sl (a.lands.map lc)),.ow 90000,.ow 90001,.ow 90002,.ow 90003,.ow 90004,.ow 90005,.ow 90006,.nl] (by decide) (by decide) (by exact rfl) (by exact rfl) (by exact rfl) (by decide)).trans (au.pack (by exact hC) _ 103 (bs:=[.p (.sl (a.coppers.map rr)),.p (aj a.outline),.p (.sl (a.bores.map bc)),.p (.sl (a.lands.map lc)),.ow 90000,.ow 90001,.ow 90002,.ow 90003,.ow 90004,.ow 90005,.ow 90006,.ow 90007]) (cs:=[.p (.sl (a.coppers.map rr)),.p (aj a.outline),.p (.sl (a.bores.map bc)),.p (.sl (a.lands.map lc)),.row 59 [],.row 76 [],.row 71 [],.row 142 [],.row 3 [],.row 3 [],.row 3 [],.row 174 []]) (by exact rfl) (by exact rfl) (by exact⟨Z,Z,Z,Z,Z,Z,Z,Z,Z,Z,Z,Z,Y⟩)))))))))))))))))) ?_;have ha:iD a:=by
  refine⟨⟨by omega,by omega⟩,Reg.jo q2,g4,zA,Sq,?_⟩;unfold c8 at g7;split at g7
  ·cases g7
  omega
 refine⟨_,_,(Dj a ha),?_⟩;refine iW ?_ ?_<;>intro g9
 ·rw[aaa (by simpa using g9)]at hF;refine⟨?_,trivial⟩;rw[hF];rfl
 rw[aap (by simpa using g9)]at hF;have g9:eG a=true:=by simpa using g9
 simp only[eG,aaZ,aaH]at g9;have Q9:∀p∈Reg.bG a.bores 0 a.coppers,(told p.set).length<=4398046511104:=fun p hp=>by
  obtain⟨i,r,h1,h2,h3⟩:=Reg.mH hp;have dr:=jV (fun b hb=>ky (Sq b hb)) zA (0+(i:Int)) (Reg.jo q2 r (aad h1));obtain⟨p1,_,_,p3⟩:=Reg.rD dr.sok h3;exact Reg.fj p1 ((p3 _ dr.ink).up (by omega))
 have Yh:=zE a ha ((Reg.gO a.bores 0 a.coppers).map fun s=>[aw s]) (Reg.bG a.bores 0 a.coppers) (Reg.bB a.bores (Reg.bG a.bores 0 a.coppers)) (by omega) Q9 (aej _) _ rfl _ _ rfl _ rfl (fun x hx p hp=>by
  obtain⟨b,_,rfl⟩:=adS.1 hx;have:=Reg.rE b _ 0 p hp;omega) (fun x hx=>by
  obtain⟨b,_,rfl⟩:=adS.1 hx;have:=Reg.sU b (Reg.bG a.bores 0 a.coppers) 0;omega)
 refine⟨_,_,(Dk a ha _ _ (by omega) Q9),?_⟩;refine⟨_,_,Yh,?_⟩;refine qy ((au.open (by exact hC) _ 103 [90000,90001,90002,90003,90004,90005,90006,90007] (cs:=[.p (.sl (a.coppers.map rr)),.p (aj a.outline),.p (.sl (a.bores.map bc)),.p (.sl (a.lands.map lc)),.row 59 ((aC a).drilled.map fun s=>[aw s]),.row 76 ((aC a).pieces.map jb),.row 71 ((aC a).bB.map fun l=>[ints l]),.row 142 ((aC a).placed.groups.map sT),.row 3 (aA (aC a).ofPiece),.row 3 (aA (aC a).ofBore),.row 3 (aA (aC a).placed.ofLand),.row 174 ((aC a).placed.atLand.map je)]) (by exact rfl) rfl rfl rfl).trans ((au.fB (by exact hC) _ 103 4 90000 59 ((aC a).drilled.map fun s=>[aw s]) [.p (.sl (a.coppers.map rr)),.p (aj a.outline),.p (.sl (a.bores.map bc)),.p (.sl (a.lands.map lc)),.ow 90000,.ow 90001,.ow 90002,.ow 90003,.ow 90004,.ow 90005,.ow 90006,.ow 90007] (by decide) (by exact rfl) (by exact rfl) (by exact rfl)).trans ((au.fB (by exact hC) _ 103 5 90001 76 ((aC a).pieces.map jb) [.p (.sl (a.coppers.map rr)),.p (aj a.outline),.p (.sl (a.bores.map bc)),.p (.sl (a.lands.map lc)),.p (.sl ((aC a).drilled.map fun s=>[aw s])),.ow 90001,.ow 90002,.ow 90003,.ow 90004,.ow 90005,.ow 90006,.ow 90007] (by decide) (by exact rfl) (by exact rfl) (by exact rfl)).trans ((au.fB (by exact hC) _ 103 6 90002 71 ((aC a).bB.map fun l=>[ints l]) [.p (.sl (a.coppers.map rr)),.p (aj a.outline),.p (.sl (a.bores.map bc)),.p (.sl (a.lands.map lc)),.p (.sl ((aC a).drilled.map fun s=>[aw s])),.p (.sl ((aC a).pieces.map jb)),.ow 90002,.ow 90003,.ow 90004,.ow 90005,.ow 90006,.ow 90007] (by decide) (by exact rfl) (by exact rfl) (by exact rfl)).trans ((au.fB (by exact hC) _ 103 7 90003 142 ((aC a).placed.groups.map sT) [.p (.sl (a.coppers.map rr)),.p (aj a.outline),.p (.sl (a.bores.map bc)),.p (.sl (a.lands.map lc)),.p (.sl ((aC a).drilled.map fun s=>[aw s])),.p (.sl ((aC a).pieces.map jb)),.p (.sl ((aC a).bB.map fun l=>[ints l])),.ow 90003,.ow 90004,.ow 90005,.ow 90006,.ow 90007] (by decide) (by exact rfl) (by exact rfl) (by exact rfl)).trans ((au.fB (by exact hC) _ 103 8 90004 3 (aA (aC a).ofPiece) [.p (.sl (a.coppers.map rr)),.p (aj a.outline),.p (.sl (a.bores.map bc)),.p (.sl (a.lands.map lc)),.p (.sl ((aC a).drilled.map fun s=>[aw s])),.p (.sl ((aC a).pieces.map jb)),.p (.sl ((aC a).bB.map fun l=>[ints l])),.p (.sl ((aC a).placed.groups.map sT)),.ow 90004,.ow 90005,.ow 90006,.ow 90007] (by decide) (by exact rfl) (by exact rfl) (by exact rfl)).trans ((au.fB (by exact hC) _ 103 9 90005 3 (aA (aC a).ofBore) [.p (.sl (a.coppers.map rr)),.p (aj a.outline),.p (.sl (a.bores.map bc)),.p (.sl (a.lands.map lc)),.p (.sl ((aC a).drilled.map fun s=>[aw s])),.p (.sl ((aC a).pieces.map jb)),.p (.sl ((aC a).bB.map fun l=>[ints l])),.p (.sl ((aC a).placed.groups.map sT)),.p (.sl (aA (aC a).ofPiece)),.ow 90005,.ow 90006,.ow 90007] (by decide) (by exact rfl) (by exact rfl) (by exact rfl)).trans ((au.fB (by exact hC) _ 103 10 90006 3 (aA (aC a).placed.ofLand) [.p (.sl (a.coppers.map rr)),.p (aj a.outline),.p (.sl (a.bores.map bc)),.p (.sl (a.lands.map lc)),.p (.sl ((aC a).drilled.map fun s=>[aw s])),.p (.sl ((aC a).pieces.map jb)),.p (.sl ((aC a).bB.map fun l=>[ints l])),.p (.sl ((aC a).placed.groups.map sT)),.p (.sl (aA (aC a).ofPiece)),.p (.sl (aA (aC a).ofBore)),.ow 90006,.ow 90007] (by decide) (by exact rfl) (by exact rfl) (by exact rfl)).trans (au.fB (by exact hC) _ 103 11 90007 174 ((aC a).placed.atLand.map je) [.p (.sl (a.coppers.map rr)),.p (aj a.outline),.p (.sl (a.bores.map bc)),.p (.sl (a.lands.map lc)),.p (.sl ((aC a).drilled.map fun s=>[aw s])),.p (.sl ((aC a).pieces.map jb)),.p (.sl ((aC a).bB.map fun l=>[ints l])),.p (.sl ((aC a).placed.groups.map sT)),.p (.sl (aA (aC a).ofPiece)),.p (.sl (aA (aC a).ofBore)),.p (.sl (aA (aC a).placed.ofLand)),.ow 90007] (by decide) (by exact rfl) (by exact rfl) (by exact rfl)))))))))) ?_;exact And.intro (by rw[hF,aap rfl];rfl) trivial
def jq:List an->Int×Int
 | []=>(0,0)
 | b::_=>((b.xs.headD (0,0)).1,b.y0)
def gn(h:Int->Bool):Nat->Int->Int->Int
 | 0,low,_=>low
 | n+1,low,high=>if low<high then (if h (low+(high-low+1).tdiv 2)=true then gn h n (low+(high-low+1).tdiv 2) high else gn h n low (low+(high-low+1).tdiv 2-1)) else low
def dL(h:Int->Bool)(cx:Int):Int:=gn h (cx+1).toNat (-1) cx
theorem pA{d:Int}(h:0<d):0<(d+1).tdiv 2/\(d+1).tdiv 2<=d:=by
 rw[abk (by omega)];omega
theorem nB(h:Int->Bool){n:Nat}{low high:Int}(hl:low<high)(hn:(high-low).toNat<=n):
  gn h n low high=if h (low+(high-low+1).tdiv 2)=true then gn h (n-1) (low+(high-low+1).tdiv 2) high else gn h (n-1) low (low+(high-low+1).tdiv 2-1):=by
 obtain⟨m,rfl⟩:∃m,n=m+1:=⟨n-1,by omega⟩;rw[gn,aap hl];rfl
theorem pB(h:Int->Bool){n:Nat}{low high:Int}(hl:¬low<high):gn h n low high=low:=by
 cases n with
 | zero=>rfl
 | succ n=>rw[gn,aaa hl]
theorem pC(h:Int->Bool):∀(n:Nat) (low high:Int),(high-low).toNat<=n->low<=high ->
  low<=gn h n low high/\gn h n low high<=high/\(gn h n low high=low\/h (gn h n low high)=true)/\(gn h n low high=high\/h (gn h n low high+1)=false)
 | 0,low,high,hn,hl=>by
  have:low=high:=by omega
  subst this;exact⟨acP _,acP _,.inl rfl,.inl rfl⟩
 | n+1,low,high,hn,hl=>by
  by_cases g:low<high
  ·obtain⟨m,hm⟩:∃m,m=low+(high-low+1).tdiv 2:=⟨_,rfl⟩;have hf:=pA (d:=high-low) (by omega);rw[nB h g hn,<-hm,Nat.add_sub_cancel];by_cases k:h m=true
   ·rw[aap k];obtain⟨a1,a2,a3,a4⟩:=pC h n m high (by omega) (by omega);refine⟨by omega,a2,?_,a4⟩;rcases a3 with e | e
    ·exact .inr (by rw[e];exact k)
    exact .inr e
   rw[aaa k];obtain⟨a1,a2,a3,a4⟩:=pC h n low (m-1) (by omega) (by omega);refine⟨a1,by omega,a3,?_⟩;rcases a4 with e | e
   ·refine .inr ?_;rw[e,Int.sub_add_cancel];simpa using k
   exact .inr e
  rw[pB h g];have:low=high:=by omega
  exact⟨acP _,hl,.inl rfl,.inl this⟩
theorem HD{h:Int->Bool}{cx:Int}(h0:0<=cx)(hn:h cx=false):-1<=dL h cx/\dL h cx<cx/\(dL h cx=-1\/h (dL h cx)=true)/\h (dL h cx+1)=false:=by
 obtain⟨a1,a2,a3,a4⟩:=pC h (cx+1).toNat (-1) cx (by omega) (by omega);have a1:-1<=dL h cx:=a1;have a2:dL h cx<=cx:=a2;have a3:dL h cx=-1\/h (dL h cx)=true:=a3;have a4:dL h cx=cx\/h (dL h cx+1)=false:=a4;have ne:dL h cx≠cx:=fun e=>by
  rcases a3 with e' | e'
  ·omega
  rw[e,hn]at e';cases e'
 refine⟨a1,by omega,a3,?_⟩;rcases a4 with e | e
 ·exact absurd e ne
 exact e
open Reg (BR through afd ax bN a_ coreS at')
structure Break where
 kind:Int
 a:Int
 b:Int
 is:Int
 need:Int
 spot:Int×Int
def aft(nets:List ByteArray)(g:Int):ByteArray:=nets.getD g.toNat M4
def aff(r:cP)(B:BR)(nets:List ByteArray)(i k:Nat)(p q:Piece):List Break:=
 if B.ofPiece.getD i 0=B.ofPiece.getD k 0 then [] else
 if (afd (told p.set) (told q.set)).dist<aeZ r (aft nets (B.ofPiece.getD i 0)) (aft nets (B.ofPiece.getD k 0)) p.layer (afd (told p.set) (told q.set)).src.1 (afd (told p.set) (told q.set)).src.2 then
  [⟨1,i,k,(afd (told p.set) (told q.set)).dist,aeZ r (aft nets (B.ofPiece.getD i 0)) (aft nets (B.ofPiece.getD k 0)) p.layer (afd (told p.set) (told q.set)).src.1 (afd (told p.set) (told q.set)).src.2,(afd (told p.set) (told q.set)).src⟩]
 else []
def aeX(r:cP)(B:BR)(nets:List ByteArray)(i:Nat)(p:Piece):Nat->List Piece->List Break
 | _,[]=>[]
 | k,q::t=>if q.layer=p.layer then aff r B nets i k p q++aeX r B nets i p (k+1) t else []
def aeE(r:cP)(B:BR)(nets:List ByteArray):Nat->List Piece->List Break
 | _,[]=>[]
 | i,p::t=>aeX r B nets i p (i+1) t++aeE r B nets (i+1) t
def afq(r:cP)(B:BR)(nets:List ByteArray)(i:Nat)(p:Piece):List Break:=
 if ax p.set (E3 r (aft nets (B.ofPiece.getD i 0)))=[] then [] else
  [⟨2,i,0,dL (fun n=>decide (ax p.set n=[])) (E3 r (aft nets (B.ofPiece.getD i 0))),E3 r (aft nets (B.ofPiece.getD i 0)),jq (ax p.set (E3 r (aft nets (B.ofPiece.getD i 0))))⟩]
def aew(r:cP)(B:BR)(nets:List ByteArray):Nat->List Piece->List Break
 | _,[]=>[]
 | i,p::t=>afq r B nets i p++aew r B nets (i+1) t
def mI(l:List Break):List Break×Int:=if 5000<l.length then ([],2) else (l,0)
def aeJ(r:cP)(a:fS)(nets:List ByteArray):Int:=
 if bC r≠0 then bC r else
 if dc a≠0 then dc a else
 if nets.length≠(aC a).placed.groups.length then 3 else
 if (nets.any fun s=>!afe s)=true then 5 else 0
end M
namespace Reg
theorem nD{y:Int}:∀{s:List an},bE s->∀{b c:an},b∈s->c∈s->b.y0<=y->y<b.y1->c.y0<=y->y<c.y1->b=c
 | [],_,b,c,hb,_,_,_,_,_=>by cases hb
 | d::s,h,b,c,hb,hc,b1,b2,c1,c2=>by
  rcases adq.1 hb with eb | hb'
  ·rcases adq.1 hc with ec | hc'
   ·rw[eb,ec]
   have:=h.fM c hc';subst eb;omega
  rcases adq.1 hc with ec | hc'
  ·have:=h.fM b hb';subst ec;omega
  exact nD h.tail hb' hc' b1 b2 c1 c2
theorem wS{x:Int}:∀{s:aU},Canon s->∀{p q:Int×Int},p∈s->q∈s->p.1<=x->x<p.2->q.1<=x->x<q.2->p=q
 | [],_,p,q,hp,_,_,_,_,_=>by cases hp
 | d::s,h,p,q,hp,hq,p1,p2,q1,q2=>by
  rcases adq.1 hp with ep | hp'
  ·rcases adq.1 hq with eq | hq'
   ·rw[ep,eq]
   have:=h.behind q hq';subst ep;omega
  rcases adq.1 hq with eq | hq'
  ·have:=h.behind p hp';subst eq;omega
  exact wS h.tail hp' hq' p1 p2 q1 q2
variable {s:List an}
theorem HE(h:bE s){x y:Int}{a b:ae}(ha:a∈told s)(hb:b∈told s)(ka:dE x y a=true)(kb:dE x y b=true):a=b:=by
 obtain⟨c,hc,p,hp,rfl⟩:=gf.1 ha;obtain⟨d,hd,q,hq,rfl⟩:=gf.1 hb;obtain⟨a1,a2,a3,a4⟩:=aQ.1 ka;obtain⟨b1,b2,b3,b4⟩:=aQ.1 kb;have e:=nD h hc hd a3 a4 b3 b4;subst e;have e:=wS (h.mem c hc).can hp hq a1 a2 b1 b2;subst e;rfl
theorem HF(h:bE s):(told s).Nodup:=by
 rw[aed];refine (pk h).imp fun {a b} qb e=>?_;have:=gN.1 qb;subst e;omega
theorem vN(h:bE s){l:List ae}(hl:∀r∈l,r∈told s):(told (aB l)).length<=l.length:=by
 obtain⟨b1,b2,_⟩:=aR fun r hr=>bP h r (hl r hr);have hn:((told (aB l)).map fun q=>(q.y0,q.x0)).Nodup:=by
  rw[aed,abe];refine (pk b1).imp fun {a b} qb e=>?_;have:=gN.1 qb;simp only[Prod.mk.injEq]at e;omega
 have:=uy (m:=l.map fun q=>(q.y0,q.x0)) hn fun z hz=>by
  obtain⟨q,hq,rfl⟩:=adS.1 hz;obtain⟨b,hb,p,hp,rfl⟩:=gf.1 hq;have hB:=b1.mem b hb;have h1:at' (aB l) p.1 b.y0=true:=by
   rw[Dh b1 hb (acP _) hB.lt,cu hB.can];exact⟨p,hp,acP _,ga hB.can p hp⟩
  rw[b2,aci]at h1;obtain⟨r,hr,hx⟩:=h1;have Yi:=hl r hr;obtain⟨c,hc,t,ht,rfl⟩:=gf.1 Yi;obtain⟨x1,x2,x3,x4⟩:=aQ.1 hx;simp only at x1 x2 x3 x4;have e1:t.1=p.1:=by
   refine acz fun b8=>?_;have:at' (aB l) (p.1-1) b.y0=true:=by
    rw[b2,aci];exact⟨_,hr,aQ.2 ⟨by simp only;omega,by simp only;omega,x3,x4⟩⟩
   rw[Dh b1 hb (acP _) hB.lt,cu hB.can]at this;exact sS hB.can hp this
  have e2:c.y0=b.y0:=by
   refine acz fun b8=>?_;obtain⟨x,Yj⟩:=BN b1 hb;refine Yj ?_;rw[b2,b2];refine oy fun r' m_=>?_;obtain⟨d,hd,u,hu,rfl⟩:=gf.1 (hl r' m_);rw[abb,aQ,aQ];simp only;constructor
   ·rintro⟨a1,a2,a3,a4⟩;have:=nD h hd hc a3 a4 (by omega) (by omega);subst this;exact⟨a1,a2,by omega,by omega⟩
   rintro⟨a1,a2,a3,a4⟩;have:=nD h hd hc a3 a4 (by omega) (by omega);subst this;exact⟨a1,a2,by omega,by omega⟩
  exact adS.2 ⟨_,hr,by simp only[e1,e2]⟩
 rw[aej,aej]at this;exact this
theorem Fq{l:List ae}{m:Nat}(h:m<l.length):l[m]?=some (l.getD m bg):=by
 rw[ad4,acg h];rfl
theorem zF(p:Nat->Nat)(i r:Nat):(dh p i r).Nodup:=adK acf List.nodup_range
theorem BT{α:Type}:∀{l:List α},l.Nodup->∀{a b:Nat} {x:α},l[a]?=some x->l[b]?=some x->a=b
 | [],_,a,b,x,ha,_=>by simp at ha
 | y::l,h,a,b,x,ha,hb=>by
  have h':=aai.1 h;cases a with
  | zero=>
   cases b with
   | zero=>rfl
   | succ b=>
    have e:=Option.some.inj ha;exact absurd (by rw[e];exact aad (by simpa using hb)) h'.1
  | succ a=>
   cases b with
   | zero=>
    have e:=Option.some.inj hb;exact absurd (by rw[e];exact aad (by simpa using ha)) h'.1
   | succ b=>rw[BT h'.2 (a:=a) (b:=b) (by simpa using ha) (by simpa using hb)]
theorem KS(h:bE s){a b:Nat}{l m:List ae}(ha:(ox s)[a]?=some l)(hb:(ox s)[b]?=some m)(b8:a≠b):
  l.length+m.length<=(told s).length/\∀r∈l,∀q∈m,∀x y,¬(dE x y r=true/\dE x y q=true):=by
 obtain⟨u1,u2⟩:=zv s;rw[ox,aak,aP,aak]at ha hb;cases ea:(cd (cQ (jE s)) (told s).length)[a]? with
 | none=>rw[ea]at ha;cases ha
 | some ka=>
  cases eb:(cd (cQ (jE s)) (told s).length)[b]? with
  | none=>rw[eb]at hb;cases hb
  | some kb=>
   rw[ea]at ha;rw[eb]at hb;have ha:=(Option.some.inj ha).symm;have hb:=(Option.some.inj hb).symm;have hk:ka≠kb:=fun e=>by
    subst e;exact b8 (zn (afh _ _) ea eb)
   have hd:(dh (cQ (jE s)) (told s).length ka++dh (cQ (jE s)) (told s).length kb).Nodup:=by
    rw[aef];refine⟨zF _ _ _,zF _ _ _,fun i hi j hj e=>?_⟩;subst e;exact hk ((dx.1 hi).2.symm.trans (dx.1 hj).2)
   have:=uy (m:=List.range (told s).length) hd fun i hi=>by
    rw[abD];rcases abi.1 hi with hi | hi
    ·exact (dx.1 hi).1
    exact (dx.1 hi).1
   rw[acv,abV]at this;refine⟨by rw[ha,hb,aej,aej];exact this,fun r hr q hq x y Oy=>?_⟩;rw[ha]at hr;rw[hb]at hq;obtain⟨i,hi,rfl⟩:=adS.1 hr;obtain⟨j,hj,rfl⟩:=adS.1 hq;obtain⟨i1,i2⟩:=dx.1 hi;obtain⟨j1,j2⟩:=dx.1 hj;have e:=HE h (vK i1) (vK j1) Oy.1 Oy.2;have xB:=Fq i1;have Lw:=Fq j1;rw[e]at xB;have:=BT (HF h) xB Lw;subst this;exact hk (i2.symm.trans j2)
theorem NG{a:Nat}{l:List ae}(ha:(ox s)[a]?=some l):l.length<=(told s).length:=by
 rw[ox,aak,aP,aak]at ha;cases ea:(cd (cQ (jE s)) (told s).length)[a]? with
 | none=>rw[ea]at ha;cases ha
 | some ka=>
  rw[ea]at ha;have ha:=(Option.some.inj ha).symm;rw[ha,aej];exact qJ _ _ _
variable {bs:List aS}
theorem HG{p q:Piece}(he:p.layer=q.layer)(l:List (List ae)):∀(k:Int) (i j:Nat),(bG bs k l)[i]?=some p->(bG bs k l)[j]?=some q->i<j ->
  ∃(n:Nat) (r:List ae) (a b:Nat),l[n]?=some r/\a<b/\(cV (bU bs (k+n) r))[a]?=some p.set/\(cV (bU bs (k+n) r))[b]?=some q.set:=by
 induction l with
 | nil=>intro k i j hp;rw[bG]at hp;cases hp
 | cons r l ih=>
  intro k i j hp hq DX;rw[bG]at hp hq;obtain⟨S,hS⟩:∃S,S=cV (bU bs k r):=⟨_,rfl⟩;rw[<-hS]at hp hq;by_cases c:j<S.length
  ·rw[aaE (by rw[aej];omega),aak]at hp hq;cases ep:S[i]? with
   | none=>rw[ep]at hp;cases hp
   | some s=>
    cases eq:S[j]? with
    | none=>rw[eq]at hq;cases hq
    | some t=>
     rw[ep]at hp;rw[eq]at hq;have hp:=Option.some.inj hp;have hq:=Option.some.inj hq;have z:k+((0:Nat):Int)=k:=by omega
     refine⟨0,r,i,j,rfl,DX,?_,?_⟩
     ·rw[z,<-hS,ep,<-hp]
     rw[z,<-hS,eq,<-hq]
  rw[acu (by rw[aej];omega)]at hq;obtain⟨n,r',h1,h2,_⟩:=mH (aad hq);by_cases d:i<S.length
  ·rw[aaE (by rw[aej];omega),aak]at hp;cases ep:S[i]? with
   | none=>rw[ep]at hp;cases hp
   | some s=>
    rw[ep]at hp;have hp:=Option.some.inj hp;rw[<-hp]at he;simp only at he;omega
  rw[acu (by rw[aej];omega)]at hp;obtain⟨n,r',a,b,h1,h2,h3,h4⟩:=ih (k+1) _ _ hp hq (by rw[aej];omega);have e:k+((n+1:Nat):Int)=k+1+(n:Int):=by omega
  exact⟨n+1,r',a,b,by simpa using h1,h2,by rw[e];exact h3,by rw[e];exact h4⟩
theorem xR:∀{l:List (List ae)} {k:Int},qL bs k l=true->∀(n:Nat) r,l[n]?=some r->(told (bU bs (k+n) r)).length<=2000
 | [],k,_,n,r,h=>by simp at h
 | q::l,k,hf,n,r,h=>by
  rw[qL,aaZ,aaH]at hf;cases n with
  | zero=>
   have:=Option.some.inj h;subst this;simpa using hf.1
  | succ n=>
   have:=xR hf.2 n r (by simpa using h);have e:k+((n+1:Nat):Int)=k+1+(n:Int):=by omega
   rw[e];exact this
structure O7(p q:Piece):Prop where
 jB:(told p.set).length+(told q.set).length<=2000
 apart:∀x y,¬(at' p.set x y=true/\at' q.set x y=true)
theorem PR{l:List (List ae)}{k:Int}{i j:Nat}{p q:Piece}(hs:∀(n:Nat) r,l[n]?=some r->bE (bU bs (k+n) r))(hf:qL bs k l=true)(hp:(bG bs k l)[i]?=some p)(hq:(bG bs k l)[j]?=some q)(DX:i<j)(he:p.layer=q.layer):O7 p q:=by
 obtain⟨n,r,a,b,h1,h2,h3,h4⟩:=HG he _ _ _ _ hp hq DX;have h0:=hs n r h1;have zA:=xR hf n r h1;rw[cV,aak]at h3 h4;cases ea:(ox (bU bs (k+n) r))[a]? with
 | none=>rw[ea]at h3;cases h3
 | some x=>
  cases eb:(ox (bU bs (k+n) r))[b]? with
  | none=>rw[eb]at h4;cases h4
  | some y=>
   rw[ea]at h3;rw[eb]at h4;have h3:=Option.some.inj h3;have h4:=Option.some.inj h4;obtain⟨c1,c2⟩:=KS h0 ea eb (by omega);have mx:=(afp (aad ea)).2;have my:=(afp (aad eb)).2;have sx:=vN h0 mx;have sy:=vN h0 my;obtain⟨_,bx,_⟩:=aR fun r hr=>bP h0 r (mx r hr);obtain⟨_,by',_⟩:=aR fun r hr=>bP h0 r (my r hr);refine⟨by rw[<-h3,<-h4];omega,fun u v ZI=>?_⟩;rw[<-h3,<-h4,bx,by',aci,aci]at ZI;obtain⟨⟨r1,m1,e1⟩,r2,m2,e2⟩:=ZI;exact c2 r1 m1 r2 m2 u v ⟨e1,e2⟩
end Reg
namespace M
open Reg (ae an aS fS Piece BR bE cv told aB bO aa through fT afd aC ax bN a_ coreS at' jn aP cQ jm bB bG mG)
theorem Fs{a:fS}(h:dc a=0):iD a/\Reg.eG a=true/\Reg.da a.bores 0=false:=by
 unfold dc at h;split at h
 ·cases h
 rename_i g1;split at h
 ·cases h
 rename_i g2;split at h
 ·rename_i g;exact absurd h g
 rename_i g3;have g3:Reg.db a.coppers=0:=by simpa using g3
 split at h
 ·rename_i g;exact absurd h g
 rename_i g4;have g4:Reg.aF a.outline=0:=by simpa using g4
 split at h
 ·cases h
 split at h
 ·rename_i g;exact absurd h g
 rename_i g6;have g6:Reg.bT a=0:=by simpa using g6
 split at h
 ·rename_i g;exact absurd h g
 rename_i g7;have g7:c8 a=0:=by simpa using g7
 split at h
 ·cases h
 rename_i g8;split at h
 ·rename_i g9;have zA:a.bores.length<=500:=by
   unfold Reg.bT at g6;split at g6
   ·cases g6
   omega
  have T4:Reg.c_ a.coppers.length a.bores=0:=by rwa [Reg.bT,aaa (by omega)]at g6
  refine⟨⟨⟨by omega,by omega⟩,Reg.jo g3,g4,zA,Reg.sM T4,?_⟩,g9,by simpa using g8⟩;unfold c8 at g7;split at g7
  ·cases g7
  omega
 cases h
structure VD(a:fS)(p:Piece):Prop where
 sok:bE p.set
 ink:cv 1000000 p.set
 ne:p.set≠[]
 jB:(told p.set).length<=2000
 lo:0<=p.layer
 hi:p.layer<a.coppers.length
structure Ft(a:fS):Prop where
 art:iD a
 jB:(aC a).pieces.length<=2000
 pc:∀p∈(aC a).pieces,VD a p
 two:∀(i j:Nat) p q,(aC a).pieces[i]?=some p->(aC a).pieces[j]?=some q->i<j->p.layer=q.layer->Reg.O7 p q
 gr:mG a.bores (aC a).pieces.length (((aC a).ofPiece,(aC a).ofBore),(jn a.bores (aC a).pieces.length (aP (cQ (jm (aC a).pieces.length a.bores.length (aC a).bB)) ((aC a).pieces.length+a.bores.length))).2)
theorem jv{a:fS}(ha:iD a):∀b∈a.bores,bO b=true:=fun b hb=>ky (ha.bor b hb)
theorem jW{a:fS}(h:dc a=0):Ft a:=by
 obtain⟨ha,hd,_⟩:=Fs h;have hs:∀(n:Nat) r,a.coppers[n]?=some r->SO (Reg.bU a.bores (0+n) r):=fun n r hr=>jV (jv ha) ha.jB _ (ha.reg r (aad hr));rw[Reg.eG,aaZ,aaH]at hd;refine⟨ha,hd.2,fun p hp=>?_,fun i j p q hp hq DX he=>Reg.PR (fun n r hr=>(hs n r hr).sok) hd.1 hp hq DX he,?_⟩
 ·obtain⟨n,r,h1,h2,h3⟩:=Reg.mH hp;have hn:=(aao.1 h1).1;obtain⟨c1,c2,_,c4⟩:=Reg.rD (hs n r h1).sok h3;refine⟨c1,c4 _ (hs n r h1).ink,c2,?_,by omega,by omega⟩;have zA:=Reg.xR hd.1 n r h1;obtain⟨l,hl,e⟩:=adS.1 h3;have Wa:=(Reg.afp hl).2;have s1:=Reg.vN (hs n r h1).sok Wa;obtain⟨k,hk⟩:=List.getElem?_of_mem hl;have s2:=Reg.NG hk;rw[<-e];omega
 have ht:∀x∈bB a.bores (bG a.bores 0 a.coppers),∀p∈x,0<=p/\p<((bG a.bores 0 a.coppers).length:Int):=fun x hx p hp=>by
  obtain⟨b,_,rfl⟩:=adS.1 hx;have:=Reg.rE b (bG a.bores 0 a.coppers) 0 p hp;omega
 have hl:(bB a.bores (bG a.bores 0 a.coppers)).length=a.bores.length:=by rw[Reg.bB,aej]
 obtain⟨u1,u2⟩:=Reg.qM (n:=(bG a.bores 0 a.coppers).length) (nb:=a.bores.length) (bB a.bores (bG a.bores 0 a.coppers)) 0 (Reg.iota ((bG a.bores 0 a.coppers).length+a.bores.length)) (Reg.ny _) (Reg.aeM _) (by omega) ht;exact Reg.vL u1 u2
theorem agx{r:cP}(hg:zd r)(x:ByteArray):0<=E3 r x/\E3 r x<=100000:=by
 have hn:=hg.nums;simp only[gM,cL,aaZ,aaH]at hn;rw[E3];split
 ·rename_i h;refine⟨by omega,?_⟩;rw[aeR]at h ⊢;cases e:r.classes.find? fun c=>hasB c.nets x&&!decide (x=M4) with
  | none=>rw[e]at h;simp[agP]at h
  | some c=>
   have:=(hg.cl c (List.mem_of_find?_eq_some e)).2.2.2.2;simp only[cL,aaZ,aaH]at this;exact this.2
 exact⟨by omega,by omega⟩
def kU(a b:Break):Prop:=a.kind=b.kind/\a.a=b.a/\a.b=b.b/\a.is=b.is
def Has(l m:List Break):Prop:=∀b∈l,∃c∈m,kU b c
theorem Has.nil(m:List Break):Has [] m:=fun b hb=>by cases hb
theorem gz{b:aS}(h:bO b=true):bE (aB [aa b])/\cv 1010000 (aB [aa b]):=by
 have Ox:=Reg.aR (l:=[aa b]) (fun q hq=>by rw[ab_]at hq;subst hq;exact Reg.bX h);refine⟨Ox.1,Ox.2.2 _ fun q hq=>?_⟩;rw[ab_]at hq;subst hq;exact Reg.er h
end M
end Go.Proofs.YtfloceomobknoaaGreatDoor
namespace Go.AM
end Go.AM
namespace Go.Proofs.YtfloceomobknoaaGreatDoor
namespace M
open Go.AM Go.RowKit Go.Lib
open Reg (ae an aS fS Piece BR bE cv told aB bO aa through aC ax bN a_ coreS)
theorem open_1(s:ByteArray)(hs:ue s):af C 150 [.pv (str s)] (.p (bool (!afe s))) []:=by
 refine fW hC Tryz.func150 rfl (by kernel_rfl) fun _=>?_;refine⟨_,_,(agt s hs),?_⟩;refine⟨?_,trivial⟩;rfl
theorem agI(l:List ByteArray)(hN:l.length<=140737488355328)(ho:∀s∈l,ue s):af C 210 [.pv (strs l),.pv (vA 150)] (.p (i64 (jO (fun s=>!afe s) l 0))) []:=by
 refine fW hC Tryz.func210 rfl (by kernel_rfl) fun _=>?_;have lm:=ai l fun s=>[str s];refine aJ (fun i:Nat=>i<=l.length/\∀z∈l.take i,(!afe z)=false) (fun i=>[(0,.p (strs l)),(1,.p (vA 150)),(7,.p (i64 (l.map fun s=>[str s]).length)),(8,.p (i64 i))]) (fun _=>[]) (fun i=>l.length-i) 0 _ (au.refl _ _) ⟨aaj _,by simp⟩ ⟨Z,Z,Z,Z,Y⟩ trivial fun i hi t h=>?_;refine iW ?_ ?_<;>intro h1
 ·rw[lm]at h1;obtain⟨r,hr⟩:=ak (l:=l) (i:=i) (by omega);refine⟨[str r],(idx rfl hr),?_⟩;refine⟨_,_,(open_1 r (ho r (aad hr))),?_⟩;refine iW ?_ ?_<;>intro h2
  ·have h2:(!afe r)=true:=by simpa using h2
   refine⟨?_,trivial⟩;rw[lY (p:=fun s=>!afe s) hr h2 hi.2,abC]
  have h2:(!afe r)=false:=by simpa using h2
  refine⟨⟨by omega,by omega⟩,?_⟩;exact⟨(i+1),_,au.refl _ _,⟨by omega,tW (p:=fun s=>!afe s) hr h2 hi.2⟩,by omega,⟨Z,Z,Z,Z,Y⟩,trivial⟩
 rw[lm]at h1;refine⟨?_,trivial⟩;have h2:=hi.2;rw[adW (by omega)]at h2;rw[iV (p:=fun s=>!afe s) h2];rfl
theorem aga(l:List ByteArray)(hN:l.length<=140737488355328)(ho:∀s∈l,ue s):af C 149 [.pv (strs l),.pv (vA 150)] (.p (bool (l.any fun s=>!afe s))) []:=by
 refine fW hC Tryz.func149 rfl (by kernel_rfl) fun _=>?_;refine⟨_,_,(agI l hN ho),?_⟩;refine⟨?_,trivial⟩;rw[<-oX _ l 0];rfl
def agl(r:cP)(a:fS)(nets:List ByteArray):PV:=if aeJ r a nets=0 then .ip (kW a) else .im (.pointer none)
structure afj(l:List ByteArray):Prop where
 len:l.length<=1000000000
 str:∀s∈l,ue s
theorem agJ(r:cP)(hr:e8 r)(a:fS)(ha:ly a)(nets:List ByteArray)(hn:afj nets):af C 69 [.pv (.ag (rl r)),.pv (.ag (dX a)),.pv (strs nets)] (.tu [agl r a nets,i64 (aeJ r a nets)]) []:=by
 have ln:=ai nets fun s=>[str s];have lg:=ai (aC a).placed.groups sT;have hn1:=hn.len;obtain⟨F,hF⟩:∃F,F=aeJ r a nets:=⟨_,rfl⟩;have hV:agl r a nets=if F=0 then .ip (kW a) else .im (.pointer none):=by rw[hF];rfl
 rw[hV,<-hF];rw[aeJ]at hF;refine fW hC Tryz.func69 rfl (by kernel_rfl) fun _=>?_;refine⟨_,_,(jQ r hr),?_⟩;refine iW ?_ ?_<;>intro g1
 ·have g1:bC r≠0:=by simpa using g1
  rw[aap g1]at hF;refine⟨?_,trivial⟩;rw[hF,aaa g1]
 have g1:bC r=0:=by simpa using g1
 rw[aaa (by simpa using g1)]at hF;have aK:=Fp a ha;by_cases g:dc a=0
 ·rw[Jb,aap g,g]at aK;rw[aaa (by simpa using g)]at hF;have gd:=jW g;refine⟨_,_,aK,?_⟩;refine iW ?_ ?_<;>intro g2
  ·rw[aap (by omega)]at hF;refine⟨?_,trivial⟩;rw[hF];rfl
  rw[aaa (by omega)]at hF;refine⟨_,_,(aga nets (by omega) hn.str),?_⟩;refine iW ?_ ?_<;>intro g3
  ·rw[aap g3]at hF;refine⟨?_,trivial⟩;rw[hF];rfl
  rw[aaa (by simpa using g3)]at hF;refine⟨?_,trivial⟩;rw[hF];rfl
 rw[Jb,aaa g]at aK;rw[aap g]at hF;refine⟨_,_,aK,?_⟩;refine iW ?_ ?_<;>intro h
 ·refine⟨?_,trivial⟩;rw[hF,aaa g]
 exact absurd (by simpa using h) g
theorem len_nil{s:List an}:decide (((s.map hb).length:Int)=0)=decide (s=[]):=by
 cases s with
 | nil=>rfl
 | cons b s=>simp;omega
theorem ahd(p:Piece)(hs:bE p.set)(ks:cv 1000000 p.set)(n:Int)(h0:0<=n)(h1:n<=100000):af C 153 [.pv (i64 n),.pv (.ip (jb p))] (.p (bool (decide (ax p.set n=[])))) []:=by
 refine fW hC Tryz.func153 rfl (by kernel_rfl) fun _=>?_;refine⟨_,_,(afY p.set hs ks n h0 h1),?_⟩;refine⟨?_,trivial⟩;rw[len_nil];rfl
theorem agm(p:Piece)(hs:bE p.set)(ks:cv 1000000 p.set)(cx:Int)(h0:0<=cx)(h1:cx<=100000):af C 127 [.pv (i64 cx),.pv (.fn 153 [.ip (jb p)])] (.p (i64 (dL (fun n=>decide (ax p.set n=[])) cx))) []:=by
 refine fW hC Tryz.func127 rfl (by kernel_rfl) fun _=>?_;obtain⟨H,hH⟩:∃H:Int->Bool,H=fun n=>decide (ax p.set n=[]):=⟨_,rfl⟩;rw[<-hH];have hc:∀n,0<=n->n<=100000->af C 153 [.pv (i64 n),.pv (.ip (jb p))] (.p (bool (H n))) []:=fun n a b=>by rw[hH];exact ahd p hs ks n a b
 refine aJ (fun x:Nat×Int×Int=>gn H x.1 x.2.1 x.2.2=dL H cx/\(x.2.2-x.2.1).toNat<=x.1/\-1<=x.2.1/\x.2.1<=x.2.2/\x.2.2<=cx) (fun x=>[(1,.p (.fn 153 [.ip (jb p)])),(5,.p (i64 x.2.1)),(6,.p (i64 x.2.2))]) (fun _=>[]) (fun x=>x.1) ((cx+1).toNat,-1,cx) _ (au.refl _ _) ⟨rfl,by simp only;omega,by simp only;omega,by simp only;omega,by simp only;omega⟩ ⟨Z,Z,Z,Y⟩ trivial fun ⟨n,low,high⟩ hx t h=>?_;obtain⟨x1,x2,x3,x4,x5⟩:=hx;simp only at x1 x2 x3 x4 x5;refine iW ?_ ?_<;>intro g<;>try simp only[zB]at g
 ·have hf:=pA (d:=high-low) (by omega);rw[nB H g x2]at x1;refine⟨⟨by dsimp only;omega,by dsimp only;omega⟩,?_⟩;refine⟨⟨by dsimp only;omega,by dsimp only;omega⟩,?_⟩;refine⟨by decide,?_⟩;refine⟨⟨by dsimp only;omega,by dsimp only;omega⟩,?_⟩;refine⟨⟨by dsimp only;omega,by dsimp only;omega⟩,?_⟩;refine⟨_,_,(hc (low+(high-low+1).tdiv 2) (by omega) (by omega)),?_⟩;refine iW ?_ ?_<;>intro k
  ·rw[aap k]at x1;exact⟨(n-1,low+(high-low+1).tdiv 2,high),_,au.refl _ _,⟨x1,by simp only;omega,by simp only;omega,by simp only;omega,by simp only;omega⟩,by simp only;omega,⟨Z,Z,Z,Y⟩,trivial⟩
  rw[aaa (by simpa using k)]at x1;refine⟨⟨by dsimp only;omega,by dsimp only;omega⟩,?_⟩;exact⟨(n-1,low,low+(high-low+1).tdiv 2-1),_,au.refl _ _,⟨x1,by simp only;omega,by simp only;omega,by simp only;omega,by simp only;omega⟩,by simp only;omega,⟨Z,Z,Z,Y⟩,trivial⟩
 rw[pB H g]at x1;refine⟨?_,trivial⟩;rw[x1]
end M
end Go.Proofs.YtfloceomobknoaaGreatDoor
namespace Go.AM
open Go.RowKit Go.ChangeShapes
section
variable {H:Type} {enc:TypeId×Value->H} {P:Program} {w:World} {S:Nat->Prop}
theorem NH{t:TypeId}(ht:P.underlying t=some .bool):IK enc P w S t 1 fun xs d=>∃b:Bool,xs=[.im (.bool b)]:=fun n cs x h=>by
 obtain⟨b,rfl,rfl⟩:=DataW.trod_bool ht h;exact⟨[.im (.bool b)],rfl,rfl,one_cell ⟨.im _,rfl⟩,b,rfl⟩
def nE(S:Nat->Prop)(w:World)(o:Nat)(xs:List PV)(cs:List Value):Prop:=∀(i:Nat) c v,xs[i]?=some c->cs[o+i]?=some v->aO S w c v/\v.oneCell'=true
theorem nE.join{o:Nat}{xs ys:List PV}{cs:List Value}(h:nE S w o xs cs)(k:nE S w (o+xs.length) ys cs):nE S w o (xs++ys) cs:=fun i c v h1 h2=>by
 by_cases e:i<xs.length
 ·rw[aaE e]at h1;exact h i c v h1 h2
 rw[acu (by omega)]at h1;refine k (i-xs.length) c v h1 ?_;rw[<-h2];congr 1;omega
theorem zI{t:TypeId}{fs:Array Field}(ht:P.underlying t=some (.struct fs))(ks:Nat->Nat)(hk:∀(i:Nat) (f:Field),fs[i]?=some f->P.cellsOf f.type=ks i)(Qs:Nat->List PV->DataW H->Prop)(hf:∀(i:Nat) (f:Field),fs[i]?=some f->IK enc P w S f.type (ks i) (Qs i)){n:Nat}{cs:List Value}{x:DataW H×List MemPlace}(h:DataW.trod enc P w 0 (fun _=>true) true n t cs=some x):
  cs.length=P.cellsOf t/\∃ds:List (DataW H),x.1=.agg ds/\ds.length=fs.size/\∀(i:Nat) (f:Field),fs[i]?=some f->∃xs d,xs.length=ks i/\nE S w f.offset xs cs/\ds[i]?=some d/\Qs i xs d:=by
 obtain⟨ys,m,_,rfl,hl,hlen,hy⟩:=DataW.trod_struct ht h;refine⟨hl,ys.map (·.1),rfl,by rw[aej,hlen],fun i f QV=>?_⟩;have hi:i<fs.size:=(ab9.1 QV).1;have QW:=hy i f QV;have UZ:ys[i]?=some ys[i]:=acg (by omega);rw[UZ,hk i f QV]at QW;obtain⟨xs,l1,l2,l3,l4⟩:=hf i f QV _ _ _ QW;refine⟨xs,ys[i].1,l1,fun j c v h1 h2=>l3 j c v h1 ?_,by rw[aak,UZ];rfl,l4⟩;have hj:=(aao.1 h1).1;rw[aa0 (by omega),aas];exact h2
end
end Go.AM
namespace Go.Proofs.YtfloceomobknoaaGreatDoor
namespace M
open Go.AM Go.RowKit Go.Lib
open Reg (ae aU an aS fo fS)
variable {H:Type} {enc:TypeId×Value->H} {w:World} {S:Nat->Prop}
theorem Yk:Sp enc w S 4 1 (fun b=>[bool b]) fun _ _=>True:=fun n cs x h=>by
 obtain⟨xs,l1,l2,l3,b,e⟩:=NH (S:=S) acm n cs x h;exact⟨xs,l1,l2,l3,b,e,trivial⟩
def SY(P:Program)(fs:Array Field)(ks:Nat->Nat):Bool:=(List.range fs.size).all fun i=>match fs[i]? with
 | some f=>Nat.beq (P.cellsOf f.type) (ks i)
 | none=>true
theorem Fw{P:Program}{fs:Array Field}{ks:Nat->Nat}(h:SY P fs ks=true):∀(i:Nat) (f:Field),fs[i]?=some f->P.cellsOf f.type=ks i:=fun i f hf=>by
 have hi:=(ab9.1 hf).1;have:=abh.1 h i (abD.2 hi);rw[hf]at this;exact aa2 this
theorem PU:Sp enc w S 95 6 bc fun _ _=>True:=fun n cs x h=>by
 obtain⟨hl,ds,e,ld,q⟩:=zI (S:=S) (ks:=fun i=>match i with | 0=>2 | _=>1) (hk:=Fw (by kernel_rfl)) (Qs:=fun i xs d=>match i with
   | 0=>∃p:Int×Int,xs=[i64 p.1,i64 p.2]/\True
   | 4=>∃b,xs=[bool b]/\True
   | _=>∃n,xs=[i64 n]/\True) Tryz.underlying95 (fun i f hf=>by
  match i,hf with
  | 0,hf=>cases hf;exact EL
  | 1,hf=>cases hf;exact sL
  | 2,hf=>cases hf;exact sL
  | 3,hf=>cases hf;exact sL
  | 4,hf=>cases hf;exact Yk
  | n+5,hf=>cases hf) h
 have hl:cs.length=6:=hl.trans (by kernel_rfl);obtain⟨x0,_,_,r0,_,p,e0,_⟩:=q 0 _ rfl;obtain⟨x1,_,_,r1,_,n1,e1,_⟩:=q 1 _ rfl;obtain⟨x2,_,_,r2,_,n2,e2,_⟩:=q 2 _ rfl;obtain⟨x3,_,_,r3,_,n3,e3,_⟩:=q 3 _ rfl;obtain⟨x4,_,_,r4,_,b4,e4,_⟩:=q 4 _ rfl;cases e0;cases e1;cases e2;cases e3;cases e4;have rel:nE S w 0 ([i64 p.1,i64 p.2]++([i64 n1]++([i64 n2]++([i64 n3]++[bool b4])))) cs:=nE.join r0 (nE.join r1 (nE.join r2 (nE.join r3 r4)));exact⟨_,rfl,hl,fun i c v h1 h2=>rel i c v h1 (by rw[abC];exact h2),⟨p.1,p.2,n1,n2,n3,b4⟩,Z,Y⟩
def zJ(l:fo)(n:Nat):Prop:=l.part.size<=n/\l.pin.size<=n
theorem qQ(l:fo)(m n:Nat)(h:m<=n):zJ l m->zJ l n:=fun ⟨h1,h2⟩=>⟨aaF h1 h,aaF h2 h⟩
theorem PX:Sp enc w S 201 5 lc zJ:=fun n cs x h=>by
 obtain⟨hl,ds,e,ld,q⟩:=zI (S:=S) (ks:=fun i=>match i with | 3=>2 | _=>1) (hk:=Fw (by kernel_rfl)) (Qs:=fun i xs d=>match i with
   | 0=>∃s,xs=[str s]/\s.size<=Rows.uptoBulk d
   | 1=>∃s,xs=[str s]/\s.size<=Rows.uptoBulk d
   | 2=>∃n,xs=[i64 n]/\True
   | _=>∃p:Int×Int,xs=[i64 p.1,i64 p.2]/\True) Tryz.underlying201 (fun i f hf=>by
  match i,hf with
  | 0,hf=>cases hf;exact Pz
  | 1,hf=>cases hf;exact Pz
  | 2,hf=>cases hf;exact sL
  | 3,hf=>cases hf;exact EL
  | n+4,hf=>cases hf) h
 have hl:cs.length=5:=hl.trans (by kernel_rfl);obtain⟨x0,y0',_,r0,i0,n0,e0,b0⟩:=q 0 _ rfl;obtain⟨x1,y1',_,r1,i1,n1,e1,b1⟩:=q 1 _ rfl;obtain⟨x2,_,_,r2,_,n2,e2,_⟩:=q 2 _ rfl;obtain⟨x3,_,_,r3,_,p,e3,_⟩:=q 3 _ rfl;cases e0;cases e1;cases e2;cases e3;have rel:nE S w 0 ([str n0]++([str n1]++([i64 n2]++[i64 p.1,i64 p.2]))) cs:=nE.join r0 (nE.join r1 (nE.join r2 r3));have j0:=nK i0;have j1:=nK i1;rw[<-e]at j0 j1;exact⟨_,rfl,hl,fun i c v h1 h2=>rel i c v h1 (by rw[abC];exact h2),⟨n0,n1,n2,p.1,p.2⟩,rfl,aaF b0 j0,aaF b1 j1⟩
def Je(a:fS)(n:Nat):Prop:=a.coppers.length<=n/\(∀r∈a.coppers,r.length<=n)/\a.outline.length<=n/\a.bores.length<=n/\a.lands.length<=n/\∀l∈a.lands,zJ l n
theorem SZ(hS:∀b,b<w.heap.size->S b):Sp enc w S 27 4 dX Je:=fun n cs x h=>by
 obtain⟨xs,l1,l2,l3,ds,e,ld,q⟩:=jP (S:=S) (Qs:=fun i xs d=>match i with
   | 0=>∃r:List (List ae),xs=[.sl (r.map fun q=>[aj q])]/\(r.length<=Rows.uptoBulk d/\∀c∈r,(c.length<=Rows.uptoBulk d/\∀z∈c,True))
   | 1=>∃r,xs=[aj r]/\(r.length<=Rows.uptoBulk d/\∀z∈r,True)
   | 2=>∃r:List aS,xs=[.sl (r.map bc)]/\(r.length<=Rows.uptoBulk d/\∀c∈r,True)
   | _=>∃r:List fo,xs=[.sl (r.map lc)]/\(r.length<=Rows.uptoBulk d/\∀c∈r,zJ c (Rows.uptoBulk d))) Tryz.underlying27 (acY (by kernel_rfl)) (by kernel_rfl) (fun i f hf=>by
  match i,hf with
  | 0,hf=>cases hf;exact mA (k:=1) Tryz.underlying23 (by kernel_rfl) (by decide) hS (fun r m n h ⟨h1,h2⟩=>⟨aaF h1 h,h2⟩) (yZ hS)
  | 1,hf=>cases hf;exact yZ hS
  | 2,hf=>cases hf;exact mA (k:=6) Tryz.underlying24 (by kernel_rfl) (by decide) hS (fun _ _ _ _ h=>h) PU
  | 3,hf=>cases hf;exact mA (k:=5) Tryz.underlying25 (by kernel_rfl) (by decide) hS qQ PX
  | n+4,hf=>cases hf) _ _ _ h
 have l1:xs.length=4:=l1;have ld:ds.length=4:=ld;obtain⟨a,b,c,d,rfl⟩:∃a b c d,xs=[a,b,c,d]:=by
  match xs,l1 with
  | [a,b,c,d],_=>exact⟨a,b,c,d,rfl⟩
 obtain⟨a',b',c',d',rfl⟩:∃a b c d,ds=[a,b,c,d]:=by
  match ds,ld with
  | [a,b,c,d],_=>exact⟨a,b,c,d,rfl⟩
 obtain⟨n0,e0,p0,p0'⟩:=q 0 _ _ rfl rfl;obtain⟨n1,e1,p1,_⟩:=q 1 _ _ rfl rfl;obtain⟨n2,e2,p2,_⟩:=q 2 _ _ rfl rfl;obtain⟨n3,e3,p3,p3'⟩:=q 3 _ _ rfl rfl;cases e0;cases e1;cases e2;cases e3;have i0:=nK (ds:=[a',b',c',d']) (i:=0) rfl;have i1:=nK (ds:=[a',b',c',d']) (i:=1) rfl;have i2:=nK (ds:=[a',b',c',d']) (i:=2) rfl;have i3:=nK (ds:=[a',b',c',d']) (i:=3) rfl;rw[<-e]at i0 i1 i2 i3;exact⟨_,rfl,l2,l3,⟨n0,n1,n2,n3⟩,rfl,by exact aaF p0 i0,fun r hr=>aaF (p0' r hr).1 i0,by exact aaF p1 i1,by exact aaF p2 i2,by exact aaF p3 i3,fun l hl=>qQ l _ _ i3 (p3' l hl)⟩
theorem HI(a:fS)(m n:Nat)(h:m<=n):Je a m->Je a n:=fun ⟨h1,h2,h3,h4,h5,h6⟩=>⟨by omega,fun r hr=>aaF (h2 r hr) h,by omega,by omega,by omega,fun l hl=>qQ l _ _ h (h6 l hl)⟩
theorem S0{a:fS}(h:Je a 1048576):ly a:=⟨h.1,h.2.1,h.2.2.1,h.2.2.2.1,h.2.2.2.2.1,fun l hl=>⟨M_ (h.2.2.2.2.2 l hl).1,M_ (h.2.2.2.2.2 l hl).2⟩⟩
theorem ahp{l:List ByteArray}{n:Nat}(hn:n<=1048576)(h:l.length<=n/\∀s∈l,s.size<=n):afj l:=⟨by omega,fun s hs=>M_ (aaF (h.2 s hs) hn)⟩
end M
namespace Reg
def gR(w:Int)(p q:Bool):Bool:=(decide (w=1)&&(p||q)||(decide (w=2)&&p)&&q)||(decide (w=3)&&p)&&!q
theorem mJ(w:Int):gR w false false=false:=by simp[gR]
def aL(s:aU)(x:Int):Bool:=s.any fun p=>decide (p.1<=x)&&decide (x<p.2)
variable {s:aU}
theorem jw{x:Int}:aL s x=true↔cover s x:=by simp[aL,cover]
theorem zK(h:Canon s)(x:Int):aL s x=par (bw s) x:=by
 rw[abb,jw,cu h]
def fH(xs:List Int)(s:aU):List Int:=s.foldl (fun xs p=>put (put xs p.1) p.2) xs
theorem jX:∀(s:aU) (xs:List Int),bF xs->bF (fH xs s)/\∀y,y∈fH xs s↔y∈xs\/∃p∈s,y=p.1\/y=p.2
 | [],xs,h=>⟨h,fun y=>by simp[fH]⟩
 | p::s,xs,h=>by
  obtain⟨i1,i2⟩:=jX s (put (put xs p.1) p.2) (iG _ _ (iG _ _ h));refine⟨i1,fun y=>?_⟩;show y∈fH (put (put xs p.1) p.2) s↔_;rw[i2,tO,tO];simp only[adq,exists_eq_or_imp];constructor
  ·rintro (((h | h) | h) | h)
   ·exact .inl h
   ·exact .inr (.inl (.inl h))
   ·exact .inr (.inl (.inr h))
   exact .inr (.inr h)
  rintro (h | ((h | h) | h))
  ·exact .inl (.inl (.inl h))
  ·exact .inl (.inl (.inr h))
  ·exact .inl (.inr h)
  exact .inr h
def hY(w:Int)(a b:aU)(xs:List Int):Nat->aU
 | 0=>[]
 | i+1=>if gR w (aL a (xs.getD i 0)) (aL b (xs.getD i 0))=true then dG (hY w a b xs i) (xs.getD i 0) (xs.getD (i+1) 0) else hY w a b xs i
def fI(a b:aU):List Int:=fH (fH [] a) b
def mixed(w:Int)(a b:aU):aU:=hY w a b (fI a b) ((fI a b).length-1)
theorem Dp(a b:aU):bF (fI a b)/\∀y,y∈fI a b↔(∃p∈a,y=p.1\/y=p.2)\/∃p∈b,y=p.1\/y=p.2:=by
 obtain⟨h1,h2⟩:=jX a [] List.Pairwise.nil;obtain⟨h3,h4⟩:=jX b _ h1;exact⟨h3,fun y=>by rw[fI,h4,h2];simp⟩
theorem wT{xs:List Int}(hr:bF xs)(hm:∀p∈s,p.1∈xs/\p.2∈xs){k:Nat}{u v x:Int}(hu:xs[k]?=some u)(hv:xs[k+1]?=some v)(h1:u<=x)(h2:x<v):aL s u=aL s x:=by
 rw[abb,jw,jw];constructor
 ·rintro⟨p,hp,a,b⟩;have g1:=Q0 hr hu hv (hm p hp).1;have g2:=Q0 hr hu hv (hm p hp).2;exact⟨p,hp,by omega,by omega⟩
 rintro⟨p,hp,a,b⟩;have g1:=Q0 hr hu hv (hm p hp).1;have g2:=Q0 hr hu hv (hm p hp).2;exact⟨p,hp,by omega,by omega⟩
theorem uD{xs:List Int}(hr:bF xs){a c:Int}(ha:xs[0]?=some a)(hc:c∈xs):a<=c:=by
 cases xs with
 | nil=>cases hc
 | cons u t=>
  simp at ha;subst ha;rcases adq.1 hc with rfl | hc
  ·exact acP _
  exact Int.le_of_lt ((ade.1 hr).1 c hc)
theorem wU{xs:List Int}(hr:bF xs){a c:Int}(ha:xs[xs.length-1]?=some a)(hc:c∈xs):c<=a:=by
 obtain⟨j,hj⟩:=ab8.1 hc;obtain⟨a1,a2⟩:=aao.1 ha;obtain⟨j1,j2⟩:=aao.1 hj;rcases aen j (xs.length-1) with e | e
 ·have:=aaS.1 hr j _ j1 a1 e;omega
 have:j=xs.length-1:=by omega
 subst this;rw[a2]at j2;omega
theorem wV{xs:List Int}(hr:bF xs){k:Nat}{a b:Int}(ha:xs[k]?=some a)(hb:xs[k+1]?=some b):a<b:=by
 obtain⟨a1,a2⟩:=aao.1 ha;obtain⟨b1,b2⟩:=aao.1 hb;have:=aaS.1 hr k (k+1) a1 b1 (by omega);omega
theorem wW(w:Int){a b:aU}{xs:List Int}(hr:bF xs)(ha:∀p∈a,p.1∈xs/\p.2∈xs)(hb:∀p∈b,p.1∈xs/\p.2∈xs):∀(k:Nat) (y:Int),xs[k]?=some y ->
  Canon (hY w a b xs k)/\∀x,cover (hY w a b xs k) x↔x<y/\gR w (aL a x) (aL b x)=true
 | 0,y,hy=>by
  refine⟨trivial,fun x=>⟨fun h=>absurd h (eQ x),fun ⟨h1,h2⟩=>?_⟩⟩;have no:∀s:aU,(∀p∈s,p.1∈xs/\p.2∈xs)->aL s x=false:=fun s hs=>by
   rw[aaV];intro h;obtain⟨p,hp,h3,_⟩:=jw.1 h;have:=uD hr hy (hs p hp).1;omega
  rw[no a ha,no b hb,mJ]at h2;cases h2
 | k+1,y,hy=>by
  obtain⟨y',hy'⟩:∃y',xs[k]?=some y':=by
   have:=(aao.1 hy).1;exact⟨_,acg (by omega)⟩
  obtain⟨i1,i2⟩:=wW w hr ha hb k y' hy';have eF:=wV hr hy' hy;rw[hY,getD_some hy',getD_some hy];have go:∀x,y'<=x->x<y->(gR w (aL a y') (aL b y')=gR w (aL a x) (aL b x)):=fun x h1 h2=>by
   rw[wT hr ha hy' hy h1 h2,wT hr hb hy' hy h1 h2]
  by_cases c:gR w (aL a y') (aL b y')=true
  ·rw[aap c];obtain⟨j1,j2,_⟩:=tN (hY w a b xs k) y' y i1 eF;refine⟨j1,fun x=>?_⟩;rw[j2,i2];constructor
   ·rintro (⟨h1,h2⟩ | ⟨h1,h2⟩)
    ·exact⟨by omega,h2⟩
    exact⟨h2,(go x h1 h2)▸c⟩
   rintro⟨h1,h2⟩;by_cases h3:x<y'
   ·exact .inl ⟨h3,h2⟩
   exact .inr ⟨by omega,h1⟩
  rw[aaa c];refine⟨i1,fun x=>?_⟩;rw[i2];constructor
  ·rintro⟨h1,h2⟩;exact⟨by omega,h2⟩
  rintro⟨h1,h2⟩;refine⟨?_,h2⟩;by_cases h3:x<y'
  ·exact h3
  exact absurd ((go x (by omega) h1).trans h2) c
theorem Fx(w:Int){a b:aU}(ha:Canon a)(hb:Canon b):Canon (mixed w a b)/\∀x,par (bw (mixed w a b)) x=gR w (par (bw a) x) (par (bw b) x):=by
 obtain⟨hr,hm⟩:=Dp a b;have ma:∀p∈a,p.1∈fI a b/\p.2∈fI a b:=fun p hp=>⟨(hm _).2 (.inl ⟨p,hp,.inl rfl⟩),(hm _).2 (.inl ⟨p,hp,.inr rfl⟩)⟩;have mb:∀p∈b,p.1∈fI a b/\p.2∈fI a b:=fun p hp=>⟨(hm _).2 (.inr ⟨p,hp,.inl rfl⟩),(hm _).2 (.inr ⟨p,hp,.inr rfl⟩)⟩;have key:Canon (mixed w a b)/\∀x,cover (mixed w a b) x↔gR w (aL a x) (aL b x)=true:=by
  rcases ace (fI a b).length with h0 | h0
  ·have e:fI a b=[]:=adN.1 h0;have ea:a=[]:=abH.2 fun p hp=>by have:=(ma p hp).1;rw[e]at this;cases this
   have eb:b=[]:=abH.2 fun p hp=>by have:=(mb p hp).1;rw[e]at this;cases this
   subst ea;subst eb;refine⟨trivial,fun x=>⟨fun h=>absurd h (eQ x),fun h=>?_⟩⟩;have h:gR w false false=true:=h;rw[mJ]at h;cases h
  obtain⟨y,hy⟩:∃y,(fI a b)[(fI a b).length-1]?=some y:=⟨_,acg (by omega)⟩;obtain⟨h1,h2⟩:=wW w hr ma mb _ y hy;refine⟨h1,fun x=>(h2 x).trans ⟨fun h=>h.2,fun h=>⟨?_,h⟩⟩⟩;by_cases hx:x<y
  ·exact hx
  have no:∀s:aU,(∀p∈s,p.1∈fI a b/\p.2∈fI a b)->aL s x=false:=fun s hs=>by
   rw[aaV];intro h;obtain⟨p,hp,_,h4⟩:=jw.1 h;have:=wU hr hy (hs p hp).2;omega
  rw[no a ma,no b mb,mJ]at h;cases h
 refine⟨key.1,fun x=>?_⟩;rw[abb,cu key.1,key.2,zK ha,zK hb]
def gS(w:Int)(a b:List ae)(ys:List Int):Nat->List an
 | 0=>[]
 | k+1=>cA (gS w a b ys k) ⟨ys.getD k 0,ys.getD (k+1) 0,mixed w (rowOf a (ys.getD k 0)) (rowOf b (ys.getD k 0))⟩
def BU(w:Int)(a b:List ae):List an:=gS w a b (aE (a++b)) ((aE (a++b)).length-1)
def aeB(w:Int)(a b:List ae):List ae:=told (BU w a b)
theorem Fy{l all:List ae}(hl:∀r∈l,r∈all){k:Nat}{u v:Int}(hu:(aE all)[k]?=some u)(hv:(aE all)[k+1]?=some v){x z:Int}(h1:u<=z)(h2:z<v):l.any (dE x u)=l.any (dE x z):=by
 obtain⟨hr,hm⟩:=cT all;rw[abb,aci,aci];have go:∀r∈l,(dE x u r=true↔dE x z r=true):=fun r m_=>by
  have g1:=Q0 hr hu hv ((hm r.y0).2 ⟨r,hl r m_,.inl rfl⟩);have g2:=Q0 hr hu hv ((hm r.y1).2 ⟨r,hl r m_,.inr rfl⟩);rw[aQ,aQ];omega
 constructor
 ·rintro⟨r,m_,h⟩;exact⟨r,m_,(go r m_).1 h⟩
 rintro⟨r,m_,h⟩;exact⟨r,m_,(go r m_).2 h⟩
theorem uE(w:Int){a b:List ae}(ha:∀r∈a,Full r)(hb:∀r∈b,Full r):∀(k:Nat) (y:Int),(aE (a++b))[k]?=some y ->
  bE (gS w a b (aE (a++b)) k)/\(∀t∈gS w a b (aE (a++b)) k,t.y1<=y)/\∀x z,at' (gS w a b (aE (a++b)) k) x z=(decide (z<y)&&gR w (a.any (dE x z)) (b.any (dE x z)))
 | 0,y,hy=>by
  obtain⟨hr,hm⟩:=cT (a++b);refine⟨trivial,fun t ht=>(by cases ht),fun x z=>?_⟩;show false=_;symm;rw[aaC];by_cases hz:z<y
  ·right;have no:∀l:List ae,(∀r∈l,r∈a++b)->l.any (dE x z)=false:=fun l hl=>by
    rw[aaV];intro hp;obtain⟨r,m_,h⟩:=aci.1 hp;obtain⟨_,_,h3,_⟩:=aQ.1 h;have:=uD hr hy ((hm r.y0).2 ⟨r,hl r m_,.inl rfl⟩);omega
   rw[no a fun r h=>abY _ h,no b fun r h=>adt _ h,mJ]
  left;exact aaz hz
 | k+1,y,hy=>by
  obtain⟨hr,hm⟩:=cT (a++b);obtain⟨y',hy'⟩:∃y',(aE (a++b))[k]?=some y':=by
   have:=(aao.1 hy).1;exact⟨_,acg (by omega)⟩
  obtain⟨i1,i2,i3⟩:=uE w ha hb k y' hy';have eF:=wV hr hy' hy;rw[gS,getD_some hy',getD_some hy];obtain⟨m1,m2⟩:=Fx w (iS a y' (fun r hr=>(ha r hr).1)).1 (iS b y' (fun r hr=>(hb r hr).1)).1;obtain⟨p1,p2,p3,p4⟩:=jT (b:=⟨y',y,mixed w (rowOf a y') (rowOf b y')⟩) i1 eF m1 i2;refine⟨p1,p2,fun x z=>?_⟩;rw[p3,i3,at_one];show (decide (z<y')&&gR w (a.any (dE x z)) (b.any (dE x z))||decide (y'<=z)&&decide (z<y)&&par (bw (mixed w (rowOf a y') (rowOf b y'))) x)=_;rw[m2,Db ha,Db hb];by_cases c1:z<y'
  ·rw[acd c1,aaz (by omega:¬y'<=z),acd (by omega:z<y)];simp
  by_cases c2:z<y
  ·rw[aaz c1,acd (by omega:y'<=z),acd c2];simp only[abp,abv,adr];rw[Fy (fun r h=>abY _ h) hy' hy (by omega) c2,Fy (fun r h=>adt _ h) hy' hy (by omega) c2]
  rw[aaz c1,aaz c2];simp
theorem HK(w:Int){a b:List ae}(ha:∀r∈a,Full r)(hb:∀r∈b,Full r):bE (BU w a b)/\∀x z,at' (BU w a b) x z=gR w (a.any (dE x z)) (b.any (dE x z)):=by
 obtain⟨hr,hm⟩:=cT (a++b);rcases ace (aE (a++b)).length with h0 | h0
 ·have e:aE (a++b)=[]:=adN.1 h0;have no:a++b=[]:=abH.2 fun r m_=>by
   have:=(hm r.y0).2 ⟨r,m_,.inl rfl⟩;rw[e]at this;cases this
  obtain⟨e1,e2⟩:=List.append_eq_nil_iff.1 no;subst e1;subst e2;exact⟨trivial,fun x z=>(mJ w).symm⟩
 obtain⟨y,hy⟩:∃y,(aE (a++b))[(aE (a++b)).length-1]?=some y:=⟨_,acg (by omega)⟩;obtain⟨h1,h2,h3⟩:=uE w ha hb _ y hy;refine⟨h1,fun x z=>?_⟩;show at' (gS w a b (aE (a++b)) ((aE (a++b)).length-1)) x z=_;rw[h3];by_cases hz:z<y
 ·rw[acd hz,adr]
 rw[aaz hz,abp];have no:∀l:List ae,(∀r∈l,r∈a++b)->l.any (dE x z)=false:=fun l hl=>by
  rw[aaV];intro hp;obtain⟨r,m_,h⟩:=aci.1 hp;obtain⟨_,_,_,h5⟩:=aQ.1 h;have:=wU hr hy ((hm r.y1).2 ⟨r,hl r m_,.inr rfl⟩);omega
 rw[no a fun r h=>abY _ h,no b fun r h=>adt _ h,mJ]
theorem zL{w:Int}{k:Bool->Bool->Bool}(hk:∀p q,gR w p q=k p q){a b:List ae}(ha:∀r∈a,Full r)(hb:∀r∈b,Full r):BU w a b=ik k (aB a) (aB b):=by
 obtain⟨h1,h2⟩:=HK w ha hb;obtain⟨a1,a2,_⟩:=aR ha;obtain⟨b1,b2,_⟩:=aR hb;obtain⟨m1,m2,_⟩:=lO (k:=k) ((hk false false).symm.trans (mJ w)) a1 b1;exact iK _ _ h1 m1 fun x y=>by rw[h2,m2,hk,a2,b2]
theorem KU{a b:List ae}(ha:∀r∈a,Full r)(hb:∀r∈b,Full r):BU 3 a b=bN (aB a) (aB b):=zL (fun p q=>by cases p<;>cases q<;>rfl) ha hb
end Reg
namespace M
open Go.AM Go.RowKit
open Reg (ae aU)
theorem zM{xs:List Int}{s:aU}{i:Nat}{p:Int×Int}(h:s[i]?=some p):Reg.fH xs (s.take (i+1))=Reg.put (Reg.put (Reg.fH xs (s.take i)) p.1) p.2:=by
 rw[adF,h,Reg.fH,Reg.fH,aaD];rfl
theorem fc:∀(s:aU) (xs:List Int),(Reg.fH xs s).length<=xs.length+2*s.length
 | [],xs=>by simp[Reg.fH]
 | p::s,xs=>by
  have h1:=fc s (Reg.put (Reg.put xs p.1) p.2);have h2:=iH p.1 xs;have h3:=iH p.2 (Reg.put xs p.1);simp only[aaB];have e:Reg.fH xs (p::s)=Reg.fH (Reg.put (Reg.put xs p.1) p.2) s:=rfl;rw[e];omega
theorem pD(w:Int)(a b:aU)(xs:List Int):∀k,(Reg.hY w a b xs k).length<=k
 | 0=>aam _
 | k+1=>by
  have ih:=pD w a b xs k;rw[Reg.hY];split
  ·have:=rU (Reg.hY w a b xs k) (xs.getD k 0) (xs.getD (k+1) 0);omega
  omega
theorem KV(a b:aU)(w:Int)(qb:a.length+b.length<=4398046511104):af C 203 [.pv (fD a),.pv (fD b),.pv (i64 w)] (.p (fD (Reg.mixed w a b))) []:=by
 refine fW hC Tryz.func203 rfl (by kernel_rfl) fun _=>?_;have la:=ai a sp;have lb:=ai b sp;refine aJ (fun i:Nat=>i<=a.length) (fun i=>[(0,.p (fD a)),(1,.p (fD b)),(2,.p (i64 w)),(7,.p (ints (Reg.fH [] (a.take i)))),(8,.p (i64 i))]) (fun _=>[]) (fun i=>a.length-i) 0 _ (au.nil hC _ 7 rfl) (aaj _) ⟨Z,Z,Z,Z,Z,Y⟩ trivial fun i hi t h=>?_;refine iW ?_ ?_<;>intro h1
 ·rw[la]at h1;obtain⟨p,hp⟩:=ak (l:=a) (i:=i) (by omega);have hL:=fc (a.take i) [];have OV:=aaA i a;have hR:=(Reg.jX (a.take i) [] List.Pairwise.nil).1;refine⟨(sp p),(idx rfl hp),?_⟩;have V7:=iH p.1 (Reg.fH [] (a.take i));refine⟨_,_,(ru _ p.1 hR (by simp only[acs]at hL;omega)),?_⟩;refine⟨(sp p),(idx rfl hp),?_⟩;refine⟨_,_,(ru _ p.2 (Reg.iG _ _ hR) (by simp only[acs]at hL;omega)),?_⟩;refine⟨⟨by omega,by omega⟩,?_⟩;refine⟨(i+1),_,au.refl _ _,?_⟩;refine⟨by omega,by omega,⟨rfl,rfl,rfl,?_,Z,Y⟩,trivial⟩;rw[zM hp];rfl
 rw[la]at h1;have ea:a.take i=a:=adW (by omega);refine aJ (fun j:Nat=>j<=b.length) (fun j=>[(0,.p (fD a)),(1,.p (fD b)),(2,.p (i64 w)),(7,.p (ints (Reg.fH (Reg.fH [] (a.take i)) (b.take j)))),(9,.p (i64 j))]) (fun _=>[]) (fun j=>b.length-j) 0 _ (au.refl _ _) (aaj _) ⟨Z,Z,Z,Z,Z,Y⟩ trivial fun j hj t h=>?_;refine iW ?_ ?_<;>intro h2
 ·rw[lb]at h2;obtain⟨p,hp⟩:=ak (l:=b) (i:=j) (by omega);have hL:=fc (b.take j) (Reg.fH [] (a.take i));have Yl:=fc (a.take i) [];have OV:=aaA j b;have hL4:=aaA i a;have hR:=(Reg.jX (b.take j) _ (Reg.jX (a.take i) [] List.Pairwise.nil).1).1;refine⟨(sp p),(idx rfl hp),?_⟩;have V7:=iH p.1 (Reg.fH (Reg.fH [] (a.take i)) (b.take j));simp only[acs]at Yl;refine⟨_,_,(ru _ p.1 hR (by omega)),?_⟩;refine⟨(sp p),(idx rfl hp),?_⟩;refine⟨_,_,(ru _ p.2 (Reg.iG _ _ hR) (by omega)),?_⟩;refine⟨⟨by omega,by omega⟩,?_⟩;refine⟨(j+1),_,au.refl _ _,?_⟩;refine⟨by omega,by omega,⟨rfl,rfl,rfl,?_,Z,Y⟩,trivial⟩;rw[zM hp];rfl
 rw[lb]at h2;have eb:b.take j=b:=adW (by omega);obtain⟨X,hX⟩:∃X,X=Reg.fH (Reg.fH [] (a.take i)) (b.take j):=⟨_,rfl⟩;have lX:=ai X fun n=>[i64 n];refine aJ (fun k:Nat=>k<=X.length-1) (fun k=>[(0,.p (fD a)),(1,.p (fD b)),(2,.p (i64 w)),(7,.p (ints X)),(10,.p (fD (Reg.hY w a b X k))),(11,.p (i64 ((k:Int)+1)))]) (fun _=>[]) (fun k=>X.length-k) 0 _ (au.nil hC _ 10 rfl) (aaj _) ⟨rfl,rfl,rfl,by rw[hX];rfl,Z,Z,Y⟩ trivial fun k hk t h=>?_;have Yl:=fc (a.take i) [];have hL1:=fc (b.take j) (Reg.fH [] (a.take i));have OV:=aaA j b;have hL4:=aaA i a;rw[<-hX]at hL1;simp only[acs]at Yl;have hM:=pD w a b X k;refine iW ?_ ?_<;>intro h3
 ·rw[lX]at h3;obtain⟨y,hy⟩:=ak (l:=X) (i:=k) (by omega);obtain⟨y',hy'⟩:=ak (l:=X) (i:=k+1) (by omega);have ek:(k:Int)+1-1=(k:Nat):=by omega
  have QT:(k:Int)+1=((k+1:Nat):Int):=by omega
  refine⟨⟨by omega,by omega⟩,?_⟩;refine⟨[i64 y],(idx ek hy),?_⟩;refine⟨_,_,(sI a y (by omega)),?_⟩;refine⟨⟨by omega,by omega⟩,?_⟩;refine⟨[i64 y],(idx ek hy),?_⟩;refine⟨_,_,(sI b y (by omega)),?_⟩;have ia:Reg.aL a y=aL a y:=rfl;have ib:Reg.aL b y=aL b y:=rfl;refine iW ?_ ?_<;>intro h4
  ·refine iW ?_ ?_<;>intro h5
   ·refine⟨⟨by omega,by omega⟩,?_⟩;refine⟨[i64 y],(idx ek hy),?_⟩;refine⟨[i64 y'],(idx QT hy'),?_⟩;refine⟨_,_,(ae_ _ y y' (by omega)),?_⟩;refine⟨⟨by omega,by omega⟩,?_⟩;refine⟨(k+1),_,au.refl _ _,?_⟩;refine⟨by omega,by omega,⟨rfl,rfl,rfl,rfl,?_,a8 (by omega),trivial⟩,trivial⟩;rw[Reg.hY,cO hy,cO hy',aap (show Reg.gR w (Reg.aL a y) (Reg.aL b y)=true by show Reg.gR w (aL a y) (aL b y)=true;rw[h4,h5];rfl)];rfl
   refine iW ?_ ?_<;>intro h6
   ·refine⟨⟨by omega,by omega⟩,?_⟩;refine⟨[i64 y],(idx ek hy),?_⟩;refine⟨[i64 y'],(idx QT hy'),?_⟩;refine⟨_,_,(ae_ _ y y' (by omega)),?_⟩;refine⟨⟨by omega,by omega⟩,?_⟩;refine⟨(k+1),_,au.refl _ _,?_⟩;refine⟨by omega,by omega,⟨rfl,rfl,rfl,rfl,?_,a8 (by omega),trivial⟩,trivial⟩;rw[Reg.hY,cO hy,cO hy',aap (show Reg.gR w (Reg.aL a y) (Reg.aL b y)=true by show Reg.gR w (aL a y) (aL b y)=true;rw[h4,h5,h6];rfl)];rfl
   refine iW ?_ ?_<;>intro h7
   ·exfalso;omega
   refine iW ?_ ?_<;>intro h8
   ·exfalso;omega
   refine⟨⟨by omega,by omega⟩,?_⟩;refine⟨(k+1),_,au.refl _ _,?_⟩;refine⟨by omega,by omega,⟨rfl,rfl,rfl,rfl,?_,a8 (by omega),trivial⟩,trivial⟩;rw[Reg.hY,cO hy,cO hy',aaa (show ¬Reg.gR w (Reg.aL a y) (Reg.aL b y)=true by show ¬Reg.gR w (aL a y) (aL b y)=true;rw[h4,h5,h6];decide)];rfl
  refine iW ?_ ?_<;>intro h5
  ·refine iW ?_ ?_<;>intro h6
   ·refine iW ?_ ?_<;>intro h7
    ·refine⟨⟨by omega,by omega⟩,?_⟩;refine⟨[i64 y],(idx ek hy),?_⟩;refine⟨[i64 y'],(idx QT hy'),?_⟩;refine⟨_,_,(ae_ _ y y' (by omega)),?_⟩;refine⟨⟨by omega,by omega⟩,?_⟩;refine⟨(k+1),_,au.refl _ _,?_⟩;refine⟨by omega,by omega,⟨rfl,rfl,rfl,rfl,?_,a8 (by omega),trivial⟩,trivial⟩;rw[Reg.hY,cO hy,cO hy',aap (show Reg.gR w (Reg.aL a y) (Reg.aL b y)=true by show Reg.gR w (aL a y) (aL b y)=true;rw[h5,h6,h7];rfl)];rfl
    refine iW ?_ ?_<;>intro h8
    ·exfalso;omega
    refine⟨⟨by omega,by omega⟩,?_⟩;refine⟨(k+1),_,au.refl _ _,?_⟩;refine⟨by omega,by omega,⟨rfl,rfl,rfl,rfl,?_,a8 (by omega),trivial⟩,trivial⟩;rw[Reg.hY,cO hy,cO hy',aaa (show ¬Reg.gR w (Reg.aL a y) (Reg.aL b y)=true by show ¬Reg.gR w (aL a y) (aL b y)=true;rw[h5,h6,h7];decide)];rfl
   refine iW ?_ ?_<;>intro h8
   ·exfalso;omega
   refine⟨⟨by omega,by omega⟩,?_⟩;refine⟨(k+1),_,au.refl _ _,?_⟩;refine⟨by omega,by omega,⟨rfl,rfl,rfl,rfl,?_,a8 (by omega),trivial⟩,trivial⟩;rw[Reg.hY,cO hy,cO hy',aaa (show ¬Reg.gR w (Reg.aL a y) (Reg.aL b y)=true by show ¬Reg.gR w (aL a y) (aL b y)=true;rw[h5,h6];cases aL b y<;>decide)];rfl
  refine iW ?_ ?_<;>intro h6
  ·refine iW ?_ ?_<;>intro h7
   ·refine iW ?_ ?_<;>intro h8
    ·refine⟨⟨by omega,by omega⟩,?_⟩;refine⟨[i64 y],(idx ek hy),?_⟩;refine⟨[i64 y'],(idx QT hy'),?_⟩;refine⟨_,_,(ae_ _ y y' (by omega)),?_⟩;refine⟨⟨by omega,by omega⟩,?_⟩;refine⟨(k+1),_,au.refl _ _,?_⟩;refine⟨by omega,by omega,⟨rfl,rfl,rfl,rfl,?_,a8 (by omega),trivial⟩,trivial⟩;rw[Reg.hY,cO hy,cO hy',aap (show Reg.gR w (Reg.aL a y) (Reg.aL b y)=true by show Reg.gR w (aL a y) (aL b y)=true;rw[h6,h7,h8];rfl)];rfl
    refine⟨⟨by omega,by omega⟩,?_⟩;refine⟨(k+1),_,au.refl _ _,?_⟩;refine⟨by omega,by omega,⟨rfl,rfl,rfl,rfl,?_,a8 (by omega),trivial⟩,trivial⟩;rw[Reg.hY,cO hy,cO hy',aaa (show ¬Reg.gR w (Reg.aL a y) (Reg.aL b y)=true by show ¬Reg.gR w (aL a y) (aL b y)=true;rw[h6,h7,h8];decide)];rfl
   refine⟨⟨by omega,by omega⟩,?_⟩;refine⟨(k+1),_,au.refl _ _,?_⟩;refine⟨by omega,by omega,⟨rfl,rfl,rfl,rfl,?_,a8 (by omega),trivial⟩,trivial⟩;rw[Reg.hY,cO hy,cO hy',aaa (show ¬Reg.gR w (Reg.aL a y) (Reg.aL b y)=true by show ¬Reg.gR w (aL a y) (aL b y)=true;rw[h6,h7];cases aL b y<;>decide)];rfl
  refine⟨⟨by omega,by omega⟩,?_⟩;refine⟨(k+1),_,au.refl _ _,?_⟩;refine⟨by omega,by omega,⟨rfl,rfl,rfl,rfl,?_,a8 (by omega),trivial⟩,trivial⟩;rw[Reg.hY,cO hy,cO hy',aaa (show ¬Reg.gR w (Reg.aL a y) (Reg.aL b y)=true by show ¬Reg.gR w (aL a y) (aL b y)=true;simp[Reg.gR,h4,h5,h6])];rfl
 rw[lX]at h3;refine⟨?_,trivial⟩;have ek:k=X.length-1:=by omega
 rw[ek,hX,ea,eb];rfl
theorem Dq(w:Int)(s t:aU):(Reg.mixed w s t).length<=2*(s.length+t.length):=by
 have h1:=pD w s t (Reg.fI s t) ((Reg.fI s t).length-1);have h2:=fc t (Reg.fH [] s);have h3:=fc s [];simp only[acs]at h3;have e:(Reg.fI s t).length=(Reg.fH (Reg.fH [] s) t).length:=rfl;show (Reg.hY w s t (Reg.fI s t) ((Reg.fI s t).length-1)).length<=_;omega
theorem AU(w:Int)(a b:List ae)(ys:List Int):∀k,(Reg.gS w a b ys k).length<=k:=by
 intro k
 induction k with
 | zero=>simp[Reg.gS]
 | succ k ih=>rw[Reg.gS];have:=tR (Reg.gS w a b ys k) ⟨ys.getD k 0,ys.getD (k+1) 0,Reg.mixed w (Reg.rowOf a (ys.getD k 0)) (Reg.rowOf b (ys.getD k 0))⟩;omega
theorem KW(w:Int)(a b:List ae)(ys:List Int):∀k,∀t∈Reg.gS w a b ys k,t.xs.length<=2*(a.length+b.length):=by
 intro k
 induction k with
 | zero=>simp[Reg.gS]
 | succ k ih=>
  rw[Reg.gS];refine yO _ _ _ ih ?_;have h1:=Dq w (Reg.rowOf a (ys.getD k 0)) (Reg.rowOf b (ys.getD k 0));have h2:=fQ a (ys.getD k 0);have h3:=fQ b (ys.getD k 0);show (Reg.mixed _ _ _).length<=_;omega
theorem uF(a b:List ae)(w:Int)(qb:a.length+b.length<=4398046511104)(hy:(Reg.aE (a++b)).length<=3000000000000)(hr:(Reg.aeB w a b).length<=4398046511104):af C 136 [.pv (aj a),.pv (aj b),.pv (i64 w)] (.p (aj (Reg.aeB w a b))) []:=by
 refine uX ⟨[],[],[],[9],[],[]⟩ hC Tryz.func136 rfl (by kernel_rfl) fun _=>?_;have la:=ai a rc;have lb:=ai b rc;refine⟨⟨C4 a,by rw[la];simp;omega,by rw[la];omega⟩,?_⟩;refine⟨⟨C4 b,by rw[lb];simp;omega,by rw[lb];omega⟩,?_⟩;have hh:=wB (a++b) (by rw[acv];omega);rw[aj,abE]at hh;refine⟨_,_,hh,?_⟩;obtain⟨ys,Ij⟩:∃ys,ys=Reg.aE (a++b):=⟨_,rfl⟩;have hL:=dm (a++b);rw[<-Ij,acv]at hL;rw[<-Ij]at hy;have lm:=ai ys fun n=>[i64 n];refine aJ (fun k:Nat=>k<=ys.length-1) (fun k=>[(0,.p (aj a)),(1,.p (aj b)),(2,.p (i64 w)),(8,.p (ints ys)),(9,.ow 9),(10,.p (i64 ((k:Int)+1)))]) (fun k=>[(9,.row 196 ((Reg.gS w a b ys k).map bd))]) (fun k=>ys.length-k) 0 _ (au.dk hC _ 9 196 _ (by decide) rfl rfl (by decide)) (aaj _) ⟨rfl,rfl,rfl,by rw[Ij];rfl,Z,Z,Y⟩ ⟨Z,Y⟩ fun k hk t h=>?_;have bl:=AU w a b ys k;have bx:=KW w a b ys k;refine iW ?_ ?_<;>intro h1
 ·rw[lm]at h1;obtain⟨y,hy⟩:=ak (l:=ys) (i:=k) (by omega);obtain⟨y',hy'⟩:=ak (l:=ys) (i:=k+1) (by omega);have ek:(k:Int)+1-1=(k:Nat):=by omega
  have QT:(k:Int)+1=((k+1:Nat):Int):=by omega
  have ra:=fQ a y;have rb:=fQ b y;refine⟨⟨by omega,by omega⟩,?_⟩;refine⟨[i64 y],(idx ek hy),?_⟩;refine⟨[i64 y'],(idx QT hy'),?_⟩;refine⟨⟨by omega,by omega⟩,?_⟩;refine⟨[i64 y],(idx ek hy),?_⟩;refine⟨_,_,(xK a y (by omega)),?_⟩;refine⟨⟨by omega,by omega⟩,?_⟩;refine⟨[i64 y],(idx ek hy),?_⟩;refine⟨_,_,(xK b y (by omega)),?_⟩;refine⟨_,_,(KV _ _ w (by omega)),?_⟩;refine⟨_,_,(wC _ ⟨y,y',Reg.mixed w (Reg.rowOf a y) (Reg.rowOf b y)⟩ (by omega) (fun t ht=>by have:=bx t ht;omega)),?_⟩;refine⟨⟨by omega,by omega⟩,?_⟩;refine⟨(k+1),_,au.refl _ _,?_⟩;refine⟨by omega,by omega,⟨rfl,rfl,rfl,rfl,rfl,a8 (by omega),trivial⟩,⟨?_,trivial⟩⟩;rw[Reg.gS,cO hy,cO hy'];rfl
 rw[lm]at h1;have e:k=ys.length-1:=by omega
 have ht:Reg.told (Reg.gS w a b ys k)=Reg.aeB w a b:=by rw[e,Ij];rfl
 refine⟨_,_,(Es _ (by omega) (fun t ht=>by have:=bx t ht;omega) (by rw[ht];exact hr)),?_⟩;refine⟨?_,trivial⟩;rw[ht]
end M
end Go.Proofs.YtfloceomobknoaaGreatDoor
