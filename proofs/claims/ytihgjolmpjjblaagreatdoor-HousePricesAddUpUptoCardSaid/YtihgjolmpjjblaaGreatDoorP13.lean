/- Part 13 of the proof of HousePricesAddUp. -/
import Derived.Test.YtihgjolmpjjblaaGreatDoorP12
import Derived.StillTailTactics
set_option linter.unusedVariables false
set_option linter.unusedSimpArgs false
set_option maxRecDepth 100000
set_option maxHeartbeats 8000000
namespace Go
abbrev xX:=@Go.World.cell?_alloc_at
end Go
namespace Go.Proofs.YtihgjolmpjjblaaGreatDoor
namespace M
open Go.AM Go.RowKit Go.Lib
open Reg (aB aR dq oW yr Piece dW UK vR dF gy told cH ew bM VQ lg tp jj jJ Ng ez pN aX P4)
def SC(a:yr):List PV:=uR a++[.sl ((aX a).drilled.map fun s=>[a_ s]),.sl ((aX a).pieces.map mJ),.sl ((aX a).fP.map fun l=>[ints l]),.sl ((aX a).placed.groups.map DZ),ints (aX a).ofPiece,ints (aX a).ofBore,ints (aX a).placed.ofLand,.sl ((aX a).placed.atLand.map jx)]
def gw(a:yr):Int:=if a.coppers.length=0 then 9 else if 16<a.coppers.length then 2 else
 if jJ a.coppers≠0 then jJ a.coppers else
 if Reg.bA a.outline≠0 then Reg.bA a.outline else
 if 2000<Ng a.outline.length a.coppers then 2 else
 if ez a≠0 then ez a else
 if fQ a≠0 then fQ a else
 if jj a.bores 0=true then 12 else
 if pN a=true then 0 else 2
def SD(a:yr):PV:=if gw a=0 then .ip (SC a) else .im (.pointer none)
theorem Jx(a:yr)(ho:M6 a):ai C 36 [.pv (.ag (uR a))] (.tu [SD a,i64 (gw a)]) []:=by
 have lk:=an a.coppers rr;have lk':(a.coppers.map fun r=>[aE r]).length=a.coppers.length:=lk;have lo:=an a.outline rc;have lb:=an a.bores bc;obtain⟨F,z⟩:∃F,F=gw a:=⟨_,rfl⟩;have hV:SD a=if F=0 then .ip (SC a) else .im (.pointer none):=by rw[z];rfl
 rw[hV,<-z];rw[gw]at z;refine FP ⟨[36,40],[],[],[],[],[]⟩ hC Tryz.func36 rfl (by kernel_rfl) fun _=>?_;apply iW<;>intro g1
 ·rw[ae (by omega)]at z;refine⟨?_,trivial⟩;rw[z];rfl
 rw[aa (by omega)]at z;apply iW<;>intro g2
 ·rw[ae (by omega)]at z;refine⟨?_,trivial⟩;rw[z];rfl
 rw[aa (by omega)]at z;obtain⟨M,hM⟩:∃M,M=Ng a.outline.length a.coppers:=⟨_,rfl⟩;rw[<-hM]at z;have af8:=ho.out;refine aP (fun x:Nat×Int=>Ng x.2 (a.coppers.drop x.1)=M/\jJ (a.coppers.drop x.1)=jJ a.coppers/\0<=x.2/\x.2<=1048576+1048576*x.1) (fun x=>[(1,.bx 1 0),(4,.p (i64 x.2)),(28,.p (.sl (a.coppers.map rr))),(29,.p (i64 a.coppers.length)),(30,.p (i64 x.1))]) (fun _=>[(1,.box [.p (.sl (a.coppers.map rr)),.p (aE a.outline),.p (.sl (a.bores.map bc)),.p (.sl (a.lands.map lc))])]) (fun x=>a.coppers.length-x.1) (0,a.outline.length) _ (aA.refl _ _) ⟨hM.symm,rfl,by simp only;omega,by simp only;omega⟩ ⟨rfl,af (fun m:Nat=>AV.p (i64 m)) lo,rfl,af (fun m:Nat=>AV.p (i64 m)) lk,Z,Y⟩ ⟨Z,Y⟩ fun ⟨i,n⟩ O t h=>?_;obtain⟨V,I,q3,q4⟩:=O;simp only at V I q3 q4;apply iW<;>intro g3<;>try simp only[zB]at g3
 ·obtain⟨r,hr⟩:=ao (l:=a.coppers) (i:=i) (by omega);have Ah:=ho.rcs r (aj hr);have lr:=an r rc;rw[drop_at hr]at V I;rw[jJ]at I;refine⟨(rr r),(idx rfl hr),_,_,(kP r),iW ?_ ?_⟩<;>intro D
  ·have D:Reg.bA r≠0:=by simpa using D
   rw[ae D]at I;rw[<-I,ae D]at z;refine⟨?_,trivial⟩;rw[z,aa D]
  have D:Reg.bA r=0:=by simpa using D
  rw[aa (by simpa using D)]at I;exact⟨wO (by omega),wO (by omega),(i+1,n+r.length),_,aA.refl _ _,⟨V,I,by simp only;omega,by simp only;omega⟩,by simp only;omega,⟨rfl,af (fun m:Nat=>AV.p (i64 (n+m))) lr,Z,Z,Z,Y⟩,⟨Z,Y⟩⟩
 rw[aT (by omega)]at V I;have V:n=M:=V;have I:jJ a.coppers=0:=I.symm;rw[aa (by simpa using I)]at z;refine⟨_,_,(kP a.outline),iW ?_ ?_⟩<;>intro D
 ·have D:Reg.bA a.outline≠0:=by simpa using D
  rw[ae D]at z;refine⟨?_,trivial⟩;rw[z,aa D]
 have D:Reg.bA a.outline=0:=by simpa using D
 rw[aa (by simpa using D)]at z;apply iW<;>intro g5<;>try simp only[zB]at g5
 ·rw[ae (by omega)]at z;refine⟨?_,trivial⟩;rw[z];rfl
 rw[aa (by omega)]at z;refine⟨_,_,(xP a (by omega)),iW ?_ ?_⟩<;>intro J
 ·have J:ez a≠0:=by simpa using J
  rw[ae J]at z;refine⟨?_,trivial⟩;rw[z,aa J]
 have J:ez a=0:=by simpa using J
 rw[aa (by simpa using J)]at z;refine⟨_,_,(xQ a ho),iW ?_ ?_⟩<;>intro N
 ·have N:fQ a≠0:=by simpa using N
  rw[ae N]at z;refine⟨?_,trivial⟩;rw[z,aa N]
 have N:fQ a=0:=by simpa using N
 rw[aa (by simpa using N)]at z;have Jo:a.bores.length<=500:=by
  unfold Reg.ez at J;split at J
  ·cases J
  omega
 have hbf:Reg.gr a.coppers.length a.bores=0:=by rwa [Reg.ez,aa (by omega)]at J
 have Zy:=Reg.Ln hbf;have hsq:∀b∈a.bores,ew b=true/\P4 1000000000 (bM b):=fun b hb=>by
  have U:=xZ (Zy b hb);obtain⟨a1,a2,a3,a4⟩:=Reg.VT (Reg.mC U) (Reg.uC U);exact⟨U,⟨by omega,by omega⟩,⟨by omega,by omega⟩,⟨by omega,by omega⟩,⟨by omega,by omega⟩⟩
 refine aP (fun i:Nat=>jj a.bores i=jj a.bores 0) (fun i=>[(1,.bx 1 0),(63,.p (.sl (a.bores.map bc))),(64,.p (i64 a.bores.length)),(65,.p (i64 i))]) (fun _=>[(1,.box [.p (.sl (a.coppers.map rr)),.p (aE a.outline),.p (.sl (a.bores.map bc)),.p (.sl (a.lands.map lc))])]) (fun i=>a.bores.length-i) 0 _ (aA.refl _ _) rfl ⟨rfl,rfl,af (fun m:Nat=>AV.p (i64 m)) lb,Z,Y⟩ ⟨Z,Y⟩ fun i hi t h=>?_;apply iW<;>intro g8
 ·obtain⟨x,O⟩:=ao (l:=a.bores) (i:=i) (by omega);obtain⟨x1,x2⟩:=hsq x (aj O);rw[Reg.Lz (by omega)]at hi;have aw:tp a.bores i=(a.bores.take i).any (lg x):=by rw[tp,F1,O];rfl
  rw[aw]at hi;refine⟨(bc x),(idx rfl O),⟨by decide,by omega,by omega,fun r hr=>by obtain⟨b,_,rfl⟩:=aZ.1 hr;rfl⟩,?_⟩;have ltk:((a.bores.take i).map bc).length=i:=by rw[au,cE];omega
  have af9:(a.bores.take i).length=i:=by rw[cE];omega
  refine aP (fun j:Nat=>((a.bores.take i).drop j).any (lg x)=(a.bores.take i).any (lg x)) (fun j=>[(1,.bx 1 0),(63,.p (.sl (a.bores.map bc))),(64,.p (i64 a.bores.length)),(65,.p (i64 i)),(12,.bx 12 0),(73,.p (.sl ((a.bores.take i).map bc))),(74,.p (i64 i)),(75,.p (i64 j))]) (fun _=>[(1,.box [.p (.sl (a.coppers.map rr)),.p (aE a.outline),.p (.sl (a.bores.map bc)),.p (.sl (a.lands.map lc))]),(12,.box [.p (i64 x.x),.p (i64 x.y),.p (i64 x.size),.p (i64 x.lo),.p (i64 x.hi),.p (bool x.plated)])]) (fun j=>i-j) 0 _ (aA.refl _ _) rfl ⟨rfl,rfl,rfl,rfl,rfl,af (fun l=>AV.p (PV.sl l)) (by simp[Mu]),af (fun m:Nat=>AV.p (i64 m)) (by simp;omega),Z,Y⟩ ⟨Z,Z,Y⟩ fun j R t h=>?_;apply iW<;>intro W
  ·obtain⟨y,hy⟩:=ao (l:=a.bores.take i) (i:=j) (by omega);obtain⟨y1,y2⟩:=hsq y (tz (aj hy));rw[drop_at hy,gK]at R;have yes:lg x y=true->F=12:=fun hc=>by
    rw[hc,Bool.true_or]at R;rw[<-R,Bool.true_or]at hi;rw[<-hi,ae rfl]at z;exact z
   have no:lg x y=false->((a.bores.take i).drop (j+1)).any (lg x)=(a.bores.take i).any (lg x):=fun hc=>by
    rw[hc,iq]at R;exact R
   refine⟨(bc y),(idx rfl hy),iW ?_ ?_⟩<;>intro U
   ·apply iW<;>intro h2
    ·refine⟨_,_,(fA x x1),_,_,(fA y y1),_,_,(OY (bM x) (bM y) x2 y2),iW ?_ ?_⟩<;>intro h3
     ·have hy:=yes (by simp only[lg,aJ,db];exact⟨⟨U,h2⟩,h3⟩);refine⟨?_,trivial⟩;rw[hy];rfl
     have hn:=no (by simp only[lg];rw[aY h3,dG]);exact⟨wO (by omega),(j+1),_,aA.refl _ _,hn,by omega,⟨Z,Z,Z,Z,Z,Z,Z,Z,Y⟩,⟨Z,Z,Y⟩⟩
    have hn:=no (by simp only[lg];rw[aY h2,dG,uh]);exact⟨wO (by omega),(j+1),_,aA.refl _ _,hn,by omega,⟨Z,Z,Z,Z,Z,Z,Z,Z,Y⟩,⟨Z,Z,Y⟩⟩
   have hn:=no (by simp only[lg];rw[aY U,uh,uh]);exact⟨wO (by omega),(j+1),_,aA.refl _ _,hn,by omega,⟨Z,Z,Z,Z,Z,Z,Z,Z,Y⟩,⟨Z,Z,Y⟩⟩
  rw[aT (by omega)]at R;have R:false=(a.bores.take i).any (lg x):=R;rw[<-R,iq]at hi;exact⟨wO (by omega),(i+1),_,aA.refl _ _,hi,by omega,⟨Z,Z,Z,Z,Y⟩,⟨Z,Y⟩⟩
 rw[Reg.Pd (by omega)]at hi;rw[<-hi,aa (by decide)]at z;refine qk ((aA.vh (by exact hC) _ 103 4 [.p (.sl (a.coppers.map rr)),.p (aE a.outline),.p (.sl (a.bores.map bc)),.p (.sl (a.lands.map lc)),.p (.im (.slice none 0 0)),.p (.im (.slice none 0 0)),.p (.im (.slice none 0 0)),.p (.im (.slice none 0 0)),.p (.im (.slice none 0 0)),.p (.im (.slice none 0 0)),.p (.im (.slice none 0 0)),.p (.im (.slice none 0 0))] (by exact rfl) (by exact rfl)).trans ((aA.gH (by exact hC) _ 103 4 90000 101 _ [.p (.sl (a.coppers.map rr)),.p (aE a.outline),.p (.sl (a.bores.map bc)),.p (.sl (a.lands.map lc)),.nl,.p (.im (.slice none 0 0)),.p (.im (.slice none 0 0)),.p (.im (.slice none 0 0)),.p (.im (.slice none 0 0)),.p (.im (.slice none 0 0)),.p (.im (.slice none 0 0)),.p (.im (.slice none 0 0))] (by decide) (by decide) (by exact rfl) (by exact rfl) (by exact rfl) (by decide)).trans ((aA.vh (by exact hC) _ 103 5 [.p (.sl (a.coppers.map rr)),.p (aE a.outline),.p (.sl (a.bores.map bc)),.p (.sl (a.lands.map lc)),.ow 90000,.p (.im (.slice none 0 0)),.p (.im (.slice none 0 0)),.p (.im (.slice none 0 0)),.p (.im (.slice none 0 0)),.p (.im (.slice none 0 0)),.p (.im (.slice none 0 0)),.p (.im (.slice none 0 0))] (by exact rfl) (by exact rfl)).trans ((aA.gH (by exact hC) _ 103 5 90001 254 _ [.p (.sl (a.coppers.map rr)),.p (aE a.outline),.p (.sl (a.bores.map bc)),.p (.sl (a.lands.map lc)),.ow 90000,.nl,.p (.im (.slice none 0 0)),.p (.im (.slice none 0 0)),.p (.im (.slice none 0 0)),.p (.im (.slice none 0 0)),.p (.im (.slice none 0 0)),.p (.im (.slice none 0 0))] (by decide) (by decide) (by exact rfl) (by exact rfl) (by exact rfl) (by decide)).trans ((aA.vh (by exact hC) _ 103 6 [.p (.sl (a.coppers.map rr)),.p (aE a.outline),.p (.sl (a.bores.map bc)),.p (.sl (a.lands.map lc)),.ow 90000,.ow 90001,.p (.im (.slice none 0 0)),.p (.im (.slice none 0 0)),.p (.im (.slice none 0 0)),.p (.im (.slice none 0 0)),.p (.im (.slice none 0 0)),.p (.im (.slice none 0 0))] (by exact rfl) (by exact rfl)).trans ((aA.gH (by exact hC) _ 103 6 90002 60 _ [.p (.sl (a.coppers.map rr)),.p (aE a.outline),.p (.sl (a.bores.map bc)),.p (.sl (a.lands.map lc)),.ow 90000,.ow 90001,.nl,.p (.im (.slice none 0 0)),.p (.im (.slice none 0 0)),.p (.im (.slice none 0 0)),.p (.im (.slice none 0 0)),.p (.im (.slice none 0 0))] (by decide) (by decide) (by exact rfl) (by exact rfl) (by exact rfl) (by decide)).trans ((aA.vh (by exact hC) _ 103 7 [.p (.sl (a.coppers.map rr)),.p (aE a.outline),.p (.sl (a.bores.map bc)),.p (.sl (a.lands.map lc)),.ow 90000,.ow 90001,.ow 90002,.p (.im (.slice none 0 0)),.p (.im (.slice none 0 0)),.p (.im (.slice none 0 0)),.p (.im (.slice none 0 0)),.p (.im (.slice none 0 0))] (by exact rfl) (by exact rfl)).trans ((aA.gH (by exact hC) _ 103 7 90003 263 _ [.p (.sl (a.coppers.map rr)),.p (aE a.outline),.p (.sl (a.bores.map bc)),.p (.sl (a.lands.map lc)),.ow 90000,.ow 90001,.ow 90002,.nl,.p (.im (.slice none 0 0)),.p (.im (.slice none 0 0)),.p (.im (.slice none 0 0)),.p (.im (.slice none 0 0))] (by decide) (by decide) (by exact rfl) (by exact rfl) (by exact rfl) (by decide)).trans ((aA.vh (by exact hC) _ 103 8 [.p (.sl (a.coppers.map rr)),.p (aE a.outline),.p (.sl (a.bores.map bc)),.p (.sl (a.lands.map lc)),.ow 90000,.ow 90001,.ow 90002,.ow 90003,.p (.im (.slice none 0 0)),.p (.im (.slice none 0 0)),.p (.im (.slice none 0 0)),.p (.im (.slice none 0 0))] (by exact rfl) (by exact rfl)).trans ((aA.gH (by exact hC) _ 103 8 90004 3 _ [.p (.sl (a.coppers.map rr)),.p (aE a.outline),.p (.sl (a.bores.map bc)),.p (.sl (a.lands.map lc)),.ow 90000,.ow 90001,.ow 90002,.ow 90003,.nl,.p (.im (.slice none 0 0)),.p (.im (.slice none 0 0)),.p (.im (.slice none 0 0))] (by decide) (by decide) (by exact rfl) (by exact rfl) (by exact rfl) (by decide)).trans ((aA.vh (by exact hC) _ 103 9 [.p (.sl (a.coppers.map rr)),.p (aE a.outline),.p (.sl (a.bores.map bc)),.p (.sl (a.lands.map lc)),.ow 90000,.ow 90001,.ow 90002,.ow 90003,.ow 90004,.p (.im (.slice none 0 0)),.p (.im (.slice none 0 0)),.p (.im (.slice none 0 0))] (by exact rfl) (by exact rfl)).trans ((aA.gH (by exact hC) _ 103 9 90005 3 _ [.p (.sl (a.coppers.map rr)),.p (aE a.outline),.p (.sl (a.bores.map bc)),.p (.sl (a.lands.map lc)),.ow 90000,.ow 90001,.ow 90002,.ow 90003,.ow 90004,.nl,.p (.im (.slice none 0 0)),.p (.im (.slice none 0 0))] (by decide) (by decide) (by exact rfl) (by exact rfl) (by exact rfl) (by decide)).trans ((aA.vh (by exact hC) _ 103 10 [.p (.sl (a.coppers.map rr)),.p (aE a.outline),.p (.sl (a.bores.map bc)),.p (.sl (a.lands.map lc)),.ow 90000,.ow 90001,.ow 90002,.ow 90003,.ow 90004,.ow 90005,.p (.im (.slice none 0 0)),.p (.im (.slice none 0 0))] (by exact rfl) (by exact rfl)).trans ((aA.gH (by exact hC) _ 103 10 90006 3 _ [.p (.sl (a.coppers.map rr)),.p (aE a.outline),.p (.sl (a.bores.map bc)),.p (.sl (a.lands.map lc)),.ow 90000,.ow 90001,.ow 90002,.ow 90003,.ow 90004,.ow 90005,.nl,.p (.im (.slice none 0 0))] (by decide) (by decide) (by exact rfl) (by exact rfl) (by exact rfl) (by decide)).trans ((aA.vh (by exact hC) _ 103 11 [.p (.sl (a.coppers.map rr)),.p (aE a.outline),.p (.sl (a.bores.map bc)),.p (.sl (a.lands.map lc)),.ow 90000,.ow 90001,.ow 90002,.ow 90003,.ow 90004,.ow 90005,.ow 90006,.p (.im (.slice none 0 0))] (by exact rfl) (by exact rfl)).trans ((aA.gH (by exact hC) _ 103 11 90007 265 _ [.p (.sl (a.coppers.map rr)),.p (aE a.outline),.p (.sl (a.bores.map bc)),.p (.sl (a.lands.map lc)),.ow 90000,.ow 90001,.ow 90002,.ow 90003,.ow 90004,.ow 90005,.ow 90006,.nl] (by decide) (by decide) (by exact rfl) (by exact rfl) (by exact rfl) (by decide)).trans (aA.pack (by exact hC) _ 103 (bs:=[.p (.sl (a.coppers.map rr)),.p (aE a.outline),.p (.sl (a.bores.map bc)),.p (.sl (a.lands.map lc)),.ow 90000,.ow 90001,.ow 90002,.ow 90003,.ow 90004,.ow 90005,.ow 90006,.ow 90007]) (cs:=[.p (.sl (a.coppers.map rr)),.p (aE a.outline),.p (.sl (a.bores.map bc)),.p (.sl (a.lands.map lc)),.row 101 [],.row 254 [],.row 60 [],.row 263 [],.row 3 [],.row 3 [],.row 3 [],.row 265 []]) (by exact rfl) (by exact rfl) (by exact⟨Z,Z,Z,Z,Z,Z,Z,Z,Z,Z,Z,Z,Y⟩)))))))))))))))))) ?_;have ha:xY a:=by
  refine⟨⟨by omega,by omega⟩,Reg.rX I,D,Jo,Zy,?_⟩;unfold fQ at N;split at N
  ·cases N
  omega
 refine⟨_,_,(G5 a ha),iW ?_ ?_⟩<;>intro W
 ·rw[aa (by simpa using W)]at z;refine⟨?_,trivial⟩;rw[z];rfl
 rw[ae (by simpa using W)]at z;have W:pN a=true:=by simpa using W
 simp only[pN,aJ,db]at W;have VU:∀p∈Reg.gf a.bores 0 a.coppers,(told p.set).length<=4398046511104:=fun p hp=>by
  obtain⟨i,r,U,h2,h3⟩:=Reg.C8 hp;have dr:=C6 (fun b hb=>xZ (Zy b hb)) Jo (0+(i:Int)) (Reg.rX I r (aj U));obtain⟨p1,_,_,p3⟩:=Reg.EV dr.sok h3;exact Reg.lO p1 ((p3 _ dr.ink).up (by omega))
 have adm:=C7 a ha ((Reg.kX a.bores 0 a.coppers).map fun s=>[a_ s]) (Reg.gf a.bores 0 a.coppers) (Reg.fP a.bores (Reg.gf a.bores 0 a.coppers)) (by omega) VU (au _) _ rfl _ _ rfl _ rfl (fun x O p hp=>by
  obtain⟨b,_,rfl⟩:=aZ.1 O;have:=Reg.EY b _ 0 p hp;omega) (fun x O=>by
  obtain⟨b,_,rfl⟩:=aZ.1 O;have:=Reg.C9 b (Reg.gf a.bores 0 a.coppers) 0;omega)
 refine⟨_,_,(G6 a ha _ _ (by omega) VU),_,_,adm,?_⟩;refine qk ((aA.open (by exact hC) _ 103 [90000,90001,90002,90003,90004,90005,90006,90007] (cs:=[.p (.sl (a.coppers.map rr)),.p (aE a.outline),.p (.sl (a.bores.map bc)),.p (.sl (a.lands.map lc)),.row 101 ((aX a).drilled.map fun s=>[a_ s]),.row 254 ((aX a).pieces.map mJ),.row 60 ((aX a).fP.map fun l=>[ints l]),.row 263 ((aX a).placed.groups.map DZ),.row 3 (aK (aX a).ofPiece),.row 3 (aK (aX a).ofBore),.row 3 (aK (aX a).placed.ofLand),.row 265 ((aX a).placed.atLand.map jx)]) (by exact rfl) rfl rfl rfl).trans ((aA.gI (by exact hC) _ 103 4 90000 101 ((aX a).drilled.map fun s=>[a_ s]) [.p (.sl (a.coppers.map rr)),.p (aE a.outline),.p (.sl (a.bores.map bc)),.p (.sl (a.lands.map lc)),.ow 90000,.ow 90001,.ow 90002,.ow 90003,.ow 90004,.ow 90005,.ow 90006,.ow 90007] (by decide) (by exact rfl) (by exact rfl) (by exact rfl)).trans ((aA.gI (by exact hC) _ 103 5 90001 254 ((aX a).pieces.map mJ) [.p (.sl (a.coppers.map rr)),.p (aE a.outline),.p (.sl (a.bores.map bc)),.p (.sl (a.lands.map lc)),.p (.sl ((aX a).drilled.map fun s=>[a_ s])),.ow 90001,.ow 90002,.ow 90003,.ow 90004,.ow 90005,.ow 90006,.ow 90007] (by decide) (by exact rfl) (by exact rfl) (by exact rfl)).trans ((aA.gI (by exact hC) _ 103 6 90002 60 ((aX a).fP.map fun l=>[ints l]) [.p (.sl (a.coppers.map rr)),.p (aE a.outline),.p (.sl (a.bores.map bc)),.p (.sl (a.lands.map lc)),.p (.sl ((aX a).drilled.map fun s=>[a_ s])),.p (.sl ((aX a).pieces.map mJ)),.ow 90002,.ow 90003,.ow 90004,.ow 90005,.ow 90006,.ow 90007] (by decide) (by exact rfl) (by exact rfl) (by exact rfl)).trans ((aA.gI (by exact hC) _ 103 7 90003 263 ((aX a).placed.groups.map DZ) [.p (.sl (a.coppers.map rr)),.p (aE a.outline),.p (.sl (a.bores.map bc)),.p (.sl (a.lands.map lc)),.p (.sl ((aX a).drilled.map fun s=>[a_ s])),.p (.sl ((aX a).pieces.map mJ)),.p (.sl ((aX a).fP.map fun l=>[ints l])),.ow 90003,.ow 90004,.ow 90005,.ow 90006,.ow 90007] (by decide) (by exact rfl) (by exact rfl) (by exact rfl)).trans ((aA.gI (by exact hC) _ 103 8 90004 3 (aK (aX a).ofPiece) [.p (.sl (a.coppers.map rr)),.p (aE a.outline),.p (.sl (a.bores.map bc)),.p (.sl (a.lands.map lc)),.p (.sl ((aX a).drilled.map fun s=>[a_ s])),.p (.sl ((aX a).pieces.map mJ)),.p (.sl ((aX a).fP.map fun l=>[ints l])),.p (.sl ((aX a).placed.groups.map DZ)),.ow 90004,.ow 90005,.ow 90006,.ow 90007] (by decide) (by exact rfl) (by exact rfl) (by exact rfl)).trans ((aA.gI (by exact hC) _ 103 9 90005 3 (aK (aX a).ofBore) [.p (.sl (a.coppers.map rr)),.p (aE a.outline),.p (.sl (a.bores.map bc)),.p (.sl (a.lands.map lc)),.p (.sl ((aX a).drilled.map fun s=>[a_ s])),.p (.sl ((aX a).pieces.map mJ)),.p (.sl ((aX a).fP.map fun l=>[ints l])),.p (.sl ((aX a).placed.groups.map DZ)),.p (.sl (aK (aX a).ofPiece)),.ow 90005,.ow 90006,.ow 90007] (by decide) (by exact rfl) (by exact rfl) (by exact rfl)).trans ((aA.gI (by exact hC) _ 103 10 90006 3 (aK (aX a).placed.ofLand) [.p (.sl (a.coppers.map rr)),.p (aE a.outline),.p (.sl (a.bores.map bc)),.p (.sl (a.lands.map lc)),.p (.sl ((aX a).drilled.map fun s=>[a_ s])),.p (.sl ((aX a).pieces.map mJ)),.p (.sl ((aX a).fP.map fun l=>[ints l])),.p (.sl ((aX a).placed.groups.map DZ)),.p (.sl (aK (aX a).ofPiece)),.p (.sl (aK (aX a).ofBore)),.ow 90006,.ow 90007] (by decide) (by exact rfl) (by exact rfl) (by exact rfl)).trans (aA.gI (by exact hC) _ 103 11 90007 265 ((aX a).placed.atLand.map jx) [.p (.sl (a.coppers.map rr)),.p (aE a.outline),.p (.sl (a.bores.map bc)),.p (.sl (a.lands.map lc)),.p (.sl ((aX a).drilled.map fun s=>[a_ s])),.p (.sl ((aX a).pieces.map mJ)),.p (.sl ((aX a).fP.map fun l=>[ints l])),.p (.sl ((aX a).placed.groups.map DZ)),.p (.sl (aK (aX a).ofPiece)),.p (.sl (aK (aX a).ofBore)),.p (.sl (aK (aX a).placed.ofLand)),.ow 90007] (by decide) (by exact rfl) (by exact rfl) (by exact rfl)))))))))) ?_;exact And.intro (by rw[z,ae rfl];rfl) trivial
theorem Av(a:yr)(z:M6 a):ai C 18 [.pv (.ag (uR a))] (.p (i64 (gw a))) []:=by
 have h:=Jx a z;rw[SD]at h;split at h
 ·refine fW hC Tryz.func18 rfl (by kernel_rfl) fun _=>?_;refine⟨_,_,h,?_,trivial⟩;rfl
 refine fW hC Tryz.func18 rfl (by kernel_rfl) fun _=>?_;refine⟨_,_,h,?_,trivial⟩;rfl
theorem UQ(l:List u_):∀r∈l.map vK,r.length=6:=by
 intro r z;obtain⟨x,_,rfl⟩:=aZ.1 z;rfl
theorem Jy(l:List u_)(z:l.length<=1000000000):ai C 16 [.pv (.sl (l.map vK))] (.own 80 (l.map vK)) []:=by
 cases l with
 | nil=>
  refine fW hC Tryz.func16 rfl (by kernel_rfl) fun _=>?_;refine⟨?_,?_⟩
  ·exact⟨Z,Y⟩
  exact⟨⟨by simp,by simp,by simp⟩,Z,Z,Y⟩
 | cons a l=>
  have D:=UQ (a::l);have hl:=an (a::l) vK;refine fW hC Tryz.func16 rfl (by kernel_rfl) fun _=>?_;exact⟨⟨D,by simp at z ⊢;omega,by simp at z ⊢;omega⟩,Z,Z,Y⟩
def toB(b:u_):dq:=⟨b.x,b.y,b.size,b.lo,b.hi,b.plated⟩
def toL(l:qD):oW:=⟨l.part,l.pin,l.layer,l.x,l.y⟩
def ye(o:Order):yr:=⟨o.plots.map fun p=>told (bS p).1,told (bS o.outline).1,o.bores.map toB,(fw o).map toL⟩
def pP:List cy->Nat->Int×ByteArray
 | [],_=>(0,bC)
 | p::r,k=>if (bS p).2=0 then pP r (k+1) else ((bS p).2,kY k)
theorem Pe{l:List cy}{i:Nat}{p:cy}(h:l[i]?=some p):pP (l.drop i) i=if (bS p).2=0 then pP (l.drop (i+1)) (i+1) else ((bS p).2,kY i):=by
 have hi:=(az.1 h).1;rw[fI hi,(az.1 h).2,pP]
def G8:ByteArray:=⟨#[98,111,97,114,100]⟩
def aX(o:Order):Int×ByteArray:=
 if (fa o).1≠0 then fa o else
 if (pP o.plots 0).1≠0 then pP o.plots 0 else
 if (bS o.outline).2≠0 then ((bS o.outline).2,qC) else
 if iQ o≠0 then (iQ o,uI) else
 if gw (ye o)≠0 then (gw (ye o),G8) else (0,bC)
def Jz(o:Order):List PV:=[.sl (o.plots.map fun p=>[aE (told (bS p).1)]),aE (told (bS o.outline).1),.sl (o.bores.map vK),.sl ((fw o).map UM)]
theorem UR(o:Order):uR (ye o)=Jz o:=by
 unfold uR ye Jz;dsimp only;rw[nq,nq,nq];rfl
def G9(o:Order):List PV:=if (aX o).1=0 then Jz o else [.sl [],.sl [],.sl [],.sl []]
theorem JA:∀(l:List cy) (k:Nat),(pP l k).1=0->∀p∈l,(bS p).2=0
 | [],_,_,p,hp=>by cases hp
 | q::l,k,h,p,hp=>by
  rw[pP]at h;split at h
  ·rename_i z;rcases aq.1 hp with rfl | hp
   ·exact z
   exact JA l (k+1) h p hp
  rename_i z;exact absurd h z
theorem Pf{o:Order}(h:iQ o=0):(fw o).length<=1000:=by
 rcases uc 1000 (fw o).length with z | z
 ·have D:=cP h 1000 (ak _) (by omega);obtain⟨x,I⟩:=ao (l:=fw o) (i:=1000) z;simp only[k_,I]at D;rw[ae (by decide)]at D;cases D
 exact z
theorem XT{o:Order}(I:gP o)(J:(pP o.plots 0).1=0)(N:(bS o.outline).2=0)(O:iQ o=0):M6 (ye o) where
 cop:=by rw[ye,au];exact I.plots.1
 rcs:=fun r R=>by
  obtain⟨p,hp,rfl⟩:=aZ.1 R;have:=(rT (JA _ _ J p hp)).2.2;omega
 out:=by have:=(rT N).2.2;rw[ye];dsimp only;omega
 bor:=by rw[ye,au];exact I.bores
 lan:=by rw[ye,au];have:=Pf O;omega
 str:=fun l hl=>by
  obtain⟨x,z,rfl⟩:=aZ.1 hl;obtain⟨p,hp,z⟩:=tJ.1 z;have U:=I.places.2 p hp;unfold fR at z;split at z
  ·obtain⟨s,D,rfl⟩:=aZ.1 z;refine⟨U.1,?_⟩;unfold gR at D;cases hf:o.feet.find? fun f=>decide (f.type=p.type) with
   | none=>rw[hf]at D;cases D
   | some f=>
    rw[hf]at D;exact (I.feet.2 f (Bi hf)).2.2 s D
  cases z
theorem qE{o:Order}(h:(aX o).1≠0):G9 o=[.sl [],.sl [],.sl [],.sl []]:=aa h
theorem JB(o:Order)(U:gP o):ai C 6 [.pv (.ag (A8 o))] (.tu [.ag (G9 o),.ag (Su (aX o))]) []:=by
 have lm:=an o.plots fun p=>dE p;have qH:=U.plots.1;have hbl:=U.bores;have VN:=(Jy o.bores (by omega)).lz (xs:=[.sl (o.bores.map vK)]);refine FP ⟨[13],[],[(3,[4]),(21,[11])],[],[(3,[true,false,false,true]),(21,[true,false,false,true])],[]⟩ hC Tryz.func6 rfl (by kernel_rfl) fun _=>?_;refine⟨_,_,(z8 o U),_,_,(my (fa o).1 (fa o).2),iW ?_ ?_⟩<;>intro N
 ·have N:(fa o).1≠0:=by simpa using N
  have e:aX o=fa o:=by rw[aX,ae N]
  rw[qE (by rw[e];exact N),e];refine⟨?_,trivial⟩;rfl
 have N:(fa o).1=0:=by simpa using N
 have hgd:=Lv U N;have V:¬(fa o).1≠0:=fun h=>h N;refine aP (fun i:Nat=>i<=o.plots.length/\pP o.plots 0=pP (o.plots.drop i) i) (fun i=>[(1,.bx 1 0),(2,.bx 2 0),(3,.bx 3 0),(5,.bx 5 0),(20,.p (.sl (o.plots.map fun p=>dE p))),(21,.p (i64 (o.plots.map fun p=>dE p).length)),(22,.p (i64 i))]) (fun i=>[(1,.box ((A8 o).map .p)),(2,.box [.nl,.nl,.nl,.nl]),(3,.box [.p (i64 0),.p (str bC)]),(5,.box [.ow 90000,.nl,.nl,.nl]),(90000,.row 52 ((o.plots.take i).map fun p=>[aE (told (bS p).1)]))]) (fun i=>o.plots.length-i) 0 _ (aA.gH hC _ 5 0 90000 52 _ _ (by decide) (by decide) rfl rfl rfl (by decide)) ⟨ak _,rfl⟩ ⟨Z,Z,Z,Z,Z,Z,Z,Y⟩ ⟨Z,Z,Z,Z,Z,Y⟩ fun i hi t h=>?_;apply iW<;>intro h1
 ·rw[lm]at h1;obtain⟨p,W⟩:=ao (l:=o.plots) (i:=i) (by omega);have Kq:=Pe W;refine⟨(dE p),(idx rfl W),_,_,(CY p (U.plots.2 p (aj W))),iW ?_ ?_⟩<;>intro J
  ·have J:(bS p).2≠0:=by simpa using J
   have e:pP o.plots 0=((bS p).2,kY i):=by rw[hi.2,Kq,aa J]
   have z:aX o=((bS p).2,kY i):=by rw[aX,aa V,ae (by rw[e];exact J),e]
   have zD:=Lib.itoa_length_le (i:Int) (by omega) (by omega);have his:(Xi (Lib.itoa i)).size=(Lib.itoa i).length:=by simp[Xi,ByteArray.size]
   rw[qE (by rw[z];exact J),z];refine⟨_,_,(Cp i (by omega)),by rw[his];show (5:Nat)+_<=_;omega,?_⟩;have O:=eC (kY i) (bS p).2;rw[iP J]at O;refine⟨_,_,O,?_,trivial⟩;rfl
  have J:(bS p).2=0:=by simpa using J
  refine⟨⟨kL rfl,by simp;omega,by simp;omega⟩,wO (by omega),i+1,_,aA.N0 _ 44 90000 (by decide) (by decide),⟨by omega,by rw[hi.2,Kq,ae J]⟩,by omega,⟨Z,Z,Z,Z,Z,Z,Z,Y⟩,⟨rfl,rfl,rfl,rfl,?_,trivial⟩⟩;rw[bq W,bB];rfl
 rw[lm]at h1;have e0:pP o.plots 0=(0,bC):=by rw[hi.2,aT (by omega)];rfl
 have XU:¬(pP o.plots 0).1≠0:=by rw[e0];simp
 rw[cK (by omega)];refine qk (aA.gI (by exact hC) _ 5 0 90000 52 (o.plots.map fun p=>[aE (told (bS p).1)]) [.ow 90000,.nl,.nl,.nl] (by decide) (by exact rfl) (by exact rfl) (by exact rfl)) ?_;refine⟨_,_,(CY o.outline U.outline),iW ?_ ?_⟩<;>intro D
 ·have D:(bS o.outline).2≠0:=by simpa using D
  have z:aX o=((bS o.outline).2,qC):=by rw[aX,aa V,aa XU,ae D]
  rw[qE (by rw[z];exact D),z];have O:=eC qC (bS o.outline).2;rw[iP D]at O;refine⟨_,_,O,?_,trivial⟩;rfl
 have D:(bS o.outline).2=0:=by simpa using D
 refine⟨_,_,VN,?_⟩;have S6:=Jn o hgd;by_cases I:iQ o=0
 ·rw[zo,ae I,Lc,ae I]at S6;refine⟨_,_,S6,_,_,(my 0 bC),?_⟩;have Q3:=Av (ye o) (XT U (by rw[e0]) D I);rw[UR]at Q3;refine⟨_,_,Q3,iW ?_ ?_⟩<;>intro R
  ·have R:gw (ye o)≠0:=by simpa using R
   have z:aX o=(gw (ye o),G8):=by rw[aX,aa V,aa XU,aa (fun h=>h D),aa (fun h=>h I),ae R]
   rw[qE (by rw[z];exact R),z];have O:=eC G8 (gw (ye o));rw[iP R]at O;refine⟨_,_,O,?_,trivial⟩;rfl
  have R:gw (ye o)=0:=by simpa using R
  have z:aX o=(0,bC):=by rw[aX,aa V,aa XU,aa (fun h=>h D),aa (fun h=>h I),aa (fun h=>h R)]
  rw[show G9 o=Jz o from ae (by rw[z]),z];refine⟨?_,trivial⟩;rfl
 rw[zo,aa I,Lc,aa I]at S6;have z:aX o=(iQ o,uI):=by rw[aX,aa V,aa XU,aa (fun h=>h D),ae I]
 rw[qE (by rw[z];exact I),z];refine⟨_,_,S6,_,_,(my (iQ o) uI),iW ?_ ?_⟩<;>intro k3
 ·refine⟨?_,trivial⟩;rfl
 exact absurd (by simpa using k3) I
end M
namespace Reg
def E0{α:Type}(q:α->Bool)(l:List α)(i:Nat):List Nat:=(List.range i).filter fun k=>match l[k]? with
 | some x=>q x
 | none=>false
theorem LA{α:Type}{q:α->Bool}{l:List α}{i:Nat}{x:α}(h:l[i]?=some x):E0 q l (i+1)=E0 q l i++if q x=true then [i] else []:=by
 unfold E0;rw[ga,l_];congr 1;cases hq:q x<;>simp[h,hq]
theorem SE{α:Type}(q:α->Bool)(l:List α)(i:Nat):(E0 q l i).length<=i:=aS (kJ _ _) (by simp)
def C_{α:Type}[DecidableEq α]:α->List α->List α
 | _,[]=>[]
 | p,x::r=>if x=p then C_ p r else x::C_ x r
def JC{α:Type}[DecidableEq α]:List α->List α
 | []=>[]
 | x::r=>x::C_ x r
section
variable {α:Type} [DecidableEq α]
theorem zq(y z:α):∀(l:List α) (p:α),(p::l).getLast?=some z->C_ p (l++[y])=C_ p l++if y=z then [] else [y]
 | [],p,h=>by
  simp at h;subst h;simp only[nL,C_]
 | x::r,p,h=>by
  have D:(x::r).getLast?=some z:=by rw[<-h];simp[List.getLast?_cons]
  simp only[GA,C_];by_cases e:x=p
  ·subst e;rw[ae rfl,ae rfl];exact zq y z r x D
  rw[aa e,aa e,zq y z r x D,GA]
theorem SF{l:List α}{y z:α}(h:l.getLast?=some z):JC (l++[y])=JC l++if y=z then [] else [y]:=by
 cases l with
 | nil=>cases h
 | cons x r=>rw[GA,JC,zq y z r x h];rfl
theorem US:∀(l:List α),(JC l).length<=l.length:=by
 have:∀(l:List α) (p:α),(C_ p l).length<=l.length:=by
  intro l
  induction l with
  | nil=>intro p;simp[C_]
  | cons x r ih=>
   intro p;rw[C_];split
   ·have:=ih p;simp only[bN];omega
   have:=ih x;simp only[bN];omega
 intro l;cases l with
 | nil=>simp[JC]
 | cons x r=>rw[JC];have:=this r x;simp only[bN];omega
end
def lexLt(a b:Int×Int):Prop:=a.1<b.1\/a.1=b.1/\a.2<b.2
instance (a b:Int×Int):Decidable (lexLt a b):=by unfold lexLt;infer_instance
end Reg
namespace M
open Go.AM Go.RowKit Go.Lib Go.Sort
open Reg (lexLt)
def eF(p:Int×Int):List Value:=[.int .i64 (cl p.1),.int .i64 (cl p.2)]
def Bs(p:Int×Int):Prop:=(-4611686018427387904<=p.1/\p.1<=4611686018427387903)/\(-4611686018427387904<=p.2/\p.2<=4611686018427387903)
theorem SH{p:Int×Int}(h:Bs p):(eF p).map PV.im=sp p:=by
 simp only[eF,u4 h.1,u4 h.2];rfl
theorem Ad{l:List (Int×Int)}(h:∀r∈l,Bs r):bh (l.map eF)=l.map sp:=by
 unfold bh;rw[nq];exact lZ fun r z=>SH (h r z)
theorem uL{l:List (Int×Int)}:∀r∈l.map eF,r.length=2:=by
 intro r z;obtain⟨x,_,rfl⟩:=aZ.1 z;rfl
theorem JD(d:Array (Int×Int)):flatK eF 2 d=(d.toList.map eF).flatten.toArray:=by
 apply Gb;intro q;have hlen:(d.toList.map eF).flatten.length=d.size*2:=by rw[kO (k:=2) uL];simp
 by_cases I:q<d.size*2
 ·have z:q / 2<d.size:=by omega
  have J:q % 2<2:=na _ (by omega);have e:q / 2*2+q % 2=q:=by omega
  have N:=get_flatK eF 2 d q I;have hsz:(flatK eF 2 d).size=d.size*2:=by simp
  rw[cC (by omega),<-getElem!_pos (flatK eF 2 d) q (by omega),N];have O:(d.toList.map eF)[q / 2]?=some (eF d[q / 2]!):=by
   rw[aD,kC,cC z,fB,getElem!_pos d _ z]
  have R:(eF d[q / 2]!)[q % 2]?=some ((eF d[q / 2]!)[q % 2]!):=by
   have D:q % 2<(eF d[q / 2]!).length:=J;rw[aW D,getElem!_pos (eF d[q / 2]!) (q % 2) D]
  have:=A5 (k:=2) uL O R;rw[e]at this;simpa using this.symm
 rw[A4 (by simp;omega),A4 (by simp only[lS];omega)]
def SI(a b:Int×Int):Int:=if cl a.1=cl b.1 then cl a.2-cl b.2 else cl a.1-cl b.1
def SJ(x y:Int):Int:=if x<y then -1 else if y<x then 1 else 0
def orI(a b:Int):Int:=if a=0 then b else a
def Pg(a b:Int×Int):Int:=orI (SJ (cl a.2-cl a.1) (cl b.2-cl b.1)) (SJ (cl a.1) (cl b.1))
theorem XV(a b:Int×Int):ltOf SI a b=decide (cl a.1<cl b.1\/cl a.1=cl b.1/\cl a.2<cl b.2):=by
 unfold ltOf SI;congr 1;apply propext;split<;>omega
theorem XW(a b:Int×Int):ltOf Pg a b=decide (cl a.2-cl a.1<cl b.2-cl b.1\/cl a.2-cl a.1=cl b.2-cl b.1/\cl a.1<cl b.1):=by
 unfold ltOf Pg orI SJ;congr 1;apply propext
 repeat' split
 all_goals omega
theorem aal:SWO (ltOf SI) where
 irrefl x:=by rw[XV];simp
 trans x y z h1 h2:=by rw[XV,db]at *;omega
 ntrans x y z h1 h2:=by rw[XV,nu]at *;omega
theorem UT:SWO (ltOf Pg) where
 irrefl x:=by rw[XW];simp
 trans x y z h1 h2:=by rw[XW,db]at *;omega
 ntrans x y z h1 h2:=by rw[XW,nu]at *;omega
def mG(cf:Int×Int->Int×Int->Int)(l:List (Int×Int)):List (Int×Int):=(pdq (ltOf cf) l.toArray 0 l.toArray.size (Lib.bitLen l.toArray.size) true true).toList
theorem oI(z:Int×Int->Int×Int->Int)(N:SWO (ltOf z))(l:List (Int×Int)):(mG z l).Perm l/\(mG z l).Pairwise fun a b=>ltOf z b a=false:=by
 obtain⟨O,R⟩:=pdq_sorts (ltOf z) N l.toArray 0 l.toArray.size (Lib.bitLen l.toArray.size) true true (ak _) (aG _) (Or.inl rfl);obtain⟨U,_,I⟩:=O;have hp:(mG z l).Perm l:=by
  have J:∀d:Array (Int×Int),d.size=l.toArray.size->(d.extract 0 l.toArray.size).toList=d.toList:=fun d h=>by rw[<-h];simp
  rw[J _ U,J _ rfl]at I;unfold mG;simpa using I
 refine⟨hp,?_⟩;rw[cS];intro i j hi D V;have hs:(mG z l).length=l.toArray.size:=by rw[hp.length_eq];simp
 have:=R i j (ak _) V (by omega);unfold mG at hi D ⊢;simp only[lV]at hi D;rw[getElem!_pos _ j D,getElem!_pos _ i hi]at this;simpa using this
theorem Da(z:Int×Int->Int×Int->Int)(V:SWO (ltOf z))(g:Nat)(Z:∀args w,(callFunc g args).run Tryz.prog w=.ok (.enter g args) w)
  (jx:∀(x y:Int×Int) (W:World),Calls Tryz.prog g #[.agg (eF x).toArray,.agg (eF y).toArray] W fun e w'=>e=.returned (.int .i64 (z x y))/\∃q Ov,w'=grow (W.drewN q) Ov)
  (l:List (Int×Int)) (hl:∀r∈l,Bs r) (hN:l.length<4611686018427387904):ai C 20 [.row 86 (l.map sp),.pv (.im (.func (.func g) #[] #[]))] (.tu []) [.row ((mG z l).map sp)]:=by
 obtain⟨hp,_⟩:=oI z V l;have Rc:∀r∈mG z l,Bs r:=fun r O=>hl r (hp.mem_iff.1 O);have:=vF hC (f:=20) 86 _ rfl (by decide) [.func (.func g) #[] #[]] (l.map eF) ((mG z l).map eF) uL uL (by rw[au,au,hp.length_eq])
  (fun r O v D=>by
   obtain⟨x,_,rfl⟩:=aZ.1 O;simp only[eF,aq,Gc,or_false]at D;rcases D with rfl | rfl<;>rfl)
  ⟨_,Tryz.func20,rfl,rfl⟩
  (fun _ w=>AnyF.slices_SortFunc_none Tryz.laysSortSpan none 0 (.func (.func g) #[] #[]) w)
  (fun S w cF cap hE J _ I=>by
   have hH:HoldsK eF 2 w cF 0 l.toArray:=by
    unfold HoldsK;intro j N;rw[JD]at N ⊢;simp only[lS]at N;have D:(l.map eF).flatten[j]?=some ((l.map eF).flatten[j]'N):=aW N;obtain⟨R,U⟩:=I j _ D;rw[bp];refine⟨?_,U⟩;rw[R];congr 1;rw[getElem!_pos _ j (by simpa using N)];simp
   have Y:=AnyQ.slices_SortFunc_eq Tryz.laysSortSpan 2 (fun w=>(hC.jw 86 _ rfl).isAgg w) (fun w=>(hC.jw 86 _ rfl).sizeOf w) eF (fun _=>rfl) (fun x v D=>by
    simp only[eF,aq,Gc,or_false]at D;rcases D with rfl | rfl<;>rfl) z V g #[] cF 0 cap l.toArray w Z (fun _ _ _ _ x y=>jx x y _) hH J (by simpa using hN)
   have e:l.toArray.size=(l.map eF).length:=by simp
   rw[e]at Y;refine Y.mono fun e' w' ⟨R,n,os,U⟩=>⟨R,n,os,?_⟩;rw[U];unfold sortWorldK putRowK sT;rw[JD,<-e];rfl)
 rw[Ad hl,Ad Rc]at this;exact this
theorem SK(x y:Int×Int)(W:World):Calls Tryz.prog 21 #[.agg (eF x).toArray,.agg (eF y).toArray] W fun e w'=>e=.returned (.int .i64 (SI x y))/\∃q z,w'=grow (W.drewN q) z:=by
 have h1:=pA x.1;have h2:=pA y.1;have h3:=pA x.2;have h4:=pA y.2;unfold eF SI;generalize cl x.1=D at *;generalize cl x.2=a2 at *;generalize cl y.1=I at *;generalize cl y.2=b2 at *;by_cases h:D=I
 ·subst h;rw[ae rfl]
  go_enter Tryz.func21,Tryz.ntmps21
  go_wp2
  go_ret
  exact⟨rfl,0,_,by rw[alloc_eq_grow,alloc_eq_grow,grow_grow];rfl⟩
 rw[aa h]
 go_enter Tryz.func21,Tryz.ntmps21
 go_wp2
 go_ret
 exact⟨rfl,0,_,by rw[alloc_eq_grow,alloc_eq_grow,grow_grow];rfl⟩
theorem adn(n:Int)(W:World):Calls Tryz.prog 191 #[.int .i64 n] W fun e w'=>e=.returned (.bool false)/\w'=W:=by
 go_enter Tryz.func191,Tryz.ntmps191
 go_wp2
 go_ret
 exact⟨by simp,rfl⟩
theorem aam(a b:Int)(W:World):Calls Tryz.prog 153 #[.int .i64 a,.int .i64 b] W fun e w'=>e=.returned (.int .i64 (SJ a b))/\w'=W:=by
 go_enter Tryz.func153,Tryz.ntmps153
 go_wp2_with (go_at_call 191;refine (adn _ _).mono ?_;rintro e w' ⟨rfl,z⟩;rw[z])
 all_goals (go_ret;refine⟨?_,rfl⟩;unfold SJ;(repeat' split)<;>first | rfl | (exfalso;omega))
theorem UU(W:World)(cF:Nat)(a b:Int)(h0:W.cell? ⟨cF,0,none⟩=some (.int .i64 a))(h1:W.cell? ⟨cF,1,none⟩=some (.int .i64 b))(c:Nat):Calls Tryz.prog 152 #[.slice (some ⟨cF,0,none⟩) 2 c] W fun e w'=>e=.returned (.int .i64 (orI a b))/\w'=W:=by
 unfold orI
 go_enter Tryz.func152,Tryz.ntmps152
 go_wp2
 go_loop [8] (fun i=>∃k:Nat,k<=2/\i=.int .i64 k/\(0<k->a=0)/\(1<k->b=0)) (fun i=>2-(intOf i).toNat)
 case atStart=>exact⟨0,by omega,rfl,fun h=>by omega,fun h=>by omega⟩
 case round=>
  obtain⟨k,hk,rfl,z,D⟩:=hrel;rcases (show k=0\/k=1\/k=2 by omega) with rfl | rfl | rfl
  ·by_cases e:a=0
   ·subst e
    go_wp2
    go_round
    case rel=>exact⟨1,by omega,by go_num,fun _=>by trivial,fun h=>by omega⟩
    case measure=>simp[intOf]
   go_wp2
   go_ret
   exact⟨by first | rfl | simp[e],rfl⟩
  ·have e:=z (by omega);subst e;by_cases e:b=0
   ·subst e
    go_wp2
    go_round
    case rel=>exact⟨2,by omega,by go_num,fun _=>by trivial,fun _=>by trivial⟩
    case measure=>simp[intOf]
   go_wp2
   go_ret
   exact⟨by first | rfl | simp[e],rfl⟩
  have e:=z (by omega);have I:=D (by omega);subst e;subst I
  go_wp2
  go_ret
  exact⟨rfl,rfl⟩
theorem SL(x y:Int×Int)(W:World):Calls Tryz.prog 96 #[.agg (eF x).toArray,.agg (eF y).toArray] W fun e w'=>e=.returned (.int .i64 (Pg x y))/\∃q R,w'=grow (W.drewN q) R:=by
 have h1:=pA x.1;have h2:=pA y.1;have h3:=pA x.2;have h4:=pA y.2;unfold eF Pg;generalize cl x.1=z at *;generalize cl x.2=a2 at *;generalize cl y.1=D at *;generalize cl y.2=N at *;have w1:IntKind.i64.wrap (a2-z)=a2-z:=Ax _ ⟨by omega,by omega⟩;have w2:IntKind.i64.wrap (N-D)=N-D:=Ax _ ⟨by omega,by omega⟩
 go_enter Tryz.func96,Tryz.ntmps96
 obtain⟨I,J⟩:∃w3,w3=({ ((W.alloc (Obj.cells #[Value.int IntKind.i64 z,Value.int IntKind.i64 a2] 86)).alloc (Obj.cells #[Value.int IntKind.i64 D,Value.int IntKind.i64 N] 86)) with drawn:=((W.alloc (Obj.cells #[Value.int IntKind.i64 z,Value.int IntKind.i64 a2] 86)).alloc (Obj.cells #[Value.int IntKind.i64 D,Value.int IntKind.i64 N] 86)).drawn+1 }:World):=⟨_,rfl⟩;have hs:I.heap.size=W.heap.size+2:=by rw[J];exact (l6 ..).trans (af (·+1) (l6 ..))
 have c0:I.cell? ⟨W.heap.size,0,none⟩=some (.int .i64 z):=by
  rw[J];exact (World.cell?_alloc_past (w:=W.alloc _) _ _ _ (by rw[show (W.alloc _).heap.size=W.heap.size+1 from l6 ..];omega)).trans (xX _ _ _ _ rfl)
 have c1:I.cell? ⟨W.heap.size,1,none⟩=some (.int .i64 a2):=by
  rw[J];exact (World.cell?_alloc_past (w:=W.alloc _) _ _ _ (by rw[show (W.alloc _).heap.size=W.heap.size+1 from l6 ..];omega)).trans (xX _ _ _ _ rfl)
 have c2:I.cell? ⟨W.heap.size+1,0,none⟩=some (.int .i64 D):=by
  rw[J];exact xX (w:=W.alloc _) _ _ _ _ (l6 ..).symm
 have c3:I.cell? ⟨W.heap.size+1,1,none⟩=some (.int .i64 N):=by
  rw[J];exact xX (w:=W.alloc _) _ _ _ _ (l6 ..).symm
 have O:I=grow (W.drewN 1) #[Obj.cells #[Value.int IntKind.i64 z,Value.int IntKind.i64 a2] 86,Obj.cells #[Value.int IntKind.i64 D,Value.int IntKind.i64 N] 86]:=by
  rw[J,alloc_eq_grow,alloc_eq_grow,grow_grow];rfl
 have U:=uz O;clear O
 go_wp2_with fail
 refine wp_region_still_tail 16 (by kernel_rfl) (by kernel_rfl) ?_;rw[<-J];clear J;simp only[List.take_succ_cons,M8,List.drop_succ_cons,pL]
 repeat still_step
 still_call (aam (a2-z) (N-D) I)
 repeat still_step
 still_call (aam z D I)
 refine wpStill_nil ?_
 go_wp2_with (go_at_call 152;refine (UU _ _ _ _ (xX _ _ _ _ (by omega)) (xX _ _ _ _ (by omega)) _).mono ?_;rintro e w' ⟨rfl,V⟩;rw[V])
 go_ret
 have O:=U.out;exact⟨rfl,1,_,by rw[O,alloc_eq_grow,grow_grow]⟩
theorem G_(l:List (Int×Int))(hl:∀r∈l,Bs r)(z:l.length<4611686018427387904):ai C 20 [.row 86 (l.map sp),.pv (.im (.func (.func 21) #[] #[]))] (.tu []) [.row ((mG SI l).map sp)]:=
 Da SI aal _ (enters_of Tryz.func21 (by kernel_rfl) rfl) SK l hl z
theorem Ha(l:List (Int×Int))(hl:∀r∈l,Bs r)(z:l.length<4611686018427387904):ai C 20 [.row 86 (l.map sp),.pv (.im (.func (.func 96) #[] #[]))] (.tu []) [.row ((mG Pg l).map sp)]:=
 Da Pg UT _ (enters_of Tryz.func96 (by kernel_rfl) rfl) SL l hl z
open Reg (JC C_)
variable {α:Type}
theorem Ph{l:List α}{i:Nat}{x:α}(h:l[i]?=some x):(l.take (i+1)).getLast?=some x:=by
 rw[bq h,List.getLast?_append];simp
theorem Db{l:List (Int×Int)}{i:Nat}{x y:Int×Int}(z:l[i]?=some x)(D:l[i+1]?=some y):JC (l.take (i+2))=JC (l.take (i+1))++if y=x then [] else [y]:=by
 rw[bq D,Reg.SF (Ph z)]
theorem D0(l:List (Int×Int))(hN:l.length<=1000000):ai C 22 [.row 86 (l.map sp)] (.own 86 ((JC l).map sp)) [.gone]:=by
 refine fW hC Tryz.func22 rfl (by kernel_rfl) fun _=>?_;have D:=an l sp;apply iW<;>intro U
 ·have e:JC l=l:=by
   match l,D,U with
   | [],_,_=>rfl
   | [x],_,_=>rfl
   | x::y::r,D,U=>simp only[bN]at D U;omega
  rw[e];exact⟨Z,Z,Y⟩
 refine aP (fun k:Nat=>1<=k/\k<=l.length/\JC (l.take k)=l.take k) (fun k=>[(0,.ow 100000),(3,.p (i64 k))]) (fun _=>[(100000,.row 86 (l.map sp))]) (fun k=>l.length-k) 1 _ (aA.refl _ _) ⟨by omega,by omega,by cases l<;>rfl⟩ ⟨Z,Z,Y⟩ ⟨Z,Y⟩ fun k hk t h=>?_;obtain⟨k1,k2,I⟩:=hk;apply iW<;>intro h1
 ·rw[D]at h1;obtain⟨x,V⟩:=ao (l:=l) (i:=k-1) (by omega);obtain⟨y,J⟩:=ao (l:=l) (i:=k) (by omega);refine⟨⟨by omega,by rw[D];omega⟩,(sp y),(idx rfl J).2,wO (by omega),⟨by omega,by rw[D];omega⟩,(sp x),(idx (show (k:Int)-1=((k-1:Nat):Int) by omega) V).2,iW ?_ ?_⟩<;>intro N<;>try simp only[zB]at N
  ·have W:y=x:=Prod.ext (by simpa using (Be.1 N).1) (by simpa using (Be.1 N).2);refine Or.inl ?_;refine⟨⟨by omega,by rw[D];omega,by omega⟩,?_⟩;refine aP (fun p:Nat×Nat×List (Int×Int)=>k<=p.1/\p.1<p.2.1/\p.2.1<=l.length/\p.2.2.length=l.length/\p.2.2.take p.1=JC (l.take p.2.1)/\p.2.2.drop (p.2.1-1)=l.drop (p.2.1-1)) (fun p=>[(0,.ow 100000),(3,.p (i64 p.1)),(4,.vw 100000 k l.length),(5,.p (i64 (p.2.1-k:Nat)))]) (fun p=>[(100000,.row 86 (p.2.2.map sp))]) (fun p=>l.length-p.2.1) (k,k+1,l) _ (aA.refl _ _) ⟨by simp,by simp only;omega,by simp only;omega,rfl,?_,rfl⟩ ⟨rfl,rfl,by show AV.vw _ _ _=AV.vw _ _ _;rw[F0,F0,D],bI (by simp only;omega),trivial⟩ ⟨Z,Y⟩ fun ⟨a,b,m⟩ hi t h=>?_
   ·simp only;rw[show k+1=(k-1)+2 by omega,Db V (by rw[show k-1+1=k by omega];exact J),ae W,show k-1+1=k by omega,I,dP]
   simp only at hi;obtain⟨q1,q2,q3,q4,q5,O⟩:=hi;have mm:=an m sp;apply iW<;>intro h3<;>try simp only[zB]at h3
   ·have hb:b<l.length:=by omega
    obtain⟨u,hu⟩:=ao (l:=l) (i:=b-1) (by omega);obtain⟨v,hv⟩:=ao (l:=l) (i:=b) (by omega);have hmu:m[b-1]?=some u:=by
     have:(m.drop (b-1))[0]?=(l.drop (b-1))[0]?:=by rw[O]
     simpa [hu] using this
    have Md:m[b]?=some v:=by
     have:(m.drop (b-1))[1]?=(l.drop (b-1))[1]?:=by rw[O]
     simpa [show b-1+1=b by omega,hv] using this
    have R:JC (l.take (b+1))=JC (l.take b)++if v=u then [] else [v]:=by
     have:=Db hu (by rw[show b-1+1=b by omega];exact hv);rw[show b-1+2=b+1 by omega,show b-1+1=b by omega]at this;exact this
    have i1:k+((b-k:Nat):Int).toNat=b:=by omega
    have i2:k+(((b-k:Nat):Int)-1).toNat=b-1:=by omega
    refine⟨⟨by dsimp only;omega,by dsimp only;omega⟩,(sp v),(by dsimp only;rw[i1];exact A1 sp Md),⟨by dsimp only;omega,by dsimp only;omega⟩,⟨by dsimp only;omega,by dsimp only;omega⟩,(sp u),(by dsimp only;rw[i2];exact A1 sp hmu),iW ?_ ?_⟩<;>intro h4<;>try simp only[zB]at h4
    ·have e4:¬v=u:=fun e=>by subst e;simp at h4
     rw[aa e4]at R;obtain⟨z,hz⟩:=ao (l:=m) (i:=a) (by omega);refine⟨⟨by dsimp only;omega,by dsimp only;omega⟩,(sp v),(by dsimp only;rw[i1];exact A1 sp Md),⟨by dsimp only;omega,by dsimp only;rw[mm];omega⟩,(sp z),(idx rfl hz).2,⟨by dsimp only;omega,by dsimp only;omega⟩,⟨by dsimp only;omega,by dsimp only;omega⟩,(a+1,b+1,m.set a v),_,aA.refl _ _,⟨by dsimp only;omega,by dsimp only;omega,by dsimp only;omega,by dsimp only;rw[List.length_set];exact q4,?_,?_⟩,by dsimp only;omega,⟨rfl,bI (by dsimp only;omega),rfl,bI (by dsimp only;omega),trivial⟩,⟨?_,trivial⟩⟩
     ·dsimp only;rw[Iv (by omega),q5,R]
     ·dsimp only;rw[List.drop_set_of_lt (by omega)];have:=af (List.drop 1) O;simpa [Gd,show b-1+1=b by omega] using this
     show AB.row _ ((m.map sp).set a (sp v))=AB.row _ ((m.set a v).map sp);rw[w_]
    have e4:v=u:=by
     have:(decide (v.1=u.1)&&(decide (v.2=u.2)&&true))=true:=by simpa using h4
     exact Prod.ext (by simpa using (Be.1 this).1) (by simpa using (Be.1 this).2)
    rw[ae e4,dP]at R;refine⟨⟨by dsimp only;omega,by dsimp only;omega⟩,(a,b+1,m),_,aA.refl _ _,⟨by dsimp only;omega,by dsimp only;omega,by dsimp only;omega,q4,by dsimp only;rw[R];exact q5,?_⟩,by dsimp only;omega,⟨rfl,rfl,rfl,bI (by dsimp only;omega),trivial⟩,⟨Z,Y⟩⟩;have:=af (List.drop 1) O;simpa [Gd,show b-1+1=b by omega] using this
   have hb:b=l.length:=by omega
   refine Or.inl ?_;refine⟨⟨by dsimp only;omega,by dsimp only;rw[mm];omega,by dsimp only;omega⟩,⟨by simp only[Int.toNat_natCast];omega,by simp only[Int.toNat_natCast];omega⟩,?_⟩;refine Or.inl ?_;have Rf:((((m.map sp).take a++List.replicate ((m.map sp).length-a) [i64 0,i64 0]++(m.map sp).drop (m.map sp).length).length:Nat):Int)=m.length:=by simp;omega
   refine⟨⟨by omega,by dsimp only;omega,by simp only[Int.toNat_natCast];exact Int.le_trans (show (a:Int)<=m.length by omega) (Int.le_of_eq Rf.symm)⟩,?_,Z,Y⟩;simp only[F0];rw[d_,kN (by rw[cE,mm];omega),AF,Nat.min_self,<-Mu,q5,hb,jR]
  have W:¬y=x:=fun e=>by subst e;simp at N
  refine⟨wO (by omega),(k+1),_,aA.refl _ _,⟨by omega,by omega,?_⟩,by omega,⟨Z,Z,Y⟩,⟨Z,Y⟩⟩;rw[show k+1=(k-1)+2 by omega,Db V (by rw[show k-1+1=k by omega];exact J),aa W,show k-1+1=k by omega,I,show k-1+2=k+1 by omega,bq J]
 rw[D]at h1;have e:k=l.length:=by omega
 rw[e,jR]at I;rw[I];exact⟨Z,Z,Y⟩
theorem JE(l:List (Int×Int))(z:l.length<=1000000):ai C 94 [.pv (.sl (l.map sp))] (.own 86 (l.map sp)) []:=by
 have lm:=an l sp;cases l with
 | nil=>
  refine fW hC Tryz.func94 rfl (by kernel_rfl) fun _=>?_;refine⟨?_,?_⟩
  ·exact⟨Z,Y⟩
  exact⟨⟨by simp,by simp,by simp⟩,Z,Z,Y⟩
 | cons x r=>
  refine fW hC Tryz.func94 rfl (by kernel_rfl) fun _=>?_;have hr:r.length<=1000000:=Nat.le_of_succ_le z;exact⟨⟨xq fun _=>rfl,by simp;omega,by simp;omega⟩,Z,Z,Y⟩
theorem Bj(x z:Int×Int):(decide (x.1=z.1)&&(decide (x.2=z.2)&&true))=decide (x=z):=by
 obtain⟨a,b⟩:=x;obtain⟨c,d⟩:=z;by_cases h:a=c<;>by_cases D:b=d<;>simp[h,D]
theorem LB(l:List (Int×Int))(hN:l.length<=140737488355328)(x:Int×Int):ai C 151 [.pv (.sl (l.map sp)),.pv (.ag (sp x))] (.p (i64 (eM (fun z=>decide (x=z)) l 0))) []:=by
 refine fW hC Tryz.func151 rfl (by kernel_rfl) fun _=>?_;have J:=an l sp;refine aP (fun i:Nat=>i<=l.length/\∀z∈l.take i,decide (x=z)=false) (fun i=>[(0,.p (.sl (l.map sp))),(3,.bx 3 0),(7,.p (i64 (l.map sp).length)),(8,.p (i64 i))]) (fun _=>[(3,.box ((sp x).map .p))]) (fun i=>l.length-i) 0 _ (aA.refl _ _) ⟨ak _,by simp⟩ ⟨Z,Z,Z,Z,Y⟩ ⟨Z,Y⟩ fun i hi t h=>?_;apply iW<;>intro N
 ·rw[J]at N;obtain⟨r,I⟩:=ao (l:=l) (i:=i) (by omega);refine⟨(sp r),(idx rfl I),iW ?_ ?_⟩<;>intro D<;>try simp only[zB]at D
  ·refine⟨?_,trivial⟩;rw[Bj]at D;rw[eU (p:=fun z=>decide (x=z)) I D hi.2,bp]
  refine⟨wO (by omega),(i+1),_,aA.refl _ _,?_⟩;rw[Bj]at D;exact⟨⟨by omega,iu (p:=fun z=>decide (x=z)) I D hi.2⟩,by omega,⟨Z,Z,Z,Z,Y⟩,⟨Z,Y⟩⟩
 rw[J]at N;refine⟨?_,trivial⟩;have D:=hi.2;rw[cK (by omega)]at D;rw[cT (p:=fun z=>decide (x=z)) D];rfl
theorem vk(l:List (Int×Int))(D:l.length<=140737488355328)(x:Int×Int):ai C 95 [.pv (.sl (l.map sp)),.pv (.ag (sp x))] (.p (bool (decide (x∈l)))) []:=by
 refine fW hC Tryz.func95 rfl (by kernel_rfl) fun _=>?_;refine⟨_,_,(LB l D x),?_,trivial⟩;have e:decide (x∈l)=l.any fun z=>decide (x=z):=by
  rw[fV,decide_eq_true_iff,ee];exact⟨fun h=>⟨x,h,jS rfl⟩,fun ⟨z,h,e⟩=>l5 e▸h⟩
 rw[e,<-eZ _ l 0];rfl
theorem zr(a b:Int×Int):ai C 90 [.pv (.ag (sp a)),.pv (.ag (sp b))] (.p (bool (decide (b.1<=a.1)&&decide (a.2<=b.2)))) []:=by
 refine fW hC Tryz.func90 rfl (by kernel_rfl) fun _=>?_;apply iW<;>intro h
 ·refine⟨?_,trivial⟩;simp[bool,h]
 refine⟨?_,trivial⟩;simp[bool,h]
def Dc(m:List fy)(s:List Lay)(k:Nat):Bool:=match s[k]? with
 | some l=>decide (ef m l.mat=2)
 | none=>false
def nC(m:List fy)(s:List Lay)(k:Nat):Int:=(h_ m s k).length
def dS(m:List fy)(s:List Lay)(i:Nat):List (Int×Int):=((List.range i).filter (Dc m s)).map fun k=>(nC m s k,nC m s k+1)
variable {s:List Lay}
theorem LC{m:List fy}{i:Nat}:dS m s (i+1)=dS m s i++(if Dc m s i=true then [(nC m s i,nC m s i+1)] else []):=by
 unfold dS;rw[ga,l_,bB];congr 1;cases h:Dc m s i<;>simp[h]
theorem zt{m:List fy}{i:Nat}:(dS m s i).length<=i:=by
 unfold dS;rw[au];exact aS (kJ _ _) (by simp)
theorem JF{m:List fy}{s:List Lay}{i:Nat}:0<=nC m s i/\nC m s i<=i:=by
 have:=Cn (m:=m) (s:=s) (i:=i);unfold nC;omega
theorem UW{m:List fy}{i:Nat}:nC m s (i+1)=nC m s i+(if sk m s i=true then 1 else 0):=by
 unfold nC;rw[EE];split<;>simp
theorem JG(m:List fy)(s:List Lay)(V:cM fy.name m)(W:m.length<=1000000)(hS:s.length<=1048576):ai C 93 [.pv (.sl (m.map vV)),.pv (.sl (s.map yq))] (.own 86 ((dS m s s.length).map sp)) []:=by
 refine fW hC Tryz.func93 rfl (by kernel_rfl) fun _=>?_;have lm:=an s yq;refine aP (fun i:Nat=>i<=s.length) (fun i=>[(0,.p (.sl (m.map vV))),(5,.ow 5),(6,.p (i64 (nC m s i))),(9,.p (.sl (s.map yq))),(10,.p (i64 s.length)),(11,.p (i64 i))]) (fun i=>[(5,.row 86 ((dS m s i).map sp))]) (fun i=>s.length-i) 0 _ (aA.eK hC _ 5 86 _ (by decide) rfl rfl (by decide)) (ak _) ⟨rfl,rfl,rfl,rfl,af (fun n:Nat=>AV.p (i64 n)) lm,Z,Y⟩ ⟨Z,Y⟩ fun i hi t h=>?_;apply iW<;>intro h1
 ·obtain⟨x,N⟩:=ao (l:=s) (i:=i) (by omega);have R:sk m s i=decide (ef m x.mat=1):=by rw[sk,N]
  have O:Dc m s i=decide (ef m x.mat=2):=by rw[Dc,N]
  have D:=LC (m:=m) (s:=s) (i:=i);have J:=UW (m:=m) (s:=s) (i:=i);have hle:=zt (m:=m) (s:=s) (i:=i);have Px:=JF (m:=m) (s:=s) (i:=i);have U:((dS m s i).map sp).length=(dS m s i).length:=au ..;refine⟨(yq x),(idx rfl N),_,_,(nF m x V W),iW ?_ ?_⟩<;>intro z
  ·have z:ef m x.mat=1:=z;rw[R,ae (jS z)]at J;rw[O,aa (by rw[z];decide),dP]at D;exact⟨wO (by omega),wO (by omega),(i+1),_,aA.refl _ _,by omega,by omega,⟨rfl,rfl,bI (by omega),Z,Z,Z,Y⟩,⟨by rw[D];rfl,trivial⟩⟩
  have z:¬ef m x.mat=1:=z;rw[R,aa (by rw[aY z];decide),Int.add_zero]at J;apply iW<;>intro I
  ·have I:ef m x.mat=2:=I;rw[O,ae (jS I)]at D;exact⟨wO (by omega),⟨fun r hr=>(by rw[bV.1 hr];rfl),by rw[U];simp;omega,by rw[U];simp;omega⟩,wO (by omega),(i+1),_,aA.refl _ _,by omega,by omega,⟨rfl,rfl,bI (by omega),Z,Z,Z,Y⟩,⟨by rw[D,bB];rfl,trivial⟩⟩
  have I:¬ef m x.mat=2:=I;rw[O,aa (by rw[aY I];decide),dP]at D;exact⟨wO (by omega),(i+1),_,aA.refl _ _,by omega,by omega,⟨rfl,rfl,bI (by omega),Z,Z,Z,Y⟩,⟨by rw[D];rfl,trivial⟩⟩
 have e:i=s.length:=by omega
 rw[e];exact⟨Z,Z,Y⟩
def ss(cs acc:List (Int×Int))(x:Int×Int):List (Int×Int):=if x∈cs then acc else if x∈acc then acc else acc++[x]
def gS(cs L:List (Int×Int)):List (Int×Int):=L.foldl (ss cs) []
def D1(m:List fy)(s:List Lay)(l:List (Int×Int)):List (Int×Int):=l++[(1,nC m s s.length)]
def ln(m:List fy)(s:List Lay)(l:List (Int×Int)):List (Int×Int):=mG Pg (gS (dS m s s.length) (D1 m s l))
def gi(m:List fy)(s:List Lay)(l:List (Int×Int)):List (Int×Int):=dS m s s.length++ln m s l
theorem Dd{cs L:List (Int×Int)}{i:Nat}{x:Int×Int}(h:L[i]?=some x):gS cs (L.take (i+1))=ss cs (gS cs (L.take i)) x:=by
 unfold gS;rw[bq h,wH];rfl
theorem Pj(cs z:List (Int×Int))(x:Int×Int):(ss cs z x).length<=z.length+1:=by
 unfold ss;split
 ·omega
 split
 ·omega
 simp
theorem uM(cs L:List (Int×Int)):∀i,i<=L.length->(gS cs (L.take i)).length<=i
 | 0,_=>by simp[gS]
 | i+1,h=>by
  obtain⟨x,z⟩:=ao (l:=L) (i:=i) (by omega);rw[Dd z];have:=Pj cs (gS cs (L.take i)) x;have:=uM cs L i (by omega);omega
theorem E1{cs L:List (Int×Int)}{x:Int×Int}:x∈gS cs L↔x∈L/\¬x∈cs:=by
 have:∀(L D:List (Int×Int)),(∀y∈D,¬y∈cs)->(x∈L.foldl (ss cs) D↔x∈D\/x∈L/\¬x∈cs):=by
  intro L
  induction L with
  | nil=>intro D _;simp
  | cons y L ih=>
   intro D O;rw[jN];by_cases J:y∈cs
   ·rw[show ss cs D y=D from ae J,ih D O,aq];constructor
    ·rintro (h | ⟨h,I⟩)
     ·exact .inl h
     exact .inr ⟨.inr h,I⟩
    rintro (h | ⟨h | h,I⟩)
    ·exact .inl h
    ·exact absurd (h▸J) I
    exact .inr ⟨h,I⟩
   by_cases R:y∈D
   ·rw[show ss cs D y=D by rw[ss,aa J,ae R],ih D O,aq];constructor
    ·rintro (h | ⟨h,I⟩)
     ·exact .inl h
     exact .inr ⟨.inr h,I⟩
    rintro (h | ⟨h | h,I⟩)
    ·exact .inl h
    ·exact .inl (h▸R)
    exact .inr ⟨h,I⟩
   rw[show ss cs D y=D++[y] by rw[ss,aa J,aa R],ih (D++[y]) (fun z N=>by
    rcases b_.1 N with N | N
    ·exact O z N
    rw[bV.1 N];exact J),b_,bV,aq]
   constructor
   ·rintro ((h | h) | ⟨h,I⟩)
    ·exact .inl h
    ·exact .inr ⟨.inl h,h▸J⟩
    exact .inr ⟨.inr h,I⟩
   rintro (h | ⟨h | h,I⟩)
   ·exact .inl (.inl h)
   ·exact .inl (.inr h)
   exact .inr ⟨h,I⟩
 rw[gS,this L [] (by simp)];simp
theorem UX{m:List fy}{s:List Lay}{l:List (Int×Int)}(hS:s.length<=1048576)(hb:∀x∈l,Bs x):∀x∈D1 m s l,Bs x:=fun x z=>by
 rcases b_.1 z with h | h
 ·exact hb x h
 rw[bV.1 h];have:=JF (m:=m) (s:=s) (i:=s.length);exact⟨⟨by dsimp only;decide,by dsimp only;decide⟩,by dsimp only;omega,by dsimp only;omega⟩
theorem yf(m:List fy)(s:List Lay)(l:List (Int×Int))(hs:cM fy.name m)(hN:m.length<=1000000)(hS:s.length<=1048576)(hl:l.length<=1000)(hb:∀x∈l,Bs x):ai C 40 [.pv (.sl (m.map vV)),.pv (.sl (s.map yq)),.pv (.sl (l.map sp))] (.tu [.sl ((gi m s l).map sp),i64 (dS m s s.length).length]) []:=by
 refine fW hC Tryz.func40 rfl (by kernel_rfl) fun _=>?_;have lm:=an l sp;have z:=JG m s hs hN hS;have U:=pX m s hs hN hS;have jx:=JE l (by omega);have cl:=zt (m:=m) (s:=s) (i:=s.length);have hn:(((h_ m s s.length).map fun n=>[i64 n]).length:Int)=nC m s s.length:=by rw[au];rfl
 obtain⟨cs,nP⟩:∃cs,cs=dS m s s.length:=⟨_,rfl⟩;obtain⟨L,D⟩:∃L,L=D1 m s l:=⟨_,rfl⟩;have hLl:L.length<=1001:=by rw[D,D1];simp;omega
 have lL:=an L sp;have lc:=an cs sp;have he:l.map sp++[[i64 1,i64 (((h_ m s s.length).map fun n=>[i64 n]).length:Int)]]=L.map sp:=by rw[hn,D,D1,bB];rfl
 have V:((l.map sp++[[i64 1,i64 (((h_ m s s.length).map fun n=>[i64 n]).length:Int)]]).length:Int)=L.length:=by rw[he,lL]
 rw[<-nP]at z cl;refine⟨_,_,z,_,_,jx,_,_,U,⟨fun r W=>(by rw[bV.1 W];rfl),by simp;omega,by simp;omega⟩,?_⟩;refine aP (fun i:Nat=>i<=L.length) (fun i=>[(6,.ow 6),(7,.p (i64 cs.length)),(8,.ow 8),(24,.p (.sl (L.map sp))),(25,.p (i64 L.length)),(26,.p (i64 i))]) (fun i=>[(6,.row 86 (cs.map sp)),(8,.row 86 ((gS cs (L.take i)).map sp))]) (fun i=>L.length-i) 0 _ (aA.trans (aA.eK hC _ 8 86 _ (by decide) rfl rfl (by decide)) (aA.iT hC _ 24 (y:=.sl (l.map sp++[[i64 1,i64 (((h_ m s s.length).map fun n=>[i64 n]).length:Int)]])) ⟨rfl,rfl⟩)) (ak _) ⟨rfl,af (fun n:Nat=>AV.p (i64 n)) lc,rfl,af (fun r=>AV.p (PV.sl r)) he,af (fun n:Int=>AV.p (i64 n)) V,Z,Y⟩ ⟨Z,Z,Y⟩ fun i hi t h=>?_;apply iW<;>intro h1
 ·obtain⟨x,I⟩:=ao (l:=L) (i:=i) (by omega);have hp:=Dd (cs:=cs) I;have qH:=uM cs L i (by omega);have lp:=an (gS cs (L.take i)) sp;have J:=vk cs (by omega) x;have N:=vk (gS cs (L.take i)) (by omega) x;refine⟨(sp x),(idx rfl I),?_⟩;by_cases O:x∈cs
  ·rw[jS O]at J;rw[ss,ae O]at hp;exact⟨_,_,J,wO (by omega),(i+1),_,aA.refl _ _,by omega,by omega,⟨Z,Z,Z,Z,Z,Z,Y⟩,⟨rfl,by rw[hp];rfl,trivial⟩⟩
  rw[aY O]at J;rw[ss,aa O]at hp;refine⟨_,_,J,?_⟩;by_cases R:x∈gS cs (L.take i)
  ·rw[jS R]at N;rw[ae R]at hp;exact⟨_,_,N,wO (by omega),(i+1),_,aA.refl _ _,by omega,by omega,⟨Z,Z,Z,Z,Z,Z,Y⟩,⟨rfl,by rw[hp];rfl,trivial⟩⟩
  rw[aY R]at N;rw[aa R]at hp;exact⟨_,_,N,⟨fun r W=>(by rw[bV.1 W];rfl),by rw[lp];simp;omega,by rw[lp];simp;omega⟩,wO (by omega),(i+1),_,aA.refl _ _,by omega,by omega,⟨Z,Z,Z,Z,Z,Z,Y⟩,⟨rfl,by rw[hp,bB];rfl,trivial⟩⟩
 have e:i=L.length:=by omega
 have qH:=uM cs L i (by omega);rw[e,jR]at qH ⊢;have hps:∀x∈gS cs L,Bs x:=fun x I=>UX hS hb x (D▸(E1.1 I).1);have lp:=(oI Pg UT (gS cs L)).1.length_eq;have lq:=an (mG Pg (gS cs L)) sp;refine⟨_,_,(Ha (gS cs L) hps (by omega)),⟨xq fun _=>rfl,by show ((cs.map sp).length+((mG Pg (gS cs L)).map sp).length)*16<=_;omega,by omega⟩,?_⟩;rw[gi,ln,<-nP,<-D,bB];exact⟨Z,Y⟩
def Nh(a b:Int×Int):Bool:=decide (b.1<=a.1)&&decide (a.2<=b.2)
def CS(a:Int×Int)(c:Int)(b:Int×Int):Bool:=!decide (b=a)&&(Nh b a&&(decide (b.1<=c)&&decide (c<=b.2)))
theorem aan(a b:Int×Int)(c:Int):ai C 92 [.pv (.ag (sp b)),.pv (.ip (sp a)),.pv (.ip [i64 c])] (.p (bool (CS a c b))) []:=by
 refine fW hC Tryz.func92 rfl (by kernel_rfl) fun _=>?_;have hl:=zr b a
 repeat' first | apply iW<;>intro d<;>try simp only[zB]at d | refine⟨_,_,hl,?_⟩
 all_goals refine⟨?_,trivial⟩
 all_goals simp_all [bool,CS,Nh,Prod.ext_iff]<;>omega
theorem Pk(l:List (Int×Int))(hN:l.length<=140737488355328)(a:Int×Int)(c:Int):ai C 150 [.pv (.sl (l.map sp)),.pv (.fn 92 [.ip (sp a),.ip [i64 c]])] (.p (i64 (eM (CS a c) l 0))) []:=by
 refine fW hC Tryz.func150 rfl (by kernel_rfl) fun _=>?_;have J:=an l sp;refine aP (fun i:Nat=>i<=l.length/\∀z∈l.take i,CS a c z=false) (fun i=>[(0,.p (.sl (l.map sp))),(1,.p (.fn 92 [.ip (sp a),.ip [i64 c]])),(7,.p (i64 (l.map sp).length)),(8,.p (i64 i))]) (fun _=>[]) (fun i=>l.length-i) 0 _ (aA.refl _ _) ⟨ak _,by simp⟩ ⟨Z,Z,Z,Z,Y⟩ trivial fun i hi t h=>?_;apply iW<;>intro N
 ·rw[J]at N;obtain⟨r,I⟩:=ao (l:=l) (i:=i) (by omega);refine⟨(sp r),(idx rfl I),_,_,(aan a r c),iW ?_ ?_⟩<;>intro D
  ·refine⟨?_,trivial⟩;rw[eU I D hi.2,bp]
  exact⟨wO (by omega),(i+1),_,aA.refl _ _,⟨by omega,iu I D hi.2⟩,by omega,⟨Z,Z,Z,Z,Y⟩,trivial⟩
 rw[J]at N;refine⟨?_,trivial⟩;have D:=hi.2;rw[cK (by omega)]at D;rw[cT D];rfl
theorem Hb(l:List (Int×Int))(z:l.length<=140737488355328)(a:Int×Int)(c:Int):ai C 91 [.pv (.sl (l.map sp)),.pv (.fn 92 [.ip (sp a),.ip [i64 c]])] (.p (bool (l.any (CS a c)))) []:=by
 refine fW hC Tryz.func91 rfl (by kernel_rfl) fun _=>?_;refine⟨_,_,(Pk l z a c),?_,trivial⟩;rw[<-eZ _ l 0];rfl
def pQ(n:Int)(l:List (Int×Int))(i:Nat):Int:=match l[i]? with
 | some x=>if x.1<1\/n<x.2\/x.2<=x.1 then 1 else match l[i-1]? with
  | some p=>if 0<i/\¬lexLt p x then 8 else 0
  | none=>0
 | none=>0
def LD(a b:Int×Int):Bool:=decide (a.1<=b.2)&&(decide (b.1<=a.2)&&(!Nh a b&&!Nh b a))
def JH(B:List (Int×Int))(i:Nat):Int:=match B[i]? with
 | some a=>if (B.take i).any (LD a)=true then 12 else 0
 | none=>0
def yg(B:List (Int×Int))(a:Int×Int)(k:Nat):Bool:=(List.range k).any fun j=>!B.any (CS a (a.1+1+(j:Int)))
def Ni(B P:List (Int×Int))(i:Nat):Int:=match P[i]? with
 | some a=>if yg B a (a.2-a.1-1).toNat=true then 11 else 0
 | none=>0
def Ae(m:List fy)(s:List Lay)(l:List (Int×Int)):Int:=xr (bw (JH (gi m s l)) 0 (gi m s l).length) (bw (Ni (gi m s l) (ln m s l)) 0 (ln m s l).length)
def cW(m:List fy)(s:List Lay)(l:List (Int×Int)):Int:=xr (eu m s) (if 200<l.length then 2 else xr (bw (pQ (nC m s s.length) l) 0 l.length) (Ae m s l))
theorem De{n:Int}{l:List (Int×Int)}{i:Nat}{x p:Int×Int}(z:l[i]?=some x)(hp:l[i-1]?=some p):pQ n l i=if x.1<1\/n<x.2\/x.2<=x.1 then 1 else if 0<i/\¬lexLt p x then 8 else 0:=by
 simp only[pQ,z,hp]
theorem E2{n:Int}{l:List (Int×Int)}(h:∀k,k<l.length->pQ n l k=0):∀x∈l,1<=x.1/\x.1<x.2/\x.2<=n:=fun x z=>by
 obtain⟨k,hk⟩:=ca.1 z;have D:=(az.1 hk).1;obtain⟨p,hp⟩:=ao (l:=l) (i:=k-1) (by omega);have:=h k D;rw[De hk hp]at this;split at this
 ·cases this
 omega
theorem LF{m:List fy}{s:List Lay}{l:List (Int×Int)}(h:∀x∈l,1<=x.1/\x.1<x.2/\x.2<=nC m s s.length):∀x∈ln m s l,1<=x.1/\x.2<=nC m s s.length/\x.1<=2+s.length:=fun x D=>by
 have I:=(E1.1 ((oI Pg UT _).1.mem_iff.1 D)).1;have h2:=JF (m:=m) (s:=s) (i:=s.length);rcases b_.1 I with z | z
 ·have:=h x z;omega
 rw[bV.1 z];simp only;omega
theorem vS{m:List fy}{s:List Lay}{l:List (Int×Int)}:(gi m s l).length<=s.length+(l.length+1)/\(gi m s l).length=(dS m s s.length).length+(ln m s l).length:=by
 have h1:=zt (m:=m) (s:=s) (i:=s.length);have h2:=(oI Pg UT (gS (dS m s s.length) (D1 m s l))).1.length_eq;have z:=uM (dS m s s.length) (D1 m s l) (D1 m s l).length (aG _);rw[jR]at z;have h4:(D1 m s l).length=l.length+1:=by simp[D1]
 refine⟨?_,bJ ..⟩;rw[gi,bJ,ln];omega
theorem LG(B:List (Int×Int))(a:Int×Int)(k:Nat):yg B a (k+1)=(yg B a k||!B.any (CS a (a.1+1+(k:Int)))):=by
 unfold yg;rw[ga,Mx];simp
theorem SM{B:List (Int×Int)}{a:Int×Int}{k K:Nat}(h:yg B a (k+1)=true)(hk:k<K):yg B a K=true:=by
 unfold yg at h ⊢;rw[ee]at h ⊢;obtain⟨j,h1,z⟩:=h;exact⟨j,by rw[gG]at *;omega,z⟩
theorem qF(m:List fy)(s:List Lay)(l:List (Int×Int))(hm:y7 m)(hs:xy s)(hN:l.length<=1048576):ai C 39 [.pv (.sl (m.map vV)),.pv (.sl (s.map yq)),.pv (.sl (l.map sp))] (.p (i64 (cW m s l))) []:=by
 refine FP ⟨[32],[],[],[],[],[]⟩ hC Tryz.func39 rfl (by kernel_rfl) fun _=>?_;have lm:=an l sp;refine⟨_,_,(qu m s hm hs),iW ?_ ?_⟩<;>intro N
 ·have N:eu m s≠0:=by simpa using N
  refine⟨?_,trivial⟩;rw[cW,fM rfl N]
 have N:eu m s=0:=by simpa using N
 have gm:=y8 (dp N).1;have gl:=gm.len;rw[cW,mr N];apply iW<;>intro g2
 ·refine⟨?_,trivial⟩;rw[ae (by omega)];rfl
 rw[aa (by omega)];have RA:=pX m s gm.ord (by omega) hs.1;have hn:(((h_ m s s.length).map fun n=>[i64 n]).length:Int)=nC m s s.length:=by rw[au];rfl
 have Px:=JF (m:=m) (s:=s) (i:=s.length);have Qi:=hs.1;obtain⟨n,R⟩:∃n,n=nC m s s.length:=⟨_,rfl⟩;rw[<-R]at hn Px ⊢;refine⟨_,_,RA,?_⟩;refine aP (fun i:Nat=>i<=l.length/\∀k,k<i->pQ n l k=0) (fun i=>[(0,.p (.sl (m.map vV))),(1,.p (.sl (s.map yq))),(2,.p (.sl (l.map sp))),(8,.p (i64 n)),(33,.p (.sl (l.map sp))),(34,.p (i64 l.length)),(35,.p (i64 i))]) (fun _=>[]) (fun i=>l.length-i) 0 _ (aA.refl _ _) ⟨ak _,fun k h=>by omega⟩ ⟨rfl,rfl,rfl,bI hn,rfl,af (fun n:Nat=>AV.p (i64 n)) lm,Z,Y⟩ trivial fun i hi t h=>?_;apply iW<;>intro h1
 ·obtain⟨x,V⟩:=ao (l:=l) (i:=i) (by omega);obtain⟨p,hp⟩:=ao (l:=l) (i:=i-1) (by omega);have D:=De (n:=n) V hp;have I:∀{c:Int},pQ n l i=c->c≠0->bw (pQ n l) 0 l.length=c:=fun e h0=>aM hi.2 (by omega) e h0;refine⟨(sp x),(idx rfl V),iW ?_ ?_⟩<;>intro a1
  ·refine⟨?_,trivial⟩;rw[ae (.inl a1)]at D;rw[fM (I D (by decide)) (by decide)];rfl
  apply iW<;>intro a2
  ·refine⟨?_,trivial⟩;rw[ae (.inr (.inl a2))]at D;rw[fM (I D (by decide)) (by decide)];rfl
  apply iW<;>intro a3
  ·refine⟨?_,trivial⟩;rw[ae (.inr (.inr a3))]at D;rw[fM (I D (by decide)) (by decide)];rfl
  rw[aa (by omega)]at D;have W:(i:Int)-1=((i-1:Nat):Int)\/i=0:=by omega
  apply iW<;>intro b0
  ·have W:(i:Int)-1=((i-1:Nat):Int):=by omega
   refine⟨wO (by omega),(sp p),(idx W hp),iW ?_ ?_⟩<;>intro b1
   ·refine⟨?_,trivial⟩;rw[ae ⟨by omega,by unfold lexLt;omega⟩]at D;rw[fM (I D (by decide)) (by decide)];rfl
   refine⟨wO (by omega),(sp p),(idx W hp),iW ?_ ?_⟩<;>intro b2
   ·refine⟨wO (by omega),(sp p),(idx W hp),iW ?_ ?_⟩<;>intro b3
    ·refine⟨?_,trivial⟩;rw[ae ⟨by omega,by unfold lexLt;omega⟩]at D;rw[fM (I D (by decide)) (by decide)];rfl
    rw[aa (by unfold lexLt;omega)]at D;exact⟨wO (by omega),(i+1),_,aA.refl _ _,⟨by omega,eQ hi.2 D⟩,by omega,⟨Z,Z,Z,Z,Z,Z,Z,Y⟩,trivial⟩
   rw[aa (by unfold lexLt;omega)]at D;exact⟨wO (by omega),(i+1),_,aA.refl _ _,⟨by omega,eQ hi.2 D⟩,by omega,⟨Z,Z,Z,Z,Z,Z,Z,Y⟩,trivial⟩
  rw[aa (by omega)]at D;exact⟨wO (by omega),(i+1),_,aA.refl _ _,⟨by omega,eQ hi.2 D⟩,by omega,⟨Z,Z,Z,Z,Z,Z,Z,Y⟩,trivial⟩
 have VY:∀k,k<l.length->pQ n l k=0:=fun k hk=>hi.2 k (by omega);have Bv:=E2 VY;rw[mr (bR fun k _ hk=>VY k (by omega))];have hll:l.length<=200:=by omega
 have hbo:=yf m s l gm.ord (by omega) Qi (by omega) fun x V=>by
  have:=Bv x V;exact⟨⟨by omega,by omega⟩,by omega,by omega⟩
 rw[R]at Bv;have QG:=LF Bv;obtain⟨hBl,hBe⟩:=vS (m:=m) (s:=s) (l:=l);have TV:((gi m s l).map sp).drop (dS m s s.length).length=(ln m s l).map sp:=by rw[gi,bB,List.drop_left' (au ..)]
 rw[Ae];generalize gi m s l=B at *;generalize ln m s l=P at *;generalize (dS m s s.length).length=q at *;have lB:=an B sp;have lP:=an P sp;refine⟨_,_,hbo,?_⟩;refine aP (fun i:Nat=>i<=B.length/\∀k,k<i->JH B k=0) (fun i=>[(11,.p (.sl (B.map sp))),(12,.p (i64 q)),(99,.p (.sl (B.map sp))),(100,.p (i64 B.length)),(101,.p (i64 i))]) (fun _=>[]) (fun i=>B.length-i) 0 _ (aA.refl _ _) ⟨ak _,fun k h=>by omega⟩ ⟨rfl,rfl,rfl,af (fun n:Nat=>AV.p (i64 n)) lB,Z,Y⟩ trivial fun i hi t h=>?_;apply iW<;>intro h2
 ·obtain⟨a,O⟩:=ao (l:=B) (i:=i) (by omega);have D:JH B i=if (B.take i).any (LD a)=true then 12 else 0:=by simp only[JH,O]
  refine⟨(sp a),(idx rfl O),⟨by omega,by omega,by omega,xq fun _=>rfl⟩,?_⟩;have lT:((B.take i).map sp).length=i:=by rw[au,cE];omega
  have eT:((B.map sp).take (i:Int).toNat).drop (0:Int).toNat=(B.take i).map sp:=by simp
  have eL:((((B.map sp).take (i:Int).toNat).drop (0:Int).toNat).length:Int)=i:=by rw[eT,lT]
  refine aP (fun j:Nat=>j<=i/\∀z∈(B.take i).take j,LD a z=false) (fun j=>[(11,.p (.sl (B.map sp))),(12,.p (i64 q)),(99,.p (.sl (B.map sp))),(100,.p (i64 B.length)),(101,.p (i64 i)),(14,.bx 14 0),(108,.p (.sl ((B.take i).map sp))),(109,.p (i64 i)),(110,.p (i64 j))]) (fun _=>[(14,.box ((sp a).map .p))]) (fun j=>i-j) 0 _ (aA.refl _ _) ⟨ak _,by simp⟩ ⟨rfl,rfl,rfl,rfl,rfl,rfl,af (fun r=>AV.p (PV.sl r)) eT,bI eL,Z,Y⟩ ⟨Z,Y⟩ fun j hj t h=>?_;apply iW<;>intro h3
  ·obtain⟨b,hb⟩:=ao (l:=B.take i) (i:=j) (by rw[cE];omega);have c1:=zr a b;have c2:=zr b a;have kc:LD a b=(decide (a.1<=b.2)&&(decide (b.1<=a.2)&&(!(decide (b.1<=a.1)&&decide (a.2<=b.2))&&!(decide (a.1<=b.1)&&decide (b.2<=a.2))))):=rfl;generalize (decide (b.1<=a.1)&&decide (a.2<=b.2))=L1 at *;generalize (decide (a.1<=b.1)&&decide (b.2<=a.2))=L2 at *;refine⟨(sp b),(idx rfl hb),?_⟩
   repeat' first | apply iW<;>intro d | (refine⟨_,_,c1,?_⟩) | refine⟨_,_,c2,?_⟩
   all_goals skip
   all_goals first
    | (
      refine⟨?_,trivial⟩;have kb:LD a b=true:=by
       simp only[kc,aJ,db,qS];exact⟨by assumption,by assumption,by assumption,by assumption⟩
      rw[ae (ee.2 ⟨b,aj hb,kb⟩)]at D;rw[fM (aM hi.2 (by omega) D (by decide)) (by decide)];rfl)
    | (
      refine⟨wO (by omega),?_⟩;have kb:LD a b=false:=by
       simp only[kc,nt,nu,Bool.not_eq_false']
       first | exact .inl (by assumption) | exact .inr (.inl (by assumption)) | exact .inr (.inr (.inl (by assumption))) | exact .inr (.inr (.inr (by assumption)))
      refine⟨(j+1),_,aA.refl _ _,?_⟩;exact⟨⟨by omega,iu (p:=LD a) hb kb hj.2⟩,by omega,⟨Z,Z,Z,Z,Z,Z,Z,Z,Z,Y⟩,⟨Z,Y⟩⟩)
  refine⟨wO (by omega),?_⟩;have Ti:=hj.2;rw[cK (by rw[cE];omega)]at Ti;rw[aa (by rw[xl,GF];exact fun z hz=>by rw[Ti z hz];decide)]at D;exact⟨(i+1),_,aA.refl _ _,⟨by omega,eQ hi.2 D⟩,by omega,⟨Z,Z,Z,Z,Z,Y⟩,trivial⟩
 have z2:bw (JH B) 0 B.length=0:=bR fun k _ hk=>hi.2 k (by omega);rw[mr z2];refine⟨⟨by omega,by omega,by omega,xq fun _=>rfl⟩,?_⟩;have eD:((B.map sp).take ((B.map sp).length:Int).toNat).drop (q:Int).toNat=P.map sp:=by
  rw[F0,F0,jR,TV]
 refine aP (fun i:Nat=>i<=P.length/\∀k,k<i->Ni B P k=0) (fun i=>[(11,.p (.sl (B.map sp))),(142,.p (.sl (P.map sp))),(143,.p (i64 P.length)),(144,.p (i64 i))]) (fun _=>[]) (fun i=>P.length-i) 0 _ (aA.refl _ _) ⟨ak _,fun k h=>by omega⟩ ⟨rfl,af (fun r=>AV.p (PV.sl r)) eD,bI (by rw[eD,lP]),Z,Y⟩ trivial fun i hi t h=>?_;apply iW<;>intro h3
 ·obtain⟨a,O⟩:=ao (l:=P) (i:=i) (by omega);have D:Ni B P i=if yg B a (a.2-a.1-1).toNat=true then 11 else 0:=by simp only[Ni,O]
  obtain⟨p1,p2,p3⟩:=QG a (aj O);obtain⟨K,hK⟩:∃K,K=(a.2-a.1-1).toNat:=⟨_,rfl⟩;rw[<-hK]at D;refine⟨(sp a),(idx rfl O),wO (by omega),?_⟩;refine aP (fun k:Nat=>k<=K/\yg B a k=false) (fun k=>[(11,.p (.sl (B.map sp))),(142,.p (.sl (P.map sp))),(143,.p (i64 P.length)),(144,.p (i64 i)),(18,.p (.ip (sp a))),(19,.bx 19 0)]) (fun k=>[(19,.box [.p (i64 (a.1+1+(k:Int)))])]) (fun k=>K-k) 0 _ (aA.iT hC _ 18 (y:=.ip (sp a)) (fz:=[(18,.nd (sp a))]) ⟨rfl,rfl⟩) ⟨ak _,rfl⟩ ⟨Z,Z,Z,Z,Z,Z,Y⟩ ⟨by simp only[Int.natCast_zero,Int.add_zero];rfl,trivial⟩ fun k hk t h=>?_;apply iW<;>intro h4
  ·have JW:k<K:=by omega
   have U:=LG B a k;rw[hk.2,iq]at U;refine W1 19 (y:=.ip [i64 (a.1+1+(k:Int))]) (fz:=[(19,.nd [i64 (a.1+1+(k:Int))])]) (by exact hC) (by exact⟨rfl,rfl⟩) ?_;have J:=Hb B (by omega) a (a.1+1+(k:Int));cases hB:B.any (CS a (a.1+1+(k:Int))) with
   | false=>
    rw[hB]at J U;refine⟨_,_,J,?_,trivial⟩;rw[ae (SM U JW)]at D;rw[aM hi.2 (by omega) D (by decide)];rfl
   | true=>
    rw[hB]at J U;exact⟨_,_,J,wO (by omega),(k+1),_,aA.refl _ _,⟨by omega,U⟩,by omega,⟨Z,Z,Z,Z,Z,Z,Y⟩,⟨af (fun x:Int=>AB.box [AV.p (i64 x)]) (by omega),trivial⟩⟩
  have e:k=K:=by omega
  rw[<-e,hk.2,aa (by decide)]at D;exact⟨wO (by omega),(i+1),_,aA.refl _ _,⟨by omega,eQ hi.2 D⟩,by omega,⟨Z,Z,Z,Z,Y⟩,trivial⟩
 refine⟨?_,trivial⟩;rw[bR fun k _ hk=>hi.2 k (by omega)];rfl
open Reg (E0)
def tq{α β:Type}(f:Nat->α->β)(l:List α)(i:Nat):List β:=(List.range i).filterMap fun k=>l[k]?.map (f k)
theorem JI{β:Type}{f:Nat->α->β}{l:List α}{i:Nat}{x:α}(h:l[i]?=some x):tq f l (i+1)=tq f l i++[f i x]:=by
 unfold tq;rw[ga,List.filterMap_append];simp[h]
theorem Df{β:Type}(f:Nat->α->β)(l:List α)(i:Nat):(tq f l i).length<=i:=aS (List.length_filterMap_le _ _) (by simp)
def dm(l:List (Int×Int))(b:Int×Int)(j:Nat):List Int:=(E0 (fun x=>decide (x=b)) l j).map fun k:Nat=>(k:Int)
theorem LH{l:List (Int×Int)}{b x:Int×Int}{j:Nat}(h:l[j]?=some x):dm l b (j+1)=dm l b j++if x=b then [(j:Int)] else []:=by
 unfold dm;rw[Reg.LA h,bB];congr 1;by_cases e:x=b<;>simp[e]
theorem Pm(l:List (Int×Int))(b:Int×Int)(j:Nat):(dm l b j).length<=j:=by
 unfold dm;rw[au];exact Reg.SE _ _ _
def LI(q:Nat)(l:List (Int×Int))(i:Nat)(b:Int×Int):List PV:=[i64 b.1,i64 b.2,bool (decide ((i:Int)<(q:Int))),ints (dm l b l.length)]
def kq(m:List fy)(s:List Lay)(l:List (Int×Int)):List (List PV):=tq (LI (dS m s s.length).length l) (gi m s l) (gi m s l).length
def tr(m:List fy)(s:List Lay)(l:List (Int×Int)):List PV:=if cW m s l=0 then [.sl (kq m s l),i64 0] else [.sl [],i64 (cW m s l)]
theorem Dg{m:List fy}{l:List (Int×Int)}(h:cW m s l=0):eu m s=0/\l.length<=200/\(∀x∈l,1<=x.1/\x.1<x.2/\x.2<=nC m s s.length):=by
 obtain⟨D,z⟩:=dp h;split at z
 ·cases z
 obtain⟨I,_⟩:=dp z;exact⟨D,by omega,E2 fun k hk=>cP I k (ak _) (by omega)⟩
theorem D2(m:List fy)(s:List Lay)(l:List (Int×Int))(U:y7 m)(O:xy s)(V:l.length<=1048576):ai C 23 [.pv (.sl (m.map vV)),.pv (.sl (s.map yq)),.pv (.sl (l.map sp))] (.tu (tr m s l)) []:=by
 by_cases I:cW m s l=0
 ·rw[tr,ae I];obtain⟨g1,hll,Bv⟩:=Dg I;have W:=y8 (dp g1).1;have gl:=W.len;have Qi:=O.1;have Px:=JF (m:=m) (s:=s) (i:=s.length);have z:=qF m s l U O V;rw[I]at z;have R:=yf m s l W.ord (by omega) Qi (by omega) fun x N=>by
   have:=Bv x N;exact⟨⟨by omega,by omega⟩,by omega,by omega⟩
  obtain⟨hBl,hBe⟩:=vS (m:=m) (s:=s) (l:=l);rw[kq];generalize gi m s l=B at *;generalize (dS m s s.length).length=q at *;have lB:=an B sp;have lm:=an l sp;refine FP ⟨[16],[],[],[],[],[]⟩ hC Tryz.func23 rfl (by kernel_rfl) fun _=>?_;refine⟨_,_,z,_,_,R,?_⟩;refine aP (fun i:Nat=>i<=B.length) (fun i=>[(2,.p (.sl (l.map sp))),(9,.p (.sl (B.map sp))),(10,.p (i64 q)),(11,.ow 11),(31,.p (.sl (B.map sp))),(32,.p (i64 B.length)),(33,.p (i64 i))]) (fun i=>[(11,.row 68 (tq (LI q l) B i))]) (fun i=>B.length-i) 0 _ (aA.eK hC _ 11 68 _ (by decide) rfl rfl (by decide)) (ak _) ⟨rfl,rfl,rfl,rfl,rfl,af (fun n:Nat=>AV.p (i64 n)) lB,Z,Y⟩ ⟨Z,Y⟩ fun i hi t h=>?_;apply iW<;>intro h2
  ·obtain⟨b,hb⟩:=ao (l:=B) (i:=i) (by omega);have sA:=JI (f:=LI q l) hb;have Ah:=Df (LI q l) B i;refine⟨(sp b),(idx rfl hb),?_⟩;refine aP (fun j:Nat=>j<=l.length) (fun j=>[(2,.p (.sl (l.map sp))),(9,.p (.sl (B.map sp))),(10,.p (i64 q)),(11,.ow 11),(31,.p (.sl (B.map sp))),(32,.p (i64 B.length)),(33,.p (i64 i)),(13,.bx 13 0),(14,.bx 14 0),(46,.p (.sl (l.map sp))),(47,.p (i64 l.length)),(48,.p (i64 j))]) (fun j=>[(11,.row 68 (tq (LI q l) B i)),(13,.box ((sp b).map .p)),(14,.box [.p (i64 b.1),.p (i64 b.2),.p (bool (decide ((i:Int)<(q:Int)))),.ow 90000]),(90000,.row 3 ((dm l b j).map fun n=>[i64 n]))]) (fun j=>l.length-j) 0 _ (aA.gH hC _ 14 3 90000 3 _ _ (by decide) (by decide) rfl rfl rfl (by decide)) (ak _) ⟨rfl,rfl,rfl,rfl,rfl,rfl,rfl,rfl,rfl,rfl,af (fun n:Nat=>AV.p (i64 n)) lm,Z,Y⟩ ⟨Z,Z,Z,Z,Y⟩ fun j hj t h=>?_;apply iW<;>intro h3
   ·obtain⟨x,N⟩:=ao (l:=l) (i:=j) (by omega);have D:=LH (b:=b) N;have hhl:=Pm l b j;have lh:=an (dm l b j) fun n=>[i64 n];refine⟨(sp x),(idx rfl N),iW ?_ ?_⟩<;>intro J<;>try simp only[zB]at J
    ·rw[Bj]at J;rw[ae (l5 J)]at D;refine⟨⟨by simp,by rw[lh];simp;omega,by rw[lh];simp;omega⟩,wO (by omega),j+1,_,aA.N0 _ 60 90000 (by decide) (by decide),by omega,by omega,⟨Z,Z,Z,Z,Z,Z,Z,Z,Z,Z,Z,Z,Y⟩,⟨rfl,rfl,rfl,?_,trivial⟩⟩;show AB.row _ _=AB.row _ _;rw[D,bB];rfl
    rw[Bj]at J;rw[aa (of_decide_eq_false J),dP]at D;exact⟨wO (by omega),(j+1),_,aA.refl _ _,by omega,by omega,⟨Z,Z,Z,Z,Z,Z,Z,Z,Z,Z,Z,Z,Y⟩,⟨rfl,rfl,rfl,by rw[D];rfl,trivial⟩⟩
   have e:j=l.length:=by omega
   refine qk (aA.gI (by exact hC) _ 14 3 90000 3 _ _ (by decide) (by exact rfl) (by exact rfl) (by exact rfl)) ?_;refine⟨⟨by simp,by simp;omega,by simp;omega⟩,wO (by omega),(i+1),_,aA.refl _ _,by omega,by omega,⟨Z,Z,Z,Z,Z,Z,Z,Y⟩,⟨?_,trivial⟩⟩;show AB.row _ _=AB.row _ _;rw[sA,LI,<-e];rfl
  have e:i=B.length:=by omega
  rw[e];exact⟨Z,Y⟩
 rw[tr,aa I];have z:=qF m s l U O V;refine FP ⟨[16],[],[],[],[],[]⟩ hC Tryz.func23 rfl (by kernel_rfl) fun _=>?_;refine⟨_,_,z,iW ?_ ?_⟩<;>intro g
 ·refine⟨?_,trivial⟩;rfl
 exact absurd (by simpa using g) I
def yi:ByteArray:=⟨#[115,112,97,110,115]⟩
def yj(b:u_):Int×Int:=(b.lo+1,b.hi+1)
def rY(n:Int)(b:u_):Bool:=!gT b.lo 0 (n-1)||(!gT b.hi 0 (n-1)||decide (b.lo=b.hi))
def mH(o:Order):Bool:=o.bores.any (rY (fo o.stack))
def fS(o:Order):List (Int×Int):=JC (mG SI (o.bores.map yj))
theorem UY{o:Order}(h:mH o=false)(hS:o.stack.length<=1048576):∀b∈o.bores,0<=b.lo/\b.lo<=1048576/\0<=b.hi/\b.hi<=1048576:=fun b hb=>by
 have z:=GF.1 h b hb;have h2:=s5 o.stack;simp only[rY,gF,qS,not_or,Bool.not_eq_false]at z;have h3:=cd.1 z.1;have h4:=cd.1 z.2.1;omega
theorem SN{o:Order}(h:mH o=false)(hS:o.stack.length<=1048576):∀x∈o.bores.map yj,Bs x:=fun x z=>by
 obtain⟨b,hb,rfl⟩:=aZ.1 z;have:=UY h hS b hb;unfold Bs yj;dsimp only;omega
def oJ(o:Order):List PV:=if mH o=true then [.sl [],.sl [],.ag (Lc nN 1)] else if cW o.mats o.stack (fS o)=0 then [.sl (kq o.mats o.stack (fS o)),.sl ((fS o).map sp),.ag (Lc yi 0)] else [.sl [],.sl ((fS o).map sp),.ag (Lc yi (cW o.mats o.stack (fS o)))]
theorem D3(o:Order)(I:y7 o.mats)(hs:xy o.stack)(hN:o.bores.length<=1000000):ai C 9 [.pv (.ag (A8 o))] (.tu (oJ o)) []:=by
 have lb:=an o.bores vK;have J:=hs.1;have hnl:=s5 o.stack;have N:=eC nN 1;have N:ai C 14 [.pv (str nN),.pv (i64 1)] (.p (.ag [i64 1,str nN])) []:=N;have z:∀{b:u_},b∈o.bores->rY (fo o.stack) b=true->oJ o=[.sl [],.sl [],.ag [i64 1,str nN]]:=fun hb e=>by
  rw[oJ,ae (show mH o=true from ee.2 ⟨_,hb,e⟩)];rfl
 refine fW hC Tryz.func9 rfl (by kernel_rfl) fun _=>?_;refine⟨_,_,(pZ o J),?_⟩;refine aP (fun i:Nat=>i<=o.bores.length/\∀b∈o.bores.take i,rY (fo o.stack) b=false) (fun i=>[(1,.bx 1 0),(4,.bx 4 0),(5,.p (i64 (fo o.stack:Nat))),(6,.ow 6),(14,.p (.sl (o.bores.map vK))),(15,.p (i64 o.bores.length)),(16,.p (i64 i))]) (fun i=>[(1,.box ((A8 o).map .p)),(4,.box [.p (i64 0),.p (str bC)]),(6,.row 86 (((o.bores.take i).map yj).map sp))]) (fun i=>o.bores.length-i) 0 _ (aA.eK hC _ 6 86 _ (by decide) rfl rfl (by decide)) ⟨ak _,by simp⟩ ⟨rfl,rfl,rfl,rfl,rfl,af (fun n:Nat=>AV.p (i64 n)) lb,Z,Y⟩ ⟨Z,Z,Z,Y⟩ fun i hi t h=>?_;apply iW<;>intro h1
 ·obtain⟨b,hb⟩:=ao (l:=o.bores) (i:=i) (by omega);have I:=aj hb;have w1:=jc b.lo 0 ((fo o.stack:Nat)-1);have w2:=jc b.hi 0 ((fo o.stack:Nat)-1);have O:rY (fo o.stack) b=(!gT b.lo 0 ((fo o.stack:Nat)-1)||(!gT b.hi 0 ((fo o.stack:Nat)-1)||decide (b.lo=b.hi))):=rfl;have nQ:gT b.lo 0 ((fo o.stack:Nat)-1)=true->0<=b.lo/\b.lo<=1048576:=fun e=>by have:=cd.1 e;omega
  have U:gT b.hi 0 ((fo o.stack:Nat)-1)=true->0<=b.hi/\b.hi<=1048576:=fun e=>by have:=cd.1 e;omega
  have Yk:(((o.bores.take i).map yj).map sp).length=i:=by simp;omega
  refine⟨(vK b),(idx rfl hb),wO (by omega),?_⟩;generalize gT b.lo 0 ((fo o.stack:Nat)-1)=L1 at *;generalize gT b.hi 0 ((fo o.stack:Nat)-1)=L2 at *;cases L1 with
  | false=>
   refine⟨_,_,w1,_,_,N,?_,trivial⟩;rw[z I O];rfl
  | true=>
   refine⟨_,_,w1,wO (by omega),?_⟩;cases L2 with
   | false=>
    refine⟨_,_,w2,_,_,N,?_,trivial⟩;rw[z I O];rfl
   | true=>
    refine⟨_,_,w2,?_⟩;have q1:=nQ rfl;have q2:=U rfl;apply iW<;>intro d
    ·refine⟨_,_,N,?_,trivial⟩;rw[z I (by rw[O,jS d];rfl)];rfl
    have V:rY (fo o.stack) b=false:=by rw[O,aY d];rfl
    exact⟨wO (by omega),wO (by omega),⟨fun r hr=>(by rw[bV.1 hr];rfl),by rw[Yk];simp;omega,by rw[Yk];simp;omega⟩,wO (by omega),(i+1),_,aA.refl _ _,⟨by omega,iu (p:=rY (fo o.stack)) hb V hi.2⟩,by omega,⟨Z,Z,Z,Z,Z,Z,Z,Y⟩,⟨rfl,rfl,by rw[bq hb,bB,bB];rfl,trivial⟩⟩
 have h2:=hi.2;rw[cK (by omega)]at h2 ⊢;have e0:mH o=false:=GF.2 fun b hb=>by rw[h2 b hb];decide
 have W:=SN e0 J;have Qi:=(oI SI aal (o.bores.map yj)).1.length_eq;rw[au]at Qi;have jx:=Reg.US (mG SI (o.bores.map yj));refine⟨_,_,(G_ (o.bores.map yj) W (by rw[au];omega)),_,_,(D0 (mG SI (o.bores.map yj)) (by omega)),?_⟩;have hp:=D2 o.mats o.stack (fS o) I hs (by show (JC _).length<=_;omega);have R:=eC yi (cW o.mats o.stack (fS o));rw[oJ,aa (by rw[e0];decide)];by_cases D:cW o.mats o.stack (fS o)=0
 ·rw[tr,ae D]at hp;rw[D,Lc,ae rfl]at R;rw[ae D];refine⟨_,_,hp,_,_,R,?_,trivial⟩;rfl
 rw[tr,aa D]at hp;rw[iP D]at R;rw[aa D,iP D];refine⟨_,_,hp,_,_,R,?_,trivial⟩;rfl
end M
end Go.Proofs.YtihgjolmpjjblaaGreatDoor
