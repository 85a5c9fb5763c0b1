/- Two times so many boards cost as much more as so many cost more than none. Condition: what is read is of bulk at most 1048576; the listed variables are tied to the program's text by the card. -/
import Derived.Test.YtihgjolmpjjblaaGreatDoorP13
set_option linter.unusedVariables false
set_option linter.unusedSimpArgs false
set_option maxRecDepth 100000
set_option maxHeartbeats 8000000
namespace Go.Proofs.YtihgjolmpjjblaaGreatDoor
namespace M
open Go.AM Go.RowKit Go.Lib
open Reg (aB aR dq oW yr dF gy told Full RK)
structure fb where
 setup:Int
 area:Int
 copper:Int
 bore:Int
 part:Int
 press:Int
def fb.all(p:fb):List Int:=[p.setup,p.area,p.copper,p.bore,p.part,p.press]
def Pn(p:fb):List PV:=[i64 p.setup,i64 p.area,i64 p.copper,i64 p.bore,i64 p.part,i64 p.press]
def ym:ByteArray:=⟨#[112,114,105,99,101,115]⟩
def Nj:List PV->Bool
 | [_,_,.im (.bool c),_]=>c
 | _=>false
def yn(l:List (List PV)):Nat:=(l.filter fun r=>!Nj r).length
theorem Po{l:List (List PV)}{i:Nat}{r:List PV}(h:l[i]?=some r):yn (l.take (i+1))=yn (l.take i)+if Nj r=true then 0 else 1:=by
 unfold yn;rw[bq h,l_,bJ];cases hc:Nj r<;>simp[hc]
theorem Nk(l:List (List PV)):yn l<=l.length:=kJ _ _
def Af(o:Order):Int:=(jt 0 (told (bS o.outline).1)+1000000-1).tdiv 1000000
def LJ(o:Order)(p:fb):Int:=p.area*Af o+p.copper*o.plots.length+p.bore*o.bores.length+p.part*o.places.length
def vm(o:Order):List (List PV):=kq o.mats o.stack (fS o)
def gx(o:Order)(p:fb)(n:Int):Int×ByteArray:=
 if (aX o).1≠0 then aX o else
 if p.all.any (fun x=>!gT x 0 100000)=true then (1,ym) else
 if gT n 0 1000=false then (1,ym) else
 if mH o=true then (1,nN) else
 if cW o.mats o.stack (fS o)≠0 then (cW o.mats o.stack (fS o),yi) else (0,bC)
def oK(o:Order)(p:fb)(n:Int):Int:=if (gx o p n).1=0 then p.setup+n*LJ o p+yn (vm o)*p.press else 0
theorem UZ{l:List aB}(h:∀r∈l,Full r/\RK 1000000 r):∀n:Int,n<=jt n l/\jt n l<=n+4000000000000*l.length:=by
 induction l with
 | nil=>intro n;simp[jt]
 | cons r l ih=>
  intro n;obtain⟨z,D⟩:=h r (by simp);have:=ih (fun q I=>h q (by simp[I])) (n+(r.x1-r.x0)*(r.y1-r.y0));unfold Full at z;unfold RK at D;have a1:0<=(r.x1-r.x0)*(r.y1-r.y0):=pE (by omega) (by omega);have a2:(r.x1-r.x0)*(r.y1-r.y0)<=2000000*2000000:=ur (by omega) (by omega) (by omega) (by omega);have e:jt n (r::l)=jt (n+(r.x1-r.x0)*(r.y1-r.y0)) l:=rfl;rw[e,bN];omega
theorem tv{a b A B:Int}(z:0<=a/\a<=A)(hb:0<=b/\b<=B):0<=a*b/\a*b<=A*B:=
 ⟨pE z.1 hb.1,ur z.2 hb.2 hb.1 (by omega)⟩
theorem Pp{m:List fy}{s:List Lay}{l:List (Int×Int)}:∀r∈kq m s l,∃a b c h,r=[i64 a,i64 b,bool c,h]:=fun r z=>by
 unfold kq tq at z;obtain⟨k,_,hk⟩:=wy.1 z;rw[aV]at hk;obtain⟨b,_,rfl⟩:=hk;exact⟨_,_,_,_,rfl⟩
theorem JJ{o:Order}(z:gP o)(h:cW o.mats o.stack (fS o)=0):(vm o).length<=2000000:=by
 have h1:=Df (LI (dS o.mats o.stack o.stack.length).length (fS o)) (gi o.mats o.stack (fS o)) (gi o.mats o.stack (fS o)).length;have h2:=(vS (m:=o.mats) (s:=o.stack) (l:=fS o)).1;have h3:=(Dg h).2.1;have h4:=z.stack.1;unfold vm kq;omega
theorem oL{o:Order}{p:fb}{n:Int}(h:(gx o p n).1=0):(aX o).1=0/\(∀x∈p.all,gT x 0 100000=true)/\gT n 0 1000=true/\mH o=false/\cW o.mats o.stack (fS o)=0:=by
 unfold gx at h;split at h
 ·rename_i z;exact absurd h z
 rename_i I;split at h
 ·cases h
 rename_i D;split at h
 ·cases h
 rename_i J;split at h
 ·cases h
 rename_i N;split at h
 ·rename_i z;exact absurd h z
 rename_i O;refine⟨by simpa using I,fun x R=>?_,by simpa using J,by simpa using N,by simpa using O⟩;rw[xl,GF]at D;simpa using D x R
structure U0(o:Order)(p:fb):Prop where
 area:0<=jt 0 (told (bS o.outline).1)/\jt 0 (told (bS o.outline).1)<=8000000000000000
 out:∀r∈told (bS o.outline).1,Full r/\RK 1000000 r
 few:(told (bS o.outline).1).length<=2000
 ar:0<=p.area*Af o/\p.area*Af o<=900000000000000
 co:0<=p.copper*o.plots.length/\p.copper*o.plots.length<=104857600000
 bo:0<=p.bore*o.bores.length/\p.bore*o.bores.length<=104857600000
 pa:0<=p.part*o.places.length/\p.part*o.places.length<=104857600000
 one:0<=LJ o p/\LJ o p<=910000000000000
theorem Dh{o:Order}(h:(aX o).1=0):(fa o).1=0/\(bS o.outline).2=0:=by
 unfold aX at h;split at h
 ·rename_i z;exact absurd h z
 rename_i D;split at h
 ·rename_i z;exact absurd h z
 split at h
 ·rename_i z;exact absurd h z
 rename_i I;exact⟨by simpa using D,by simpa using I⟩
theorem JK{o:Order}(D:gP o){p:fb}(hb:(aX o).1=0)(hp:∀x∈p.all,gT x 0 100000=true):U0 o p:=by
 obtain⟨I,J,N⟩:=rT (Dh hb).2;have z:∀r∈told (bS o.outline).1,Full r/\RK 1000000 r:=fun r z=>⟨Reg.nW I r z,Reg.ux I J r z⟩;have ha:=UZ z 0;have O:=cd.1 (hp p.area (by simp[fb.all]));have R:=cd.1 (hp p.copper (by simp[fb.all]));have U:=cd.1 (hp p.bore (by simp[fb.all]));have V:=cd.1 (hp p.part (by simp[fb.all]));have n1:=D.plots.1;have n2:=D.bores;have n3:=D.places.1;have W:0<=jt 0 (told (bS o.outline).1)/\jt 0 (told (bS o.outline).1)<=8000000000000000:=by omega
 have Y:0<=Af o/\Af o<=9000000000:=by
  unfold Af;rw[gM (by omega)];omega
 have r1:=tv O Y;have r2:=tv (b:=(o.plots.length:Int)) (B:=1048576) R (by omega);have r3:=tv (b:=(o.bores.length:Int)) (B:=1048576) U (by omega);have r4:=tv (b:=(o.places.length:Int)) (B:=1048576) V (by omega);refine⟨W,z,N,by omega,by omega,by omega,by omega,?_⟩;unfold LJ;omega
open Go.ChangeShapes
variable {H:Type} {enc:TypeId×Value->H} {w:World} {S:Nat->Prop}
theorem SO:Sp enc w S 45 6 Pn (UB (fun _=>True)):=fun n cs x h=>by
 obtain⟨hl,ds,e,ld,q⟩:=cU (S:=S) (ks:=fun i=>match i with | _=>1) (hk:=dI (by kernel_rfl)) (Qs:=fun i xs d=>∃r:Int,xs=[i64 r]/\UB (fun _=>True) r (Rows.uptoBulk d)) Tryz.underlying45 (fun i f z=>by
  match i,z with
  | 0,z=>cases z;exact ui
  | 1,z=>cases z;exact ui
  | 2,z=>cases z;exact ui
  | 3,z=>cases z;exact ui
  | 4,z=>cases z;exact ui
  | 5,z=>cases z;exact ui
  | n+6,z=>cases z) h
 have hl:cs.length=6:=hl.trans (by kernel_rfl);obtain⟨x0,c0,_,V,i0,I,W,b0⟩:=q 0 _ rfl;obtain⟨x1,c1,_,Y,i1,J,Z,b1⟩:=q 1 _ rfl;obtain⟨x2,c2,_,r2,i2,N,e2,b2⟩:=q 2 _ rfl;obtain⟨x3,c3,_,r3,i3,O,e3,b3⟩:=q 3 _ rfl;obtain⟨x4,c4,_,r4,i4,R,e4,b4⟩:=q 4 _ rfl;obtain⟨x5,c5,_,r5,i5,U,e5,b5⟩:=q 5 _ rfl;cases W;cases Z;cases e2;cases e3;cases e4;cases e5;have D:bL S w 0 ([i64 I]++([i64 J]++([i64 N]++([i64 O]++([i64 R]++([i64 U])))))) cs:=bL.join V (bL.join Y (bL.join r2 (bL.join r3 (bL.join r4 (r5)))));exact⟨_,rfl,hl,fun i c v h1 h2=>D i c v h1 (by rw[bp];exact h2),⟨I,J,N,O,R,U⟩,rfl,fun _=>trivial⟩
end M
namespace M
open Go.AM Go.RowKit Go.Lib
open Reg (aB aR dq oW yr dF gy told Full RK)
theorem JL{o:Order}(h:(fa o).1=0):o.bores.length<=500:=by
 unfold fa at h;split at h
 ·rename_i z;exact absurd h z
 split at h
 ·rename_i z;exact absurd h z
 split at h
 ·cases h
 split at h
 ·rename_i z;exact absurd h z
 unfold vi at h;split at h
 ·rename_i z;exact absurd h z
 split at h
 ·cases h
 omega
theorem mI(o:Order)(ho:gP o)(p:fb)(n:Int):ai C 4 [.pv (.ag (A8 o)),.pv (.ag (Pn p)),.pv (i64 n)] (.tu [i64 (oK o p n),str (gx o p n).2,i64 (gx o p n).1]) []:=by
 obtain⟨F,U⟩:∃F,F=gx o p n:=⟨_,rfl⟩;obtain⟨V,W⟩:∃V,V=oK o p n:=⟨_,rfl⟩;rw[<-U,<-W];rw[oK,<-U]at W;have PA:=JB o ho;have hpg:=fun h=>@oL o p n (U▸h);rw[gx]at U;refine fW hC Tryz.func4 rfl (by kernel_rfl) fun _=>?_;by_cases g1:(aX o).1=0
 ·rw[aa (fun h=>h g1)]at U;rw[G9,ae g1]at PA;refine⟨_,_,PA,_,_,(my (aX o).1 (aX o).2),iW ?_ ?_⟩<;>intro g2
  ·exact absurd (by simpa using g2) (fun h:¬(aX o).1=0=>h g1)
  refine aP (fun i:Nat=>i<=6/\∀x∈p.all.take i,(!gT x 0 100000)=false) (fun i=>[(2,.p (i64 n)),(3,.bx 3 0),(4,.bx 4 0),(9,.bx 9 0),(10,.bx 10 0),(43,.p (ints p.all)),(44,.p (i64 6)),(45,.p (i64 i))]) (fun _=>[(3,.box ((A8 o).map .p)),(4,.box ((Pn p).map .p)),(9,.box ((Jz o).map .p)),(10,.box [.p (i64 (aX o).1),.p (str (aX o).2)])]) (fun i=>6-i) 0 _ (aA.own hC _ 43 rfl rfl) ⟨ak _,by simp⟩ ⟨Z,Z,Z,Z,Z,Z,Z,Z,Y⟩ ⟨Z,Z,Z,Z,Y⟩ fun i hi t h=>?_;apply iW<;>intro h1
  ·obtain⟨x,hx⟩:=ao (l:=p.all) (i:=i) (by show i<6;omega);refine⟨[i64 x],(idx rfl hx),_,_,(jc x 0 100000),iW ?_ ?_⟩<;>intro h2
   ·rw[ae (ee.2 ⟨x,aj hx,by rw[h2];rfl⟩)]at U;subst U;rw[aa (by decide)]at W;subst W;refine⟨?_,trivial⟩;rfl
   exact⟨wO (by omega),(i+1),_,aA.refl _ _,⟨by omega,iu (p:=fun x=>!gT x 0 100000) hx (by simpa using h2) hi.2⟩,by omega,⟨Z,Z,Z,Z,Z,Z,Z,Z,Y⟩,⟨Z,Z,Z,Z,Y⟩⟩
  have e:i=6:=by omega
  subst e;have Eb:p.all.any (fun x=>!gT x 0 100000)=false:=by
   rw[GF];intro x hx;simpa using hi.2 x hx
  rw[aa (by rw[Eb];decide)]at U;refine⟨_,_,(jc n 0 1000),iW ?_ ?_⟩<;>intro h3
  ·rw[ae (by simpa using h3)]at U;subst U;rw[aa (by decide)]at W;subst W;refine⟨?_,trivial⟩;rfl
  have h3:gT n 0 1000=true:=by simpa using h3
  rw[aa (by rw[h3];decide)]at U;have Hv:=D3 o ho.mats ho.stack (by have:=JL (Dh g1).1;omega);by_cases e1:mH o=true
  ·rw[ae e1]at U;subst U;rw[aa (by decide)]at W;subst W;rw[oJ,ae e1,iP (by decide)]at Hv;refine⟨_,_,Hv,_,_,(my 1 nN),?_,trivial⟩;rfl
  rw[aa e1]at U;by_cases e2:cW o.mats o.stack (fS o)=0
  ·rw[aa (fun h=>h e2)]at U;subst U;rw[ae rfl]at W;rw[oJ,aa e1,ae e2,Lc,ae rfl]at Hv;have nQ:=JK ho g1 (p:=p) fun x hx=>by simpa using GF.1 Eb x hx
   have Jo:=JJ ho e2;have XY:=cd.1 (show gT p.press 0 100000=true by simpa using GF.1 Eb p.press (by simp[fb.all]));have qh:=cd.1 (show gT p.setup 0 100000=true by simpa using GF.1 Eb p.setup (by simp[fb.all]));have hn:=cd.1 h3;have DB:=tv hn nQ.one;obtain⟨a1,a2,a3,a4,a5,a6,a7,a8⟩:=nQ;have har:=GQ (told (bS o.outline).1) (fun r hr=>⟨(a2 r hr).1,Reg.VT (a2 r hr).1 (a2 r hr).2⟩) (by omega);have I:LJ o p=p.area*Af o+p.copper*o.plots.length+p.bore*o.bores.length+p.part*o.places.length:=rfl;have aw:=@Pp o.mats o.stack (fS o);have nP:=fun i r h=>@Po (vm o) i r h;have jx:=fun i=>Nk ((vm o).take i);have J:=an o.plots fun p=>[aE (told (bS p).1)];have N:=an o.bores vK;have O:=an o.places EG;have D:Af o=(jt 0 (told (bS o.outline).1)+1000000-1).tdiv 1000000:=rfl;have htd:0<=(jt 0 (told (bS o.outline).1)+1000000-1).tdiv 1000000/\(jt 0 (told (bS o.outline).1)+1000000-1).tdiv 1000000<=9000000000:=by
    rw[gM (by omega)];omega
   rw[<-D]at htd;rw[show kq o.mats o.stack (fS o)=vm o from rfl]at Hv aw;generalize vm o=R at *;refine⟨_,_,Hv,_,_,(my 0 bC),_,_,har,wO (by omega),wO (by omega),by decide,⟨by (try rw[<-D]);(try rw[J]);(try rw[N]);(try rw[O]);(try rw[<-I]);omega,by (try rw[<-D]);(try rw[J]);(try rw[N]);(try rw[O]);(try rw[<-I]);omega⟩,⟨by (try rw[<-D]);(try rw[J]);(try rw[N]);(try rw[O]);(try rw[<-I]);omega,by (try rw[<-D]);(try rw[J]);(try rw[N]);(try rw[O]);(try rw[<-I]);omega⟩,⟨by (try rw[<-D]);(try rw[J]);(try rw[N]);(try rw[O]);(try rw[<-I]);omega,by (try rw[<-D]);(try rw[J]);(try rw[N]);(try rw[O]);(try rw[<-I]);omega⟩,⟨by (try rw[<-D]);(try rw[J]);(try rw[N]);(try rw[O]);(try rw[<-I]);omega,by (try rw[<-D]);(try rw[J]);(try rw[N]);(try rw[O]);(try rw[<-I]);omega⟩,⟨by (try rw[<-D]);(try rw[J]);(try rw[N]);(try rw[O]);(try rw[<-I]);omega,by (try rw[<-D]);(try rw[J]);(try rw[N]);(try rw[O]);(try rw[<-I]);omega⟩,⟨by (try rw[<-D]);(try rw[J]);(try rw[N]);(try rw[O]);(try rw[<-I]);omega,by (try rw[<-D]);(try rw[J]);(try rw[N]);(try rw[O]);(try rw[<-I]);omega⟩,⟨by (try rw[<-D]);(try rw[J]);(try rw[N]);(try rw[O]);(try rw[<-I]);omega,by (try rw[<-D]);(try rw[J]);(try rw[N]);(try rw[O]);(try rw[<-I]);omega⟩,⟨by (try rw[<-D]);(try rw[J]);(try rw[N]);(try rw[O]);(try rw[<-I]);omega,by (try rw[<-D]);(try rw[J]);(try rw[N]);(try rw[O]);(try rw[<-I]);omega⟩,⟨by (try rw[<-D]);(try rw[J]);(try rw[N]);(try rw[O]);(try rw[<-I]);omega,by (try rw[<-D]);(try rw[J]);(try rw[N]);(try rw[O]);(try rw[<-I]);omega⟩,⟨by (try rw[<-D]);(try rw[J]);(try rw[N]);(try rw[O]);(try rw[<-I]);omega,by (try rw[<-D]);(try rw[J]);(try rw[N]);(try rw[O]);(try rw[<-I]);omega⟩,?_⟩;refine aP (fun i:Nat=>i<=R.length) (fun i=>[(2,.p (i64 n)),(4,.bx 4 0),(17,.p (i64 (p.setup+n*LJ o p+yn (R.take i)*p.press))),(105,.p (.sl R)),(106,.p (i64 R.length)),(107,.p (i64 i))]) (fun _=>[(4,.box ((Pn p).map .p))]) (fun i=>R.length-i) 0 _ (aA.refl _ _) (ak _) ⟨rfl,rfl,?_,Z,Z,Z,Y⟩ ⟨Z,Y⟩ fun i hi t h=>?_
   ·refine af (fun z=>AV.p (i64 z)) ?_;rw[<-D,J,N,O,<-I];simp[yn]
   have Yx:=jx i;rw[cE]at Yx;have hc2:=tv (a:=(yn (R.take i):Int)) (A:=2000000) (by omega) XY;apply iW<;>intro h5
   ·obtain⟨r,hr⟩:=ao (l:=R) (i:=i) (by omega);obtain⟨x1,x2,c,x3,er⟩:=aw r (aj hr);have VC:=nP i r hr;refine⟨r,⟨by omega,by rw[F0];exact hr⟩,?_⟩;subst er;have VN:Nj [i64 x1,i64 x2,bool c,x3]=c:=rfl;apply iW<;>intro h6
    ·have VC:yn (R.take (i+1))=yn (R.take i)+1:=by rw[VC,aa (by rw[VN,h6];decide)]
     refine⟨wO (by omega),wO (by omega),(i+1),_,aA.refl _ _,by omega,by omega,⟨rfl,rfl,?_,Z,Z,Z,Y⟩,⟨Z,Y⟩⟩;refine af (fun z=>AV.p (i64 z)) ?_;rw[VC,Ba,GG];simp;omega
    have VC:yn (R.take (i+1))=yn (R.take i):=by rw[VC,ae (by rw[VN,h6]),mY]
    refine⟨wO (by omega),(i+1),_,aA.refl _ _,by omega,by omega,⟨rfl,rfl,?_,Z,Z,Z,Y⟩,⟨Z,Y⟩⟩;rw[VC];rfl
   have e:i=R.length:=by omega
   subst e;rw[jR];subst W;refine⟨?_,trivial⟩;rfl
  rw[ae e2]at U;subst U;rw[aa e2]at W;subst W;rw[oJ,aa e1,aa e2,iP e2]at Hv;refine⟨_,_,Hv,_,_,(my (cW o.mats o.stack (fS o)) yi),iW ?_ ?_⟩<;>intro h6
  ·refine⟨?_,trivial⟩;rfl
  exact absurd (by simpa using h6) e2
 rw[ae g1]at U;subst U;rw[aa g1]at W;subst W;rw[qE g1]at PA;refine⟨_,_,PA,_,_,(my (aX o).1 (aX o).2),iW ?_ ?_⟩<;>intro g2
 ·refine⟨?_,trivial⟩;rfl
 exact absurd (by simpa using g2) g1
open Reg (cw)
def p0:cy:=⟨0,[],.nil⟩
def o0:Order:=⟨[],⟨[],[]⟩,[],[],[],p0,[],[],[],[],⟨0,0,0,0,0,[],[]⟩⟩
theorem SP:pW p0:=⟨⟨by decide,fun t z=>by cases z⟩,by decide,trivial⟩
theorem Pq:gP o0 where
 types:=⟨by decide,fun t z=>by cases z⟩
 list:=⟨⟨by decide,fun t z=>by cases z⟩,by decide,fun t z=>by cases z⟩
 mats:=⟨by decide,fun t z=>by cases z⟩
 stack:=⟨by decide,fun t z=>by cases z⟩
 plots:=⟨by decide,fun t z=>by cases z⟩
 outline:=SP
 bores:=by decide
 bodies:=⟨by decide,fun t z=>by cases z⟩
 places:=⟨by decide,fun t z=>by cases z⟩
 feet:=⟨by decide,fun t z=>by cases z⟩
 rules:=⟨fun t z=>(by cases z),by decide,by decide⟩
theorem XZ:fa o0=(3,GX):=by decide
theorem pR:ai C 5 [] (.p (bool true)) []:=by
 refine fW hC Tryz.func5 rfl (by kernel_rfl) fun _=>?_;have h:=zm o0 Pq;rw[XZ]at h;refine⟨_,_,h,?_,trivial⟩;rfl
theorem LK{o:Order}{p:fb}{n:Int}(h:(gx o p n).1≠0):oK o p n=0:=aa h
theorem tw{o:Order}{p:fb}{n:Int}(h:(gx o p n).1=0):oK o p n=p.setup+n*LJ o p+yn (vm o)*p.press:=ae h
theorem vT{o:Order}{p:fb}{n:Int}(h:(gx o p n).1=0)(k:Int):gx o p k=if gT k 0 1000=true then (0,bC) else (1,ym):=by
 obtain⟨z,D,h3,I,J⟩:=oL h;unfold gx;rw[aa (fun h=>h z),aa (by rw[xl,GF];intro x N;simpa using D x N)];cases hk:gT k 0 1000 with
 | false=>rw[ae rfl,aa (by decide)]
 | true=>rw[aa (by decide),aa (by rw[I];decide),aa (fun h=>h J),ae rfl]
theorem yo{o:Order}(D:gP o){p:fb}{n:Int}(h:(gx o p n).1=0):0<=oK o p n/\oK o p n<=1000000000000000000:=by
 obtain⟨I,z,J,h4,N⟩:=oL h;rw[tw h];have O:=JK D I z;have R:=cd.1 J;have a1:=tv R O.one;have U:=cd.1 (z p.press (by simp[fb.all]));have qh:=cd.1 (z p.setup (by simp[fb.all]));have hf:=JJ D N;have hc:=Nk (vm o);have a2:=tv (a:=(yn (vm o):Int)) (A:=2000000) (by omega) U;omega
theorem Pr(o:Order)(D:gP o)(p:fb)(n m:Int):ai C 3 [.pv (.ag (A8 o)),.pv (.ag (Pn p)),.pv (i64 n),.pv (i64 m)] (.p (bool true)) []:=by
 refine fW hC Tryz.func3 rfl (by kernel_rfl) fun _=>?_;refine⟨_,_,(mI o D p n),_,_,(mI o D p m),iW ?_ ?_⟩<;>intro z
 ·apply iW<;>intro R
  ·exact absurd R z
  apply iW<;>intro Y
  ·refine⟨_,_,pR,?_,trivial⟩;rfl
  exact absurd (LK z) Y
 apply iW<;>intro I
 ·apply iW<;>intro R
  ·refine⟨_,_,pR,?_,trivial⟩;rfl
  exact absurd (by simpa using z) R
 have z:(gx o p n).1=0:=by simpa using z
 have I:(gx o p m).1=0:=by simpa using I
 have hn:=cd.1 (oL z).2.2.1;have hm:=cd.1 (oL I).2.2.1;have U:gx o p 0=(0,bC):=by rw[vT z];rfl
 have V:(gx o p 0).1=0:=by rw[U]
 have p0:=mI o D p 0;rw[U]at p0;have q1:=yo D z;have q2:=yo D I;have q3:=yo D V;refine⟨_,_,p0,wO (by omega),?_⟩;by_cases hk:gT (n+m) 0 1000=true
 ·have O:gx o p (n+m)=(0,bC):=by rw[vT z,ae hk]
  have J:(gx o p (n+m)).1=0:=by rw[O]
  have N:=mI o D p (n+m);rw[O]at N;have q4:=yo D J;have key:oK o p (n+m)+oK o p 0=oK o p n+oK o p m:=by
   rw[tw z,tw I,tw V,tw J,GG,Int.zero_mul];omega
  refine⟨_,_,N,wO (by omega),wO (by omega),iW ?_ ?_⟩<;>intro W
  ·refine⟨_,_,pR,?_,trivial⟩;rfl
  exact absurd key W
 have O:gx o p (n+m)=(1,ym):=by rw[vT z,aa hk]
 have N:=mI o D p (n+m);rw[O]at N;refine⟨_,_,N,wO (by omega),iW ?_ ?_⟩<;>intro W
 ·refine⟨_,_,pR,?_,trivial⟩;rfl
 exact absurd (cd.2 ⟨by omega,by omega⟩) hk
end M
end Go.Proofs.YtihgjolmpjjblaaGreatDoor
namespace Go.Proofs.YtihgjolmpjjblaaGreatDoor
open Go.ChangeShapes Go.WideShapes Go.ChangeAt Go.RowKit Go.AM
open Go.ChangeMaps (open_string shut_string)
open Go.Proofs.YtihgjolmpjjblaaGreatDoor.M
namespace housePricesAddUp
theorem Di{P:Program}{f:FuncId}{fn:Func}{s:ChangeSpec}{c:OpenClaim}(N:(laidOutB P)=true)(O:(mapsRowed P)=true)(R:((c.inPlace==P.inPlace f))=true)(D:((c.unfollowed==P.unfollowed f))=true)(I:((c.recurses==P.recurses f))=true)(U:((c.named==P.varsNamed f))=true)(J:((c.plainKeys==P.plainKeys))=true)(V:(P.stopsHeard)=true)(W:(P.mayEnter)=true)(Y:((c.lifted==P.liftsFinal))=true)(Z:((P.make==some c.make))=true)
  (z:(c.wf (OpenSpec.ofChange s)&&true&&fn.params.all (P.readableRec ·)&&namedTie P c.named s.vars&&(c.stops==[])&&(P.stops==[])&&(c.knobs==[])&&(P.stopKnobs==[])&&true&&(c.maps==(fn.params.toList++s.plain.varTypes P).any (P.mapsRec ·))&&(c.ifaces==(fn.params.toList++s.plain.varTypes P).any (P.ifacesRec ·))&&(c.mapsOut==P.mapsAmong fn.resultTypes.toList)&&(c.loops==(fn.params.toList++s.plain.varTypes P).any (P.loopsFrom ·))&&(c.wideKeys==(fn.params.toList++s.plain.varTypes P++fn.resultTypes.toList).any (P.wideKeysFrom ·))&&s.vars.all (P.varReadable ·)&&fn.resultTypes.all (fun t=>P.readableRec t&&decide (t<P.types.size))&&(c.ifacesOut==fn.resultTypes.toList.any (P.ifacesRec ·))&&(c.loopsOut==fn.resultTypes.toList.any (P.loopsFrom ·))&&c.shortTexts.isNone&&(c.kinds==(if c.domain.isEmpty then [] else fn.params.toList.map fun t=>match P.underlying t with | some (.int k)=>some k | _=>none))&&(c.pinned==c.pinnedBy)&&(c.veiled==(fn.params.toList++s.plain.varTypes P++fn.resultTypes.toList).any (P.veiledRec ·))&&c.veiledFits P fn.params.toList (fn.params.toList++s.plain.varTypes P++fn.resultTypes.toList))=true):joinedFacts P f fn s c=true:=by
 simp only[aJ]at z;simp only[joinedFacts,aJ];simp only[N,O,R,D,I,U,J,V,W,Y,Z,and_true];simp only[and_assoc,and_true]at z ⊢;exact z
theorem X4{W:World}(z:laidMetH Tryz.prog Rows.housePricesAddUpUptoRow.laid W)(h:W.ShapedOpen Tryz.prog):M.Env (fun b=>b<W.heap.size) W:=by
 refine IE (Go.Proofs.cell_of_shapedOpen_int (zero:=#[.int .i64 0]) (t:=3) h (l5 (by kernel_rfl)) (by kernel_rfl) rfl (by kernel_rfl) (by kernel_rfl) jQ) ?_;rw[MakeChecks.laidMetH_plain _ _ _ (by kernel_rfl)]at z;exact Lib.tabIs_of_head (rest:=Rows.housePricesAddUpUptoRow.laid.drop 3) M.W4 (by kernel_rfl) Tryz.underlying300 wQ (by kernel_rfl) (by kernel_rfl) (laidMet.tail (laidMet.tail z))
theorem SQ(H:Type)(enc:TypeId×Value->H)(W:World)(base:Nat)(args:Array Value)(ds V:List (DataW H))(before:List MemPlace)
  (z:∀(j:Nat) t v,Tryz.f3.params[j]?=some t->args[j]?=some v->Value.okWide Tryz.prog W .any base t v)
  (Y:DataW.Whole enc Tryz.prog Tryz.f3.params.toList Rows.housePricesAddUpSpec.vars false W args.toList ds V before) (hk:Rows.uptoSmall H (ds++V)=true) (hE:M.Env (fun b=>b<W.heap.size) W):
  Calls Tryz.prog 3 args W fun e J=>∃v,e=.returned v/\Rows.housePricesAddUpSpec.post enc Tryz.prog Tryz.f3 false true false false W args v J:=by
 have O:=Y;obtain⟨Z,q,R,hV,rfl,Hs,SZ⟩:=Y;have N:DataW.TrodAll enc Tryz.prog W 0 (fun _=>true) true Tryz.f3.params.toList args.toList ds Z:=R;have I:=fun (J:World) (hb:Below W.heap.size W J)=>EC ZT hb (by kernel_rfl) N N.lt;rw[Tryz.params3]at N z;obtain⟨v0,vs0,d0,ds0,p0,q0,hargs,rfl,hpp,h0,r0⟩:=trodAll_cons N;obtain⟨v1,vs1,d1,ds1,p1,q1,rfl,rfl,rfl,h1,r1⟩:=trodAll_cons r0;obtain⟨v2,vs2,d2,ds2,p2,q2,rfl,rfl,rfl,h2,r2⟩:=trodAll_cons r1;obtain⟨v3,vs3,d3,ds3,p3,q3,rfl,rfl,rfl,h3,r3⟩:=trodAll_cons r2;obtain⟨rfl,rfl,rfl⟩:=trodAll_nil r3;obtain rfl:args=#[v0,v1,v2,v3]:=by cases args;simp_all
 obtain⟨rfl,rfl⟩:=trodVars_none hV;obtain⟨_,w0,o,rfl,z0⟩:=B5 (S:=fun b=>b<W.heap.size) Tryz.underlying43 (Uq fun _ h=>h) (z 0 43 v0 rfl rfl) h0;have U:gP o:=z0 (Uc hk (ir _ (by repeat (first | exact bW .. | apply cD))));obtain⟨_,w1,p,rfl,-⟩:=B5 (S:=fun b=>b<W.heap.size) Tryz.underlying45 SO (z 1 45 v1 rfl rfl) h1;obtain⟨SR,rfl,rfl,rfl,w2⟩:=open_int jQ (z 2 3 v2 rfl rfl) h2;obtain⟨D,rfl,rfl,rfl,w3⟩:=open_int jQ (z 3 3 v3 rfl rfl) h3;refine (W7 (C:=C) (xs:=[.ag (A8 o),.ag (Pn p),i64 SR,i64 D]) (y:=.bool true) (Pr o U p SR D) hE (ue (w0) (ue (w1) (ue (.im _) (ue (.im _) Q9))))).mono fun e J ⟨he,hb⟩=>?_;subst he;exact⟨_,rfl,DN (pa:=Z) (pv:=[]) O (fun _ _ _=>trodAll_cons_mk (shut_bool tW _) trodAll_mk0) (fun sp h=>I J hb sp (fun p hp=>h p (ir _ hp))) (fun _ _=>rfl) rfl
  hb (ok_one (by kernel_rfl) rfl (okWide_bool_mk tW _))⟩
theorem reads(os:Os){H:Type}(enc:TypeId×Value->H):∃places,DataW.whole enc Tryz.prog ((World.laidAll Tryz.prog os Rows.housePricesAddUpUptoRow.laid).forCall (fun _ _=>0) ⟨#[],#[.agg #[.slice none 0 0,.slice none 0 0,.slice none 0 0,.slice none 0 0,.slice none 0 0,.slice none 0 0,.int .i64 0,.slice none 0 0,.slice none 0 0,.slice none 0 0,.slice none 0 0,.slice none 0 0,.slice none 0 0,.int .i64 0,.int .i64 0,.int .i64 0,.int .i64 0,.int .i64 0,.slice none 0 0,.slice none 0 0],.agg #[.int .i64 0,.int .i64 0,.int .i64 0,.int .i64 0,.int .i64 0,.int .i64 0],.int .i64 0,.int .i64 0],[]⟩).memory Tryz.f3.params.toList Rows.housePricesAddUpSpec.vars false (#[.agg #[.slice none 0 0,.slice none 0 0,.slice none 0 0,.slice none 0 0,.slice none 0 0,.slice none 0 0,.int .i64 0,.slice none 0 0,.slice none 0 0,.slice none 0 0,.slice none 0 0,.slice none 0 0,.slice none 0 0,.int .i64 0,.int .i64 0,.int .i64 0,.int .i64 0,.int .i64 0,.slice none 0 0,.slice none 0 0],.agg #[.int .i64 0,.int .i64 0,.int .i64 0,.int .i64 0,.int .i64 0,.int .i64 0],.int .i64 0,.int .i64 0]:Array Value).toList 8=some ([.agg [.nil,.agg [.nil,.nil],.nil,.nil,.nil,.agg [.lit (.int .i64 0),.nil,.nil],.nil,.nil,.nil,.nil,.agg [.lit (.int .i64 0),.lit (.int .i64 0),.lit (.int .i64 0),.lit (.int .i64 0),.lit (.int .i64 0),.nil,.nil]],.agg [.lit (.int .i64 0),.lit (.int .i64 0),.lit (.int .i64 0),.lit (.int .i64 0),.lit (.int .i64 0),.lit (.int .i64 0)],.lit (.int .i64 0),.lit (.int .i64 0)],[],places):=
 ⟨[],by kernel_rfl⟩
theorem lifted(os:Os)(z:os.Started)(H:Type)(enc:TypeId×Value->H)(F:Stop.Interp):
  ReturnsInHanded {} Tryz.checked os 3 .any ((Rows.OpenSpec.upto Rows.housePricesAddUpSpec).preRow enc Tryz.prog Tryz.f3 Rows.housePricesAddUpUptoRow.domain false Rows.housePricesAddUpUptoRow.laid) (((Rows.OpenSpec.upto Rows.housePricesAddUpSpec).at F).post enc Tryz.prog Tryz.f3 false true false false):=by
 obtain⟨places,J⟩:=reads os enc;refine returnsInHanded_of_row (C:=Tryz.checked) (s:=Rows.OpenSpec.upto Rows.housePricesAddUpSpec) own z (by kernel_rfl) Tryz.func3
  (Am (enc:=enc) (C:=Tryz.checked) (World.laidAll Tryz.prog os Rows.housePricesAddUpUptoRow.laid) #[.agg #[.slice none 0 0,.slice none 0 0,.slice none 0 0,.slice none 0 0,.slice none 0 0,.slice none 0 0,.int .i64 0,.slice none 0 0,.slice none 0 0,.slice none 0 0,.slice none 0 0,.slice none 0 0,.slice none 0 0,.int .i64 0,.int .i64 0,.int .i64 0,.int .i64 0,.int .i64 0,.slice none 0 0,.slice none 0 0],.agg #[.int .i64 0,.int .i64 0,.int .i64 0,.int .i64 0,.int .i64 0,.int .i64 0],.int .i64 0,.int .i64 0] (World.laidAll_os _ _ _) (World.shaped_of_ZipB (by kernel_rfl) (by kernel_rfl)) (by kernel_rfl)
   (OpenSpec.preRow_of_cond 8 J (by kernel_rfl) (fun k hk=>by cases hk;kernel_rfl) (by kernel_rfl)
    (by rw[MakeChecks.laidMetH_plain _ _ _ (by kernel_rfl)];exact laidMet_laidAll _ (by kernel_rfl) (by kernel_rfl)))) ?_
 intro W base args ds N before D O _ R _ U I _;exact SQ H enc W base args ds N before D O (R _ rfl) (X4 U I)
theorem X5:laidOutB Tryz.prog=true:=by kernel_rfl
theorem U5:mapsRowed Tryz.prog=true:=by kernel_rfl
theorem X6:(Rows.housePricesAddUpUptoRow.inPlace==Tryz.prog.inPlace 3)=true:=by kernel_rfl
theorem aar:(Rows.housePricesAddUpUptoRow.unfollowed==Tryz.prog.unfollowed 3)=true:=by kernel_rfl
theorem aas:(Rows.housePricesAddUpUptoRow.recurses==Tryz.prog.recurses 3)=true:=by kernel_rfl
theorem U6:(Rows.housePricesAddUpUptoRow.named==Tryz.prog.varsNamed 3)=true:=by kernel_rfl
theorem aat:(Rows.housePricesAddUpUptoRow.plainKeys==Tryz.prog.plainKeys)=true:=by kernel_rfl
theorem U7:Tryz.prog.stopsHeard=true:=by kernel_rfl
theorem U8:Tryz.prog.mayEnter=true:=by kernel_rfl
theorem X7:(Rows.housePricesAddUpUptoRow.lifted==Tryz.prog.liftsFinal)=true:=by kernel_rfl
theorem X8:(Tryz.prog.make==some Rows.housePricesAddUpUptoRow.make)=true:=by kernel_rfl
theorem X9:false=Rows.housePricesAddUpUptoRow.goesBy Tryz.prog:=by kernel_rfl
theorem U9:false=Tryz.prog.looks []:=by kernel_rfl
theorem adq:Rows.housePricesAddUpUptoRow.wfByText (Rows.OpenSpec.upto Rows.housePricesAddUpSpec)=true:=by kernel_rfl
theorem jo:joinedFacts Tryz.prog 3 Tryz.f3 (Rows.OpenSpec.upto Rows.housePricesAddUpSpec).bare Rows.housePricesAddUpUptoRow=true:=
 Di X5 U5 X6 aar aas U6 aat U7 U8 X7 X8 (by kernel_rfl)
theorem SS:Rows.HousePricesAddUpUptoSaid:=
 OpenClaim.holds_of_cond 3 Tryz.f3 rfl rfl rfl rfl rfl rfl rfl ⟨rfl,rfl,rfl,rfl,rfl⟩ rfl rfl rfl rfl rfl (by kernel_rfl) Tryz.func3 jo
  (l5 (by kernel_rfl)) (by unfold Func.isWrapper;first | (rw[ae (by decide +kernel)];kernel_rfl) | (rw[aa (by decide +kernel)];exact⟨rfl,rfl⟩))
  (fun os z H enc _ F=>by rw[OpenClaim.pre_eq_preRow];exact lifted os z H enc F)
theorem plain(f:FuncId)(fn:Func)(I:Tryz.pinned.checked.prog.funcNamed Rows.housePricesAddUpUptoRow.func=some f)(z:Tryz.pinned.checked.prog.funcs[f]?=some fn):
  false=Tryz.pinned.checked.prog.looks []/\∀(j:Nat) t,fn.params[j]?=some t->Tryz.pinned.checked.prog.wantsStandIn t=false:=by
 obtain rfl:f=3:=Option.some.inj ((show Tryz.prog.funcNamed Rows.housePricesAddUpUptoRow.func=some 3 by kernel_rfl).symm.trans I) |>.symm;obtain rfl:fn=Tryz.f3:=(Option.some.inj (Tryz.func3.symm.trans z)).symm;refine⟨U9,fun j t D=>?_⟩;rw[Tryz.params3]at D;have J:=Az D;have N:((Tryz.f3.params.toList).all fun u=>!Tryz.prog.wantsStandIn u)=true:=by kernel_rfl
 exact (show Tryz.prog.wantsStandIn t=false by simpa using dY.1 N t (by rw[Tryz.params3];simpa using J))
theorem cardUpto:Rows.HousePricesAddUpUptoCardSaid:=
 Claim7.holds_tied_plain_at .later [] _ _ _ _ SS (fun _ h=>by cases h) adq (fun _ h=>by cases h) housePricesAddUpUpto_row_tie rfl ⟨rfl,rfl⟩ (by kernel_rfl) rfl plain X9
end housePricesAddUp
end Go.Proofs.YtihgjolmpjjblaaGreatDoor
