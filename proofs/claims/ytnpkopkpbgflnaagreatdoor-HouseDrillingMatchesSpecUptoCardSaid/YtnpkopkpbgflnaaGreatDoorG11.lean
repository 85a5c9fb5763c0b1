/- Part 11 of the proof of HouseDrillingMatchesSpec. -/
import Derived.Test.YtnpkopkpbgflnaaGreatDoorG10
set_option linter.unusedVariables false
set_option linter.unusedSimpArgs false
set_option maxRecDepth 100000
set_option maxHeartbeats 8000000
namespace Go
abbrev zc:=@List.filterMap_append
abbrev zd:=@List.length_filterMap_le
abbrev zf:=@List.getElem?_eq_none_iff
abbrev vP:=@List.set_set
end Go
namespace Go.Proofs.YtnpkopkpbgflnaaGreatDoor
namespace M
open Go.AM Go.RowKit Go.Lib
open Reg (lexLt v8)
variable {l:List (Int×Int)}
theorem ug{n:Int}{i:Nat}{x p:Int×Int}(d:l[i]?=some x)(hp:l[i-1]?=some p):jo n l i=if x.1<1\/n<x.2\/x.2<=x.1 then 1 else if 0<i/\¬lexLt p x then 8 else 0:=by
 simp only[jo,d,hp]
theorem w_{n:Int}{l:List (Int×Int)}(h:∀k,k<l.length->jo n l k=0):∀x∈l,1<=x.1/\x.1<x.2/\x.2<=n:=fun x d=>by
 obtain⟨k,hk⟩:=cI.1 d;have u:=(aU.1 hk).1;obtain⟨p,hp⟩:=aj (l:=l) (i:=k-1) (by omega);have:=h k u;rw[ug hk hp]at this;split at this
 ·cases this
 omega
theorem Ir{m:List cw}{s:List Lay}(h:∀x∈l,1<=x.1/\x.1<x.2/\x.2<=nC m s s.length):∀x∈fS m s l,1<=x.1/\x.2<=nC m s s.length/\x.1<=2+s.length:=fun x u=>by
 have z:=(o5.1 ((db Gt Io _).1.mem_iff.1 u)).1;have h2:=rB (m:=m) (s:=s) (i:=s.length);rcases cm.1 z with d | d
 ·have:=h x d;omega
 rw[bM.1 d];simp only;omega
theorem jx{m:List cw}{s:List Lay}:(cq m s l).length<=s.length+(l.length+1)/\(cq m s l).length=(bA m s s.length).length+(fS m s l).length:=by
 have h1:=sR (m:=m) (s:=s) (i:=s.length);have h2:=(db Gt Io (gD (bA m s s.length) (w9 m s l))).1.length_eq;have d:=sS (bA m s s.length) (w9 m s l) (w9 m s l).length (aF _);rw[fQ]at d;have h4:(w9 m s l).length=l.length+1:=by simp[w9]
 refine⟨?_,bG ..⟩;rw[cq,bG,fS];omega
theorem AP(B:List (Int×Int))(a:Int×Int)(k:Nat):o6 B a (k+1)=(o6 B a k||!B.any (rC a (a.1+1+(k:Int)))):=by
 unfold o6;rw[kY,mz];simp
theorem Gw{B:List (Int×Int)}{a:Int×Int}{k K:Nat}(h:o6 B a (k+1)=true)(hk:k<K):o6 B a K=true:=by
 unfold o6 at h ⊢;rw[gz]at h ⊢;obtain⟨j,h1,d⟩:=h;exact⟨j,by rw[fN]at *;omega,d⟩
theorem o7(m:List cw)(s:List Lay)(l:List (Int×Int))(hm:nn m)(hs:kZ s)(hN:l.length<=1048576):af C 159 [.pv (.sl (m.map iX)),.pv (.sl (s.map gJ)),.pv (.sl (l.map sp))] (.p (i64 (bQ m s l))) []:=by
 refine sd ⟨[32],[],[],[],[],[]⟩ hC Tryz.func159 rfl (by kernel_rfl) fun _=>?_;have lm:=ak l sp;refine⟨_,_,(oY m s hm hs),iW ?_ ?_⟩<;>intro I
 ·have I:bH m s≠0:=by simpa using I
  refine⟨?_,trivial⟩;rw[bQ,cu rfl I]
 have I:bH m s=0:=by simpa using I
 have V:=kG (ez I).1;have gl:=V.len;rw[bQ,dF I];apply iW<;>intro g2
 ·refine⟨?_,trivial⟩;rw[ae (by omega)];rfl
 rw[aa (by omega)];have Aw:=oE m s V.ord (by omega) hs.1;have hn:(((cZ m s s.length).map fun n=>[i64 n]).length:Int)=nC m s s.length:=by rw[aw];rfl
 have HL:=rB (m:=m) (s:=s) (i:=s.length);have Ch:=hs.1;obtain⟨n,NT⟩:∃n,n=nC m s s.length:=⟨_,rfl⟩;rw[<-NT]at hn HL ⊢;refine⟨_,_,Aw,?_⟩;refine ax (fun i:Nat=>i<=l.length/\∀k,k<i->jo n l k=0) (fun i=>[(0,.p (.sl (m.map iX))),(1,.p (.sl (s.map gJ))),(2,.p (.sl (l.map sp))),(8,.p (i64 n)),(33,.p (.sl (l.map sp))),(34,.p (i64 l.length)),(35,.p (i64 i))]) (fun _=>[]) (fun i=>l.length-i) 0 _ (au.refl _ _) ⟨ai _,fun k h=>by omega⟩ ⟨rfl,rfl,rfl,bc hn,rfl,ah (fun n:Nat=>AV.p (i64 n)) lm,Z,Y⟩ trivial fun i hi t h=>?_;apply iW<;>intro h1
 ·obtain⟨x,O⟩:=aj (l:=l) (i:=i) (by omega);obtain⟨p,hp⟩:=aj (l:=l) (i:=i-1) (by omega);have u:=ug (n:=n) O hp;have D:∀{c:Int},jo n l i=c->c≠0->aG (jo n l) 0 l.length=c:=fun e h0=>ao hi.2 (by omega) e h0;refine⟨(sp x),(idx rfl O),iW ?_ ?_⟩<;>intro a1
  ·refine⟨?_,trivial⟩;rw[ae (.inl a1)]at u;rw[cu (D u (by decide)) (by decide)];rfl
  apply iW<;>intro a2
  ·refine⟨?_,trivial⟩;rw[ae (.inr (.inl a2))]at u;rw[cu (D u (by decide)) (by decide)];rfl
  apply iW<;>intro a3
  ·refine⟨?_,trivial⟩;rw[ae (.inr (.inr a3))]at u;rw[cu (D u (by decide)) (by decide)];rfl
  rw[aa (by omega)]at u;have R:(i:Int)-1=((i-1:Nat):Int)\/i=0:=by omega
  apply iW<;>intro b0
  ·have R:(i:Int)-1=((i-1:Nat):Int):=by omega
   refine⟨wO (by omega),(sp p),(idx R hp),iW ?_ ?_⟩<;>intro b1
   ·refine⟨?_,trivial⟩;rw[ae ⟨by omega,by unfold lexLt;omega⟩]at u;rw[cu (D u (by decide)) (by decide)];rfl
   refine⟨wO (by omega),(sp p),(idx R hp),iW ?_ ?_⟩<;>intro b2
   ·refine⟨wO (by omega),(sp p),(idx R hp),iW ?_ ?_⟩<;>intro b3
    ·refine⟨?_,trivial⟩;rw[ae ⟨by omega,by unfold lexLt;omega⟩]at u;rw[cu (D u (by decide)) (by decide)];rfl
    rw[aa (by unfold lexLt;omega)]at u;exact⟨wO (by omega),(i+1),_,au.refl _ _,⟨by omega,bO hi.2 u⟩,by omega,⟨Z,Z,Z,Z,Z,Z,Z,Y⟩,trivial⟩
   rw[aa (by unfold lexLt;omega)]at u;exact⟨wO (by omega),(i+1),_,au.refl _ _,⟨by omega,bO hi.2 u⟩,by omega,⟨Z,Z,Z,Z,Z,Z,Z,Y⟩,trivial⟩
  rw[aa (by omega)]at u;exact⟨wO (by omega),(i+1),_,au.refl _ _,⟨by omega,bO hi.2 u⟩,by omega,⟨Z,Z,Z,Z,Z,Z,Z,Y⟩,trivial⟩
 have Gx:∀k,k<l.length->jo n l k=0:=fun k hk=>hi.2 k (by omega);have W:=w_ Gx;rw[dF (aI fun k _ hk=>Gx k (by omega))];have Xw:l.length<=200:=by omega
 have Xx:=vO m s l V.ord (by omega) Ch (by omega) fun x O=>by
  have:=W x O;exact⟨⟨by omega,by omega⟩,by omega,by omega⟩
 rw[NT]at W;have MH:=Ir W;obtain⟨QI,Xy⟩:=jx (m:=m) (s:=s) (l:=l);have Tc:((cq m s l).map sp).drop (bA m s s.length).length=(fS m s l).map sp:=by rw[cq,bz,List.drop_left' (aw ..)]
 rw[rD];generalize cq m s l=B at *;generalize fS m s l=P at *;generalize (bA m s s.length).length=q at *;have lB:=ak B sp;have lP:=ak P sp;refine⟨_,_,Xx,?_⟩;refine ax (fun i:Nat=>i<=B.length/\∀k,k<i->tC B k=0) (fun i=>[(11,.p (.sl (B.map sp))),(12,.p (i64 q)),(99,.p (.sl (B.map sp))),(100,.p (i64 B.length)),(101,.p (i64 i))]) (fun _=>[]) (fun i=>B.length-i) 0 _ (au.refl _ _) ⟨ai _,fun k h=>by omega⟩ ⟨rfl,rfl,rfl,ah (fun n:Nat=>AV.p (i64 n)) lB,Z,Y⟩ trivial fun i hi t h=>?_;apply iW<;>intro h2
 ·obtain⟨a,J⟩:=aj (l:=B) (i:=i) (by omega);have u:tC B i=if (B.take i).any (uf a)=true then 12 else 0:=by simp only[tC,J]
  refine⟨(sp a),(idx rfl J),⟨by omega,by omega,by omega,j_ fun _=>rfl⟩,?_⟩;have lT:((B.take i).map sp).length=i:=by rw[aw,aV];omega
  have eT:((B.map sp).take (i:Int).toNat).drop (0:Int).toNat=(B.take i).map sp:=by simp
  have eL:((((B.map sp).take (i:Int).toNat).drop (0:Int).toNat).length:Int)=i:=by rw[eT,lT]
  refine ax (fun j:Nat=>j<=i/\∀z∈(B.take i).take j,uf a z=false) (fun j=>[(11,.p (.sl (B.map sp))),(12,.p (i64 q)),(99,.p (.sl (B.map sp))),(100,.p (i64 B.length)),(101,.p (i64 i)),(14,.bx 14 0),(108,.p (.sl ((B.take i).map sp))),(109,.p (i64 i)),(110,.p (i64 j))]) (fun _=>[(14,.box ((sp a).map .p))]) (fun j=>i-j) 0 _ (au.refl _ _) ⟨ai _,by simp⟩ ⟨rfl,rfl,rfl,rfl,rfl,rfl,ah (fun r=>AV.p (PV.sl r)) eT,bc eL,Z,Y⟩ ⟨Z,Y⟩ fun j hj t h=>?_;apply iW<;>intro h3
  ·obtain⟨b,hb⟩:=aj (l:=B.take i) (i:=j) (by rw[aV];omega);have c1:=w8 a b;have c2:=w8 b a;have kc:uf a b=(decide (a.1<=b.2)&&(decide (b.1<=a.2)&&(!(decide (b.1<=a.1)&&decide (a.2<=b.2))&&!(decide (a.1<=b.1)&&decide (b.2<=a.2))))):=rfl;generalize (decide (b.1<=a.1)&&decide (a.2<=b.2))=L1 at *;generalize (decide (a.1<=b.1)&&decide (b.2<=a.2))=L2 at *;refine⟨(sp b),(idx rfl hb),?_⟩
   repeat' first | apply iW<;>intro d | (refine⟨_,_,c1,?_⟩) | refine⟨_,_,c2,?_⟩
   all_goals skip
   all_goals first
    | (
      refine⟨?_,trivial⟩;have kb:uf a b=true:=by
       simp only[kc,aK,cz,jj];exact⟨by assumption,by assumption,by assumption,by assumption⟩
      rw[ae (gz.2 ⟨b,an hb,kb⟩)]at u;rw[cu (ao hi.2 (by omega) u (by decide)) (by decide)];rfl)
    | (
      refine⟨wO (by omega),?_⟩;have kb:uf a b=false:=by
       simp only[kc,eH,dI,sF]
       first | exact .inl (by assumption) | exact .inr (.inl (by assumption)) | exact .inr (.inr (.inl (by assumption))) | exact .inr (.inr (.inr (by assumption)))
      refine⟨(j+1),_,au.refl _ _,?_⟩;exact⟨⟨by omega,cN (p:=uf a) hb kb hj.2⟩,by omega,⟨Z,Z,Z,Z,Z,Z,Z,Z,Z,Y⟩,⟨Z,Y⟩⟩)
  refine⟨wO (by omega),?_⟩;have Ln:=hj.2;rw[aW (by rw[aV];omega)]at Ln;rw[aa (by rw[vu,jY];exact fun z hz=>by rw[Ln z hz];decide)]at u;exact⟨(i+1),_,au.refl _ _,⟨by omega,bO hi.2 u⟩,by omega,⟨Z,Z,Z,Z,Z,Y⟩,trivial⟩
 have z2:aG (tC B) 0 B.length=0:=aI fun k _ hk=>hi.2 k (by omega);rw[dF z2];refine⟨⟨by omega,by omega,by omega,j_ fun _=>rfl⟩,?_⟩;have eD:((B.map sp).take ((B.map sp).length:Int).toNat).drop (q:Int).toNat=P.map sp:=by
  rw[bU,bU,fQ,Tc]
 refine ax (fun i:Nat=>i<=P.length/\∀k,k<i->AO B P k=0) (fun i=>[(11,.p (.sl (B.map sp))),(142,.p (.sl (P.map sp))),(143,.p (i64 P.length)),(144,.p (i64 i))]) (fun _=>[]) (fun i=>P.length-i) 0 _ (au.refl _ _) ⟨ai _,fun k h=>by omega⟩ ⟨rfl,ah (fun r=>AV.p (PV.sl r)) eD,bc (by rw[eD,lP]),Z,Y⟩ trivial fun i hi t h=>?_;apply iW<;>intro h3
 ·obtain⟨a,J⟩:=aj (l:=P) (i:=i) (by omega);have u:AO B P i=if o6 B a (a.2-a.1-1).toNat=true then 11 else 0:=by simp only[AO,J]
  obtain⟨p1,p2,p3⟩:=MH a (an J);obtain⟨K,hK⟩:∃K,K=(a.2-a.1-1).toNat:=⟨_,rfl⟩;rw[<-hK]at u;refine⟨(sp a),(idx rfl J),wO (by omega),?_⟩;refine ax (fun k:Nat=>k<=K/\o6 B a k=false) (fun k=>[(11,.p (.sl (B.map sp))),(142,.p (.sl (P.map sp))),(143,.p (i64 P.length)),(144,.p (i64 i)),(18,.p (.ip (sp a))),(19,.bx 19 0)]) (fun k=>[(19,.box [.p (i64 (a.1+1+(k:Int)))])]) (fun k=>K-k) 0 _ (au.gn hC _ 18 (y:=.ip (sp a)) (fz:=[(18,.ll (sp a))]) ⟨rfl,rfl⟩) ⟨ai _,rfl⟩ ⟨Z,Z,Z,Z,Z,Z,Y⟩ ⟨by simp only[Int.natCast_zero,jm];rfl,trivial⟩ fun k hk t h=>?_;apply iW<;>intro h4
  ·have uG:k<K:=by omega
   have N:=AP B a k;rw[hk.2,jk]at N;refine KQ 19 (y:=.ip [i64 (a.1+1+(k:Int))]) (fz:=[(19,.ll [i64 (a.1+1+(k:Int))])]) (by exact hC) (by exact⟨rfl,rfl⟩) ?_;have U:=EK B (by omega) a (a.1+1+(k:Int));cases hB:B.any (rC a (a.1+1+(k:Int))) with
   | false=>
    rw[hB]at U N;refine⟨_,_,U,?_,trivial⟩;rw[ae (Gw N uG)]at u;rw[ao hi.2 (by omega) u (by decide)];rfl
   | true=>
    rw[hB]at U N;exact⟨_,_,U,wO (by omega),(k+1),_,au.refl _ _,⟨by omega,N⟩,by omega,⟨Z,Z,Z,Z,Z,Z,Y⟩,⟨ah (fun x:Int=>AB.box [AV.p (i64 x)]) (by omega),trivial⟩⟩
  have e:k=K:=by omega
  rw[<-e,hk.2,aa (by decide)]at u;exact⟨wO (by omega),(i+1),_,au.refl _ _,⟨by omega,bO hi.2 u⟩,by omega,⟨Z,Z,Z,Z,Y⟩,trivial⟩
 refine⟨?_,trivial⟩;rw[aI fun k _ hk=>hi.2 k (by omega)];rfl
open Reg (eB)
def kj{α β:Type}(f:Nat->α->β)(l:List α)(i:Nat):List β:=(List.range i).filterMap fun k=>l[k]?.map (f k)
theorem rE{α β:Type}{f:Nat->α->β}{l:List α}{i:Nat}{x:α}(h:l[i]?=some x):kj f l (i+1)=kj f l i++[f i x]:=by
 unfold kj;rw[kY,zc];simp[h]
theorem AQ{α β:Type}(f:Nat->α->β)(l:List α)(i:Nat):(kj f l i).length<=i:=aO (zd _ _) (by simp)
def dD(l:List (Int×Int))(b:Int×Int)(j:Nat):List Int:=(eB (fun x=>decide (x=b)) l j).map fun k:Nat=>(k:Int)
theorem AT{b x:Int×Int}{j:Nat}(h:l[j]?=some x):dD l b (j+1)=dD l b j++if x=b then [(j:Int)] else []:=by
 unfold dD;rw[Reg.jw h,bz];congr 1;by_cases e:x=b<;>simp[e]
theorem xa(l:List (Int×Int))(b:Int×Int)(j:Nat):(dD l b j).length<=j:=by
 unfold dD;rw[aw];exact Reg.np _ _ _
def lJ(q:Nat)(l:List (Int×Int))(i:Nat)(b:Int×Int):List PV:=[i64 b.1,i64 b.2,bool (decide ((i:Int)<(q:Int))),ints (dD l b l.length)]
def kJ(m:List cw)(s:List Lay)(l:List (Int×Int)):List (List PV):=kj (lJ (bA m s s.length).length l) (cq m s l) (cq m s l).length
def jc(m:List cw)(s:List Lay)(l:List (Int×Int)):List PV:=if bQ m s l=0 then [.sl (kJ m s l),i64 0] else [.sl [],i64 (bQ m s l)]
theorem uh{m:List cw}{s:List Lay}(h:bQ m s l=0):bH m s=0/\l.length<=200/\(∀x∈l,1<=x.1/\x.1<x.2/\x.2<=nC m s s.length):=by
 obtain⟨u,d⟩:=ez h;split at d
 ·cases d
 obtain⟨z,_⟩:=ez d;exact⟨u,by omega,w_ fun k hk=>fa z k (ai _) (by omega)⟩
theorem B3(m:List cw)(s:List Lay)(l:List (Int×Int))(J:nn m)(hs:kZ s)(N:l.length<=1048576):af C 71 [.pv (.sl (m.map iX)),.pv (.sl (s.map gJ)),.pv (.sl (l.map sp))] (.tu (jc m s l)) []:=by
 by_cases d:bQ m s l=0
 ·rw[jc,ae d];obtain⟨U,Xw,V⟩:=uh d;have O:=kG (ez U).1;have gl:=O.len;have W:=hs.1;have HL:=rB (m:=m) (s:=s) (i:=s.length);have z:=o7 m s l J hs N;rw[d]at z;have Xx:=vO m s l O.ord (by omega) W (by omega) fun x D=>by
   have:=V x D;exact⟨⟨by omega,by omega⟩,by omega,by omega⟩
  obtain⟨QI,Xy⟩:=jx (m:=m) (s:=s) (l:=l);rw[kJ];generalize cq m s l=B at *;generalize (bA m s s.length).length=q at *;have lB:=ak B sp;have lm:=ak l sp;refine sd ⟨[16],[],[],[],[],[]⟩ hC Tryz.func71 rfl (by kernel_rfl) fun _=>?_;refine⟨_,_,z,_,_,Xx,?_⟩;refine ax (fun i:Nat=>i<=B.length) (fun i=>[(2,.p (.sl (l.map sp))),(9,.p (.sl (B.map sp))),(10,.p (i64 q)),(11,.ow 11),(31,.p (.sl (B.map sp))),(32,.p (i64 B.length)),(33,.p (i64 i))]) (fun i=>[(11,.row 92 (kj (lJ q l) B i))]) (fun i=>B.length-i) 0 _ (au.ed hC _ 11 92 _ (by decide) rfl rfl (by decide)) (ai _) ⟨rfl,rfl,rfl,rfl,rfl,ah (fun n:Nat=>AV.p (i64 n)) lB,Z,Y⟩ ⟨Z,Y⟩ fun i hi t h=>?_;apply iW<;>intro h2
  ·obtain⟨b,hb⟩:=aj (l:=B) (i:=i) (by omega);have lH:=rE (f:=lJ q l) hb;have xl:=AQ (lJ q l) B i;refine⟨(sp b),(idx rfl hb),?_⟩;refine ax (fun j:Nat=>j<=l.length) (fun j=>[(2,.p (.sl (l.map sp))),(9,.p (.sl (B.map sp))),(10,.p (i64 q)),(11,.ow 11),(31,.p (.sl (B.map sp))),(32,.p (i64 B.length)),(33,.p (i64 i)),(13,.bx 13 0),(14,.bx 14 0),(46,.p (.sl (l.map sp))),(47,.p (i64 l.length)),(48,.p (i64 j))]) (fun j=>[(11,.row 92 (kj (lJ q l) B i)),(13,.box ((sp b).map .p)),(14,.box [.p (i64 b.1),.p (i64 b.2),.p (bool (decide ((i:Int)<(q:Int)))),.ow 90000]),(90000,.row 3 ((dD l b j).map fun n=>[i64 n]))]) (fun j=>l.length-j) 0 _ (au.uU hC _ 14 3 90000 3 _ _ (by decide) (by decide) rfl rfl rfl (by decide)) (ai _) ⟨rfl,rfl,rfl,rfl,rfl,rfl,rfl,rfl,rfl,rfl,ah (fun n:Nat=>AV.p (i64 n)) lm,Z,Y⟩ ⟨Z,Z,Z,Z,Y⟩ fun j hj t h=>?_;apply iW<;>intro h3
   ·obtain⟨x,D⟩:=aj (l:=l) (i:=j) (by omega);have I:=AT (b:=b) D;have Wj:=xa l b j;have R:=ak (dD l b j) fun n=>[i64 n];refine⟨(sp x),(idx rfl D),iW ?_ ?_⟩<;>intro u<;>try simp only[zB]at u
    ·rw[iI]at u;rw[ae (fO u)]at I;refine⟨⟨by simp,by rw[R];simp;omega,by rw[R];simp;omega⟩,wO (by omega),j+1,_,au.Qe _ 60 90000 (by decide) (by decide),by omega,by omega,⟨Z,Z,Z,Z,Z,Z,Z,Z,Z,Z,Z,Z,Y⟩,⟨rfl,rfl,rfl,?_,trivial⟩⟩;show AB.row _ _=AB.row _ _;rw[I,bz];rfl
    rw[iI]at u;rw[aa (of_decide_eq_false u),cQ]at I;exact⟨wO (by omega),(j+1),_,au.refl _ _,by omega,by omega,⟨Z,Z,Z,Z,Z,Z,Z,Z,Z,Z,Z,Z,Y⟩,⟨rfl,rfl,rfl,by rw[I];rfl,trivial⟩⟩
   have e:j=l.length:=by omega
   refine zW (au.uV (by exact hC) _ 14 3 90000 3 _ _ (by decide) (by exact rfl) (by exact rfl) (by exact rfl)) ?_;refine⟨⟨by simp,by simp;omega,by simp;omega⟩,wO (by omega),(i+1),_,au.refl _ _,by omega,by omega,⟨Z,Z,Z,Z,Z,Z,Z,Y⟩,⟨?_,trivial⟩⟩;show AB.row _ _=AB.row _ _;rw[lH,lJ,<-e];rfl
  have e:i=B.length:=by omega
  rw[e];exact⟨Z,Y⟩
 rw[jc,aa d];have z:=o7 m s l J hs N;refine sd ⟨[16],[],[],[],[],[]⟩ hC Tryz.func71 rfl (by kernel_rfl) fun _=>?_;refine⟨_,_,z,iW ?_ ?_⟩<;>intro g
 ·refine⟨?_,trivial⟩;rfl
 exact absurd (by simpa using g) d
theorem Gy(o:Order)(y:ByteArray)(hN:o.mats.length<=1048576):af C 72 [.pv (.ag (oF o)),.pv (str y)] (.p (i64 (fw o.mats y).thick)) []:=by
 refine fW hC Tryz.func72 rfl (by kernel_rfl) fun _=>?_;have D:=ak o.mats iX;refine ax (fun i:Nat=>i<=o.mats.length/\∀z∈o.mats.take i,decide (z.name=y)=false) (fun i=>[(1,.p (str y)),(8,.p (.sl (o.mats.map iX))),(9,.p (i64 (o.mats.map iX).length)),(10,.p (i64 i))]) (fun _=>[]) (fun i=>o.mats.length-i) 0 _ (au.refl _ _) ⟨ai _,by simp⟩ ⟨Z,Z,Z,Z,Y⟩ trivial fun i hi t h=>?_;apply iW<;>intro I
 ·rw[D]at I;obtain⟨r,u⟩:=aj (l:=o.mats) (i:=i) (by omega);have J:=cmp_eq r.name y;refine⟨(iX r),(idx rfl u),_,_,(gv r.name y),iW ?_ ?_⟩<;>intro d
  ·have d:r.name=y:=J.1 d;refine⟨?_,trivial⟩;have e:ee cw.name o.mats y=(i:Int):=by rw[ee,cX (p:=fun z=>decide (cw.name z=y)) u (aP d) hi.2,aY]
   rw[fw,vE,ae (by omega),e,bU,u];rfl
  have d:¬r.name=y:=fun e=>d (J.2 e);exact⟨wO (by omega),(i+1),_,au.refl _ _,⟨by omega,cN (p:=fun z=>decide (cw.name z=y)) u (aL d) hi.2⟩,by omega,⟨Z,Z,Z,Z,Y⟩,trivial⟩
 rw[D]at I;refine⟨?_,trivial⟩;have d:=hi.2;rw[aW (by omega)]at d;have e:ee cw.name o.mats y=-1:=by rw[ee,bW (p:=fun z=>decide (cw.name z=y)) d]
 rw[fw,vE,aa (by omega)];rfl
theorem AU{m:List cw}(d:ja m)(y:ByteArray):0<=(fw m y).thick/\(fw m y).thick<=2000:=by
 cases h:dX cw.name m y with
 | true=>
  obtain⟨k,x,_,u,_,z⟩:=kF h;rw[fw,z];have:=d.thick x (an u);exact⟨by show (0:Int)<=x.thick;omega,this.2⟩
 | false=>rw[fw,mM h];decide
def o8(o:Order)(lo hi:Int)(k:Nat):Int:=match o.stack[k]? with
 | some l=>if lo<=(bX (o.stack.take (k+1)):Int)-1/\((bX (o.stack.take (k+1)):Int)-1<hi\/(bX (o.stack.take (k+1)):Int)-1=hi/\¬l.name=ar) then (fw o.mats l.mat).thick else 0
 | none=>0
def km(o:Order)(lo hi:Int):Nat->Int
 | 0=>0
 | k+1=>km o lo hi k+o8 o lo hi k
def La(o:Order)(lo hi:Int):Int:=km o lo hi o.stack.length
theorem Gz{o:Order}(d:ja o.mats)(lo hi:Int):∀k:Nat,0<=km o lo hi k/\km o lo hi k<=2000*(k:Int)
 | 0=>by simp[km]
 | k+1=>by
  have ih:=Gz d lo hi k;rw[km];have:0<=o8 o lo hi k/\o8 o lo hi k<=2000:=by
   unfold o8;split
   ·split
    ·exact AU d _
    decide
   decide
  omega
theorem GA(o:Order)(lo hi:Int)(N:ja o.mats)(hS:o.stack.length<=1048576):af C 24 [.pv (.ag (oF o)),.pv (i64 lo),.pv (i64 hi)] (.p (i64 (La o lo hi))) []:=by
 refine fW hC Tryz.func24 rfl (by kernel_rfl) fun _=>?_;have W:=ak o.stack gJ;have gl:=N.len;refine ax (fun i:Nat=>i<=o.stack.length) (fun i=>[(1,.p (i64 lo)),(2,.p (i64 hi)),(3,.bx 3 0),(7,.p (i64 ((bX (o.stack.take i):Int)-1))),(8,.p (i64 (km o lo hi i))),(12,.p (.sl (o.stack.map gJ))),(13,.p (i64 (o.stack.map gJ).length)),(14,.p (i64 i))]) (fun _=>[(3,.box ((oF o).map .p))]) (fun i=>o.stack.length-i) 0 _ (au.refl _ _) (ai _) ⟨Z,Z,Z,Z,Z,Z,Z,Z,Y⟩ ⟨Z,Y⟩ fun i Bj t h=>?_;apply iW<;>intro h1
 ·rw[W]at h1;obtain⟨l,O⟩:=aj (l:=o.stack) (i:=i) (by omega);have UZ:=ue O;have IW:=jb (o.stack.take i);have ZV:(o.stack.take i).length<=i:=by rw[aV];omega
  have I:o8 o lo hi i=if lo<=(bX (o.stack.take (i+1)):Int)-1/\((bX (o.stack.take (i+1)):Int)-1<hi\/(bX (o.stack.take (i+1)):Int)-1=hi/\¬l.name=ar) then (fw o.mats l.mat).thick else 0:=by simp only[o8,O]
  have ZW:=Gz N lo hi i;have gk:=AU N l.mat;have J:km o lo hi (i+1)=km o lo hi i+o8 o lo hi i:=rfl;have z:=Gy o l.mat (by omega);have cU:(l.name=ar)=(l.name=ByteArray.empty):=rfl;refine⟨(gJ l),(idx rfl O),iW ?_ ?_⟩<;>intro u
  ·have u:¬l.name=ar:=u;rw[aa u]at UZ;have D:(bX (o.stack.take i):Int)-1+1=(bX (o.stack.take (i+1)):Int)-1:=by omega
   have R:o8 o lo hi i=(fw o.mats l.mat).thick->km o lo hi i+(fw o.mats l.mat).thick=km o lo hi (i+1):=fun e=>by rw[J,e]
   have U:o8 o lo hi i=0->km o lo hi i=km o lo hi (i+1):=fun e=>by rw[J,e,jm]
   refine⟨wO (by omega),?_⟩
   repeat' first | apply iW<;>intro d | refine⟨_,_,z,?_⟩
   all_goals skip
   all_goals first
    | exact absurd ‹l.name=_› u
    | (
      refine⟨wO (by omega),?_⟩;refine⟨wO (by omega),(i+1),_,au.refl _ _,?_⟩;exact⟨by omega,by omega,⟨rfl,rfl,rfl,bc D,bc (R (by rw[I,ae ⟨by omega,by first | exact .inl (by omega) | exact .inr ⟨by omega,u⟩⟩])),Z,Z,Z,Y⟩,⟨Z,Y⟩⟩)
    | (
      refine⟨wO (by omega),?_⟩;refine⟨(i+1),_,au.refl _ _,?_⟩;exact⟨by omega,by omega,⟨rfl,rfl,rfl,bc D,bc (U (by rw[I,aa (by rintro⟨k1,V | ⟨V,k3⟩⟩<;>omega)])),Z,Z,Z,Y⟩,⟨Z,Y⟩⟩)
  have u:l.name=ar:=by simpa [ar] using u
  rw[ae u]at UZ;have D:(bX (o.stack.take i):Int)-1=(bX (o.stack.take (i+1)):Int)-1:=by omega
  have R:o8 o lo hi i=(fw o.mats l.mat).thick->km o lo hi i+(fw o.mats l.mat).thick=km o lo hi (i+1):=fun e=>by rw[J,e]
  have U:o8 o lo hi i=0->km o lo hi i=km o lo hi (i+1):=fun e=>by rw[J,e,jm]
  repeat' first | apply iW<;>intro d | refine⟨_,_,z,?_⟩
  all_goals skip
  all_goals first
   | exact absurd u ‹¬l.name=_›
   | (
     refine⟨wO (by omega),?_⟩;refine⟨wO (by omega),(i+1),_,au.refl _ _,?_⟩;exact⟨by omega,by omega,⟨rfl,rfl,rfl,bc D,bc (R (by rw[I,ae ⟨by omega,.inl (by omega)⟩])),Z,Z,Z,Y⟩,⟨Z,Y⟩⟩)
   | (
     refine⟨wO (by omega),?_⟩;refine⟨(i+1),_,au.refl _ _,?_⟩;exact⟨by omega,by omega,⟨rfl,rfl,rfl,bc D,bc (U (by rw[I,aa (by rintro⟨k1,V | ⟨V,k3⟩⟩<;>first | exact k3 u | omega)])),Z,Z,Z,Y⟩,⟨Z,Y⟩⟩)
 rw[W]at h1;have e:i=o.stack.length:=by omega
 refine⟨?_,trivial⟩;rw[La,<-e]
structure gG where
 name:ByteArray
 size:Int
 life:Int
 stack:Int
structure dM where
 x:Int
 y:Int
 size:Int
 depth:Int
 plated:Bool
def ef(b:gG):List PV:=[str b.name,i64 b.size,i64 b.life,i64 b.stack]
def nB(h:dM):List PV:=[i64 h.x,i64 h.y,i64 h.size,i64 h.depth,bool h.plated]
theorem iJ(n lo hi:Int):af C 75 [.pv (i64 n),.pv (i64 lo),.pv (i64 hi)] (.p (bool (dR n lo hi))) []:=by
 refine fW hC Tryz.func75 rfl (by kernel_rfl) fun _=>?_;apply iW<;>intro h
 ·refine⟨?_,trivial⟩;simp[bool,dR,h]
 refine⟨?_,trivial⟩;simp[bool,dR,h]
def gi(h:dM):Bool:=(Reg.kC h.x&&Reg.kC h.y)&&(dR h.size 1 10000&&dR h.depth 1 100000)
def eh(l:List dM):Int:=if 2000<l.length then 2 else if l.all gi=true then 0 else 1
theorem o9(l:List dM)(hN:l.length<=1048576):af C 74 [.pv (.sl (l.map nB))] (.p (i64 (eh l))) []:=by
 refine fW hC Tryz.func74 rfl (by kernel_rfl) fun _=>?_;have N:=ak l nB;apply iW<;>intro g1
 ·refine⟨?_,trivial⟩;rw[eh,ae (by omega)];rfl
 rw[eh,aa (by omega)];refine ax (fun i:Nat=>i<=l.length/\(l.take i).all gi=true) (fun i=>[(8,.p (.sl (l.map nB))),(9,.p (i64 l.length)),(10,.p (i64 i))]) (fun _=>[]) (fun i=>l.length-i) 0 _ (au.refl _ _) ⟨ai _,rfl⟩ ⟨rfl,ah (fun n:Nat=>AV.p (i64 n)) N,Z,Y⟩ trivial fun i hi t h=>?_;apply iW<;>intro h1
 ·obtain⟨x,z⟩:=aj (l:=l) (i:=i) (by omega);have d:gi x=false->(if l.all gi=true then (0:Int) else 1)=1:=fun e=>aa (by rw[vu,jV];exact⟨x,an z,by rw[e];decide⟩);have O:gi x=true->(l.take (i+1)).all gi=true:=fun e=>by rw[aN z,jW,hi.2];simp[e]
  refine⟨(nB x),(idx rfl z),_,_,(tw x.x x.y),iW ?_ ?_⟩<;>intro u
  ·refine⟨?_,trivial⟩;rw[d (by rw[gi,u];rfl)];rfl
  refine⟨_,_,(iJ x.size 1 10000),iW ?_ ?_⟩<;>intro D
  ·refine⟨?_,trivial⟩;rw[d (by rw[gi,u,D];rfl)];rfl
  refine⟨_,_,(iJ x.depth 1 100000),iW ?_ ?_⟩<;>intro I
  ·refine⟨?_,trivial⟩;rw[d (by rw[gi,u,D,I];rfl)];rfl
  exact⟨wO (by omega),(i+1),_,au.refl _ _,⟨by omega,O (by rw[gi,u,D,I];rfl)⟩,by omega,⟨Z,Z,Z,Y⟩,trivial⟩
 have J:=hi.2;rw[aW (by omega)]at J;refine⟨?_,trivial⟩;rw[ae J];rfl
def rF(l:List gG)(i:Nat):Int:=match l[i]? with
 | some x=>if ct x.name=true then (if dR x.size 1 10000=true then (if dR x.life 1 2000=true then (if dR x.stack 0 1000=true then (if bg (l.map gG.name) i=true then 8 else 0) else 1) else 1) else 1) else 5
 | none=>0
def eo(l:List gG):Int:=if 100<l.length then 2 else aG (rF l) 0 l.length
def oG(l:List gG):Prop:=l.length<=1048576/\∀x∈l,bE x.name
theorem kK(l:List gG)(U:oG l):af C 73 [.pv (.sl (l.map ef))] (.p (i64 (eo l))) []:=by
 refine fW hC Tryz.func73 rfl (by kernel_rfl) fun _=>?_;have V:=ak l ef;apply iW<;>intro g1
 ·refine⟨?_,trivial⟩;rw[eo,ae (by omega)];rfl
 rw[eo,aa (by omega)];refine ax (fun i:Nat=>i<=l.length/\∀k,k<i->rF l k=0) (fun i=>[(0,.p (.sl (l.map ef))),(8,.p (.sl (l.map ef))),(9,.p (i64 l.length)),(10,.p (i64 i))]) (fun _=>[]) (fun i=>l.length-i) 0 _ (au.refl _ _) ⟨ai _,fun k h=>by omega⟩ ⟨rfl,rfl,ah (fun n:Nat=>AV.p (i64 n)) V,Z,Y⟩ trivial fun i hi t h=>?_;apply iW<;>intro h1
 ·obtain⟨x,D⟩:=aj (l:=l) (i:=i) (by omega);have d:rF l i=(if ct x.name=true then (if dR x.size 1 10000=true then (if dR x.life 1 2000=true then (if dR x.stack 0 1000=true then (if bg (l.map gG.name) i=true then 8 else 0) else 1) else 1) else 1) else 5):=by simp only[rF,D]
  refine⟨(ef x),(idx rfl D),?_⟩;have W:=U.2 x (an D);refine⟨_,_,(eY x.name W.le),iW ?_ ?_⟩<;>intro I
  ·refine⟨?_,trivial⟩;rw[aa (by simp[I])]at d;rw[ao hi.2 (by omega) d (by decide)];rfl
  rw[ae (by simpa using I)]at d;refine⟨_,_,(iJ x.size 1 10000),iW ?_ ?_⟩<;>intro J
  ·refine⟨?_,trivial⟩;rw[aa (by simp[J])]at d;rw[ao hi.2 (by omega) d (by decide)];rfl
  rw[ae (by simpa using J)]at d;refine⟨_,_,(iJ x.life 1 2000),iW ?_ ?_⟩<;>intro N
  ·refine⟨?_,trivial⟩;rw[aa (by simp[N])]at d;rw[ao hi.2 (by omega) d (by decide)];rfl
  rw[ae (by simpa using N)]at d;refine⟨_,_,(iJ x.stack 0 1000),iW ?_ ?_⟩<;>intro O
  ·refine⟨?_,trivial⟩;rw[aa (by simp[O])]at d;rw[ao hi.2 (by omega) d (by decide)];rfl
  rw[ae (by simpa using O)]at d;apply iW<;>intro o1
  ·obtain⟨z,R⟩:=aj (l:=l) (i:=i-1) (by omega);rw[dK (f:=gG.name) D R (by omega)]at d;refine⟨wO (by omega),(ef z),(idx (show (i:Int)-1=((i-1:Nat):Int) by omega) R),iW ?_ ?_⟩<;>intro u
   ·refine⟨?_,trivial⟩;have u:(cE (gG.name x) (gG.name z)||decide (gG.name x=gG.name z))=true:=by simpa [cE] using u
    rw[u,ae rfl]at d;rw[ao hi.2 (by omega) d (by decide)];rfl
   have u:(cE (gG.name x) (gG.name z)||decide (gG.name x=gG.name z))=false:=by simpa [cE] using u
   rw[u,aa (by decide)]at d;exact⟨wO (by omega),(i+1),_,au.refl _ _,⟨by omega,bO hi.2 d⟩,by omega,⟨Z,Z,Z,Z,Y⟩,trivial⟩
  have h0:i=0:=by omega
  rw[fA h0,aa (by decide)]at d;exact⟨wO (by omega),(i+1),_,au.refl _ _,⟨by omega,bO hi.2 d⟩,by omega,⟨Z,Z,Z,Z,Y⟩,trivial⟩
 refine⟨?_,trivial⟩;rw[aI fun k _ hk=>hi.2 k (by omega)];rfl
theorem AW{l:List gG}(h:eo l=0):l.length<=100/\∀b∈l,1<=b.size/\b.size<=10000:=by
 unfold eo at h;split at h
 ·cases h
 refine⟨by omega,fun b hb=>?_⟩;obtain⟨k,hk⟩:=cI.1 hb;have d:=fa h k (ai _) (by rw[aY];exact (aU.1 hk).1);simp only[rF,hk]at d;split at d
 ·split at d
  ·rename_i u;exact dB.1 u
  cases d
 cases d
theorem CH(n:Int):af C 267 [.pv (i64 n)] (.p (bool false)) []:=by
 refine fW hC Tryz.func267 rfl (by kernel_rfl) fun _=>?_;refine⟨?_,trivial⟩;simp[bool]
theorem JK(a b:Int):af C 164 [.pv (i64 a),.pv (i64 b)] (.p (i64 (vM a b))) []:=by
 refine fW hC Tryz.func164 rfl (by kernel_rfl) fun _=>?_;refine⟨_,_,(CH a),_,_,(CH b),iW ?_ ?_⟩<;>intro h
 ·refine⟨?_,trivial⟩;rw[vM,ae h];rfl
 apply iW<;>intro d
 ·refine⟨?_,trivial⟩;rw[vM,aa h,ae d];rfl
 refine⟨?_,trivial⟩;rw[vM,aa h,aa d];rfl
theorem Sr(a b:Int):af C 163 [.pv (.sl [[i64 a],[i64 b]])] (.p (i64 (Ot a b))) []:=by
 refine fW hC Tryz.func163 rfl (by kernel_rfl) fun _=>?_;refine ax (fun i:Nat=>i<=2/\(0<i->a=0)/\(1<i->b=0)) (fun i=>[(3,.p (i64 0)),(6,.p (.sl [[i64 a],[i64 b]])),(7,.p (i64 2)),(8,.p (i64 i))]) (fun _=>[]) (fun i=>2-i) 0 _ (au.refl _ _) ⟨by omega,fun h=>by omega,fun h=>by omega⟩ ⟨Z,Z,Z,Z,Y⟩ trivial fun i hi t h=>?_;obtain⟨q1,u,z⟩:=hi;apply iW<;>intro h1
 ·rcases (show i=0\/i=1 by omega) with rfl | rfl
  ·refine⟨[i64 a],⟨by decide,rfl⟩,iW ?_ ?_⟩<;>intro d
   ·refine⟨?_,trivial⟩;rw[Ot,aa d]
   have d:a=0:=by omega
   exact⟨⟨by decide,by decide⟩,1,_,au.refl _ _,⟨by omega,fun _=>d,fun h=>by omega⟩,by omega,⟨Z,Z,Z,Z,Y⟩,trivial⟩
  have e:=u (by omega);refine⟨[i64 b],⟨by decide,rfl⟩,iW ?_ ?_⟩<;>intro d
  ·refine⟨?_,trivial⟩;rw[Ot,ae e]
  have d:b=0:=by omega
  exact⟨⟨by decide,by decide⟩,2,_,au.refl _ _,⟨by omega,fun _=>e,fun _=>d⟩,by omega,⟨Z,Z,Z,Z,Y⟩,trivial⟩
 have e:=u (by omega);have D:=z (by omega);refine⟨?_,trivial⟩;rw[Ot,ae e,D]
def rG(size:Int)(b:gG):Int:=max (b.size-size) (size-b.size)
theorem NU(b:gG)(size:Int)(h1:1<=b.size/\b.size<=10000)(h2:1<=size/\size<=10000):af C 162 [.pv (.ag (ef b)),.pv (.ip [i64 size])] (.p (i64 (rG size b))) []:=by
 refine fW hC Tryz.func162 rfl (by kernel_rfl) fun _=>?_;refine⟨wO (by omega),wO (by omega),?_,trivial⟩;rfl
def qe(size:Int)(b c:gG):Bool:=decide (Ot (vM (rG size b) (rG size c)) (vM c.size b.size)<0)
def eR(t:List gG)(size near:Int):Nat->Int
 | 0=>-1
 | i+1=>match t[i]? with
  | some b=>if rG size b<=near/\(eR t size near i<0\/∃c,t[(eR t size near i).toNat]?=some c/\qe size b c=true) then i else eR t size near i
  | none=>eR t size near i
theorem vQ(t:List gG)(size near:Int):∀i:Nat,-1<=eR t size near i/\eR t size near i<i
 | 0=>by simp[eR]
 | i+1=>by
  have ih:=vQ t size near i;rw[eR];split
  ·split<;>omega
  omega
theorem vR{t:List gG}{size near:Int}{i:Nat}{b:gG}(h:t[i]?=some b)(d:rG size b<=near/\(eR t size near i<0\/∃c,t[(eR t size near i).toNat]?=some c/\qe size b c=true)):eR t size near (i+1)=i:=by
 rw[eR];simp only[h];rw[ae d]
theorem zg{t:List gG}{size near:Int}{i:Nat}{b:gG}(h:t[i]?=some b)(d:¬(rG size b<=near/\(eR t size near i<0\/∃c,t[(eR t size near i).toNat]?=some c/\qe size b c=true))):eR t size near (i+1)=eR t size near i:=by
 rw[eR];simp only[h];rw[aa d]
theorem B4(t:List gG)(size near:Int)(J:∀b∈t,1<=b.size/\b.size<=10000)(D:1<=size/\size<=10000)(hN:t.length<=100):af C 76 [.pv (.sl (t.map ef)),.pv (i64 size),.pv (i64 near)] (.p (i64 (eR t size near t.length))) []:=by
 refine sd ⟨[1,6],[],[],[6],[(6,[true,true,true,true,true,true,true,true,true,true,true,false,true,true,true,false,false,false,true,true,true,false,false,false,false,false,true,true,true,true,true,true])],[]⟩ hC Tryz.func76 rfl (by kernel_rfl) fun _=>?_;have V:=ak t ef;refine KQ 4 (y:=.ip [i64 size]) (fz:=[(4,.ll [i64 size])]) (by exact hC) (by exact⟨rfl,rfl⟩) ?_;refine ax (fun i:Nat=>i<=t.length) (fun i=>[(0,.p (.sl (t.map ef))),(2,.p (i64 near)),(7,.fn 162 [.p (.ip [i64 size])]),(8,.p (i64 (eR t size near i))),(12,.p (.sl (t.map ef))),(13,.p (i64 t.length)),(14,.p (i64 i))]) (fun _=>[]) (fun i=>t.length-i) 0 _ (au.refl _ _) (ai _) ⟨rfl,rfl,rfl,rfl,rfl,ah (fun n:Nat=>AV.p (i64 n)) V,Z,Y⟩ trivial fun i hi tt h=>?_;apply iW<;>intro h1
 ·obtain⟨b,hb⟩:=aj (l:=t) (i:=i) (by omega);have N:=J b (an hb);have Ov:=vQ t size near i;refine⟨(ef b),(idx rfl hb),?_⟩;refine KQ 10 (y:=.ip (ef b)) (fz:=[(10,.ll (ef b))]) (by exact hC) (by exact⟨rfl,rfl⟩) ?_;refine⟨_,_,(NU b size N D),iW ?_ ?_⟩<;>intro I
  ·apply iW<;>intro O
   ·have e:=vR (size:=size) (near:=near) hb ⟨I,.inl O⟩;exact⟨wO (by omega),(i+1),_,au.refl _ _,by omega,by omega,⟨rfl,rfl,rfl,by rw[e];rfl,Z,Z,Z,Y⟩,trivial⟩
   obtain⟨c,u⟩:=aj (l:=t) (i:=(eR t size near i).toNat) (by omega);have kc:=J c (an u);have R:eR t size near i=((eR t size near i).toNat:Int):=by omega
   refine⟨_,_,(NU b size N D),(ef c),(idx R u),_,_,(NU c size kc D),_,_,(JK (rG size b) (rG size c)),(ef c),(idx R u),_,_,(JK c.size b.size),_,_,(Sr (vM (rG size b) (rG size c)) (vM c.size b.size)),iW ?_ ?_⟩<;>intro U
   ·have e:=vR (size:=size) (near:=near) hb ⟨I,.inr ⟨c,u,aP U⟩⟩;exact⟨wO (by omega),(i+1),_,au.refl _ _,by omega,by omega,⟨rfl,rfl,rfl,by rw[e];rfl,Z,Z,Z,Y⟩,trivial⟩
   have e:=zg (size:=size) (near:=near) hb fun h=>by
    rcases h.2 with h | ⟨d,z,h⟩
    ·exact O h
    rw[u]at z;injection z with z;subst z;exact U (fO h)
   exact⟨wO (by omega),(i+1),_,au.refl _ _,by omega,by omega,⟨rfl,rfl,rfl,by rw[e];rfl,Z,Z,Z,Y⟩,trivial⟩
  have e:=zg (size:=size) (near:=near) hb fun h=>I h.1;exact⟨wO (by omega),(i+1),_,au.refl _ _,by omega,by omega,⟨rfl,rfl,rfl,by rw[e];rfl,Z,Z,Z,Y⟩,trivial⟩
 have e:i=t.length:=by omega
 refine⟨?_,trivial⟩;rw[<-e]
open Go.ChangeShapes
variable {H:Type} {enc:TypeId×Value->H} {w:World} {S:Nat->Prop}
theorem U2:Sp enc w S 176 4 ef (UB (fun x=>bE x.name)):=fun n cs x h=>by
 obtain⟨z,ds,e,ld,q⟩:=cT (S:=S) (ks:=fun i=>match i with | _=>1) (hk:=dZ (by kernel_rfl)) (Qs:=fun i xs d=>match i with
   | 0=>∃r:ByteArray,xs=[str r]/\UB bE r (Rows.uptoBulk d)
   | 1=>∃r:Int,xs=[i64 r]/\UB (fun _=>True) r (Rows.uptoBulk d)
   | 2=>∃r:Int,xs=[i64 r]/\UB (fun _=>True) r (Rows.uptoBulk d)
   | _=>∃r:Int,xs=[i64 r]/\UB (fun _=>True) r (Rows.uptoBulk d)) Tryz.underlying176 (fun i f u=>by
  match i,u with
  | 0,u=>cases u;exact us
  | 1,u=>cases u;exact ui
  | 2,u=>cases u;exact ui
  | 3,u=>cases u;exact ui
  | n+4,u=>cases u) h
 have z:cs.length=4:=z.trans (by kernel_rfl);obtain⟨x0,c0,_,U,V,I,W,b0⟩:=q 0 _ rfl;obtain⟨x1,c1,_,Y,Z,J,e1,b1⟩:=q 1 _ rfl;obtain⟨x2,c2,_,r2,i2,N,e2,b2⟩:=q 2 _ rfl;obtain⟨x3,c3,_,r3,i3,O,e3,b3⟩:=q 3 _ rfl;cases W;cases e1;cases e2;cases e3;have D:bI S w 0 ([str I]++([i64 J]++([i64 N]++([i64 O])))) cs:=bI.join U (bI.join Y (bI.join r2 (r3)));have R:=bu V;have j1:=bu Z;have j2:=bu i2;have j3:=bu i3;rw[<-e]at R j1 j2 j3;exact⟨_,rfl,z,fun i c v h1 h2=>D i c v h1 (by rw[aY];exact h2),⟨I,J,N,O⟩,rfl,fun hn=>b0 (aO R hn)⟩
theorem Ss(hS:∀b,b<w.heap.size->S b):Sp enc w S 44 1 (fun l:List gG=>[.sl (l.map ef)]) (UB oG):=gS Tryz.underlying44 (by kernel_rfl) (by decide) hS U2
end M
namespace Reg
section
variable {α:Type} (lt:α->α->Prop) [DecidableRel lt]
def du(c:Nat)(x:α)(l:List α):Nat->Nat
 | 0=>0
 | k+1=>match l[k]? with
  | some y=>if c<=k/\lt x y then du c x l k else k+1
  | none=>k+1
def gE(l:List α)(k:Nat)(x:α):List α:=l.take k++x::l.drop k
def gj(c:Nat)(l:List α):Prop:=∀(i j:Nat) a b,c<=i->i<j->l[i]?=some a->l[j]?=some b->lt a b
variable {l:List α} {k:Nat}
omit [DecidableRel lt] in
theorem AX{x:α}(hk:k<=l.length)(i:Nat):(gE l k x)[i]?=if i<k then l[i]? else if i=k then some x else l[i-1]?:=by
 have d:(l.take k).length=k:=by rw[aV];omega
 unfold gE;by_cases h:i<k
 ·rw[ae h,dU (by omega),iv h]
 rw[aa h,dV (by omega),d];by_cases e:i=k
 ·rw[ae e,e,rO];rfl
 rw[aa e];obtain⟨m,u⟩:∃m,i-k=m+1:=⟨i-k-1,by omega⟩;rw[u,yC,eE,show k+m=i-1 by omega]
omit [DecidableRel lt] in
theorem rH{x y:α}:y∈gE l k x↔y=x\/y∈l:=by
 unfold gE;rw[cm,aE];constructor
 ·rintro (h | h | h)
  ·exact .inr (jK h)
  ·exact .inl h
  exact .inr (mc h)
 rintro (h | h)
 ·exact .inr (.inl h)
 rw[<-nO k l,cm]at h;rcases h with h | h
 ·exact .inl h
 exact .inr (.inr h)
theorem kL{c:Nat}{x:α}{l:List α}:∀k,c<=k->k<=l.length ->
  c<=du lt c x l k/\du lt c x l k<=k/\(∀(j:Nat) y,du lt c x l k<=j->j<k->l[j]?=some y->lt x y)/\
  (du lt c x l k=c\/∃y,l[du lt c x l k-1]?=some y/\¬lt x y)
 | 0,h,_=>⟨by rw[du];omega,by rw[du];omega,fun j y _ I=>by omega,.inl (by rw[du];omega)⟩
 | k+1,h,hl=>by
  obtain⟨y,u⟩:∃y,l[k]?=some y:=⟨_,aX (by omega)⟩;rw[du,u];dsimp only;by_cases g:c<=k/\lt x y
  ·rw[ae g];obtain⟨J,I,N,O⟩:=kL (c:=c) (x:=x) (l:=l) k g.1 (by omega);refine⟨J,by omega,fun j z D R d=>?_,O⟩;by_cases e:j<k
   ·exact N j z D e d
   have e:j=k:=by omega
   subst e;rw[u]at d;injection d with d;exact d▸g.2
  rw[aa g];refine⟨h,aF _,fun j z D R _=>by omega,?_⟩;by_cases e:c<=k
  ·exact .inr ⟨y,by rw[Nat.add_sub_cancel];exact u,fun U=>g ⟨e,U⟩⟩
  exact .inl (by omega)
omit [DecidableRel lt] in
theorem NV{c:Nat}{x:α}(hs:gj lt c l)(CG:c<=k)(hk:k<=l.length)(N:∀(j:Nat) y,k<=j->l[j]?=some y->lt x y)(O:∀(i:Nat) a,c<=i->i<k->l[i]?=some a->lt a x):gj lt c (gE l k x):=by
 intro i j a b u R d hb;rw[AX hk]at d hb;by_cases z:i<k
 ·rw[ae z]at d;by_cases D:j<k
  ·rw[ae D]at hb;exact hs i j a b u R d hb
  rw[aa D]at hb;by_cases I:j=k
  ·rw[ae I]at hb;injection hb with hb;exact hb▸O i a u z d
  rw[aa I]at hb;exact hs i (j-1) a b u (by omega) d hb
 rw[aa z]at d;rw[aa (by omega),aa (by omega)]at hb;by_cases J:i=k
 ·rw[ae J]at d;injection d with d;exact d▸N (j-1) b (by omega) hb
 rw[aa J]at d;exact hs (i-1) (j-1) a b (by omega) (by omega) d hb
theorem CI(D:∀a b c,lt a b->lt b c->lt a c)(I:∀a b,¬lt a b->a=b\/lt b a){c:Nat}{x:α}(hs:gj lt c l)(J:c<=l.length)(N:∀(i:Nat),c<=i->l[i]?≠some x):gj lt c (gE l (du lt c x l l.length) x):=by
 obtain⟨O,R,U,V⟩:=kL lt (x:=x) l.length J (aF _);refine NV lt hs O R (fun j y W d=>U j y W (aU.1 d).1 d) fun i a hi hk u=>?_;rcases V with e | ⟨y,d,Y⟩
 ·omega
 have z:lt y x:=by
  rcases I _ _ Y with e | h
  ·exact absurd (by rw[d,e]) (N (du lt c x l l.length-1) (by omega))
  exact h
 by_cases e:i=du lt c x l l.length-1
 ·rw[e,d]at u;injection u with u;exact u▸z
 exact D _ _ _ (hs i _ a y hi (by omega) u d) z
omit [DecidableRel lt] in
theorem B5(h:gj lt 0 l):l.Pairwise lt:=jU.2 fun i j hi d u=>h i j _ _ (ai _) u (aX hi) (aX d)
end
def iq(l:List (Int×Int))(x:Int×Int):List (Int×Int):=if du lexLt 0 x l l.length=0\/l[du lexLt 0 x l l.length-1]?≠some x then gE l (du lexLt 0 x l l.length) x else l
theorem lexLt.not(a b:Int×Int)(h:¬lexLt a b):a=b\/lexLt b a:=by
 rcases lexLt.YI b a h with e | e
 ·exact .inl e.symm
 exact .inr e
theorem GB{l:List (Int×Int)}{x:Int×Int}(hs:gj lexLt 0 l):gj lexLt 0 (iq l x)/\(∀y,y∈iq l x↔y=x\/y∈l)/\(iq l x).length<=l.length+1:=by
 obtain⟨b1,b2,d,u⟩:=kL lexLt (x:=x) (l:=l) l.length (ai _) (aF _);unfold iq;by_cases g:du lexLt 0 x l l.length=0\/l[du lexLt 0 x l l.length-1]?≠some x
 ·rw[ae g];refine⟨CI lexLt lexLt.tr lexLt.not hs (ai _) fun i _ hi=>?_,fun y=>rH,by unfold gE;rw[bG,cH,aV,dn];omega⟩;have z:=(aU.1 hi).1;by_cases e:du lexLt 0 x l l.length<=i
  ·exact absurd rfl (d i x e z hi).ne
  rcases g with g | g
  ·omega
  rcases u with e2 | ⟨y,D,I⟩
  ·omega
  by_cases J:i=du lexLt 0 x l l.length-1
  ·exact g (J▸hi)
  exact I (hs i _ x y (ai _) (by omega) hi D)
 rw[aa g];refine⟨hs,fun y=>⟨.inr,fun h=>?_⟩,by omega⟩;rcases h with rfl | h
 ·have:l[du lexLt 0 y l l.length-1]?=some y:=by
   by_cases e:l[du lexLt 0 y l l.length-1]?=some y
   ·exact e
   exact absurd (.inr e) g
  exact an this
 exact h
theorem CJ:∀(d l:List (Int×Int)),gj lexLt 0 l->gj lexLt 0 (d.foldl iq l)/\(∀y,y∈d.foldl iq l↔y∈d\/y∈l)/\(d.foldl iq l).length<=l.length+d.length
 | [],l,h=>⟨h,fun y=>by simp,by simp⟩
 | x::d,l,h=>by
  obtain⟨u,z,h3⟩:=GB (x:=x) h;obtain⟨D,I,i3⟩:=CJ d (iq l x) u;refine⟨D,fun y=>?_,?_⟩
  ·rw[jg,I,z,aE];constructor
   ·rintro (h | h | h)
    ·exact .inl (.inr h)
    ·exact .inl (.inl h)
    exact .inr h
   rintro ((h | h) | h)
   ·exact .inr (.inl h)
   ·exact .inl h
   exact .inr (.inr h)
  rw[jg,cH];omega
theorem Is{d l:List (Int×Int)}(hp:l.Pairwise lexLt)(u:∀x,x∈l↔x∈d):d.foldl iq []=l:=by
 obtain⟨z,D,_⟩:=CJ d [] fun i j a b _ _ h=>by cases h
 refine qd (B5 _ z) hp fun x=>?_;rw[D,u];simp
def dS(a b:Int×Int):Prop:=lexLt (a.2-a.1,a.1) (b.2-b.1,b.1)
instance (a b:Int×Int):Decidable (dS a b):=by unfold dS;infer_instance
theorem dS.tr(a b c:Int×Int)(h:dS a b)(k:dS b c):dS a c:=lexLt.tr _ _ _ h k
theorem dS.not(a b:Int×Int)(h:¬dS a b):a=b\/dS b a:=by
 rcases lexLt.not _ _ h with e | e
 ·obtain⟨a1,a2⟩:=a;obtain⟨b1,b2⟩:=b;simp only[Prod.mk.injEq]at e ⊢;exact .inl (by omega)
 exact .inr e
theorem It{l m:List (Int×Int)}(d:l.Pairwise dS)(u:m.Pairwise dS)(h:∀x,x∈l↔x∈m):l=m:=by
 have inj:∀a b:Int×Int,(a.2-a.1,a.1)=(b.2-b.1,b.1)->a=b:=fun a b e=>by
  obtain⟨a1,a2⟩:=a;obtain⟨b1,b2⟩:=b;simp only[Prod.mk.injEq]at e ⊢;omega
 refine List.map_inj_right inj |>.1 (qd (List.pairwise_map.2 d) (List.pairwise_map.2 u) fun x=>?_);simp only[bF,h]
def eC(c:Nat)(l:List (Int×Int))(x:Int×Int):List (Int×Int):=if x∈l then l else gE l (du dS c x l l.length) x
theorem NW{cs P:List (Int×Int)}{x:Int×Int}(D:gj dS cs.length (cs++P))(I:x ∉ cs++P):
  ∃Q,gE (cs++P) (du dS cs.length x (cs++P) (cs++P).length) x=cs++Q/\gj dS cs.length (cs++Q)/\∀y,y∈Q↔y=x\/y∈P:=by
 have d:cs.length<=(cs++P).length:=by rw[bG];omega
 have u:=CI dS dS.tr dS.not (x:=x) D d fun i _ hi=>I (an hi);obtain⟨z,_⟩:=kL dS (c:=cs.length) (x:=x) (l:=cs++P) (cs++P).length d (aF _);generalize du dS cs.length x (cs++P) (cs++P).length=k at *;have e:gE (cs++P) k x=cs++gE P (k-cs.length) x:=by
  unfold gE;rw[List.take_append,List.drop_append,aW z,fv z,List.nil_append,gT]
 rw[e]at u;exact⟨_,e,u,fun y=>rH⟩
theorem AY{cs:List (Int×Int)}:∀(L P:List (Int×Int)),gj dS cs.length (cs++P)->∃Q,L.foldl (eC cs.length) (cs++P)=cs++Q/\gj dS cs.length (cs++Q)/\∀y,y∈Q↔y∈P\/y∈L/\y ∉ cs/\y ∉ P
 | [],P,h=>⟨P,rfl,h,fun y=>by simp⟩
 | x::L,P,h=>by
  rw[jg];by_cases g:x∈cs++P
  ·rw[eC,ae g];obtain⟨Q,u,z,D⟩:=AY L P h;refine⟨Q,u,z,fun y=>?_⟩;rw[D,aE];rw[cm]at g;constructor
   ·rintro (h | ⟨h,h'⟩)
    ·exact .inl h
    exact .inr ⟨.inr h,h'⟩
   rintro (h | ⟨h | h,h',d⟩)
   ·exact .inl h
   ·subst h;rcases g with g | g
    ·exact absurd g h'
    exact absurd g d
   exact .inr ⟨h,h',d⟩
  rw[eC,aa g];obtain⟨R,I,J,N⟩:=NW h g;rw[I];obtain⟨Q,u,z,D⟩:=AY L R J;rw[cm]at g;refine⟨Q,u,z,fun y=>?_⟩;rw[D,N,aE];constructor
  ·rintro ((h | h) | ⟨h,h',d⟩)
   ·subst h;exact .inr ⟨.inl rfl,fun e=>g (.inl e),fun e=>g (.inr e)⟩
   ·exact .inl h
   exact .inr ⟨.inr h,h',fun e=>d (.inr e)⟩
  rintro (h | ⟨h | h,h',d⟩)
  ·exact .inl (.inr h)
  ·exact .inl (.inl h)
  by_cases e:y=x
  ·exact .inl (.inl e)
  exact .inr ⟨h,h',fun O=>O.elim e d⟩
theorem Lb{cs L S:List (Int×Int)}(hS:S.Pairwise dS)(u:∀y,y∈S↔y∈L/\y ∉ cs):L.foldl (eC cs.length) cs=cs++S:=by
 obtain⟨Q,d,z,D⟩:=AY (cs:=cs) L [] fun i j a b hc I J hb=>by
  have:=(aU.1 J).1;rw[cQ]at this;omega
 rw[cQ]at d;rw[d];congr 1;refine It (jU.2 fun i j hi N I=>?_) hS fun y=>?_
 ·refine z (cs.length+i) (cs.length+j) _ _ (by omega) (by omega) ?_ ?_
  ·rw[dV (by omega),yM,aX hi]
  rw[dV (by omega),yM,aX N]
 rw[D,u];simp
section
variable {α:Type} (q:α->Bool) (l:List α)
def rI(k:Nat):Nat:=((l.take k).filter q).length
theorem AZ{k:Nat}{x:α}(h:l[k]?=some x):rI q l (k+1)=rI q l k+if q x=true then 1 else 0:=by
 unfold rI;rw[yY,h,iD,bG];congr 1;cases hq:q x<;>simp[hq]
theorem rJ{a b:Nat}(h:a<=b):rI q l a<=rI q l b:=by
 have:=((List.take_prefix_take_left (l:=l) h).sublist.filter q).length_le;exact this
theorem rK{m c:Nat}:∀i,i<=l.length->(eB q l i)[m]?=some c->c<i/\(∃x,l[c]?=some x/\q x=true)/\rI q l c=m
 | 0,_,h=>by rw[show eB q l 0=[] from rfl]at h;cases h
 | i+1,hi,h=>by
  have d:l[i]?=some l[i]:=aX (by omega);have hl:=mN q l i (by omega);rw[jw d]at h;by_cases e:m<(eB q l i).length
  ·rw[dU e]at h;obtain⟨h1,u⟩:=rK i (by omega) h;exact⟨by omega,u⟩
  rw[dV (by omega)]at h;cases hq:q l[i]
  ·rw[hq]at h;cases h
  rw[hq,ae rfl]at h;have z:=(aU.1 h).1;rw[yD]at z;rw[show m-(eB q l i).length=0 by omega]at h;injection h with h;subst h;exact⟨by omega,⟨_,d,hq⟩,by unfold rI;omega⟩
theorem NX{lo hi a b k:Nat}{x:α}(J:(eB q l l.length)[lo]?=some a)(hb:(eB q l l.length)[hi]?=some b)(D:l[k]?=some x):
  ((lo:Int)<=(rI q l (k+1):Int)-1/\((rI q l (k+1):Int)-1<(hi:Int)\/(rI q l (k+1):Int)-1=(hi:Int)/\q x=true))↔a<=k/\k<=b:=by
 obtain⟨a1,⟨y,N,O⟩,a4⟩:=rK q l _ (aF _) J;obtain⟨b1,⟨z,d,I⟩,b4⟩:=rK q l _ (aF _) hb;have R:=AZ q l N;have sb:=AZ q l d;have U:=AZ q l D;rw[O,ae rfl]at R;rw[I,ae rfl]at sb;constructor
 ·rintro⟨V,u⟩;constructor
  ·refine Dk fun h=>?_;have:=rJ q l (a:=k+1) (b:=a) (by omega);omega
  refine Dk fun h=>?_;have:=rJ q l (a:=b+1) (b:=k) (by omega);rcases u with u | ⟨u,W⟩
  ·omega
  rw[W,ae rfl]at U;omega
 rintro⟨V,u⟩;have m1:=rJ q l (a:=a+1) (b:=k+1) (by omega);refine⟨by omega,?_⟩;by_cases e:k=b
 ·subst e;rw[D]at d;injection d with d;exact .inr ⟨by omega,d▸I⟩
 have:=rJ q l (a:=k+1) (b:=b) (by omega);exact .inl (by omega)
end
section
variable {α β:Type} [DecidableEq β] (f:α->β) (g:α->Int) (y:β) (l:List α)
def uj:Nat->Int
 | 0=>0
 | k+1=>uj k+match l[k]? with
  | some x=>if f x=y then g x else 0
  | none=>0
theorem xb(h:∀x∈l,f x≠y):∀k,uj f g y l k=0
 | 0=>rfl
 | k+1=>by
  rw[uj,xb h k];cases hx:l[k]? with
  | none=>rfl
  | some x=>dsimp only;rw[if_neg (h x (List.mem_of_getElem? hx))];rfl
theorem A0(u:∀(i j:Nat) a b,i<j->l[i]?=some a->l[j]?=some b->f a≠f b){p:Nat}{x:α}(hp:l[p]?=some x)(d:f x=y):∀k,uj f g y l k=if p<k then g x else 0
 | 0=>by rw[aa (Nat.not_lt_zero _)];rfl
 | k+1=>by
  rw[uj,A0 u hp d k];by_cases e:k=p
  ·subst e;rw[aa (Nat.lt_irrefl _),ae (Nat.lt_succ_self _),hp];dsimp only;rw[ae d,Int.zero_add]
  have J:(match l[k]? with
   | some x=>if f x=y then g x else 0
   | none=>0)=(0:Int):=by
   cases hk:l[k]? with
   | none=>rfl
   | some z=>
    dsimp only;rw[aa fun h=>?_];rcases uu e with D | D
    ·exact u k p z x D hk hp (h.trans d.symm)
    exact u p k x z D hp hk (d.trans h.symm)
  rw[J,jm];by_cases I:p<k
  ·rw[ae I,ae (by omega)]
  rw[aa I,aa (by omega)]
end
end Reg
namespace M
open Go.AM Go.RowKit Go.Lib
open Reg (lexLt dS eB rI gE du eC)
def NY(m:List cw)(l:Lay):Bool:=decide (cg m l.mat=1)
theorem JL{α:Type}{q:α->Bool}{l:List α}{p:Nat}{x:α}(u:l[p]?=some x)(z:q x=true):∀i,p<i->i<=l.length->(eB q l i)[rI q l p]?=some p
 | 0,h,_=>absurd h (Nat.not_lt_zero _)
 | i+1,h,hi=>by
  obtain⟨y,d⟩:=aj (l:=l) (i:=i) (by omega);have D:=Reg.mN q l i (by omega);rw[Reg.jw d];by_cases e:p<i
  ·have:=JL u z i e (by omega);rw[dU (aU.1 this).1];exact this
  have e:p=i:=by omega
  subst e;rw[u]at d;injection d with d;subst d;have I:rI q l p=(eB q l p).length:=D.symm;rw[ae z,I,dV (aF _),rO];rfl
theorem A1(m:List cw)(s:List Lay)(i:Nat):cZ m s i=(eB (NY m) s i).map fun k:Nat=>(k:Int):=by
 unfold cZ Reg.eB;congr 2;funext k;unfold fo NY;cases s[k]?<;>rfl
variable {s:List Lay}
theorem NZ{m:List cw}{i:Nat}(h:i<=s.length):nC m s i=(rI (NY m) s i:Nat):=by
 rw[nC,A1,aw,Reg.mN _ _ _ h];rfl
variable {j:Nat}
theorem Iu{m:List cw}{a:Int}(h:(cZ m s s.length)[j]?=some a):∃p:Nat,a=p/\p<s.length/\fo m s p=true/\nC m s p=j:=by
 rw[A1,aB]at h;obtain⟨p,hp,rfl⟩:=aT.1 h;obtain⟨d,⟨x,u,z⟩,D⟩:=Reg.rK _ _ _ (aF _) hp;exact⟨p,rfl,d,by rw[fo,u];exact z,by rw[NZ (sG d),D]⟩
theorem N0{m:List cw}{p:Nat}(hp:p<s.length)(d:fo m s p=true)(z:nC m s p=j):(cZ m s s.length)[j]?=some (p:Int):=by
 obtain⟨x,u⟩:=aj (l:=s) (i:=p) hp;rw[fo,u]at d;have:=JL (q:=NY m) u d s.length hp (aF _);rw[NZ (sG hp)]at z;have e:rI (NY m) s p=j:=by omega
 rw[e]at this;rw[A1,aB,this];rfl
def A2(m:List cw)(s:List Lay)(c:List Int)(j:Nat):Bool:=match c[j]?,c[j-1]? with
 | some a,some b=>decide (a-b=2)&&l6 m s (a-1).toNat
 | _,_=>false
def fp(m:List cw)(s:List Lay)(c:List Int)(i:Nat):List (Int×Int):=((List.range i).filter fun j=>decide (1<=j)&&A2 m s c j).map fun j:Nat=>((j:Int),(j:Int)+1)
theorem x_{m:List cw}{c:List Int}{i:Nat}(h:1<=i):fp m s c (i+1)=fp m s c i++if A2 m s c i=true then [((i:Int),(i:Int)+1)] else []:=by
 unfold fp;rw[kY,iD,bz];congr 1;cases hr:A2 m s c i<;>simp[hr,h]
theorem Iv(m:List cw)(s:List Lay)(c:List Int)(i:Nat):(fp m s c i).length<=i:=by
 unfold fp;rw[aw];exact aO (nY _ _) (by simp)
theorem sU{m:List cw}(h:bH m s=0):(∀k,k<s.length->e_ m s k=0)/\qa m s=0:=by
 obtain⟨_,d⟩:=ez h;split at d
 ·cases d
 obtain⟨u,z⟩:=ez d;exact⟨fun k hk=>fa u k (ai _) (by omega),z⟩
theorem EM{m:List cw}{i:Nat}{l:Lay}(d:s[i]?=some l)(hb:e_ m s i=0):¬nI (cg m l.mat) (nH m s i):=by
 intro u;simp only[e_,d]at hb
 repeat' split at hb
 all_goals first
  | (cases hb;done)
  | (rename_i z;exact z u)
theorem Lc{m:List cw}{s:List Lay}(h:bH m s=0):(bA m s s.length).Pairwise lexLt:=by
 obtain⟨V,_⟩:=sU h;have key:∀i,i<=s.length->(bA m s i).Pairwise lexLt/\(∀x∈bA m s i,x.1<=nC m s i)/\(nH m s i≠2->∀x∈bA m s i,x.1<nC m s i\/nH m s i≠1/\x.1<nC m s i):=by
  intro i
  induction i with
  | zero=>intro _;exact⟨by simp[bA],by simp[bA],fun _=>by simp[bA]⟩
  | succ i ih=>
   intro hi;obtain⟨J,z,R⟩:=ih (by omega);obtain⟨l,D⟩:=aj (l:=s) (i:=i) (by omega);have W:=EM D (V i (by omega));have I:=vN (m:=m) (s:=s) (i:=i);have u:=AL (m:=m) (s:=s) (i:=i);have Y:fo m s i=decide (cg m l.mat=1):=by rw[fo,D]
   have Z:l6 m s i=decide (cg m l.mat=2):=by rw[l6,D]
   rw[Y]at I;rw[Z]at u;unfold nI at W;rw[wU (m:=m) D];by_cases N:cg m l.mat=1
   ·rw[ae (aP N)]at I;rw[aa (by rw[N];decide),cQ]at u;rw[u];exact⟨J,fun x d=>by have:=z x d;omega,fun _ x d=>by have:=z x d;exact .inl (by omega)⟩
   rw[aa (by rw[aL N];decide),jm]at I;by_cases O:cg m l.mat=2
   ·rw[ae (aP O)]at u;have gY:∀x∈bA m s i,x.1<nC m s i:=fun x d=>by rcases R (by omega) x d with h | h<;>omega
    rw[u];refine⟨?_,fun x d=>?_,fun h=>absurd O h⟩
    ·rw[yU];exact⟨J,by simp,fun x d y U=>by rw[bM]at U;subst U;exact .inl (gY x d)⟩
    rcases cm.1 d with d | d
    ·have:=z x d;omega
    rw[bM.1 d];simp only;omega
   rw[aa (by rw[aL O];decide),cQ]at u;rw[u,I];refine⟨J,z,fun _ x d=>?_⟩;rcases R (by omega) x d with h | h
   ·exact .inl h
   exact .inl h.2
 exact (key s.length (aF _)).1
theorem A3(m:List cw)(s:List Lay)(c:List Int):∀i,(fp m s c i).Pairwise lexLt/\∀x∈fp m s c i,x.1<i
 | 0=>⟨by simp[fp],by simp[fp]⟩
 | i+1=>by
  obtain⟨D,z⟩:=A3 m s c i;by_cases h:1<=i
  ·rw[x_ h];refine⟨?_,fun x d=>?_⟩
   ·rw[yU];refine⟨D,by split<;>simp,fun x d y u=>?_⟩;split at u
    ·rw[bM.1 u];exact .inl (z x d)
    cases u
   rcases cm.1 d with d | d
   ·have:=z x d;omega
   split at d
   ·rw[List.mem_singleton.1 d];dsimp only;omega
   cases d
  have e:i=0:=by omega
  subst e;have I:fp m s c (0+1)=[]:=by simp[fp]
  rw[I];exact⟨by simp,by simp⟩
theorem Ld{m:List cw}{s:List Lay}(h:bH m s=0):fp m s (cZ m s s.length) (cZ m s s.length).length=bA m s s.length:=by
 obtain⟨I,d⟩:=sU h;have O:fo m s 0=true/\fo m s (s.length-1)=true:=by
  unfold qa at d;split at d
  ·cases d
  split at d
  ·cases d
  split at d
  ·cases d
  exact⟨by simpa using ‹¬fo m s 0=false›,by simpa using ‹¬fo m s (s.length-1)=false›⟩
 refine Reg.qd (A3 m s _ _).1 (Lc h) fun x=>?_;unfold fp bA;simp only[bF,ml,fN,aK,cz];constructor
 ·rintro⟨j,⟨j1,j2,u⟩,rfl⟩;unfold A2 at u;split at u
  ·rename_i a b ha hb;simp only[aK,cz]at u;obtain⟨p,rfl,p2,p3,p4⟩:=Iu ha;obtain⟨r,rfl,r2,r3,r4⟩:=Iu hb;have e:((p:Int)-1).toNat=r+1:=by omega
   rw[e]at u;have R:=vN (m:=m) (s:=s) (i:=r);rw[ae r3]at R;exact⟨r+1,⟨by omega,u.2⟩,by rw[R,r4];refine Prod.ext ?_ ?_<;>(dsimp only;omega)⟩
  cases u
 rintro⟨k,⟨J,N⟩,rfl⟩;obtain⟨l,D⟩:=aj (l:=s) (i:=k) J;have kk:cg m l.mat=2:=by rw[l6,D]at N;exact fO N
 have z:fo m s k=false:=by rw[fo,D];exact aL (by omega)
 have k0:0<k:=CW fun e=>by subst e;rw[O.1]at z;cases z
 have h8:=EM D (I k J);have xq:=Gp (sG J) (fun j U=>I j (by omega)) k0;have kl:k+1<s.length:=by
  by_cases e:k=s.length-1
  ·rw[e,O.2]at z;cases z
  omega
 obtain⟨l2,V⟩:=aj (l:=s) (i:=k+1) kl;have W:=EM V (I (k+1) kl);rw[wU D,kk]at W;unfold nI at h8 W;have c2:fo m s (k+1)=true:=by rw[fo,V];exact aP (by omega)
 obtain⟨l0,Y⟩:=aj (l:=s) (i:=k-1) (by omega);have X_:nH m s k=cg m l0.mat:=by rw[nH,aa (by omega),Y]
 have Z:fo m s (k-1)=true:=by rw[fo,Y];exact aP (by omega)
 have n0:=vN (m:=m) (s:=s) (i:=k-1);rw[ae Z,show k-1+1=k by omega]at n0;have n2:=vN (m:=m) (s:=s) (i:=k);rw[z,aa (by decide)]at n2;have i0:=rB (m:=m) (s:=s) (i:=k-1);obtain⟨j,U⟩:∃j:Nat,nC m s k=j:=⟨(nC m s k).toNat,by omega⟩;have a1:=N0 (j:=j) kl c2 (by omega);have a0:=N0 (j:=j-1) (by omega:k-1<s.length) Z (by omega);refine⟨j,⟨(aU.1 a1).1,by omega,?_⟩,by rw[U]⟩;simp only[A2,a1,a0,aK,cz];exact⟨by omega,by rw[show (((k+1:Nat):Int)-1).toNat=k by omega];exact N⟩
theorem GC{l:List (Int×Int)}(hb:∀x∈l,Bs x)(I:l.Nodup):(gW Gt l).Pairwise dS:=by
 obtain⟨u,J⟩:=db Gt Io l;have N:=(u.nodup_iff.2 I);refine (J.and N).imp_of_mem fun {a b} ha O d=>?_;have z:=hb a (u.mem_iff.1 ha);have D:=hb b (u.mem_iff.1 O);obtain⟨d,R⟩:=d;rw[PD,ku z.1,ku z.2,ku D.1,ku D.2]at d;have d:=of_decide_eq_false d;rcases Reg.dS.not b a (fun h=>d h) with e | e
 ·exact absurd e.symm R
 exact e
theorem N1{m:List cw}{l:List (Int×Int)}(hS:s.length<=1048576)(hb:∀x∈l,Bs x):(w9 m s l).foldl (eC (bA m s s.length).length) (bA m s s.length)=cq m s l:=
 Reg.Lb (GC (fun x d=>EJ hS hb x (o5.1 d).1) (xZ _ _ _ (by simp))) fun y=>by
  rw[fS,(db Gt Io _).1.mem_iff,o5]
def fB(q:Nat)(B:List (Int×Int)):List ((Int×Int)×Bool):=(B.take q).map (fun b=>(b,true))++(B.drop q).map fun b=>(b,false)
def fC(y:(Int×Int)×Bool):List PV:=[i64 y.1.1,i64 y.1.2,bool y.2]
theorem qf(q:Nat)(B:List (Int×Int)):(fB q B).length=B.length:=by
 rw[fB,bG,aw,aw,aV,dn];omega
theorem jq{q:Nat}{B:List (Int×Int)}{i:Nat}{b:Int×Int}(h:B[i]?=some b):(fB q B)[i]?=some (b,decide (i<q)):=by
 have hl:=(aU.1 h).1;unfold fB;by_cases e:i<q
 ·rw[dU (by rw[aw,aV];omega),aB,iv e,h,aP e];rfl
 rw[dV (by rw[aw,aV];omega),aw,aV,aB,eE,show q+(i-min q B.length)=i by omega,h,aL e];rfl
variable {k:Nat}
theorem PG{q:Nat}{B:List (Int×Int)}{x:Int×Int}(hq:q<=k)(hk:k<=B.length):gE (fB q B) k (x,false)=fB q (gE B k x):=by
 apply jM;intro i;have D:k<=(fB q B).length:=by rw[qf];exact hk
 have d:=Reg.AX (x:=x) hk i;rw[Reg.AX D];by_cases u:i<k
 ·rw[ae u]at d ⊢;obtain⟨b,hb⟩:=aj (l:=B) (i:=i) (by omega);rw[hb]at d;rw[jq hb,jq d]
 rw[aa u]at d ⊢;by_cases z:i=k
 ·rw[ae z]at d ⊢;rw[jq d,aL (by omega)]
 rw[aa z]at d ⊢;cases hb:B[i-1]? with
 | none=>
  rw[hb]at d;rw[zf.2 (by rw[qf];exact zf.1 hb),zf.2 (by rw[qf];exact zf.1 d)]
 | some b=>
  rw[hb]at d;rw[jq hb,jq d,aL (by omega),aL (by omega)]
theorem PH{q:Nat}{B:List (Int×Int)}{x:Int×Int}:(fB q B).any (fun y=>decide (y.1=x))=decide (x∈B):=by
 rw[kO,gz,cz];constructor
 ·rintro⟨y,d,e⟩;have e:=fO e;subst e;unfold fB at d;rcases cm.1 d with d | d
  ·obtain⟨b,hb,rfl⟩:=bF.1 d;exact jK hb
  obtain⟨b,hb,rfl⟩:=bF.1 d;exact mc hb
 intro h;obtain⟨i,hi⟩:=cI.1 h;exact⟨_,an (jq (q:=q) hi),aP rfl⟩
open Reg (v8)
def bh(l:List dM):List HX:=if l=[] then [.av .nl] else [.row 98 (l.map nB)]
def bp(l:List dM):List PV:=[.sl (l.map nB)]
theorem Iw{f:AV->AV}(d:f .nl=.nl)(LL:List (List dM)):(LL.map bh).map (fun r=>r.map (HX.iT f))=LL.map bh:=by
 rw[mq];refine nW fun l _=>?_;show (bh l).map (HX.iT f)=bh l;unfold bh;split
 ·simp[HX.iT,d]
 rfl
theorem PI{f:AV->AV}(u:f .nl=.nl)(LL:List (List dM))(k d:Nat)(h:f (.ow d)=.ow d):((LL.map bh).set k [.av (.ow d)]).map (fun r=>r.map (HX.iT f))=(LL.map bh).set k [.av (.ow d)]:=by
 rw[sH,Iw u];simp only[fJ,List.map_nil,HX.iT,h]
theorem JM(d:Nat)(LL:List (List dM)):(LL.map bh).map (fun r=>r.map (HX.iT (sc d)))=LL.map bh:=Iw rfl LL
theorem JN(i d:Nat)(LL:List (List dM)):(LL.map bh).map (fun r=>r.map (HX.iT (rn i d)))=LL.map bh:=Iw rfl LL
theorem l7{d:Nat}(LL:List (List dM))(k:Nat)(h:sc d (.ow 90001)=.ow 90001):((LL.map bh).set k [.av (.ow 90001)]).map (fun r=>r.map (HX.iT (sc d)))=(LL.map bh).set k [.av (.ow 90001)]:=PI rfl LL k 90001 h
theorem JO(LL:List (List dM)):∀r∈LL.map bh,∀x∈r,Je x:=fun r u x d=>by
 obtain⟨l,_,rfl⟩:=bF.1 u;unfold bh at d;split at d<;>(rw[bM.1 d];trivial)
theorem QJ(LL:List (List dM)):SV (LL.map bh) (LL.map bp):=SV.map fun l _=>⟨by unfold bh bp;split<;>rfl,fun j u v d z=>by
 match j with
 | 0=>
  unfold bh at d;simp only[bp,rU,Option.some.injEq]at z;subst z;split at d
  ·rename_i e;simp only[rU,Option.some.injEq]at d;subst d e;exact .nl
  simp only[rU,Option.some.injEq]at d;subst d;exact .row _ _
 | j+1=>simp[bp]at z⟩
theorem St{A:qB}{s d:AS}(h:s=d):au A s d:=h▸au.refl A s
theorem au.QK{A:qB}(hC:bR A.C)(s:AS)(id k d:Nat){LL:List (List dM)}{x:List dM}{R:TI}(U:d<100000)(hid:id≠d)(hb:s.h id=.ay 95 (LL.map bh))(hk:LL[k]?=some x)(V:A.C.T 98=some R)(D:0<R.size):
  au A s ⟨(jH d s).t,bq (bq (jH d s).h d (.row 98 (x.map nB))) id (.ay 95 ((LL.map bh).set k [.av (.ow d)]))⟩:=by
 have W:=(aU.1 hk).1;have u:(LL.map bh)[k]?=some (bh x):=by rw[aB,hk];rfl
 by_cases c:x=[]
 ·have z:bh x=[.av .nl]:=ae c;have Y:=au.Xb hC s id k 0 (e':=98) hb u (by rw[z];rfl) V D;have J:=au.Jg hC ⟨s.t,bq s.h id (.ay 95 ((LL.map bh).set k ((bh x).set 0 (.row 98 []))))⟩ id k 0 d (e:=95) (r:=(bh x).set 0 (.row 98 [])) U hid (aH _ _ _) (fun r u y O=>by
   rcases nN u with u | u
   ·exact JO _ r u y O
   subst u;rw[z]at O;rw[bM.1 O];trivial) (ga (by rw[aw];exact W)) (by rw[z];rfl)
  refine (Y.trans J).trans (St ?_);rw[c];refine ah (AS.mk _) ?_;funext j;by_cases N:j=id
  ·subst N;rw[aH,aH,vP];rfl
  rw[a_ _ _ N,a_ _ _ N];by_cases I:j=d
  ·subst I;rw[aH,aH];rfl
  rw[a_ _ _ I,a_ _ _ I];show bq (fun m=>yO d (bq s.h id _ m)) d .none j=bq (fun m=>yO d (s.h m)) d .none j;rw[a_ _ _ I,a_ _ _ I];show yO d (bq _ _ _ j)=_;rw[a_ _ _ N]
 have z:bh x=[.row 98 (x.map nB)]:=aa c;have J:=au.Jg hC s id k 0 d (e':=98) (xs:=x.map nB) U hid hb (JO _) u (by rw[z];rfl);rw[z]at J;exact J
structure U3 where
 tool:ByteArray
 holes:List dM
def qg(j:U3):List PV:=[str j.tool,.sl (j.holes.map nB)]
def EN(t:List gG)(l:List dM)(near:Int):Int:=p8 (eo t) (p8 (eh l) (if dR near 0 10000=true then 0 else 1))
def tD(t:List gG)(near:Int)(h:dM):Int:=eR t h.size near t.length
def sV(t:List gG)(l:List dM)(near:Int)(j:Nat)(k:Nat):List dM:=(l.take j).filter fun h=>decide (tD t near h=k)
def rL(t:List gG)(l:List dM)(near:Int)(j:Nat):List (List dM):=(List.range t.length).map (sV t l near j)
def ko(t:List gG)(l:List dM)(near:Int)(j:Nat):List Nat:=eB (fun h=>decide (tD t near h<0)) l j
def kM(t:List gG)(l:List dM)(near:Int)(i:Nat):List U3:=(List.range i).filterMap fun k=>match t[k]? with
 | some b=>if sV t l near l.length k=[] then none else some ⟨b.name,sV t l near l.length k⟩
 | none=>none
def bZ(l:List Nat):List Int:=l.map fun k:Nat=>(k:Int)
def gX(t:List gG)(l:List dM)(near:Int):List PV:=if EN t l near=0 then [.sl ((kM t l near t.length).map qg),ints (bZ (ko t l near l.length)),i64 0] else [.sl [],.sl [],i64 (EN t l near)]
variable {l:List dM} {near:Int}
theorem A4{t:List gG}{h:dM}(d:l[j]?=some h):sV t l near (j+1) k=sV t l near j k++if tD t near h=k then [h] else []:=by
 unfold sV;rw[aN d,iD];congr 1;by_cases e:tD t near h=k<;>simp[e]
theorem iK(t:List gG)(l:List dM)(near:Int)(j:Nat):(rL t l near j).length=t.length:=by simp[rL]
theorem qh{t:List gG}(hk:k<t.length):(rL t l near j)[k]?=some (sV t l near j k):=by
 rw[rL,aB,iu hk];rfl
theorem N2{α:Type}{l:List α}{i m:Nat}{x:α}(h:i<l.length):(l.set i x)[m]?=if m=i then some x else l[m]?:=by
 rw[List.getElem?_set];by_cases e:i=m
 ·subst e;rw[ae rfl,ae rfl,ae h]
 rw[aa e,aa (fun h=>e h.symm)]
theorem GD{t:List gG}{h:dM}(d:l[j]?=some h)(h0:tD t near h<0):rL t l near (j+1)=rL t l near j:=by
 unfold rL;refine nW fun k _=>?_;rw[A4 d,aa (by omega),cQ]
theorem GF{t:List gG}{h:dM}(d:l[j]?=some h)(hk:tD t near h=k)(u:k<t.length):rL t l near (j+1)=(rL t l near j).set k (sV t l near j k++[h]):=by
 refine jM fun m=>?_;rw[N2 (by rw[iK];exact u)];by_cases e:m=k
 ·subst e;rw[ae rfl,qh u,A4 d,ae hk]
 rw[aa e];by_cases z:m<t.length
 ·rw[qh z,qh z,A4 d,aa (by omega),cQ]
 rw[fI (by rw[iK];omega),fI (by rw[iK];omega)]
theorem GG(t:List gG)(l:List dM)(near:Int):(rL t l near 0).map bh=List.replicate t.length [.av .nl]:=by
 rw[rL,mq];refine jM fun m=>?_;rw[aB,List.getElem?_replicate];by_cases h:m<t.length
 ·rw[iu h,ae h];rfl
 rw[aa h,fI (by simp;omega)];rfl
theorem vS(t:List gG)(l:List dM)(near:Int)(j k:Nat):(sV t l near j k).length<=l.length:=aO (nY _ _) (by rw[aV];omega)
theorem A5(h:eh l=0):l.length<=2000/\∀x∈l,1<=x.size/\x.size<=10000:=by
 unfold eh at h;split at h
 ·cases h
 split at h
 ·rename_i d;refine⟨by omega,fun x u=>?_⟩;have:=ep.1 d x u;simp only[gi,aK]at this;exact dB.1 this.2.1
 cases h
theorem CL{t:List gG}{i:Nat}{b:gG}(h:t[i]?=some b):kM t l near (i+1)=kM t l near i++if sV t l near l.length i=[] then [] else [⟨b.name,sV t l near l.length i⟩]:=by
 unfold kM;rw[kY,zc];congr 1;by_cases e:sV t l near l.length i=[]<;>simp[h,e]
theorem A6(t:List gG)(l:List dM)(near:Int)(i:Nat):(kM t l near i).length<=i:=aO (zd _ _) (by simp)
theorem EO(t:List gG)(l:List dM)(near:Int)(ht:oG t)(hN:l.length<=1048576):af C 25 [.pv (.sl (t.map ef)),.pv (.sl (l.map nB)),.pv (i64 near)] (.tu (gX t l near)) []:=by
 by_cases u:eo t=0;rotate_left
 ·have e:EN t l near=eo t:=cu rfl u;rw[gX,aa (by rw[e];exact u),e];refine sd ⟨[16,20],[],[],[17],[],[]⟩ hC Tryz.func25 rfl (by kernel_rfl) fun _=>?_;refine⟨_,_,(kK t ht),iW ?_ ?_⟩<;>intro g
  ·refine⟨?_,trivial⟩;rfl
  exact absurd (by simpa using g) u
 by_cases D:eh l=0;rotate_left
 ·have e:EN t l near=eh l:=by rw[EN,dF u,cu rfl D]
  have I:=kK t ht;rw[u]at I;rw[gX,aa (by rw[e];exact D),e];refine sd ⟨[16,20],[],[],[17],[],[]⟩ hC Tryz.func25 rfl (by kernel_rfl) fun _=>?_;refine⟨_,_,I,_,_,(o9 l hN),iW ?_ ?_⟩<;>intro g
  ·refine⟨?_,trivial⟩;rfl
  exact absurd (by simpa using g) D
 have I:=kK t ht;have GH:=o9 l hN;have U:=iJ near 0 10000;rw[u]at I;rw[D]at GH;have J:EN t l near=if dR near 0 10000=true then 0 else 1:=by rw[EN,dF u,dF D]
 cases g3:dR near 0 10000 with
 | false=>
  rw[g3]at J U;rw[gX,aa (by rw[J];decide),J];refine sd ⟨[16,20],[],[],[17],[],[]⟩ hC Tryz.func25 rfl (by kernel_rfl) fun _=>?_;refine⟨_,_,I,_,_,GH,_,_,U,?_,trivial⟩;rfl
 | true=>
  rw[g3]at J U;rw[gX,ae (by rw[J];rfl)];obtain⟨tl,ts⟩:=AW u;obtain⟨hl,hs⟩:=A5 D;have lt:=ak t ef;have lh:=ak l nB;refine sd ⟨[16,20],[],[],[17],[],[]⟩ hC Tryz.func25 rfl (by kernel_rfl) fun _=>?_;refine⟨_,_,I,_,_,GH,_,_,U,⟨by omega,by omega,by show ((t.map ef).length:Int)*24<=_;omega,by omega⟩,?_⟩;refine ax (fun j:Nat=>j<=l.length) (fun j=>[(0,.p (.sl (t.map ef))),(2,.p (i64 near)),(11,.ow 11),(12,.ow 12),(35,.p (.sl (l.map nB))),(36,.p (i64 l.length)),(37,.p (i64 j))]) (fun j=>[(11,.ay 95 ((rL t l near j).map bh)),(12,.row 3 ((bZ (ko t l near j)).map fun n=>[i64 n]))]) (fun j=>l.length-j) 0 _ (au.trans (au.ed hC _ 12 3 _ (by decide) rfl rfl (by decide)) (au.Ys hC _ 11 (e:=95) (es:=List.replicate (t.map ef).length [.im (.slice none 0 0)]) (by exact rfl))) (ai _) ⟨rfl,rfl,rfl,rfl,rfl,ah (fun n:Nat=>AV.p (i64 n)) lh,Z,Y⟩ ⟨ah (AB.ay _) (by rw[GG,List.map_replicate,lt];rfl),Z,Y⟩ fun j hj tt h=>?_;apply iW<;>intro h1
  ·obtain⟨x,N⟩:=aj (l:=l) (i:=j) (by omega);have kx:=hs x (an N);have hb:=vQ t x.size near t.length;have O:ko t l near (j+1)=ko t l near j++if decide (tD t near x<0)=true then [j] else []:=Reg.jw N;have IW:(ko t l near j).length<=j:=Reg.np _ _ _;have R:((bZ (ko t l near j)).map fun n=>[i64 n]).length=(ko t l near j).length:=by rw[aw,bZ,aw]
   have U4:=B4 t x.size near ts kx tl;obtain⟨v,V⟩:∃v,v=tD t near x:=⟨_,rfl⟩;have C7:v=eR t x.size near t.length:=V;rw[<-C7]at U4 hb;rw[<-V]at O;refine⟨(nB x),(idx rfl N),_,_,U4,?_⟩;by_cases c:v<0
   ·rw[ae (aP c)]at O;refine zW (au.refl _ _) ?_;apply iW<;>intro d;rotate_left
    ·exact absurd c d
    refine⟨⟨by simp,by rw[R];simp;omega,by rw[R];simp;omega⟩,wO (by omega),(j+1),_,au.refl _ _,by omega,by omega,⟨Z,Z,Z,Z,Z,Z,Z,Y⟩,⟨?_,?_,trivial⟩⟩
    ·rw[GD N (by rw[<-V];exact c)];refine ah (AB.ay _) ?_;simp only[JM,JN]
    rw[O,bZ,bZ,bz,bz];rfl
   rw[aa (by rw[aL c];decide),cQ]at O;obtain⟨k,rfl⟩:∃k:Nat,v=k:=⟨v.toNat,by omega⟩;have W:k<t.length:=by omega
   have hg:=qh (l:=l) (near:=near) (j:=j) W;have lH:=GF N V.symm W;have RX:=vS t l near j k;refine zW (au.QK (by exact hC) _ 11 k 90001 (LL:=rL t l near j) (x:=sV t l near j k) (by decide) (by decide) (by exact ah (AB.ay _) (by simp only[JM,JN])) hg (by exact rfl) (by decide)) ?_;have tJ:((rL t l near j).map bh).set k [.av (.ow 90001)]=((rL t l near j).map bh).set k [.av (.ow 90001)]:=rfl;have U5:(((rL t l near j).map bh).set k [.av (.ow 90001)])[((k:Int)).toNat]?=some [.av (.ow 90001)]:=by
    rw[bU];exact ga (by rw[aw,iK];exact W)
   have lK:=ak (sV t l near j k) nB;refine⟨⟨by omega,by simp[iK];omega⟩,[.av (.ow 90001)],(by rw[l7,l7];exact U5;rfl;rfl),⟨fun r hr=>(by rw[bM.1 hr];rfl),by rw[lK];simp;omega,by rw[lK];simp;omega⟩,⟨by omega,by simp[iK];omega⟩,[.av (.ow 90001)],(by rw[l7,l7];exact U5;rfl;rfl),wO (by omega),j+1,_,au.Qu (by exact hC) _ 11 k 0 61 (e:=95) (es:=((rL t l near j).map bh).set k [.av (.ow 61)]) (r:=[.av (.ow 61)]) (e':=98) (xs:=(sV t l near j k++[x]).map nB) (by decide) (by exact ah (AB.ay _) (by rw[l7,l7];rw[bU];exact vP ..;rfl;rfl)) (by exact ah (AB.row _) (by rw[bz];rfl)) (ga (by rw[aw,iK];exact W)) (by exact rfl),?_⟩;refine⟨by omega,⟨by omega,⟨Z,Z,Z,Z,Z,Z,Z,Y⟩,⟨?_,?_,trivial⟩⟩⟩
   ·refine ah (AB.ay _) ?_;show (((rL t l near j).map bh).set k [.av (.ow 61)]).set k [.row 98 ((sV t l near j k++[x]).map nB)]=(rL t l near (j+1)).map bh;rw[vP,lH,sH];congr 1;rw[bh,aa (by simp)]
   show AB.row _ _=AB.row _ _;rw[O]
  have e:j=l.length:=by omega
  rw[e];refine zW (au.Qv (by exact hC) _ 11 ((rL t l near l.length).map bp) (e:=95) (by exact rfl) (QJ _)) ?_;have lB:=ak (rL t l near l.length) bp;rw[iK]at lB;refine ax (fun i:Nat=>i<=t.length) (fun i=>[(0,.p (.sl (t.map ef))),(12,.ow 12),(16,.ow 16),(64,.ow 11),(65,.p (i64 t.length)),(66,.p (i64 i))]) (fun i=>[(11,.row 95 ((rL t l near l.length).map bp)),(12,.row 3 ((bZ (ko t l near l.length)).map fun n=>[i64 n])),(16,.row 178 ((kM t l near i).map qg))]) (fun i=>t.length-i) 0 _ (au.ed hC _ 16 178 _ (by decide) rfl rfl (by decide)) (ai _) ⟨rfl,rfl,rfl,rfl,ah (fun n:Nat=>AV.p (i64 n)) lB,Z,Y⟩ ⟨Z,Z,Z,Y⟩ fun i hi tt h=>?_;apply iW<;>intro h2
  ·obtain⟨b,hb⟩:=aj (l:=t) (i:=i) (by omega);have hg:=qh (l:=l) (near:=near) (j:=l.length) (show i<t.length by omega);have PL:=CL (l:=l) (near:=near) hb;have uo:=A6 t l near i;have HV:=vS t l near l.length i;have lj:=ak (kM t l near i) qg;have lk:=ak (sV t l near l.length i) nB;refine⟨wO (by omega),(bp (sV t l near l.length i)),(pQ bp hg),iW ?_ ?_⟩<;>intro z
   ·have cU:¬sV t l near l.length i=[]:=fun e=>by
     have z:(0:Int)<(((sV t l near l.length i).map nB).length:Int):=z;rw[e]at z;simp at z
    rw[aa cU]at PL;exact⟨(ef b),(idx rfl hb),⟨fun r hr=>(by rw[bM.1 hr];rfl),by rw[lj];simp;omega,by rw[lj];simp;omega⟩,wO (by omega),(i+1),_,au.refl _ _,by omega,by omega,⟨Z,Z,Z,Z,Z,Z,Y⟩,⟨rfl,rfl,by rw[PL,bz];rfl,trivial⟩⟩
   have he:sV t l near l.length i=[]:=by
    have z:¬(0:Int)<(((sV t l near l.length i).map nB).length:Int):=z;rw[lk]at z;exact cP (by omega)
   rw[ae he,cQ]at PL;exact⟨wO (by omega),(i+1),_,au.refl _ _,by omega,by omega,⟨Z,Z,Z,Z,Z,Z,Y⟩,⟨rfl,rfl,by rw[PL];rfl,trivial⟩⟩
  have e2:i=t.length:=by omega
  rw[e2];exact⟨Z,Y⟩
end M
end Go.Proofs.YtnpkopkpbgflnaaGreatDoor
