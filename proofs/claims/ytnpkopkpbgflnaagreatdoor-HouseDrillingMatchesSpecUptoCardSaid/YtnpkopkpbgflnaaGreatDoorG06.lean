/- Part 6 of the proof of HouseDrillingMatchesSpec. -/
import Derived.Test.YtnpkopkpbgflnaaGreatDoorG05
import Derived.Sort.Walk0
import Derived.Test.YtnpkopkpbgflnaaGreatDoorCards
import Derived.Test.YtnpkopkpbgflnaaGreatDoorTie
import Derived.WalkKit
import Derived.ProofKit
import Derived.OpenShut
import Derived.Deep.DeepHandedRow
import Derived.Lib.LaidTab
import Derived.LaidMore
import Derived.Lay
import Derived.Stop.Joined
import Derived.Stop.LaidErr
import Derived.MakeChecks
import Derived.Deep.Fields
import Derived.Carry
set_option linter.unusedVariables false
set_option linter.unusedSimpArgs false
set_option maxRecDepth 100000
set_option maxHeartbeats 8000000
namespace Go
abbrev mz:=@List.any_append
abbrev vt:=@Go.Deep.hone_of
abbrev vu:=@Bool.not_eq_true
abbrev pU:=@Bool.false_and
end Go
namespace Go.Proofs.YtnpkopkpbgflnaaGreatDoor
namespace M
open Go.AM Go.RowKit Go.Lib
open Reg (aZ cR gQ)
def ends(l:List aZ):List Int:=l.flatMap fun r=>[r.y0,r.y1]
variable {l:List aZ}
theorem K0{i:Nat}{r:aZ}(h:l[i]?=some r):ends (l.take (i+1))=ends (l.take i)++[r.y0,r.y1]:=by
 rw[aN h];simp[ends]
theorem Nn(l:List aZ)(y:Int):y∈ends l↔∃r∈l,y=r.y0\/y=r.y1:=by
 simp[ends]
theorem F4(l:List aZ):(ends l).length=2*l.length:=by
 induction l with
 | nil=>rfl
 | cons r l ih=>simp only[ends,Ds,bG,cH,CV]at ih ⊢;omega
theorem H4{m:List aZ}(u:∀r,r∈m↔r∈l):compact (xJ (ends m))=Reg.bC l:=by
 have hs:(xJ (ends m)).Pairwise (·<=·):=by
  have:=List.pairwise_mergeSort (le:=fun x y:Int=>decide (x<=y)) (fun a b c z D=>by simp at *;omega) (fun a b=>by simp;omega) (ends m);exact this.imp fun h=>by simpa using h
 obtain⟨z,D⟩:=BL hs;obtain⟨I,J⟩:=Reg.oA l;refine Reg.BE _ _ z I fun x=>?_;rw[D,J,xJ,(List.mergeSort_perm _ _).mem_iff,Nn];constructor
 ·rintro⟨r,d,h⟩;exact⟨r,(u r).1 d,h⟩
 rintro⟨r,d,h⟩;exact⟨r,(u r).2 d,h⟩
variable {ys:List Int} {k:Nat}
theorem K1(u:Reg.jv ys){y q:Int}(d:ys[k]?=some y)(I:q∈ys)(h1:q<=y)(J:∀j z,j+1=k->ys[j]?=some z->z<q):q=y:=by
 obtain⟨i,hi⟩:=cI.1 I;rcases jP i k with h | h | h
 ·obtain⟨z,D⟩:=aj (l:=ys) (i:=k-1) (by have:=(aU.1 d).1;omega);have:=J (k-1) z (by omega) D;have:=pR u hi D (by omega);omega
 ·subst h;rw[hi]at d;injection d
 have:=pR u d hi (by omega);omega
structure Jr(L:List aZ)(ys:List Int)(k:Nat)(nw:List aZ)(next:Nat):Prop where
 le:next<=L.length
 len:nw.length<=next
 mem:∀r,r∈nw↔r∈L.take next/\∀j y,j+1=k->ys[j]?=some y->y<r.y1
 below:∀r∈L.take next,∀j y,j+1=k->ys[j]?=some y->r.y0<=y
 above:∀r∈L.drop next,∀j y,j+1=k->ys[j]?=some y->y<r.y0
 zero:k=0->next=0
structure Mid(L:List aZ)(y:Int)(nw:List aZ)(next:Nat):Prop where
 le:next<=L.length
 len:nw.length<=next
 mem:∀r,r∈nw↔r∈L.take next/\y<r.y1
 below:∀r∈L.take next,r.y0<=y
variable {L nw:List aZ}
theorem Jr.ZH{next:Nat}(h:Jr L ys k nw next)(O:Reg.jv ys){y:Int}(N:ys[k]?=some y):Mid L y (nw.filter fun r=>!oT y r) next:=by
 have d:k≠0->∃z,ys[k-1]?=some z/\z<y:=fun hk=>by
  have HV:=(aU.1 N).1;obtain⟨z,u⟩:=aj (l:=ys) (i:=k-1) (by omega);have R:=aU.1 u;have U:=aU.1 N;obtain⟨V,b2⟩:=R;obtain⟨W,c2⟩:=U;have:=(jU.1 O) (k-1) k V W (by omega);exact⟨z,u,by omega⟩
 refine⟨h.le,aO (nY _ _) h.len,fun r=>?_,fun r D=>?_⟩
 ·rw[ml,h.mem];simp only[oT,jj,dI];constructor
  ·rintro⟨⟨I,_⟩,Y⟩;exact⟨I,by omega⟩
  rintro⟨I,Y⟩;refine⟨⟨I,fun j z hj u=>?_⟩,by omega⟩;obtain⟨z',J,Z⟩:=d (by omega);rw[show k-1=j by omega,u]at J;injection J with J;omega
 by_cases hk:k=0
 ·rw[h.zero hk]at D;simp at D
 obtain⟨z,u,Z⟩:=d hk;have:=h.below r D (k-1) z (by omega) u;omega
theorem Mid.next{y:Int}{next:Nat}(h:Mid L y nw next){r:aZ}(u:L[next]?=some r)(z:r.y0<=y)(D:y<r.y1):Mid L y (nw++[r]) (next+1):=by
 have gY:=(aU.1 u).1;refine⟨by omega,by have:=h.len;simp;omega,fun q=>?_,fun q d=>?_⟩
 ·rw[aN u,cm,cm,bM,h.mem];constructor
  ·rintro (⟨a,b⟩ | rfl)
   ·exact⟨.inl a,b⟩
   exact⟨.inr rfl,D⟩
  rintro⟨a | rfl,b⟩
  ·exact .inl ⟨a,b⟩
  exact .inr rfl
 rw[aN u,cm,bM]at d;rcases d with d | rfl
 ·exact h.below q d
 exact z
theorem Mid.row{y:Int}{next:Nat}(h:Mid L y nw next)(d:∀r,r∈L↔r∈l)(u:∀r∈L.drop next,y<r.y0):∀r,r∈nw↔r∈l/\r.y0<=y/\y<r.y1:=by
 intro r;rw[h.mem,<-d];constructor
 ·rintro⟨a,b⟩;exact⟨jK a,h.below r a,b⟩
 rintro⟨a,b,c⟩;refine⟨?_,c⟩;rw[<-nO next L,cm]at a;rcases a with a | a
 ·exact a
 have:=u r a;omega
theorem Mid.UH{m:List aZ}{next:Nat}{y:Int}(h:Mid L y nw next)(I:ys[k]?=some y)(hp:m.Perm nw)(J:∀r∈L.drop next,y<r.y0):Jr L ys (k+1) m next:=by
 have one:∀j z,j+1=k+1->ys[j]?=some z->z=y:=fun j z u d=>by
  rw[show j=k by omega,I]at d;injection d with d;exact d.symm
 refine⟨h.le,by rw[hp.length_eq];exact h.len,fun r=>?_,fun r D j z u d=>?_,fun r D j z u d=>?_,fun h=>by omega⟩
 ·rw[hp.mem_iff,h.mem];constructor
  ·rintro⟨a,b⟩;exact⟨a,fun j z u d=>by rw[one j z u d];exact b⟩
  rintro⟨a,b⟩;exact⟨a,b k y rfl I⟩
 ·rw[one j z u d];exact h.below r D
 rw[one j z u d];exact J r D
theorem H5(hs:L.Pairwise fun a b=>a.y0<=b.y0){i:Nat}{r:aZ}(z:L[i]?=some r){y:Int}(h:y<r.y0):∀q∈L.drop i,y<q.y0:=by
 intro q d;obtain⟨hi,u⟩:=aU.1 z;rw[pO hi,u,aE]at d;rcases d with rfl | d
 ·exact h
 obtain⟨j,D,rfl⟩:=CZ d;rw[List.getElem_drop];have:=jU.1 hs i (i+1+j) hi (by rw[dn]at D;omega) (by omega);rw[u]at this;omega
def Good(r:aZ):Prop:=Bd r/\r.x0<r.x1/\r.y0<r.y1
theorem F5(l:List aZ)(ys:List Int){N:Nat}(h:∀y,(Reg.rowOf l y).length<=N):∀k,∀t∈Reg.dJ l ys k,t.xs.length<=N:=by
 intro k
 induction k with
 | zero=>simp[Reg.dJ]
 | succ k ih=>rw[Reg.dJ];exact FQ _ _ _ ih (h _)
theorem Eh(l:List aZ)(R:∀r∈l,Good r)(hN:l.length<=4398046511104)(hH:(Reg.bC l).length<=1000000000000)(hX:∀y,(Reg.rowOf l y).length<=1000000000000):af C 39 [.pv (cd l)] (.own 203 ((Reg.qq l).map hb)) []:=by
 refine sd ⟨[],[4],[],[20],[(20,[true,false,false,false,false,false,false,true,false,false,true,false,true,true,true])],[]⟩ hC Tryz.func39 rfl (by kernel_rfl) fun _=>?_;have Tf:∀r∈l,Bd r:=fun r d=>(R r d).1;obtain⟨hp,QA⟩:=FZ Tf;have qE:=hp.length_eq;refine⟨_,_,(F1 l (by omega)),_,_,(RV l Tf (by omega)),?_⟩;generalize fV Ng l=L at hp QA qE;have J:=ak L rc;refine ax (fun i:Nat=>i<=L.length) (fun i=>[(0,.ow 0),(14,.ow 0),(15,.p (i64 (L.map rc).length)),(16,.p (i64 i)),(3,.bx 3 0)]) (fun i=>[(0,.row 125 (L.map rc)),(3,.box [.ow 90000]),(90000,.row 3 ((ends (L.take i)).map fun n=>[i64 n]))]) (fun i=>L.length-i) 0 _ (au.uU hC _ 3 0 90000 3 _ _ (by decide) (by decide) rfl rfl rfl (by decide)) (ai _) ⟨Z,Z,Z,Z,Z,Y⟩ ⟨Z,Z,Z,Y⟩ fun i hi t h=>?_;have el:=F4 (L.take i);have em:=ak (ends (L.take i)) fun n=>[i64 n];rw[aV]at el;apply iW<;>intro h1
 ·rw[J]at h1;obtain⟨r,d⟩:=aj (l:=L) (i:=i) (by omega);refine⟨⟨by omega,by rw[J];omega⟩,(rc r),(idx rfl d).2,⟨by simp,by simp;omega,by simp;omega⟩,wO (by omega),i+1,_,au.Qe _ 26 90000 (by decide) (by decide),by omega,by omega,⟨Z,Z,Z,Z,Z,Y⟩,⟨rfl,rfl,?_,trivial⟩⟩;show AB.row _ _=AB.row _ _;rw[K0 d,bz];rfl
 rw[J]at h1;rw[aW (show L.length<=i by omega)]at *;refine⟨_,_,(KZ (ends L) (by omega)),_,_,(Ee (xJ (ends L)) (by rw[xJ,List.length_mergeSort];omega)),?_⟩;have U:∀r,r∈L↔r∈l:=fun r=>hp.mem_iff;rw[H4 U];have V:=nc l;have hL:=fj l;have YD:=ak (Reg.bC l) fun n=>[i64 n];have Qz:∀r∈L,r.y0∈Reg.bC l:=fun r d=>((Reg.oA l).2 _).2 ⟨r,(U r).1 d,.inl rfl⟩;have RX:=jX l (Reg.bC l);have Js:=F5 l (Reg.bC l) hX;have RY:Reg.qq l=Reg.dJ l (Reg.bC l) ((Reg.bC l).length-1):=rfl;generalize Reg.bC l=ys at *;refine ax (fun x:Nat×List aZ×Nat=>x.1<=ys.length-1/\Jr L ys x.1 x.2.1 x.2.2) (fun x=>[(0,.ow 0),(3,.p (.ip [ints ys])),(6,.ow 6),(7,.ow 7),(8,.p (i64 x.2.2)),(9,.bx 9 0)]) (fun x=>[(0,.row 125 (L.map rc)),(6,.row 203 ((Reg.dJ l ys x.1).map hb)),(7,.row 125 (x.2.1.map rc)),(9,.box [.p (i64 x.1)])]) (fun x=>ys.length-x.1) (0,[],0) _
  (au.trans (au.ed hC _ 6 203 _ (by decide) rfl rfl (by decide)) (au.trans (au.ed hC _ 7 125 _ (by decide) rfl rfl (by decide)) (au.trans (au.uV hC _ 3 0 31 3 _ _ (by decide) rfl rfl rfl) (au.gn hC _ 3 (y:=.ip [ints ys]) (fz:=[(3,.ll [ints ys])]) ⟨rfl,rfl⟩))))
  ⟨ai _,⟨ai _,aF _,by simp,by simp,fun r _ j y h=>by omega,fun _=>rfl⟩⟩ ⟨Z,Z,Z,Z,Z,Z,Y⟩ ⟨Z,Z,Z,Z,Y⟩ fun ⟨k,nw,next⟩ hi t h=>?_
 obtain⟨hk,O⟩:=hi;simp only at hk O;refine⟨⟨by simp only;omega,by simp only;omega⟩,iW ?_ ?_⟩<;>intro W<;>try simp only[zB]at W
 ·rw[YD]at W;obtain⟨y,D⟩:=aj (l:=ys) (i:=k) (by omega);obtain⟨y',qC⟩:=aj (l:=ys) (i:=k+1) (by omega);have Xr:=O.ZH V D;refine⟨_,_,(Ef nw (by have:=O.len;have:=O.le;omega) ys k y D),?_⟩;refine DL (fun p:List aZ×Nat=>Mid L y p.1 p.2/\∀r∈L.drop p.2,y<r.y0) (fun p=>[(0,.ow 0),(3,.p (.ip [ints ys])),(6,.ow 6),(7,.ow 7),(8,.p (i64 p.2)),(9,.p (.ip [i64 k]))]) (fun p=>[(0,.row 125 (L.map rc)),(6,.row 203 ((Reg.dJ l ys k).map hb)),(7,.row 125 (p.1.map rc))]) (fun ⟨I,N⟩ I0 t h=>?_) ?_
  ·obtain⟨u,SX⟩:=I0;simp only at u SX;have ay:=u.row U SX;have xp:∀r∈I,Bd r:=fun r d=>(R r ((ay r).1 d).1).1;obtain⟨YE,OG⟩:=xI xp;have ZI:Reg.dt (fV H3 I)=Reg.rowOf l y:=Reg.FL l _ y (fun r d=>(R r d).2.1) OG fun r=>(YE.mem_iff).trans (ay r);have gY:y<y':=by
    obtain⟨b1,b2⟩:=aU.1 D;obtain⟨c1,c2⟩:=aU.1 qC;have:=(jU.1 V) k (k+1) b1 c1 (by omega);omega
   refine⟨[i64 y],(idx rfl D),wO (by omega),[i64 y'],(idx (by omega) qC),_,_,(yj I xp (by have:=u.len;have:=u.le;omega)),?_⟩;rw[ZI];refine⟨_,_,(HW (Reg.dJ l ys k) ⟨y,y',Reg.rowOf l y⟩ gY (by have:=RX k;omega) (fun t ht=>by have:=Js k t ht;omega)),wO (by omega),(k+1,fV H3 I,N),_,au.refl _ _,⟨by simp only;omega,u.UH D YE SX⟩,by simp only;omega,⟨Z,Z,Z,Z,Z,Z,Y⟩,⟨rfl,?_,rfl,?_,trivial⟩⟩
   ·simp only;rw[Reg.dJ,y7 D,y7 qC];rfl
   exact ah (fun z=>AB.box [z]) (bc (by simp only;omega))
  refine ax (fun p:List aZ×Nat=>next<=p.2/\Mid L y p.1 p.2) (fun p=>[(0,.ow 0),(3,.p (.ip [ints ys])),(6,.ow 6),(7,.ow 7),(8,.p (i64 p.2)),(9,.p (.ip [i64 k]))]) (fun p=>[(0,.row 125 (L.map rc)),(6,.row 203 ((Reg.dJ l ys k).map hb)),(7,.row 125 (p.1.map rc))]) (fun p=>L.length-p.2) (nw.filter fun r=>!oT y r,next) _ (au.gn hC _ 9 (y:=.ip [i64 k]) (fz:=[]) ⟨rfl,rfl⟩) ⟨aF _,Xr⟩ ⟨Z,Z,Z,Z,Z,Z,Y⟩ ⟨Z,Z,Z,Y⟩ fun ⟨I,N⟩ I0 t h=>?_;obtain⟨Np,u⟩:=I0;simp only at Np u;have Rk:=u.le;have ye:=u.len;apply iW<;>intro g1<;>try simp only[zB]at g1
  ·rw[J]at g1;obtain⟨r,d⟩:=aj (l:=L) (i:=N) (by omega);refine⟨⟨by simp only;omega,by simp only;rw[J];omega⟩,(rc r),(idx rfl d).2,[i64 y],(idx rfl D),iW ?_ ?_⟩<;>intro g2
   ·have YF:r∈L:=an d;have e:=K1 V D (Qz r YF) g2 fun j z hj hz=>O.above r (by
     refine an (i:=N-next) ?_;rw[eE,<-d];congr 1;omega) j z hj hz
    have hg:=R r ((U r).1 YF);refine⟨⟨by simp only;omega,by simp only;rw[J];omega⟩,(rc r),(idx rfl d).2,⟨D2 rfl,by simp;omega,by simp;omega⟩,⟨by simp only;omega,by simp only;omega⟩,(I++[r],N+1),_,au.refl _ _,⟨by simp only;omega,u.next d g2 (by have:=hg.2.2;omega)⟩,by simp only;omega,⟨rfl,rfl,rfl,rfl,bc (by simp only;omega),Z,Y⟩,⟨rfl,rfl,?_,trivial⟩⟩;show AB.row _ _=AB.row _ _;rw[bz];rfl
   exact⟨(I,N),⟨u,H5 QA d (by omega)⟩,⟨Z,Z,Z,Z,Z,Z,Y⟩,⟨Z,Z,Z,Y⟩⟩
  rw[J]at g1;refine⟨(I,N),⟨u,fun r d=>?_⟩,⟨Z,Z,Z,Z,Z,Z,Y⟩,⟨Z,Z,Z,Y⟩⟩;rw[fv (by simp only;omega)]at d;cases d
 rw[YD]at W;rw[RY,show ys.length-1=k by omega];exact⟨Z,Z,Y⟩
theorem F6(l:List aZ)(d:∀r∈l,Good r)(hN:l.length<=400000):af C 39 [.pv (cd l)] (.own 203 ((Reg.qq l).map hb)) []:=
 Eh l d (by omega) (by have:=fj l;omega) (fun y=>by have:=ve l y;omega)
theorem Pr{r:aZ}(h:Reg.ia r=true/\r.x0<r.x1/\r.y0<r.y1):Good r:=by
 obtain⟨d,u,z⟩:=h;simp only[Reg.ia,Reg.kC,aK,cz]at d;exact⟨⟨by omega,by omega,by omega,by omega⟩,u,z⟩
theorem Ei(l:List aZ)(hN:l.length<=400000):(Reg.qq l).length<=1000000/\∀t∈Reg.qq l,t.xs.length<=1000000:=by
 have h1:=jX l (Reg.bC l) ((Reg.bC l).length-1);have h2:=fj l;exact⟨by unfold Reg.qq;omega,fun t d=>by have:=tV l (Reg.bC l) _ t d;omega⟩
theorem vv(l:List aZ):af C 156 [.pv (cd l)] (.p (i64 (Reg.bS l))) []:=by
 refine sd ⟨[],[0],[],[],[(7,[true,true,true,true,true,true,true,false,false,true,true,false,true])],[]⟩ hC Tryz.func156 rfl (by kernel_rfl) fun _=>?_;have N:=ak l rc;refine⟨_,_,(wI l),iW ?_ ?_⟩<;>intro u
 ·refine⟨?_,trivial⟩;rw[Reg.bS,aa u]
 have u:Reg.dv l=0:=by simpa using u
 obtain⟨hl,U⟩:=Reg.tT u;have J:Reg.bS l=(if Reg.ordered l=true then (if Reg.gM l=l then 0 else 3) else 8):=by rw[Reg.bS,ae u]
 obtain⟨bl,bx⟩:=Ei l (by omega);refine DL (fun _:Unit=>Reg.ordered l=true) (fun _=>[(0,.p (cd l))]) (fun _=>[]) (fun _ V t h=>?_) ?_
 ·rw[ae V]at J;refine⟨_,_,(F6 l (fun r W=>Pr (U r W)) (by omega)),_,_,(FX (Reg.qq l) bl bx),?_⟩
  (refine⟨_,_,(FW (Reg.told (Reg.qq l)) l (by
   have:=qX (Reg.qq l) bx;have:(Reg.qq l).length*1000000<=1000000*1000000:=a8 _ bl;omega)),?_⟩)
  apply iW<;>intro O
  ·refine⟨?_,trivial⟩;rw[J,aa (show ¬Reg.gM l=l from O)];rfl
  refine⟨?_,trivial⟩;rw[J,ae (show Reg.gM l=l from O)];rfl
 refine ax (fun i:Nat=>∀(j:Nat) a b,j<i->l[j]?=some a->l[j+1]?=some b->Reg.before a b=true) (fun i=>[(0,.p (cd l)),(4,.p (i64 ((i:Int)+1)))]) (fun _=>[]) (fun i=>l.length-i) 0 _ (au.refl _ _) (fun j a b h=>by omega) ⟨Z,Z,Y⟩ trivial fun i hi t h=>?_;apply iW<;>intro R
 ·rw[N]at R;obtain⟨a,z⟩:=aj (l:=l) (i:=i) (by omega);obtain⟨b,hb⟩:=aj (l:=l) (i:=i+1) (by omega);have stop:¬Reg.before a b=true->Reg.bS l=8:=fun hn=>by
   rw[J,aa];rw[tv z hb (by simpa using hn)];decide
  have d:Reg.before a b=true->∀(j:Nat) x y,j<i+1->l[j]?=some x->l[j+1]?=some y->Reg.before x y=true:=fun hy j x y hj D I=>by
   by_cases e:j=i
   ·subst e;rw[z]at D;injection D with D;rw[hb]at I;injection I with I;rw[<-D,<-I];exact hy
   exact hi j x y (by omega) D I
  refine⟨wO (by omega),(rc a),(idx (show ((i:Int)+1)-1=(i:Nat) by omega) z),(rc b),(idx (show ((i:Int)+1)=((i+1:Nat):Int) by omega) hb),iW ?_ ?_⟩<;>intro g1
  ·refine⟨?_,trivial⟩;rw[stop (by simp[Reg.before];omega)];rfl
  apply iW<;>intro g2
  ·apply iW<;>intro g3
   ·refine⟨?_,trivial⟩;rw[stop (by simp[Reg.before];omega)];rfl
   exact⟨wO (by omega),(i+1),_,au.refl _ _,d (by simp[Reg.before];omega),by omega,⟨rfl,bc (by omega),trivial⟩,trivial⟩
  exact⟨wO (by omega),(i+1),_,au.refl _ _,d (by simp[Reg.before];omega),by omega,⟨rfl,bc (by omega),trivial⟩,trivial⟩
 rw[N]at R;refine⟨(),vl fun j a b z hb=>hi j a b ?_ z hb,⟨Z,Y⟩,trivial⟩;have:=(aU.1 hb).1;omega
structure Class where
 name:ByteArray
 nets:List ByteArray
 clearance:Int
 width:Int
structure H6 where
 layer:Int
 region:List aZ
 clearance:Int
structure qt where
 clearance:Int
 width:Int
 ring:Int
 edge:Int
 holeGap:Int
 classes:List Class
 areas:List H6
def kl(c:Class):List PV:=[str c.name,strs c.nets,i64 c.clearance,i64 c.width]
def arr(a:H6):List PV:=[i64 a.layer,cd a.region,i64 a.clearance]
def rl(r:qt):List PV:=[i64 r.clearance,i64 r.width,i64 r.ring,i64 r.edge,i64 r.holeGap,.sl (r.classes.map kl),.sl (r.areas.map arr)]
def ar:ByteArray:=⟨#[]⟩
def cE(a b:ByteArray):Bool:=Op.bytesLess a.data.toList b.data.toList
theorem pV{a b:ByteArray}:cE a b=true↔a.data.toList<b.data.toList:=by
 unfold cE;rw[Go.Proofs.bytesLess_eq];simp
theorem nh(a:ByteArray):cE a a=false:=by
 rw[cy];intro h;exact List.lt_irrefl _ (pV.1 h)
theorem fc{a b c:ByteArray}(d:cE a b=true)(u:cE b c=true):cE a c=true:=pV.2 (List.lt_trans (pV.1 d) (pV.1 u))
theorem q_{a b:Nat}(h:a+b<4611686018427387904):(IntKind.u64.wrap ((a:Int)+(b:Int))).fdiv (2 ^ min (Int.toNat 1) IntKind.u64.bits)=(((a+b) / 2:Nat):Int):=by
 have d:IntKind.u64.wrap ((a:Int)+(b:Int))=((a+b:Nat):Int):=by simp[IntKind.wrap,IntKind.bits,IntKind.signed];omega
 rw[d];have u:(2:Int) ^ min (Int.toNat 1) IntKind.u64.bits=2:=by decide
 rw[u,Int.fdiv_eq_ediv_of_nonneg _ (by decide)];omega
def aG(f:Nat->Int)(i:Nat):Nat->Int
 | 0=>0
 | n+1=>if f i=0 then aG f (i+1) n else f i
theorem aI{f:Nat->Int}:∀{n i:Nat},(∀k,i<=k->k<i+n->f k=0)->aG f i n=0
 | 0,_,_=>rfl
 | n+1,i,h=>by
  rw[aG,ae (h i (aF _) (by omega))];exact aI fun k h1 h2=>h k (by omega) (by omega)
theorem jC{f:Nat->Int}{m:Nat}(d:f m≠0):∀{n i:Nat},(∀k,i<=k->k<m->f k=0)->i<=m->m<i+n->aG f i n=f m
 | 0,i,_,h1,h2=>by omega
 | n+1,i,h,h1,h2=>by
  rw[aG];by_cases e:i=m
  ·subst e;rw[aa d]
  rw[ae (h i (aF _) (by omega))];exact jC d (fun k h3 u=>h k (by omega) u) (by omega) (by omega)
def bg(l:List ByteArray)(j:Nat):Bool:=match l[j]?,l[j-1]? with
 | some a,some b=>decide (0<j)&&(cE a b||decide (a=b))
 | _,_=>false
def seenIn(cs:List Class)(x:ByteArray):Bool:=cs.any fun c=>hasB c.nets x
def cr(cs:List Class)(i:Nat)(l:List ByteArray)(j:Nat):Int:=match l[j]? with
 | some y=>if gh y=true then (if bg l j=true then 8 else if seenIn (cs.take i) y=true then 7 else 0) else 5
 | none=>0
def cC(cs:List Class)(i:Nat):Int:=match cs[i]? with
 | some c=>if ct c.name=true then (if 1000<c.nets.length then 2 else
   if aG (cr cs i c.nets) 0 c.nets.length=0 then
    (if (fm c.clearance&&fm c.width)=true then (if bg (cs.map Class.name) i=true then 8 else 0) else 1)
   else aG (cr cs i c.nets) 0 c.nets.length) else 5
 | none=>0
theorem Jt(a b:ByteArray):E4 (.string a) (.string b)=decide (a=b):=rfl
theorem RZ{k:ByteArray}{d:Value}(h:E4 (.string k) d=true):d=.string k:=by
 cases d<;>simp_all [E4]
theorem wM(v:PV)(k n:ByteArray):∀es:List (Value×PV),kv (lO es (.string k) v) (.string n)=if n=k then some v else kv es (.string n)
 | []=>by
  simp only[lO,kv,Jt];by_cases h:n=k<;>simp[h]
 | (k',u)::r=>by
  simp only[lO];cases h:E4 (.string k) k'
  ·simp only[kv,wM v k n r];by_cases e:n=k
   ·subst e;simp[h]
   simp[e]
  have e:=RZ h;subst e;simp only[kv,Jt];by_cases e:n=k<;>simp[e]
def bE(s:ByteArray):Prop:=s.size<4294967281
def Ej(c:Class):Prop:=bE c.name/\c.nets.length<=1048576/\∀s∈c.nets,bE s
theorem tY(cs:List Class)(hok:∀c∈cs,Ej c)(hN:cs.length<=1048576):af C 154 [.pv (.sl (cs.map kl))] (.p (i64 (if 50<cs.length then 2 else aG (cC cs) 0 cs.length))) []:=by
 refine fW hC Tryz.func154 rfl (by kernel_rfl) fun _=>?_;have lm:=ak cs kl;apply iW<;>intro J
 ·refine⟨?_,trivial⟩;rw[ae (by omega)];rfl
 rw[aa (by omega)];refine ax (fun p:Nat×List (Value×PV)=>p.1<=cs.length/\(∀k,k<p.1->cC cs k=0)/\∀n,kv p.2 (.string n)=if seenIn (cs.take p.1) n=true then some (bool true) else none) (fun p=>[(0,.p (.sl (cs.map kl))),(3,.ow 13),(14,.p (.sl (cs.map kl))),(15,.p (i64 (cs.map kl).length)),(16,.p (i64 p.1))]) (fun p=>[(13,.map .str p.2)]) (fun p=>cs.length-p.1) (0,[]) _ (au.refl _ _) ⟨ai _,fun k h=>by omega,fun n=>rfl⟩ ⟨Z,Z,Z,Z,Z,Y⟩ ⟨Z,Y⟩ fun ⟨i,es⟩ hi t h=>?_;obtain⟨q1,q2,q3⟩:=hi;apply iW<;>intro h1<;>try simp only[zB]at h1
 ·obtain⟨c,O⟩:=aj (l:=cs) (i:=i) (by omega);obtain⟨o1,o2,o3⟩:=hok c (an O);have I:cC cs i≠0->aG (cC cs) 0 cs.length=cC cs i:=fun hb=>jC hb (fun k _ hk=>q2 k hk) (ai _) (by omega);have u:cC cs i=(if ct c.name=true then (if 1000<c.nets.length then 2 else
  if aG (cr cs i c.nets) 0 c.nets.length=0 then
   (if (fm c.clearance&&fm c.width)=true then (if bg (cs.map Class.name) i=true then 8 else 0) else 1)
  else aG (cr cs i c.nets) 0 c.nets.length) else 5):=by rw[cC,O]
  have lc:=ak c.nets fun s=>[str s];refine⟨(kl c),(idx rfl O),_,_,(eY c.name (by have:c.name.size<4294967281:=o1;omega)),iW ?_ ?_⟩<;>intro h2
  ·refine⟨?_,trivial⟩;rw[aa (by simp[h2])]at u;rw[I (by rw[u];decide),u];rfl
  rw[ae (by simpa using h2)]at u;apply iW<;>intro h3
  ·refine⟨?_,trivial⟩;rw[ae (by omega)]at u;rw[I (by rw[u];decide),u];rfl
  rw[aa (by omega)]at u;refine ax (fun j:Nat=>j<=c.nets.length/\∀k,k<j->cr cs i c.nets k=0) (fun j=>[(0,.p (.sl (cs.map kl))),(3,.ow 13),(14,.p (.sl (cs.map kl))),(15,.p (i64 (cs.map kl).length)),(16,.p (i64 i)),(4,.p (i64 i)),(5,.bx 5 0),(30,.p (strs c.nets)),(31,.p (i64 (c.nets.map fun s=>[str s]).length)),(32,.p (i64 j))]) (fun _=>[(5,.box [.p (str c.name),.p (strs c.nets),.p (i64 c.clearance),.p (i64 c.width)]),(13,.map .str es)]) (fun j=>c.nets.length-j) 0 _ (au.refl _ _) ⟨ai _,fun k h=>by omega⟩ ⟨Z,Z,Z,Z,Z,Z,Z,Z,Z,Z,Y⟩ ⟨Z,Z,Y⟩ fun j hj t h=>?_;obtain⟨p1,p2⟩:=hj;apply iW<;>intro h4
  ·obtain⟨y,N⟩:=aj (l:=c.nets) (i:=j) (by omega);have W:cr cs i c.nets j≠0->aG (cC cs) 0 cs.length=cr cs i c.nets j:=fun hb=>by
    have e:aG (cr cs i c.nets) 0 c.nets.length=cr cs i c.nets j:=jC hb (fun k _ hk=>p2 k hk) (ai _) (by omega);rw[e,aa hb]at u;rw[I (by rw[u];exact hb),u]
   have D:cr cs i c.nets j=(if gh y=true then (if bg c.nets j=true then 8 else if seenIn (cs.take i) y=true then 7 else 0) else 5):=by rw[cr,N]
   refine⟨[str y],(idx rfl N),_,_,(my y (o3 y (an N))),iW ?_ ?_⟩<;>intro h5
   ·refine⟨?_,trivial⟩;rw[aa (by simp[h5])]at D;rw[W (by rw[D];decide),D];rfl
   rw[ae (by simpa using h5)]at D;have q:=q3 y;have next:cr cs i c.nets j=0->∀k,k<j+1->cr cs i c.nets k=0:=fun J k hk=>by
    by_cases e:k=j
    ·subst e;exact J
    exact p2 k (by omega)
   apply iW<;>intro h6
   ·obtain⟨z,hz⟩:=aj (l:=c.nets) (i:=j-1) (by omega);have R:bg c.nets j=(cE y z||decide (y=z)):=by
     simp only[bg,N,hz];rw[aP (by omega:0<j)];rfl
    refine⟨wO (by omega),[str z],(idx (show (j:Int)-1=((j-1:Nat):Int) by omega) hz),iW ?_ ?_⟩<;>intro U
    ·refine⟨?_,trivial⟩;have U:(cE y z||decide (y=z))=true:=by simpa [cE] using U
     rw[R,U,ae rfl]at D;rw[W (by rw[D];decide),D];rfl
    have U:(cE y z||decide (y=z))=false:=by simpa [cE] using U
    rw[R,U,aa (by decide)]at D;cases hS:seenIn (cs.take i) y
    ·rw[hS]at q D;exact⟨none,q,wO (by omega),(j+1),_,au.refl _ _,⟨by omega,next (by simpa using D)⟩,by omega,⟨Z,Z,Z,Z,Z,Z,Z,Z,Z,Z,Y⟩,⟨Z,Z,Y⟩⟩
    rw[hS]at q D;rw[ae rfl]at D;refine⟨(some (bool true)),q,?_,trivial⟩;rw[W (by rw[D];decide),D];rfl
   have J:j=0:=by omega
   have R:bg c.nets j=false:=by
    subst J;simp only[bg,N];rfl
   rw[R,aa (by decide)]at D;cases hS:seenIn (cs.take i) y
   ·rw[hS]at q D;exact⟨none,q,wO (by omega),(j+1),_,au.refl _ _,⟨by omega,next (by simpa using D)⟩,by omega,⟨Z,Z,Z,Z,Z,Z,Z,Z,Z,Z,Y⟩,⟨Z,Z,Y⟩⟩
   rw[hS]at q D;rw[ae rfl]at D;refine⟨(some (bool true)),q,?_,trivial⟩;rw[W (by rw[D];decide),D];rfl
  have z0:aG (cr cs i c.nets) 0 c.nets.length=0:=aI fun k _ hk=>p2 k (by omega);rw[ae z0]at u;refine ax (fun p:Nat×List (Value×PV)=>p.1<=c.nets.length/\∀n,kv p.2 (.string n)=if (seenIn (cs.take i) n||hasB (c.nets.take p.1) n)=true then some (bool true) else none) (fun p=>[(0,.p (.sl (cs.map kl))),(3,.ow 13),(14,.p (.sl (cs.map kl))),(15,.p (i64 (cs.map kl).length)),(16,.p (i64 i)),(4,.p (i64 i)),(5,.bx 5 0),(60,.p (strs c.nets)),(61,.p (i64 (c.nets.map fun s=>[str s]).length)),(62,.p (i64 p.1))]) (fun p=>[(5,.box [.p (str c.name),.p (strs c.nets),.p (i64 c.clearance),.p (i64 c.width)]),(13,.map .str p.2)]) (fun p=>c.nets.length-p.1) (0,es) _ (au.refl _ _) ⟨ai _,fun n=>by rw[show hasB (c.nets.take 0) n=false from rfl,nX];exact q3 n⟩ ⟨Z,Z,Z,Z,Z,Z,Z,Z,Z,Z,Y⟩ ⟨Z,Z,Y⟩ fun ⟨j,dA⟩ hj t h=>?_;obtain⟨r1,r2⟩:=hj;apply iW<;>intro h9<;>try simp only[zB]at h9
  ·obtain⟨y,N⟩:=aj (l:=c.nets) (i:=j) (by omega);refine⟨[str y],(idx rfl N),wO (by omega),(j+1,lO dA (.string y) (bool true)),_,au.refl _ _,⟨by omega,fun n=>?_⟩,by omega,⟨Z,Z,Z,Z,Z,Z,Z,Z,Z,Z,Y⟩,⟨Z,Z,Y⟩⟩;simp only;rw[wM,aN N];by_cases e:n=y
   ·subst e;rw[ae rfl,ae];simp[hasB]
   rw[aa e,r2 n];have:hasB (c.nets.take j++[y]) n=hasB (c.nets.take j) n:=by
    unfold hasB;rw[mz];rw[show ([y].any fun z=>decide (z=n))=(decide (y=n)||false) from rfl,aL (fun h:y=n=>e h.symm)];simp
   rw[this]
  have e9:j=c.nets.length:=by simp only at r1;omega
  have s1:∀n,kv dA (.string n)=if seenIn (cs.take (i+1)) n=true then some (bool true) else none:=fun n=>by
   rw[r2 n,e9,fQ,aN O];have:seenIn (cs.take i++[c]) n=(seenIn (cs.take i) n||hasB c.nets n):=by
    unfold seenIn;rw[mz];simp
   rw[this]
  have bn:∀d,cs[i-1]?=some d->0<i->bg (cs.map Class.name) i=(cE c.name d.name||decide (c.name=d.name)):=fun d hd J=>by
   simp only[bg,aB,O,hd,fG];rw[aP J];rfl
  have QC:cC cs i=0->∀k,k<i+1->cC cs k=0:=fun J k hk=>by
   by_cases e:k=i
   ·subst e;exact J
   exact q2 k (by simp only;omega)
  refine⟨_,_,(mw c.clearance),iW ?_ ?_⟩<;>intro g1
  ·refine⟨?_,trivial⟩;rw[aa (by simp[g1])]at u;rw[I (by rw[u];decide),u];rfl
  refine⟨_,_,(mw c.width),iW ?_ ?_⟩<;>intro g2
  ·refine⟨?_,trivial⟩;rw[aa (by simp[g2])]at u;rw[I (by rw[u];decide),u];rfl
  rw[ae (by simp[g1,g2])]at u;apply iW<;>intro g3
  ·obtain⟨d,hd⟩:=aj (l:=cs) (i:=i-1) (by omega);refine⟨wO (by omega),(kl d),(idx (show (i:Int)-1=((i-1:Nat):Int) by omega) hd),?_⟩;rw[bn d hd (by omega)]at u;apply iW<;>intro V
   ·refine⟨?_,trivial⟩;have V:(cE c.name d.name||decide (c.name=d.name))=true:=by simpa [cE] using V
    rw[V,ae rfl]at u;rw[I (by rw[u];decide),u];rfl
   have V:(cE c.name d.name||decide (c.name=d.name))=false:=by simpa [cE] using V
   rw[V,aa (by decide)]at u;exact⟨wO (by omega),(i+1,dA),_,au.refl _ _,⟨by omega,QC u,s1⟩,by omega,⟨Z,Z,Z,Z,Z,Y⟩,⟨Z,Y⟩⟩
  have J:i=0:=by omega
  have R:bg (cs.map Class.name) i=false:=by
   subst J;simp only[bg,aB,O];rfl
  rw[R,aa (by decide)]at u;exact⟨wO (by omega),(i+1,dA),_,au.refl _ _,⟨by omega,QC u,s1⟩,by omega,⟨Z,Z,Z,Z,Z,Y⟩,⟨Z,Y⟩⟩
 have e1:i=cs.length:=by simp only at q1;omega
 refine⟨?_,trivial⟩;rw[aI fun k _ hk=>q2 k (by simp only;omega)];rfl
def dP(al:List H6)(i:Nat):Int:=match al[i]? with
 | some a=>if (decide (-1<=a.layer)&&decide (a.layer<=15))=true then (if Reg.bS a.region=0 then (if fm a.clearance=true then 0 else 1) else Reg.bS a.region) else 1
 | none=>0
def eZ:List H6->Nat
 | []=>0
 | a::r=>a.region.length+eZ r
theorem xK(a b:List H6):eZ (a++b)=eZ a+eZ b:=by
 induction a with
 | nil=>simp[eZ]
 | cons x r ih=>simp[eZ,ih];omega
def pW(r:qt):Bool:=fm r.clearance&&fm r.width&&fm r.ring&&fm r.edge&&fm r.holeGap
def eu(cs:List Class):Int:=if 50<cs.length then 2 else aG (cC cs) 0 cs.length
def ni(al:List H6):Int:=if 50<al.length then 2 else if aG (dP al) 0 al.length=0 then (if 2000<eZ al then 2 else 0) else aG (dP al) 0 al.length
def da(r:qt):Int:=if pW r=true then (if eu r.classes=0 then ni r.areas else eu r.classes) else 1
theorem Ae(h:Reg.bS l=0):l.length<=1000000:=by
 unfold Reg.bS at h;by_cases d:Reg.dv l=0
 ·have:=(Reg.tT d).1;omega
 rw[aa d]at h;exact absurd h d
def sK(r:qt):Prop:=(∀c∈r.classes,Ej c)/\r.classes.length<=1048576/\r.areas.length<=1048576
def UJ(r:qt):List AV:=[.p (i64 r.clearance),.p (i64 r.width),.p (i64 r.ring),.p (i64 r.edge),.p (i64 r.holeGap),.p (.sl (r.classes.map kl)),.p (.sl (r.areas.map arr))]
theorem wN(r:qt)(W:sK r):af C 67 [.pv (.ag (rl r))] (.p (i64 (da r))) []:=by
 refine fW hC Tryz.func67 rfl (by kernel_rfl) fun _=>?_;obtain⟨o1,o2,o3⟩:=W;refine⟨_,_,(D9 [r.clearance,r.width,r.ring,r.edge,r.holeGap] (by simp)),?_⟩;have nb:([r.clearance,r.width,r.ring,r.edge,r.holeGap].any fun n=>!fm n)=!pW r:=by
  simp[pW,Bool.not_and,Bool.or_assoc]
 rw[nb];apply iW<;>intro J
 ·refine⟨?_,trivial⟩;rw[da,aa (by simp[J])];rfl
 rw[da,ae (by simpa using J)];refine⟨_,_,(tY r.classes o1 o2),iW ?_ ?_⟩<;>intro N
 ·refine⟨?_,trivial⟩;rw[aa (show ¬eu r.classes=0 from by simpa [eu] using N)];rfl
 rw[ae (show eu r.classes=0 from by simpa [eu] using N)];have lm:=ak r.areas arr;apply iW<;>intro h2
 ·refine⟨?_,trivial⟩;rw[ni,ae (by omega)];rfl
 rw[ni,aa (by omega)];refine ax (fun i:Nat=>i<=r.areas.length/\(∀k,k<i->dP r.areas k=0)/\eZ (r.areas.take i)<=i*1000000) (fun i=>[(4,.p (i64 (eZ (r.areas.take i)))),(31,.p (.sl (r.areas.map arr))),(32,.p (i64 (r.areas.map arr).length)),(33,.p (i64 i))]) (fun _=>[]) (fun i=>r.areas.length-i) 0 _ (au.refl _ _) ⟨ai _,fun k h=>by omega,by simp[eZ]⟩ ⟨Z,Z,Z,Z,Y⟩ trivial fun i hi t h=>?_;obtain⟨q1,D,q3⟩:=hi;apply iW<;>intro h3
 ·obtain⟨a,I⟩:=aj (l:=r.areas) (i:=i) (by omega);have z:dP r.areas i≠0->aG (dP r.areas) 0 r.areas.length=dP r.areas i:=fun hb=>jC hb (fun k _ hk=>D k hk) (ai _) (by omega);have d:dP r.areas i=(if (decide (-1<=a.layer)&&decide (a.layer<=15))=true then (if Reg.bS a.region=0 then (if fm a.clearance=true then 0 else 1) else Reg.bS a.region) else 1):=by rw[dP,I]
  have la:=ak a.region rc;refine⟨(arr a),(idx rfl I),_,_,(vn a.layer (-1) 15),iW ?_ ?_⟩<;>intro O
  ·refine⟨?_,trivial⟩;rw[aa (by simpa using O)]at d;rw[z (by rw[d];decide),d];rfl
  rw[ae (by simpa using O)]at d;refine⟨_,_,(vv a.region),iW ?_ ?_⟩<;>intro u
  ·refine⟨?_,trivial⟩;have u:¬Reg.bS a.region=0:=by simpa using u
   rw[aa u]at d;rw[z (by rw[d];exact u),d,aa u]
  have u:Reg.bS a.region=0:=by simpa using u
  rw[ae u]at d;have hl:=Ae u;refine⟨_,_,(mw a.clearance),iW ?_ ?_⟩<;>intro R
  ·refine⟨?_,trivial⟩;rw[aa (by simp[R])]at d;rw[z (by rw[d];decide),d];rfl
  rw[ae (by simpa using R)]at d;have s1:eZ (r.areas.take (i+1))=eZ (r.areas.take i)+a.region.length:=by
   rw[aN I,xK];simp[eZ]
  refine⟨wO (by omega),wO (by omega),(i+1),_,au.refl _ _,⟨by omega,fun k hk=>?_,by omega⟩,by omega,⟨bc (by omega),Z,Z,Z,Y⟩,trivial⟩;by_cases e:k=i
  ·subst e;exact d
  exact D k (by omega)
 have e:i=r.areas.length:=by omega
 subst e;have z0:aG (dP r.areas) 0 r.areas.length=0:=aI fun k _ hk=>D k (by omega);rw[ae z0];have U:r.areas.take r.areas.length=r.areas:=fQ;apply iW<;>intro V
 ·refine⟨?_,trivial⟩;rw[U]at V;rw[ae (by omega)];rfl
 refine⟨?_,trivial⟩;rw[U]at V;rw[aa (by omega)];rfl
end M
end Go.Proofs.YtnpkopkpbgflnaaGreatDoor
namespace Go.Proofs.YtnpkopkpbgflnaaGreatDoor
open Go.ChangeShapes Go.WideShapes Go.ChangeAt Go.RowKit
section
variable {H:Type} {enc:TypeId×Value->H} {P:Program}
theorem BM{f:Func}{s:ChangeSpec}{d O u R:Bool}{W U:World}{args:Array Value}{v:Value}{ds V:List (DataW H)}{before pa pv:List MemPlace}
  (Z:DataW.Whole enc P f.params.toList s.vars d W args.toList ds V before)
  (J:∀(b:Nat) (sp:Nat->Bool) (hd:Bool),DataW.TrodAll enc P U b sp hd f.resultTypes.toList (v.resultList f.resultTypes.size) (s.fn H (ds++V)).results [])
  (z:∀sp:Nat->Bool,(∀p∈before,sp p.block=true)->DataW.TrodAll enc P U 0 sp true f.params.toList args.toList (s.fn H (ds++V)).args pa)
  (D:∀sp:Nat->Bool,(∀p∈before,sp p.block=true)->DataW.TrodVars enc P U sp s.vars (s.fn H (ds++V)).vars pv)
  (I:before=pa++pv) (hb:Below W.heap.size W U)
  (hok:∀(j:Nat) (t:TypeId) (r:Value),f.resultTypes[j]?=some t->(v.resultList f.resultTypes.size)[j]?=some r->Value.okWide P U .any 0 t r):
  s.post enc P f d O u R W args v U:=by
 have gY:∀p∈before,p.block<W.heap.size:=fun p hp=>Z.lt p hp;have N:∀p∈before,(fun b=>decide (b<W.heap.size)) p.block=true:=fun p hp=>by simpa using gY p hp
 refine⟨ds,V,before,[],pa,pv,Z,J _ _ _,z _ N,D _ N,World.keptBut_mono (fun p hp=>⟨hp,?_⟩) (hb.frame (·∈before)),fun _=>?_⟩
 ·rw[I,cm]at hp;exact Or.inr hp
 obtain⟨_,_,_,_,_,hz,hn⟩:=Z;refine⟨hok,_,_,([]++pa)++pv,⟨[]++pa,pv,trodAll_append (z _ (fun _ _=>rfl)) (J _ _ _),D _ (fun _ _=>rfl),rfl,?_,?_⟩,?_⟩
 ·intro b Y hp;have oL:MemPlace.cell b Y∈before:=by rw[I];simpa using hp
  rw[hb.frozen (gY _ oL)];exact hz b Y oL
 ·intro ha;have:=hn ha;rw[I]at this;simpa using this
 intro p hp _;rw[I];simpa using hp
theorem yk{C:Checked}{os:Os}{f:FuncId}{fn:Func}{s:OpenSpec}{d:List PathCond}{u:Bool}{laid:List (String×DataW Unit)}(w0:World)(args:Array Value)(I:w0.os=os)
  (D:(w0.forCall (fun _ _=>0) ⟨#[],args,[]⟩).Shaped C.prog)
  (z:Input.okWideB C.prog (w0.forCall (fun _ _=>0) ⟨#[],args,[]⟩) f ⟨#[],args,[]⟩=true)
  (ay:s.preRow enc C.prog fn d u laid (w0.forCall (fun _ _=>0) ⟨#[],args,[]⟩).memory args):
  ∃(w:World) (tape:Tape) (i:Input),w.os=os/\(w.forCall tape i).Shaped C.prog/\i.vars=[]/\Input.okWide C.prog (w.forCall tape i) .any w.heap.size f i /\
   s.preRow enc C.prog fn d u laid (w.forCall tape i).memory i.args/\({}:Assume).holds C.prog (lone (Frame.enter C.prog f i.args .normal) [] (w.forCall tape i)):=
 ⟨w0,fun _ _=>0,⟨#[],args,[]⟩,I,D,(Input.okWide_of_okWideB (base:=0) z).1,(Input.okWide_of_okWideB z).2,ay,by
  simp only[Assume.holds];exact⟨by simp,by simp,fun _=>Modest.zero,by simp,by simp⟩⟩
end
theorem own:ownKnob Tryz.prog.godebug=none:=by kernel_rfl
variable {H:Type}
theorem Nq(d:DataW H):1<=Rows.uptoBulk d:=by
 cases d with
 | lit l=>cases l<;>simp[Rows.uptoBulk]
 | nil=>simp[Rows.uptoBulk]
 | ptr d=>simp[Rows.uptoBulk]
 | slice elems spare=>simp[Rows.uptoBulk]
 | agg parts=>simp[Rows.uptoBulk]
 | iface t d=>simp[Rows.uptoBulk]
 | map entries=>simp[Rows.uptoBulk]
 | held h=>simp[Rows.uptoBulk]
theorem CC{d:DataW H}{l:List (DataW H)}(h:d∈l):Rows.uptoBulk d<=Rows.uptoBulkAll l:=by
 induction l with
 | nil=>cases h
 | cons x r ih=>
  simp only[Rows.uptoBulkAll];cases aE.1 h with
  | inl e=>subst e;omega
  | inr e=>have:=ih e;omega
theorem F7{H:Type}(bytes:List UInt8):Rows.uptoBulk (DataW.lit (H:=H) (.string bytes))=bytes.length+1:=by
 simp[Rows.uptoBulk]
theorem H7{l:List (DataW H)}(hk:Rows.uptoSmall H l=true):Rows.uptoBulkAll l<=1048576:=fO hk
end Go.Proofs.YtnpkopkpbgflnaaGreatDoor
namespace Go.Proofs.YtnpkopkpbgflnaaGreatDoor
namespace M
open Go.AM Go.RowKit Go.Lib
open Reg (aZ cR gQ)
variable {H:Type} {enc:TypeId×Value->H} {w:World} {S:Nat->Prop}
theorem F8:HZ enc Tryz.prog w S 3 1 fun xs d=>∃n:Int,xs=[i64 n]/\d=.lit (.int .i64 n):=Pj iB
theorem UK:HZ enc Tryz.prog w S 9 1 fun xs d=>∃s:ByteArray,xs=[str s]/\d=.lit (.string s.data.toList):=Pk od
theorem Nr:HZ enc Tryz.prog w S 125 4 fun xs _=>∃r:aZ,xs=rc r:=fun n cs x h=>by
 obtain⟨xs,z,I,J,ds,e,D,q⟩:=ng (S:=S) (Qs:=fun _ xs d=>∃n:Int,xs=[i64 n]/\d=.lit (.int .i64 n)) Tryz.underlying125 (vt (by kernel_rfl)) (by kernel_rfl) (fun i f u=>by
  match i,u with
  | 0,u=>cases u;exact F8
  | 1,u=>cases u;exact F8
  | 2,u=>cases u;exact F8
  | 3,u=>cases u;exact F8
  | n+4,u=>cases u) _ _ _ h
 have z:xs.length=4:=z;have D:ds.length=4:=D;obtain⟨a,b,c,d,rfl⟩:∃a b c d,xs=[a,b,c,d]:=by
  match xs,z with
  | [a,b,c,d],_=>exact⟨a,b,c,d,rfl⟩
 obtain⟨a',b',c',d',rfl⟩:∃a b c d,ds=[a,b,c,d]:=by
  match ds,D with
  | [a,b,c,d],_=>exact⟨a,b,c,d,rfl⟩
 obtain⟨N,O,_⟩:=q 0 _ _ rfl rfl;obtain⟨R,U,_⟩:=q 1 _ _ rfl rfl;obtain⟨V,W,_⟩:=q 2 _ _ rfl rfl;obtain⟨Y,Z,_⟩:=q 3 _ _ rfl rfl;cases O;cases U;cases W;cases Z;exact⟨_,rfl,I,J,⟨N,R,V,Y⟩,rfl⟩
abbrev Sp(enc:TypeId×Value->H)(w:World)(S:Nat->Prop)(t:TypeId)(k:Nat){γ:Type}(f:γ->List PV)(B:γ->Nat->Prop):Prop:=HZ enc Tryz.prog w S t k fun xs d=>∃r,xs=f r/\B r (Rows.uptoBulk d)
theorem ym:Sp enc w S 3 1 (fun n=>[i64 n]) fun _ _=>True:=fun n cs x h=>by
 obtain⟨xs,d,u,D,z,e,_⟩:=F8 (S:=S) n cs x h;exact⟨xs,d,u,D,z,e,trivial⟩
theorem R0:Sp enc w S 9 1 (fun s=>[str s]) fun s n=>s.size<=n:=fun n cs x h=>by
 obtain⟨xs,u,D,I,z,e,d⟩:=UK (S:=S) n cs x h;refine⟨xs,u,D,I,z,e,?_⟩;rw[d,F7];have:z.data.toList.length=z.size:=by simp
 omega
theorem El{α γ:Type}{f:γ->α}{B:γ->Nat->Prop}(d:∀r m n,m<=n->B r m->B r n):∀{es:List α} {ds:List (DataW H)},es.length=ds.length->(∀(i:Nat) x y,es[i]?=some x->ds[i]?=some y->∃r,x=f r/\B r (Rows.uptoBulk y))->∃l:List γ,es=l.map f/\l.length<=Rows.uptoBulkAll ds/\∀r∈l,B r (Rows.uptoBulkAll ds)
 | [],_,_,_=>⟨[],rfl,ai _,fun r h=>by cases h⟩
 | x::es,[],u,_=>by cases u
 | x::es,y::ds,u,h=>by
  obtain⟨r,rfl,I⟩:=h 0 x y rfl rfl;obtain⟨l,rfl,D,z⟩:=El d (es:=es) (ds:=ds) (by simpa using u) (fun i a b D z=>h (i+1) a b (by simpa using D) (by simpa using z));have e:Rows.uptoBulkAll (y::ds)=Rows.uptoBulk y+Rows.uptoBulkAll ds:=by simp only[Rows.uptoBulkAll]
  have b1:=Nq y;refine⟨r::l,rfl,by rw[cH];omega,fun q J=>?_⟩;rcases aE.1 J with h | h
  ·subst h;exact d _ _ _ (by omega) I
  exact d _ _ _ (by omega) (z q h)
theorem ra{t e:TypeId}{k:Nat}{γ:Type}{f:γ->List PV}{B:γ->Nat->Prop}(z:Tryz.prog.underlying t=some (.slice e))(D:Tryz.prog.cellsOf e=k)(hk:0<k)(hS:∀b,b<w.heap.size->S b)(d:∀r m n,m<=n->B r m->B r n)(I:Sp enc w S e k f B):
  Sp enc w S t 1 (fun l:List γ=>[.sl (l.map f)]) fun l n=>l.length<=n/\∀r∈l,B r n:=fun n cs x h=>by
 obtain⟨xs,J,N,O,es,ds,sp,rfl,R,U,q⟩:=KX z D hk hS I _ _ _ h;obtain⟨l,rfl,b1,V⟩:=El d R q;have hb:Rows.uptoBulkAll ds<=Rows.uptoBulk x.1:=by
  rcases U with⟨u,W⟩ | u
  ·rw[W];exact ai _
  rw[u];simp only[Rows.uptoBulk];omega
 exact⟨_,J,N,O,l,rfl,by omega,fun r Y=>d _ _ _ hb (V r Y)⟩
theorem bu{ds:List (DataW H)}{i:Nat}{y:DataW H}(h:ds[i]?=some y):Rows.uptoBulk y<=Rows.uptoBulk (.agg ds):=by
 have:=CC (an h);simp only[Rows.uptoBulk];omega
theorem Ju:Sp enc w S 125 4 rc fun _ _=>True:=fun n cs x h=>by
 obtain⟨xs,d,u,z,r,e⟩:=Nr (S:=S) n cs x h;exact⟨xs,d,u,z,r,e,trivial⟩
theorem Ns(hS:∀b,b<w.heap.size->S b):Sp enc w S 66 1 (fun l=>[cd l]) fun l n=>l.length<=n/\∀r∈l,True:=ra (k:=4) Tryz.underlying66 (by kernel_rfl) (by decide) hS (fun _ _ _ _ h=>h) Ju
theorem Ps(hS:∀b,b<w.heap.size->S b):Sp enc w S 73 1 (fun l=>[strs l]) fun l n=>l.length<=n/\∀s∈l,s.size<=n:=ra (k:=1) Tryz.underlying73 (by kernel_rfl) (by decide) hS (fun _ _ _ d u=>aO u d) R0
theorem Pt(hS:∀b,b<w.heap.size->S b):Sp enc w S 274 3 arr fun _ _=>True:=fun n cs x h=>by
 obtain⟨xs,D,J,N,ds,e,I,q⟩:=ng (S:=S) (Qs:=fun i xs d=>match i with
   | 1=>∃r,xs=[cd r]/\(r.length<=Rows.uptoBulk d/\∀z∈r,True)
   | _=>∃r,xs=[i64 r]/\True) Tryz.underlying274 (vt (by kernel_rfl)) (by kernel_rfl) (fun i f u=>by
  match i,u with
  | 0,u=>cases u;exact ym
  | 1,u=>cases u;exact Ns hS
  | 2,u=>cases u;exact ym
  | n+3,u=>cases u) _ _ _ h
 have D:xs.length=3:=D;have I:ds.length=3:=I;obtain⟨a,b,c,rfl⟩:∃a b c,xs=[a,b,c]:=by
  match xs,D with
  | [a,b,c],_=>exact⟨a,b,c,rfl⟩
 obtain⟨a',b',c',rfl⟩:∃a b c,ds=[a,b,c]:=by
  match ds,I with
  | [a,b,c],_=>exact⟨a,b,c,rfl⟩
 obtain⟨O,R,_⟩:=q 0 _ _ rfl rfl;obtain⟨U,V,_⟩:=q 1 _ _ rfl rfl;obtain⟨W,e2,_⟩:=q 2 _ _ rfl rfl;cases R;cases V;cases e2;exact⟨_,rfl,J,N,⟨O,U,W⟩,Z,Y⟩
def vx(c:Class)(n:Nat):Prop:=c.name.size<=n/\c.nets.length<=n/\∀s∈c.nets,s.size<=n
theorem pX(c:Class)(m n:Nat)(h:m<=n):vx c m->vx c n:=fun ⟨h1,h2,d⟩=>⟨by omega,by omega,fun s hs=>aO (d s hs) h⟩
theorem Nt(hS:∀b,b<w.heap.size->S b):Sp enc w S 354 4 kl vx:=fun n cs x h=>by
 obtain⟨xs,z,V,W,ds,e,D,q⟩:=ng (S:=S) (Qs:=fun i xs d=>match i with
   | 0=>∃r,xs=[str r]/\r.size<=Rows.uptoBulk d
   | 1=>∃r,xs=[strs r]/\(r.length<=Rows.uptoBulk d/\∀s∈r,s.size<=Rows.uptoBulk d)
   | _=>∃r,xs=[i64 r]/\True) Tryz.underlying354 (vt (by kernel_rfl)) (by kernel_rfl) (fun i f u=>by
  match i,u with
  | 0,u=>cases u;exact R0
  | 1,u=>cases u;exact Ps hS
  | 2,u=>cases u;exact ym
  | 3,u=>cases u;exact ym
  | n+4,u=>cases u) _ _ _ h
 have z:xs.length=4:=z;have D:ds.length=4:=D;obtain⟨a,b,c,d,rfl⟩:∃a b c d,xs=[a,b,c,d]:=by
  match xs,z with
  | [a,b,c,d],_=>exact⟨a,b,c,d,rfl⟩
 obtain⟨J,N,O,R,rfl⟩:∃a b c d,ds=[a,b,c,d]:=by
  match ds,D with
  | [a,b,c,d],_=>exact⟨a,b,c,d,rfl⟩
 obtain⟨Y,Z,p0⟩:=q 0 _ _ rfl rfl;obtain⟨n1,e1,p1,p2⟩:=q 1 _ _ rfl rfl;obtain⟨n2,e2,_⟩:=q 2 _ _ rfl rfl;obtain⟨n3,e3,_⟩:=q 3 _ _ rfl rfl;cases Z;cases e1;cases e2;cases e3;have U:=bu (ds:=[J,N,O,R]) (i:=0) rfl;have I:=bu (ds:=[J,N,O,R]) (i:=1) rfl;rw[<-e]at U I;exact⟨_,rfl,V,W,⟨Y,n1,n2,n3⟩,rfl,by exact aO p0 U,by exact aO p1 I,fun s hs=>aO (p2 s hs) I⟩
def y9(r:qt)(n:Nat):Prop:=r.classes.length<=n/\r.areas.length<=n/\∀c∈r.classes,vx c n
theorem Nu(hS:∀b,b<w.heap.size->S b):Sp enc w S 41 7 rl y9:=fun n cs x h=>by
 obtain⟨xs,z,W,Y,ds,e,D,q⟩:=ng (S:=S) (Qs:=fun i xs d=>match i with
   | 5=>∃r:List Class,xs=[.sl (r.map kl)]/\(r.length<=Rows.uptoBulk d/\∀c∈r,vx c (Rows.uptoBulk d))
   | 6=>∃r:List H6,xs=[.sl (r.map arr)]/\(r.length<=Rows.uptoBulk d/\∀c∈r,True)
   | _=>∃r,xs=[i64 r]/\True) Tryz.underlying41 (vt (by kernel_rfl)) (by kernel_rfl) (fun i f u=>by
  match i,u with
  | 0,u=>cases u;exact ym
  | 1,u=>cases u;exact ym
  | 2,u=>cases u;exact ym
  | 3,u=>cases u;exact ym
  | 4,u=>cases u;exact ym
  | 5,u=>cases u;exact ra (k:=4) Tryz.underlying38 (by kernel_rfl) (by decide) hS pX (Nt hS)
  | 6,u=>cases u;exact ra (k:=3) Tryz.underlying39 (by kernel_rfl) (by decide) hS (fun _ _ _ _ h=>h) (Pt hS)
  | n+7,u=>cases u) _ _ _ h
 have z:xs.length=7:=z;have D:ds.length=7:=D;obtain⟨x0,x1,x2,x3,x4,x5,x6,rfl⟩:∃a b c d e f g,xs=[a,b,c,d,e,f,g]:=by
  match xs,z with
  | [a,b,c,d,e,f,g],_=>exact⟨a,b,c,d,e,f,g,rfl⟩
 obtain⟨y0,y1,J,N,O,R,U,rfl⟩:∃a b c d e f g,ds=[a,b,c,d,e,f,g]:=by
  match ds,D with
  | [a,b,c,d,e,f,g],_=>exact⟨a,b,c,d,e,f,g,rfl⟩
 obtain⟨Z,e0,_⟩:=q 0 _ _ rfl rfl;obtain⟨n1,e1,_⟩:=q 1 _ _ rfl rfl;obtain⟨n2,e2,_⟩:=q 2 _ _ rfl rfl;obtain⟨n3,e3,_⟩:=q 3 _ _ rfl rfl;obtain⟨n4,e4,_⟩:=q 4 _ _ rfl rfl;obtain⟨n5,e5,p1,p2⟩:=q 5 _ _ rfl rfl;obtain⟨n6,e6,p3,_⟩:=q 6 _ _ rfl rfl;cases e0;cases e1;cases e2;cases e3;cases e4;cases e5;cases e6;have I:=bu (ds:=[y0,y1,J,N,O,R,U]) (i:=5) rfl;have V:=bu (ds:=[y0,y1,J,N,O,R,U]) (i:=6) rfl;rw[<-e]at I V;exact⟨_,rfl,W,Y,⟨Z,n1,n2,n3,n4,n5,n6⟩,rfl,by exact aO p1 I,by exact aO p3 V,fun c hc=>pX c _ _ I (p2 c hc)⟩
theorem Nv:Sp enc w S 61 2 (fun p:Int×Int=>[i64 p.1,i64 p.2]) fun _ _=>True:=fun n cs x h=>by
 obtain⟨xs,z,I,J,ds,e,D,q⟩:=ng (S:=S) (Qs:=fun i xs d=>∃r,xs=[i64 r]/\True) Tryz.underlying61 (vt (by kernel_rfl)) (by kernel_rfl) (fun i f u=>by
  match i,u with
  | 0,u=>cases u;exact ym
  | 1,u=>cases u;exact ym
  | n+2,u=>cases u) _ _ _ h
 have z:xs.length=2:=z;have D:ds.length=2:=D;obtain⟨a,b,rfl⟩:∃a b,xs=[a,b]:=by
  match xs,z with
  | [a,b],_=>exact⟨a,b,rfl⟩
 obtain⟨a',b',rfl⟩:∃a b,ds=[a,b]:=by
  match ds,D with
  | [a,b],_=>exact⟨a,b,rfl⟩
 obtain⟨N,O,_⟩:=q 0 _ _ rfl rfl;obtain⟨R,U,_⟩:=q 1 _ _ rfl rfl;cases O;cases U;exact⟨_,rfl,I,J,(N,R),Z,Y⟩
theorem Nw{r:qt}(h:y9 r 1048576):sK r:=⟨fun c d=>by
  obtain⟨u,z,D⟩:=h.2.2 c d;exact⟨yL u (by decide),z,fun s hs=>yL (D s hs) (by decide)⟩,h.1,h.2.1⟩
theorem Em(r:qt)(m n:Nat)(h:m<=n):y9 r m->y9 r n:=fun ⟨h1,h2,d⟩=>⟨by omega,by omega,fun c u=>pX c _ _ h (d c u)⟩
theorem Jv{d:DataW H}{l:List (DataW H)}(hk:Rows.uptoSmall H l=true)(h:d∈l):Rows.uptoBulk d<=1048576:=aO (CC h) (H7 hk)
theorem CD{P:Program}(I:laidOutB P=true){W J:World}(hb:Below W.heap.size W J):∀{z:List TypeId} {vs:List Value} {ds:List (DataW H)} {D:List MemPlace},(z.all fun t=>P.readableRec t&&decide (t<P.types.size))=true->DataW.TrodAll enc P W 0 (fun _=>true) true z vs ds D->(∀p∈D,p.block<W.heap.size)->∀sp:Nat->Bool,(∀p∈D,sp p.block=true)->DataW.TrodAll enc P J 0 sp true z vs ds D
 | [],[],[],_,_,h,_,_,_=>h
 | t::z,v::vs,d::ds,D,ht,h,N,sp,hs=>by
  obtain⟨p,q,O,R,rfl⟩:=h;simp only[ux,aK,cz]at ht;have U:(z.all fun t=>P.readableRec t&&decide (t<P.types.size))=true:=by simpa using ht.2
  exact⟨p,q,Go.WideElems.Trod_stays I ht.1.1 ht.1.2 O (fun x u=>hb.same (N x (jS _ u))) (fun x u=>hs x (jS _ u)),
   CD I hb U R (fun x u=>N x (yP _ u)) sp (fun x u=>hs x (yP _ u)),rfl⟩
 | [],_::_,_,_,_,h,_,_,_=>h.elim
 | [],[],_::_,_,_,h,_,_,_=>h.elim
 | _::_,[],_,_,_,h,_,_,_=>h.elim
 | _::_,_::_,[],_,_,h,_,_,_=>h.elim
theorem F9 {W : World} (h1 : ∃ m : Int, W.cell? ⟨0, 0, none⟩ = some (.int .i64 m)) (h2 : Lib.TabIs Tryz.prog W "internal/strconv.uint64pow10" .u64 Lib.pow10Tab) : Env (fun b => b < W.heap.size) W := by
 refine⟨?_,block_lt_of_cell (h2.cell RN 0 (by decide)),h1,h2⟩;obtain⟨m,hm⟩:=h1;exact block_lt_of_cell hm
theorem UM:laidOutB Tryz.prog=true:=by kernel_rfl
theorem R2{s:ByteArray}(h:s.size<=1048576):bE s:=yL h (by decide)
end M
namespace M
open Go.AM Go.RowKit Go.Lib
open Reg (aZ cR gQ)
theorem Af(cs:List Class)(J:∀c∈cs,Ej c)(hN:cs.length<=1048576)(i:Nat)(hi:i<cs.length):af C 180 [.pv (.sl (cs.map kl)),.pv (i64 i)] (.p (i64 (cC cs i))) []:=by
 refine fW hC Tryz.func180 rfl (by kernel_rfl) fun _=>?_;have lm:=ak cs kl;obtain⟨c,V⟩:=aj (l:=cs) (i:=i) hi;obtain⟨o1,o2,o3⟩:=J c (an V);have cf:cC cs i=(if ct c.name=true then (if 1000<c.nets.length then 2 else
   if aG (cr cs i c.nets) 0 c.nets.length=0 then
    (if (fm c.clearance&&fm c.width)=true then (if bg (cs.map Class.name) i=true then 8 else 0) else 1)
   else aG (cr cs i c.nets) 0 c.nets.length) else 5):=by rw[cC,V]
 have lc:=ak c.nets fun s=>[str s];rw[cf];refine⟨(kl c),(idx rfl V),_,_,(xF c.name (by have:c.name.size<4294967281:=o1;omega)),iW ?_ ?_⟩<;>intro h2
 ·refine⟨?_,trivial⟩;rw[aa (by simp[h2])];rfl
 rw[ae (by simpa using h2)];apply iW<;>intro h3
 ·refine⟨?_,trivial⟩;rw[ae (by omega)];rfl
 rw[aa (by omega)];refine ax (fun j:Nat=>j<=c.nets.length/\∀k,k<j->cr cs i c.nets k=0) (fun j=>[(0,.p (.sl (cs.map kl))),(1,.p (i64 i)),(5,.bx 5 0),(6,.p (i64 j))]) (fun _=>[(5,.box [.p (str c.name),.p (strs c.nets),.p (i64 c.clearance),.p (i64 c.width)])]) (fun j=>c.nets.length-j) 0 _ (au.refl _ _) ⟨ai _,fun k h=>by omega⟩ ⟨Z,Z,Z,Z,Y⟩ ⟨Z,Y⟩ fun j hj t h=>?_;obtain⟨p1,p2⟩:=hj;apply iW<;>intro h4
 ·obtain⟨y,I⟩:=aj (l:=c.nets) (i:=j) (by omega);have Ek:cr cs i c.nets j≠0->(if aG (cr cs i c.nets) 0 c.nets.length=0 then
   (if (fm c.clearance&&fm c.width)=true then (if bg (cs.map Class.name) i=true then 8 else 0) else 1)
   else aG (cr cs i c.nets) 0 c.nets.length)=cr cs i c.nets j:=fun hb=>by
   have e:aG (cr cs i c.nets) 0 c.nets.length=cr cs i c.nets j:=jC hb (fun k _ hk=>p2 k hk) (ai _) (by omega);rw[e,aa hb]
  have u:cr cs i c.nets j=(if gh y=true then (if bg c.nets j=true then 8 else if seenIn (cs.take i) y=true then 7 else 0) else 5):=by rw[cr,I]
  refine⟨[str y],(idx rfl I),_,_,(FV y (o3 y (an I))),iW ?_ ?_⟩<;>intro h5
  ·refine⟨?_,trivial⟩;rw[aa (by simp[h5])]at u;rw[Ek (by rw[u];decide),u];rfl
  rw[ae (by simpa using h5)]at u;have next:cr cs i c.nets j=0->∀k,k<j+1->cr cs i c.nets k=0:=fun N k hk=>by
   by_cases e:k=j
   ·subst e;exact N
   exact p2 k (by omega)
  apply iW<;>intro h6
  ·obtain⟨z,hz⟩:=aj (l:=c.nets) (i:=j-1) (by omega);have O:bg c.nets j=(cE y z||decide (y=z)):=by
    simp only[bg,I,hz];rw[aP (by omega:0<j)];rfl
   refine⟨[str y],(idx rfl I),wO (by omega),[str z],(idx (show (j:Int)-1=((j-1:Nat):Int) by omega) hz),iW ?_ ?_⟩<;>intro R
   ·refine⟨?_,trivial⟩;have R:(cE y z||decide (y=z))=true:=by simpa [cE] using R
    rw[O,R,ae rfl]at u;rw[Ek (by rw[u];decide),u];rfl
   have R:(cE y z||decide (y=z))=false:=by simpa [cE] using R
   rw[O,R,aa (by decide)]at u;refine ax (fun k:Nat=>k<=i/\seenIn (cs.take k) y=false) (fun k=>[(0,.p (.sl (cs.map kl))),(1,.p (i64 i)),(5,.bx 5 0),(6,.p (i64 j)),(7,.p (i64 k))]) (fun _=>[(5,.box [.p (str c.name),.p (strs c.nets),.p (i64 c.clearance),.p (i64 c.width)])]) (fun k=>i-k) 0 _ (au.refl _ _) ⟨ai _,rfl⟩ ⟨Z,Z,Z,Z,Z,Y⟩ ⟨Z,Y⟩ fun k hk t h=>?_;obtain⟨u1,W⟩:=hk;apply iW<;>intro h8
   ·obtain⟨d,D⟩:=aj (l:=cs) (i:=k) (by omega);have st:seenIn (cs.take (k+1)) y=hasB d.nets y:=by
     rw[aN D];unfold seenIn at *;rw[mz,W];simp
    refine⟨(kl d),(idx rfl D),[str y],(idx rfl I),_,_,(FT d.nets y (by have:=(J d (an D)).2.1;omega)),iW ?_ ?_⟩<;>intro h9
    ·have sn:seenIn (cs.take i) y=true:=by
      unfold seenIn;rw[gz];exact⟨d,cI.2 ⟨k,by rw[cV,ae (by omega)];exact D⟩,h9⟩
     rw[sn,ae rfl]at u;refine⟨?_,trivial⟩;rw[Ek (by rw[u];decide),u];rfl
    exact⟨wO (by omega),(k+1),_,au.refl _ _,⟨by omega,by rw[st];simpa using h9⟩,by omega,⟨Z,Z,Z,Z,Z,Y⟩,⟨Z,Y⟩⟩
   have e:k=i:=by omega
   subst e;rw[W,aa (by decide)]at u;exact⟨wO (by omega),(j+1),_,au.refl _ _,⟨by omega,next u⟩,by omega,⟨Z,Z,Z,Z,Y⟩,⟨Z,Y⟩⟩
  have N:j=0:=by omega
  have O:bg c.nets j=false:=by
   subst N;simp only[bg,I];rfl
  rw[O,aa (by decide)]at u;refine ax (fun k:Nat=>k<=i/\seenIn (cs.take k) y=false) (fun k=>[(0,.p (.sl (cs.map kl))),(1,.p (i64 i)),(5,.bx 5 0),(6,.p (i64 j)),(7,.p (i64 k))]) (fun _=>[(5,.box [.p (str c.name),.p (strs c.nets),.p (i64 c.clearance),.p (i64 c.width)])]) (fun k=>i-k) 0 _ (au.refl _ _) ⟨ai _,rfl⟩ ⟨Z,Z,Z,Z,Z,Y⟩ ⟨Z,Y⟩ fun k hk t h=>?_;obtain⟨u1,W⟩:=hk;apply iW<;>intro h8
  ·obtain⟨d,D⟩:=aj (l:=cs) (i:=k) (by omega);have st:seenIn (cs.take (k+1)) y=hasB d.nets y:=by
    rw[aN D];unfold seenIn at *;rw[mz,W];simp
   refine⟨(kl d),(idx rfl D),[str y],(idx rfl I),_,_,(FT d.nets y (by have:=(J d (an D)).2.1;omega)),iW ?_ ?_⟩<;>intro h9
   ·have sn:seenIn (cs.take i) y=true:=by
     unfold seenIn;rw[gz];exact⟨d,cI.2 ⟨k,by rw[cV,ae (by omega)];exact D⟩,h9⟩
    rw[sn,ae rfl]at u;refine⟨?_,trivial⟩;rw[Ek (by rw[u];decide),u];rfl
   exact⟨wO (by omega),(k+1),_,au.refl _ _,⟨by omega,by rw[st];simpa using h9⟩,by omega,⟨Z,Z,Z,Z,Z,Y⟩,⟨Z,Y⟩⟩
  have e:k=i:=by omega
  subst e;rw[W,aa (by decide)]at u;exact⟨wO (by omega),(j+1),_,au.refl _ _,⟨by omega,next u⟩,by omega,⟨Z,Z,Z,Z,Y⟩,⟨Z,Y⟩⟩
 have z0:aG (cr cs i c.nets) 0 c.nets.length=0:=aI fun k _ hk=>p2 k (by omega);rw[ae z0];have bn:∀d,cs[i-1]?=some d->0<i->bg (cs.map Class.name) i=(cE c.name d.name||decide (c.name=d.name)):=fun d D N=>by
  simp only[bg,aB,V,D,fG];rw[aP N];rfl
 refine⟨_,_,(jB c.clearance),iW ?_ ?_⟩<;>intro g1
 ·refine⟨?_,trivial⟩;rw[aa (by simp[g1])];rfl
 refine⟨_,_,(jB c.width),iW ?_ ?_⟩<;>intro g2
 ·refine⟨?_,trivial⟩;rw[aa (by simp[g2])];rfl
 rw[ae (by simp[g1,g2])];apply iW<;>intro g3
 ·obtain⟨d,D⟩:=aj (l:=cs) (i:=i-1) (by omega);refine⟨wO (by omega),(kl d),(idx (show (i:Int)-1=((i-1:Nat):Int) by omega) D),?_⟩;rw[bn d D (by omega)];apply iW<;>intro U
  ·refine⟨?_,trivial⟩;have U:(cE c.name d.name||decide (c.name=d.name))=true:=by simpa [cE] using U
   rw[U];rfl
  have U:(cE c.name d.name||decide (c.name=d.name))=false:=by simpa [cE] using U
  refine⟨?_,trivial⟩;rw[U];rfl
 have N:i=0:=by omega
 have O:bg (cs.map Class.name) i=false:=by
  subst N;simp only[bg,aB,V];rfl
 refine⟨?_,trivial⟩;rw[O];rfl
theorem Ag(r:qt)(ho:sK r):af C 83 [.pv (.ag (rl r))] (.p (i64 (da r))) []:=by
 refine fW hC Tryz.func83 rfl (by kernel_rfl) fun _=>?_;obtain⟨o1,o2,o3⟩:=ho;have lm:=ak r.areas arr;have lc:=ak r.classes kl;refine⟨_,_,(jB r.clearance),iW ?_ ?_⟩<;>intro V
 ·refine⟨?_,trivial⟩;rw[da,aa (by simp[pW,V])];rfl
 refine⟨_,_,(jB r.width),iW ?_ ?_⟩<;>intro W
 ·refine⟨?_,trivial⟩;rw[da,aa (by simp[pW,W])];rfl
 refine⟨_,_,(jB r.ring),iW ?_ ?_⟩<;>intro N
 ·refine⟨?_,trivial⟩;rw[da,aa (by simp[pW,N])];rfl
 refine⟨_,_,(jB r.edge),iW ?_ ?_⟩<;>intro J
 ·refine⟨?_,trivial⟩;rw[da,aa (by simp[pW,J])];rfl
 refine⟨_,_,(jB r.holeGap),iW ?_ ?_⟩<;>intro u
 ·refine⟨?_,trivial⟩;rw[da,aa (by simp[pW,u])];rfl
 rw[da,ae (by simp[pW,V,W,N,J,u])];apply iW<;>intro O
 ·refine⟨?_,trivial⟩;rw[show eu r.classes=2 by rw[eu,ae (by omega)]];rfl
 have ce:eu r.classes=aG (cC r.classes) 0 r.classes.length:=by rw[eu,aa (by omega)]
 rw[ce];refine ax (fun i:Nat=>i<=r.classes.length/\∀k,k<i->cC r.classes k=0) (fun i=>[(1,.bx 1 0),(3,.p (i64 i))]) (fun _=>[(1,.box (UJ r))]) (fun i=>r.classes.length-i) 0 _ (au.refl _ _) ⟨ai _,fun k h=>by omega⟩ ⟨Z,Z,Y⟩ ⟨Z,Y⟩ fun i hi t h=>?_;obtain⟨q1,z⟩:=hi;apply iW<;>intro R
 ·refine⟨_,_,(Af r.classes o1 o2 i (by omega)),iW ?_ ?_⟩<;>intro D
  ·have D:¬cC r.classes i=0:=by simpa using D
   have e:=jC (f:=cC r.classes) (m:=i) D (n:=r.classes.length) (i:=0) (fun k _ hk=>z k hk) (ai _) (by omega);refine⟨?_,trivial⟩;rw[e,aa D]
  have D:cC r.classes i=0:=by simpa using D
  refine⟨wO (by omega),(i+1),_,au.refl _ _,⟨by omega,fun k hk=>?_⟩,by omega,⟨Z,Z,Y⟩,⟨Z,Y⟩⟩;by_cases e:k=i
  ·subst e;exact D
  exact z k (by omega)
 rw[ae (aI fun k _ hk=>z k (by omega))];apply iW<;>intro h9
 ·refine⟨?_,trivial⟩;rw[ni,ae (by omega)];rfl
 rw[ni,aa (by omega)];refine ax (fun i:Nat=>i<=r.areas.length/\(∀k,k<i->dP r.areas k=0)/\eZ (r.areas.take i)<=i*1000000) (fun i=>[(1,.bx 1 0),(5,.p (i64 (eZ (r.areas.take i)))),(6,.p (i64 i))]) (fun _=>[(1,.box (UJ r))]) (fun i=>r.areas.length-i) 0 _ (au.refl _ _) ⟨ai _,fun k h=>by omega,by simp[eZ]⟩ ⟨Z,Z,Z,Y⟩ ⟨Z,Y⟩ fun i hi t h=>?_;obtain⟨q1,z,q3⟩:=hi;apply iW<;>intro N
 ·obtain⟨a,U⟩:=aj (l:=r.areas) (i:=i) (by omega);have I:dP r.areas i≠0->aG (dP r.areas) 0 r.areas.length=dP r.areas i:=fun hb=>jC hb (fun k _ hk=>z k hk) (ai _) (by omega);have d:dP r.areas i=(if (decide (-1<=a.layer)&&decide (a.layer<=15))=true then (if Reg.bS a.region=0 then (if fm a.clearance=true then 0 else 1) else Reg.bS a.region) else 1):=by rw[dP,U]
  have la:=ak a.region rc;refine⟨(arr a),(idx rfl U),_,_,(xE a.layer (-1) 15),iW ?_ ?_⟩<;>intro J
  ·refine⟨?_,trivial⟩;rw[aa (by simpa using J)]at d;rw[I (by rw[d];decide),d];rfl
  rw[ae (by simpa using J)]at d;refine⟨_,_,(yi a.region),iW ?_ ?_⟩<;>intro u
  ·refine⟨?_,trivial⟩;have u:¬Reg.bS a.region=0:=by simpa using u
   rw[aa u]at d;rw[I (by rw[d];exact u),d,aa u]
  have u:Reg.bS a.region=0:=by simpa using u
  rw[ae u]at d;have hl:=Ae u;refine⟨_,_,(jB a.clearance),iW ?_ ?_⟩<;>intro O
  ·refine⟨?_,trivial⟩;rw[aa (by simp[O])]at d;rw[I (by rw[d];decide),d];rfl
  rw[ae (by simpa using O)]at d;have s1:eZ (r.areas.take (i+1))=eZ (r.areas.take i)+a.region.length:=by
   rw[aN U,xK];simp[eZ]
  refine⟨wO (by omega),wO (by omega),(i+1),_,au.refl _ _,⟨by omega,fun k hk=>?_,by omega⟩,by omega,⟨rfl,bc (by omega),Z,Y⟩,⟨Z,Y⟩⟩;by_cases e:k=i
  ·subst e;exact d
  exact z k (by omega)
 have e:i=r.areas.length:=by omega
 subst e;have z0:aG (dP r.areas) 0 r.areas.length=0:=aI fun k _ hk=>z k (by omega);rw[ae z0];have tl:r.areas.take r.areas.length=r.areas:=fQ;apply iW<;>intro R
 ·refine⟨?_,trivial⟩;rw[tl]at R;rw[ae (by omega)];rfl
 refine⟨?_,trivial⟩;rw[tl]at R;rw[aa (by omega)];rfl
def dR(n lo hi:Int):Bool:=decide (lo<=n)&&decide (n<=hi)
theorem dB{n lo hi:Int}:dR n lo hi=true↔lo<=n/\n<=hi:=by simp[dR]
theorem Pu{n lo hi:Int}:dR n lo hi=false↔¬(lo<=n/\n<=hi):=by
 rw[<-dB,vu]
theorem rb(n lo hi:Int):af C 366 [.pv (i64 n),.pv (i64 lo),.pv (i64 hi)] (.p (bool (dR n lo hi))) []:=by
 refine fW hC Tryz.func366 rfl (by kernel_rfl) fun _=>?_;apply iW<;>intro h<;>(refine⟨?_,trivial⟩)<;>simp[bool,dR,h]
theorem gu(n lo hi:Int):af C 171 [.pv (i64 n),.pv (i64 lo),.pv (i64 hi)] (.p (bool (dR n lo hi))) []:=by
 refine fW hC Tryz.func171 rfl (by kernel_rfl) fun _=>?_;apply iW<;>intro h<;>(refine⟨?_,trivial⟩)<;>simp[bool,dR,h]
theorem lD(n lo hi:Int):af C 275 [.pv (i64 n),.pv (i64 lo),.pv (i64 hi)] (.p (bool (dR n lo hi))) []:=by
 refine fW hC Tryz.func275 rfl (by kernel_rfl) fun _=>?_;apply iW<;>intro h<;>(refine⟨?_,trivial⟩)<;>simp[bool,dR,h]
theorem gB(n lo hi:Int):af C 280 [.pv (i64 n),.pv (i64 lo),.pv (i64 hi)] (.p (bool (dR n lo hi))) []:=by
 refine fW hC Tryz.func280 rfl (by kernel_rfl) fun _=>?_;apply iW<;>intro h<;>(refine⟨?_,trivial⟩)<;>simp[bool,dR,h]
theorem mA(n lo hi:Int):af C 111 [.pv (i64 n),.pv (i64 lo),.pv (i64 hi)] (.p (bool (dR n lo hi))) []:=by
 refine fW hC Tryz.func111 rfl (by kernel_rfl) fun _=>?_;apply iW<;>intro h<;>(refine⟨?_,trivial⟩)<;>simp[bool,dR,h]
theorem mB(n lo hi:Int):af C 42 [.pv (i64 n),.pv (i64 lo),.pv (i64 hi)] (.p (bool (dR n lo hi))) []:=by
 refine fW hC Tryz.func42 rfl (by kernel_rfl) fun _=>?_;apply iW<;>intro h<;>(refine⟨?_,trivial⟩)<;>simp[bool,dR,h]
theorem pY(n lo hi:Int):af C 232 [.pv (i64 n),.pv (i64 lo),.pv (i64 hi)] (.p (bool (dR n lo hi))) []:=by
 refine fW hC Tryz.func232 rfl (by kernel_rfl) fun _=>?_;apply iW<;>intro h<;>(refine⟨?_,trivial⟩)<;>simp[bool,dR,h]
theorem ey(n lo hi:Int):af C 141 [.pv (i64 n),.pv (i64 lo),.pv (i64 hi)] (.p (bool (dR n lo hi))) []:=by
 refine fW hC Tryz.func141 rfl (by kernel_rfl) fun _=>?_;apply iW<;>intro h<;>(refine⟨?_,trivial⟩)<;>simp[bool,dR,h]
theorem mC(n lo hi:Int):af C 148 [.pv (i64 n),.pv (i64 lo),.pv (i64 hi)] (.p (bool (dR n lo hi))) []:=by
 refine fW hC Tryz.func148 rfl (by kernel_rfl) fun _=>?_;apply iW<;>intro h<;>(refine⟨?_,trivial⟩)<;>simp[bool,dR,h]
theorem rf(s:ByteArray)(hs:s.size<=9223372036854775807):af C 365 [.pv (str s)] (.p (bool (ct s))) []:=by
 refine fW hC Tryz.func365 rfl (by kernel_rfl) fun _=>?_;have hsz:s.data.toList.length=s.size:=by simp
 refine ax (fun i:Nat=>i<=s.size/\(s.data.toList.take i).all okB=true) (fun i=>[(0,.p (str s)),(6,.p (i64 s.size)),(7,.p (i64 i))]) (fun _=>[]) (fun i=>s.size-i) 0 _ (au.refl _ _) ⟨ai _,by simp⟩ ⟨Z,Z,Z,Y⟩ trivial fun i hi t h=>?_;apply iW<;>intro h1
 ·obtain⟨b,hb,u⟩:=lC (s:=s) (i:=i) (by omega);have D:okB b=false->ct s=false:=fun h=>by
   rw[ct,eH];refine .inl ?_;rw[jV];exact⟨b,an u,by simp[h]⟩
  have d:okB b=true->(s.data.toList.take (i+1)).all okB=true:=fun h=>by rw[aN u,jW,hi.2];simp[h]
  refine⟨b,⟨by omega,by rw[bU];exact hb⟩,?_⟩;have z:=gN ⟨#[95,43,45,35]⟩ b.toNat;rw[byte_back]at z
  repeat' first | apply iW<;>intro h<;>try simp only[zB]at h | refine⟨_,_,z,?_⟩
  all_goals skip
  all_goals first
   | (
     refine⟨wO (by omega),?_⟩;refine⟨(i+1),_,au.refl _ _,?_⟩;exact⟨⟨by omega,d (by simp only[okB,eG,aK,cz,jj,dI];omega)⟩,by omega,⟨Z,Z,Z,Y⟩,trivial⟩)
   | (
     refine⟨?_,trivial⟩;rw[D (by simp only[okB,gV,eH,dI,sF,cz];omega)];rfl)
 have I:s.data.toList.all okB=true:=by
  have:=hi.2
  rwa [aW (by omega)]at this
 refine⟨_,_,(rb s.size 1 40),?_,trivial⟩;rw[ct,I,fu];rfl
theorem xL(s:ByteArray)(hs:s.size<=9223372036854775807):af C 274 [.pv (str s)] (.p (bool (ct s))) []:=by
 refine fW hC Tryz.func274 rfl (by kernel_rfl) fun _=>?_;have hsz:s.data.toList.length=s.size:=by simp
 refine ax (fun i:Nat=>i<=s.size/\(s.data.toList.take i).all okB=true) (fun i=>[(0,.p (str s)),(6,.p (i64 s.size)),(7,.p (i64 i))]) (fun _=>[]) (fun i=>s.size-i) 0 _ (au.refl _ _) ⟨ai _,by simp⟩ ⟨Z,Z,Z,Y⟩ trivial fun i hi t h=>?_;apply iW<;>intro h1
 ·obtain⟨b,hb,u⟩:=lC (s:=s) (i:=i) (by omega);have D:okB b=false->ct s=false:=fun h=>by
   rw[ct,eH];refine .inl ?_;rw[jV];exact⟨b,an u,by simp[h]⟩
  have d:okB b=true->(s.data.toList.take (i+1)).all okB=true:=fun h=>by rw[aN u,jW,hi.2];simp[h]
  refine⟨b,⟨by omega,by rw[bU];exact hb⟩,?_⟩;have z:=gN ⟨#[95,43,45,35]⟩ b.toNat;rw[byte_back]at z
  repeat' first | apply iW<;>intro h<;>try simp only[zB]at h | refine⟨_,_,z,?_⟩
  all_goals skip
  all_goals first
   | (
     refine⟨wO (by omega),?_⟩;refine⟨(i+1),_,au.refl _ _,?_⟩;exact⟨⟨by omega,d (by simp only[okB,eG,aK,cz,jj,dI];omega)⟩,by omega,⟨Z,Z,Z,Y⟩,trivial⟩)
   | (
     refine⟨?_,trivial⟩;rw[D (by simp only[okB,gV,eH,dI,sF,cz];omega)];rfl)
 have I:s.data.toList.all okB=true:=by
  have:=hi.2
  rwa [aW (by omega)]at this
 refine⟨_,_,(lD s.size 1 40),?_,trivial⟩;rw[ct,I,fu];rfl
theorem pZ(s:ByteArray)(hs:s.size<=9223372036854775807):af C 279 [.pv (str s)] (.p (bool (ct s))) []:=by
 refine fW hC Tryz.func279 rfl (by kernel_rfl) fun _=>?_;have hsz:s.data.toList.length=s.size:=by simp
 refine ax (fun i:Nat=>i<=s.size/\(s.data.toList.take i).all okB=true) (fun i=>[(0,.p (str s)),(6,.p (i64 s.size)),(7,.p (i64 i))]) (fun _=>[]) (fun i=>s.size-i) 0 _ (au.refl _ _) ⟨ai _,by simp⟩ ⟨Z,Z,Z,Y⟩ trivial fun i hi t h=>?_;apply iW<;>intro h1
 ·obtain⟨b,hb,u⟩:=lC (s:=s) (i:=i) (by omega);have D:okB b=false->ct s=false:=fun h=>by
   rw[ct,eH];refine .inl ?_;rw[jV];exact⟨b,an u,by simp[h]⟩
  have d:okB b=true->(s.data.toList.take (i+1)).all okB=true:=fun h=>by rw[aN u,jW,hi.2];simp[h]
  refine⟨b,⟨by omega,by rw[bU];exact hb⟩,?_⟩;have z:=gN ⟨#[95,43,45,35]⟩ b.toNat;rw[byte_back]at z
  repeat' first | apply iW<;>intro h<;>try simp only[zB]at h | refine⟨_,_,z,?_⟩
  all_goals skip
  all_goals first
   | (
     refine⟨wO (by omega),?_⟩;refine⟨(i+1),_,au.refl _ _,?_⟩;exact⟨⟨by omega,d (by simp only[okB,eG,aK,cz,jj,dI];omega)⟩,by omega,⟨Z,Z,Z,Y⟩,trivial⟩)
   | (
     refine⟨?_,trivial⟩;rw[D (by simp only[okB,gV,eH,dI,sF,cz];omega)];rfl)
 have I:s.data.toList.all okB=true:=by
  have:=hi.2
  rwa [aW (by omega)]at this
 refine⟨_,_,(gB s.size 1 40),?_,trivial⟩;rw[ct,I,fu];rfl
theorem xM(s:ByteArray)(hs:s.size<4294967281):af C 269 [.pv (str s)] (.p (bool (gh s))) []:=by
 refine fW hC Tryz.func269 rfl (by kernel_rfl) fun _=>?_;have D:=ak (parts s) fun s=>[str s];have pl:=qY s;refine⟨_,_,(sI s hs),?_⟩;refine ax (fun i:Nat=>i<=(parts s).length/\((parts s).take i).all ct=true) (fun i=>[(0,.p (str s)),(6,.p (strs (parts s))),(7,.p (i64 (parts s).length)),(8,.p (i64 i))]) (fun _=>[]) (fun i=>(parts s).length-i) 0 _ (au.own hC _ 6 rfl rfl) ⟨ai _,by simp⟩ ⟨rfl,rfl,ah (fun n:Nat=>AV.p (i64 n)) D,Z,Y⟩ trivial fun i hi t h=>?_;apply iW<;>intro h1
 ·obtain⟨x,d⟩:=aj (l:=parts s) (i:=i) (by omega);have qA:=om _ _ _ x (an d);refine⟨[str x],(idx rfl d),_,_,(rf x (by omega)),iW ?_ ?_⟩<;>intro u
  ·refine⟨?_,trivial⟩;rw[show gh s=false from ?_]
   ·rfl
   rw[gh,eH,jV];exact .inl ⟨x,an d,by simp[u]⟩
  refine⟨wO (by omega),(i+1),_,au.refl _ _,⟨by omega,?_⟩,by omega,⟨Z,Z,Z,Z,Y⟩,trivial⟩;rw[aN d,jW,hi.2];simp[u]
 refine⟨?_,trivial⟩;have z:=hi.2;rw[aW (by omega)]at z;rw[gh,z,fu];rfl
theorem En(s:ByteArray)(hs:s.size<4294967281):af C 281 [.pv (str s)] (.p (bool (gh s))) []:=by
 refine fW hC Tryz.func281 rfl (by kernel_rfl) fun _=>?_;have D:=ak (parts s) fun s=>[str s];have pl:=qY s;refine⟨_,_,(sI s hs),?_⟩;refine ax (fun i:Nat=>i<=(parts s).length/\((parts s).take i).all ct=true) (fun i=>[(0,.p (str s)),(6,.p (strs (parts s))),(7,.p (i64 (parts s).length)),(8,.p (i64 i))]) (fun _=>[]) (fun i=>(parts s).length-i) 0 _ (au.own hC _ 6 rfl rfl) ⟨ai _,by simp⟩ ⟨rfl,rfl,ah (fun n:Nat=>AV.p (i64 n)) D,Z,Y⟩ trivial fun i hi t h=>?_;apply iW<;>intro h1
 ·obtain⟨x,d⟩:=aj (l:=parts s) (i:=i) (by omega);have qA:=om _ _ _ x (an d);refine⟨[str x],(idx rfl d),_,_,(pZ x (by omega)),iW ?_ ?_⟩<;>intro u
  ·refine⟨?_,trivial⟩;rw[show gh s=false from ?_]
   ·rfl
   rw[gh,eH,jV];exact .inl ⟨x,an d,by simp[u]⟩
  refine⟨wO (by omega),(i+1),_,au.refl _ _,⟨by omega,?_⟩,by omega,⟨Z,Z,Z,Z,Y⟩,trivial⟩;rw[aN d,jW,hi.2];simp[u]
 refine⟨?_,trivial⟩;have z:=hi.2;rw[aW (by omega)]at z;rw[gh,z,fu];rfl
def H8(b:UInt8):Bool:=(decide ((97:Int)<=b.toNat)&&decide ((b.toNat:Int)<=122))||(decide ((65:Int)<=b.toNat)&&decide ((b.toNat:Int)<=90))
def H9(b:UInt8):Bool:=decide ((b.toNat:Int)=95)||decide ((b.toNat:Int)=45)||(decide ((48:Int)<=b.toNat)&&decide ((b.toNat:Int)<=57))
def tZ(s:ByteArray)(i:Nat):Bool:=match s.data.toList[i]? with
 | some b=>H8 b||(decide (0<i)&&H9 b)
 | none=>true
def rh(f:Nat->Bool):Nat->Bool
 | 0=>true
 | n+1=>rh f n&&f n
theorem ri{f:Nat->Bool}{i:Nat}(h:f i=false):∀{n:Nat},i<n->rh f n=false
 | 0,hn=>by omega
 | n+1,hn=>by
  rw[rh];by_cases e:i=n
  ·subst e;rw[h,sE]
  rw[ri h (by omega:i<n),pU]
def vy(s:ByteArray):Bool:=rh (tZ s) s.size&&dR s.size 1 40
theorem F_(s:ByteArray)(hs:s.size<=9223372036854775807):af C 236 [.pv (str s)] (.p (bool (vy s))) []:=by
 refine fW hC Tryz.func236 rfl (by kernel_rfl) fun _=>?_;refine ax (fun i:Nat=>i<=s.size/\rh (tZ s) i=true) (fun i=>[(0,.p (str s)),(7,.p (i64 s.size)),(8,.p (i64 i))]) (fun _=>[]) (fun i=>s.size-i) 0 _ (au.refl _ _) ⟨ai _,rfl⟩ ⟨Z,Z,Z,Y⟩ trivial fun i hi t h=>?_;apply iW<;>intro h1
 ·obtain⟨b,hb,z⟩:=lC (s:=s) (i:=i) (by omega);have u:tZ s i=(H8 b||(decide (0<i)&&H9 b)):=by rw[tZ,z]
  have D:tZ s i=false->vy s=false:=fun h=>by rw[vy,ri h (by omega),pU]
  have d:tZ s i=true->rh (tZ s) (i+1)=true:=fun h=>by rw[rh,hi.2,h];rfl
  refine⟨b,⟨by omega,by rw[bU];exact hb⟩,?_⟩
  repeat' apply iW<;>intro h
  all_goals skip
  all_goals first
   | (
     refine⟨wO (by omega),?_⟩;refine⟨(i+1),_,au.refl _ _,?_⟩;exact⟨⟨by omega,d (by rw[u];simp only[H8,H9,eG,aK,cz];omega)⟩,by omega,⟨Z,Z,Z,Y⟩,trivial⟩)
   | (
     refine⟨?_,trivial⟩;rw[D (by rw[u];simp only[H8,H9,gV,eH,dI];omega)];rfl)
 have I:i=s.size:=by omega
 have J:rh (tZ s) s.size=true:=by rw[<-I];exact hi.2
 apply iW<;>intro N<;>(refine⟨?_,trivial⟩)<;>simp[bool,vy,dR,J,N]
theorem Ga(s:ByteArray)(hs:s.size<=9223372036854775807):af C 107 [.pv (str s)] (.p (bool (vy s))) []:=by
 refine fW hC Tryz.func107 rfl (by kernel_rfl) fun _=>?_;refine ax (fun i:Nat=>i<=s.size/\rh (tZ s) i=true) (fun i=>[(0,.p (str s)),(3,.p (i64 i))]) (fun _=>[]) (fun i=>s.size-i) 0 _ (au.refl _ _) ⟨ai _,rfl⟩ ⟨Z,Z,Y⟩ trivial fun i hi t h=>?_;apply iW<;>intro h1
 ·obtain⟨b,hb,z⟩:=lC (s:=s) (i:=i) (by omega);have u:tZ s i=(H8 b||(decide (0<i)&&H9 b)):=by rw[tZ,z]
  have D:tZ s i=false->vy s=false:=fun h=>by rw[vy,ri h (by omega),pU]
  have d:tZ s i=true->rh (tZ s) (i+1)=true:=fun h=>by rw[rh,hi.2,h];rfl
  refine⟨b,⟨by omega,by rw[bU];exact hb⟩,?_⟩
  repeat' apply iW<;>intro h
  all_goals skip
  all_goals first
   | (
     refine⟨wO (by omega),?_⟩;refine⟨(i+1),_,au.refl _ _,?_⟩;exact⟨⟨by omega,d (by rw[u];simp only[H8,H9,eG,aK,cz];omega)⟩,by omega,⟨Z,Z,Y⟩,trivial⟩)
   | (
     refine⟨?_,trivial⟩;rw[D (by rw[u];simp only[H8,H9,gV,eH,dI];omega)];rfl)
 have I:i=s.size:=by omega
 have J:rh (tZ s) s.size=true:=by rw[<-I];exact hi.2
 refine⟨_,_,(gu s.size 1 40),?_,trivial⟩;rw[vy,J,fu]
end M
end Go.Proofs.YtnpkopkpbgflnaaGreatDoor
