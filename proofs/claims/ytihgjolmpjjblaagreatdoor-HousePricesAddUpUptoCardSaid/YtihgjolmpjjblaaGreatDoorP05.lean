/- Part 5 of the proof of HousePricesAddUp. -/
import Derived.Test.YtihgjolmpjjblaaGreatDoorP04
import Derived.Shelf.SlSortCmp.WholeK
import Derived.Deep.Slices
import Derived.Shelf.SlSortCmp.NoneTotal
import Derived.Sort.Walk0
set_option linter.unusedVariables false
set_option linter.unusedSimpArgs false
set_option maxRecDepth 100000
set_option maxHeartbeats 8000000
namespace Go
abbrev wT:=@List.flatten_cons
abbrev A3:=@Array.getElem?_append_right
abbrev Mu:=@List.map_take
abbrev uc:=@Nat.lt_or_ge
abbrev A4:=@Array.getElem?_eq_none
abbrev wZ:=@Nat.eq_zero_or_pos
abbrev Ga:=@Go.Deep.choose_lt
abbrev Gb:=@Array.ext_getElem?
abbrev Gc:=@List.not_mem_nil
abbrev mc:=@List.length_mergeSort
abbrev Gd:=@List.drop_drop
abbrev w_:=@List.map_set
abbrev kN:=@List.take_append_of_le_length
abbrev Mw:=@List.pairwise_mergeSort
abbrev Mx:=@List.any_append
end Go
namespace Go.AM
open Go.RowKit
variable {k:Nat}
theorem A5{α:Type}:∀{L:List (List α)} {a:Nat} {r:List α} {j:Nat} {v:α},(∀r∈L,r.length=k)->L[a]?=some r->r[j]?=some v->L.flatten[a*k+j]?=some v:=by
 intro L
 induction L with
 | nil=>intro a r j v _ h;simp at h
 | cons x L ih=>
  intro a r j v hk z D;have hx:=hk x (by simp);cases a with
  | zero=>
   simp at z;subst z;rw[wT,tG,bp,dN (aC D)];exact D
  | succ a=>
   rw[wT,dO,du (by omega)];have:=ih (a:=a) (r:=r) (j:=j) (v:=v) (fun r I=>hk r (by simp[I])) (by simpa using z) D;rw[<-this];congr 1;omega
theorem kO{α:Type}:∀{L:List (List α)},(∀r∈L,r.length=k)->L.flatten.length=L.length*k:=by
 intro L
 induction L with
 | nil=>intro _;simp
 | cons x L ih=>
  intro hk;rw[wT,bJ,ih fun r z=>hk r (by simp[z]),hk x (by simp),bN,dO];omega
def bh(L:List (List Value)):List (List PV):=L.map fun r=>r.map PV.im
variable {L:List (List Value)}
theorem Ey{P:Program}{S:Nat->Prop}{w:World}(hk:∀r∈L,r.length=k){xs:List Value}(hl:xs.length=L.length*k)(h:∀(a:Nat) r (j:Nat) x,(bh L)[a]?=some r->r[j]?=some x->∃u,xs[a*k+j]?=some u/\aO S w x u):xs=L.flatten:=by
 have hfl:=kO hk;apply kz;intro q;by_cases z:q<L.length*k
 ·have D:0<k:=Nat.pos_of_ne_zero fun e=>by rw[e]at z;simp at z
  have I:q / k<L.length:=(Nat.div_lt_iff_lt_mul D).2 z;have hj:q % k<k:=na _ D;have J:L[q / k]?=some L[q / k]:=aW I;have Ah:=hk _ (o5 I);have N:L[q / k][q % k]?=some (L[q / k][q % k]'(by omega)):=aW _;have e:q / k*k+q % k=q:=by rw[Nat.mul_comm];exact Nat.div_add_mod q k
  obtain⟨u,O,U⟩:=h (q / k) _ (q % k) _ (by unfold bh;rw[aD,J];rfl) (by rw[aD,N];rfl);rw[e]at O;have R:=A5 hk J N;rw[e]at R;rw[O,R,U.bZ]
 rw[iR (by omega),iR (by omega)]
theorem Ez{S:Nat->Prop}{w:World}(hk:∀r∈L,r.length=k):∀(a:Nat) r (j:Nat) x,(bh L)[a]?=some r->r[j]?=some x->∃u,L.flatten[a*k+j]?=some u/\aO S w x u:=by
 intro a r j x z D;unfold bh at z;rw[aD]at z;obtain⟨r0,I,rfl⟩:=aV.1 z;rw[aD]at D;obtain⟨v,J,rfl⟩:=aV.1 D;exact⟨v,A5 hk I J,.im v⟩
theorem My(hk:∀r∈L,r.length=k):∀r∈bh L,r.length=k:=by
 intro r z;obtain⟨D,h,rfl⟩:=aZ.1 z;rw[au,hk D h]
def sT(w:World)(g n:Nat)(F:Array Value)(os:Array Obj):World:=Sort.grow (Sort.putRow id (Sort.ahead w n) g 0 F) os
theorem B4(w:World)(g n:Nat)(F:Array Value)(os:Array Obj):(sT w g n F os).os=w.os/\(sT w g n F os).tape=w.tape/\(sT w g n F os).output=w.output/\w.heap.size<=(sT w g n F os).heap.size/\∀k,k<w.heap.size->(sT w g n F os).heap[k]?=if k=g then (w.heap[k]?).map (Sort.onCells (Sort.putCells id 0 F)) else w.heap[k]?:=by
 refine⟨rfl,rfl,rfl,?_,fun k hk=>?_⟩
 ·simp[sT,Sort.grow,Sort.putRow,Sort.mapBlock,Sort.ahead]
 simp only[sT,Sort.grow,Sort.putRow,Sort.mapBlock,Sort.ahead];rw[L_ (by simpa using hk),E9];by_cases e:g=k
 ·rw[ae e,ae e.symm]
 rw[aa e,aa fun h=>e h.symm]
theorem xd(F z:Array Value)(h:F.size<=z.size):(Sort.putCells id 0 F z).size=z.size/\(Sort.putCells id 0 F z).toList.take F.size=F.toList:=by
 refine⟨by simp[Sort.putCells],?_⟩;apply kz;intro j;rw[dM];split
 ·rename_i D;rw[kC,kC];simp only[Sort.putCells,Array.getElem?_mapIdx];rw[cC (by omega:j<z.size),cC D,fB,ae ⟨ak _,by omega⟩,Nat.sub_zero,getElem!_pos F j D];rfl
 rename_i D;rw[iR (by simpa using D)]
theorem Oq{w w':World}{e:TypeId}{es J:List (List PV)}{D:Value}{zs:List Value}(N:w.heap.size<=w'.heap.size)(h:∀g,cF D=some g->g<w.heap.size/\Mv w (.row e es::zs.map fun a=>.pv (.im a)) (#[D]++zs.toArray) g):v7 w w' (.row e es::zs.map fun a=>.pv (.im a)) [.row J] (#[D]++zs.toArray):=by
 have z:∀i g,dA w' (.row e es::zs.map fun a=>.pv (.im a)) [.row J] (#[D]++zs.toArray).toList i g->i=0/\cF D=some g:=fun i g I=>by
  simp only[wi]at I;cases i with
  | zero=>exact⟨rfl,aI rfl I.2⟩
  | succ i=>exact (wG zs i g I).elim
 exact⟨fun i g I=>by obtain⟨O,R⟩:=h g (z i g I).2;exact⟨cB O N,.inr R⟩,fun i j g hi U=>by rw[(z i g hi).1,(z j g U).1]⟩
theorem vF{C:Ctx}(hC:bP C){f:FuncId}(e:TypeId)(V:TI)(hT:C.T e=some V)(L4:0<V.size)(zs:List Value)(L L':List (List Value))(hL:∀r∈L,r.length=V.size)(Z:∀r∈L',r.length=V.size)(hlen:L'.length=L.length)
  (h1:∀r∈L',∀v∈r,v.oneCell'=true) (hf:AW C f)
  (W:L=[]->∀w,Calls C.P f (#[.slice none 0 0]++zs.toArray) w fun e' w'=>e'=.returned (.tuple #[])/\w'=w)
  (h:∀S w cF cap,C.E S w->cF<w.heap.size->L.length<=cap->(∀j v,L.flatten[j]?=some v->w.cell? ⟨cF,j,none⟩=some v/\w.frozen? ⟨cF,j,none⟩=false)->
   Calls C.P f (#[.slice (some ⟨cF,0,none⟩) L.length cap]++zs.toArray) w fun e' w'=>e'=.returned (.tuple #[])/\∃n os,w'=sT w cF n L'.flatten.toArray os):
  ai C f (.row e (bh L)::zs.map fun a=>.pv (.im a)) (.tu []) [.row (bh L')]:=by
 refine⟨hf,fun S w vs hE hS hl hr _=>?_⟩;obtain⟨D,vr,rfl⟩:∃D vr,vs=#[D]++vr:=by
  obtain⟨l⟩:=vs;cases l with
  | nil=>simp at hl
  | cons D l=>exact⟨D,⟨l⟩,by simp⟩
 have hvr:vr=zs.toArray:=AX (S:=S) (w:=w) (P:=C.P) (by simp at hl ⊢;omega) fun j x v hx hv=>hr (j+1) x v (by simpa using hx) (by rw[A3 (by simp)];simpa using hv);subst hvr;have aw:aH C.P w (aO S w) e (bh L) D/\∀g,cF D=some g->¬S g:=hr 0 _ D rfl (by simp);obtain⟨⟨i,xs,hi,J,hown,hkr,kE,N⟩,Y⟩:=aw;obtain⟨info,z,g1,R,_⟩:=hC.jw e V hT;rw[hi]at g1;injection g1 with g1;subst g1;have O:(bh L).length=L.length:=au ..;have Ge:(bh L').length=L.length:=by rw[<-hlen];exact au ..
 have hx:xs=L.flatten:=Ey (P:=C.P) (k:=i.size) (by rw[R];exact hL) (by rw[<-O];exact hown.1) N;have Md:∀g,cF D=some g->Mv w (.row e (bh L)::zs.map fun a=>.pv (.im a)) (#[D]++zs.toArray) g:=fun g hg=>⟨0,_,D,rfl,by simp,rfl,.inl hg⟩;have tail:∀w':World,pS S w' C.P (.row e (bh L)) (.row (bh L')) D->fq S w' C.P (.row e (bh L)::zs.map fun a=>.pv (.im a)) [.row (bh L')] (#[D]++zs.toArray).toList:=fun w' Pw=>by
  simp only[wi];exact⟨Pw,FQ zs⟩
 have ZI:∀w':World,w.heap.size<=w'.heap.size->v7 w w' (.row e (bh L)::zs.map fun a=>.pv (.im a)) [.row (bh L')] (#[D]++zs.toArray):=fun w' hs=>Oq hs (fun g hg=>⟨(hown.lt g (by rw[fG (dQ hown).choose_spec.choose_spec];exact hg)).2,Md g hg⟩);rcases hown.2 with⟨q1,q2⟩ | ⟨g,cap,I,q1,q2,q3,q4,q5,q6,q7⟩
 ·have Kk:L=[]:=cI (by rw[<-O];exact q2);subst q1;refine (W Kk w).mono fun e' w' ⟨he,hw⟩=>?_;subst hw;refine⟨.tuple #[],S,he,Fr.refl _ _,fun _ h=>h,hS,fun b hb=>.inl hb,⟨#[],rfl,rfl,by simp⟩,tail _ ⟨?_,Y⟩,ZI _ (aG _),fun g h=>by cases h⟩;have W5:L'=[]:=cI (by rw[hlen,Kk];rfl);subst W5;exact⟨i,[],hi,J,Ft _ _ _ _,by simp[bh],by simp,by simp[bh]⟩
 subst q1;have Ot:g<w.heap.size:=(cL.1 q3).1;have hFl:L'.flatten.toArray.size=L.length*i.size:=by rw[lS,kO Z,hlen,R]
 have nP:L.length*i.size<=I.size:=by rw[q6];exact cq _ (by rw[<-O];exact q4)
 have hh:=h S w g cap hE Ot (by rw[<-O];exact q4) fun j v U=>by
  have yp:j<L.length*i.size:=by have:=aC U;rw[kO hL]at this;rw[R];exact this
  have:I[j]?=some v:=by
   rw[<-hx,<-q7]at U;rw[dM]at U;split at U
   ·simpa using U
   cases U
  exact⟨by rw[cell_of_row w g j I e (0,0) q3];exact this,by simp[World.frozen?,q3]⟩
 rw[<-O]at hh;refine hh.mono fun e' w' ⟨he,n,os,hw⟩=>?_;subst hw;obtain⟨p1,p2,p3,p4,p5⟩:=B4 w g n L'.flatten.toArray os;obtain⟨c1,c2⟩:=xd L'.flatten.toArray I (by omega);have qG:(sT w g n L'.flatten.toArray os).heap[g]?=some (.cells (Sort.putCells id 0 L'.flatten.toArray I) e (0,0)):=by rw[p5 g Ot,ae rfl,q3];rfl
 refine⟨.tuple #[],S,he,⟨p1,p2,p3,p4,fun k hk hn=>?_⟩,fun _ h=>h,fun b hb=>cB (hS b hb) p4,fun b hb=>.inl hb,⟨#[],rfl,rfl,by simp⟩,tail _ ⟨?_,Y⟩,ZI _ p4,fun g h=>by cases h⟩
 ·rw[p5 k hk,aa];intro e;subst e;exact hn (Md k rfl)
 refine⟨i,L'.flatten,hi,J,⟨by rw[Ge,<-hlen,R];exact kO Z,.inr ⟨g,cap,_,by rw[Ge,O],ak _,qG,by rw[Ge,<-O];exact q4,q5,by rw[c1];exact q6,?_⟩⟩,by rw[R];exact My Z,fun u hu=>?_,Ez (by rw[R];exact Z)⟩
 ·rw[Ge,<-hFl];exact c2
 obtain⟨r,Wv,oP⟩:=List.mem_flatten.1 hu;exact h1 r Wv u oP
theorem KS{C:Ctx}(hC:bP C){f:FuncId}(e:TypeId)(W:TI)(hT:C.T e=some W)(L4:0<W.size)(zs:List Value)(L L':List (List Value))(m:Nat)(hm:m<=L.length)(hL:∀r∈L,r.length=W.size)(T1:∀r∈L',r.length=W.size)(hlen:L'.length=L.length)
  (h1:∀r∈L',∀v∈r,v.oneCell'=true) (hf:AW C f)
  (Y:L=[]->∀w,Calls C.P f (#[.slice none 0 0]++zs.toArray) w fun e' w'=>e'=.returned (.slice none 0 0)/\w'=w)
  (h:∀S w cF cap,C.E S w->cF<w.heap.size->L.length<=cap->(∀j v,L.flatten[j]?=some v->w.cell? ⟨cF,j,none⟩=some v/\w.frozen? ⟨cF,j,none⟩=false)->
   Calls C.P f (#[.slice (some ⟨cF,0,none⟩) L.length cap]++zs.toArray) w fun e' w'=>e'=.returned (.slice (some ⟨cF,0,none⟩) m cap)/\∃n os,w'=sT w cF n L'.flatten.toArray os):
  ai C f (.row e (bh L)::zs.map fun a=>.pv (.im a)) (.own e (bh (L'.take m))) [.gone]:=by
 refine⟨hf,fun S w vs hE hS hl hr _=>?_⟩;obtain⟨D,vr,rfl⟩:∃D vr,vs=#[D]++vr:=by
  obtain⟨l⟩:=vs;cases l with
  | nil=>simp at hl
  | cons D l=>exact⟨D,⟨l⟩,by simp⟩
 have hvr:vr=zs.toArray:=AX (S:=S) (w:=w) (P:=C.P) (by simp at hl ⊢;omega) fun j x v hx hv=>hr (j+1) x v (by simpa using hx) (by rw[A3 (by simp)];simpa using hv);subst hvr;have aw:aH C.P w (aO S w) e (bh L) D/\∀g,cF D=some g->¬S g:=hr 0 _ D rfl (by simp);obtain⟨⟨i,xs,hi,J,hown,hkr,kE,R⟩,hnS⟩:=aw;obtain⟨info,z,g1,U,_⟩:=hC.jw e W hT;rw[hi]at g1;injection g1 with g1;subst g1;have N:(bh L).length=L.length:=au ..;have Ge:(bh L').length=L.length:=by rw[<-hlen];exact au ..
 have hx:xs=L.flatten:=Ey (P:=C.P) (k:=i.size) (by rw[U];exact hL) (by rw[<-N];exact hown.1) R;have Md:∀g,cF D=some g->Mv w (.row e (bh L)::zs.map fun a=>.pv (.im a)) (#[D]++zs.toArray) g:=fun g Z=>⟨0,_,D,rfl,by simp,rfl,.inl Z⟩;have tail:∀w':World,fq S w' C.P (.row e (bh L)::zs.map fun a=>.pv (.im a)) [.gone] (#[D]++zs.toArray).toList:=fun w'=>by
  simp only[wi];exact⟨trivial,FQ zs⟩
 have Q8:∀(w':World) (i g:Nat),¬dA w' (.row e (bh L)::zs.map fun a=>.pv (.im a)) [.gone] (#[D]++zs.toArray).toList i g:=fun w' i g hk=>by
  simp only[wi]at hk;cases i with
  | zero=>cases hk.1
  | succ i=>exact wG zs i g hk
 have ZI:∀w':World,v7 w w' (.row e (bh L)::zs.map fun a=>.pv (.im a)) [.gone] (#[D]++zs.toArray):=fun w'=>⟨fun i g h=>(Q8 w' i g h).elim,fun i j g h=>(Q8 w' i g h).elim⟩;have ZJ:bh (L'.take m)=(bh L').take m:=by unfold bh;rw[Mu]
 rcases hown.2 with⟨q1,q2⟩ | ⟨g,cap,I,q1,q2,q3,q4,q5,q6,q7⟩
 ·have Kk:L=[]:=cI (by rw[<-N];exact q2);subst q1;refine (Y Kk w).mono fun e' w' ⟨he,hw⟩=>?_;subst hw;have W5:L'=[]:=cI (by rw[hlen,Kk];rfl);subst W5;refine⟨.slice none 0 0,S,he,Fr.refl _ _,fun _ h=>h,hS,fun b hb=>.inl hb,⟨?_,fun g Z=>by cases Z⟩,tail _,ZI _,fun g _ Z=>by cases aI rfl Z⟩;rw[List.take_nil];exact⟨i,[],hi,J,Ft _ _ _ _,by simp[bh],by simp,by simp[bh]⟩
 subst q1;have Ot:g<w.heap.size:=(cL.1 q3).1;have hFl:L'.flatten.toArray.size=L.length*i.size:=by rw[lS,kO T1,hlen,U]
 have nP:L.length*i.size<=I.size:=by rw[q6];exact cq _ (by rw[<-N];exact q4)
 have hh:=h S w g cap hE Ot (by rw[<-N];exact q4) fun j v V=>by
  have yp:j<L.length*i.size:=by have:=aC V;rw[kO hL]at this;rw[U];exact this
  have:I[j]?=some v:=by
   rw[<-hx,<-q7]at V;rw[dM]at V;split at V
   ·simpa using V
   cases V
  exact⟨by rw[cell_of_row w g j I e (0,0) q3];exact this,by simp[World.frozen?,q3]⟩
 rw[<-N]at hh;refine hh.mono fun e' w' ⟨he,n,os,hw⟩=>?_;subst hw;obtain⟨p1,p2,p3,p4,p5⟩:=B4 w g n L'.flatten.toArray os;obtain⟨c1,c2⟩:=xd L'.flatten.toArray I (by omega);have O:(sT w g n L'.flatten.toArray os).heap[g]?=some (.cells (Sort.putCells id 0 L'.flatten.toArray I) e (0,0)):=by rw[p5 g Ot,ae rfl,q3];rfl
 have ZK:aH C.P (sT w g n L'.flatten.toArray os) (aO S (sT w g n L'.flatten.toArray os)) e (bh L') (.slice (some ⟨g,0,none⟩) (bh L).length cap):=by
  refine⟨i,L'.flatten,hi,J,⟨by rw[Ge,<-hlen,U];exact kO T1,.inr ⟨g,cap,_,by rw[Ge,N],ak _,O,by rw[Ge,<-N];exact q4,q5,by rw[c1];exact q6,?_⟩⟩,by rw[U];exact My T1,fun u hu=>?_,Ez (by rw[U];exact T1)⟩
  ·rw[Ge,<-hFl];exact c2
  obtain⟨r,Wv,oP⟩:=List.mem_flatten.1 hu;exact h1 r Wv u oP
 refine⟨_,S,he,⟨p1,p2,p3,p4,fun k hk hn=>?_⟩,fun _ h=>h,fun b hb=>cB (hS b hb) p4,fun b hb=>.inl hb,⟨?_,fun g' O=>hnS g' O⟩,tail _,ZI _,fun g' _ O=>⟨?_,.inr (Md g' (aI rfl O)),fun i=>Q8 _ i g'⟩⟩
 ·rw[p5 k hk,aa];intro e;subst e;exact hn (Md k rfl)
 ·rw[ZJ];exact aH.front ZK rfl (by rw[N];exact hm) rfl
 have O:=aI rfl O;have:g=g':=by injection O
 rw[<-this];exact cB Ot p4
end Go.AM
namespace Go.AM
open Go.RowKit
end Go.AM
namespace Go.AM
open Go.RowKit Go.ChangeShapes
section
variable {H:Type} {enc:TypeId×Value->H} {P:Program} {w:World} {S:Nat->Prop}
def Mz(enc:TypeId×Value->H)(P:Program)(w:World)(S:Nat->Prop)(t:TypeId)(k:Nat)(Q:List PV->DataW H->Prop):Prop:=
 ∀n cs x,DataW.trod enc P w 0 (fun _=>true) true n t cs=some x->∃xs,xs.length=k/\cs.length=k/\(∀(i:Nat) c v,xs[i]?=some c->cs[i]?=some v->aO S w c v/\v.oneCell'=true)/\Q xs x.1
theorem one_cell{c:PV}{u:Value}(h:aO S w c u/\u.oneCell'=true):∀(i:Nat) I v,[c][i]?=some I->[u][i]?=some v->aO S w I v/\v.oneCell'=true:=fun i I v z D=>by
 match i,z,D with
 | 0,z,D=>cases z;cases D;exact h
 | n+1,z,D=>cases z
theorem T2{t:TypeId}(D:P.underlying t=some (.int .i64)):Mz enc P w S t 1 fun xs d=>∃n:Int,xs=[.im (.int .i64 n)]/\d=.lit (.int .i64 n):=fun n cs x h=>by
 obtain⟨z,rfl,rfl,_⟩:=DataW.trod_int D h;exact⟨[.im (.int .i64 z)],rfl,rfl,one_cell ⟨.im _,rfl⟩,z,rfl,rfl⟩
theorem T3{t:TypeId}(z:P.underlying t=some .string):Mz enc P w S t 1 fun xs d=>∃s:ByteArray,xs=[.im (.string s)]/\d=.lit (.string s.data.toList):=fun n cs x h=>by
 obtain⟨s,rfl,rfl,_⟩:=DataW.trod_string z h;exact⟨[.im (.string s)],rfl,rfl,one_cell ⟨.im _,rfl⟩,s,rfl,rfl⟩
theorem MA{a:Addr}{v:Value}(h:w.cell? a=some v):a.spot=none/\a.block<w.heap.size:=by
 unfold World.cell? at h;split at h
 ·rename_i c _ _ z;refine⟨?_,?_⟩
  ·cases D:a.spot with
   | none=>rfl
   | some s=>rw[D]at h;cases h
  rcases uc a.block w.heap.size with h' | h'
  ·exact h'
  rw[A4 h']at z;cases z
 cases h
variable {k:Nat} {Q:List PV->DataW H->Prop}
theorem Ou{t e:TypeId}(ht:P.underlying t=some (.slice e))(hc:P.cellsOf e=k)(hk:0<k)(hS:∀b,b<w.heap.size->S b)(he:Mz enc P w S e k Q):
  Mz enc P w S t 1 fun xs d=>∃(es:List (List PV)) (ds sp:List (DataW H)),xs=[.sl es]/\es.length=ds.length/\(d=.nil/\ds=[]\/d=.slice ds sp)/\∀(i:Nat) x y,es[i]?=some x->ds[i]?=some y->Q x y:=fun n cs x h=>by
 rcases Go.Deep.open_slice ht h with⟨rfl,rfl⟩ | ⟨a,len,cap,m,n,D,Pl,rfl,hb,hl,hm,P_,rfl,Z⟩
 ·exact⟨[.sl []],rfl,rfl,one_cell ⟨.nil _ _,rfl⟩,[],[],[],rfl,rfl,.inl ⟨rfl,rfl⟩,fun i x y h=>by cases h⟩
 have Yk:len<=m:=by rw[P_];split<;>omega
 rcases wZ len with h0 | V
 ·subst h0;exact⟨[.sl []],rfl,rfl,one_cell ⟨.nil _ _,rfl⟩,[],[],_,rfl,rfl,.inr rfl,fun i x y h=>by cases h⟩
 rw[hc]at Z;have W:∀i,i<len->∃p:List PV×List Value,p.1.length=k/\p.2.length=k/\(∀j,j<k->w.cell? ((a.add (i*k)).add j)=p.2[j]?)/\(∀(j:Nat) c v,p.1[j]?=some c->p.2[j]?=some v->aO S w c v/\v.oneCell'=true)/\Q p.1 (D i):=fun i hi=>by
  obtain⟨oM,J,z⟩:=Z i (by omega);obtain⟨_,hlen,R⟩:=World.cells?_some J;obtain⟨xs,l1,l2,l3,l4⟩:=he _ _ _ z;exact⟨(xs,oM),l1,l2,R,l3,l4⟩
 obtain⟨F,N⟩:=Ga (α:=List PV×List Value) W;have U:∀(i:Nat) e,((List.range len).map fun i=>(F i).1)[i]?=some e->i<len/\e=(F i).1:=fun i e h=>by
  rw[aD,aV]at h;obtain⟨j,O,rfl⟩:=h;obtain⟨J,z⟩:=az.1 O;rw[List.getElem_range]at z;subst z;exact⟨by simpa using J,rfl⟩
 have I:∀i j,i<len->j<k->w.cell? ((a.add (i*k)).add j)=some (((F i).2[j]?).getD .nilIface):=fun i j hi O=>by
  obtain⟨_,l2,h3,_⟩:=N i hi;rw[h3 j O,aW (by omega)];rfl
 have hz:=MA (I 0 0 V hk);obtain⟨b,off,spot⟩:=a;have Bv:spot=none:=by simpa [Addr.add] using hz.1
 subst Bv;have W6:b<w.heap.size:=by simpa [Addr.add] using hz.2
 have aw:∀i j,((⟨b,off,none⟩:Addr).add (i*k)).add j=⟨b,off+i*k+j,none⟩:=fun i j=>by
  unfold Addr.add;by_cases J:i*k=0
  ·rw[ae J,J];by_cases z:j=0
   ·rw[ae z,z];rfl
   rw[aa z];rfl
  rw[aa J];by_cases z:j=0
  ·rw[ae z,z];rfl
  rw[aa z]
 refine⟨[.sl ((List.range len).map fun i=>(F i).1)],rfl,rfl,one_cell ⟨?_,rfl⟩,(List.range len).map fun i=>(F i).1,(List.range len).map D,_,rfl,by simp,.inr rfl,fun i x y J z=>?_⟩
 ·have hlen:((List.range len).map fun i=>(F i).1).length=len:=by simp
  have:=aO.sl (S:=S) (w:=w) ((List.range len).map fun i=>(F i).1) k b off cap (fun i j=>((F i).2[j]?).getD .nilIface) (by rw[hlen];exact hl) (hS b W6)
   (fun e TH=>by obtain⟨i,hi,rfl⟩:=aZ.1 TH;exact (N i (gG.1 hi)).1)
   (fun i e j x J z=>by
    obtain⟨hi,rfl⟩:=U i e J;have O:j<k:=by rw[<-(N i hi).1];exact (az.1 z).1
    have Y:(F i).2[j]?=some (((F i).2[j]?).getD .nilIface):=by rw[aW (by rw[(N i hi).2.1];exact O)];rfl
    exact⟨by rw[<-aw];exact I i j hi O,((N i hi).2.2.2.1 j x _ z Y).2⟩)
   (fun i e j x J z=>by
    obtain⟨hi,rfl⟩:=U i e J;have O:j<k:=by rw[<-(N i hi).1];exact (az.1 z).1
    have Y:(F i).2[j]?=some (((F i).2[j]?).getD .nilIface):=by rw[aW (by rw[(N i hi).2.1];exact O)];rfl
    exact ((N i hi).2.2.2.1 j x _ z Y).1)
  rw[hlen]at this;exact this
 obtain⟨hi,rfl⟩:=U i x J;rw[aD,fX hi]at z;cases z;exact (N i hi).2.2.2.2
instance:Inhabited PV:=⟨.sl []⟩
theorem oy{t:TypeId}{z:Array Field}(Y:P.underlying t=some (.struct z))(Z:∀(i:Nat) (f:Field),z[i]?=some f->f.offset=i/\P.cellsOf f.type=1)(hc:P.cellsOf t=z.size)(Qs:Nat->List PV->DataW H->Prop)
  (hf:∀(i:Nat) (f:Field),z[i]?=some f->Mz enc P w S f.type 1 (Qs i)):
  Mz enc P w S t z.size fun xs d=>∃ds:List (DataW H),d=.agg ds/\ds.length=z.size/\∀(i:Nat) x y,xs[i]?=some x->ds[i]?=some y->Qs i [x] y:=fun n cs x h=>by
 obtain⟨ys,m,_,rfl,hl,hlen,hy⟩:=DataW.trod_struct Y h;rw[hc]at hl;have I:∀i,i<z.size->∃c:PV,∃y v,ys[i]?=some y/\cs[i]?=some v/\aO S w c v/\v.oneCell'=true/\Qs i [c] y.1:=fun i hi=>by
  have N:z[i]?=some z[i]:=cC hi;obtain⟨ho,D⟩:=Z i _ N;have O:=hy i _ N;rw[ho,D]at O;have U:ys[i]?=some ys[i]:=aW (by omega);rw[U]at O;obtain⟨xs,l1,l2,R,l4⟩:=hf i _ N _ _ _ O;have nP:cs[i]?=some cs[i]:=aW (by omega);have hd:(cs.drop i).take 1=[cs[i]]:=by
   rw[fI (by omega)];rfl
  rw[hd]at R;obtain⟨c,rfl⟩:∃c,xs=[c]:=by
   match xs,l1 with
   | [c],_=>exact⟨c,rfl⟩
  exact⟨c,ys[i],cs[i],U,nP,(R 0 _ _ rfl rfl).1,(R 0 _ _ rfl rfl).2,l4⟩
 obtain⟨F,V⟩:=Ga (α:=PV) I;refine⟨(List.range z.size).map F,by simp,hl,fun i c v D J=>?_,ys.map (·.1),rfl,by rw[au,hlen],fun i x y D J=>?_⟩
 ·have hi:i<z.size:=by have:=(az.1 D).1;simpa using this
  rw[aD,fX hi]at D;cases D;obtain⟨y,v',_,W,e3,e4,_⟩:=V i hi;rw[J]at W;cases W;exact⟨e3,e4⟩
 have hi:i<z.size:=by have:=(az.1 D).1;simpa using this
 rw[aD,fX hi]at D;cases D;obtain⟨y',v',e1,_,_,_,e5⟩:=V i hi;rw[aD,e1]at J;cases J;exact e5
theorem T4{t:TypeId}(I:Mz enc P w S t k Q){vs:Array Value}{d:DataW H}{ps:List MemPlace}(h:DataW.Trod enc P w 0 (fun _=>true) true t (.agg vs) d ps):
  ∃xs,aO S w (.ag xs) (.agg vs)/\xs.length=k/\Q xs d:=by
 obtain⟨n,J⟩:=h;obtain⟨xs,l1,l2,D,N⟩:=I _ _ _ J;have l2:vs.toList.length=k:=l2;have z:∀(i:Nat) (v:Value),vs[i]?=some v->vs.toList[i]?=some v:=fun i v h=>by rw[kC];exact h
 refine⟨xs,.ag xs vs (by rw[l1,<-l2];simp) (fun u O=>?_) fun i c v R U=>(D i c v R (z i v U)).1,l1,N⟩;obtain⟨i,hi⟩:=ca.1 O;have V:i<xs.length:=by have:=(az.1 hi).1;omega
 exact (D i _ u (aW V) hi).2
theorem B5{t:TypeId}{z:Array Field}{r:Reach}{b0:Nat}(D:P.underlying t=some (.struct z))(I:Mz enc P w S t k Q){v:Value}{d:DataW H}{ps:List MemPlace}(J:Value.okWide P w r b0 t v)(h:DataW.Trod enc P w 0 (fun _=>true) true t v d ps):
  ∃xs,aO S w (.ag xs) v/\Q xs d:=by
 obtain⟨cs,rfl,_⟩:=Go.WideShapes.okWide_struct D J;obtain⟨xs,N,_,O⟩:=T4 I h;exact⟨xs,N,O⟩
theorem ZM(w:World)(xs:List PV)(vs:Array Value)(g:Nat):¬Mv w (xs.map Arg.pv) vs g:=by
 rintro⟨j,y,v,z,_,D,_⟩;rw[aD,aV]at z;obtain⟨x,_,rfl⟩:=z;cases D
def T5(S:Nat->Prop)(w:World)(xs:List PV)(vs:List Value):Prop:=xs.length=vs.length/\∀(j:Nat) x v,xs[j]?=some x->vs[j]?=some v->aO S w x v
theorem Q9:T5 S w [] []:=⟨rfl,fun j x v h=>by cases h⟩
theorem ue{x:PV}{v:Value}{xs:List PV}{vs:List Value}(h:aO S w x v)(I:T5 S w xs vs):T5 S w (x::xs) (v::vs):=⟨by rw[bN,bN,I.1],fun j J N z D=>by
 match j,z,D with
 | 0,z,D=>cases z;cases D;exact h
 | j+1,z,D=>exact I.2 j J N z D⟩
theorem W7{C:Ctx}{f:FuncId}{xs:List PV}{y:Value}(h:ai C f (xs.map Arg.pv) (.p (.im y)) []){vs:Array Value}(N:C.E (fun b=>b<w.heap.size) w)(J:T5 (fun b=>b<w.heap.size) w xs vs.toList):
  Calls C.P f vs w fun e w'=>e=.returned y/\Below w.heap.size w w':=by
 refine (h.2 (fun b=>b<w.heap.size) w vs N (fun _ h=>h) (by rw[au,J.1];simp) (fun j x v z O=>?_) (fun i j x y v u g z _ _ _ R=>?_)).mono ?_
 ·rw[aD,aV]at z;obtain⟨x,U,rfl⟩:=z;exact J.2 j x v U (by rw[kC];exact O)
 ·rw[aD,aV]at z;obtain⟨x,_,rfl⟩:=z;cases R
 rintro e w' ⟨v,S',rfl,D,_,_,_,I,_⟩;have I:aO S' w' (.im y) v:=I;cases I;exact⟨rfl,D.os,D.tape,D.output,D.size,fun k hk=>D.block k hk (ZM _ _ _ _)⟩
end
end Go.AM
namespace Go.Proofs.YtihgjolmpjjblaaGreatDoor
namespace M
open Go.AM Go.RowKit Go.Lib Go.Sort
open Reg (aB cw aR)
instance:Inhabited aB:=⟨⟨0,0,0,0⟩⟩
def cl(n:Int):Int:=max (-4611686018427387904) (min n 4611686018427387903)
theorem pA(n:Int):-4611686018427387904<=cl n/\cl n<=4611686018427387903:=by unfold cl;omega
theorem u4{n:Int}(h:-4611686018427387904<=n/\n<=4611686018427387903):cl n=n:=by unfold cl;omega
def Bd(r:aB):Prop:=(-4611686018427387904<=r.x0/\r.x0<=4611686018427387903)/\(-4611686018427387904<=r.y0/\r.y0<=4611686018427387903)/\(-4611686018427387904<=r.x1/\r.x1<=4611686018427387903)/\(-4611686018427387904<=r.y1/\r.y1<=4611686018427387903)
def iA(r:aB):List Value:=[.int .i64 (cl r.x0),.int .i64 (cl r.y0),.int .i64 (cl r.x1),.int .i64 (cl r.y1)]
theorem T6{r:aB}(h:Bd r):(iA r).map PV.im=rc r:=by
 obtain⟨z,D,I,J⟩:=h;simp only[iA,u4 z,u4 D,u4 I,u4 J];rfl
theorem zR{l:List aB}(h:∀r∈l,Bd r):bh (l.map iA)=l.map rc:=by
 unfold bh;rw[nq];exact lZ fun r z=>T6 (h r z)
theorem xe{l:List aB}:∀r∈l.map iA,r.length=4:=by
 intro r z;obtain⟨x,_,rfl⟩:=aZ.1 z;rfl
theorem Ir(d:Array aB):flatK iA 4 d=(d.toList.map iA).flatten.toArray:=by
 apply Gb;intro q;have hlen:(d.toList.map iA).flatten.length=d.size*4:=by rw[kO (k:=4) xe];simp
 by_cases I:q<d.size*4
 ·have z:q / 4<d.size:=by omega
  have J:q % 4<4:=na _ (by omega);have e:q / 4*4+q % 4=q:=by omega
  have N:=get_flatK iA 4 d q I;have hsz:(flatK iA 4 d).size=d.size*4:=by simp
  rw[cC (by omega),<-getElem!_pos (flatK iA 4 d) q (by omega),N];have O:(d.toList.map iA)[q / 4]?=some (iA d[q / 4]!):=by
   rw[aD,kC,cC z,fB,getElem!_pos d _ z]
  have R:(iA d[q / 4]!)[q % 4]?=some ((iA d[q / 4]!)[q % 4]!):=by
   have D:q % 4<(iA d[q / 4]!).length:=J;rw[aW D,getElem!_pos (iA d[q / 4]!) (q % 4) D]
  have:=A5 (k:=4) xe O R;rw[e]at this;simpa using this.symm
 rw[A4 (by simp;omega),A4 (by simp only[lS];omega)]
def Q_(a b:aB):Int:=cl a.y0-cl b.y0
def Dn(a b:aB):Int:=cl a.x0-cl b.x0
theorem ltY(a b:aB):ltOf Q_ a b=decide (cl a.y0<cl b.y0):=by unfold ltOf Q_;congr 1;exact propext ⟨fun h=>by omega,fun h=>by omega⟩
theorem ltX(a b:aB):ltOf Dn a b=decide (cl a.x0<cl b.x0):=by unfold ltOf Dn;congr 1;exact propext ⟨fun h=>by omega,fun h=>by omega⟩
theorem ZN:SWO (ltOf Q_) where
 irrefl x:=by rw[ltY];simp
 trans x y z h1 h2:=by rw[ltY]at *;simp at *;omega
 ntrans x y z h1 h2:=by rw[ltY]at *;simp at *;omega
theorem T7:SWO (ltOf Dn) where
 irrefl x:=by rw[ltX];simp
 trans x y z h1 h2:=by rw[ltX]at *;simp at *;omega
 ntrans x y z h1 h2:=by rw[ltX]at *;simp at *;omega
theorem Ra(x y:aB)(W:World):Calls Tryz.prog 170 #[.agg (iA x).toArray,.agg (iA y).toArray] W fun e w'=>e=.returned (.int .i64 (Q_ x y))/\∃q z,w'=grow (W.drewN q) z:=by
 have h1:=pA x.y0;have h2:=pA y.y0;unfold iA Q_;generalize cl x.x0=a1 at *;generalize cl x.y0=a2 at *;generalize cl x.x1=a3 at *;generalize cl x.y1=a4 at *;generalize cl y.x0=b1 at *;generalize cl y.y0=b2 at *;generalize cl y.x1=b3 at *;generalize cl y.y1=b4 at *
 go_enter Tryz.func170,Tryz.ntmps170
 go_wp2
 go_ret
 exact⟨rfl,0,_,by rw[alloc_eq_grow,alloc_eq_grow,grow_grow];rfl⟩
theorem Rb(x y:aB)(W:World):Calls Tryz.prog 203 #[.agg (iA x).toArray,.agg (iA y).toArray] W fun e w'=>e=.returned (.int .i64 (Dn x y))/\∃q z,w'=grow (W.drewN q) z:=by
 have h1:=pA x.x0;have h2:=pA y.x0;unfold iA Dn;generalize cl x.x0=a1 at *;generalize cl x.y0=a2 at *;generalize cl x.x1=a3 at *;generalize cl x.y1=a4 at *;generalize cl y.x0=b1 at *;generalize cl y.y0=b2 at *;generalize cl y.x1=b3 at *;generalize cl y.y1=b4 at *
 go_enter Tryz.func203,Tryz.ntmps203
 go_wp2
 go_ret
 exact⟨rfl,0,_,by rw[alloc_eq_grow,alloc_eq_grow,grow_grow];rfl⟩
def eO(cf:aB->aB->Int)(l:List aB):List aB:=(pdq (ltOf cf) l.toArray 0 l.toArray.size (Lib.bitLen l.toArray.size) true true).toList
theorem nA(z:aB->aB->Int)(N:SWO (ltOf z))(l:List aB):(eO z l).Perm l/\(eO z l).Pairwise fun a b=>ltOf z b a=false:=by
 obtain⟨O,R⟩:=pdq_sorts (ltOf z) N l.toArray 0 l.toArray.size (Lib.bitLen l.toArray.size) true true (ak _) (aG _) (Or.inl rfl);obtain⟨U,_,I⟩:=O;have hp:(eO z l).Perm l:=by
  have J:∀d:Array aB,d.size=l.toArray.size->(d.extract 0 l.toArray.size).toList=d.toList:=fun d h=>by rw[<-h];simp
  rw[J _ U,J _ rfl]at I;unfold eO;simpa using I
 refine⟨hp,?_⟩;rw[cS];intro i j hi D V;have hs:(eO z l).length=l.toArray.size:=by rw[hp.length_eq];simp
 have:=R i j (ak _) V (by omega);unfold eO at hi D ⊢;simp only[lV]at hi D;rw[getElem!_pos _ j D,getElem!_pos _ i hi]at this;simpa using this
theorem Is{l:List aB}(h:∀r∈l,Bd r):(eO Q_ l).Perm l/\(eO Q_ l).Pairwise fun a b=>a.y0<=b.y0:=by
 obtain⟨z,I⟩:=nA Q_ ZN l;refine⟨z,I.imp_of_mem fun {a b} ha hb D=>?_⟩;rw[ltY,u4 (h b (z.mem_iff.1 hb)).2.1,u4 (h a (z.mem_iff.1 ha)).2.1]at D;simpa using D
theorem pB{l:List aB}(h:∀r∈l,Bd r):(eO Dn l).Perm l/\(eO Dn l).Pairwise fun a b=>a.x0<=b.x0:=by
 obtain⟨z,I⟩:=nA Dn T7 l;refine⟨z,I.imp_of_mem fun {a b} ha hb D=>?_⟩;rw[ltX,u4 (h b (z.mem_iff.1 hb)).1,u4 (h a (z.mem_iff.1 ha)).1]at D;simpa using D
theorem B6(z:aB->aB->Int)(V:SWO (ltOf z))(g:Nat)(Z:∀args w,(callFunc g args).run Tryz.prog w=.ok (.enter g args) w)
  (jx:∀(x y:aB) (W:World),Calls Tryz.prog g #[.agg (iA x).toArray,.agg (iA y).toArray] W fun e w'=>e=.returned (.int .i64 (z x y))/\∃q Ov,w'=grow (W.drewN q) Ov)
  (l:List aB) (hl:∀r∈l,Bd r) (hN:l.length<4611686018427387904):ai C 169 [.row 93 (l.map rc),.pv (.im (.func (.func g) #[] #[]))] (.tu []) [.row ((eO z l).map rc)]:=by
 obtain⟨hp,_⟩:=nA z V l;have Rc:∀r∈eO z l,Bd r:=fun r O=>hl r (hp.mem_iff.1 O);have:=vF hC (f:=169) 93 _ rfl (by decide) [.func (.func g) #[] #[]] (l.map iA) ((eO z l).map iA) xe xe (by rw[au,au,hp.length_eq])
  (fun r O v D=>by
   obtain⟨x,_,rfl⟩:=aZ.1 O;simp only[iA,aq,Gc,or_false]at D;rcases D with rfl | rfl | rfl | rfl<;>rfl)
  ⟨_,Tryz.func169,rfl,rfl⟩
  (fun _ w=>AnyF.slices_SortFunc_none Tryz.laysSortRect none 0 (.func (.func g) #[] #[]) w)
  (fun S w cF cap hE J _ I=>by
   have hH:HoldsK iA 4 w cF 0 l.toArray:=by
    unfold HoldsK;intro j N;rw[Ir]at N ⊢;simp only[lS]at N;have D:(l.map iA).flatten[j]?=some ((l.map iA).flatten[j]'N):=aW N;obtain⟨R,U⟩:=I j _ D;rw[bp];refine⟨?_,U⟩;rw[R];congr 1;rw[getElem!_pos _ j (by simpa using N)];simp
   have Y:=AnyQ.slices_SortFunc_eq Tryz.laysSortRect 4 (fun w=>(hC.jw 93 _ rfl).isAgg w) (fun w=>(hC.jw 93 _ rfl).sizeOf w) iA (fun _=>rfl) (fun x v D=>by
    simp only[iA,aq,Gc,or_false]at D;rcases D with rfl | rfl | rfl | rfl<;>rfl) z V g #[] cF 0 cap l.toArray w Z (fun _ _ _ _ x y=>jx x y _) hH J (by simpa using hN)
   have e:l.toArray.size=(l.map iA).length:=by simp
   rw[e]at Y;refine Y.mono fun e' w' ⟨R,n,os,U⟩=>⟨R,n,os,?_⟩;rw[U];unfold sortWorldK putRowK sT;rw[Ir,<-e];rfl)
 rw[zR hl,zR Rc]at this;exact this
theorem W8(l:List aB)(hl:∀r∈l,Bd r)(z:l.length<4611686018427387904):ai C 169 [.row 93 (l.map rc),.pv (.im (.func (.func 170) #[] #[]))] (.tu []) [.row ((eO Q_ l).map rc)]:=
 B6 Q_ ZN _ (enters_of Tryz.func170 (by kernel_rfl) rfl) Ra l hl z
theorem W9(l:List aB)(hl:∀r∈l,Bd r)(z:l.length<4611686018427387904):ai C 169 [.row 93 (l.map rc),.pv (.im (.func (.func 203) #[] #[]))] (.tu []) [.row ((eO Dn l).map rc)]:=
 B6 Dn T7 _ (enters_of Tryz.func203 (by kernel_rfl) rfl) Rb l hl z
theorem Gf(d:Array Int)(J:∀i j,i<=j->j<d.size->d[i]!<=d[j]!):∀m,m<=d.size->Reg.ct (compactUpTo d m)/\(∀x,x∈compactUpTo d m↔∃j,j<m/\d[j]! = x):=by
 intro m
 induction m with
 | zero=>intro _;exact⟨by simp[compactUpTo,Reg.ct],by simp[compactUpTo]⟩
 | succ m ih=>
  intro hm;obtain⟨N,D⟩:=ih (by omega);rw[compactUpTo_succ];cases hk:keeps d m with
  | true=>
   have I:m=0\/d[m]!≠d[m-1]!:=by simpa [keeps] using hk
   have O:∀x∈compactUpTo d m,x<d[m]!:=by
    intro x R;obtain⟨j,z,rfl⟩:=(D x).1 R;rcases I with h | h
    ·omega
    have a:=J j (m-1) (by omega) (by omega);have b:=J (m-1) m (by omega) (by omega);omega
   refine⟨?_,fun x=>?_⟩
   ·simp only[ae];exact rm.2 ⟨N,by simp,fun a U b hb=>by simp at hb;subst hb;exact O a U⟩
   simp only[ae,b_,bV,D];constructor
   ·rintro (⟨j,z,rfl⟩ | rfl)
    ·exact⟨j,by omega,rfl⟩
    exact⟨m,by omega,rfl⟩
   rintro⟨j,z,rfl⟩;by_cases e:j=m
   ·exact .inr (by rw[e])
   exact .inl ⟨j,by omega,rfl⟩
  | false=>
   have I:m≠0/\d[m]! = d[m-1]!:=by simpa [keeps] using hk
   simp only[AP,aa,dP,not_false_eq_true];refine⟨N,fun x=>?_⟩;rw[D];constructor
   ·rintro⟨j,z,rfl⟩;exact⟨j,by omega,rfl⟩
   rintro⟨j,z,rfl⟩;by_cases e:j=m
   ·exact⟨m-1,by omega,by rw[e];exact I.2.symm⟩
   exact⟨j,by omega,rfl⟩
theorem u5{zs:List Int}(I:zs.Pairwise (·<=·)):Reg.ct (compact zs)/\∀x,x∈compact zs↔x∈zs:=by
 have D:∀i (h:i<zs.length),zs.toArray[i]! = zs[i]:=fun i h=>by rw[getElem!_pos _ i (by simpa using h)];simp
 obtain⟨J,N⟩:=Gf zs.toArray (fun i j Ma z=>by
  have z:j<zs.length:=by simpa using z
  rw[D i (by omega),D j z];by_cases e:i=j
  ·subst e;omega
  exact cS.1 I i j (by omega) z (by omega)) zs.length (by simp)
 refine⟨J,fun x=>(N x).trans ?_⟩;constructor
 ·rintro⟨j,z,rfl⟩;rw[D j z];exact o5 z
 intro O;obtain⟨j,z,rfl⟩:=E8 O;exact⟨j,z,D j z⟩
def encI(n:Int):List Value:=[.int .i64 n]
theorem xf{l:List Int}:∀r∈l.map encI,r.length=1:=by
 intro r z;obtain⟨x,_,rfl⟩:=aZ.1 z;rfl
theorem rA(l:List Int):bh (l.map encI)=l.map fun n=>[i64 n]:=by
 unfold bh;rw[nq];rfl
theorem yT(l:List Int):(l.map encI).flatten=l.map (Value.int .i64):=by
 induction l with
 | nil=>rfl
 | cons a l ih=>rw[eH,wT,ih];rfl
theorem B7(w:World)(b n:Nat)(l:List Int):putRow (Value.int .i64) (Sort.ahead w n) b 0 l.toArray=putRow id (Sort.ahead w n) b 0 (l.map (Value.int .i64)).toArray:=by
 unfold putRow;refine mapBlock_congr _ _ _ _ fun c _ _ _=>?_;apply Gb;intro k;simp only[putCells,Array.getElem?_mapIdx,lS,au];cases c[k]? with
 | none=>rfl
 | some x=>
  simp only[fB];by_cases h:0<=k/\k<0+l.length
  ·rw[ae h,ae h];congr 1;rw[getElem!_pos _ (k-0) (by simp;omega),getElem!_pos _ (k-0) (by simp;omega)];simp
  rw[aa h,aa h]
theorem B8{w:World}{cF:Nat}{l:List Int}(h:∀j v,(l.map encI).flatten[j]?=some v->w.cell? ⟨cF,j,none⟩=some v/\w.frozen? ⟨cF,j,none⟩=false):Holds (Value.int .i64) w cF 0 l.toArray:=by
 intro j z;have D:j<l.length:=by simpa using z
 rw[yT]at h;obtain⟨I,J⟩:=h j (.int .i64 l[j]) (by rw[aD,aW D];rfl);rw[bp,I];refine⟨?_,J⟩;rw[getElem!_pos _ j z];simp
def pC(l:List Int):List Int:=l.mergeSort fun x y=>decide (x<=y)
theorem EA(l:List Int)(J:l.length<4611686018427387904):ai C 171 [.row 3 (l.map fun n=>[i64 n])] (.tu []) [.row ((pC l).map fun n=>[i64 n])]:=by
 have:=vF hC (f:=171) 3 _ rfl (by decide) [] (l.map encI) ((pC l).map encI) xf xf (by rw[au,au,pC,mc])
  (fun r N v I=>by
   obtain⟨x,_,rfl⟩:=aZ.1 N;simp only[encI,bV]at I;rw[I];rfl)
  ⟨_,Tryz.func171,rfl,rfl⟩
  (fun _ w=>Tryz.slices_Sort_int_none none 0 w)
  (fun S w cF cap hE D _ z=>by
   have O:=Tryz.slices_Sort_int cF 0 cap l w (B8 z) D J;rw[au];refine O.mono fun e' w' ⟨R,n,os,U⟩=>⟨R,n,os,?_⟩;rw[U];unfold sT;rw[yT,<-B7];rfl)
 rw[rA,rA]at this;exact this
theorem xg(l:List Int)(J:l.length<=9223372036854775807):ai C 172 [.row 3 (l.map fun n=>[i64 n])] (.own 3 ((compact l).map fun n=>[i64 n])) [.gone]:=by
 have jx:=compact_length_le l;have:=KS hC (f:=172) 3 _ rfl (by decide) [] (l.map encI) ((compact l++List.replicate (l.length-(compact l).length) 0).map encI) (compact l).length (by rw[au];exact jx) xf xf (by simp;omega)
  (fun r N v D=>by
   obtain⟨x,_,rfl⟩:=aZ.1 N;simp only[encI,bV]at D;rw[D];rfl)
  ⟨_,Tryz.func172,rfl,rfl⟩
  (fun _ w=>Tryz.slices_Compact_int_empty none 0 w)
  (fun S w cF cap hE hblk I z=>by
   rw[au]at I;have O:=Tryz.slices_Compact_int cF 0 cap l w (B8 z) J I;rw[au];refine O.mono fun e' w' ⟨R,n,U⟩=>⟨R,n,#[],?_⟩;rw[U];unfold sT;rw[yT,<-B7,grow_empty])
 rw[<-Mu,rA,rA,List.take_left]at this;exact this
theorem T8(l:List aB):∀r∈l.map rc,r.length=4:=by
 intro r z;obtain⟨x,_,rfl⟩:=aZ.1 z;rfl
theorem It(l:List aB)(z:l.length<=4398046511104):ai C 168 [.pv (aE l)] (.own 93 (l.map rc)) []:=by
 cases l with
 | nil=>
  refine fW hC Tryz.func168 rfl (by kernel_rfl) fun _=>?_;refine⟨?_,?_⟩
  ·exact⟨Z,Y⟩
  exact⟨⟨by simp,by simp,by simp⟩,Z,Z,Y⟩
 | cons a l=>
  have D:=T8 (a::l);have hl:=an (a::l) rc;refine fW hC Tryz.func168 rfl (by kernel_rfl) fun _=>?_;exact⟨⟨D,by simp at z ⊢;omega,by simp at z ⊢;omega⟩,Z,Z,Y⟩
def qo(y:Int)(r:aB):Bool:=decide (r.y1<=y)
theorem MB(r:aB)(ys:List Int)(k:Nat)(y:Int)(z:ys[k]?=some y):ai C 174 [.pv (.ag (rc r)),.pv (.ip [ints ys]),.pv (.ip [i64 k])] (.p (bool (qo y r))) []:=by
 refine fW hC Tryz.func174 rfl (by kernel_rfl) fun _=>?_;refine⟨[i64 y],(idx rfl z),?_,trivial⟩;rfl
theorem Iu(l:List aB)(hN:l.length<=140737488355328)(ys:List Int)(k:Nat)(y:Int)(N:ys[k]?=some y):ai C 187 [.row 93 (l.map rc),.pv (.fn 174 [.ip [ints ys],.ip [i64 k]])] (.p (i64 (eM (qo y) l 0))) [.row (l.map rc)]:=by
 refine fW hC Tryz.func187 rfl (by kernel_rfl) fun _=>?_;have D:=an l rc;refine aP (fun i:Nat=>i<=l.length/\∀x∈l.take i,qo y x=false) (fun i=>[(0,.ow 100000),(1,.p (.fn 174 [.ip [ints ys],.ip [i64 k]])),(7,.p (i64 (l.map rc).length)),(8,.p (i64 i))]) (fun _=>[(100000,.row 93 (l.map rc))]) (fun i=>l.length-i) 0 _ (aA.refl _ _) ⟨ak _,by simp⟩ ⟨Z,Z,Z,Z,Y⟩ ⟨Z,Y⟩ fun i hi t h=>?_;apply iW<;>intro J
 ·rw[D]at J;obtain⟨x,I⟩:=ao (l:=l) (i:=i) (by omega);refine⟨⟨by omega,by rw[D];omega⟩,(rc x),(idx rfl I).2,_,_,(MB x ys k y N),iW ?_ ?_⟩<;>intro z
  ·exact⟨by rw[eU I z hi.2,bp],Z,Y⟩
  exact⟨wO (by omega),(i+1),_,aA.refl _ _,⟨by omega,iu I z hi.2⟩,by omega,⟨Z,Z,Z,Z,Y⟩,⟨Z,Y⟩⟩
 rw[D]at J;have z:=hi.2;rw[cK (by omega)]at z;exact⟨by rw[cT z];rfl,Z,Y⟩
variable {α:Type}
theorem Re{p:α->Bool}:∀{l:List α},l.any p=true->∃i x,l[i]?=some x/\p x=true/\∀z∈l.take i,p z=false:=by
 intro l
 induction l with
 | nil=>intro h;cases h
 | cons y l ih=>
  intro h;cases hy:p y with
  | true=>exact⟨0,y,rfl,hy,by simp⟩
  | false=>
   rw[gK,hy,iq]at h;obtain⟨i,x,I,J,N⟩:=ih h;refine⟨i+1,x,by simpa using I,J,fun z D=>?_⟩;rw[List.take_succ_cons,aq]at D;rcases D with rfl | D
   ·exact hy
   exact N z D
theorem Iv{m:List α}{a:Nat}{x:α}(h:a<m.length):(m.set a x).take (a+1)=m.take a++[x]:=by
 apply kz;intro j;rw[dM,List.getElem?_set];by_cases z:j<a
 ·rw[ae (by omega),aa (by omega),dN (by rw[cE];omega),dM,ae z]
 by_cases D:j=a
 ·subst D;rw[ae (by omega),ae rfl,ae h,du (by rw[cE];omega)];simp[tA (Nat.le_of_lt h)]
 rw[aa (by omega),iR (by simp;omega)]
theorem filter_none{p:α->Bool}{l:List α}(h:∀x∈l,p x=false):l.filter (fun x=>!p x)=l:=List.filter_eq_self.2 fun x z=>by simp[h x z]
theorem sU{p:α->Bool}{l:List α}{i:Nat}{x:α}(z:l[i]?=some x):(l.take (i+1)).filter p=(l.take i).filter p++if p x then [x] else []:=by
 rw[bq z,l_];congr 1;cases h:p x<;>simp[List.filter,h]
theorem Gg(l:List aB)(hN:l.length<=4398046511104)(ys:List Int)(k:Nat)(y:Int)(hy:ys[k]?=some y):ai C 173 [.row 93 (l.map rc),.pv (.fn 174 [.ip [ints ys],.ip [i64 k]])] (.own 93 ((l.filter fun r=>!qo y r).map rc)) [.gone]:=by
 refine fW hC Tryz.func173 rfl (by kernel_rfl) fun _=>?_;have lm:=an l rc;refine⟨_,_,(Iu l (by omega) ys k y hy),?_⟩;by_cases ZO:l.any (qo y)=true
 ·obtain⟨i0,x0,D,J,N⟩:∃i x,l[i]?=some x/\qo y x=true/\∀z∈l.take i,qo y z=false:=Re ZO;rw[eU D J N,bp];have Wr:=(az.1 D).1;refine⟨wO (by omega),?_⟩;refine aP (fun p:Nat×Nat×List aB=>p.1<p.2.1/\p.2.1<=l.length/\p.2.2.length=l.length/\p.2.2.take p.1=(l.take p.2.1).filter (fun r=>!qo y r)/\p.2.2.drop p.2.1=l.drop p.2.1) (fun p=>[(0,.ow 100000),(1,.p (.fn 174 [.ip [ints ys],.ip [i64 k]])),(5,.p (i64 p.1)),(6,.p (i64 p.2.1))]) (fun p=>[(100000,.row 93 (p.2.2.map rc))]) (fun p=>l.length-p.2.1) (i0,i0+1,l) _ (aA.refl _ _) ⟨by simp,by simp only;omega,rfl,?_,rfl⟩ ⟨rfl,rfl,rfl,bI (by simp only;omega),trivial⟩ ⟨Z,Y⟩ fun ⟨a,b,m⟩ hi t h=>?_
  ·simp only;rw[sU D,filter_none N];simp[J]
  simp only at hi;obtain⟨q1,q2,R,U,V⟩:=hi;have I:=an m rc;apply iW<;>intro W<;>try simp only[zB]at W
  ·rw[I,R]at W;obtain⟨x,O⟩:=ao (l:=l) (i:=b) (by omega);have hmx:m[b]?=some x:=by
    have:(m.drop b)[0]?=(l.drop b)[0]?:=by rw[V]
    simpa [O] using this
   refine⟨⟨by simp only;omega,by simp only;rw[I];omega⟩,(rc x),(idx rfl hmx).2,_,_,(MB x ys k y hy),iW ?_ ?_⟩<;>intro h3
   ·obtain⟨z,hz⟩:=ao (l:=m) (i:=a) (by omega);refine⟨⟨by simp only;omega,by simp only;rw[I];omega⟩,(rc z),(idx rfl hz).2,⟨by simp only;omega,by simp only;omega⟩,⟨by simp only;omega,by simp only;omega⟩,(a+1,b+1,m.set a x),_,aA.refl _ _,⟨by simp only;omega,by simp only;omega,by simp only;rw[aQ];exact R,?_,?_⟩,by simp only;omega,⟨rfl,rfl,bI (by simp only;omega),bI (by simp only;omega),trivial⟩,⟨?_,trivial⟩⟩
    ·simp only;rw[Iv (by omega),U,sU O,h3];rfl
    ·simp only;rw[List.drop_set_of_lt (by omega)];have:=af (List.drop 1) V;simpa [Gd] using this
    show AB.row _ ((m.map rc).set a (rc x))=AB.row _ ((m.set a x).map rc);rw[w_]
   refine⟨⟨by simp only;omega,by simp only;omega⟩,(a,b+1,m),_,aA.refl _ _,⟨by simp only;omega,by simp only;omega,R,?_,?_⟩,by simp only;omega,⟨rfl,rfl,rfl,bI (by simp only;omega),trivial⟩,⟨Z,Y⟩⟩
   ·simp only;rw[U,sU O,h3];simp
   have:=af (List.drop 1) V;simpa [Gd] using this
  rw[I,R]at W;refine Or.inl ?_;refine⟨⟨by simp only;omega,by simp only;rw[I];omega,by simp only;omega⟩,⟨by simp only[F0];omega,by simp only[F0];omega⟩,?_⟩;refine Or.inl ?_;have Rf:((((m.map rc).take a++List.replicate ((m.map rc).length-a) [i64 0,i64 0,i64 0,i64 0]++(m.map rc).drop (m.map rc).length).length:Nat):Int)=m.length:=by simp;omega
  refine⟨⟨by omega,by simp only;omega,by simp only[F0];exact Int.le_trans (show (a:Int)<=m.length by omega) (Int.le_of_eq Rf.symm)⟩,?_,Z,Y⟩;simp only[F0];rw[d_,kN (by rw[cE,I];omega),AF,Nat.min_self,<-Mu,U,cK (by omega)]
 have Eb:∀x∈l,qo y x=false:=fun x O=>by
  cases h:qo y x with
  | false=>rfl
  | true=>exact absurd (ee.2 ⟨x,O,h⟩) ZO
 rw[cT Eb];rw[filter_none Eb];exact⟨Z,Z,Y⟩
theorem Gh(a b:Int):∀(s:cw),(s=[]->flat (Reg.dH s a b)=[a,b])/\(∀n,s.length=n+1->∃p,(flat s)[2*n+1]?=some p/\flat (Reg.dH s a b)=if a<=p then (flat s).set (2*n+1) (max p b) else flat s++[a,b]):=by
 intro s
 induction s with
 | nil=>exact⟨fun _=>rfl,fun n h=>by simp at h⟩
 | cons p s ih=>
  refine⟨fun h=>by simp at h,fun n D=>?_⟩;cases s with
  | nil=>
   have:n=0:=by simpa using D.symm
   subst this;refine⟨p.2,rfl,?_⟩;rw[Reg.dH];split<;>rfl
  | cons q s=>
   cases n with
   | zero=>simp at D
   | succ n=>
    obtain⟨z,I,J⟩:=ih.2 n (by simpa using D);refine⟨z,?_,?_⟩
    ·rw[show 2*(n+1)+1=(2*n+1)+1+1 by omega];simpa [flat] using I
    rw[Reg.dH,flat,J,show 2*(n+1)+1=(2*n+1)+1+1 by omega];split
    ·simp[flat]
    simp[flat]
theorem B9(a b:Int):∀(s:cw),(Reg.dH s a b).length<=s.length+1:=by
 intro s
 induction s with
 | nil=>simp[Reg.dH]
 | cons p s ih=>
  cases s with
  | nil=>rw[Reg.dH];split<;>simp
  | cons q s=>rw[Reg.dH];simp only[bN]at ih ⊢;omega
theorem B_(l:List aB):(Reg.dk l).length<=l.length:=by
 suffices H:∀n (m:List aB),m.length=n->(Reg.dk m).length<=m.length from H _ l rfl
 intro n
 induction n with
 | zero=>
  intro m z;have:m=[]:=cI z;subst this;simp[Reg.dk]
 | succ n ih=>
  intro m z;obtain⟨d,r,rfl⟩:∃d r,m=d++[r]:=by
   cases h:m.reverse with
   | nil=>simp at h;subst h;simp at z
   | cons r d=>exact⟨d.reverse,r,by rw[<-List.reverse_reverse m,h];simp⟩
  rw[Reg.ry];have h1:=B9 r.x0 r.x1 (Reg.dk d);have h2:=ih d (by simp at z;exact z);simp only[bJ,ij];omega
theorem Al(l:List aB)(hl:∀r∈l,Bd r)(hN:l.length<=4398046511104):ai C 176 [.row 93 (l.map rc)] (.p (ints (flat (Reg.dk (eO Dn l))))) [.row ((eO Dn l).map rc)]:=by
 refine fW hC Tryz.func176 rfl (by kernel_rfl) fun _=>?_;obtain⟨hp,_⟩:=pB hl;have qH:=hp.length_eq;refine⟨_,_,(W9 l hl (by omega)),?_⟩;generalize eO Dn l=L at hp qH ⊢;have J:=an L rc;refine aP (fun i:Nat=>i<=L.length) (fun i=>[(0,.ow 100000),(9,.ow 100000),(10,.p (i64 (L.map rc).length)),(11,.p (i64 i)),(3,.ow 3)]) (fun i=>[(100000,.row 93 (L.map rc)),(3,.row 3 ((flat (Reg.dk (L.take i))).map fun n=>[i64 n]))]) (fun i=>L.length-i) 0 _ (aA.eK hC _ 3 3 _ (by decide) rfl rfl (by decide)) (ak _) ⟨Z,Z,Z,Z,Z,Y⟩ ⟨Z,Z,Y⟩ fun i hi t h=>?_;have sl:=B_ (L.take i);have D:=fK (Reg.dk (L.take i));have z:=an (flat (Reg.dk (L.take i))) fun n=>[i64 n];rw[cE]at sl;apply iW<;>intro O
 ·rw[J]at O;obtain⟨r,R⟩:=ao (l:=L) (i:=i) (by omega);have wh:Reg.dk (L.take (i+1))=Reg.dH (Reg.dk (L.take i)) r.x0 r.x1:=by rw[bq R,Reg.ry]
  obtain⟨U,V⟩:=Gh r.x0 r.x1 (Reg.dk (L.take i));rw[<-wh]at U V;generalize Reg.dk (L.take i)=s at *;refine⟨⟨by omega,by rw[J];omega⟩,(rc r),(idx rfl R).2,⟨by rw[z];omega,by rw[z];omega⟩,iW ?_ ?_⟩<;>intro W
  ·rw[z,D]at W;obtain⟨n,hn⟩:∃n,s.length=n+1:=⟨s.length-1,by omega⟩;obtain⟨p,N,I⟩:=V n hn;have hk:(((flat s).map fun n=>[i64 n]).length:Int)-1=((2*n+1:Nat):Int):=by rw[z,D];omega
   refine⟨⟨by rw[hk];omega,by rw[hk,z,D];omega⟩,[i64 p],(idx hk N).2,iW ?_ ?_⟩<;>intro h3
   ·rw[ae h3]at I;refine⟨⟨by rw[hk];omega,by rw[hk,z,D];omega⟩,[i64 p],(idx hk N).2,⟨by rw[hk];omega,by rw[hk,z,D];omega⟩,[i64 p],(idx hk N).2,wO (by omega),(i+1),_,aA.refl _ _,by omega,by omega,⟨Z,Z,Z,Z,Z,Y⟩,⟨rfl,?_,trivial⟩⟩;have qh:∀k:Nat,k=2*n+1->AB.row 3 (((flat s).map fun n=>[i64 n]).set k [i64 (max p r.x1)])=AB.row 3 ((flat (Reg.dk (L.take (i+1)))).map fun n=>[i64 n]):=by
     intro k e;subst e;rw[I,w_]
    exact qh _ (by rw[hk];rfl)
   rw[aa h3]at I;refine⟨⟨by simp,by simp;omega,by simp;omega⟩,wO (by omega),(i+1),_,aA.refl _ _,by omega,by omega,⟨Z,Z,Z,Z,Z,Y⟩,⟨rfl,?_,trivial⟩⟩;rw[I,bB];rfl
  rw[z,D]at W;have hs:s=[]:=cI (by omega);have I:=U hs;refine⟨⟨by simp,by simp;omega,by simp;omega⟩,wO (by omega),(i+1),_,aA.refl _ _,by omega,by omega,⟨Z,Z,Z,Z,Z,Y⟩,⟨rfl,?_,trivial⟩⟩;rw[I,hs];rfl
 rw[J]at O;rw[cK (by omega)];exact⟨Z,Z,Y⟩
def ends(l:List aB):List Int:=l.flatMap fun r=>[r.y0,r.y1]
theorem Ow{l:List aB}{i:Nat}{r:aB}(h:l[i]?=some r):ends (l.take (i+1))=ends (l.take i)++[r.y0,r.y1]:=by
 rw[bq h];simp[ends]
theorem Rg(l:List aB)(y:Int):y∈ends l↔∃r∈l,y=r.y0\/y=r.y1:=by
 simp[ends]
theorem Iw(l:List aB):(ends l).length=2*l.length:=by
 induction l with
 | nil=>rfl
 | cons r l ih=>simp only[ends,q_,bJ,bN,kv]at ih ⊢;omega
theorem KT{l m:List aB}(D:∀r,r∈m↔r∈l):compact (pC (ends m))=Reg.cr l:=by
 have N:(pC (ends m)).Pairwise (·<=·):=by
  have:=Mw (le:=fun x y:Int=>decide (x<=y)) (fun a b c I J=>by simp at *;omega) (fun a b=>by simp;omega) (ends m);exact this.imp fun h=>by simpa using h
 obtain⟨I,J⟩:=u5 N;obtain⟨O,R⟩:=Reg.gY l;refine Reg.DH _ _ I O fun x=>?_;rw[J,R,pC,(List.mergeSort_perm _ _).mem_iff,Rg];constructor
 ·rintro⟨r,z,h⟩;exact⟨r,(D r).1 z,h⟩
 rintro⟨r,z,h⟩;exact⟨r,(D r).2 z,h⟩
variable {ys:List Int} {k:Nat}
theorem Ox(I:Reg.ct ys){y q:Int}(D:ys[k]?=some y)(N:q∈ys)(h1:q<=y)(O:∀j z,j+1=k->ys[j]?=some z->z<q):q=y:=by
 obtain⟨i,hi⟩:=ca.1 N;rcases il i k with h | h | h
 ·obtain⟨z,J⟩:=ao (l:=ys) (i:=k-1) (by have:=(az.1 D).1;omega);have:=O (k-1) z (by omega) J;have:=B1 I hi J (by omega);omega
 ·subst h;rw[hi]at D;injection D
 have:=B1 I D hi (by omega);omega
structure MC(L:List aB)(ys:List Int)(k:Nat)(nw:List aB)(next:Nat):Prop where
 le:next<=L.length
 len:nw.length<=next
 mem:∀r,r∈nw↔r∈L.take next/\∀j y,j+1=k->ys[j]?=some y->y<r.y1
 below:∀r∈L.take next,∀j y,j+1=k->ys[j]?=some y->r.y0<=y
 j_:∀r∈L.drop next,∀j y,j+1=k->ys[j]?=some y->y<r.y0
 zero:k=0->next=0
structure S7(L:List aB)(y:Int)(nw:List aB)(next:Nat):Prop where
 le:next<=L.length
 len:nw.length<=next
 mem:∀r,r∈nw↔r∈L.take next/\y<r.y1
 below:∀r∈L.take next,r.y0<=y
variable {L nw:List aB}
theorem MC.mid{next:Nat}(h:MC L ys k nw next)(U:Reg.ct ys){y:Int}(R:ys[k]?=some y):S7 L y (nw.filter fun r=>!qo y r) next:=by
 have D:k≠0->∃z,ys[k-1]?=some z/\z<y:=fun hk=>by
  have KR:=(az.1 R).1;obtain⟨z,J⟩:=ao (l:=ys) (i:=k-1) (by omega);have V:=az.1 J;have W:=az.1 R;obtain⟨Y,b2⟩:=V;obtain⟨Z,c2⟩:=W;have:=(cS.1 U) (k-1) k Y Z (by omega);exact⟨z,J,by omega⟩
 refine⟨h.le,aS (kJ _ _) h.len,fun r=>?_,fun r N=>?_⟩
 ·rw[qZ,h.mem];simp only[qo,qS,nu];constructor
  ·rintro⟨⟨O,_⟩,h2⟩;exact⟨O,by omega⟩
  rintro⟨O,h2⟩;refine⟨⟨O,fun j z hj J=>?_⟩,by omega⟩;obtain⟨z',I,eX⟩:=D (by omega);rw[show k-1=j by omega,J]at I;injection I with I;omega
 by_cases hk:k=0
 ·rw[h.zero hk]at N;simp at N
 obtain⟨z,J,eX⟩:=D hk;have:=h.below r N (k-1) z (by omega) J;omega
theorem S7.next{y:Int}{next:Nat}(h:S7 L y nw next){r:aB}(D:L[next]?=some r)(I:r.y0<=y)(J:y<r.y1):S7 L y (nw++[r]) (next+1):=by
 have eX:=(az.1 D).1;refine⟨by omega,by have:=h.len;simp;omega,fun q=>?_,fun q z=>?_⟩
 ·rw[bq D,b_,b_,bV,h.mem];constructor
  ·rintro (⟨a,b⟩ | rfl)
   ·exact⟨.inl a,b⟩
   exact⟨.inr rfl,J⟩
  rintro⟨a | rfl,b⟩
  ·exact .inl ⟨a,b⟩
  exact .inr rfl
 rw[bq D,b_,bV]at z;rcases z with z | rfl
 ·exact h.below q z
 exact I
theorem S7.row{l:List aB}{y:Int}{next:Nat}(h:S7 L y nw next)(z:∀r,r∈L↔r∈l)(D:∀r∈L.drop next,y<r.y0):∀r,r∈nw↔r∈l/\r.y0<=y/\y<r.y1:=by
 intro r;rw[h.mem,<-z];constructor
 ·rintro⟨a,b⟩;exact⟨tz a,h.below r a,b⟩
 rintro⟨a,b,c⟩;refine⟨?_,c⟩;rw[<-o6 next L,b_]at a;rcases a with a | a
 ·exact a
 have:=D r a;omega
theorem S7.ZQ{m:List aB}{next:Nat}{y:Int}(h:S7 L y nw next)(N:ys[k]?=some y)(hp:m.Perm nw)(O:∀r∈L.drop next,y<r.y0):MC L ys (k+1) m next:=by
 have one:∀j z,j+1=k+1->ys[j]?=some z->z=y:=fun j z I D=>by
  rw[show j=k by omega,N]at D;injection D with D;exact D.symm
 refine⟨h.le,by rw[hp.length_eq];exact h.len,fun r=>?_,fun r J j z I D=>?_,fun r J j z I D=>?_,fun h=>by omega⟩
 ·rw[hp.mem_iff,h.mem];constructor
  ·rintro⟨a,b⟩;exact⟨a,fun j z I D=>by rw[one j z I D];exact b⟩
  rintro⟨a,b⟩;exact⟨a,b k y rfl N⟩
 ·rw[one j z I D];exact h.below r J
 rw[one j z I D];exact O r J
theorem KU(I:L.Pairwise fun a b=>a.y0<=b.y0){i:Nat}{r:aB}(J:L[i]?=some r){y:Int}(h:y<r.y0):∀q∈L.drop i,y<q.y0:=by
 intro q z;obtain⟨hi,D⟩:=az.1 J;rw[fI hi,D,aq]at z;rcases z with rfl | z
 ·exact h
 obtain⟨j,N,rfl⟩:=E8 z;rw[List.getElem_drop];have:=cS.1 I i (i+1+j) hi (by rw[lU]at N;omega) (by omega);rw[D]at this;omega
def Good(r:aB):Prop:=Bd r/\r.x0<r.x1/\r.y0<r.y1
theorem Ix(l:List aB)(ys:List Int){N:Nat}(h:∀y,(Reg.rowOf l y).length<=N):∀k,∀t∈Reg.dw l ys k,t.xs.length<=N:=by
 intro k
 induction k with
 | zero=>simp[Reg.dw]
 | succ k ih=>rw[Reg.dw];exact Ii _ _ _ ih (h _)
theorem xi(l:List aB)(hl:∀r∈l,Good r)(hN:l.length<=4398046511104)(hH:(Reg.cr l).length<=1000000000000)(hX:∀y,(Reg.rowOf l y).length<=1000000000000):ai C 120 [.pv (aE l)] (.own 180 ((Reg.cH l).map hb)) []:=by
 refine FP ⟨[],[4],[],[20],[(20,[true,false,false,false,false,false,false,true,false,false,true,false,true,true,true])],[]⟩ hC Tryz.func120 rfl (by kernel_rfl) fun _=>?_;have PA:∀r∈l,Bd r:=fun r D=>(hl r D).1;obtain⟨hp,VH⟩:=Is PA;have qH:=hp.length_eq;refine⟨_,_,(It l (by omega)),_,_,(W8 l PA (by omega)),?_⟩;generalize eO Q_ l=L at hp VH qH;have O:=an L rc;refine aP (fun i:Nat=>i<=L.length) (fun i=>[(0,.ow 0),(14,.ow 0),(15,.p (i64 (L.map rc).length)),(16,.p (i64 i)),(3,.bx 3 0)]) (fun i=>[(0,.row 93 (L.map rc)),(3,.box [.ow 90000]),(90000,.row 3 ((ends (L.take i)).map fun n=>[i64 n]))]) (fun i=>L.length-i) 0 _ (aA.gH hC _ 3 0 90000 3 _ _ (by decide) (by decide) rfl rfl rfl (by decide)) (ak _) ⟨Z,Z,Z,Z,Z,Y⟩ ⟨Z,Z,Z,Y⟩ fun i hi t h=>?_;have el:=Iw (L.take i);have em:=an (ends (L.take i)) fun n=>[i64 n];rw[cE]at el;apply iW<;>intro h1
 ·rw[O]at h1;obtain⟨r,D⟩:=ao (l:=L) (i:=i) (by omega);refine⟨⟨by omega,by rw[O];omega⟩,(rc r),(idx rfl D).2,⟨by simp,by simp;omega,by simp;omega⟩,wO (by omega),i+1,_,aA.N0 _ 26 90000 (by decide) (by decide),by omega,by omega,⟨Z,Z,Z,Z,Z,Y⟩,⟨rfl,rfl,?_,trivial⟩⟩;show AB.row _ _=AB.row _ _;rw[Ow D,bB];rfl
 rw[O]at h1;rw[cK (show L.length<=i by omega)]at *;refine⟨_,_,(EA (ends L) (by omega)),_,_,(xg (pC (ends L)) (by rw[pC,mc];omega)),?_⟩;have W:∀r,r∈L↔r∈l:=fun r=>hp.mem_iff;rw[KT W];have hR:=B3 l;have hL:=ox l;have Y0:=an (Reg.cr l) fun n=>[i64 n];have VG:∀r∈L,r.y0∈Reg.cr l:=fun r D=>((Reg.gY l).2 _).2 ⟨r,(W r).1 D,.inl rfl⟩;have hbl:=sS l (Reg.cr l);have hbx:=Ix l (Reg.cr l) hX;have W_:Reg.cH l=Reg.dw l (Reg.cr l) ((Reg.cr l).length-1):=rfl;generalize Reg.cr l=ys at *;refine aP (fun x:Nat×List aB×Nat=>x.1<=ys.length-1/\MC L ys x.1 x.2.1 x.2.2) (fun x=>[(0,.ow 0),(3,.p (.ip [ints ys])),(6,.ow 6),(7,.ow 7),(8,.p (i64 x.2.2)),(9,.bx 9 0)]) (fun x=>[(0,.row 93 (L.map rc)),(6,.row 180 ((Reg.dw l ys x.1).map hb)),(7,.row 93 (x.2.1.map rc)),(9,.box [.p (i64 x.1)])]) (fun x=>ys.length-x.1) (0,[],0) _
  (aA.trans (aA.eK hC _ 6 180 _ (by decide) rfl rfl (by decide)) (aA.trans (aA.eK hC _ 7 93 _ (by decide) rfl rfl (by decide)) (aA.trans (aA.gI hC _ 3 0 31 3 _ _ (by decide) rfl rfl rfl) (aA.iT hC _ 3 (y:=.ip [ints ys]) (fz:=[(3,.nd [ints ys])]) ⟨rfl,rfl⟩))))
  ⟨ak _,⟨ak _,aG _,by simp,by simp,fun r _ j y h=>by omega,fun _=>rfl⟩⟩ ⟨Z,Z,Z,Z,Z,Z,Y⟩ ⟨Z,Z,Z,Z,Y⟩ fun ⟨k,nw,next⟩ hi t h=>?_
 obtain⟨hk,U⟩:=hi;simp only at hk U;refine⟨⟨by simp only;omega,by simp only;omega⟩,iW ?_ ?_⟩<;>intro h2<;>try simp only[zB]at h2
 ·rw[Y0]at h2;obtain⟨y,J⟩:=ao (l:=ys) (i:=k) (by omega);obtain⟨y',oO⟩:=ao (l:=ys) (i:=k+1) (by omega);have acN:=U.mid hR J;refine⟨_,_,(Gg nw (by have:=U.len;have:=U.le;omega) ys k y J),?_⟩;refine Ak (fun p:List aB×Nat=>S7 L y p.1 p.2/\∀r∈L.drop p.2,y<r.y0) (fun p=>[(0,.ow 0),(3,.p (.ip [ints ys])),(6,.ow 6),(7,.ow 7),(8,.p (i64 p.2)),(9,.p (.ip [i64 k]))]) (fun p=>[(0,.row 93 (L.map rc)),(6,.row 180 ((Reg.dw l ys k).map hb)),(7,.row 93 (p.1.map rc))]) (fun ⟨N,R⟩ Hf t h=>?_) ?_
  ·obtain⟨I,Ye⟩:=Hf;simp only at I Ye;have aw:=I.row W Ye;have Aj:∀r∈N,Bd r:=fun r D=>(hl r ((aw r).1 D).1).1;obtain⟨V,Tn⟩:=pB Aj;have est:Reg.dk (eO Dn N)=Reg.rowOf l y:=Reg.Ie l _ y (fun r D=>(hl r D).2.1) Tn fun r=>(V.mem_iff).trans (aw r);have eX:y<y':=by
    obtain⟨b1,b2⟩:=az.1 J;obtain⟨c1,c2⟩:=az.1 oO;have:=(cS.1 hR) k (k+1) b1 c1 (by omega);omega
   refine⟨[i64 y],(idx rfl J),wO (by omega),[i64 y'],(idx (by omega) oO),_,_,(Al N Aj (by have:=I.len;have:=I.le;omega)),?_⟩;rw[est];refine⟨_,_,(vE (Reg.dw l ys k) ⟨y,y',Reg.rowOf l y⟩ eX (by have:=hbl k;omega) (fun t ht=>by have:=hbx k t ht;omega)),wO (by omega),(k+1,eO Dn N,R),_,aA.refl _ _,⟨by simp only;omega,I.ZQ J V Ye⟩,by simp only;omega,⟨Z,Z,Z,Z,Z,Z,Y⟩,⟨rfl,?_,rfl,?_,trivial⟩⟩
   ·simp only;rw[Reg.dw,A2 J,A2 oO];rfl
   exact af (fun z=>AB.box [z]) (bI (by simp only;omega))
  refine aP (fun p:List aB×Nat=>next<=p.2/\S7 L y p.1 p.2) (fun p=>[(0,.ow 0),(3,.p (.ip [ints ys])),(6,.ow 6),(7,.ow 7),(8,.p (i64 p.2)),(9,.p (.ip [i64 k]))]) (fun p=>[(0,.row 93 (L.map rc)),(6,.row 180 ((Reg.dw l ys k).map hb)),(7,.row 93 (p.1.map rc))]) (fun p=>L.length-p.2) (nw.filter fun r=>!qo y r,next) _ (aA.iT hC _ 9 (y:=.ip [i64 k]) (fz:=[]) ⟨rfl,rfl⟩) ⟨aG _,acN⟩ ⟨Z,Z,Z,Z,Z,Z,Y⟩ ⟨Z,Z,Z,Y⟩ fun ⟨N,R⟩ Hf t h=>?_;obtain⟨acO,I⟩:=Hf;simp only at acO I;have hn2:=I.le;have Hd:=I.len;apply iW<;>intro g1<;>try simp only[zB]at g1
  ·rw[O]at g1;obtain⟨r,D⟩:=ao (l:=L) (i:=R) (by omega);refine⟨⟨by simp only;omega,by simp only;rw[O];omega⟩,(rc r),(idx rfl D).2,[i64 y],(idx rfl J),iW ?_ ?_⟩<;>intro g2
   ·have Xa:r∈L:=aj D;have e:=Ox hR J (VG r Xa) g2 fun j z hj hz=>U.j_ r (by
     refine aj (i:=R-next) ?_;rw[gB,<-D];congr 1;omega) j z hj hz
    have hg:=hl r ((W r).1 Xa);refine⟨⟨by simp only;omega,by simp only;rw[O];omega⟩,(rc r),(idx rfl D).2,⟨kL rfl,by simp;omega,by simp;omega⟩,⟨by simp only;omega,by simp only;omega⟩,(N++[r],R+1),_,aA.refl _ _,⟨by simp only;omega,I.next D g2 (by have:=hg.2.2;omega)⟩,by simp only;omega,⟨rfl,rfl,rfl,rfl,bI (by simp only;omega),Z,Y⟩,⟨rfl,rfl,?_,trivial⟩⟩;show AB.row _ _=AB.row _ _;rw[bB];rfl
   exact⟨(N,R),⟨I,KU VH D (by omega)⟩,⟨Z,Z,Z,Z,Z,Z,Y⟩,⟨Z,Z,Z,Y⟩⟩
  rw[O]at g1;refine⟨(N,R),⟨I,fun r D=>?_⟩,⟨Z,Z,Z,Z,Z,Z,Y⟩,⟨Z,Z,Z,Y⟩⟩;rw[aT (by simp only;omega)]at D;cases D
 rw[Y0]at h2;rw[W_,show ys.length-1=k by omega];exact⟨Z,Z,Y⟩
theorem Iy(l:List aB)(hl:∀r∈l,Good r)(hN:l.length<=400000):ai C 120 [.pv (aE l)] (.own 180 ((Reg.cH l).map hb)) []:=
 xi l hl (by omega) (by have:=ox l;omega) (fun y=>by have:=wV l y;omega)
theorem T9{r:aB}(h:Reg.jq r=true/\r.x0<r.x1/\r.y0<r.y1):Good r:=by
 obtain⟨z,D,I⟩:=h;simp only[Reg.jq,Reg.iZ,aJ,db]at z;exact⟨⟨by omega,by omega,by omega,by omega⟩,D,I⟩
theorem Gi(l:List aB)(hN:l.length<=400000):(Reg.cH l).length<=1000000/\∀t∈Reg.cH l,t.xs.length<=1000000:=by
 have h1:=sS l (Reg.cr l) ((Reg.cr l).length-1);have h2:=ox l;exact⟨by unfold Reg.cH;omega,fun t z=>by have:=KP l (Reg.cr l) _ t z;omega⟩
theorem kP(l:List aB):ai C 66 [.pv (aE l)] (.p (i64 (Reg.bA l))) []:=by
 refine FP ⟨[],[0],[],[],[(7,[true,true,true,true,true,true,true,false,false,true,true,false,true])],[]⟩ hC Tryz.func66 rfl (by kernel_rfl) fun _=>?_;have R:=an l rc;refine⟨_,_,(yS l),iW ?_ ?_⟩<;>intro D
 ·refine⟨?_,trivial⟩;rw[Reg.bA,aa D]
 have D:Reg.eo l=0:=by simpa using D
 obtain⟨hl,W⟩:=Reg.vD D;have O:Reg.bA l=(if Reg.ordered l=true then (if Reg.t_ l=l then 0 else 3) else 8):=by rw[Reg.bA,ae D]
 obtain⟨bl,bx⟩:=Gi l (by omega);refine Ak (fun _:Unit=>Reg.ordered l=true) (fun _=>[(0,.p (aE l))]) (fun _=>[]) (fun _ hO t h=>?_) ?_
 ·rw[ae hO]at O;refine⟨_,_,(Iy l (fun r hr=>T9 (W r hr)) (by omega)),_,_,(Iq (Reg.cH l) bl bx),?_⟩
  (refine⟨_,_,(Io (Reg.told (Reg.cH l)) l (by
   have:=zP (Reg.cH l) bx;have:(Reg.cH l).length*1000000<=1000000*1000000:=cq _ bl;omega)),?_⟩)
  apply iW<;>intro U
  ·refine⟨?_,trivial⟩;rw[O,aa (show ¬Reg.t_ l=l from U)];rfl
  refine⟨?_,trivial⟩;rw[O,ae (show Reg.t_ l=l from U)];rfl
 refine aP (fun i:Nat=>∀(j:Nat) a b,j<i->l[j]?=some a->l[j+1]?=some b->Reg.before a b=true) (fun i=>[(0,.p (aE l)),(4,.p (i64 ((i:Int)+1)))]) (fun _=>[]) (fun i=>l.length-i) 0 _ (aA.refl _ _) (fun j a b h=>by omega) ⟨Z,Z,Y⟩ trivial fun i hi t h=>?_;apply iW<;>intro V
 ·rw[R]at V;obtain⟨a,I⟩:=ao (l:=l) (i:=i) (by omega);obtain⟨b,hb⟩:=ao (l:=l) (i:=i+1) (by omega);have stop:¬Reg.before a b=true->Reg.bA l=8:=fun hn=>by
   rw[O,aa];rw[DK I hb (by simpa using hn)];decide
  have z:Reg.before a b=true->∀(j:Nat) x y,j<i+1->l[j]?=some x->l[j+1]?=some y->Reg.before x y=true:=fun hy j x y hj J N=>by
   by_cases e:j=i
   ·subst e;rw[I]at J;injection J with J;rw[hb]at N;injection N with N;rw[<-J,<-N];exact hy
   exact hi j x y (by omega) J N
  refine⟨wO (by omega),(rc a),(idx (show ((i:Int)+1)-1=(i:Nat) by omega) I),(rc b),(idx (show ((i:Int)+1)=((i+1:Nat):Int) by omega) hb),iW ?_ ?_⟩<;>intro g1
  ·refine⟨?_,trivial⟩;rw[stop (by simp[Reg.before];omega)];rfl
  apply iW<;>intro g2
  ·apply iW<;>intro g3
   ·refine⟨?_,trivial⟩;rw[stop (by simp[Reg.before];omega)];rfl
   exact⟨wO (by omega),(i+1),_,aA.refl _ _,z (by simp[Reg.before];omega),by omega,⟨rfl,bI (by omega),trivial⟩,trivial⟩
  exact⟨wO (by omega),(i+1),_,aA.refl _ _,z (by simp[Reg.before];omega),by omega,⟨rfl,bI (by omega),trivial⟩,trivial⟩
 rw[R]at V;refine⟨(),F6 fun j a b I hb=>hi j a b ?_ I hb,⟨Z,Y⟩,trivial⟩;have:=(az.1 hb).1;omega
structure Class where
 name:ByteArray
 nets:List ByteArray
 clearance:Int
 width:Int
structure Gj where
 layer:Int
 region:List aB
 clearance:Int
structure u6 where
 clearance:Int
 width:Int
 ring:Int
 edge:Int
 holeGap:Int
 classes:List Class
 areas:List Gj
def kl(c:Class):List PV:=[str c.name,strs c.nets,i64 c.clearance,i64 c.width]
def arr(a:Gj):List PV:=[i64 a.layer,aE a.region,i64 a.clearance]
def rl(r:u6):List PV:=[i64 r.clearance,i64 r.width,i64 r.ring,i64 r.edge,i64 r.holeGap,.sl (r.classes.map kl),.sl (r.areas.map arr)]
def Ri(x y:Int)(r:aB):Bool:=((decide (r.x0<=x)&&decide (x<r.x1))&&decide (r.y0<=y))&&decide (y<r.y1)
theorem Iz(r:aB)(x y:Int):ai C 214 [.pv (.ag (rc r)),.pv (.ip [i64 x,i64 y])] (.p (bool (Ri x y r))) []:=by
 refine fW hC Tryz.func214 rfl (by kernel_rfl) fun _=>?_;apply iW<;>intro z
 ·apply iW<;>intro D
  ·apply iW<;>intro I
   ·refine⟨?_,trivial⟩;simp[bool,Ri,z,D,I]
   refine⟨?_,trivial⟩;simp[bool,Ri,z,D,I]
  refine⟨?_,trivial⟩;simp[bool,Ri,z,D]
 refine⟨?_,trivial⟩;simp[bool,Ri,z]
theorem IA(l:List aB)(hN:l.length<=140737488355328)(x y:Int):ai C 187 [.pv (aE l),.pv (.fn 214 [.ip [i64 x,i64 y]])] (.p (i64 (eM (Ri x y) l 0))) []:=by
 refine fW hC Tryz.func187 rfl (by kernel_rfl) fun _=>?_;have J:=an l rc;refine aP (fun i:Nat=>i<=l.length/\∀z∈l.take i,Ri x y z=false) (fun i=>[(0,.p (aE l)),(1,.p (.fn 214 [.ip [i64 x,i64 y]])),(7,.p (i64 (l.map rc).length)),(8,.p (i64 i))]) (fun _=>[]) (fun i=>l.length-i) 0 _ (aA.refl _ _) ⟨ak _,by simp⟩ ⟨Z,Z,Z,Z,Y⟩ trivial fun i hi t h=>?_;apply iW<;>intro N
 ·rw[J]at N;obtain⟨r,I⟩:=ao (l:=l) (i:=i) (by omega);refine⟨(rc r),(idx rfl I),_,_,(Iz r x y),iW ?_ ?_⟩<;>intro D
  ·refine⟨?_,trivial⟩;rw[eU I D hi.2,bp]
  exact⟨wO (by omega),(i+1),_,aA.refl _ _,⟨by omega,iu I D hi.2⟩,by omega,⟨Z,Z,Z,Z,Y⟩,trivial⟩
 rw[J]at N;refine⟨?_,trivial⟩;have D:=hi.2;rw[cK (by omega)]at D;rw[cT D];rfl
theorem DM(l:List aB)(z:l.length<=140737488355328)(x y:Int):ai C 137 [.pv (aE l),.pv (.fn 214 [.ip [i64 x,i64 y]])] (.p (bool (l.any (Ri x y)))) []:=by
 refine fW hC Tryz.func137 rfl (by kernel_rfl) fun _=>?_;refine⟨_,_,(IA l z x y),?_,trivial⟩;rw[<-eZ _ l 0];rfl
theorem sj(l:List aB)(z:l.length<=140737488355328)(x y:Int):ai C 189 [.pv (aE l),.pv (.ag [i64 x,i64 y])] (.p (bool (l.any (Ri x y)))) []:=by
 refine fW hC Tryz.func189 rfl (by kernel_rfl) fun _=>?_;refine⟨_,_,(DM l z x y),?_,trivial⟩;rfl
def bC:ByteArray:=⟨#[]⟩
def onB(a:Gj)(layer:Int):Bool:=decide (a.layer<0)||decide (a.layer=layer)
def eG(a b:ByteArray):Bool:=Op.bytesLess a.data.toList b.data.toList
theorem rB{a b:ByteArray}:eG a b=true↔a.data.toList<b.data.toList:=by
 unfold eG;rw[Go.Proofs.bytesLess_eq];simp
theorem iH(a:ByteArray):eG a a=false:=by
 rw[cu];intro h;exact List.lt_irrefl _ (rB.1 h)
theorem dK{a b c:ByteArray}(z:eG a b=true)(D:eG b c=true):eG a c=true:=rB.2 (List.lt_trans (rB.1 z) (rB.1 D))
theorem qp{a b:Nat}(h:a+b<4611686018427387904):(IntKind.u64.wrap ((a:Int)+(b:Int))).fdiv (2 ^ min (Int.toNat 1) IntKind.u64.bits)=(((a+b) / 2:Nat):Int):=by
 have z:IntKind.u64.wrap ((a:Int)+(b:Int))=((a+b:Nat):Int):=by simp[IntKind.wrap,IntKind.bits,IntKind.signed];omega
 rw[z];have D:(2:Int) ^ min (Int.toNat 1) IntKind.u64.bits=2:=by decide
 rw[D,Int.fdiv_eq_ediv_of_nonneg _ (by decide)];omega
def bw(f:Nat->Int)(i:Nat):Nat->Int
 | 0=>0
 | n+1=>if f i=0 then bw f (i+1) n else f i
theorem bR{f:Nat->Int}:∀{n i:Nat},(∀k,i<=k->k<i+n->f k=0)->bw f i n=0
 | 0,_,_=>rfl
 | n+1,i,h=>by
  rw[bw,ae (h i (aG _) (by omega))];exact bR fun k h1 h2=>h k (by omega) (by omega)
theorem nT{f:Nat->Int}{m:Nat}(z:f m≠0):∀{n i:Nat},(∀k,i<=k->k<m->f k=0)->i<=m->m<i+n->bw f i n=f m
 | 0,i,_,h1,h2=>by omega
 | n+1,i,h,h1,h2=>by
  rw[bw];by_cases e:i=m
  ·subst e;rw[aa z]
  rw[ae (h i (aG _) (by omega))];exact nT z (fun k h3 D=>h k (by omega) D) (by omega) (by omega)
def cg(l:List ByteArray)(j:Nat):Bool:=match l[j]?,l[j-1]? with
 | some a,some b=>decide (0<j)&&(eG a b||decide (a=b))
 | _,_=>false
def seenIn(cs:List Class)(x:ByteArray):Bool:=cs.any fun c=>hasB c.nets x
def fL(cs:List Class)(i:Nat)(l:List ByteArray)(j:Nat):Int:=match l[j]? with
 | some y=>if si y=true then (if cg l j=true then 8 else if seenIn (cs.take i) y=true then 7 else 0) else 5
 | none=>0
def e_(cs:List Class)(i:Nat):Int:=match cs[i]? with
 | some c=>if gV c.name=true then (if 1000<c.nets.length then 2 else
   if bw (fL cs i c.nets) 0 c.nets.length=0 then
    (if (iG c.clearance&&iG c.width)=true then (if cg (cs.map Class.name) i=true then 8 else 0) else 1)
   else bw (fL cs i c.nets) 0 c.nets.length) else 5
 | none=>0
theorem MD(a b:ByteArray):Dj (.string a) (.string b)=decide (a=b):=rfl
theorem Xb{k:ByteArray}{z:Value}(h:Dj (.string k) z=true):z=.string k:=by
 cases z<;>simp_all [Dj]
theorem ug(v:PV)(k n:ByteArray):∀es:List (Value×PV),gz (iS es (.string k) v) (.string n)=if n=k then some v else gz es (.string n)
 | []=>by
  simp only[iS,gz,MD];by_cases h:n=k<;>simp[h]
 | (k',u)::r=>by
  simp only[iS];cases h:Dj (.string k) k'
  ·simp only[gz,ug v k n r];by_cases e:n=k
   ·subst e;simp[h]
   simp[e]
  have e:=Xb h;subst e;simp only[gz,MD];by_cases e:n=k<;>simp[e]
def bK(s:ByteArray):Prop:=s.size<4294967281
def ME(c:Class):Prop:=bK c.name/\c.nets.length<=1048576/\∀s∈c.nets,bK s
theorem vG(cs:List Class)(hok:∀c∈cs,ME c)(hN:cs.length<=1048576):ai C 64 [.pv (.sl (cs.map kl))] (.p (i64 (if 50<cs.length then 2 else bw (e_ cs) 0 cs.length))) []:=by
 refine fW hC Tryz.func64 rfl (by kernel_rfl) fun _=>?_;have lm:=an cs kl;apply iW<;>intro N
 ·refine⟨?_,trivial⟩;rw[ae (by omega)];rfl
 rw[aa (by omega)];refine aP (fun p:Nat×List (Value×PV)=>p.1<=cs.length/\(∀k,k<p.1->e_ cs k=0)/\∀n,gz p.2 (.string n)=if seenIn (cs.take p.1) n=true then some (bool true) else none) (fun p=>[(0,.p (.sl (cs.map kl))),(3,.ow 13),(14,.p (.sl (cs.map kl))),(15,.p (i64 (cs.map kl).length)),(16,.p (i64 p.1))]) (fun p=>[(13,.map .str p.2)]) (fun p=>cs.length-p.1) (0,[]) _ (aA.refl _ _) ⟨ak _,fun k h=>by omega,fun n=>rfl⟩ ⟨Z,Z,Z,Z,Z,Y⟩ ⟨Z,Y⟩ fun ⟨i,es⟩ hi t h=>?_;obtain⟨q1,q2,q3⟩:=hi;apply iW<;>intro h1<;>try simp only[zB]at h1
 ·obtain⟨c,R⟩:=ao (l:=cs) (i:=i) (by omega);obtain⟨o1,o2,o3⟩:=hok c (aj R);have J:e_ cs i≠0->bw (e_ cs) 0 cs.length=e_ cs i:=fun hb=>nT hb (fun k _ hk=>q2 k hk) (ak _) (by omega);have D:e_ cs i=(if gV c.name=true then (if 1000<c.nets.length then 2 else
  if bw (fL cs i c.nets) 0 c.nets.length=0 then
   (if (iG c.clearance&&iG c.width)=true then (if cg (cs.map Class.name) i=true then 8 else 0) else 1)
  else bw (fL cs i c.nets) 0 c.nets.length) else 5):=by rw[e_,R]
  have lc:=an c.nets fun s=>[str s];refine⟨(kl c),(idx rfl R),_,_,(eN c.name (by have:c.name.size<4294967281:=o1;omega)),iW ?_ ?_⟩<;>intro h2
  ·refine⟨?_,trivial⟩;rw[aa (by simp[h2])]at D;rw[J (by rw[D];decide),D];rfl
  rw[ae (by simpa using h2)]at D;apply iW<;>intro h3
  ·refine⟨?_,trivial⟩;rw[ae (by omega)]at D;rw[J (by rw[D];decide),D];rfl
  rw[aa (by omega)]at D;refine aP (fun j:Nat=>j<=c.nets.length/\∀k,k<j->fL cs i c.nets k=0) (fun j=>[(0,.p (.sl (cs.map kl))),(3,.ow 13),(14,.p (.sl (cs.map kl))),(15,.p (i64 (cs.map kl).length)),(16,.p (i64 i)),(4,.p (i64 i)),(5,.bx 5 0),(30,.p (strs c.nets)),(31,.p (i64 (c.nets.map fun s=>[str s]).length)),(32,.p (i64 j))]) (fun _=>[(5,.box [.p (str c.name),.p (strs c.nets),.p (i64 c.clearance),.p (i64 c.width)]),(13,.map .str es)]) (fun j=>c.nets.length-j) 0 _ (aA.refl _ _) ⟨ak _,fun k h=>by omega⟩ ⟨Z,Z,Z,Z,Z,Z,Z,Z,Z,Z,Y⟩ ⟨Z,Z,Y⟩ fun j hj t h=>?_;obtain⟨p1,p2⟩:=hj;apply iW<;>intro h4
  ·obtain⟨y,O⟩:=ao (l:=c.nets) (i:=j) (by omega);have T_:fL cs i c.nets j≠0->bw (e_ cs) 0 cs.length=fL cs i c.nets j:=fun hb=>by
    have e:bw (fL cs i c.nets) 0 c.nets.length=fL cs i c.nets j:=nT hb (fun k _ hk=>p2 k hk) (ak _) (by omega);rw[e,aa hb]at D;rw[J (by rw[D];exact hb),D]
   have I:fL cs i c.nets j=(if si y=true then (if cg c.nets j=true then 8 else if seenIn (cs.take i) y=true then 7 else 0) else 5):=by rw[fL,O]
   refine⟨[str y],(idx rfl O),_,_,(kM y (o3 y (aj O))),iW ?_ ?_⟩<;>intro h5
   ·refine⟨?_,trivial⟩;rw[aa (by simp[h5])]at I;rw[T_ (by rw[I];decide),I];rfl
   rw[ae (by simpa using h5)]at I;have q:=q3 y;have next:fL cs i c.nets j=0->∀k,k<j+1->fL cs i c.nets k=0:=fun N k hk=>by
    by_cases e:k=j
    ·subst e;exact N
    exact p2 k (by omega)
   apply iW<;>intro h6
   ·obtain⟨z,hz⟩:=ao (l:=c.nets) (i:=j-1) (by omega);have U:cg c.nets j=(eG y z||decide (y=z)):=by
     simp only[cg,O,hz];rw[jS (by omega:0<j)];rfl
    refine⟨wO (by omega),[str z],(idx (show (j:Int)-1=((j-1:Nat):Int) by omega) hz),iW ?_ ?_⟩<;>intro V
    ·refine⟨?_,trivial⟩;have V:(eG y z||decide (y=z))=true:=by simpa [eG] using V
     rw[U,V,ae rfl]at I;rw[T_ (by rw[I];decide),I];rfl
    have V:(eG y z||decide (y=z))=false:=by simpa [eG] using V
    rw[U,V,aa (by decide)]at I;cases hS:seenIn (cs.take i) y
    ·rw[hS]at q I;exact⟨none,q,wO (by omega),(j+1),_,aA.refl _ _,⟨by omega,next (by simpa using I)⟩,by omega,⟨Z,Z,Z,Z,Z,Z,Z,Z,Z,Z,Y⟩,⟨Z,Z,Y⟩⟩
    rw[hS]at q I;rw[ae rfl]at I;refine⟨(some (bool true)),q,?_,trivial⟩;rw[T_ (by rw[I];decide),I];rfl
   have N:j=0:=by omega
   have U:cg c.nets j=false:=by
    subst N;simp only[cg,O];rfl
   rw[U,aa (by decide)]at I;cases hS:seenIn (cs.take i) y
   ·rw[hS]at q I;exact⟨none,q,wO (by omega),(j+1),_,aA.refl _ _,⟨by omega,next (by simpa using I)⟩,by omega,⟨Z,Z,Z,Z,Z,Z,Z,Z,Z,Z,Y⟩,⟨Z,Z,Y⟩⟩
   rw[hS]at q I;rw[ae rfl]at I;refine⟨(some (bool true)),q,?_,trivial⟩;rw[T_ (by rw[I];decide),I];rfl
  have z0:bw (fL cs i c.nets) 0 c.nets.length=0:=bR fun k _ hk=>p2 k (by omega);rw[ae z0]at D;refine aP (fun p:Nat×List (Value×PV)=>p.1<=c.nets.length/\∀n,gz p.2 (.string n)=if (seenIn (cs.take i) n||hasB (c.nets.take p.1) n)=true then some (bool true) else none) (fun p=>[(0,.p (.sl (cs.map kl))),(3,.ow 13),(14,.p (.sl (cs.map kl))),(15,.p (i64 (cs.map kl).length)),(16,.p (i64 i)),(4,.p (i64 i)),(5,.bx 5 0),(60,.p (strs c.nets)),(61,.p (i64 (c.nets.map fun s=>[str s]).length)),(62,.p (i64 p.1))]) (fun p=>[(5,.box [.p (str c.name),.p (strs c.nets),.p (i64 c.clearance),.p (i64 c.width)]),(13,.map .str p.2)]) (fun p=>c.nets.length-p.1) (0,es) _ (aA.refl _ _) ⟨ak _,fun n=>by rw[show hasB (c.nets.take 0) n=false from rfl,ph];exact q3 n⟩ ⟨Z,Z,Z,Z,Z,Z,Z,Z,Z,Z,Y⟩ ⟨Z,Z,Y⟩ fun ⟨j,dv⟩ hj t h=>?_;obtain⟨r1,r2⟩:=hj;apply iW<;>intro h9<;>try simp only[zB]at h9
  ·obtain⟨y,O⟩:=ao (l:=c.nets) (i:=j) (by omega);refine⟨[str y],(idx rfl O),wO (by omega),(j+1,iS dv (.string y) (bool true)),_,aA.refl _ _,⟨by omega,fun n=>?_⟩,by omega,⟨Z,Z,Z,Z,Z,Z,Z,Z,Z,Z,Y⟩,⟨Z,Z,Y⟩⟩;simp only;rw[ug,bq O];by_cases e:n=y
   ·subst e;rw[ae rfl,ae];simp[hasB]
   rw[aa e,r2 n];have:hasB (c.nets.take j++[y]) n=hasB (c.nets.take j) n:=by
    unfold hasB;rw[Mx];rw[show ([y].any fun z=>decide (z=n))=(decide (y=n)||false) from rfl,aY (fun h:y=n=>e h.symm)];simp
   rw[this]
  have e9:j=c.nets.length:=by simp only at r1;omega
  have s1:∀n,gz dv (.string n)=if seenIn (cs.take (i+1)) n=true then some (bool true) else none:=fun n=>by
   rw[r2 n,e9,jR,bq R];have:seenIn (cs.take i++[c]) n=(seenIn (cs.take i) n||hasB c.nets n):=by
    unfold seenIn;rw[Mx];simp
   rw[this]
  have bn:∀d,cs[i-1]?=some d->0<i->cg (cs.map Class.name) i=(eG c.name d.name||decide (c.name=d.name)):=fun d hd N=>by
   simp only[cg,aD,R,hd,fB];rw[jS N];rfl
  have VJ:e_ cs i=0->∀k,k<i+1->e_ cs k=0:=fun N k hk=>by
   by_cases e:k=i
   ·subst e;exact N
   exact q2 k (by simp only;omega)
  refine⟨_,_,(nz c.clearance),iW ?_ ?_⟩<;>intro g1
  ·refine⟨?_,trivial⟩;rw[aa (by simp[g1])]at D;rw[J (by rw[D];decide),D];rfl
  refine⟨_,_,(nz c.width),iW ?_ ?_⟩<;>intro g2
  ·refine⟨?_,trivial⟩;rw[aa (by simp[g2])]at D;rw[J (by rw[D];decide),D];rfl
  rw[ae (by simp[g1,g2])]at D;apply iW<;>intro g3
  ·obtain⟨d,hd⟩:=ao (l:=cs) (i:=i-1) (by omega);refine⟨wO (by omega),(kl d),(idx (show (i:Int)-1=((i-1:Nat):Int) by omega) hd),?_⟩;rw[bn d hd (by omega)]at D;apply iW<;>intro W
   ·refine⟨?_,trivial⟩;have W:(eG c.name d.name||decide (c.name=d.name))=true:=by simpa [eG] using W
    rw[W,ae rfl]at D;rw[J (by rw[D];decide),D];rfl
   have W:(eG c.name d.name||decide (c.name=d.name))=false:=by simpa [eG] using W
   rw[W,aa (by decide)]at D;exact⟨wO (by omega),(i+1,dv),_,aA.refl _ _,⟨by omega,VJ D,s1⟩,by omega,⟨Z,Z,Z,Z,Z,Y⟩,⟨Z,Y⟩⟩
  have N:i=0:=by omega
  have U:cg (cs.map Class.name) i=false:=by
   subst N;simp only[cg,aD,R];rfl
  rw[U,aa (by decide)]at D;exact⟨wO (by omega),(i+1,dv),_,aA.refl _ _,⟨by omega,VJ D,s1⟩,by omega,⟨Z,Z,Z,Z,Z,Y⟩,⟨Z,Y⟩⟩
 have e1:i=cs.length:=by simp only at q1;omega
 refine⟨?_,trivial⟩;rw[bR fun k _ hk=>q2 k (by simp only;omega)];rfl
def i_(al:List Gj)(i:Nat):Int:=match al[i]? with
 | some a=>if (decide (-1<=a.layer)&&decide (a.layer<=15))=true then (if Reg.bA a.region=0 then (if iG a.clearance=true then 0 else 1) else Reg.bA a.region) else 1
 | none=>0
def ja:List Gj->Nat
 | []=>0
 | a::r=>a.region.length+ja r
theorem IB(a b:List Gj):ja (a++b)=ja a+ja b:=by
 induction a with
 | nil=>simp[ja]
 | cons x r ih=>simp[ja,ih];omega
def KV(r:u6):Bool:=iG r.clearance&&iG r.width&&iG r.ring&&iG r.edge&&iG r.holeGap
def jb(cs:List Class):Int:=if 50<cs.length then 2 else bw (e_ cs) 0 cs.length
def vH(al:List Gj):Int:=if 50<al.length then 2 else if bw (i_ al) 0 al.length=0 then (if 2000<ja al then 2 else 0) else bw (i_ al) 0 al.length
def jW(r:u6):Int:=if KV r=true then (if jb r.classes=0 then vH r.areas else jb r.classes) else 1
theorem KW{l:List aB}(h:Reg.bA l=0):l.length<=1000000:=by
 unfold Reg.bA at h;by_cases z:Reg.eo l=0
 ·have:=(Reg.vD z).1;omega
 rw[aa z]at h;exact absurd h z
def xj(r:u6):Prop:=(∀c∈r.classes,ME c)/\r.classes.length<=1048576/\r.areas.length<=1048576
theorem yU(r:u6)(ho:xj r):ai C 29 [.pv (.ag (rl r))] (.p (i64 (jW r))) []:=by
 refine fW hC Tryz.func29 rfl (by kernel_rfl) fun _=>?_;obtain⟨o1,o2,o3⟩:=ho;refine⟨_,_,(F9 [r.clearance,r.width,r.ring,r.edge,r.holeGap] (by simp)),?_⟩;have nb:([r.clearance,r.width,r.ring,r.edge,r.holeGap].any fun n=>!iG n)=!KV r:=by
  simp[KV,Bool.not_and,Bool.or_assoc]
 rw[nb];apply iW<;>intro O
 ·refine⟨?_,trivial⟩;rw[jW,aa (by simp[O])];rfl
 rw[jW,ae (by simpa using O)];refine⟨_,_,(vG r.classes o1 o2),iW ?_ ?_⟩<;>intro R
 ·refine⟨?_,trivial⟩;rw[aa (show ¬jb r.classes=0 from by simpa [jb] using R)];rfl
 rw[ae (show jb r.classes=0 from by simpa [jb] using R)];have lm:=an r.areas arr;apply iW<;>intro h2
 ·refine⟨?_,trivial⟩;rw[vH,ae (by omega)];rfl
 rw[vH,aa (by omega)];refine aP (fun i:Nat=>i<=r.areas.length/\(∀k,k<i->i_ r.areas k=0)/\ja (r.areas.take i)<=i*1000000) (fun i=>[(4,.p (i64 (ja (r.areas.take i)))),(31,.p (.sl (r.areas.map arr))),(32,.p (i64 (r.areas.map arr).length)),(33,.p (i64 i))]) (fun _=>[]) (fun i=>r.areas.length-i) 0 _ (aA.refl _ _) ⟨ak _,fun k h=>by omega,by simp[ja]⟩ ⟨Z,Z,Z,Z,Y⟩ trivial fun i hi t h=>?_;obtain⟨q1,J,q3⟩:=hi;apply iW<;>intro h3
 ·obtain⟨a,N⟩:=ao (l:=r.areas) (i:=i) (by omega);have I:i_ r.areas i≠0->bw (i_ r.areas) 0 r.areas.length=i_ r.areas i:=fun hb=>nT hb (fun k _ hk=>J k hk) (ak _) (by omega);have z:i_ r.areas i=(if (decide (-1<=a.layer)&&decide (a.layer<=15))=true then (if Reg.bA a.region=0 then (if iG a.clearance=true then 0 else 1) else Reg.bA a.region) else 1):=by rw[i_,N]
  have la:=an a.region rc;refine⟨(arr a),(idx rfl N),_,_,(wX a.layer (-1) 15),iW ?_ ?_⟩<;>intro U
  ·refine⟨?_,trivial⟩;rw[aa (by simpa using U)]at z;rw[I (by rw[z];decide),z];rfl
  rw[ae (by simpa using U)]at z;refine⟨_,_,(kP a.region),iW ?_ ?_⟩<;>intro D
  ·refine⟨?_,trivial⟩;have D:¬Reg.bA a.region=0:=by simpa using D
   rw[aa D]at z;rw[I (by rw[z];exact D),z,aa D]
  have D:Reg.bA a.region=0:=by simpa using D
  rw[ae D]at z;have hl:=KW D;refine⟨_,_,(nz a.clearance),iW ?_ ?_⟩<;>intro V
  ·refine⟨?_,trivial⟩;rw[aa (by simp[V])]at z;rw[I (by rw[z];decide),z];rfl
  rw[ae (by simpa using V)]at z;have s1:ja (r.areas.take (i+1))=ja (r.areas.take i)+a.region.length:=by
   rw[bq N,IB];simp[ja]
  refine⟨wO (by omega),wO (by omega),(i+1),_,aA.refl _ _,⟨by omega,fun k hk=>?_,by omega⟩,by omega,⟨bI (by omega),Z,Z,Z,Y⟩,trivial⟩;by_cases e:k=i
  ·subst e;exact z
  exact J k (by omega)
 have e:i=r.areas.length:=by omega
 subst e;have z0:bw (i_ r.areas) 0 r.areas.length=0:=bR fun k _ hk=>J k (by omega);rw[ae z0];have W:r.areas.take r.areas.length=r.areas:=jR;apply iW<;>intro h7
 ·refine⟨?_,trivial⟩;rw[W]at h7;rw[ae (by omega)];rfl
 refine⟨?_,trivial⟩;rw[W]at h7;rw[aa (by omega)];rfl
end M
end Go.Proofs.YtihgjolmpjjblaaGreatDoor
