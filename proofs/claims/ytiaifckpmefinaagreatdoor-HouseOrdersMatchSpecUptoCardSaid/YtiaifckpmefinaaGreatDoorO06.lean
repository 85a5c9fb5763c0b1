/- Part 6 of 14 of the proof of HouseOrdersMatchSpec (the names are shortened by a program: the size of a claim is limited). -/
import Derived.Test.YtiaifckpmefinaaGreatDoorO05
import Derived.Shelf.SlSortCmp.WholeK
import Derived.Deep.Slices
import Derived.Shelf.SlSortCmp.NoneTotal
import Derived.Sort.Walk0
set_option linter.unusedVariables false
set_option linter.unusedSimpArgs false
set_option maxRecDepth 100000
set_option maxHeartbeats 8000000
namespace Go.AM
open Go.RowKit
theorem wa {α:Type} {k:Nat}:∀{L:List (List α)} {a:Nat} {r:List α} {j:Nat} {v:α},(∀r∈L,r.length=k)->L[a]?=some r->r[j]?=some v->L.flatten[a*k+j]?=some v:=by
 intro L
 induction L with
 | nil=>intro a r j v _ h;simp at h
 | cons x L ih=>
  intro a r j v hk h1 h2
  have hx:=hk x (by simp)
  cases a with
  | zero=>
   simp at h1
   subst h1
   rw[List.flatten_cons,Nat.zero_mul,Nat.zero_add,List.getElem?_append_left (aW h2)]
   exact h2
  | succ a=>
   rw[List.flatten_cons,Nat.succ_mul,List.getElem?_append_right (by omega)]
   have:=ih (a:=a) (r:=r) (j:=j) (v:=v) (fun r hr=>hk r (by simp[hr])) (by simpa using h1) h2
   rw[<-this]
   congr 1
   omega
theorem iG {α:Type} {k:Nat}:∀{L:List (List α)},(∀r∈L,r.length=k)->L.flatten.length=L.length*k:=by
 intro L
 induction L with
 | nil=>intro _;simp
 | cons x L ih=>
  intro hk
  rw[List.flatten_cons,List.length_append,ih fun r hr=>hk r (by simp[hr]),hk x (by simp),List.length_cons,Nat.succ_mul]
  omega
def bD (L:List (List Value)):List (List PV):=L.map fun r=>r.map PV.im
theorem uY {P:Program} {S:Nat->Prop} {w:World} {L:List (List Value)} {k:Nat} (hk:∀r∈L,r.length=k) {xs:List Value} (hl:xs.length=L.length*k) (h:∀(a:Nat) r (j:Nat) x,(bD L)[a]?=some r->r[j]?=some x->∃u,xs[a*k+j]?=some u/\bu S w x u):xs=L.flatten:=by
 have Lp:=iG hk
 apply List.ext_getElem?
 intro q
 by_cases hq:q < L.length*k
 ·have EK:0 < k:=Nat.pos_of_ne_zero fun e=>by rw[e] at hq;simp at hq
  have ha:q / k < L.length:=(Nat.div_lt_iff_lt_mul EK).2 hq
  have hj:q % k < k:=Nat.mod_lt _ EK
  have hr:L[q / k]?=some L[q / k]:=List.getElem?_eq_getElem ha
  have wV:=hk _ (List.getElem_mem ha)
  have hv:L[q / k][q % k]?=some (L[q / k][q % k]'(by omega)):=List.getElem?_eq_getElem _
  have e:q / k*k+q % k=q:=by rw[Nat.mul_comm];exact Nat.div_add_mod q k
  obtain⟨u,h1,h2⟩:=h (q / k) _ (q % k) _ (by unfold bD;rw[List.getElem?_map,hr];rfl) (by rw[List.getElem?_map,hv];rfl)
  rw[e] at h1
  have h3:=wa hk hr hv
  rw[e] at h3
  rw[h1,h3,h2.b_]
 rw[List.getElem?_eq_none (by omega),List.getElem?_eq_none (by omega)]
theorem uZ {S:Nat->Prop} {w:World} {L:List (List Value)} {k:Nat} (hk:∀r∈L,r.length=k):∀(a:Nat) r (j:Nat) x,(bD L)[a]?=some r->r[j]?=some x->∃u,L.flatten[a*k+j]?=some u/\bu S w x u:=by
 intro a r j x h1 h2
 unfold bD at h1
 rw[List.getElem?_map] at h1
 obtain⟨r0,h3,rfl⟩:=Option.map_eq_some_iff.1 h1
 rw[List.getElem?_map] at h2
 obtain⟨v,h4,rfl⟩:=Option.map_eq_some_iff.1 h2
 exact⟨v,wa hk h3 h4,.im v⟩
theorem A6 {L:List (List Value)} {k:Nat} (hk:∀r∈L,r.length=k):∀r∈bD L,r.length=k:=by
 intro r hr
 obtain⟨r0,h,rfl⟩:=List.mem_map.1 hr
 rw[List.length_map,hk r0 h]
def nD (w:World) (g n:Nat) (F:Array Value) (os:Array Obj):World:=Sort.grow (Sort.putRow id (Sort.ahead w n) g 0 F) os
theorem sN (w:World) (g n:Nat) (F:Array Value) (os:Array Obj):(nD w g n F os).os=w.os/\(nD w g n F os).tape=w.tape/\(nD w g n F os).output=w.output/\w.heap.size<=(nD w g n F os).heap.size/\∀k,k < w.heap.size->(nD w g n F os).heap[k]?=if k=g then (w.heap[k]?).map (Sort.onCells (Sort.putCells id 0 F)) else w.heap[k]?:=by
 refine⟨rfl,rfl,rfl,?_,fun k hk=>?_⟩
 ·simp[nD,Sort.grow,Sort.putRow,Sort.mapBlock,Sort.ahead]
 simp only[nD,Sort.grow,Sort.putRow,Sort.mapBlock,Sort.ahead]
 rw[Array.getElem?_append_left (by simpa using hk),Array.getElem?_modify]
 by_cases e:g=k
 ·rw[if_pos e,if_pos e.symm]
 rw[if_neg e,if_neg fun h=>e h.symm]
theorem pb (F cur:Array Value) (h:F.size<=cur.size):(Sort.putCells id 0 F cur).size=cur.size/\(Sort.putCells id 0 F cur).toList.take F.size=F.toList:=by
 refine⟨by simp[Sort.putCells],?_⟩
 apply List.ext_getElem?
 intro j
 rw[List.getElem?_take]
 split
 ·rename_i hj
  rw[Array.getElem?_toList,Array.getElem?_toList]
  simp only[Sort.putCells,Array.getElem?_mapIdx]
  rw[Array.getElem?_eq_getElem (by omega:j < cur.size),Array.getElem?_eq_getElem hj,Option.map_some,if_pos ⟨Nat.zero_le _,by omega⟩,Nat.sub_zero,getElem!_pos F j hj]
  rfl
 rename_i hj
 rw[List.getElem?_eq_none (by simpa using hj)]
theorem Cj {w w':World} {e:TypeId} {es dw:List (List PV)} {v0:Value} {zs:List Value} (hs:w.heap.size<=w'.heap.size) (h:∀g,cW v0=some g->g < w.heap.size/\Mv w (.row e es::zs.map fun a=>.pv (.im a)) (#[v0]++zs.toArray) g):oE w w' (.row e es::zs.map fun a=>.pv (.im a)) [.row dw] (#[v0]++zs.toArray):=by
 have M8:∀i g,du w' (.row e es::zs.map fun a=>.pv (.im a)) [.row dw] (#[v0]++zs.toArray).toList i g->i=0/\cW v0=some g:=fun i g hg=>by
  simp only[Array.toList_append] at hg
  cases i with
  | zero=>exact⟨rfl,aY rfl hg.2⟩
  | succ i=>exact (o5 zs i g hg).elim
 exact⟨fun i g hg=>by obtain⟨h1,h2⟩:=h g (M8 i g hg).2;exact⟨Nat.lt_of_lt_of_le h1 hs,.inr h2⟩,fun i j g hi hj=>by rw[(M8 i g hi).1,(M8 j g hj).1]⟩
theorem sO {C:Ctx} (hC:ct C) {f:FuncId} (e:TypeId) (ti:TI) (hT:C.T e=some ti) (EK:0 < ti.size) (zs:List Value) (L L':List (List Value)) (hL:∀r∈L,r.length=ti.size) (FP:∀r∈L',r.length=ti.size) (hlen:L'.length=L.length)
  (h1:∀r∈L',∀v∈r,v.oneCell'=true) (hf:rE C f)
  (hnil:L=[]->∀w,Calls C.P f (#[.slice none 0 0]++zs.toArray) w fun e' w'=>e'=.returned (.tuple #[])/\w'=w)
  (h:∀S w cW cap,C.E S w->cW < w.heap.size->L.length<=cap->(∀j v,L.flatten[j]?=some v->w.cell? ⟨cW,j,none⟩=some v/\w.frozen? ⟨cW,j,none⟩=false)->
   Calls C.P f (#[.slice (some ⟨cW,0,none⟩) L.length cap]++zs.toArray) w fun e' w'=>e'=.returned (.tuple #[])/\∃n os,w'=nD w cW n L'.flatten.toArray os):
  aw C f (.row e (bD L)::zs.map fun a=>.pv (.im a)) (.tu []) [.row (bD L')]:=by
 refine⟨hf,fun S w vs hE hS hl hr _=>?_⟩
 obtain⟨v0,vr,rfl⟩:∃v0 vr,vs=#[v0]++vr:=by
  obtain⟨l⟩:=vs
  cases l with
  | nil=>simp at hl
  | cons v0 l=>exact⟨v0,⟨l⟩,by simp⟩
 have M9:vr=zs.toArray:=rF (S:=S) (w:=w) (P:=C.P) (by simp at hl ⊢;omega) fun j x v hx hv=>hr (j+1) x v (by simpa using hx) (by rw[Array.getElem?_append_right (by simp)];simpa using hv)
 subst M9
 have a7:a_ C.P w (bu S w) e (bD L) v0/\∀g,cW v0=some g->¬S g:=hr 0 _ v0 rfl (by simp)
 obtain⟨⟨i,xs,hi,hpos,hown,ON,gO,hcell⟩,Lq⟩:=a7
 obtain⟨info,z,g1,g2,_⟩:=hC.gw e ti hT
 rw[hi] at g1;injection g1 with g1;subst g1
 have oa:(bD L).length=L.length:=List.length_map ..
 have wb:(bD L').length=L.length:=by rw[<-hlen];exact List.length_map ..
 have hx:xs=L.flatten:=uY (P:=C.P) (k:=i.size) (by rw[g2];exact hL) (by rw[<-oa];exact hown.1) hcell
 have Ks:∀g,cW v0=some g->Mv w (.row e (bD L)::zs.map fun a=>.pv (.im a)) (#[v0]++zs.toArray) g:=fun g hg=>⟨0,_,v0,rfl,by simp,rfl,.inl hg⟩
 have tail:∀w':World,nW S w' C.P (.row e (bD L)) (.row (bD L')) v0->fx S w' C.P (.row e (bD L)::zs.map fun a=>.pv (.im a)) [.row (bD L')] (#[v0]++zs.toArray).toList:=fun w' Gq=>by
  simp only[Array.toList_append]
  exact⟨Gq,vO zs⟩
 have Kt:∀w':World,w.heap.size<=w'.heap.size->oE w w' (.row e (bD L)::zs.map fun a=>.pv (.im a)) [.row (bD L')] (#[v0]++zs.toArray):=fun w' hs=>Cj hs (fun g hg=>⟨(hown.lt g (by rw[eB (ec hown).choose_spec.choose_spec];exact hg)).2,Ks g hg⟩)
 rcases hown.2 with⟨q1,q2⟩ | ⟨g,cap,cur,q1,q2,q3,q4,q5,q6,q7⟩
 ·have AT:L=[]:=List.eq_nil_of_length_eq_zero (by rw[<-oa];exact q2)
  subst q1
  refine (hnil AT w).mono fun e' w' ⟨he,hw⟩=>?_
  subst hw
  refine⟨.tuple #[],S,he,Fr.refl _ _,fun _ h=>h,hS,fun b hb=>.inl hb,⟨#[],rfl,rfl,by simp⟩,tail _ ⟨?_,Lq⟩,Kt _ (Nat.le_refl _),fun g h=>by cases h⟩
  have H9:L'=[]:=List.eq_nil_of_length_eq_zero (by rw[hlen,AT];rfl)
  subst H9
  exact⟨i,[],hi,hpos,World.ownsRow_nil _ _ _ _,by simp[bD],by simp,by simp[bD]⟩
 subst q1
 have Ck:g < w.heap.size:=(Array.getElem?_eq_some_iff.1 q3).1
 have M_:L'.flatten.toArray.size=L.length*i.size:=by rw[List.size_toArray,iG FP,hlen,g2]
 have kS:L.length*i.size<=cur.size:=by rw[q6];exact Nat.mul_le_mul_right _ (by rw[<-oa];exact q4)
 have hh:=h S w g cap hE Ck (by rw[<-oa];exact q4) fun j v hj=>by
  have pC:j < L.length*i.size:=by have:=aW hj;rw[iG hL] at this;rw[g2];exact this
  have:cur[j]?=some v:=by
   rw[<-hx,<-q7] at hj
   rw[List.getElem?_take] at hj
   split at hj
   ·simpa using hj
   cases hj
  exact⟨by rw[cell_of_row w g j cur e (0,0) q3];exact this,by simp[World.frozen?,q3]⟩
 rw[<-oa] at hh
 refine hh.mono fun e' w' ⟨he,n,os,hw⟩=>?_
 subst hw
 obtain⟨p1,p2,p3,p4,p5⟩:=sN w g n L'.flatten.toArray os
 obtain⟨c1,c2⟩:=pb L'.flatten.toArray cur (by omega)
 have lJ:(nD w g n L'.flatten.toArray os).heap[g]?=some (.cells (Sort.putCells id 0 L'.flatten.toArray cur) e (0,0)):=by rw[p5 g Ck,if_pos rfl,q3];rfl
 refine⟨.tuple #[],S,he,⟨p1,p2,p3,p4,fun k hk hn=>?_⟩,fun _ h=>h,fun b hb=>Nat.lt_of_lt_of_le (hS b hb) p4,fun b hb=>.inl hb,⟨#[],rfl,rfl,by simp⟩,tail _ ⟨?_,Lq⟩,Kt _ p4,fun g h=>by cases h⟩
 ·rw[p5 k hk,if_neg]
  intro e
  subst e
  exact hn (Ks k rfl)
 refine⟨i,L'.flatten,hi,hpos,⟨by rw[wb,<-hlen,g2];exact iG FP,.inr ⟨g,cap,_,by rw[wb,oa],Nat.zero_le _,lJ,by rw[wb,<-oa];exact q4,q5,by rw[c1];exact q6,?_⟩⟩,by rw[g2];exact A6 FP,fun u hu=>?_,uZ (by rw[g2];exact FP)⟩
 ·rw[wb,<-M_]
  exact c2
 obtain⟨r,JK,oC⟩:=List.mem_flatten.1 hu
 exact h1 r JK u oC
theorem zS {C:Ctx} (hC:ct C) {f:FuncId} (e:TypeId) (ti:TI) (hT:C.T e=some ti) (EK:0 < ti.size) (zs:List Value) (L L':List (List Value)) (m:Nat) (hm:m<=L.length) (hL:∀r∈L,r.length=ti.size) (FP:∀r∈L',r.length=ti.size) (hlen:L'.length=L.length)
  (h1:∀r∈L',∀v∈r,v.oneCell'=true) (hf:rE C f)
  (hnil:L=[]->∀w,Calls C.P f (#[.slice none 0 0]++zs.toArray) w fun e' w'=>e'=.returned (.slice none 0 0)/\w'=w)
  (h:∀S w cW cap,C.E S w->cW < w.heap.size->L.length<=cap->(∀j v,L.flatten[j]?=some v->w.cell? ⟨cW,j,none⟩=some v/\w.frozen? ⟨cW,j,none⟩=false)->
   Calls C.P f (#[.slice (some ⟨cW,0,none⟩) L.length cap]++zs.toArray) w fun e' w'=>e'=.returned (.slice (some ⟨cW,0,none⟩) m cap)/\∃n os,w'=nD w cW n L'.flatten.toArray os):
  aw C f (.row e (bD L)::zs.map fun a=>.pv (.im a)) (.own e (bD (L'.take m))) [.gone]:=by
 refine⟨hf,fun S w vs hE hS hl hr _=>?_⟩
 obtain⟨v0,vr,rfl⟩:∃v0 vr,vs=#[v0]++vr:=by
  obtain⟨l⟩:=vs
  cases l with
  | nil=>simp at hl
  | cons v0 l=>exact⟨v0,⟨l⟩,by simp⟩
 have M9:vr=zs.toArray:=rF (S:=S) (w:=w) (P:=C.P) (by simp at hl ⊢;omega) fun j x v hx hv=>hr (j+1) x v (by simpa using hx) (by rw[Array.getElem?_append_right (by simp)];simpa using hv)
 subst M9
 have a7:a_ C.P w (bu S w) e (bD L) v0/\∀g,cW v0=some g->¬S g:=hr 0 _ v0 rfl (by simp)
 obtain⟨⟨i,xs,hi,hpos,hown,ON,gO,hcell⟩,Lq⟩:=a7
 obtain⟨info,z,g1,g2,_⟩:=hC.gw e ti hT
 rw[hi] at g1;injection g1 with g1;subst g1
 have oa:(bD L).length=L.length:=List.length_map ..
 have wb:(bD L').length=L.length:=by rw[<-hlen];exact List.length_map ..
 have hx:xs=L.flatten:=uY (P:=C.P) (k:=i.size) (by rw[g2];exact hL) (by rw[<-oa];exact hown.1) hcell
 have Ks:∀g,cW v0=some g->Mv w (.row e (bD L)::zs.map fun a=>.pv (.im a)) (#[v0]++zs.toArray) g:=fun g hg=>⟨0,_,v0,rfl,by simp,rfl,.inl hg⟩
 have tail:∀w':World,fx S w' C.P (.row e (bD L)::zs.map fun a=>.pv (.im a)) [.gone] (#[v0]++zs.toArray).toList:=fun w'=>by
  simp only[Array.toList_append]
  exact⟨trivial,vO zs⟩
 have D7:∀(w':World) (i g:Nat),¬du w' (.row e (bD L)::zs.map fun a=>.pv (.im a)) [.gone] (#[v0]++zs.toArray).toList i g:=fun w' i g hk=>by
  simp only[Array.toList_append] at hk
  cases i with
  | zero=>cases hk.1
  | succ i=>exact o5 zs i g hk
 have Kt:∀w':World,oE w w' (.row e (bD L)::zs.map fun a=>.pv (.im a)) [.gone] (#[v0]++zs.toArray):=fun w'=>⟨fun i g h=>(D7 w' i g h).elim,fun i j g h=>(D7 w' i g h).elim⟩
 have Ku:bD (L'.take m)=(bD L').take m:=by unfold bD;rw[List.map_take]
 rcases hown.2 with⟨q1,q2⟩ | ⟨g,cap,cur,q1,q2,q3,q4,q5,q6,q7⟩
 ·have AT:L=[]:=List.eq_nil_of_length_eq_zero (by rw[<-oa];exact q2)
  subst q1
  refine (hnil AT w).mono fun e' w' ⟨he,hw⟩=>?_
  subst hw
  have H9:L'=[]:=List.eq_nil_of_length_eq_zero (by rw[hlen,AT];rfl)
  subst H9
  refine⟨.slice none 0 0,S,he,Fr.refl _ _,fun _ h=>h,hS,fun b hb=>.inl hb,⟨?_,fun g hg=>by cases hg⟩,tail _,Kt _,fun g _ hg=>by cases aY rfl hg⟩
  rw[List.take_nil]
  exact⟨i,[],hi,hpos,World.ownsRow_nil _ _ _ _,by simp[bD],by simp,by simp[bD]⟩
 subst q1
 have Ck:g < w.heap.size:=(Array.getElem?_eq_some_iff.1 q3).1
 have M_:L'.flatten.toArray.size=L.length*i.size:=by rw[List.size_toArray,iG FP,hlen,g2]
 have kS:L.length*i.size<=cur.size:=by rw[q6];exact Nat.mul_le_mul_right _ (by rw[<-oa];exact q4)
 have hh:=h S w g cap hE Ck (by rw[<-oa];exact q4) fun j v hj=>by
  have pC:j < L.length*i.size:=by have:=aW hj;rw[iG hL] at this;rw[g2];exact this
  have:cur[j]?=some v:=by
   rw[<-hx,<-q7] at hj
   rw[List.getElem?_take] at hj
   split at hj
   ·simpa using hj
   cases hj
  exact⟨by rw[cell_of_row w g j cur e (0,0) q3];exact this,by simp[World.frozen?,q3]⟩
 rw[<-oa] at hh
 refine hh.mono fun e' w' ⟨he,n,os,hw⟩=>?_
 subst hw
 obtain⟨p1,p2,p3,p4,p5⟩:=sN w g n L'.flatten.toArray os
 obtain⟨c1,c2⟩:=pb L'.flatten.toArray cur (by omega)
 have lJ:(nD w g n L'.flatten.toArray os).heap[g]?=some (.cells (Sort.putCells id 0 L'.flatten.toArray cur) e (0,0)):=by rw[p5 g Ck,if_pos rfl,q3];rfl
 have Kv:a_ C.P (nD w g n L'.flatten.toArray os) (bu S (nD w g n L'.flatten.toArray os)) e (bD L') (.slice (some ⟨g,0,none⟩) (bD L).length cap):=by
  refine⟨i,L'.flatten,hi,hpos,⟨by rw[wb,<-hlen,g2];exact iG FP,.inr ⟨g,cap,_,by rw[wb,oa],Nat.zero_le _,lJ,by rw[wb,<-oa];exact q4,q5,by rw[c1];exact q6,?_⟩⟩,by rw[g2];exact A6 FP,fun u hu=>?_,uZ (by rw[g2];exact FP)⟩
  ·rw[wb,<-M_]
   exact c2
  obtain⟨r,JK,oC⟩:=List.mem_flatten.1 hu
  exact h1 r JK u oC
 refine⟨_,S,he,⟨p1,p2,p3,p4,fun k hk hn=>?_⟩,fun _ h=>h,fun b hb=>Nat.lt_of_lt_of_le (hS b hb) p4,fun b hb=>.inl hb,⟨?_,fun g' lJ=>Lq g' lJ⟩,tail _,Kt _,fun g' _ lJ=>⟨?_,.inr (Ks g' (aY rfl lJ)),fun i=>D7 _ i g'⟩⟩
 ·rw[p5 k hk,if_neg]
  intro e
  subst e
  exact hn (Ks k rfl)
 ·rw[Ku]
  exact a_.front Kv rfl (by rw[oa];exact hm) rfl
 have lJ:=aY rfl lJ
 have:g=g':=by injection lJ
 rw[<-this]
 exact Nat.lt_of_lt_of_le Ck p4
end Go.AM
namespace Go.AM
open Go.RowKit Go.ChangeShapes
section
variable {H:Type} {enc:TypeId×Value->H} {P:Program} {w:World} {S:Nat->Prop}
def A7 (enc:TypeId×Value->H) (P:Program) (w:World) (S:Nat->Prop) (t:TypeId) (k:Nat) (Q:List PV->DataW H->Prop):Prop:=
 ∀n cs x,DataW.trod enc P w 0 (fun _=>true) true n t cs=some x->∃xs,xs.length=k/\cs.length=k/\(∀(i:Nat) c v,xs[i]?=some c->cs[i]?=some v->bu S w c v/\v.oneCell'=true)/\Q xs x.1
theorem one_cell {c:PV} {u:Value} (h:bu S w c u/\u.oneCell'=true):∀(i:Nat) c' v,[c][i]?=some c'->[u][i]?=some v->bu S w c' v/\v.oneCell'=true:=fun i c' v h1 h2=>by
 match i,h1,h2 with
 | 0,h1,h2=>cases h1;cases h2;exact h
 | n+1,h1,h2=>cases h1
theorem FQ {t:TypeId} (ht:P.underlying t=some (.int .i64)):A7 enc P w S t 1 fun xs d=>∃n:Int,xs=[.im (.int .i64 n)]/\d=.lit (.int .i64 n):=fun n cs x h=>by
 obtain⟨z,rfl,rfl,_⟩:=DataW.trod_int ht h
 exact⟨[.im (.int .i64 z)],rfl,rfl,one_cell ⟨.im _,rfl⟩,z,rfl,rfl⟩
theorem FR {t:TypeId} (ht:P.underlying t=some .string):A7 enc P w S t 1 fun xs d=>∃s:ByteArray,xs=[.im (.string s)]/\d=.lit (.string s.data.toList):=fun n cs x h=>by
 obtain⟨s,rfl,rfl,_⟩:=DataW.trod_string ht h
 exact⟨[.im (.string s)],rfl,rfl,one_cell ⟨.im _,rfl⟩,s,rfl,rfl⟩
theorem A8 {a:Addr} {v:Value} (h:w.cell? a=some v):a.spot=none/\a.block < w.heap.size:=by
 unfold World.cell? at h
 split at h
 ·rename_i c _ _ hh
  refine⟨?_,?_⟩
  ·cases hs:a.spot with
   | none=>rfl
   | some s=>rw[hs] at h;cases h
  rcases Nat.lt_or_ge a.block w.heap.size with h' | h'
  ·exact h'
  rw[Array.getElem?_eq_none h'] at hh;cases hh
 cases h
theorem Cl {t e:TypeId} {k:Nat} {Q:List PV->DataW H->Prop} (ht:P.underlying t=some (.slice e)) (hc:P.cellsOf e=k) (hk:0 < k) (hS:∀b,b < w.heap.size->S b) (he:A7 enc P w S e k Q):
  A7 enc P w S t 1 fun xs d=>∃(es:List (List PV)) (ds sp:List (DataW H)),xs=[.sl es]/\es.length=ds.length/\(d=.nil/\ds=[]\/d=.slice ds sp)/\∀(i:Nat) x y,es[i]?=some x->ds[i]?=some y->Q x y:=fun n cs x h=>by
 rcases Go.Deep.open_slice ht h with⟨rfl,rfl⟩ | ⟨a,len,cap,m,n,D,Pl,rfl,hb,hl,hm,C9,rfl,hx⟩
 ·exact⟨[.sl []],rfl,rfl,one_cell ⟨.nil _ _,rfl⟩,[],[],[],rfl,rfl,.inl ⟨rfl,rfl⟩,fun i x y h=>by cases h⟩
 have Mr:len<=m:=by rw[C9];split <;> omega
 rcases Nat.eq_zero_or_pos len with h0 | hpos
 ·subst h0
  exact⟨[.sl []],rfl,rfl,one_cell ⟨.nil _ _,rfl⟩,[],[],_,rfl,rfl,.inr rfl,fun i x y h=>by cases h⟩
 rw[hc] at hx
 have each:∀i,i < len->∃p:List PV×List Value,p.1.length=k/\p.2.length=k/\(∀j,j < k->w.cell? ((a.add (i*k)).add j)=p.2[j]?)/\(∀(j:Nat) c v,p.1[j]?=some c->p.2[j]?=some v->bu S w c v/\v.oneCell'=true)/\Q p.1 (D i):=fun i hi=>by
  obtain⟨jF,h1,h2⟩:=hx i (by omega)
  obtain⟨_,hlen,hcell⟩:=World.cells?_some h1
  obtain⟨xs,l1,l2,l3,l4⟩:=he _ _ _ h2
  exact⟨(xs,jF),l1,l2,hcell,l3,l4⟩
 obtain⟨F,hF⟩:=Go.Deep.choose_lt (α:=List PV×List Value) each
 have get:∀(i:Nat) e,((List.range len).map fun i=>(F i).1)[i]?=some e->i < len/\e=(F i).1:=fun i e h=>by
  rw[List.getElem?_map,Option.map_eq_some_iff] at h
  obtain⟨j,hj,rfl⟩:=h
  obtain⟨h1,h2⟩:=List.getElem?_eq_some_iff.1 hj
  rw[List.getElem_range] at h2
  subst h2
  exact⟨by simpa using h1,rfl⟩
 have cellOf:∀i j,i < len->j < k->w.cell? ((a.add (i*k)).add j)=some (((F i).2[j]?).getD .nilIface):=fun i j hi hj=>by
  obtain⟨_,l2,h3,_⟩:=hF i hi
  rw[h3 j hj,List.getElem?_eq_getElem (by omega)]
  rfl
 have hz:=A8 (cellOf 0 0 hpos hk)
 obtain⟨b,off,spot⟩:=a
 have tG:spot=none:=by simpa [Addr.add] using hz.1
 subst tG
 have H_:b < w.heap.size:=by simpa [Addr.add] using hz.2
 have a7:∀i j,((⟨b,off,none⟩:Addr).add (i*k)).add j=⟨b,off+i*k+j,none⟩:=fun i j=>by
  unfold Addr.add
  by_cases h1:i*k=0
  ·rw[if_pos h1,h1]
   by_cases h2:j=0
   ·rw[if_pos h2,h2];rfl
   rw[if_neg h2];rfl
  rw[if_neg h1]
  by_cases h2:j=0
  ·rw[if_pos h2,h2];rfl
  rw[if_neg h2]
 refine⟨[.sl ((List.range len).map fun i=>(F i).1)],rfl,rfl,one_cell ⟨?_,rfl⟩,(List.range len).map fun i=>(F i).1,(List.range len).map D,_,rfl,by simp,.inr rfl,fun i x y h1 h2=>?_⟩
 ·have hlen:((List.range len).map fun i=>(F i).1).length=len:=by simp
  have:=bu.sl (S:=S) (w:=w) ((List.range len).map fun i=>(F i).1) k b off cap (fun i j=>((F i).2[j]?).getD .nilIface) (by rw[hlen];exact hl) (hS b H_)
   (fun e J1=>by obtain⟨i,hi,rfl⟩:=List.mem_map.1 J1;exact (hF i (List.mem_range.1 hi)).1)
   (fun i e j x h1 h2=>by
    obtain⟨hi,rfl⟩:=get i e h1
    have hj:j < k:=by rw[<-(hF i hi).1];exact (List.getElem?_eq_some_iff.1 h2).1
    have hv:(F i).2[j]?=some (((F i).2[j]?).getD .nilIface):=by rw[List.getElem?_eq_getElem (by rw[(hF i hi).2.1];exact hj)];rfl
    exact⟨by rw[<-a7];exact cellOf i j hi hj,((hF i hi).2.2.2.1 j x _ h2 hv).2⟩)
   (fun i e j x h1 h2=>by
    obtain⟨hi,rfl⟩:=get i e h1
    have hj:j < k:=by rw[<-(hF i hi).1];exact (List.getElem?_eq_some_iff.1 h2).1
    have hv:(F i).2[j]?=some (((F i).2[j]?).getD .nilIface):=by rw[List.getElem?_eq_getElem (by rw[(hF i hi).2.1];exact hj)];rfl
    exact ((hF i hi).2.2.2.1 j x _ h2 hv).1)
  rw[hlen] at this
  exact this
 obtain⟨hi,rfl⟩:=get i x h1
 rw[List.getElem?_map,List.getElem?_range hi] at h2
 cases h2
 exact (hF i hi).2.2.2.2
instance:Inhabited PV:=⟨.sl []⟩
theorem jA {t:TypeId} {fs:Array Field} (ht:P.underlying t=some (.struct fs)) (gO:∀(i:Nat) (f:Field),fs[i]?=some f->f.offset=i/\P.cellsOf f.type=1) (hc:P.cellsOf t=fs.size) (Qs:Nat->List PV->DataW H->Prop)
  (hf:∀(i:Nat) (f:Field),fs[i]?=some f->A7 enc P w S f.type 1 (Qs i)):
  A7 enc P w S t fs.size fun xs d=>∃ds:List (DataW H),d=.agg ds/\ds.length=fs.size/\∀(i:Nat) x y,xs[i]?=some x->ds[i]?=some y->Qs i [x] y:=fun n cs x h=>by
 obtain⟨ys,m,_,rfl,hl,hlen,hy⟩:=DataW.trod_struct ht h
 rw[hc] at hl
 have each:∀i,i < fs.size->∃c:PV,∃y v,ys[i]?=some y/\cs[i]?=some v/\bu S w c v/\v.oneCell'=true/\Qs i [c] y.1:=fun i hi=>by
  have GQ:fs[i]?=some fs[i]:=Array.getElem?_eq_getElem hi
  obtain⟨ho,h1⟩:=gO i _ GQ
  have GR:=hy i _ GQ
  rw[ho,h1] at GR
  have Kw:ys[i]?=some ys[i]:=List.getElem?_eq_getElem (by omega)
  rw[Kw] at GR
  obtain⟨xs,l1,l2,l3,l4⟩:=hf i _ GQ _ _ _ GR
  have kS:cs[i]?=some cs[i]:=List.getElem?_eq_getElem (by omega)
  have hd:(cs.drop i).take 1=[cs[i]]:=by
   rw[List.drop_eq_getElem_cons (by omega)];rfl
  rw[hd] at l3
  obtain⟨c,rfl⟩:∃c,xs=[c]:=by
   match xs,l1 with
   | [c],_=>exact⟨c,rfl⟩
  exact⟨c,ys[i],cs[i],Kw,kS,(l3 0 _ _ rfl rfl).1,(l3 0 _ _ rfl rfl).2,l4⟩
 obtain⟨F,hF⟩:=Go.Deep.choose_lt (α:=PV) each
 refine⟨(List.range fs.size).map F,by simp,hl,fun i c v h1 h2=>?_,ys.map (·.1),rfl,by rw[List.length_map,hlen],fun i x y h1 h2=>?_⟩
 ·have hi:i < fs.size:=by have:=(List.getElem?_eq_some_iff.1 h1).1;simpa using this
  rw[List.getElem?_map,List.getElem?_range hi] at h1
  cases h1
  obtain⟨y,v',_,e2,e3,e4,_⟩:=hF i hi
  rw[h2] at e2
  cases e2
  exact⟨e3,e4⟩
 have hi:i < fs.size:=by have:=(List.getElem?_eq_some_iff.1 h1).1;simpa using this
 rw[List.getElem?_map,List.getElem?_range hi] at h1
 cases h1
 obtain⟨y',v',e1,_,_,_,e5⟩:=hF i hi
 rw[List.getElem?_map,e1] at h2
 cases h2
 exact e5
theorem FT {t:TypeId} {k:Nat} {Q:List PV->DataW H->Prop} (hd:A7 enc P w S t k Q) {vs:Array Value} {d:DataW H} {ps:List MemPlace} (h:DataW.Trod enc P w 0 (fun _=>true) true t (.agg vs) d ps):
  ∃xs,bu S w (.ag xs) (.agg vs)/\xs.length=k/\Q xs d:=by
 obtain⟨n,hn⟩:=h
 obtain⟨xs,l1,l2,l3,l4⟩:=hd _ _ _ hn
 have l2:vs.toList.length=k:=l2
 have get:∀(i:Nat) (v:Value),vs[i]?=some v->vs.toList[i]?=some v:=fun i v h=>by rw[Array.getElem?_toList];exact h
 refine⟨xs,.ag xs vs (by rw[l1,<-l2];simp) (fun u hu=>?_) fun i c v h1 h2=>(l3 i c v h1 (get i v h2)).1,l1,l4⟩
 obtain⟨i,hi⟩:=List.mem_iff_getElem?.1 hu
 have fC:i < xs.length:=by have:=(List.getElem?_eq_some_iff.1 hi).1;omega
 exact (l3 i _ u (List.getElem?_eq_getElem fC) hi).2
theorem zT {t:TypeId} {fs:Array Field} {k:Nat} {Q:List PV->DataW H->Prop} {r:Reach} {b0:Nat} (ht:P.underlying t=some (.struct fs)) (hd:A7 enc P w S t k Q) {v:Value} {d:DataW H} {ps:List MemPlace} (hv:Value.okWide P w r b0 t v) (h:DataW.Trod enc P w 0 (fun _=>true) true t v d ps):
  ∃xs,bu S w (.ag xs) v/\Q xs d:=by
 obtain⟨cs,rfl,_⟩:=Go.WideShapes.okWide_struct ht hv
 obtain⟨xs,h1,_,h2⟩:=FT hd h
 exact⟨xs,h1,h2⟩
theorem Kx (w:World) (xs:List PV) (vs:Array Value) (g:Nat):¬Mv w (xs.map Arg.pv) vs g:=by
 rintro⟨j,y,v,h1,_,h2,_⟩
 rw[List.getElem?_map,Option.map_eq_some_iff] at h1
 obtain⟨x,_,rfl⟩:=h1
 cases h2
def FU (S:Nat->Prop) (w:World) (xs:List PV) (vs:List Value):Prop:=xs.length=vs.length/\∀(j:Nat) x v,xs[j]?=some x->vs[j]?=some v->bu S w x v
theorem D8:FU S w [] []:=⟨rfl,fun j x v h=>by cases h⟩
theorem Cm {x:PV} {v:Value} {xs:List PV} {vs:List Value} (h:bu S w x v) (hr:FU S w xs vs):FU S w (x::xs) (v::vs):=⟨by rw[List.length_cons,List.length_cons,hr.1],fun j x' v' h1 h2=>by
 match j,h1,h2 with
 | 0,h1,h2=>cases h1;cases h2;exact h
 | j+1,h1,h2=>exact hr.2 j x' v' h1 h2⟩
theorem Ia {C:Ctx} {f:FuncId} {xs:List PV} {y:Value} (h:aw C f (xs.map Arg.pv) (.p (.im y)) []) {vs:Array Value} (hE:C.E (fun b=>b < w.heap.size) w) (hr:FU (fun b=>b < w.heap.size) w xs vs.toList):
  Calls C.P f vs w fun e w'=>e=.returned y/\Below w.heap.size w w':=by
 refine (h.2 (fun b=>b < w.heap.size) w vs hE (fun _ h=>h) (by rw[List.length_map,hr.1];simp) (fun j x v h1 h2=>?_) (fun i j x y v u g h1 _ _ _ h5=>?_)).mono ?_
 ·rw[List.getElem?_map,Option.map_eq_some_iff] at h1
  obtain⟨x,hx,rfl⟩:=h1
  exact hr.2 j x v hx (by rw[Array.getElem?_toList];exact h2)
 ·rw[List.getElem?_map,Option.map_eq_some_iff] at h1
  obtain⟨x,_,rfl⟩:=h1
  cases h5
 rintro e w' ⟨v,S',rfl,hf,_,_,_,hv,_⟩
 have hv:bu S' w' (.im y) v:=hv
 cases hv
 exact⟨rfl,hf.os,hf.tape,hf.output,hf.size,fun k hk=>hf.block k hk (Kx _ _ _ _)⟩
end
end Go.AM
namespace Go.Proofs.YtiaifckpmefinaaGreatDoor
namespace M
open Go.AM Go.RowKit Go.Lib Go.Sort
open bq (bw cv ff)
instance:Inhabited bw:=⟨⟨0,0,0,0⟩⟩
def cl (n:Int):Int:=max (-4611686018427387904) (min n 4611686018427387903)
theorem A9 (n:Int):-4611686018427387904<=cl n/\cl n<=4611686018427387903:=by unfold cl;omega
theorem qH {n:Int} (h:-4611686018427387904<=n/\n<=4611686018427387903):cl n=n:=by unfold cl;omega
def Bd (r:bw):Prop:=(-4611686018427387904<=r.x0/\r.x0<=4611686018427387903)/\(-4611686018427387904<=r.y0/\r.y0<=4611686018427387903)/\(-4611686018427387904<=r.x1/\r.x1<=4611686018427387903)/\(-4611686018427387904<=r.y1/\r.y1<=4611686018427387903)
def gg (r:bw):List Value:=[.int .i64 (cl r.x0),.int .i64 (cl r.y0),.int .i64 (cl r.x1),.int .i64 (cl r.y1)]
theorem FV {r:bw} (h:Bd r):(gg r).map PV.im=rc r:=by
 obtain⟨h1,h2,h3,h4⟩:=h
 simp only[gg,qH h1,qH h2,qH h3,qH h4]
 rfl
theorem qI {l:List bw} (h:∀r∈l,Bd r):bD (l.map gg)=l.map rc:=by
 unfold bD
 rw[List.map_map]
 exact List.map_congr_left fun r hr=>FV (h r hr)
theorem pc {l:List bw}:∀r∈l.map gg,r.length=4:=by
 intro r hr
 obtain⟨x,_,rfl⟩:=List.mem_map.1 hr
 rfl
theorem xM (d:Array bw):flatK gg 4 d=(d.toList.map gg).flatten.toArray:=by
 apply Array.ext_getElem?
 intro q
 have hlen:(d.toList.map gg).flatten.length=d.size*4:=by rw[iG (k:=4) pc];simp
 by_cases hq:q < d.size*4
 ·have h1:q / 4 < d.size:=by omega
  have h2:q % 4 < 4:=Nat.mod_lt _ (by omega)
  have e:q / 4*4+q % 4=q:=by omega
  have hg:=get_flatK gg 4 d q hq
  have hsz:(flatK gg 4 d).size=d.size*4:=by simp
  rw[Array.getElem?_eq_getElem (by omega),<-getElem!_pos (flatK gg 4 d) q (by omega),hg]
  have hr:(d.toList.map gg)[q / 4]?=some (gg d[q / 4]!):=by
   rw[List.getElem?_map,Array.getElem?_toList,Array.getElem?_eq_getElem h1,Option.map_some,getElem!_pos d _ h1]
  have hv:(gg d[q / 4]!)[q % 4]?=some ((gg d[q / 4]!)[q % 4]!):=by
   have h3:q % 4 < (gg d[q / 4]!).length:=h2
   rw[List.getElem?_eq_getElem h3,getElem!_pos (gg d[q / 4]!) (q % 4) h3]
  have:=wa (k:=4) pc hr hv
  rw[e] at this
  simpa using this.symm
 rw[Array.getElem?_eq_none (by simp;omega),Array.getElem?_eq_none (by simp only[List.size_toArray];omega)]
def D9 (a b:bw):Int:=cl a.y0 - cl b.y0
def zU (a b:bw):Int:=cl a.x0 - cl b.x0
theorem Lr (a b:bw):ltOf D9 a b=decide (cl a.y0 < cl b.y0):=by unfold ltOf D9;congr 1;exact propext ⟨fun h=>by omega,fun h=>by omega⟩
theorem Ls (a b:bw):ltOf zU a b=decide (cl a.x0 < cl b.x0):=by unfold ltOf zU;congr 1;exact propext ⟨fun h=>by omega,fun h=>by omega⟩
theorem Ky:SWO (ltOf D9) where
 irrefl x:=by rw[Lr];simp
 trans x y z h1 h2:=by rw[Lr] at *;simp at *;omega
 ntrans x y z h1 h2:=by rw[Lr] at *;simp at *;omega
theorem Kz:SWO (ltOf zU) where
 irrefl x:=by rw[Ls];simp
 trans x y z h1 h2:=by rw[Ls] at *;simp at *;omega
 ntrans x y z h1 h2:=by rw[Ls] at *;simp at *;omega
theorem D_ (x y:bw) (W:World):Calls Tryz.prog 262 #[.agg (gg x).toArray,.agg (gg y).toArray] W fun e w'=>e=.returned (.int .i64 (D9 x y))/\∃q KA,w'=grow (W.drewN q) KA:=by
 have h1:=A9 x.y0
 have h2:=A9 y.y0
 unfold gg D9
 generalize cl x.x0=a1 at *
 generalize cl x.y0=a2 at *
 generalize cl x.x1=a3 at *
 generalize cl x.y1=a4 at *
 generalize cl y.x0=b1 at *
 generalize cl y.y0=b2 at *
 generalize cl y.x1=b3 at *
 generalize cl y.y1=b4 at *
 go_enter Tryz.func262,Tryz.ntmps262
 go_wp2
 go_ret
 exact⟨rfl,0,_,by rw[alloc_eq_grow,alloc_eq_grow,grow_grow];rfl⟩
theorem Ea (x y:bw) (W:World):Calls Tryz.prog 295 #[.agg (gg x).toArray,.agg (gg y).toArray] W fun e w'=>e=.returned (.int .i64 (zU x y))/\∃q KA,w'=grow (W.drewN q) KA:=by
 have h1:=A9 x.x0
 have h2:=A9 y.x0
 unfold gg zU
 generalize cl x.x0=a1 at *
 generalize cl x.y0=a2 at *
 generalize cl x.x1=a3 at *
 generalize cl x.y1=a4 at *
 generalize cl y.x0=b1 at *
 generalize cl y.y0=b2 at *
 generalize cl y.x1=b3 at *
 generalize cl y.y1=b4 at *
 go_enter Tryz.func295,Tryz.ntmps295
 go_wp2
 go_ret
 exact⟨rfl,0,_,by rw[alloc_eq_grow,alloc_eq_grow,grow_grow];rfl⟩
def eI (cf:bw->bw->Int) (l:List bw):List bw:=(pdq (ltOf cf) l.toArray 0 l.toArray.size (Lib.bitLen l.toArray.size) true true).toList
theorem lh (cf:bw->bw->Int) (hO:SWO (ltOf cf)) (l:List bw):(eI cf l).Perm l/\(eI cf l).Pairwise fun a b=>ltOf cf b a=false:=by
 obtain⟨h1,h2⟩:=pdq_sorts (ltOf cf) hO l.toArray 0 l.toArray.size (Lib.bitLen l.toArray.size) true true (Nat.zero_le _) (Nat.le_refl _) (Or.inl rfl)
 obtain⟨p1,_,p3⟩:=h1
 have hp:(eI cf l).Perm l:=by
  have e1:∀d:Array bw,d.size=l.toArray.size->(d.extract 0 l.toArray.size).toList=d.toList:=fun d h=>by rw[<-h];simp
  rw[e1 _ p1,e1 _ rfl] at p3
  unfold eI
  simpa using p3
 refine⟨hp,?_⟩
 rw[List.pairwise_iff_getElem]
 intro i j hi hj CB
 have hs:(eI cf l).length=l.toArray.size:=by rw[hp.length_eq];simp
 have:=h2 i j (Nat.zero_le _) CB (by omega)
 unfold eI at hi hj ⊢
 simp only[Array.length_toList] at hi hj
 rw[getElem!_pos _ j hj,getElem!_pos _ i hi] at this
 simpa using this
theorem xN {l:List bw} (h:∀r∈l,Bd r):(eI D9 l).Perm l/\(eI D9 l).Pairwise fun a b=>a.y0<=b.y0:=by
 obtain⟨h1,h2⟩:=lh D9 Ky l
 refine⟨h1,h2.imp_of_mem fun {a b} ha hb zL=>?_⟩
 rw[Lr,qH (h b (h1.mem_iff.1 hb)).2.1,qH (h a (h1.mem_iff.1 ha)).2.1] at zL
 simpa using zL
theorem qJ {l:List bw} (h:∀r∈l,Bd r):(eI zU l).Perm l/\(eI zU l).Pairwise fun a b=>a.x0<=b.x0:=by
 obtain⟨h1,h2⟩:=lh zU Kz l
 refine⟨h1,h2.imp_of_mem fun {a b} ha hb zL=>?_⟩
 rw[Ls,qH (h b (h1.mem_iff.1 hb)).1,qH (h a (h1.mem_iff.1 ha)).1] at zL
 simpa using zL
theorem xO (cf:bw->bw->Int) (hO:SWO (ltOf cf)) (g:Nat) (eg:∀args w,(callFunc g args).run Tryz.prog w=.ok (.enter g args) w)
  (hcl:∀(x y:bw) (W:World),Calls Tryz.prog g #[.agg (gg x).toArray,.agg (gg y).toArray] W fun e w'=>e=.returned (.int .i64 (cf x y))/\∃q KA,w'=grow (W.drewN q) KA)
  (l:List bw) (hl:∀r∈l,Bd r) (hN:l.length < 4611686018427387904):aw C 261 [.row 221 (l.map rc),.pv (.im (.func (.func g) #[] #[]))] (.tu []) [.row ((eI cf l).map rc)]:=by
 obtain⟨hp,_⟩:=lh cf hO l
 have OO:∀r∈eI cf l,Bd r:=fun r hr=>hl r (hp.mem_iff.1 hr)
 have:=sO hC (f:=261) 221 _ rfl (by decide) [.func (.func g) #[] #[]] (l.map gg) ((eI cf l).map gg) pc pc (by rw[List.length_map,List.length_map,hp.length_eq])
  (fun r hr v hv=>by
   obtain⟨x,_,rfl⟩:=List.mem_map.1 hr
   simp only[gg,List.mem_cons,List.not_mem_nil,or_false] at hv
   rcases hv with rfl | rfl | rfl | rfl <;> rfl)
  ⟨_,Tryz.func261,rfl,rfl⟩
  (fun _ w=>AnyF.slices_SortFunc_none Tryz.laysSortRect none 0 (.func (.func g) #[] #[]) w)
  (fun S w cW cap hE hblk _ hcell=>by
   have hH:HoldsK gg 4 w cW 0 l.toArray:=by
    unfold HoldsK
    intro j hj
    rw[xM] at hj ⊢
    simp only[List.size_toArray] at hj
    have hv:(l.map gg).flatten[j]?=some ((l.map gg).flatten[j]'hj):=List.getElem?_eq_getElem hj
    obtain⟨h1,h2⟩:=hcell j _ hv
    rw[Nat.zero_add]
    refine⟨?_,h2⟩
    rw[h1]
    congr 1
    rw[getElem!_pos _ j (by simpa using hj)]
    simp
   have hc:=AnyQ.slices_SortFunc_eq Tryz.laysSortRect 4 (fun w=>(hC.gw 221 _ rfl).isAgg w) (fun w=>(hC.gw 221 _ rfl).sizeOf w) gg (fun _=>rfl) (fun x v hv=>by
    simp only[gg,List.mem_cons,List.not_mem_nil,or_false] at hv
    rcases hv with rfl | rfl | rfl | rfl <;> rfl) cf hO g #[] cW 0 cap l.toArray w eg (fun _ _ _ _ x y=>hcl x y _) hH hblk (by simpa using hN)
   have e:l.toArray.size=(l.map gg).length:=by simp
   rw[e] at hc
   refine hc.mono fun e' w' ⟨h1,n,os,h2⟩=>⟨h1,n,os,?_⟩
   rw[h2]
   unfold sortWorldK putRowK nD
   rw[xM,<-e]
   rfl)
 rw[qI hl,qI OO] at this
 exact this
theorem Ib (l:List bw) (hl:∀r∈l,Bd r) (hN:l.length < 4611686018427387904):aw C 261 [.row 221 (l.map rc),.pv (.im (.func (.func 262) #[] #[]))] (.tu []) [.row ((eI D9 l).map rc)]:=
 xO D9 Ky _ (enters_of Tryz.func262 (by kernel_rfl) rfl) D_ l hl hN
theorem Ic (l:List bw) (hl:∀r∈l,Bd r) (hN:l.length < 4611686018427387904):aw C 261 [.row 221 (l.map rc),.pv (.im (.func (.func 295) #[] #[]))] (.tu []) [.row ((eI zU l).map rc)]:=
 xO zU Kz _ (enters_of Tryz.func295 (by kernel_rfl) rfl) Ea l hl hN
theorem wc (d:Array Int) (hs:∀i j,i<=j->j < d.size->d[i]!<=d[j]!):∀m,m<=d.size->bq.gA (compactUpTo d m)/\(∀x,x∈compactUpTo d m↔∃j,j < m/\d[j]! = x):=by
 intro m
 induction m with
 | zero=>intro _;exact⟨by simp[compactUpTo,bq.gA],by simp[compactUpTo]⟩
 | succ m ih=>
  intro hm
  obtain⟨h1,h2⟩:=ih (by omega)
  rw[compactUpTo_succ]
  cases hk:keeps d m with
  | true=>
   have lZ:m=0\/d[m]!≠d[m - 1]!:=by simpa [keeps] using hk
   have fC:∀x∈compactUpTo d m,x < d[m]!:=by
    intro x hx
    obtain⟨j,hj,rfl⟩:=(h2 x).1 hx
    rcases lZ with h | h
    ·omega
    have a:=hs j (m - 1) (by omega) (by omega)
    have b:=hs (m - 1) m (by omega) (by omega)
    omega
   refine⟨?_,fun x=>?_⟩
   ·simp only[if_pos]
    exact List.pairwise_append.2 ⟨h1,by simp,fun a ha b hb=>by simp at hb;subst hb;exact fC a ha⟩
   simp only[if_pos,List.mem_append,List.mem_singleton,h2]
   constructor
   ·rintro (⟨j,hj,rfl⟩ | rfl)
    ·exact⟨j,by omega,rfl⟩
    exact⟨m,by omega,rfl⟩
   rintro⟨j,hj,rfl⟩
   by_cases e:j=m
   ·exact .inr (by rw[e])
   exact .inl ⟨j,by omega,rfl⟩
  | false=>
   have lZ:m≠0/\d[m]! = d[m - 1]!:=by simpa [keeps] using hk
   simp only[Bool.false_eq_true,if_neg,List.append_nil,not_false_eq_true]
   refine⟨h1,fun x=>?_⟩
   rw[h2]
   constructor
   ·rintro⟨j,hj,rfl⟩;exact⟨j,by omega,rfl⟩
   rintro⟨j,hj,rfl⟩
   by_cases e:j=m
   ·exact⟨m - 1,by omega,by rw[e];exact lZ.2.symm⟩
   exact⟨j,by omega,rfl⟩
theorem ue {zs:List Int} (hs:zs.Pairwise (·<=·)):bq.gA (compact zs)/\∀x,x∈compact zs↔x∈zs:=by
 have hg:∀i (h:i < zs.length),zs.toArray[i]! = zs[i]:=fun i h=>by rw[getElem!_pos _ i (by simpa using h)];simp
 obtain⟨h1,h2⟩:=wc zs.toArray (fun i j CB hj=>by
  have hj:j < zs.length:=by simpa using hj
  rw[hg i (by omega),hg j hj]
  by_cases e:i=j
  ·subst e;omega
  exact List.pairwise_iff_getElem.1 hs i j (by omega) hj (by omega)) zs.length (by simp)
 refine⟨h1,fun x=>(h2 x).trans ?_⟩
 constructor
 ·rintro⟨j,hj,rfl⟩;rw[hg j hj];exact List.getElem_mem hj
 intro hx
 obtain⟨j,hj,rfl⟩:=List.getElem_of_mem hx
 exact⟨j,hj,hg j hj⟩
def encI (n:Int):List Value:=[.int .i64 n]
theorem pd {l:List Int}:∀r∈l.map encI,r.length=1:=by
 intro r hr
 obtain⟨x,_,rfl⟩:=List.mem_map.1 hr
 rfl
theorem ll (l:List Int):bD (l.map encI)=l.map fun n=>[i64 n]:=by
 unfold bD;rw[List.map_map];rfl
theorem p7 (l:List Int):(l.map encI).flatten=l.map (Value.int .i64):=by
 induction l with
 | nil=>rfl
 | cons a l ih=>rw[List.map_cons,List.flatten_cons,ih];rfl
theorem sP (w:World) (b n:Nat) (l:List Int):putRow (Value.int .i64) (Sort.ahead w n) b 0 l.toArray=putRow id (Sort.ahead w n) b 0 (l.map (Value.int .i64)).toArray:=by
 unfold putRow
 refine mapBlock_congr _ _ _ _ fun c _ _ _=>?_
 apply Array.ext_getElem?
 intro k
 simp only[putCells,Array.getElem?_mapIdx,List.size_toArray,List.length_map]
 cases c[k]? with
 | none=>rfl
 | some x=>
  simp only[Option.map_some]
  by_cases h:0<=k/\k < 0+l.length
  ·rw[if_pos h,if_pos h]
   congr 1
   rw[getElem!_pos _ (k - 0) (by simp;omega),getElem!_pos _ (k - 0) (by simp;omega)]
   simp
  rw[if_neg h,if_neg h]
theorem sQ {w:World} {cW:Nat} {l:List Int} (h:∀j v,(l.map encI).flatten[j]?=some v->w.cell? ⟨cW,j,none⟩=some v/\w.frozen? ⟨cW,j,none⟩=false):Holds (Value.int .i64) w cW 0 l.toArray:=by
 intro j hj
 have G_:j < l.length:=by simpa using hj
 rw[p7] at h
 obtain⟨h1,h2⟩:=h j (.int .i64 l[j]) (by rw[List.getElem?_map,List.getElem?_eq_getElem G_];rfl)
 rw[Nat.zero_add,h1]
 refine⟨?_,h2⟩
 rw[getElem!_pos _ j hj]
 simp
def qK (l:List Int):List Int:=l.mergeSort fun x y=>decide (x<=y)
theorem Cn (l:List Int) (hN:l.length < 4611686018427387904):aw C 14 [.row 3 (l.map fun n=>[i64 n])] (.tu []) [.row ((qK l).map fun n=>[i64 n])]:=by
 have:=sO hC (f:=14) 3 _ rfl (by decide) [] (l.map encI) ((qK l).map encI) pd pd (by rw[List.length_map,List.length_map,qK,List.length_mergeSort])
  (fun r hr v hv=>by
   obtain⟨x,_,rfl⟩:=List.mem_map.1 hr
   simp only[encI,List.mem_singleton] at hv
   rw[hv];rfl)
  ⟨_,Tryz.func14,rfl,rfl⟩
  (fun _ w=>Tryz.slices_Sort_int_none none 0 w)
  (fun S w cW cap hE hblk _ hcell=>by
   have hc:=Tryz.slices_Sort_int cW 0 cap l w (sQ hcell) hblk hN
   rw[List.length_map]
   refine hc.mono fun e' w' ⟨h1,n,os,h2⟩=>⟨h1,n,os,?_⟩
   rw[h2]
   unfold nD
   rw[p7,<-sP]
   rfl)
 rw[ll,ll] at this
 exact this
theorem we (l:List Int) (hN:l.length<=9223372036854775807):aw C 15 [.row 3 (l.map fun n=>[i64 n])] (.own 3 ((compact l).map fun n=>[i64 n])) [.gone]:=by
 have hcl:=compact_length_le l
 have:=zS hC (f:=15) 3 _ rfl (by decide) [] (l.map encI) ((compact l++List.replicate (l.length - (compact l).length) 0).map encI) (compact l).length (by rw[List.length_map];exact hcl) pd pd (by simp;omega)
  (fun r hr v hv=>by
   obtain⟨x,_,rfl⟩:=List.mem_map.1 hr
   simp only[encI,List.mem_singleton] at hv
   rw[hv];rfl)
  ⟨_,Tryz.func15,rfl,rfl⟩
  (fun _ w=>Tryz.slices_Compact_int_empty none 0 w)
  (fun S w cW cap hE hblk rY hcell=>by
   rw[List.length_map] at rY
   have hc:=Tryz.slices_Compact_int cW 0 cap l w (sQ hcell) hN rY
   rw[List.length_map]
   refine hc.mono fun e' w' ⟨h1,n,h2⟩=>⟨h1,n,#[],?_⟩
   rw[h2]
   unfold nD
   rw[p7,<-sP,grow_empty])
 rw[<-List.map_take,ll,ll,List.take_left] at this
 exact this
theorem FW (l:List bw):∀r∈l.map rc,r.length=4:=by
 intro r hr
 obtain⟨x,_,rfl⟩:=List.mem_map.1 hr
 rfl
theorem xP (l:List bw) (hN:l.length<=4398046511104):aw C 260 [.pv (cd l)] (.own 221 (l.map rc)) []:=by
 cases l with
 | nil=>
  refine aE hC Tryz.func260 rfl rfl 8 rfl (by decide) (by kernel_rfl) fun _ _ _ _ _=>?_
  refine yS<|yB Z<|yT<|an<|yS<|yP Z<|dx Z<|H3 Z Z ?_
  refine⟨?_,?_⟩
  ·refine yT<|ak Z<|cu<|yS<|yB Z<|yT<|aA<|af<|aB zi ?_
   exact⟨Z,Y⟩
  (refine yT<|ak Z<|bz<|ar<|ah<|yS<|yn Z<|az zI<|aR<|aG<|yP Z<|yn Z<|bb zI ?_;refine And.intro ⟨by simp,by simp,by simp⟩ ?_)
  refine aR<|aM<|aG<|dx Z<|cO Z Z Z Z Z<|yR zi ?_
  exact⟨Z,Z,Y⟩
 | cons a l=>
  have hr:=FW (a::l)
  have hl:=aJ (a::l) rc
  refine aE hC Tryz.func260 rfl rfl 8 rfl (by decide) (by kernel_rfl) fun _ _ _ _ _=>?_
  ((refine yS<|yB Z<|yT<|an<|yS<|yP Z<|yP Z<|yT<|ak Z<|bz<|ar<|ah<|yS<|yn Z ?_;refine az zI<|aR<|aG<|yP Z<|yn Z<|bb zI ?_);refine And.intro ⟨hr,by simp at hN ⊢;omega,by simp at hN ⊢;omega⟩ ?_)
  refine aR<|aM<|aG<|dx Z<|cO Z Z Z Z Z<|yR zi ?_
  exact⟨Z,Z,Y⟩
def ky (y:Int) (r:bw):Bool:=decide (r.y1<=y)
theorem A_ (r:bw) (ys:List Int) (k:Nat) (y:Int) (hy:ys[k]?=some y):aw C 264 [.pv (.ag (rc r)),.pv (.ip [ints ys]),.pv (.ip [i64 k])] (.p (bool (ky y r))) []:=by
 refine aE hC Tryz.func264 rfl rfl 12 rfl (by decide) (by kernel_rfl) fun _ _ _ _ _=>?_
 ((refine yS<|yn Z<|az zI<|aR<|ai<|yA Z<|yT<|an<|cF [] false Km rfl (by kernel_rfl)<|cE Z<|yW Z<|yD Z<|yD Z<|yD Z ?_;refine dq Z<|aL zI ?_);refine⟨[i64 y],(idx rfl hy),?_⟩)
 ((refine bM<|ae<|yD Z<|yD Z<|yD Z<|bR<|ao Z<|ao Z<|ao Z<|ao Z<|ao Z<|ao Z<|ao Z<|dH Z Z ?_;refine bS Z<|ah<|aA<|aB zi ?_);refine And.intro ?_ trivial)
 rfl
theorem xQ (l:List bw) (hN:l.length<=140737488355328) (ys:List Int) (k:Nat) (y:Int) (hy:ys[k]?=some y):aw C 294 [.row 221 (l.map rc),.pv (.fn 264 [.ip [ints ys],.ip [i64 k]])] (.p (i64 (eH (ky y) l 0))) [.row (l.map rc)]:=by
 refine aE hC Tryz.func294 rfl rfl 19 rfl (by decide) (by kernel_rfl) fun _ _ _ _ _=>?_
 have lm:=aJ l rc
 refine yS<|yA Z<|yT<|an<|yS<|yq Z<|az zI<|aX<|aG<|yP Z<|yP Z<|yT<|aO ?_
 refine aC (fun i:Nat=>i<=l.length/\∀x∈l.take i,ky y x=false) (fun i=>[(0,.ow 100000),(1,.p (.fn 264 [.ip [ints ys],.ip [i64 k]])),(7,.p (i64 (l.map rc).length)),(8,.p (i64 i))]) (fun _=>[(100000,.row 221 (l.map rc))]) (fun i=>l.length - i) 0 _ (bg.refl _ _) ⟨Nat.zero_le _,by simp⟩ ⟨Z,Z,Z,Z,Y⟩ ⟨Z,Y⟩ fun i hi t h=>?_
 (refine yS<|yP Z<|yT<|an<|ak Z ?_;refine aa (fun h1=>?_) (fun h1=>?_) <;> try simp only[zB] at h1)
 ·rw[lm] at h1
  obtain⟨x,hx⟩:=aH (l:=l) (i:=i) (by omega)
  ((refine ar<|ah<|an<|aO<|yS<|yP Z<|yA Z<|yU<|yP Z<|yq Z<|az zI<|aX<|aG<|yP Z ?_;refine yq Z<|bb zI ?_);refine And.intro ⟨by omega,by rw[lm];omega⟩ ?_)
  (refine aX<|eF<|yq Z<|aL zI ?_;refine⟨(rc x),(idx rfl hx).2,?_⟩)
  (refine yk<|yn Z<|aL zI ?_;refine⟨_,_,(A_ x ys k y hy),?_⟩)
  (refine br Z Z<|ae<|yT<|ak Z ?_;refine aa (fun h2=>?_) (fun h2=>?_) <;> try simp only[zB] at h2)
  ·refine yS<|yP Z<|yA Z<|yT<|aA<|aq<|af<|af<|aq<|af<|aB zi ?_
   exact⟨by rw[cY hx h2 hi.2,Nat.zero_add],Z,Y⟩
  (refine ar<|aS<|ah<|aP<|yq Z<|bb zI ?_;refine sI ?_)
  (refine yk<|yP Z<|yT<|au ?_;refine⟨(i+1),_,bg.refl _ _,?_⟩)
  exact⟨⟨by omega,dV hx h2 hi.2⟩,by omega,⟨Z,Z,Z,Z,Y⟩,⟨Z,Y⟩⟩
 rw[lm] at h1
 refine bF<|aQ<|aQ<|bG<|ah<|yS<|yA Z<|yR zi ?_
 have h2:=hi.2
 rw[List.take_of_length_le (by omega)] at h2
 exact⟨by rw[cr h2];rfl,Z,Y⟩
theorem Eb {α:Type} {p:α->Bool}:∀{l:List α},l.any p=true->∃i x,l[i]?=some x/\p x=true/\∀z∈l.take i,p z=false:=by
 intro l
 induction l with
 | nil=>intro h;cases h
 | cons y l ih=>
  intro h
  cases hy:p y with
  | true=>exact⟨0,y,rfl,hy,by simp⟩
  | false=>
   rw[List.any_cons,hy,Bool.false_or] at h
   obtain⟨i,x,h1,h2,h3⟩:=ih h
   refine⟨i+1,x,by simpa using h1,h2,fun z hz=>?_⟩
   rw[List.take_succ_cons,List.mem_cons] at hz
   rcases hz with rfl | hz
   ·exact hy
   exact h3 z hz
theorem Ec {α:Type} {m:List α} {a:Nat} {x:α} (h:a < m.length):(m.set a x).take (a+1)=m.take a++[x]:=by
 apply List.ext_getElem?
 intro j
 rw[List.getElem?_take,List.getElem?_set]
 by_cases h1:j < a
 ·rw[if_pos (by omega),if_neg (by omega),List.getElem?_append_left (by rw[List.length_take];omega),List.getElem?_take,if_pos h1]
 by_cases h2:j=a
 ·subst h2
  rw[if_pos (by omega),if_pos rfl,if_pos h,List.getElem?_append_right (by rw[List.length_take];omega)]
  simp[Nat.min_eq_left (Nat.le_of_lt h)]
 rw[if_neg (by omega),List.getElem?_eq_none (by simp;omega)]
theorem filter_none {α:Type} {p:α->Bool} {l:List α} (h:∀x∈l,p x=false):l.filter (fun x=>!p x)=l:=List.filter_eq_self.2 fun x hx=>by simp[h x hx]
theorem mz {α:Type} {p:α->Bool} {l:List α} {i:Nat} {x:α} (hx:l[i]?=some x):(l.take (i+1)).filter p=(l.take i).filter p++if p x then [x] else []:=by
 rw[bB hx,List.filter_append]
 congr 1
 cases h:p x <;> simp[List.filter,h]
theorem wg (l:List bw) (hN:l.length<=4398046511104) (ys:List Int) (k:Nat) (y:Int) (hy:ys[k]?=some y):aw C 263 [.row 221 (l.map rc),.pv (.fn 264 [.ip [ints ys],.ip [i64 k]])] (.own 221 ((l.filter fun r=>!ky y r).map rc)) [.gone]:=by
 refine aE hC Tryz.func263 rfl rfl 42 rfl (by decide) (by kernel_rfl) fun _ _ _ _ _=>?_
 have lm:=aJ l rc
 (refine yS<|yB Z<|yU<|yq Z<|az zI<|aX<|aG<|yP Z<|yn Z<|aL zI ?_;refine⟨_,_,(xQ l (by omega) ys k y hy),?_⟩)
 by_cases KB:l.any (ky y)=true
 ·obtain⟨i0,x0,Na,Lt,NO⟩:∃i x,l[i]?=some x/\ky y x=true/\∀z∈l.take i,ky y z=false:=Eb KB
  rw[cY Na Lt NO,Nat.zero_add]
  have I4:=(List.getElem?_eq_some_iff.1 Na).1
  ((refine br Z Z<|aM<|ae<|yA Z<|yT<|an<|yS<|yP Z<|yP Z<|yT<|ak Z<|bz<|ar<|ah ?_;refine an<|yS<|yP Z<|yq Z<|bb zI ?_);refine sI ?_)
  refine yk<|yA Z<|yT<|aO ?_
  refine aC (fun p:Nat×Nat×List bw=>p.1 < p.2.1/\p.2.1<=l.length/\p.2.2.length=l.length/\p.2.2.take p.1=(l.take p.2.1).filter (fun r=>!ky y r)/\p.2.2.drop p.2.1=l.drop p.2.1) (fun p=>[(0,.ow 100000),(1,.p (.fn 264 [.ip [ints ys],.ip [i64 k]])),(5,.p (i64 p.1)),(6,.p (i64 p.2.1))]) (fun p=>[(100000,.row 221 (p.2.2.map rc))]) (fun p=>l.length - p.2.1) (i0,i0+1,l) _ (bg.refl _ _) ⟨by simp,by simp only;omega,rfl,?_,rfl⟩ ⟨rfl,rfl,rfl,cb (by simp only;omega),trivial⟩ ⟨Z,Y⟩ fun ⟨a,b,m⟩ hi t h=>?_
  ·simp only
   rw[mz Na,filter_none NO]
   simp[Lt]
  simp only at hi
  obtain⟨q1,q2,q3,q4,q5⟩:=hi
  have mm:=aJ m rc
  (refine an<|yS<|yP Z<|yq Z<|az zI<|aX<|aG<|yP Z<|yP Z<|yT<|ak Z ?_;refine aa (fun h2=>?_) (fun h2=>?_) <;> try simp only[zB] at h2)
  ·rw[mm,q3] at h2
   obtain⟨x,hx⟩:=aH (l:=l) (i:=b) (by omega)
   have OP:m[b]?=some x:=by
    have:(m.drop b)[0]?=(l.drop b)[0]?:=by rw[q5]
    simpa [hx] using this
   (refine ar<|ah<|an<|aO<|yS<|yq Z<|az zI<|aX<|aG<|yP Z<|yq Z<|bb zI ?_;refine And.intro ⟨by simp only;omega,by simp only;rw[mm];omega⟩ ?_)
   (refine aX<|eF<|yq Z<|aL zI ?_;refine⟨(rc x),(idx rfl OP).2,?_⟩)
   ((refine yk<|yn Z<|az zI<|aR<|ai<|yq Z<|az zI<|aX<|aM<|aU<|yU<|yP Z<|yP Z<|yn Z ?_;refine aL zI ?_);refine⟨_,_,(A_ x ys k y hy),?_⟩)
   (refine br Z Z<|ae<|yP Z<|yT<|ak Z ?_;refine aa (fun h3=>?_) (fun h3=>?_) <;> try simp only[zB] at h3)
   ·obtain⟨z,hz⟩:=aH (l:=m) (i:=a) (by omega)
    (refine yS<|yq Z<|az zI<|aX<|aG<|yP Z<|yP Z<|yq Z<|bb zI ?_;refine And.intro ⟨by simp only;omega,by simp only;rw[mm];omega⟩ ?_)
    (refine aX<|eF<|yq Z<|aL zI ?_;refine⟨(rc z),(idx rfl hz).2,?_⟩)
    (refine aX<|aM<|aU<|yT<|aP<|yP Z<|yq Z<|bb zI ?_;refine And.intro ⟨by simp only;omega,by simp only;omega⟩ ?_)
    (refine yk<|yA Z<|dB<|aS<|ah<|aP<|yP Z<|yq Z<|bb zI ?_;refine And.intro ⟨by simp only;omega,by simp only;omega⟩ ?_)
    (refine yk<|yA Z<|yT<|au ?_;refine⟨(a+1,b+1,m.set a x),_,bg.refl _ _,?_⟩)
    refine⟨⟨by simp only;omega,by simp only;omega,by simp only;rw[List.length_set];exact q3,?_,?_⟩,by simp only;omega,⟨rfl,rfl,cb (by simp only;omega),cb (by simp only;omega),trivial⟩,⟨?_,trivial⟩⟩
    ·simp only
     rw[Ec (by omega),q4,mz hx,h3]
     rfl
    ·simp only
     rw[List.drop_set_of_lt (by omega)]
     have:=congrArg (List.drop 1) q5
     simpa [List.drop_drop] using this
    show AB.row _ ((m.map rc).set a (rc x))=AB.row _ ((m.set a x).map rc)
    rw[List.map_set]
   (refine ar<|aS<|ah<|aP<|yP Z<|yq Z<|bb zI ?_;refine And.intro ⟨by simp only;omega,by simp only;omega⟩ ?_)
   (refine yk<|yA Z<|yT<|au ?_;refine⟨(a,b+1,m),_,bg.refl _ _,?_⟩)
   refine⟨⟨by simp only;omega,by simp only;omega,q3,?_,?_⟩,by simp only;omega,⟨rfl,rfl,rfl,cb (by simp only;omega),trivial⟩,⟨Z,Y⟩⟩
   ·simp only
    rw[q4,mz hx,h3]
    simp
   have:=congrArg (List.drop 1) q5
   simpa [List.drop_drop] using this
  rw[mm,q3] at h2
  refine bF<|aQ<|aQ<|bG<|ah<|yS<|yq Z<|az zI<|aX<|aG<|yP Z<|yq Z<|NM zI ?_
  refine Or.inl ?_
  (refine zA zi ?_;refine And.intro ⟨by simp only;omega,by simp only;rw[mm];omega,by simp only;omega⟩ ?_)
  (refine aX<|zJ<|yq Z<|bb zI ?_;refine And.intro ⟨by simp only[Int.toNat_natCast];omega,by simp only[Int.toNat_natCast];omega⟩ ?_)
  refine aX<|aM<|aU<|yU<|yq Z<|az zI<|aX<|aG<|yP Z<|yq Z<|NM zI ?_
  refine Or.inl ?_
  have KE:((((m.map rc).take a++List.replicate ((m.map rc).length - a) [i64 0,i64 0,i64 0,i64 0]++(m.map rc).drop (m.map rc).length).length:Nat):Int)=m.length:=by simp;omega
  (refine zA zi ?_;refine And.intro ⟨by omega,by simp only;omega,by simp only[Int.toNat_natCast];exact Int.le_trans (show (a:Int)<=m.length by omega) (Int.le_of_eq KE.symm)⟩ ?_)
  refine aX (zJ (dx Z (sG Z Z Z (DX Z) (zJ (yR zi ?_)))))
  refine⟨?_,Z,Y⟩
  simp only[Int.toNat_natCast]
  rw[List.append_assoc,List.take_append_of_le_length (by rw[List.length_take,mm];omega),List.take_take,Nat.min_self,<-List.map_take,q4,List.take_of_length_le (by omega)]
 have C_:∀x∈l,ky y x=false:=fun x hx=>by
  cases h:ky y x with
  | false=>rfl
  | true=>exact absurd (List.any_eq_true.2 ⟨x,hx,h⟩) KB
 rw[cr C_]
 (refine br Z Z<|aM<|ae<|yA Z<|yT<|an<|yS<|yP Z<|yP Z<|yT<|ak Z<|cu<|yS<|yq Z ?_;refine az zI<|aX<|aG<|dx Z<|cO Z Z Z Z Z<|yT<|aA<|af<|aB zi ?_)
 rw[filter_none C_]
 exact⟨Z,Z,Y⟩
theorem wh (a b:Int):∀(s:cv),(s=[]->flat (bq.dv s a b)=[a,b])/\(∀n,s.length=n+1->∃p,(flat s)[2*n+1]?=some p/\flat (bq.dv s a b)=if a<=p then (flat s).set (2*n+1) (max p b) else flat s++[a,b]):=by
 intro s
 induction s with
 | nil=>exact⟨fun _=>rfl,fun n h=>by simp at h⟩
 | cons p s ih=>
  refine⟨fun h=>by simp at h,fun n hn=>?_⟩
  cases s with
  | nil=>
   have:n=0:=by simpa using hn.symm
   subst this
   refine⟨p.2,rfl,?_⟩
   rw[bq.dv]
   split <;> rfl
  | cons q s=>
   cases n with
   | zero=>simp at hn
   | succ n=>
    obtain⟨z,h1,h2⟩:=ih.2 n (by simpa using hn)
    refine⟨z,?_,?_⟩
    ·rw[show 2*(n+1)+1=(2*n+1)+1+1 by omega]
     simpa [flat] using h1
    rw[bq.dv,flat,h2,show 2*(n+1)+1=(2*n+1)+1+1 by omega]
    split
    ·simp[flat]
    simp[flat]
theorem sR (a b:Int):∀(s:cv),(bq.dv s a b).length<=s.length+1:=by
 intro s
 induction s with
 | nil=>simp[bq.dv]
 | cons p s ih=>
  cases s with
  | nil=>rw[bq.dv];split <;> simp
  | cons q s=>rw[bq.dv];simp only[List.length_cons] at ih ⊢;omega
theorem sS (l:List bw):(bq.cV l).length<=l.length:=by
 suffices H:∀n (m:List bw),m.length=n->(bq.cV m).length<=m.length from H _ l rfl
 intro n
 induction n with
 | zero=>
  intro m hm
  have:m=[]:=List.eq_nil_of_length_eq_zero hm
  subst this
  simp[bq.cV]
 | succ n ih=>
  intro m hm
  obtain⟨d,r,rfl⟩:∃d r,m=d++[r]:=by
   cases h:m.reverse with
   | nil=>simp at h;subst h;simp at hm
   | cons r d=>exact⟨d.reverse,r,by rw[<-List.reverse_reverse m,h];simp⟩
  rw[bq.lf]
  have h1:=sR r.x0 r.x1 (bq.cV d)
  have h2:=ih d (by simp at hm;exact hm)
  simp only[List.length_append,List.length_singleton]
  omega
theorem ra (l:List bw) (hl:∀r∈l,Bd r) (hN:l.length<=4398046511104):aw C 266 [.row 221 (l.map rc)] (.p (ints (flat (bq.cV (eI zU l))))) [.row ((eI zU l).map rc)]:=by
 refine aE hC Tryz.func266 rfl rfl 48 rfl (by decide) (by kernel_rfl) fun _ _ _ _ _=>?_
 obtain⟨hp,_⟩:=qJ hl
 have oa:=hp.length_eq
 (refine yS<|yB Z<|yU<|yq Z<|az zI<|aX<|aG<|yn Z<|aL zI ?_;refine⟨_,_,(Ic l hl (by omega)),?_⟩)
 generalize eI zU l=L at hp oa ⊢
 have lm:=aJ L rc
 (refine br Z Z<|aM<|bU<|yU<|yB Z<|yT<|an<|yS<|yq Z<|az zI<|aX<|aG<|yP Z<|yP Z ?_;refine yT<|aO ?_)
 refine aC (fun i:Nat=>i<=L.length) (fun i=>[(0,.ow 100000),(9,.ow 100000),(10,.p (i64 (L.map rc).length)),(11,.p (i64 i)),(3,.ow 3)]) (fun i=>[(100000,.row 221 (L.map rc)),(3,.row 3 ((flat (bq.cV (L.take i))).map fun n=>[i64 n]))]) (fun i=>L.length - i) 0 _ (bg.iN hC _ 3 3 _ (by decide) rfl rfl (by decide)) (Nat.zero_le _) ⟨Z,Z,Z,Z,Z,Y⟩ ⟨Z,Z,Y⟩ fun i hi t h=>?_
 have sl:=sS (L.take i)
 have fl:=jR (bq.cV (L.take i))
 have sm:=aJ (flat (bq.cV (L.take i))) fun n=>[i64 n]
 rw[List.length_take] at sl
 (refine yS<|yP Z<|yT<|an<|ak Z ?_;refine aa (fun h1=>?_) (fun h1=>?_) <;> try simp only[zB] at h1)
 ·rw[lm] at h1
  obtain⟨r,hr⟩:=aH (l:=L) (i:=i) (by omega)
  have wR:bq.cV (L.take (i+1))=bq.dv (bq.cV (L.take i)) r.x0 r.x1:=by rw[bB hr,bq.lf]
  obtain⟨a1,a2⟩:=wh r.x0 r.x1 (bq.cV (L.take i))
  rw[<-wR] at a1 a2
  generalize bq.cV (L.take i)=s at *
  (refine ar<|ah<|an<|aO<|yS<|yq Z<|bb zI ?_;refine And.intro ⟨by omega,by rw[lm];omega⟩ ?_)
  (refine aX<|eF<|yq Z<|aL zI ?_;refine⟨(rc r),(idx rfl hr).2,?_⟩)
  ((refine yk<|yn Z<|az zI<|aR<|ai<|yq Z<|az zI<|aX<|aM<|aU<|yU<|yq Z<|az zI<|aX ?_;refine aG<|yP Z<|yq Z<|bb zI ?_);refine And.intro ⟨by rw[sm];omega,by rw[sm];omega⟩ ?_)
  (refine yk<|yA Z<|yT<|an<|cF [] false DZ rfl (by kernel_rfl)<|cE Z<|yD Z<|yD Z<|yD Z<|dg Z ?_;refine aa (fun h2=>?_) (fun h2=>?_) <;> try simp only[zB] at h2)
  ·rw[sm,fl] at h2
   obtain⟨n,hn⟩:∃n,s.length=n+1:=⟨s.length - 1,by omega⟩
   obtain⟨p,Jc,AL⟩:=a2 n hn
   have hk:(((flat s).map fun n=>[i64 n]).length:Int) - 1=((2*n+1:Nat):Int):=by rw[sm,fl];omega
   ((refine aV<|bA Z<|az zI<|bM<|ai<|d1 Z<|d2 Z<|bA Z<|az zI<|bM<|aG<|d1 Z<|d2 Z<|bA Z ?_;refine bb zI ?_);refine And.intro ⟨by rw[hk];omega,by rw[hk,sm,fl];omega⟩ ?_)
   (refine bM<|eF<|d2 Z<|bA Z<|aL zI ?_;refine⟨[i64 p],(idx hk Jc).2,?_⟩)
   (refine bM<|ae<|d1 Z<|yD Z<|bR<|bS Z<|ah<|ak Z ?_;refine aa (fun h3=>?_) (fun h3=>?_) <;> try simp only[zB] at h3)
   ·rw[if_pos h3] at AL
    (refine cF [] false DZ rfl (by kernel_rfl)<|cE Z<|dq Z<|az zI<|bM<|aG<|yD Z<|dq Z<|az zI<|bM<|aG<|yD Z<|dq Z<|bb zI ?_;refine And.intro ⟨by rw[hk];omega,by rw[hk,sm,fl];omega⟩ ?_)
    (refine bM<|eF<|dq Z<|aL zI ?_;refine⟨[i64 p],(idx hk Jc).2,?_⟩)
    (refine bM<|ae<|yW Z<|yD Z<|yD Z<|dq Z<|bb zI ?_;refine And.intro ⟨by rw[hk];omega,by rw[hk,sm,fl];omega⟩ ?_)
    (refine bM<|eF<|dq Z<|aL zI ?_;refine⟨[i64 p],(idx hk Jc).2,?_⟩)
    (refine tV Z<|aM<|aU<|bR<|bS Z<|aS<|ah<|aP<|yq Z<|bb zI ?_;refine sI ?_)
    (refine yk<|yP Z<|yT<|au ?_;refine⟨(i+1),_,bg.refl _ _,?_⟩)
    refine⟨by omega,by omega,⟨Z,Z,Z,Z,Z,Y⟩,⟨rfl,?_,trivial⟩⟩
    have vA:∀k:Nat,k=2*n+1->AB.row 3 (((flat s).map fun n=>[i64 n]).set k [i64 (max p r.x1)])=AB.row 3 ((flat (bq.cV (L.take (i+1)))).map fun n=>[i64 n]):=by
     intro k e
     subst e
     rw[AL,List.map_set]
    exact vA _ (by rw[hk];rfl)
   rw[if_neg h3] at AL
   ((refine aP<|yq Z<|az zI<|aX<|aG<|yV Z<|yP Z<|yV Z<|yP Z<|yn Z<|az zI<|aR<|aG<|yn Z ?_;refine bb zI ?_);refine And.intro ⟨by simp,by simp;omega,by simp;omega⟩ ?_)
   (refine aR<|aM<|aG<|dx Z<|cO Z Z Z Z Z<|dB<|aS<|ah<|aP<|yq Z<|bb zI ?_;refine sI ?_)
   (refine yk<|yP Z<|yT<|au ?_;refine⟨(i+1),_,bg.refl _ _,?_⟩)
   refine⟨by omega,by omega,⟨Z,Z,Z,Z,Z,Y⟩,⟨rfl,?_,trivial⟩⟩
   rw[AL,List.map_append]
   rfl
  rw[sm,fl] at h2
  have hs:s=[]:=List.eq_nil_of_length_eq_zero (by omega)
  have AL:=a1 hs
  ((refine aT<|ae<|d0 Z<|d0 Z<|d0 Z<|d0 Z<|d0 Z<|d0 Z<|yD Z<|bR<|bS Z<|ah<|ak Z<|bz ?_;refine aP<|yq Z<|az zI<|aX<|aG<|yV Z<|yP Z<|yV Z<|yP Z<|yn Z<|az zI<|aR<|aG<|yn Z ?_;refine bb zI ?_);refine And.intro ⟨by simp,by simp;omega,by simp;omega⟩ ?_)
  (refine aR<|aM<|aG<|dx Z<|cO Z Z Z Z Z<|dB<|aS<|ah<|aP<|yq Z<|bb zI ?_;refine sI ?_)
  (refine yk<|yP Z<|yT<|au ?_;refine⟨(i+1),_,bg.refl _ _,?_⟩)
  refine⟨by omega,by omega,⟨Z,Z,Z,Z,Z,Y⟩,⟨rfl,?_,trivial⟩⟩
  rw[AL,hs]
  rfl
 rw[lm] at h1
 refine bF<|aQ<|aQ<|bG<|ah<|yS<|yq Z<|az zI<|aX<|aG<|dx Z<|cO Z Z Z Z Z<|yR zi ?_
 rw[List.take_of_length_le (by omega)]
 exact⟨Z,Z,Y⟩
def ends (l:List bw):List Int:=l.flatMap fun r=>[r.y0,r.y1]
theorem Co {l:List bw} {i:Nat} {r:bw} (h:l[i]?=some r):ends (l.take (i+1))=ends (l.take i)++[r.y0,r.y1]:=by
 rw[bB h]
 simp[ends]
theorem Ed (l:List bw) (y:Int):y∈ends l↔∃r∈l,y=r.y0\/y=r.y1:=by
 simp[ends]
theorem xR (l:List bw):(ends l).length=2*l.length:=by
 induction l with
 | nil=>rfl
 | cons r l ih=>simp only[ends,List.flatMap_cons,List.length_append,List.length_cons,List.length_nil] at ih ⊢;omega
theorem zY {l m:List bw} (hm:∀r,r∈m↔r∈l):compact (qK (ends m))=bq.ca l:=by
 have hs:(qK (ends m)).Pairwise (·<=·):=by
  have:=List.pairwise_mergeSort (le:=fun x y:Int=>decide (x<=y)) (fun a b c h1 h2=>by simp at *;omega) (fun a b=>by simp;omega) (ends m)
  exact this.imp fun h=>by simpa using h
 obtain⟨h1,h2⟩:=ue hs
 obtain⟨h3,h4⟩:=bq.j_ l
 refine bq.tY _ _ h1 h3 fun x=>?_
 rw[h2,h4,qK,(List.mergeSort_perm _ _).mem_iff,Ed]
 constructor
 ·rintro⟨r,hr,h⟩;exact⟨r,(hm r).1 hr,h⟩
 rintro⟨r,hr,h⟩;exact⟨r,(hm r).2 hr,h⟩
theorem Cp {ys:List Int} (hR:bq.gA ys) {k:Nat} {y q:Int} (hy:ys[k]?=some y) (hq:q∈ys) (h1:q<=y) (h2:∀j z,j+1=k->ys[j]?=some z->z < q):q=y:=by
 obtain⟨i,hi⟩:=List.mem_iff_getElem?.1 hq
 rcases Nat.lt_trichotomy i k with h | h | h
 ·obtain⟨z,hz⟩:=aH (l:=ys) (i:=k - 1) (by have:=(List.getElem?_eq_some_iff.1 hy).1;omega)
  have:=h2 (k - 1) z (by omega) hz
  have:=lg hR hi hz (by omega)
  omega
 ·subst h
  rw[hi] at hy
  injection hy
 have:=lg hR hy hi (by omega)
 omega
structure Ba (L:List bw) (ys:List Int) (k:Nat) (nw:List bw) (next:Nat):Prop where
 le:next<=L.length
 len:nw.length<=next
 mem:∀r,r∈nw↔r∈L.take next/\∀j y,j+1=k->ys[j]?=some y->y < r.y1
 below:∀r∈L.take next,∀j y,j+1=k->ys[j]?=some y->r.y0<=y
 above:∀r∈L.drop next,∀j y,j+1=k->ys[j]?=some y->y < r.y0
 zero:k=0->next=0
structure ER (L:List bw) (y:Int) (nw:List bw) (next:Nat):Prop where
 le:next<=L.length
 len:nw.length<=next
 mem:∀r,r∈nw↔r∈L.take next/\y < r.y1
 below:∀r∈L.take next,r.y0<=y
theorem Ba.OQ {L:List bw} {ys:List Int} {k:Nat} {nw:List bw} {next:Nat} (h:Ba L ys k nw next) (hR:bq.gA ys) {y:Int} (hy:ys[k]?=some y):ER L y (nw.filter fun r=>!ky y r) next:=by
 have prev:k≠0->∃z,ys[k - 1]?=some z/\z < y:=fun hk=>by
  have Jb:=(List.getElem?_eq_some_iff.1 hy).1
  obtain⟨z,hz⟩:=aH (l:=ys) (i:=k - 1) (by omega)
  have a1:=List.getElem?_eq_some_iff.1 hz
  have a2:=List.getElem?_eq_some_iff.1 hy
  obtain⟨b1,b2⟩:=a1
  obtain⟨c1,c2⟩:=a2
  have:=(List.pairwise_iff_getElem.1 hR) (k - 1) k b1 c1 (by omega)
  exact⟨z,hz,by omega⟩
 refine⟨h.le,Nat.le_trans (List.length_filter_le _ _) h.len,fun r=>?_,fun r hr=>?_⟩
 ·rw[List.mem_filter,h.mem]
  simp only[ky,Bool.not_eq_true',decide_eq_false_iff_not]
  constructor
  ·rintro⟨⟨h1,_⟩,h2⟩;exact⟨h1,by omega⟩
  rintro⟨h1,h2⟩
  refine⟨⟨h1,fun j z hj hz=>?_⟩,by omega⟩
  obtain⟨z',Nb,fC⟩:=prev (by omega)
  rw[show k - 1=j by omega,hz] at Nb
  injection Nb with Nb
  omega
 by_cases hk:k=0
 ·rw[h.zero hk] at hr;simp at hr
 obtain⟨z,hz,fC⟩:=prev hk
 have:=h.below r hr (k - 1) z (by omega) hz
 omega
theorem ER.next {L:List bw} {y:Int} {nw:List bw} {next:Nat} (h:ER L y nw next) {r:bw} (hr:L[next]?=some r) (h0:r.y0<=y) (h1:y < r.y1):ER L y (nw++[r]) (next+1):=by
 have fC:=(List.getElem?_eq_some_iff.1 hr).1
 refine⟨by omega,by have:=h.len;simp;omega,fun q=>?_,fun q hq=>?_⟩
 ·rw[bB hr,List.mem_append,List.mem_append,List.mem_singleton,h.mem]
  constructor
  ·rintro (⟨a,b⟩ | rfl)
   ·exact⟨.inl a,b⟩
   exact⟨.inr rfl,h1⟩
  rintro⟨a | rfl,b⟩
  ·exact .inl ⟨a,b⟩
  exact .inr rfl
 rw[bB hr,List.mem_append,List.mem_singleton] at hq
 rcases hq with hq | rfl
 ·exact h.below q hq
 exact h0
theorem ER.row {L l:List bw} {y:Int} {nw:List bw} {next:Nat} (h:ER L y nw next) (hm:∀r,r∈L↔r∈l) (Ee:∀r∈L.drop next,y < r.y0):∀r,r∈nw↔r∈l/\r.y0<=y/\y < r.y1:=by
 intro r
 rw[h.mem,<-hm]
 constructor
 ·rintro⟨a,b⟩;exact⟨List.mem_of_mem_take a,h.below r a,b⟩
 rintro⟨a,b,c⟩
 refine⟨?_,c⟩
 rw[<-List.take_append_drop next L,List.mem_append] at a
 rcases a with a | a
 ·exact a
 have:=Ee r a;omega
theorem ER.KF {L:List bw} {ys:List Int} {k:Nat} {nw m:List bw} {next:Nat} {y:Int} (h:ER L y nw next) (hy:ys[k]?=some y) (hp:m.Perm nw) (Ee:∀r∈L.drop next,y < r.y0):Ba L ys (k+1) m next:=by
 have one:∀j z,j+1=k+1->ys[j]?=some z->z=y:=fun j z hj hz=>by
  rw[show j=k by omega,hy] at hz;injection hz with hz;exact hz.symm
 refine⟨h.le,by rw[hp.length_eq];exact h.len,fun r=>?_,fun r hr j z hj hz=>?_,fun r hr j z hj hz=>?_,fun h=>by omega⟩
 ·rw[hp.mem_iff,h.mem]
  constructor
  ·rintro⟨a,b⟩;exact⟨a,fun j z hj hz=>by rw[one j z hj hz];exact b⟩
  rintro⟨a,b⟩;exact⟨a,b k y rfl hy⟩
 ·rw[one j z hj hz];exact h.below r hr
 rw[one j z hj hz];exact Ee r hr
theorem zZ {L:List bw} (hs:L.Pairwise fun a b=>a.y0<=b.y0) {i:Nat} {r:bw} (hr:L[i]?=some r) {y:Int} (h:y < r.y0):∀q∈L.drop i,y < q.y0:=by
 intro q hq
 obtain⟨hi,he⟩:=List.getElem?_eq_some_iff.1 hr
 rw[List.drop_eq_getElem_cons hi,he,List.mem_cons] at hq
 rcases hq with rfl | hq
 ·exact h
 obtain⟨j,hj,rfl⟩:=List.getElem_of_mem hq
 rw[List.getElem_drop]
 have:=List.pairwise_iff_getElem.1 hs i (i+1+j) hi (by rw[List.length_drop] at hj;omega) (by omega)
 rw[he] at this
 omega
def Good (r:bw):Prop:=Bd r/\r.x0 < r.x1/\r.y0 < r.y1
theorem xS (l:List bw) (ys:List Int) {N:Nat} (h:∀y,(bq.rowOf l y).length<=N):∀k,∀t∈bq.dK l ys k,t.xs.length<=N:=by
 intro k
 induction k with
 | zero=>simp[bq.dK]
 | succ k ih=>rw[bq.dK];exact xF _ _ _ ih (h _)
theorem wi (l:List bw) (hl:∀r∈l,Good r) (hN:l.length<=4398046511104) (hH:(bq.ca l).length<=1000000000000) (hX:∀y,(bq.rowOf l y).length<=1000000000000):aw C 200 [.pv (cd l)] (.own 329 ((bq.lO l).map hb)) []:=by
 refine aE hC Tryz.func200 rfl rfl 83 rfl (by decide) (by kernel_rfl) fun _ _ _ _ _=>?_
 have NP:∀r∈l,Bd r:=fun r hr=>(hl r hr).1
 obtain⟨hp,GS⟩:=xN NP
 have oa:=hp.length_eq
 (refine yS<|yB Z<|yU<|yP Z<|yn Z<|aL zI ?_;refine⟨_,_,(xP l (by omega)),?_⟩)
 (refine aR<|aG<|dx Z<|cO Z Z Z Z Z<|yU<|yq Z<|az zI<|aX<|aG<|yn Z<|aL zI ?_;refine⟨_,_,(Ib l NP (by omega)),?_⟩)
 generalize eI D9 l=L at hp GS oa
 have lm:=aJ L rc
 (refine br Z Z<|aM<|bU<|yU<|yn Z<|az zI<|aR<|ai<|yT<|an<|yS<|yq Z<|az zI<|aX ?_;refine aG<|yP Z<|yP Z<|yT<|aO ?_)
 refine aC (fun i:Nat=>i<=L.length) (fun i=>[(0,.ow 0),(14,.ow 0),(15,.p (i64 (L.map rc).length)),(16,.p (i64 i)),(3,.bx 3 0)]) (fun i=>[(0,.row 221 (L.map rc)),(3,.box [.ow 90000]),(90000,.row 3 ((ends (L.take i)).map fun n=>[i64 n]))]) (fun i=>L.length - i) 0 _ (bg.FF hC _ 3 0 90000 3 _ _ (by decide) (by decide) rfl rfl rfl (by decide)) (Nat.zero_le _) ⟨Z,Z,Z,Z,Z,Y⟩ ⟨Z,Z,Z,Y⟩ fun i hi t h=>?_
 have el:=xR (L.take i)
 have em:=aJ (ends (L.take i)) fun n=>[i64 n]
 rw[List.length_take] at el
 (refine yS<|yP Z<|yT<|an<|ak Z ?_;refine aa (fun h1=>?_) (fun h1=>?_) <;> try simp only[zB] at h1)
 ·rw[lm] at h1
  obtain⟨r,hr⟩:=aH (l:=L) (i:=i) (by omega)
  (refine ar<|ah<|an<|aO<|yS<|yq Z<|bb zI ?_;refine And.intro ⟨by omega,by rw[lm];omega⟩ ?_)
  (refine aX<|eF<|yq Z<|aL zI ?_;refine⟨(rc r),(idx rfl hr).2,?_⟩)
  ((refine yk<|yn Z<|az zI<|aR<|ai<|yq Z<|az zI<|aX<|aM<|aU<|yT<|aP<|yq Z<|az zI ?_;refine aX<|aG<|yV Z<|yP Z<|yV Z<|yP Z<|yn Z<|az zI<|aR<|aG<|yn Z<|bb zI ?_);refine And.intro ⟨by simp,by simp;omega,by simp;omega⟩ ?_)
  (refine aR<|aM<|aG<|yq Z<|az zI<|aX<|aM<|aU<|dB<|aS<|ah<|aP<|yq Z<|bb zI ?_;refine sI ?_)
  refine yk<|yP Z<|yT<|au ?_
  refine⟨i+1,_,bg.Lj _ 26 90000 (by decide) (by decide),by omega,by omega,⟨Z,Z,Z,Z,Z,Y⟩,⟨rfl,rfl,?_,trivial⟩⟩
  show AB.row _ _=AB.row _ _
  rw[Co hr,List.map_append]
  rfl
 rw[lm] at h1
 rw[List.take_of_length_le (show L.length<=i by omega)] at *
 (refine bF<|aQ<|aQ<|bG<|ah<|yS<|yV Z<|yn Z<|aL zI ?_;refine⟨_,_,(Cn (ends L) (by omega)),?_⟩)
 (refine br Z Z<|aM<|bU<|yU<|yq Z<|az zI<|aX<|aG<|yn Z<|aL zI ?_;refine⟨_,_,(we (qK (ends L)) (by rw[qK,List.length_mergeSort];omega)),?_⟩)
 have FX:∀r,r∈L↔r∈l:=fun r=>hp.mem_iff
 rw[zY FX]
 have hR:=jw l
 have hL:=fI l
 have NQ:=aJ (bq.ca l) fun n=>[i64 n]
 have GR:∀r∈L,r.y0∈bq.ca l:=fun r hr=>((bq.j_ l).2 _).2 ⟨r,(FX r).1 hr,.inl rfl⟩
 have OR:=jy l (bq.ca l)
 have OS:=xS l (bq.ca l) hX
 have Ie:bq.lO l=bq.dK l (bq.ca l) ((bq.ca l).length - 1):=rfl
 generalize bq.ca l=ys at *
 (refine aR<|aM<|aG<|yq Z<|az zI<|aX<|aM<|aU<|yU<|yB Z<|yU<|yB Z<|yU<|yA Z ?_;refine yT<|an<|yS<|yn Z<|az zI<|aR<|ai<|yq Z<|az zI<|aX<|aM<|aU<|yT<|aO ?_)
 refine aC (fun x:Nat×List bw×Nat=>x.1<=ys.length - 1/\Ba L ys x.1 x.2.1 x.2.2) (fun x=>[(0,.ow 0),(3,.p (.ip [ints ys])),(6,.ow 6),(7,.ow 7),(8,.p (i64 x.2.2)),(9,.bx 9 0)]) (fun x=>[(0,.row 221 (L.map rc)),(6,.row 329 ((bq.dK l ys x.1).map hb)),(7,.row 221 (x.2.1.map rc)),(9,.box [.p (i64 x.1)])]) (fun x=>ys.length - x.1) (0,[],0) _
  (bg.trans (bg.iN hC _ 6 329 _ (by decide) rfl rfl (by decide)) (bg.trans (bg.iN hC _ 7 221 _ (by decide) rfl rfl (by decide)) (bg.trans (bg.FG hC _ 3 0 31 3 _ _ (by decide) rfl rfl rfl) (bg.gK hC _ 3 (y:=.ip [ints ys]) (fz:=[(3,.jK [ints ys])]) ⟨rfl,rfl⟩))))
  ⟨Nat.zero_le _,⟨Nat.zero_le _,Nat.le_refl _,by simp,by simp,fun r _ j y h=>by omega,fun _=>rfl⟩⟩ ⟨Z,Z,Z,Z,Z,Z,Y⟩ ⟨Z,Z,Z,Z,Y⟩ fun ⟨k,nw,next⟩ hi t h=>?_
 obtain⟨hk,KG⟩:=hi
 simp only at hk KG
 (refine an<|yS<|yP Z<|yq Z<|bb zI ?_;refine And.intro ⟨by simp only;omega,by simp only;omega⟩ ?_)
 (refine yk<|yP Z<|yP Z<|yP Z<|yT<|ak Z ?_;refine aa (fun h2=>?_) (fun h2=>?_) <;> try simp only[zB] at h2)
 ·rw[NQ] at h2
  obtain⟨y,hy⟩:=aH (l:=ys) (i:=k) (by omega)
  obtain⟨y',lT⟩:=aH (l:=ys) (i:=k+1) (by omega)
  have Nc:=KG.OQ hR hy
  (refine ar<|ah<|an<|aO<|yS<|yq Z<|az zI<|aX<|aG<|yV Z<|yn Z<|aL zI ?_;refine⟨_,_,(wg nw (by have:=KG.len;have:=KG.le;omega) ys k y hy),?_⟩)
  refine aR<|aM<|aM<|aG<|dx Z<|cO Z Z Z Z Z<|yT<|an<|aO ?_
  refine sH (fun p:List bw×Nat=>ER L y p.1 p.2/\∀r∈L.drop p.2,y < r.y0) (fun p=>[(0,.ow 0),(3,.p (.ip [ints ys])),(6,.ow 6),(7,.ow 7),(8,.p (i64 p.2)),(9,.p (.ip [i64 k]))]) (fun p=>[(0,.row 221 (L.map rc)),(6,.row 329 ((bq.dK l ys k).map hb)),(7,.row 221 (p.1.map rc))]) (fun ⟨GU,sT⟩ AL t h=>?_) ?_
  ·obtain⟨CD,I0⟩:=AL
   simp only at CD I0
   have a7:=CD.row FX I0
   have qZ:∀r∈GU,Bd r:=fun r hr=>(hl r ((a7 r).1 hr).1).1
   obtain⟨NR,E8⟩:=qJ qZ
   have OT:bq.cV (eI zU GU)=bq.rowOf l y:=bq.xz l _ y (fun r hr=>(hl r hr).2.1) E8 fun r=>(NR.mem_iff).trans (a7 r)
   have fC:y < y':=by
    obtain⟨b1,b2⟩:=List.getElem?_eq_some_iff.1 hy
    obtain⟨c1,c2⟩:=List.getElem?_eq_some_iff.1 lT
    have:=(List.pairwise_iff_getElem.1 hR) k (k+1) b1 c1 (by omega)
    omega
   ((refine ah (cF [] true [true,false,false,false,false,false,false,true,false,false,true,false,true,true,true] rfl (by kernel_rfl) (aK Z (aK Z (aK Z (aK Z (aK Z (aK Z (aK Z (aK Z (aK Z (aK Z (aK Z (eG Z Z ?_)))))))))))));refine aK Z<|eG Z Z<|cE Z<|dq Z<|az zI<|bM<|aG<|yD Z<|yD Z<|dq Z<|aL zI ?_);refine⟨[i64 y],(idx rfl hy),?_⟩)
   (refine bM<|ae<|yD Z<|yD Z<|yD Z<|dq Z<|bb zI ?_;refine sI ?_)
   (refine bM<|ae<|dq Z<|aL zI ?_;refine⟨[i64 y'],(idx (by omega) lT),?_⟩)
   (refine bM<|ae<|yD Z<|dq Z<|az zI<|bM<|aG<|dq Z<|aL zI ?_;refine⟨_,_,(ra GU qZ (by have:=CD.len;have:=CD.le;omega)),?_⟩)
   rw[OT]
   (refine tV Z<|aM<|ae<|yD Z<|dq Z<|aL zI ?_;refine⟨_,_,(zR (bq.dK l ys k) ⟨y,y',bq.rowOf l y⟩ fC (by have:=OR k;omega) (fun t ht=>by have:=OS k t ht;omega)),?_⟩)
   ((refine A2 Z Z Z<|A0<|A1<|aG<|dq Z<|az zI<|bM<|aG<|bR<|ao Z<|ao Z<|ao Z<|ao Z<|ao Z ?_;refine ao Z<|ao Z<|ao Z<|ao Z<|ao Z<|ao Z<|ao Z<|ao Z<|ao Z<|FJ Z Z Z Z Z<|bS Z<|aS<|ah<|an ?_;refine yS<|yP Z<|yT<|aP<|yn Z<|az zI<|aR<|ai<|yq Z<|az zI<|aX<|aM<|aU<|yT ?_;refine aP<|yP Z<|yq Z<|bb zI ?_);refine sI ?_)
   (refine yk<|yq Z<|az zI<|aX<|aM<|aU<|yT<|au ?_;refine⟨(k+1,eI zU GU,sT),_,bg.refl _ _,?_⟩)
   refine⟨⟨by simp only;omega,CD.KF hy NR I0⟩,by simp only;omega,⟨Z,Z,Z,Z,Z,Z,Y⟩,⟨rfl,?_,rfl,?_,trivial⟩⟩
   ·simp only
    rw[bq.dK,rG hy,rG lT]
    rfl
   exact congrArg (fun z=>AB.box [z]) (cb (by simp only;omega))
  refine aC (fun p:List bw×Nat=>next<=p.2/\ER L y p.1 p.2) (fun p=>[(0,.ow 0),(3,.p (.ip [ints ys])),(6,.ow 6),(7,.ow 7),(8,.p (i64 p.2)),(9,.p (.ip [i64 k]))]) (fun p=>[(0,.row 221 (L.map rc)),(6,.row 329 ((bq.dK l ys k).map hb)),(7,.row 221 (p.1.map rc))]) (fun p=>L.length - p.2) (nw.filter fun r=>!ky y r,next) _ (bg.gK hC _ 9 (y:=.ip [i64 k]) (fz:=[]) ⟨rfl,rfl⟩) ⟨Nat.le_refl _,Nc⟩ ⟨Z,Z,Z,Z,Z,Z,Y⟩ ⟨Z,Z,Z,Y⟩ fun ⟨GU,sT⟩ AL t h=>?_
  obtain⟨Ig,CD⟩:=AL
  simp only at Ig CD
  have Hw:=CD.le
  have uC:=CD.len
  (refine an<|an<|cF [] false Kp rfl (by kernel_rfl)<|cE Z<|yD Z<|dq Z<|az zI<|bM<|aG<|yD Z<|yD Z<|yD Z<|dg Z ?_;refine aa (fun g1=>?_) (fun g1=>?_) <;> try simp only[zB] at g1)
  ·rw[lm] at g1
   obtain⟨r,hr⟩:=aH (l:=L) (i:=sT) (by omega)
   (refine aV<|bA Z<|az zI<|bM<|aG<|d1 Z<|d2 Z<|bA Z<|bb zI ?_;refine And.intro ⟨by simp only;omega,by simp only;rw[lm];omega⟩ ?_)
   (refine bM<|eF<|d2 Z<|bA Z<|az zI<|bM<|eF<|d2 Z<|bA Z<|aL zI ?_;refine⟨(rc r),(idx rfl hr).2,?_⟩)
   (refine bM<|ae<|d1 Z<|d1 Z<|d2 Z<|bA Z<|aL zI ?_;refine⟨[i64 y],(idx rfl hy),?_⟩)
   (refine bM<|ae<|d1 Z<|d1 Z<|yD Z<|bR<|bS Z<|ah<|ak Z ?_;refine aa (fun g2=>?_) (fun g2=>?_) <;> try simp only[zB] at g2)
   ·have NS:r∈L:=List.mem_of_getElem? hr
    have e:=Cp hR hy (GR r NS) g2 fun j z hj hz=>KG.above r (by
     refine List.mem_of_getElem? (i:=sT - next) ?_
     rw[List.getElem?_drop,<-hr]
     congr 1;omega) j z hj hz
    have hg:=hl r ((FX r).1 NS)
    ((refine ar<|ah<|aO<|aP<|yq Z<|az zI<|aX<|aG<|yq Z<|az zI<|aX<|aG<|yP Z<|yq Z ?_;refine bb zI ?_);refine And.intro ⟨by simp only;omega,by simp only;rw[lm];omega⟩ ?_)
    (refine aX<|eF<|yq Z<|aL zI ?_;refine⟨(rc r),(idx rfl hr).2,?_⟩)
    (refine yk<|yn Z<|az zI<|aR<|aG<|yn Z<|bb zI ?_;refine And.intro ⟨vV rfl,by simp;omega,by simp;omega⟩ ?_)
    (refine aR<|aM<|aG<|yP Z<|yq Z<|bb zI ?_;refine And.intro ⟨by simp only;omega,by simp only;omega⟩ ?_)
    (refine yk<|dx Z<|cO Z Z Z Z Z<|yA Z<|dB<|aS<|ah<|au ?_;refine⟨(GU++[r],sT+1),_,bg.refl _ _,?_⟩)
    refine⟨⟨by simp only;omega,CD.next hr g2 (by have:=hg.2.2;omega)⟩,by simp only;omega,⟨rfl,rfl,rfl,rfl,cb (by simp only;omega),Z,Y⟩,⟨rfl,rfl,?_,trivial⟩⟩
    show AB.row _ _=AB.row _ _
    rw[List.map_append]
    rfl
   refine bF<|aQ<|aQ<|bG<|ah<|au<|zX zi ?_
   exact⟨(GU,sT),⟨CD,zZ GS hr (by omega)⟩,⟨Z,Z,Z,Z,Z,Z,Y⟩,⟨Z,Z,Z,Y⟩⟩
  rw[lm] at g1
  (refine aT<|ae<|d0 Z<|d0 Z<|d0 Z<|d0 Z<|d0 Z<|d0 Z<|d0 Z<|d0 Z<|d0 Z<|yD Z<|bR<|bS Z ?_;refine ah<|ak Z<|bz<|bF<|aQ<|aQ<|bG<|ah<|au<|zX zi ?_)
  refine⟨(GU,sT),⟨CD,fun r hr=>?_⟩,⟨Z,Z,Z,Z,Z,Z,Y⟩,⟨Z,Z,Z,Y⟩⟩
  rw[List.drop_of_length_le (by simp only;omega)] at hr
  cases hr
 rw[NQ] at h2
 refine bF<|aQ<|aQ<|bG<|ah<|yS<|yq Z<|az zI<|aX<|aG<|dx Z<|cO Z Z Z Z Z<|yR zi ?_
 rw[Ie,show ys.length - 1=k by omega]
 exact⟨Z,Z,Y⟩
theorem xT (l:List bw) (hl:∀r∈l,Good r) (hN:l.length<=400000):aw C 200 [.pv (cd l)] (.own 329 ((bq.lO l).map hb)) []:=
 wi l hl (by omega) (by have:=fI l;omega) (fun y=>by have:=o6 l y;omega)
theorem FY {r:bw} (h:bq.fH r=true/\r.x0 < r.x1/\r.y0 < r.y1):Good r:=by
 obtain⟨h1,h2,h3⟩:=h
 simp only[bq.fH,bq.ju,Bool.and_eq_true,decide_eq_true_eq] at h1
 exact⟨⟨by omega,by omega,by omega,by omega⟩,h2,h3⟩
theorem wj (l:List bw) (hN:l.length<=400000):(bq.lO l).length<=1000000/\∀t∈bq.lO l,t.xs.length<=1000000:=by
 have h1:=jy l (bq.ca l) ((bq.ca l).length - 1)
 have h2:=fI l
 exact⟨by unfold bq.lO;omega,fun t ht=>by have:=sM l (bq.ca l) _ t ht;omega⟩
theorem pe (l:List bw):aw C 130 [.pv (cd l)] (.p (i64 (bq.bZ l))) []:=by
 refine aE hC Tryz.func130 rfl rfl 52 rfl (by decide) (by kernel_rfl) fun _ _ _ _ _=>?_
 have lm:=aJ l rc
 (refine yS<|yA Z<|yT<|an<|yS<|yP Z<|yn Z<|aL zI ?_;refine⟨_,_,(p6 l),?_⟩)
 (refine br Z Z<|ae<|yA Z<|yU<|yP Z<|yP Z<|yT<|ak Z ?_;refine aa (fun h0=>?_) (fun h0=>?_) <;> try simp only[zB] at h0)
 ·(refine yS<|yP Z<|yA Z<|yT<|aA<|af<|aB zi ?_;refine And.intro ?_ trivial)
  rw[bq.bZ,if_neg h0]
 have h0:bq.cX l=0:=by simpa using h0
 obtain⟨hl,hg⟩:=bq.oq h0
 have hc:bq.bZ l=(if bq.ordered l=true then (if bq.h_ l=l then 0 else 3) else 8):=by rw[bq.bZ,if_pos h0]
 obtain⟨bl,bx⟩:=wj l (by omega)
 refine ar<|ah<|an<|yS<|yA Z<|yT<|aO ?_
 refine sH (fun _:Unit=>bq.ordered l=true) (fun _=>[(0,.p (cd l))]) (fun _=>[]) (fun _ hO t h=>?_) ?_
 ·rw[if_pos hO] at hc
  (refine ah<|an<|yS<|yP Z<|yn Z<|aL zI ?_;refine⟨_,_,(xT l (fun r hr=>FY (hg r hr)) (by omega)),?_⟩)
  (refine aR<|aG<|yn Z<|aL zI ?_;refine⟨_,_,(xL (bq.lO l) bl bx),?_⟩)
  (refine aR<|aM<|aG<|yP Z<|yn Z<|aL zI ?_;refine⟨_,_,(xK (bq.told (bq.lO l)) l (by
   have:=mw (bq.lO l) bx
   have:(bq.lO l).length*1000000<=1000000*1000000:=Nat.mul_le_mul_right _ bl
   omega)),?_⟩)
  (refine br Z Z<|ae<|yP Z<|yT<|ak Z ?_;refine aa (fun h2=>?_) (fun h2=>?_) <;> try simp only[zB] at h2)
  ·(refine yS<|yA Z<|yT<|aA<|af<|aB zi ?_;refine And.intro ?_ trivial)
   rw[hc,if_neg (show ¬bq.h_ l=l from h2)];rfl
  (refine ar<|ah<|yS<|yA Z<|yR zi ?_;refine And.intro ?_ trivial)
  rw[hc,if_pos (show bq.h_ l=l from h2)];rfl
 refine aC (fun i:Nat=>∀(j:Nat) a b,j < i->l[j]?=some a->l[j+1]?=some b->bq.before a b=true) (fun i=>[(0,.p (cd l)),(4,.p (i64 ((i:Int)+1)))]) (fun _=>[]) (fun i=>l.length - i) 0 _ (bg.refl _ _) (fun j a b h=>by omega) ⟨Z,Z,Y⟩ trivial fun i hi t h=>?_
 (refine an<|yS<|yP Z<|yP Z<|yP Z<|yP Z<|yT<|ak Z ?_;refine aa (fun h1=>?_) (fun h1=>?_) <;> try simp only[zB] at h1)
 ·rw[lm] at h1
  obtain⟨a,ha⟩:=aH (l:=l) (i:=i) (by omega)
  obtain⟨b,hb⟩:=aH (l:=l) (i:=i+1) (by omega)
  have stop:¬bq.before a b=true->bq.bZ l=8:=fun hn=>by
   rw[hc,if_neg]
   rw[nP ha hb (by simpa using hn)];decide
  have cont:bq.before a b=true->∀(j:Nat) x y,j < i+1->l[j]?=some x->l[j+1]?=some y->bq.before x y=true:=fun hy j x y hj hx lT=>by
   by_cases e:j=i
   ·subst e
    rw[ha] at hx;injection hx with hx;rw[hb] at lT;injection lT with lT
    rw[<-hx,<-lT];exact hy
   exact hi j x y (by omega) hx lT
  ((refine ar (ah (an (aO (an (cF [] false [true,true,true,true,true,true,true,false,false,true,true,false,true] rfl (by kernel_rfl) (aK Z (aK Z (aK Z (aK Z (aK Z (aK Z (aK Z (aK Z ?_)))))))))))));refine aK Z<|eG Z Z<|eG Z Z<|cE Z<|yD Z<|yD Z<|dq Z<|bb zI ?_);refine sI ?_)
  (refine bM<|ae<|dq Z<|aL zI ?_;refine⟨(rc a),(idx (show ((i:Int)+1) - 1=(i:Nat) by omega) ha),?_⟩)
  (refine bM<|ae<|yD Z<|yD Z<|yD Z<|dq Z<|aL zI ?_;refine⟨(rc b),(idx (show ((i:Int)+1)=((i+1:Nat):Int) by omega) hb),?_⟩)
  ((refine bM<|ae<|yD Z<|dq Z<|az zI<|vN Z Z<|ai<|dq Z<|az zI<|vN Z Z<|ai<|dq Z<|az zI<|tV Z ?_;refine aM<|aU<|dq Z<|az zI<|tV Z<|aM<|aU<|bR<|bS Z<|ah<|yS<|yV Z<|yP Z<|yV Z ?_;refine yP Z<|yP Z<|yP Z<|yg Z ?_);refine aa (fun g1=>?_) (fun g1=>?_) <;> try simp only[zB] at g1)
  ·((refine aT<|ae<|y0 Z<|y0 Z<|y0 Z<|y0 Z<|y0 Z<|aj Z Z Z Z<|ae<|aj Z Z Z Z<|ae<|aj Z Z Z Z<|ae<|aj Z Z Z Z ?_;refine ae<|aj Z Z Z Z<|ae<|y0 Z<|yP Z<|yT<|ak Z<|cu<|yS<|yA Z<|yT<|aA<|aq<|af ?_;refine af<|aq<|af<|af<|aB zi ?_);refine And.intro ?_ trivial)
   rw[stop (by simp[bq.before];omega)];rfl
  ((refine aV<|aN Z Z<|az zI<|aX<|ai<|y1 Z<|y2 Z<|aN Z Z<|az zI<|aX<|ai<|y1 Z<|y1 Z<|y1 Z ?_;refine yg Z ?_);refine aa (fun g2=>?_) (fun g2=>?_) <;> try simp only[zB] at g2)
  ·((refine aV<|aN Z Z<|az zI<|aX<|ai<|y1 Z<|y2 Z<|aN Z Z<|az zI<|aX<|ai<|y1 Z<|y1 Z<|y1 Z ?_;refine yP Z<|yT<|ak Z ?_);refine aa (fun g3=>?_) (fun g3=>?_) <;> try simp only[zB] at g3)
   ·(refine yS<|yA Z<|yT<|aA<|aq<|af<|af<|aq<|af<|af<|aB zi ?_;refine And.intro ?_ trivial)
    rw[stop (by simp[bq.before];omega)];rfl
   (refine ar<|aS<|ah<|aP<|yP Z<|yq Z<|bb zI ?_;refine sI ?_)
   (refine yk<|yA Z<|yT<|au ?_;refine⟨(i+1),_,bg.refl _ _,?_⟩)
   exact⟨cont (by simp[bq.before];omega),by omega,⟨rfl,cb (by omega),trivial⟩,trivial⟩
  ((refine aT<|ae<|y0 Z<|y0 Z<|y0 Z<|y0 Z<|y1 Z<|yP Z<|yT<|ak Z<|bz<|ar<|aS<|ah ?_;refine aP<|yP Z<|yq Z<|bb zI ?_);refine sI ?_)
  (refine yk<|yA Z<|yT<|au ?_;refine⟨(i+1),_,bg.refl _ _,?_⟩)
  exact⟨cont (by simp[bq.before];omega),by omega,⟨rfl,cb (by omega),trivial⟩,trivial⟩
 rw[lm] at h1
 refine bF<|aQ<|aQ<|bG<|ah<|au<|zX zi ?_
 refine⟨(),o8 fun j a b ha hb=>hi j a b ?_ ha hb,⟨Z,Y⟩,trivial⟩
 have:=(List.getElem?_eq_some_iff.1 hb).1
 omega
structure Class where
 name:ByteArray
 nets:List ByteArray
 clearance:Int
 width:Int
structure z6 where
 layer:Int
 region:List bw
 clearance:Int
structure lP where
 clearance:Int
 width:Int
 ring:Int
 edge:Int
 holeGap:Int
 classes:List Class
 areas:List z6
def kl (c:Class):List PV:=[str c.name,strs c.nets,i64 c.clearance,i64 c.width]
def arr (a:z6):List PV:=[i64 a.layer,cd a.region,i64 a.clearance]
def rl (r:lP):List PV:=[i64 r.clearance,i64 r.width,i64 r.ring,i64 r.edge,i64 r.holeGap,.sl (r.classes.map kl),.sl (r.areas.map arr)]
def aF:ByteArray:=⟨#[]⟩
def cB (a b:ByteArray):Bool:=Op.bytesLess a.data.toList b.data.toList
theorem ln {a b:ByteArray}:cB a b=true↔a.data.toList < b.data.toList:=by
 unfold cB
 rw[Go.Proofs.bytesLess_eq]
 simp
theorem fJ (a:ByteArray):cB a a=false:=by
 rw[Bool.eq_false_iff]
 intro h
 exact List.lt_irrefl _ (ln.1 h)
theorem dC {a b c:ByteArray} (h1:cB a b=true) (h2:cB b c=true):cB a c=true:=ln.2 (List.lt_trans (ln.1 h1) (ln.1 h2))
theorem kz {a b:Nat} (h:a+b < 4611686018427387904):(IntKind.u64.wrap ((a:Int)+(b:Int))).fdiv (2 ^ min (Int.toNat 1) IntKind.u64.bits)=(((a+b) / 2:Nat):Int):=by
 have h1:IntKind.u64.wrap ((a:Int)+(b:Int))=((a+b:Nat):Int):=by simp[IntKind.wrap,IntKind.bits,IntKind.signed];omega
 rw[h1]
 have h2:(2:Int) ^ min (Int.toNat 1) IntKind.u64.bits=2:=by decide
 rw[h2,Int.fdiv_eq_ediv_of_nonneg _ (by decide)]
 omega
end M
end Go.Proofs.YtiaifckpmefinaaGreatDoor
