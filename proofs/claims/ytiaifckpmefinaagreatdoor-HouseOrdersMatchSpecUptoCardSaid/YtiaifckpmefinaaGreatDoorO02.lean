/- Part 2 of 14 of the proof of HouseOrdersMatchSpec (the names are shortened by a program: the size of a claim is limited). -/
import Derived.Test.YtiaifckpmefinaaGreatDoorO01
set_option linter.unusedVariables false
set_option linter.unusedSimpArgs false
set_option maxRecDepth 100000
set_option maxHeartbeats 8000000
namespace Go.AM
open Go.RowKit
theorem mZ {S S':Nat->Prop} {w w':World} {x:PV} {v:Value} (h:CG x=true) (hx:bu S w x v):bu S' w' x v:=by
 cases hx with
 | im=>exact .im _
 | ag cs vs hl h1 hc=>
  refine .ag cs vs hl h1 fun i c v hi hv=>?_
  have hm:=List.mem_of_getElem? hi
  have:=List.all_eq_true.1 h c hm
  have Nv:=hc i c v hi hv
  cases c with
  | im y=>cases Nv;exact .im _
  | _=>cases this
 | nil=>cases h
 | sl=>cases h
 | ip=>cases h
 | fn=>cases h
theorem cm.grow {A:dc} {V L S:Nat->Prop} {rho:Nat->Value} {s:AS} {a:Act} {w:World} (sim:cm A V L S rho s a w) (hC:ct A.C) (w':World) (hf:Fr (fun _=>False) w w'):cm A V L S rho s a w':=by
 have iC:∀b,S b->w'.heap[b]?=w.heap[b]?:=fun k hk=>hf.block k (sim.st k hk) (fun h=>h)
 have T:kp S S w w' L L rho rho s.h s.h:=⟨fun b h=>h,iC,fun j hj=>⟨hj,fun hl=>⟨hl,rfl⟩⟩,fun j e' hj=>hj⟩
 exact
 {tm:=fun j hj=>(sim.tm j hj).dQ T
  sz:=sim.sz,df:=sim.df,nb:=sim.nb,pn:=sim.pn
  ev:=hC.env _ _ _ _ sim.ev (fun b h=>h) iC hf.size
  s0:=sim.s0
  st:=fun b hb=>Nat.lt_of_lt_of_le (sim.st b hb) hf.size
  sb:=sim.sb
  hp:=fun j hj=>(sim.hp j hj).dQ T (fun li g hg=>hf.block g (sim.lv j g hj li hg).1 (fun h=>h)) (fun _=>rfl)
  dj:=fun i j g hi hj li lj eP iB=>sim.dj i j g hi hj li lj (dA (fun k hk=>hf.block k (sim.l5 i k hi li hk).1 (fun h=>h)) eP) (dA (fun k hk=>hf.block k (sim.l5 j k hj lj hk).1 (fun h=>h)) iB)
  lv:=fun i g hi li hg=>by obtain⟨h1,h2⟩:=sim.lv i g hi li (dA (fun k hk=>hf.block k (sim.l5 i k hi li hk).1 (fun h=>h)) hg);exact⟨Nat.lt_of_lt_of_le h1 hf.size,h2⟩
  fr:=sim.fr.next hf.os hf.tape hf.output hf.size fun k hk _=>hf.block k (Nat.lt_of_lt_of_le hk sim.fr.size) (fun h=>h) }
inductive fb (L:Nat->Prop) (rho:Nat->Value) (h:Nat->AB):List Arg->List Value->List (Nat×AB)->Prop
 | nil:fb L rho h [] [] []
 | pv (x:PV) (v:Value) {xs:List Arg} {vs:List Value} {ids:List (Nat×AB)} (hr:fb L rho h xs vs ids):fb L rho h (.pv x::xs) (v::vs) ids
 | row (id:Nat) (e:TypeId) (es:List (List PV)) {xs:List Arg} {vs:List Value} {ids:List (Nat×AB)} (hL:L id) (hid:h id=.row e es) (hr:fb L rho h xs vs ids):fb L rho h (.row e es::xs) (rho id::vs) ((id,.row e es)::ids)
 | map (id:Nat) (mk:MK) (es:List (Value×PV)) {xs:List Arg} {vs:List Value} {ids:List (Nat×AB)} (hL:L id) (hid:h id=.map mk es) (hr:fb L rho h xs vs ids):fb L rho h (.map mk es::xs) (rho id::vs) ((id,.map mk es)::ids)
 | box (id:Nat) (cs:List AV) (ys:List PV) {xs:List Arg} {vs:List Value} {ids:List (Nat×AB)} (hL:L id) (hid:h id=.box cs) (hy:dS cs=some ys) (hr:fb L rho h xs vs ids):fb L rho h (.box ys::xs) (rho id::vs) ((id,.box cs)::ids)
 | bC (id:Nat) (cs:List HC) {xs:List Arg} {vs:List Value} {ids:List (Nat×AB)} (hL:L id) (hid:h id=.bC cs) (hr:fb L rho h xs vs ids):fb L rho h (.bC cs::xs) (rho id::vs) ((id,.bC cs)::ids)
theorem BO {A:dc} (hC:ct A.C) {V L:Nat->Prop} {rho:Nat->Value} {t:Nat->AV} {a:Act} {w:World} {h:Nat->AB} {md:Nat->Bool}:
  ∀(gZ:List AV) (vs:List Value) (j:Nat) (h':Nat->AB) (S:Nat->Prop) (K:List Arg->List (Nat×AB)->List (Nat×AB)->Prop),gZ.length=vs.length->cm A V L S rho ⟨t,h'⟩ a w->lU h h' ->
   (∀(S2:Nat->Prop) (h2:Nat->AB),cm A V L S2 rho ⟨t,h2⟩ a w->∀(i:Nat) x v,gZ[i]?=some x->vs[i]?=some v->bK S2 w A.C.P L rho h2 x v)->
   (∀id,(h' id).there->(h id).there)->fy md h j gZ K ->
  ∃xs ids fz S',K xs ids fz/\cm A V L S' rho ⟨t,app h' fz⟩ a w/\(∀b,S b->S' b)/\lU h (app h' fz)/\(∀p∈fz,L p.1)/\xs.length=vs.length/\fb L rho h xs vs ids/\(∀(i:Nat) x v,xs[i]?=some (.pv x)->vs[i]?=some v->bu S' w x v):=by
 intro gZ
 induction gZ with
 | nil=>
  intro vs j h' S K hl sim hF hrep _ hq
  have:vs=[]:=List.eq_nil_of_length_eq_zero hl.symm
  subst this
  exact⟨[],[],[],S,hq,sim,fun _ h=>h,hF,by simp,rfl,.nil,by simp⟩
 | cons x gZ ih=>
  intro vs j h' S K hl sim hF hrep hth hq
  cases vs with
  | nil=>simp at hl
  | cons v vs=>
   simp only[List.length_cons,Nat.add_right_cancel_iff] at hl
   have hx:bK S w A.C.P L rho h' x v:=hrep S h' sim 0 x v rfl rfl
   have rZ:∀(S2:Nat->Prop) (h2:Nat->AB),cm A V L S2 rho ⟨t,h2⟩ a w->∀(i:Nat) x v,gZ[i]?=some x->vs[i]?=some v->bK S2 w A.C.P L rho h2 x v:=fun S2 h2 s2 i x v h3 h4=>hrep S2 h2 s2 (i+1) x v (by simpa using h3) (by simpa using h4)
   unfold fy at hq
   split at hq
   ·obtain⟨y,fz,S2,hq,bN,hp,vi,CA,w4⟩:=gh hC sim hF hx hq
    have L6:∀id,(app h' fz id).there->(h id).there:=fun id ht=>by
     rcases CA id with h1 | ⟨e',xs,h1,h2⟩ | ⟨cs,xs,h1,_,h2⟩
     ·rw[h1] at ht;exact ht
     ·rw[h1];trivial
     rw[h1];trivial
    obtain⟨xs,ids,jM,S',k1,k2,k3,k4,k5,k6,k7,k8⟩:=ih vs (j+1) (app h' fz) S2 _ hl bN CA rZ L6 hq
    refine⟨.pv y::xs,ids,fz++jM,S',k1,by rw[cC];exact k2,fun b hb=>k3 b (vi b hb),by rw[cC];exact k4,fun p hp=>(List.mem_append.1 hp).elim (w4 p) (k5 p),by simp[k6],.pv y v k7,fun i x u h3 h4=>?_⟩
    cases i with
    | zero=>simp at h3 h4;subst h3 h4;exact hp.mono k3 (fun _ _=>rfl)
    | succ i=>exact k8 i x u (by simpa using h3) (by simpa using h4)
   split at hq
   ·rename_i id
    split at hq
    ·rename_i e es a7
     obtain⟨xs,ids,jM,S',k1,k2,k3,k4,k5,k6,k7,k8⟩:=ih vs (j+1) h' S _ hl sim hF rZ hth hq
     have ht:(h' id).there:=by
      rcases hF id with h1 | ⟨e',xs,h1,h2⟩ | ⟨cs,xs,h1,_,h2⟩
      ·rw[h1,a7];trivial
      ·rw[h2];trivial
      rw[h2];trivial
     obtain⟨hL,rfl⟩:=hx.db ht
     refine⟨.row e es::xs,(id,.row e es)::ids,jM,S',k1,k2,k3,k4,k5,by simp[k6],.row id e es hL a7 k7,fun i x u h3 h4=>?_⟩
     cases i with
     | zero=>simp at h3
     | succ i=>exact k8 i x u (by simpa using h3) (by simpa using h4)
    ·rename_i es Gq
     obtain⟨xs,ids,jM,S',k1,k2,k3,k4,k5,k6,k7,k8⟩:=ih vs (j+1) h' S _ hl sim hF rZ hth hq
     have he:h' id=.hM es:=by
      rcases hF id with h1 | ⟨e',xs,h1,h2⟩ | ⟨cs,xs,h1,_,h2⟩
      ·rw[h1,Gq]
      ·rw[Gq] at h1;cases h1
      rw[Gq] at h1;cases h1
     obtain⟨hL,rfl⟩:=hx.db (by rw[he];trivial)
     have hh:=sim.hp id hL
     have hh:fa S w A.C.P L rho h' id (h' id):=hh
     rw[he] at hh
     refine⟨.pv (.sl es)::xs,ids,jM,S',k1,k2,k3,k4,k5,by simp[k6],.pv _ _ k7,fun i x u h3 h4=>?_⟩
     cases i with
     | zero=>simp at h3 h4;subst h3 h4;exact bu.mono hh k3 (fun _ _=>rfl)
     | succ i=>exact k8 i x u (by simpa using h3) (by simpa using h4)
    ·rename_i mk es a7
     obtain⟨xs,ids,jM,S',k1,k2,k3,k4,k5,k6,k7,k8⟩:=ih vs (j+1) h' S _ hl sim hF rZ hth hq
     have ht:(h' id).there:=by
      rcases hF id with h1 | ⟨e',xs,h1,h2⟩ | ⟨cs,xs,h1,_,h2⟩
      ·rw[h1,a7];trivial
      ·rw[h2];trivial
      rw[h2];trivial
     obtain⟨hL,rfl⟩:=hx.db ht
     refine⟨.map mk es::xs,(id,.map mk es)::ids,jM,S',k1,k2,k3,k4,k5,by simp[k6],.map id mk es hL a7 k7,fun i x u h3 h4=>?_⟩
     cases i with
     | zero=>simp at h3
     | succ i=>exact k8 i x u (by simpa using h3) (by simpa using h4)
    exact hq.elim
   ·obtain⟨xs,ids,jM,S',k1,k2,k3,k4,k5,k6,k7,k8⟩:=ih vs (j+1) h' S _ hl sim hF rZ hth hq
    refine⟨.pv _::xs,ids,jM,S',k1,k2,k3,k4,k5,by simp[k6],.pv _ _ k7,fun i x u h3 h4=>?_⟩
    cases i with
    | zero=>simp at h3 h4;subst h3 h4;exact hx.fq.mono k3 (fun _ _=>rfl)
    | succ i=>exact k8 i x u (by simpa using h3) (by simpa using h4)
   ·rename_i id
    split at hq
    ·rename_i cs bC
     split at hq
     ·rename_i ys Hk
      obtain⟨xs,ids,jM,S',k1,k2,k3,k4,k5,k6,k7,k8⟩:=ih vs (j+1) h' S _ hl sim hF rZ hth hq
      have ht:(h' id).there:=by
       rcases hF id with h1 | ⟨e',xs,h1,h2⟩ | ⟨cs,xs,h1,_,h2⟩
       ·rw[h1,bC];trivial
       ·rw[h2];trivial
       rw[h2];trivial
      obtain⟨hL,g,hg,hv⟩:=hx.gz ht
      have yI:v=rho id:=by rw[hv,hg]
      subst yI
      refine⟨.box ys::xs,(id,.box cs)::ids,jM,S',k1,k2,k3,k4,k5,by simp[k6],.box id cs ys hL bC Hk k7,fun i x u h3 h4=>?_⟩
      cases i with
      | zero=>simp at h3
      | succ i=>exact k8 i x u (by simpa using h3) (by simpa using h4)
     exact hq.elim
    ·rename_i cs bC
     obtain⟨xs,ids,jM,S',k1,k2,k3,k4,k5,k6,k7,k8⟩:=ih vs (j+1) h' S _ hl sim hF rZ hth hq
     have ht:(h' id).there:=by
      rcases hF id with h1 | ⟨e',xs,h1,h2⟩ | ⟨cs,xs,h1,_,h2⟩
      ·rw[h1,bC];trivial
      ·rw[h2];trivial
      rw[h2];trivial
     obtain⟨hL,g,hg,hv⟩:=hx.gz ht
     have yI:v=rho id:=by rw[hv,hg]
     subst yI
     refine⟨.bC cs::xs,(id,.bC cs)::ids,jM,S',k1,k2,k3,k4,k5,by simp[k6],.bC id cs hL bC k7,fun i x u h3 h4=>?_⟩
     cases i with
     | zero=>simp at h3
     | succ i=>exact k8 i x u (by simpa using h3) (by simpa using h4)
    exact hq.elim
   exact hq.elim
theorem fb.at {L:Nat->Prop} {rho:Nat->Value} {h:Nat->AB} {xs:List Arg} {vs:List Value} {ids:List (Nat×AB)} (H:fb L rho h xs vs ids):∀(j:Nat) x v,xs[j]?=some x->vs[j]?=some v->x.handed=true->∃id b,(id,b)∈ids/\L id/\h id=b/\v=rho id/\(((∃e es,x=.row e es/\b=.row e es)\/∃mk es,x=.map mk es/\b=.map mk es)\/(∃cs ys,x=.box ys/\b=.box cs/\dS cs=some ys)\/∃cs,x=.bC cs/\b=.bC cs):=by
 induction H with
 | nil=>intro j x v h1;simp at h1
 | pv y u hr ih=>
  intro j x v h1 h2 h3
  cases j with
  | zero=>simp at h1;subst h1;cases h3
  | succ j=>exact ih j x v (by simpa using h1) (by simpa using h2) h3
 | row id e es hL hid hr ih=>
  intro j x v h1 h2 h3
  cases j with
  | zero=>simp at h1 h2;subst h1 h2;exact⟨id,_,by simp,hL,hid,rfl,.inl (.inl ⟨e,es,rfl,rfl⟩)⟩
  | succ j=>obtain⟨i,b,m,r⟩:=ih j x v (by simpa using h1) (by simpa using h2) h3;exact⟨i,b,by simp[m],r⟩
 | map id mk es hL hid hr ih=>
  intro j x v h1 h2 h3
  cases j with
  | zero=>simp at h1 h2;subst h1 h2;exact⟨id,_,by simp,hL,hid,rfl,.inl (.inr ⟨mk,es,rfl,rfl⟩)⟩
  | succ j=>obtain⟨i,b,m,r⟩:=ih j x v (by simpa using h1) (by simpa using h2) h3;exact⟨i,b,by simp[m],r⟩
 | box id cs ys hL hid hy hr ih=>
  intro j x v h1 h2 h3
  cases j with
  | zero=>simp at h1 h2;subst h1 h2;exact⟨id,_,by simp,hL,hid,rfl,.inr (.inl ⟨cs,ys,rfl,rfl,hy⟩)⟩
  | succ j=>obtain⟨i,b,m,r⟩:=ih j x v (by simpa using h1) (by simpa using h2) h3;exact⟨i,b,by simp[m],r⟩
 | bC id cs hL hid hr ih=>
  intro j x v h1 h2 h3
  cases j with
  | zero=>simp at h1 h2;subst h1 h2;exact⟨id,_,by simp,hL,hid,rfl,.inr (.inr ⟨cs,rfl,rfl⟩)⟩
  | succ j=>obtain⟨i,b,m,r⟩:=ih j x v (by simpa using h1) (by simpa using h2) h3;exact⟨i,b,by simp[m],r⟩
theorem fb.back {L:Nat->Prop} {rho:Nat->Value} {h:Nat->AB} {xs:List Arg} {vs:List Value} {ids:List (Nat×AB)} (H:fb L rho h xs vs ids):∀id b,(id,b)∈ids->L id/\h id=b/\b.live/\∃(j:Nat) (x:Arg),xs[j]?=some x/\vs[j]?=some (rho id)/\x.handed=true:=by
 induction H with
 | nil=>intro id b h;cases h
 | pv y u hr ih=>intro id b h;obtain⟨h1,h2,h3,j,x,h4⟩:=ih id b h;exact⟨h1,h2,h3,j+1,x,by simpa using h4⟩
 | row i e es hL hid hr ih=>
  intro id b h
  rcases List.mem_cons.1 h with h | h
  ·injection h with h1 h2;subst h1 h2;exact⟨hL,hid,trivial,0,_,rfl,rfl,rfl⟩
  obtain⟨h1,h2,h3,j,x,h4⟩:=ih id b h;exact⟨h1,h2,h3,j+1,x,by simpa using h4⟩
 | map i mk es hL hid hr ih=>
  intro id b h
  rcases List.mem_cons.1 h with h | h
  ·injection h with h1 h2;subst h1 h2;exact⟨hL,hid,trivial,0,_,rfl,rfl,rfl⟩
  obtain⟨h1,h2,h3,j,x,h4⟩:=ih id b h;exact⟨h1,h2,h3,j+1,x,by simpa using h4⟩
 | box i cs ys hL hid hy hr ih=>
  intro id b h
  rcases List.mem_cons.1 h with h | h
  ·injection h with h1 h2;subst h1 h2;exact⟨hL,hid,trivial,0,_,rfl,rfl,rfl⟩
  obtain⟨h1,h2,h3,j,x,h4⟩:=ih id b h;exact⟨h1,h2,h3,j+1,x,by simpa using h4⟩
 | bC i cs hL hid hr ih=>
  intro id b h
  rcases List.mem_cons.1 h with h | h
  ·injection h with h1 h2;subst h1 h2;exact⟨hL,hid,trivial,0,_,rfl,rfl,rfl⟩
  obtain⟨h1,h2,h3,j,x,h4⟩:=ih id b h;exact⟨h1,h2,h3,j+1,x,by simpa using h4⟩
theorem fb.inj {L:Nat->Prop} {rho:Nat->Value} {h:Nat->AB} {xs:List Arg} {vs:List Value} {ids:List (Nat×AB)} (H:fb L rho h xs vs ids) (hn:(ids.map (·.1)).Nodup):∀(i j:Nat) x y v u,xs[i]?=some x->xs[j]?=some y->vs[i]?=some v->vs[j]?=some u->x.handed=true->y.handed=true->i≠j ->
  ∃qw ob b1 b2,qw≠ob/\(qw,b1)∈ids/\(ob,b2)∈ids/\v=rho qw/\u=rho ob/\(((∃e es,x=.row e es/\b1=.row e es)\/∃mk es,x=.map mk es/\b1=.map mk es)\/(∃cs ys,x=.box ys/\b1=.box cs/\dS cs=some ys)\/∃cs,x=.bC cs/\b1=.bC cs)/\(((∃e es,y=.row e es/\b2=.row e es)\/∃mk es,y=.map mk es/\b2=.map mk es)\/(∃cs ys,y=.box ys/\b2=.box cs/\dS cs=some ys)\/∃cs,y=.bC cs/\b2=.bC cs):=by
 have step:∀(i0:Nat) (b0:AB) {xs:List Arg} {vs:List Value} {ids:List (Nat×AB)} (H:fb L rho h xs vs ids) (hn:(((i0,b0)::ids).map (·.1)).Nodup) (j:Nat) (y:Arg) (u:Value),xs[j]?=some y->vs[j]?=some u->y.handed=true->∃id b,id≠i0/\(id,b)∈ids/\u=rho id/\(((∃e es,y=.row e es/\b=.row e es)\/∃mk es,y=.map mk es/\b=.map mk es)\/(∃cs ys,y=.box ys/\b=.box cs/\dS cs=some ys)\/∃cs,y=.bC cs/\b=.bC cs):=by
  intro i0 b0 xs vs ids H hn j y u h1 h2 h3
  obtain⟨id,b,h4,_,_,h5,hf⟩:=H.at j y u h1 h2 h3
  simp only[List.map_cons,List.nodup_cons] at hn
  exact⟨id,b,fun e=>hn.1 (List.mem_map.2 ⟨(id,b),h4,e⟩),h4,h5,hf⟩
 induction H with
 | nil=>intro i j x y v u h1;simp at h1
 | pv z v0 hr ih=>
  intro i j x y v u h1 h2 h3 h4 h5 h6 h7
  cases i with
  | zero=>simp at h1;subst h1;cases h5
  | succ i=>
   cases j with
   | zero=>simp at h2;subst h2;cases h6
   | succ j=>exact ih hn i j x y v u (by simpa using h1) (by simpa using h2) (by simpa using h3) (by simpa using h4) h5 h6 (by omega)
 | row id e es hL hid hr ih=>
  intro i j x y v u h1 h2 h3 h4 h5 h6 h7
  have wS:=hn
  simp only[List.map_cons,List.nodup_cons] at wS
  cases i with
  | zero=>
   cases j with
   | zero=>exact absurd rfl h7
   | succ j=>
    obtain⟨ob,b2,k1,k2,k3,hf⟩:=step id (.row e es) hr hn j y u (by simpa using h2) (by simpa using h4) h6
    simp at h1 h3
    exact⟨id,ob,.row e es,b2,k1.symm,by simp,by simp[k2],h3.symm,k3,h1 ▸ .inl (.inl ⟨e,es,rfl,rfl⟩),hf⟩
  | succ i=>
   cases j with
   | zero=>
    obtain⟨ob,b2,k1,k2,k3,hf⟩:=step id (.row e es) hr hn i x v (by simpa using h1) (by simpa using h3) h5
    simp at h2 h4
    exact⟨ob,id,b2,.row e es,k1,by simp[k2],by simp,k3,h4.symm,hf,h2 ▸ .inl (.inl ⟨e,es,rfl,rfl⟩)⟩
   | succ j=>
    obtain⟨qw,ob,b1,b2,k1,k2,k3,k4,k5⟩:=ih wS.2 i j x y v u (by simpa using h1) (by simpa using h2) (by simpa using h3) (by simpa using h4) h5 h6 (by omega)
    exact⟨qw,ob,b1,b2,k1,by simp[k2],by simp[k3],k4,k5⟩
 | map id mk es hL hid hr ih=>
  intro i j x y v u h1 h2 h3 h4 h5 h6 h7
  have wS:=hn
  simp only[List.map_cons,List.nodup_cons] at wS
  cases i with
  | zero=>
   cases j with
   | zero=>exact absurd rfl h7
   | succ j=>
    obtain⟨ob,b2,k1,k2,k3,hf⟩:=step id (.map mk es) hr hn j y u (by simpa using h2) (by simpa using h4) h6
    simp at h1 h3
    exact⟨id,ob,.map mk es,b2,k1.symm,by simp,by simp[k2],h3.symm,k3,h1 ▸ .inl (.inr ⟨mk,es,rfl,rfl⟩),hf⟩
  | succ i=>
   cases j with
   | zero=>
    obtain⟨ob,b2,k1,k2,k3,hf⟩:=step id (.map mk es) hr hn i x v (by simpa using h1) (by simpa using h3) h5
    simp at h2 h4
    exact⟨ob,id,b2,.map mk es,k1,by simp[k2],by simp,k3,h4.symm,hf,h2 ▸ .inl (.inr ⟨mk,es,rfl,rfl⟩)⟩
   | succ j=>
    obtain⟨qw,ob,b1,b2,k1,k2,k3,k4,k5⟩:=ih wS.2 i j x y v u (by simpa using h1) (by simpa using h2) (by simpa using h3) (by simpa using h4) h5 h6 (by omega)
    exact⟨qw,ob,b1,b2,k1,by simp[k2],by simp[k3],k4,k5⟩
 | box id cs ys hL hid hy hr ih=>
  intro i j x y v u h1 h2 h3 h4 h5 h6 h7
  have wS:=hn
  simp only[List.map_cons,List.nodup_cons] at wS
  cases i with
  | zero=>
   cases j with
   | zero=>exact absurd rfl h7
   | succ j=>
    obtain⟨ob,b2,k1,k2,k3,hf⟩:=step id (.box cs) hr hn j y u (by simpa using h2) (by simpa using h4) h6
    simp at h1 h3
    exact⟨id,ob,.box cs,b2,k1.symm,by simp,by simp[k2],h3.symm,k3,h1 ▸ .inr (.inl ⟨cs,ys,rfl,rfl,hy⟩),hf⟩
  | succ i=>
   cases j with
   | zero=>
    obtain⟨ob,b2,k1,k2,k3,hf⟩:=step id (.box cs) hr hn i x v (by simpa using h1) (by simpa using h3) h5
    simp at h2 h4
    exact⟨ob,id,b2,.box cs,k1,by simp[k2],by simp,k3,h4.symm,hf,h2 ▸ .inr (.inl ⟨cs,ys,rfl,rfl,hy⟩)⟩
   | succ j=>
    obtain⟨qw,ob,b1,b2,k1,k2,k3,k4,k5⟩:=ih wS.2 i j x y v u (by simpa using h1) (by simpa using h2) (by simpa using h3) (by simpa using h4) h5 h6 (by omega)
    exact⟨qw,ob,b1,b2,k1,by simp[k2],by simp[k3],k4,k5⟩
 | bC id cs hL hid hr ih=>
  intro i j x y v u h1 h2 h3 h4 h5 h6 h7
  have wS:=hn
  simp only[List.map_cons,List.nodup_cons] at wS
  cases i with
  | zero=>
   cases j with
   | zero=>exact absurd rfl h7
   | succ j=>
    obtain⟨ob,b2,k1,k2,k3,hf⟩:=step id (.bC cs) hr hn j y u (by simpa using h2) (by simpa using h4) h6
    simp at h1 h3
    exact⟨id,ob,.bC cs,b2,k1.symm,by simp,by simp[k2],h3.symm,k3,h1 ▸ .inr (.inr ⟨cs,rfl,rfl⟩),hf⟩
  | succ i=>
   cases j with
   | zero=>
    obtain⟨ob,b2,k1,k2,k3,hf⟩:=step id (.bC cs) hr hn i x v (by simpa using h1) (by simpa using h3) h5
    simp at h2 h4
    exact⟨ob,id,b2,.bC cs,k1,by simp[k2],by simp,k3,h4.symm,hf,h2 ▸ .inr (.inr ⟨cs,rfl,rfl⟩)⟩
   | succ j=>
    obtain⟨qw,ob,b1,b2,k1,k2,k3,k4,k5⟩:=ih wS.2 i j x y v u (by simpa using h1) (by simpa using h2) (by simpa using h3) (by simpa using h4) h5 h6 (by omega)
    exact⟨qw,ob,b1,b2,k1,by simp[k2],by simp[k3],k4,k5⟩
theorem Dc {id:Nat}:∀{fz:List (Nat×AB)},oD id fz=true->∀p∈fz,p.1≠id:=by
 intro fz
 induction fz with
 | nil=>intro _ p hp;cases hp
 | cons x fz ih=>
  intro hn p hp
  unfold oD at hn
  split at hn
  ·cases hn
  rename_i dh
  rcases List.mem_cons.1 hp with h | h
  ·subst h;intro e;rw[e] at dh;simp at dh
  exact ih hn p h
theorem y8:∀{ids fz:List (Nat×AB)},Av ids fz=true->(∀p∈ids,oD p.1 fz=true)/\(ids.map (·.1)).Nodup:=by
 intro ids
 induction ids with
 | nil=>intro fz _;simp
 | cons x ids ih=>
  intro fz h
  obtain⟨i,b⟩:=x
  simp only[Av,Bool.and_eq_true] at h
  obtain⟨⟨h1,h2⟩,h3⟩:=h
  obtain⟨h4,h5⟩:=ih h3
  refine⟨fun p hp=>?_,?_⟩
  ·rcases List.mem_cons.1 hp with h | h
   ·subst h;exact h1
   exact h4 p h
  simp only[List.map_cons,List.nodup_cons]
  refine⟨fun hm=>?_,h5⟩
  obtain⟨p,hp,he⟩:=List.mem_map.1 hm
  exact Dc h2 p hp he
def tQ:List Arg->List (Nat×AB)->Nat->Nat->Prop
 | x::xs,ids,i,id=>match x.handed with
  | false=>match i with
   | 0=>False
   | i+1=>tQ xs ids i id
  | true=>match ids with
   | (id0,_)::ids=>match i with
    | 0=>id=id0
    | i+1=>tQ xs ids i id
   | []=>False
 | _,_,_,_=>False
theorem tQ.uniq:∀{xs:List Arg} {ids:List (Nat×AB)} {i a b:Nat},tQ xs ids i a->tQ xs ids i b->a=b
 | [],_,_,_,_,h,_=>h.elim
 | x::xs,ids,i,a,b,h,k=>by
  unfold tQ at h k
  split at h
  ·rename_i hx
   simp only[hx] at k
   cases i with
   | zero=>exact h.elim
   | succ i=>exact tQ.uniq h k
  rename_i hx
  simp only[hx] at k
  cases ids with
  | nil=>exact h.elim
  | cons p ids=>
   cases i with
   | zero=>exact h.trans k.symm
   | succ i=>exact tQ.uniq (xs:=xs) (ids:=ids) h k
def Fi (S:Nat->Prop) (w:World) (P:Program) (args:List Arg) (fin:List Fin) (vs:List Value) (i:Nat) (v:Value) (fT new:AB):Prop:=
 new=.none\/(((∃e es dw,fT=.row e es/\new=.row e dw/\a_ P w (bu S w) e dw v)\/∃mk es dw,fT=.map mk es/\new=.map mk dw/\vd S w mk dw v)\/(∃(cs:List AV) (xs:List PV) (g:Nat) (ty:TypeId) (c:Array Value),fT=.box cs/\new=.box (xs.map .p)/\v=.pointer (some ⟨g,0,none⟩)/\w.heap[g]?=some (.cells c ty (0,0))/\c.size=xs.length/\∀(j:Nat) x u,xs[j]?=some x->c[j]?=some u->u.oneCell'=true/\bu S w x u)\/
  (∃(cs jF:List HC) (g:Nat) (ty:TypeId) (c:Array Value),fT=.bC cs/\new=.bC jF/\v=.pointer (some ⟨g,0,none⟩)/\Bu S w P jF g ty c))/\
  (∀g,hasB w new v g->¬S g/\du w args fin vs i g)
theorem Fi.lift {S:Nat->Prop} {w:World} {P:Program} {xs:List Arg} {fin:List Fin} {vs:List Value} {i:Nat} {v:Value} {fT new:AB} {nX:List Arg} {Dd:List Fin} {jG:List Value} {i':Nat} (h:∀g,du w xs fin vs i g->du w nX Dd jG i' g) (hb:Fi S w P xs fin vs i v fT new):Fi S w P nX Dd jG i' v fT new:=
 hb.imp id fun hb=>⟨hb.1,fun g hg=>⟨(hb.2 g hg).1,h g (hb.2 g hg).2⟩⟩
theorem jm {S:Nat->Prop} {w:World} {P:Program} {L:Nat->Prop} {rho:Nat->Value} {h:Nat->AB} {xs:List Arg} {vs:List Value} {ids:List (Nat×AB)} (H:fb L rho h xs vs ids):
  ∀(fin:List Fin) fe,fx S w P xs fin vs->fi ids fin=some fe->fe.map (·.1)=ids.map (·.1)/\∀id new,(id,new)∈fe->∃fT i,(id,fT)∈ids/\tQ xs ids i id/\Fi S w P xs fin vs i (rho id) fT new:=by
 induction H with
 | nil=>
  intro fin fe fm ma
  cases fin with
  | nil=>simp[fi] at ma;subst ma;exact⟨rfl,by simp⟩
  | cons f fin=>simp[fi] at ma
 | pv x v hr ih=>
  intro fin fe fm ma
  obtain⟨h2,h3⟩:=ih fin fe fm ma
  refine⟨h2,fun id new hm=>?_⟩
  obtain⟨fT,i,h4,h6,h5⟩:=h3 id new hm
  exact⟨fT,i+1,h4,h6,h5.lift fun g h=>h⟩
 | @row i e es xs vs ids hL hid hr ih=>
  intro fin fe fm ma
  cases fin with
  | nil=>exact fm.elim
  | cons f fin=>
   obtain⟨hf,mc⟩:=(show nW S w P (.row e es) f (rho i)/\fx S w P xs fin vs from fm)
   cases f with
   | gone=>
    simp only[fi] at ma
    obtain⟨y9,h1,rfl⟩:=Option.map_eq_some_iff.1 ma
    obtain⟨h2,h3⟩:=ih fin y9 mc h1
    refine⟨by simp[h2],fun id new hm=>?_⟩
    rcases List.mem_cons.1 hm with e' | e'
    ·injection e' with e1 e2;subst e1 e2;exact⟨.row e es,0,by simp,rfl,.inl rfl⟩
    obtain⟨fT,k,h4,h6,h5⟩:=h3 id new e';exact⟨fT,k+1,by simp[h4],h6,h5.lift fun g h=>h⟩
   | row dw=>
    simp only[fi] at ma
    obtain⟨y9,h1,rfl⟩:=Option.map_eq_some_iff.1 ma
    obtain⟨h2,h3⟩:=ih fin y9 mc h1
    refine⟨by simp[h2],fun id new hm=>?_⟩
    rcases List.mem_cons.1 hm with e' | e'
    ·injection e' with e1 e2
     subst e1 e2
     exact⟨_,0,by simp,rfl,.inr ⟨.inl (.inl ⟨e,es,dw,rfl,rfl,hf.1⟩),fun g hg=>⟨hf.2 g (aY rfl hg),rfl,.inl (aY rfl hg)⟩⟩⟩
    obtain⟨fT,k,h4,h6,h5⟩:=h3 id new e';exact⟨fT,k+1,by simp[h4],h6,h5.lift fun g h=>h⟩
   | map dw=>exact hf.elim
   | box cs=>exact hf.elim
   | bC cs=>exact hf.elim
 | @map i mk es xs vs ids hL hid hr ih=>
  intro fin fe fm ma
  cases fin with
  | nil=>exact fm.elim
  | cons f fin=>
   obtain⟨hf,mc⟩:=(show nW S w P (.map mk es) f (rho i)/\fx S w P xs fin vs from fm)
   cases f with
   | gone=>
    simp only[fi] at ma
    obtain⟨y9,h1,rfl⟩:=Option.map_eq_some_iff.1 ma
    obtain⟨h2,h3⟩:=ih fin y9 mc h1
    refine⟨by simp[h2],fun id new hm=>?_⟩
    rcases List.mem_cons.1 hm with e' | e'
    ·injection e' with e1 e2;subst e1 e2;exact⟨.map mk es,0,by simp,rfl,.inl rfl⟩
    obtain⟨fT,k,h4,h6,h5⟩:=h3 id new e';exact⟨fT,k+1,by simp[h4],h6,h5.lift fun g h=>h⟩
   | map dw=>
    simp only[fi] at ma
    obtain⟨y9,h1,rfl⟩:=Option.map_eq_some_iff.1 ma
    obtain⟨h2,h3⟩:=ih fin y9 mc h1
    refine⟨by simp[h2],fun id new hm=>?_⟩
    rcases List.mem_cons.1 hm with e' | e'
    ·injection e' with e1 e2
     subst e1 e2
     exact⟨_,0,by simp,rfl,.inr ⟨.inl (.inr ⟨mk,es,dw,rfl,rfl,hf.1⟩),fun g hg=>⟨hf.2 g (aY rfl hg),rfl,.inl (aY rfl hg)⟩⟩⟩
    obtain⟨fT,k,h4,h6,h5⟩:=h3 id new e';exact⟨fT,k+1,by simp[h4],h6,h5.lift fun g h=>h⟩
   | row dw=>exact hf.elim
   | box cs=>exact hf.elim
   | bC cs=>exact hf.elim
 | @box i cs ys xs vs ids hL hid hy hr ih=>
  intro fin fe fm ma
  cases fin with
  | nil=>exact fm.elim
  | cons f fin=>
   obtain⟨hf,mc⟩:=(show nW S w P (.box ys) f (rho i)/\fx S w P xs fin vs from fm)
   cases f with
   | gone=>
    simp only[fi] at ma
    obtain⟨y9,h1,rfl⟩:=Option.map_eq_some_iff.1 ma
    obtain⟨h2,h3⟩:=ih fin y9 mc h1
    refine⟨by simp[h2],fun id new hm=>?_⟩
    rcases List.mem_cons.1 hm with e' | e'
    ·injection e' with e1 e2;subst e1 e2;exact⟨.box cs,0,by simp,rfl,.inl rfl⟩
    obtain⟨fT,k,h4,h6,h5⟩:=h3 id new e';exact⟨fT,k+1,by simp[h4],h6,h5.lift fun g h=>h⟩
   | row es=>exact hf.elim
   | map es=>exact hf.elim
   | bC es=>exact hf.elim
   | box nX=>
    simp only[fi] at ma
    obtain⟨y9,h1,rfl⟩:=Option.map_eq_some_iff.1 ma
    obtain⟨h2,h3⟩:=ih fin y9 mc h1
    refine⟨by simp[h2],fun id new hm=>?_⟩
    rcases List.mem_cons.1 hm with e' | e'
    ·injection e' with e1 e2
     subst e1 e2
     obtain⟨g,ty,c,m1,m2,m3,m4,m5⟩:=hf
     refine⟨_,0,by simp,rfl,.inr ⟨.inr (.inl ⟨cs,nX,g,ty,c,rfl,rfl,m1,m2,m3,m5⟩),fun g' hg=>?_⟩⟩
     have hg:=aY rfl hg
     refine⟨?_,rfl,.inl hg⟩
     rw[m1] at hg
     injection hg with hg
     exact hg ▸ m4
    obtain⟨fT,k,h4,h6,h5⟩:=h3 id new e';exact⟨fT,k+1,by simp[h4],h6,h5.lift fun g h=>h⟩
 | @bC i cs xs vs ids hL hid hr ih=>
  intro fin fe fm ma
  cases fin with
  | nil=>exact fm.elim
  | cons f fin=>
   obtain⟨hf,mc⟩:=(show nW S w P (.bC cs) f (rho i)/\fx S w P xs fin vs from fm)
   cases f with
   | gone=>
    simp only[fi] at ma
    obtain⟨y9,h1,rfl⟩:=Option.map_eq_some_iff.1 ma
    obtain⟨h2,h3⟩:=ih fin y9 mc h1
    refine⟨by simp[h2],fun id new hm=>?_⟩
    rcases List.mem_cons.1 hm with e' | e'
    ·injection e' with e1 e2;subst e1 e2;exact⟨.bC cs,0,by simp,rfl,.inl rfl⟩
    obtain⟨fT,k,h4,h6,h5⟩:=h3 id new e';exact⟨fT,k+1,by simp[h4],h6,h5.lift fun g h=>h⟩
   | row es=>exact hf.elim
   | map es=>exact hf.elim
   | box es=>exact hf.elim
   | bC jF=>
    simp only[fi] at ma
    obtain⟨y9,h1,rfl⟩:=Option.map_eq_some_iff.1 ma
    obtain⟨h2,h3⟩:=ih fin y9 mc h1
    refine⟨by simp[h2],fun id new hm=>?_⟩
    rcases List.mem_cons.1 hm with e' | e'
    ·injection e' with e1 e2
     subst e1 e2
     obtain⟨g,ty,c,m1,m2,m3⟩:=hf
     exact⟨_,0,by simp,rfl,.inr ⟨.inr (.inr ⟨cs,jF,g,ty,c,rfl,rfl,m1,m2⟩),fun g' hg=>⟨m3 g' hg,rfl,hg⟩⟩⟩
    obtain⟨fT,k,h4,h6,h5⟩:=h3 id new e';exact⟨fT,k+1,by simp[h4],h6,h5.lift fun g h=>h⟩
theorem ew (fe:List (Nat×AB)) (h:Nat->AB) (id:Nat):(∃b,(id,b)∈fe/\app h fe id=b)\/((∀p∈fe,p.1≠id)/\app h fe id=h id):=by
 induction fe generalizing h with
 | nil=>exact .inr ⟨by simp,rfl⟩
 | cons x fe ih=>
  rcases ih (bI h x.1 x.2) with⟨b,h1,h2⟩ | ⟨h1,h2⟩
  ·exact .inl ⟨b,by simp[h1],h2⟩
  by_cases e:x.1=id
  ·refine .inl ⟨x.2,by rw[<-e];simp,?_⟩
   show app (bI h x.1 x.2) fe id=x.2
   rw[h2,e,bc]
  refine .inr ⟨fun p hp=>?_,?_⟩
  ·rcases List.mem_cons.1 hp with h | h
   ·rw[h];exact e
   exact h1 p h
  show app (bI h x.1 x.2) fe id=h id
  rw[h2,bQ _ _ (fun e'=>e e'.symm)]
theorem oO {w:World} {b:AB} {v:Value} {g:Nat} {x:Arg} (h:((∃e es,x=.row e es/\b=.row e es)\/∃mk es,x=.map mk es/\b=.map mk es)\/(∃cs ys,x=.box ys/\b=.box cs/\dS cs=some ys)\/∃cs,x=.bC cs/\b=.bC cs):hasB w (ve x) v g↔hasB w b v g:=by
 rcases h with (⟨e,es,rfl,rfl⟩ | ⟨mk,es,rfl,rfl⟩) | ⟨cs,ys,rfl,rfl,_⟩ | ⟨cs,rfl,rfl⟩
 ·exact⟨fun h=>.inl (aY rfl h),fun h=>.inl (aY rfl h)⟩
 ·exact⟨fun h=>.inl (aY rfl h),fun h=>.inl (aY rfl h)⟩
 ·exact⟨fun h=>.inl (aY rfl h),fun h=>.inl (aY rfl h)⟩
 exact Iff.rfl
theorem fb.form {L:Nat->Prop} {rho:Nat->Value} {h:Nat->AB} {xs:List Arg} {vs:List Value} {ids:List (Nat×AB)} (H:fb L rho h xs vs ids):∀id b,(id,b)∈ids->∃(j:Nat) (x:Arg),xs[j]?=some x/\vs[j]?=some (rho id)/\x.handed=true/\(((∃e es,x=.row e es/\b=.row e es)\/∃mk es,x=.map mk es/\b=.map mk es)\/(∃cs ys,x=.box ys/\b=.box cs/\dS cs=some ys)\/∃cs,x=.bC cs/\b=.bC cs):=by
 induction H with
 | nil=>intro id b h;cases h
 | pv y u hr ih=>intro id b h;obtain⟨j,x,h4⟩:=ih id b h;exact⟨j+1,x,by simpa using h4⟩
 | row i e es hL hid hr ih=>
  intro id b h
  rcases List.mem_cons.1 h with h | h
  ·injection h with h1 h2;subst h1 h2;exact⟨0,_,rfl,rfl,rfl,.inl (.inl ⟨e,es,rfl,rfl⟩)⟩
  obtain⟨j,x,h4⟩:=ih id b h;exact⟨j+1,x,by simpa using h4⟩
 | map i mk es hL hid hr ih=>
  intro id b h
  rcases List.mem_cons.1 h with h | h
  ·injection h with h1 h2;subst h1 h2;exact⟨0,_,rfl,rfl,rfl,.inl (.inr ⟨mk,es,rfl,rfl⟩)⟩
  obtain⟨j,x,h4⟩:=ih id b h;exact⟨j+1,x,by simpa using h4⟩
 | box i cs ys hL hid hy hr ih=>
  intro id b h
  rcases List.mem_cons.1 h with h | h
  ·injection h with h1 h2;subst h1 h2;exact⟨0,_,rfl,rfl,rfl,.inr (.inl ⟨cs,ys,rfl,rfl,hy⟩)⟩
  obtain⟨j,x,h4⟩:=ih id b h;exact⟨j+1,x,by simpa using h4⟩
 | bC i cs hL hid hr ih=>
  intro id b h
  rcases List.mem_cons.1 h with h | h
  ·injection h with h1 h2;subst h1 h2;exact⟨0,_,rfl,rfl,rfl,.inr (.inr ⟨cs,rfl,rfl⟩)⟩
  obtain⟨j,x,h4⟩:=ih id b h;exact⟨j+1,x,by simpa using h4⟩
theorem fb.mv {L:Nat->Prop} {rho:Nat->Value} {h:Nat->AB} {w:World} {xs:List Arg} {vs:Array Value} {ids:List (Nat×AB)} (H:fb L rho h xs vs.toList ids) (g:Nat):Mv w xs vs g↔∃id b,(id,b)∈ids/\hasB w b (rho id) g:=by
 constructor
 ·rintro⟨j,x,v,h1,h2,h3,h4⟩
  obtain⟨id,b,h5,_,_,h6,h7⟩:=H.at j x v h1 (by simpa using h2) h3
  exact⟨id,b,h5,by rw[<-h6];exact (oO h7).1 h4⟩
 rintro⟨id,b,h1,h2⟩
 obtain⟨j,x,h3,h4,h5,h6⟩:=H.form id b h1
 exact⟨j,x,_,h3,by simpa using h4,h5,(oO h6).2 h2⟩
theorem cm.handed {A:dc} {V L S2 S':Nat->Prop} {rho:Nat->Value} {t:Nat->AV} {a:Act} {w w':World} {h h2:Nat->AB} (hC:ct A.C) (sim:cm A V L S2 rho ⟨t,h2⟩ a w) {xs:List Arg} {vs:Array Value} {ids fe:List (Nat×AB)} {fin:List Fin} (H:fb L rho h xs vs.toList ids) (hh:∀id b,(id,b)∈ids->h2 id=h id)
  (hf:Fr (Mv w xs vs) w w') (hS:∀b,S2 b->S' b) (wR:∀b,S' b->b < w'.heap.size) (JF:∀b,S' b->S2 b\/w.heap.size<=b\/Mv w xs vs b) (fm:fx S' w' A.C.P xs fin vs.toList) (hok:oE w w' xs fin vs) (ma:fi ids fin=some fe):
  cm A V L S' rho ⟨t,app h2 fe⟩ a w':=by
 obtain⟨hk,hb⟩:=jm H fin fe fm ma
 have De:∀id,(∃b,(id,b)∈ids)↔∃b,(id,b)∈fe:=by
  intro id
  have:id∈ids.map (·.1)↔id∈fe.map (·.1):=by rw[hk]
  simpa using this
 have own:∀id b,(id,b)∈ids->L id/\(h2 id).live/\h2 id=b:=fun id b hm=>by
  obtain⟨h1,h3,h4,_⟩:=H.back id b hm
  have:=hh id b hm
  exact⟨h1,by rw[this,h3];exact h4,by rw[this,h3]⟩
 have Le:∀g,Mv w xs vs g->¬S2 g/\(A.mv g\/A.w0.heap.size<=g):=fun g hg=>by
  obtain⟨id,b,h1,h3⟩:=H.mv g |>.1 hg
  obtain⟨h4,h5,h6⟩:=own id b h1
  exact (sim.lv id g h4 h5 (by show hasB w (h2 id) _ _;rw[h6];exact h3)).2
 have iC:∀b,S2 b->w'.heap[b]?=w.heap[b]?:=fun k hk=>hf.block k (sim.st k hk) fun hm=>(Le k hm).1 hk
 have T:kp S2 S' w w' L L rho rho h2 (app h2 fe):=by
  refine⟨hS,iC,fun id ht=>⟨?_,fun hl=>⟨hl,rfl⟩⟩,fun id e he=>?_⟩
  ·rcases ew fe h2 id with⟨b,h1,h3⟩ | ⟨_,h3⟩
   ·obtain⟨b',iI⟩:=(De id).2 ⟨b,h1⟩
    obtain⟨_,h4,_⟩:=own id b' iI
    cases hx:h2 id <;> rw[hx] at h4 <;> first | trivial | exact h4.elim
   rw[h3] at ht;exact ht
  rcases ew fe h2 id with⟨b,h1,h3⟩ | ⟨_,h3⟩
  ·rw[h3] at he
   obtain⟨fT,i,h4,_,h5⟩:=hb id b h1
   obtain⟨_,_,h6⟩:=own id fT h4
   rcases h5 with h5 | ⟨h5 | h5 | h5,_⟩
   ·rw[h5] at he;cases he
   ·rcases h5 with h5 | h5
    ·obtain⟨e',Lf,JG,h7,h8,_⟩:=h5
     rw[h8] at he
     injection he with he
     rw[h6,h7,he];rfl
    obtain⟨mk,Lf,JG,h7,h8,_⟩:=h5
    rw[h8] at he;cases he
   ·obtain⟨cs,ys,g,ty,c,h7,h8,_⟩:=h5
    rw[h8] at he;cases he
   obtain⟨cs,ys,g,ty,c,h7,h8,_⟩:=h5
   rw[h8] at he;cases he
  rw[h3] at he;exact he
 have fD:∀id,(app h2 fe id).live->(h2 id).live:=by
  intro id hl
  rcases ew fe h2 id with⟨b,h1,h3⟩ | ⟨_,h3⟩
  ·obtain⟨b',iI⟩:=(De id).2 ⟨b,h1⟩
   exact (own id b' iI).2.1
  rw[h3] at hl;exact hl
 have same:∀id g,L id->(h2 id).live->(∀p∈fe,p.1≠id)->hasB w (h2 id) (rho id) g->¬Mv w xs vs g:=fun id g hl li h1 hg hm=>by
  obtain⟨tR,b',h4,h5⟩:=H.mv g |>.1 hm
  obtain⟨h6,h7,h8⟩:=own tR b' h4
  have:=sim.dj id tR g hl h6 li h7 hg (by show hasB w (h2 tR) _ _;rw[h8];exact h5)
  subst this
  obtain⟨b2,qZ⟩:=(De id).1 ⟨b',h4⟩
  exact h1 _ qZ rfl
 have old:∀id g,L id->(h2 id).live->(∀p∈fe,p.1≠id)->hasB w' (h2 id) (rho id) g->hasB w (h2 id) (rho id) g:=fun id g hl li h1 hg=>
  dA (fun k hk=>hf.block k (sim.l5 id k hl li hk).1 (same id k hl li h1 (.inl hk))) hg
 have back:∀id b,(id,b)∈fe->(app h2 fe id).live->app h2 fe id=b->∃i,tQ xs ids i id/\∀g,hasB w' b (rho id) g->¬S' g/\du w' xs fin vs.toList i g:=fun id b hm hl he=>by
  obtain⟨fT,i,_,qu,h3⟩:=hb id b hm
  rcases h3 with h3 | ⟨_,h3⟩
  ·rw[he,h3] at hl;exact hl.elim
  exact⟨i,qu,h3⟩
 exact
 {tm:=fun j hj=>(sim.tm j hj).dQ T
  sz:=sim.sz,df:=sim.df,nb:=sim.nb,pn:=sim.pn
  ev:=hC.env _ _ _ _ sim.ev hS iC hf.size
  s0:=fun b hb=>hS b (sim.s0 b hb)
  st:=wR
  sb:=fun b hb=>by
   rcases JF b hb with h | h | h
   ·exact sim.sb b h
   ·exact .inr (.inr (Nat.le_trans sim.fr.size h))
   exact .inr (Le b h).2
  hp:=fun id hl=>by
   show fa _ _ _ _ _ _ _ (app h2 fe id)
   rcases ew fe h2 id with⟨b,h1,h3⟩ | ⟨h1,h3⟩
   ·rw[h3]
    obtain⟨fT,i,h4,_,h5⟩:=hb id b h1
    rcases h5 with h5 | ⟨h5 | h5 | h5,_⟩
    ·rw[h5];trivial
    ·rcases h5 with h5 | h5
     ·obtain⟨e',Lf,JG,h7,h8,h9⟩:=h5
      rw[h8];exact h9
     obtain⟨mk,Lf,JG,h7,h8,h9⟩:=h5
     rw[h8];exact h9
    ·obtain⟨cs,ys,g,ty,c,h7,h8,h9,JH,Oc,Nw⟩:=h5
     rw[h8]
     refine⟨g,ty,c,h9,JH,by simpa using Oc,fun j x u hj hu=>?_⟩
     rw[List.getElem?_map] at hj
     obtain⟨z,hz,rfl⟩:=Option.map_eq_some_iff.1 hj
     exact⟨(Nw j z u hz hu).1,.p _ _ (Nw j z u hz hu).2⟩
    obtain⟨cs,jF,g,ty,c,h7,h8,h9,JH⟩:=h5
    rw[h8]
    exact⟨g,ty,c,h9,JH⟩
   rw[h3]
   exact (sim.hp id hl).dQ T (fun li g hg=>hf.block g (sim.lv id g hl li hg).1 (same id g hl li h1 hg)) (fun _=>rfl)
  dj:=fun i j g hi hj li lj eP iB=>by
   have one:∀i j,L i->L j->(app h2 fe i).live->(app h2 fe j).live->hasB w' (app h2 fe i) (rho i) g->hasB w' (app h2 fe j) (rho j) g->(∃b,(i,b)∈fe/\app h2 fe i=b)->((∀p∈fe,p.1≠j)/\app h2 fe j=h2 j)->False:=by
    rintro i j hi hj li lj eP iB ⟨b,m1,m2⟩ ⟨n1,n2⟩
    rw[n2] at iB lj
    have iB:=old j g hj lj n1 iB
    obtain⟨k,_,lZ⟩:=back i b m1 li m2
    rw[m2] at eP
    rcases (hok.1 k g (lZ g eP).2).2 with h | h
    ·have:=(sim.lv j g hj lj iB).1
     exact absurd this (by omega)
    exact same j g hj lj n1 iB h
   rcases ew fe h2 i with ci | ci
   ·rcases ew fe h2 j with cj | cj
    ·obtain⟨b,m1,m2⟩:=ci
     obtain⟨c,n1,n2⟩:=cj
     obtain⟨k1,p1,q1⟩:=back i b m1 li m2
     obtain⟨k2,p2,q2⟩:=back j c n1 lj n2
     have eP:hasB w' (app h2 fe i) (rho i) g:=eP
     have iB:hasB w' (app h2 fe j) (rho j) g:=iB
     rw[m2] at eP
     rw[n2] at iB
     have:=hok.2 k1 k2 g (q1 g eP).2 (q2 g iB).2
     subst this
     exact p1.uniq p2
    exact (one i j hi hj li lj eP iB ci cj).elim
   rcases ew fe h2 j with cj | cj
   ·exact (one j i hj hi lj li iB eP cj ci).elim
   have eP:hasB w' (app h2 fe i) (rho i) g:=eP
   have iB:hasB w' (app h2 fe j) (rho j) g:=iB
   have li:(app h2 fe i).live:=li
   have lj:(app h2 fe j).live:=lj
   rw[ci.2] at eP li
   rw[cj.2] at iB lj
   exact sim.dj i j g hi hj li lj (old i g hi li ci.1 eP) (old j g hj lj cj.1 iB)
  lv:=fun id g hl li hg=>by
   have hg:hasB w' (app h2 fe id) (rho id) g:=hg
   have li:(app h2 fe id).live:=li
   rcases ew fe h2 id with⟨b,h1,h3⟩ | ⟨h1,h3⟩
   ·obtain⟨k,_,q⟩:=back id b h1 li h3
    rw[h3] at hg
    obtain⟨q1,q2⟩:=q g hg
    obtain⟨r1,r2⟩:=hok.1 k g q2
    refine⟨r1,q1,?_⟩
    rcases r2 with h | h
    ·exact .inr (Nat.le_trans sim.fr.size h)
    exact (Le g h).2
   rw[h3] at hg li
   have hg:=old id g hl li h1 hg
   obtain⟨h4,h5,h6⟩:=sim.lv id g hl li hg
   refine⟨Nat.lt_of_lt_of_le h4 hf.size,fun hs=>?_,h6⟩
   rcases JF g hs with h | h | h
   ·exact h5 h
   ·omega
   exact same id g hl li h1 hg h
  fr:=sim.fr.next hf.os hf.tape hf.output hf.size fun k hk hn=>hf.block k (Nat.lt_of_lt_of_le hk sim.fr.size) fun hm=>by
   rcases (Le k hm).2 with h | h
   ·exact hn h
   omega }
theorem r_ {P:Program} {o:Oper} {a:Act} {w:World} {f:FuncId} {vs:Array Value} {next:Act->World->Prop} {Q:Exit->Act->World->Prop} {R:Ending->World->Prop} (h:(execOp a.eval o).run P w=.ok (.enter f vs) w) (hc:Calls P f vs w R)
  (hn:∀e w',R e w'->∃v,e=.returned v/\next (a.put o.dst v) w'):o.wp P a w next Q:=by
 unfold Oper.wp
 rw[h]
 refine hc.mono fun e w' hr=>?_
 obtain⟨v,rfl,h2⟩:=hn e w' hr
 exact h2
theorem y_ {A:dc} (hC:ct A.C) {o:Oper} {V L S:Nat->Prop} {rho:Nat->Value} {s:AS} {a:Act} {w:World} {K:KK} {next:Act->World->Prop} {Q:Exit->Act->World->Prop} (sim:cm A V L S rho s a w) (hd:∀d,o.dst=some d->d < A.n)
  (hn:∀v eff b,K v eff (some b)->¬L (o.dst.getD 0)/\s.h (o.dst.getD 0)=b)
  (hnext:∀v eff new S' rho' a' w',K v eff new->cm A (tL V o.dst) (wX L new (o.dst.getD 0)) S' rho' ⟨en s.t o.dst v,app s.h eff⟩ a' w'->next a' w')
  (f:FuncId) (gZ:List AV) (vs:Array Value) (hl:gZ.length=vs.size)
  (hrep:∀(S2:Nat->Prop) (h2:Nat->AB),cm A V L S2 rho ⟨s.t,h2⟩ a w->∀(i:Nat) x v,gZ[i]?=some x->vs.toList[i]?=some v->bK S2 w A.C.P L rho h2 x v)
  (hrun : (∃ fn : Func, A.C.P.funcs[f]? = some fn ∧ (fn.name == "runtime.NumGoroutine") = false ∧ fn.body.isNone = false) → (execOp a.eval o).run A.C.P w = .ok (.enter f vs) w) (hq : kO A.C s.h (o.dst.getD 0) f gZ K) : o.wp A.C.P a w next Q := by
 unfold kO at hq
 obtain⟨xs,ids,fz,S2,⟨r,fin,qx,hq⟩,bN,vi,hF,w4,hlen,H,hpv⟩:=BO hC gZ vs.toList 0 s.h S _ (by simpa using hl) sim (lU.refl _) hrep (fun _ h=>h) hq
 split at hq
 ·rename_i fe ma
  split at hq
  ·rename_i hok
   obtain⟨Od,EL⟩:=y8 hok
   have hh:∀id b,(id,b)∈ids->(app s.h fz) id=s.h id:=fun id b hm=>jk (Od (id,b) hm)
   have own:∀id b,(id,b)∈ids->L id/\(app s.h fz id).live/\app s.h fz id=b:=fun id b hm=>by
    obtain⟨h1,h3,h4,_⟩:=H.back id b hm
    have:=hh id b hm
    exact⟨h1,by rw[this,h3];exact h4,by rw[this,h3]⟩
   have key:=qx.2 S2 w vs bN.ev bN.st (by simpa using hlen) (fun j x v hj hv=>by
     have yI:vs.toList[j]?=some v:=by simpa using hv
     cases hx:x.handed with
     | false=>
      cases x with
      | pv y=>exact hpv j y v hj yI
      | row=>cases hx
      | map=>cases hx
      | box=>cases hx
      | bC=>cases hx
     | true=>
      obtain⟨id,b,h1,h2,h3,h4,h5⟩:=H.at j x v hj yI hx
      obtain⟨h6,h7,h8⟩:=own id b h1
      have hp:=bN.hp id h6
      have hp:fa S2 w A.C.P L rho (app s.h fz) id (app s.h fz id):=hp
      rw[h8] at hp
      rcases h5 with (⟨e,es,rfl,rfl⟩ | ⟨mk,es,rfl,rfl⟩) | ⟨cs,ys,rfl,rfl,hy⟩ | ⟨cs,rfl,rfl⟩
      ·rw[h4]
       exact⟨hp,fun g hg=>(bN.l5 id g h6 h7 hg).2.1⟩
      ·rw[h4]
       exact⟨hp,fun g hg=>(bN.l5 id g h6 h7 hg).2.1⟩
      ·obtain⟨g,ty,c,k1,k2,k3,k4⟩:=hp
       obtain⟨k5,k6⟩:=fS hy
       rw[h4]
       refine⟨g,ty,c,k1,k2,by rw[k3,k5],(bN.l5 id g h6 h7 (by rw[k1];rfl)).2.1,fun i x u hi hu=>?_⟩
       obtain⟨y,hy⟩:∃y,cs[i]?=some y:=⟨_,List.getElem?_eq_getElem (by rw[k5];exact aW hi)⟩
       obtain⟨k7,k8⟩:=k4 i y u hy hu
       exact⟨k7,k8.rz (k6 i y x hy hi)⟩
      obtain⟨g,ty,c,k1,k2⟩:=hp
      rw[h4]
      exact⟨g,ty,c,k1,k2,fun k hk=>by obtain⟨q1,q2,_⟩:=bN.lv id k h6 h7 (by show hasB w (app s.h fz id) _ _;rw[h8];exact hk);exact⟨q2,q1⟩⟩)
    (fun i j x y v u g hi hj hv hu hx hy hg lJ=>by
     by_cases CB:i=j
     ·exact CB
     obtain⟨qw,ob,b1,b2,k1,k2,k3,k4,k5,f1,f2⟩:=H.inj EL i j x y v u hi hj (by simpa using hv) (by simpa using hu) hx hy CB
     obtain⟨l1,v1,o1⟩:=own qw b1 k2
     obtain⟨l2,v2,o2⟩:=own ob b2 k3
     exact absurd (bN.dj qw ob g l1 l2 v1 v2 (by show hasB w (app s.h fz qw) _ _;rw[<-k4,o1];exact (oO f1).1 hg) (by show hasB w (app s.h fz ob) _ _;rw[<-k5,o2];exact (oO f2).1 lJ)) k1)
   refine r_ (hrun qx.1) key fun e w' sa=>?_
   obtain⟨v,S',rfl,hf,Nx,wR,JF,hr,fm,JI,hown⟩:=sa
   refine⟨v,rfl,?_⟩
   split at hq
   ·rename_i jN
    simp only[Bool.and_eq_true] at jN
    have L7:ids=[]:=by cases ids with | nil=>rfl | cons p ids=>cases jN.2
    subst L7
    have L8:Fr (fun _=>False) w w':=⟨hf.os,hf.tape,hf.output,hf.size,fun k hk _=>hf.block k hk fun hm=>by
     obtain⟨id,b,h1,_⟩:=(H.mv k).1 hm
     cases h1⟩
    have fw:=sim.grow hC w' L8
    refine hnext _ _ _ S rho _ _ hq (fw.value o.dst hd _ _ ?_)
    cases r with
    | p x=>exact .p _ _ (mZ jN.1 hr)
    | own e es=>cases jN.1
    | hown cs=>cases jN.1
    | tu ys=>
     obtain⟨us,rfl,h1,h2⟩:=hr
     refine .tu _ us (by simpa using h1) fun i c u hi hu=>?_
     rw[List.getElem?_map] at hi
     obtain⟨z,hz,rfl⟩:=Option.map_eq_some_iff.1 hi
     exact .p _ _ (mZ (List.all_eq_true.1 jN.1 z (List.mem_of_getElem? hz)) (h2 i z u hz hu))
   have fw:=cm.handed hC bN H hh hf Nx wR JF fm JI ma
   have fw:cm A V L S' rho ⟨s.t,app s.h (fz++fe)⟩ a w':=by rw[cC];exact fw
   cases r with
   | p x=>exact hnext _ _ _ S' rho _ _ hq (fw.value o.dst hd _ _ (.p _ _ hr))
   | tu ys=>
    refine hnext _ _ _ S' rho _ _ hq (fw.value o.dst hd _ _ ?_)
    obtain⟨us,rfl,h1,h2⟩:=hr
    refine .tu _ us (by simpa using h1) fun i c u hi hu=>?_
    rw[List.getElem?_map] at hi
    obtain⟨z,hz,rfl⟩:=Option.map_eq_some_iff.1 hi
    exact .p _ _ (h2 i z u hz hu)
   | own e es=>
    obtain⟨hL,hb⟩:=hn _ _ _ hq
    have Hu:app s.h (fz++fe) (o.dst.getD 0)=.row e es:=by
     rw[gr (fun p hp (e:p.1=_)=>?_),hb]
     rcases List.mem_append.1 hp with h | h
     ·exact hL (by rw[<-e];exact w4 p h)
     obtain⟨hk,_⟩:=jm H fin fe fm ma
     have:p.1∈ids.map (·.1):=by rw[<-hk];exact List.mem_map.2 ⟨p,h,rfl⟩
     obtain⟨q,L9,L_⟩:=List.mem_map.1 this
     obtain⟨Ma,_⟩:=own q.1 q.2 L9
     exact hL (by rw[<-e,<-L_];exact Ma)
    have tS:=fw.oM hC (o.dst.getD 0) (AB.row e es) (fw.lK hd) hL Hu w' rfl rfl rfl (Nat.le_refl _) (fun k=>hasB w' (AB.row e es) v k) (fun _ _ _=>rfl) (fun k hk=>by
      have EK:=aY rfl hk
      obtain⟨h1,h2,h3⟩:=hown k rfl (.inl EK)
      refine⟨hr.2 k EK,fun i hi li eP=>?_,?_⟩
      ·have kj:(app s.h (fz++fe) i).live:=li
       rw[cC] at kj
       have eP:hasB w' (app s.h (fz++fe) i) (rho i) k:=eP
       rw[cC] at eP
       rcases ew fe (app s.h fz) i with⟨b,m1,m2⟩ | ⟨m1,m2⟩
       ·obtain⟨lZ,qZ⟩:=jm H fin fe fm ma
        obtain⟨fT,n,m3,_,m4⟩:=qZ i b m1
        rcases m4 with m4 | ⟨_,m4⟩
        ·rw[m2,m4] at kj;exact kj
        rw[m2] at eP;exact h3 n (m4 k eP).2
       rw[m2] at kj eP
       have JJ:∀g,hasB w (app s.h fz i) (rho i) g->¬Mv w xs vs g:=fun g hg hm=>by
        obtain⟨tR,b',m3,m4⟩:=(H.mv g).1 hm
        obtain⟨m5,m6,m7⟩:=own tR b' m3
        have:=bN.dj i tR g hi m5 kj m6 hg (by show hasB w (app s.h fz tR) _ _;rw[m7];exact m4)
        subst this
        obtain⟨lZ,_⟩:=jm H fin fe fm ma
        have:i∈fe.map (·.1):=by rw[lZ];exact List.mem_map.2 ⟨_,m3,rfl⟩
        obtain⟨p,hp,Mb⟩:=List.mem_map.1 this
        exact m1 p hp Mb
       have eP:=dA (fun g hg=>hf.block g (bN.l5 i g hi kj hg).1 (JJ g (.inl hg))) eP
       obtain⟨q1,q2,q3⟩:=bN.lv i k hi kj eP
       rcases h2 with h2 | h2
       ·omega
       exact JJ k eP h2
      ·rcases h2 with h2 | h2
       ·exact .inr (Nat.le_trans bN.fr.size h2)
       obtain⟨tR,b',m3,m4⟩:=(H.mv k).1 h2
       obtain⟨m5,m6,m7⟩:=own tR b' m3
       exact (bN.lv tR k m5 m6 (by show hasB w (app s.h fz tR) _ _;rw[m7];exact m4)).2.2) v (fun g hg=>⟨(hown g rfl (.inl (aY rfl hg))).1,.inr hg⟩) (fun T=>by
      show a_ _ _ _ e es (bI rho (o.dst.getD 0) v (o.dst.getD 0))
      rw[bc]
      exact hr.1)
    exact hnext _ _ _ S' _ _ _ hq (tS.value o.dst hd _ _ (.ow _ _ fun _=>⟨.inr rfl,(bc _ _ _).symm⟩))
   | hown cs=>
    obtain⟨hL,hb⟩:=hn _ _ _ hq
    obtain⟨g0,Oe,c0,Mc,JK,oC⟩:=hr
    have Hu:app s.h (fz++fe) (o.dst.getD 0)=.bC cs:=by
     rw[gr (fun p hp (e:p.1=_)=>?_),hb]
     rcases List.mem_append.1 hp with h | h
     ·exact hL (by rw[<-e];exact w4 p h)
     obtain⟨hk,_⟩:=jm H fin fe fm ma
     have:p.1∈ids.map (·.1):=by rw[<-hk];exact List.mem_map.2 ⟨p,h,rfl⟩
     obtain⟨q,L9,L_⟩:=List.mem_map.1 this
     obtain⟨Ma,_⟩:=own q.1 q.2 L9
     exact hL (by rw[<-e,<-L_];exact Ma)
    have tS:=fw.oM hC (o.dst.getD 0) (AB.bC cs) (fw.lK hd) hL Hu w' rfl rfl rfl (Nat.le_refl _) (fun k=>hasB w' (AB.bC cs) v k) (fun _ _ _=>rfl) (fun k hk=>by
      obtain⟨h1,h2,h3⟩:=hown k rfl hk
      refine⟨oC k hk,fun i hi li eP=>?_,?_⟩
      ·have kj:(app s.h (fz++fe) i).live:=li
       rw[cC] at kj
       have eP:hasB w' (app s.h (fz++fe) i) (rho i) k:=eP
       rw[cC] at eP
       rcases ew fe (app s.h fz) i with⟨b,m1,m2⟩ | ⟨m1,m2⟩
       ·obtain⟨lZ,qZ⟩:=jm H fin fe fm ma
        obtain⟨fT,n,m3,_,m4⟩:=qZ i b m1
        rcases m4 with m4 | ⟨_,m4⟩
        ·rw[m2,m4] at kj;exact kj
        rw[m2] at eP;exact h3 n (m4 k eP).2
       rw[m2] at kj eP
       have JJ:∀g,hasB w (app s.h fz i) (rho i) g->¬Mv w xs vs g:=fun g hg hm=>by
        obtain⟨tR,b',m3,m4⟩:=(H.mv g).1 hm
        obtain⟨m5,m6,m7⟩:=own tR b' m3
        have:=bN.dj i tR g hi m5 kj m6 hg (by show hasB w (app s.h fz tR) _ _;rw[m7];exact m4)
        subst this
        obtain⟨lZ,_⟩:=jm H fin fe fm ma
        have:i∈fe.map (·.1):=by rw[lZ];exact List.mem_map.2 ⟨_,m3,rfl⟩
        obtain⟨p,hp,Mb⟩:=List.mem_map.1 this
        exact m1 p hp Mb
       have eP:=dA (fun g hg=>hf.block g (bN.l5 i g hi kj hg).1 (JJ g (.inl hg))) eP
       obtain⟨q1,q2,q3⟩:=bN.lv i k hi kj eP
       rcases h2 with h2 | h2
       ·omega
       exact JJ k eP h2
      ·rcases h2 with h2 | h2
       ·exact .inr (Nat.le_trans bN.fr.size h2)
       obtain⟨tR,b',m3,m4⟩:=(H.mv k).1 h2
       obtain⟨m5,m6,m7⟩:=own tR b' m3
       exact (bN.lv tR k m5 m6 (by show hasB w (app s.h fz tR) _ _;rw[m7];exact m4)).2.2) v (fun g hg=>⟨(hown g rfl hg).1,.inr hg⟩) (fun T=>by
      exact⟨g0,Oe,c0,by rw[bc];exact Mc,JK⟩)
    exact hnext _ _ _ S' _ _ _ hq (tS.value o.dst hd _ _ (.bx _ _ _ fun _=>⟨.inr rfl,g0,by rw[bc];exact Mc,Mc⟩))
  exact hq.elim
 exact hq.elim
theorem km.rep {A:dc} (hC:ct A.C) {V L S:Nat->Prop} {rho:Nat->Value} {s:AS} {a:Act} {w:World} (sim:cm A V L S rho s a w) {x:AV} {y:PV} {v:Value} (hv:km s.h x y) (hx:bK S w A.C.P L rho s.h x v):
  bu (fun b=>S b\/∃id,L id/\(s.h id).live/\hasB w (s.h id) (rho id) b) w y v:=by
 have hS:∀b,S b->S b\/∃id,L id/\(s.h id).live/\hasB w (s.h id) (rho id) b:=fun b h=>.inl h
 cases hv with
 | p=>exact hx.fq.mono hS (fun _ _=>rfl)
 | nl=>cases hx;exact .nil _ _
 | row id e es hr=>
  obtain⟨hL,rfl⟩:=hx.db (by rw[hr];trivial)
  have hh:=sim.hp id hL
  rw[hr] at hh
  exact a_.BC hh hS fun g hg=>.inr ⟨id,hL,by rw[hr];trivial,.inl hg⟩
 | hM id es hr=>
  obtain⟨hL,rfl⟩:=hx.db (by rw[hr];trivial)
  have hh:=sim.hp id hL
  rw[hr] at hh
  exact bu.mono hh hS (fun _ _=>rfl)
 | a7 id e es ps hr hp=>
  obtain⟨hL,rfl⟩:=hx.db (by rw[hr];trivial)
  have hh:=sim.hp id hL
  rw[hr] at hh
  obtain⟨hR,_⟩:=hh
  have cI:(s.h id).live:=by rw[hr];trivial
  have LV:a_ A.C.P w (bu (fun b=>S b\/∃id,L id/\(s.h id).live/\hasB w (s.h id) (rho id) b) w) e ps (rho id):=by
   have Of:=hR
   obtain⟨i,ws,h1,h2,h3,h4,h5,h6⟩:=Of
   have old:∀{a:Nat} {q:List PV},ps[a]?=some q->∃r,es[a]?=some r:=fun {a q} ha=>⟨_,List.getElem?_eq_getElem (by rw[<-hp.len];exact aW ha)⟩
   refine⟨i,ws,h1,h2,by rw[hp.len];exact h3,fun q hq=>?_,h5,fun k q j y ha hj=>?_⟩
   ·obtain⟨k,hk⟩:=List.mem_iff_getElem?.1 hq
    obtain⟨r,hr⟩:=old hk
    rw[(hp.row k r q hr hk).1]
    exact h4 r (List.mem_of_getElem? hr)
   obtain⟨r,Md⟩:=old ha
   obtain⟨hlen,hcell⟩:=hp.row k r q Md ha
   obtain⟨x,hx⟩:∃x,r[j]?=some x:=⟨_,List.getElem?_eq_getElem (by rw[<-hlen];exact aW hj)⟩
   obtain⟨u,hu,yH⟩:=h6 k r j x Md hx
   refine⟨u,hu,?_⟩
   have:=hcell j x y hx hj
   cases this with
   | p x=>exact (bK.fq yH).mono hS (fun _ _=>rfl)
   | nl=>
    have yH:bK S w A.C.P L rho s.h .nl u:=yH
    cases yH
    exact .nil _ _
   | row e' xs=>
    have yH:a_ A.C.P w (bu S w) e' xs u:=yH
    refine a_.BC yH hS fun b hb=>.inr ⟨id,hL,cI,?_⟩
    obtain⟨g,u2,g1,g2,_⟩:=hR.CJ Md hx
    have:u2=u:=by
     obtain⟨_,_,_,_,_,q3⟩:=(mY h3 h4 g1).1 g2
     rw[hu] at q3
     injection q3 with q3
     exact q3.symm
    subst this
    rw[hr]
    exact .inr (.inr ⟨_,_,_,_,_,_,rfl,g1,g2,hb⟩)
  exact a_.BC LV (fun _ h=>h) fun g hg=>.inr ⟨id,hL,cI,.inl hg⟩
theorem kP.at {h:Nat->AB} {as:List AV} {xs:List PV} (hv:kP h as xs):as.length=xs.length/\∀(i:Nat) a x,as[i]?=some a->xs[i]?=some x->km h a x:=by
 induction hv with
 | nil=>exact⟨rfl,fun i a x h=>by simp at h⟩
 | cons h1 h2 ih=>
  refine⟨by simp[ih.1],fun i a x ha hx=>?_⟩
  cases i with
  | zero=>simp at ha hx;subst ha hx;exact h1
  | succ i=>exact ih.2 i a x (by simpa using ha) (by simpa using hx)
theorem View.rep {A:dc} (hC:ct A.C) {V L S:Nat->Prop} {rho:Nat->Value} {s:AS} {a:Act} {w:World} (sim:cm A V L S rho s a w) {x:AV} {y:PV} {v:Value} (hv:View s.h x y) (hx:bK S w A.C.P L rho s.h x v):
  bu (fun b=>S b\/∃id,L id/\(s.h id).live/\hasB w (s.h id) (rho id) b) w y v:=by
 have hS:∀b,S b->S b\/∃id,L id/\(s.h id).live/\hasB w (s.h id) (rho id) b:=fun b h=>.inl h
 cases hv with
 | one h1=>exact h1.rep hC sim hx
 | box id off cs xs hb qp=>
  obtain⟨hL,g,hg,hv⟩:=hx.gz (by rw[hb];trivial)
  have hh:=sim.hp id hL
  rw[hb] at hh
  obtain⟨g',ty,c,k1,k2,k3,k4⟩:=hh
  rw[hg] at k1
  injection k1 with k1
  injection k1 with k1
  injection k1 with k1
  subst k1
  obtain⟨hl,tG⟩:=qp.at
  have hU:∀(i:Nat) x,xs[i]?=some x->∃u,c[i]?=some u/\u.oneCell'=true/\bu (fun b=>S b\/∃id,L id/\(s.h id).live/\hasB w (s.h id) (rho id) b) w x u:=by
   intro i x hi
   obtain⟨y,hy⟩:∃y,cs[i]?=some y:=⟨_,List.getElem?_eq_getElem (by rw[hl];exact aW hi)⟩
   obtain⟨u,hu⟩:=hY k3.symm (aW hy)
   obtain⟨h5,h6⟩:=k4 _ _ _ hy hu
   exact⟨u,hu,h5,(tG i y x hy hi).rep hC sim h6⟩
  have:bu (fun b=>S b\/∃id,L id/\(s.h id).live/\hasB w (s.h id) (rho id) b) w (.ip xs) (.pointer (some ⟨g,0,none⟩)):=by
   refine .ip xs g 0 (fun i=>(c[i]?).getD undef) (.inr ⟨id,hL,by rw[hb];trivial,.inl (by rw[hg];rfl)⟩) (fun i x hi=>?_) fun i x hi=>?_
   ·obtain⟨u,h5,h6,h7⟩:=hU i x hi
    rw[Nat.zero_add,cell_of_row w g i c ty (0,0) k2,h5]
    exact⟨rfl,h6⟩
   obtain⟨u,h5,h6,h7⟩:=hU i x hi
   rw[h5]
   exact h7
  rw[hv]
  exact this.oL rfl
 | jK id off xs hb=>
  obtain⟨hL,g,hg,hv⟩:=hx.gz (by rw[hb];trivial)
  have hh:=sim.hp id hL
  rw[hb] at hh
  have Hc:bu _ w (.ip xs) (rho id):=hh
  rw[hv]
  exact (Hc.oL hg).mono hS (fun _ _=>rfl)
theorem oF.at {h:Nat->AB} {as:List AV} {xs:List PV} (hv:oF h as xs):as.length=xs.length/\∀(i:Nat) a x,as[i]?=some a->xs[i]?=some x->View h a x:=by
 induction hv with
 | nil=>exact⟨rfl,fun i a x h=>by simp at h⟩
 | cons h1 h2 ih=>
  refine⟨by simp[ih.1],fun i a x ha hx=>?_⟩
  cases i with
  | zero=>simp at ha hx;subst ha hx;exact h1
  | succ i=>exact ih.2 i a x (by simpa using ha) (by simpa using hx)
theorem BP {A:dc} (hC:ct A.C) {o:Oper} {V L S:Nat->Prop} {rho:Nat->Value} {s:AS} {a:Act} {w:World} {K:KK} {next:Act->World->Prop} {Q:Exit->Act->World->Prop} (sim:cm A V L S rho s a w) (hd:∀d,o.dst=some d->d < A.n)
  (hn:∀v eff b,K v eff (some b)->¬L (o.dst.getD 0)/\s.h (o.dst.getD 0)=b)
  (hnext:∀v eff new S' rho' a' w',K v eff new->cm A (tL V o.dst) (wX L new (o.dst.getD 0)) S' rho' ⟨en s.t o.dst v,app s.h eff⟩ a' w'->next a' w')
  (f:FuncId) (gZ:List AV) (vs:Array Value) (hl:gZ.length=vs.size)
  (hrep:∀(S2:Nat->Prop) (h2:Nat->AB),cm A V L S2 rho ⟨s.t,h2⟩ a w->∀(i:Nat) x v,gZ[i]?=some x->vs.toList[i]?=some v->bK S2 w A.C.P L rho h2 x v)
  (hrun : (∃ fn : Func, A.C.P.funcs[f]? = some fn ∧ (fn.name == "runtime.NumGoroutine") = false ∧ fn.body.isNone = false) → (execOp a.eval o).run A.C.P w = .ok (.enter f vs) w) (hq : ql A.C s.h (o.dst.getD 0) f gZ K) : o.wp A.C.P a w next Q := by
 unfold ql at hq
 split at hq
 ·exact y_ hC sim hd hn hnext f gZ vs hl hrep hrun hq
 obtain⟨xs,r,CZ,qx,jN,hq⟩:=hq
 obtain⟨JB,Me⟩:=CZ.at
 have key:=qx.2 (fun b=>S b\/∃id,L id/\(s.h id).live/\hasB w (s.h id) (rho id) b) w vs (hC.env _ _ _ _ sim.ev (fun b h=>.inl h) (fun _ _=>rfl) (Nat.le_refl _)) (fun b h=>h.elim (sim.st b) fun ⟨id,h1,h2,h3⟩=>(sim.lv id b h1 h2 h3).1) (by simp[<-JB,hl]) (fun j x v hj hv=>by
   rw[List.getElem?_map] at hj
   obtain⟨y,hy,rfl⟩:=Option.map_eq_some_iff.1 hj
   obtain⟨av,Ny⟩:∃av,gZ[j]?=some av:=⟨_,List.getElem?_eq_getElem (by rw[JB];exact aW hy)⟩
   exact (Me j av y Ny hy).rep hC sim (hrep S s.h sim j av v Ny (by simpa using hv))) (fun i j x y v u g hi hj hv hu hx=>by
   rw[List.getElem?_map] at hi
   obtain⟨z,_,rfl⟩:=Option.map_eq_some_iff.1 hi
   cases hx)
 refine r_ (hrun qx.1) key fun e w' sa=>?_
 obtain⟨v,S',rfl,hf,Nx,wR,JF,hr,fm,JI,hown⟩:=sa
 refine⟨v,rfl,?_⟩
 have L8:Fr (fun _=>False) w w':=⟨hf.os,hf.tape,hf.output,hf.size,fun k hk _=>hf.block k hk fun ⟨j,x,v,hj,_,hx,_⟩=>by
  rw[List.getElem?_map] at hj
  obtain⟨z,_,rfl⟩:=Option.map_eq_some_iff.1 hj
  cases hx⟩
 have fw:=sim.grow hC w' L8
 refine hnext _ _ _ S rho _ _ hq (fw.value o.dst hd _ _ ?_)
 cases r with
 | p x=>exact .p _ _ (mZ jN hr)
 | own e es=>cases jN
 | hown cs=>cases jN
 | tu ys=>
  obtain⟨us,rfl,h1,h2⟩:=hr
  refine .tu _ us (by simpa using h1) fun i c u hi hu=>?_
  rw[List.getElem?_map] at hi
  obtain⟨z,hz,rfl⟩:=Option.map_eq_some_iff.1 hi
  exact .p _ _ (mZ (List.all_eq_true.1 jN z (List.mem_of_getElem? hz)) (h2 i z u hz hu))
theorem vp {P : Program} {w : World} {f : FuncId} {vs : Array Value} (h : ∃ fn : Func, P.funcs[f]? = some fn ∧ (fn.name == "runtime.NumGoroutine") = false ∧ fn.body.isNone = false) : (callFunc f vs).run P w = .ok (.enter f vs) w := by
 obtain⟨fn,h1,h2,h3⟩:=h
 have qu : ¬ fn.name = "runtime.NumGoroutine" := by simpa using h2
 cases hb:fn.body with
 | none=>rw[hb] at h3;cases h3
 | some b=>simp[callFunc,Sem.run,program,h1,qu,hb]
theorem w7 {α:Type} {a:Array α} (h:isNil a.toList=true):a=#[]:=by
 obtain⟨l⟩:=a
 cases l with
 | nil=>rfl
 | cons y l=>cases h
theorem nK {S:Nat->Prop} {w:World} {P:Program} {L:Nat->Prop} {rho:Nat->Value} {h:Nat->AB} {x:AV} {v:Value} {f:FuncId} {cap:List AV} (hc:rO x=some (f,cap)) (hx:bK S w P L rho h x v):∃us:Array Value,v=.func (.func f) #[] us/\cap.length=us.size/\∀(i:Nat) c u,cap[i]?=some c->us[i]?=some u->bK S w P L rho h c u:=by
 cases x <;> simp only[rO] at hc <;> try (cases hc;done)
 ·rename_i y
  have hx:=hx.fq
  cases y <;> simp only[Ay] at hc <;> try (cases hc;done)
  ·rename_i z
   obtain rfl:=hx.b_
   unfold Ax at hc
   split at hc
   ·rename_i fn first cp
    split at hc
    ·rename_i hn
     simp only[Bool.and_eq_true] at hn
     have e1:=w7 hn.1
     have e2:=w7 hn.2
     subst e1 e2
     cases fn <;> simp only[Aw] at hc <;> try (cases hc;done)
     injection hc with hc
     injection hc with h1 h2
     subst h1 h2
     exact⟨#[],rfl,rfl,by simp⟩
    cases hc
   cases hc
  rename_i g cp
  injection hc with hc
  injection hc with h1 h2
  subst h1 h2
  cases hx
  rename_i us hl hr
  refine⟨us,rfl,by simpa using hl,fun i c u hc hu=>?_⟩
  rw[List.getElem?_map] at hc
  obtain⟨z,hz,rfl⟩:=Option.map_eq_some_iff.1 hc
  exact .p _ _ (hr i z u hz hu)
 injection hc with hc
 injection hc with h1 h2
 subst h1 h2
 cases hx
 exact⟨_,rfl,by assumption,by assumption⟩
theorem cm.loose {A:dc} {V L S:Nat->Prop} {rho:Nat->Value} {s:AS} {a:Act} {w:World} (sim:cm A V L S rho s a w) (hC:ct A.C) (w':World) (R:Nat->Prop) (hf:Fr R w w') (hR:∀k,R k->¬S k/\(∀i,L i->(s.h i).live->¬hasB w (s.h i) (rho i) k)/\(A.mv k\/A.w0.heap.size<=k)):cm A V L S rho s a w':=by
 have iC:∀b,S b->w'.heap[b]?=w.heap[b]?:=fun k hk=>hf.block k (sim.st k hk) (fun h=>(hR k h).1 hk)
 have T:kp S S w w' L L rho rho s.h s.h:=⟨fun b h=>h,iC,fun j hj=>⟨hj,fun hl=>⟨hl,rfl⟩⟩,fun j e' hj=>hj⟩
 exact
 {tm:=fun j hj=>(sim.tm j hj).dQ T
  sz:=sim.sz,df:=sim.df,nb:=sim.nb,pn:=sim.pn
  ev:=hC.env _ _ _ _ sim.ev (fun b h=>h) iC hf.size
  s0:=sim.s0
  st:=fun b hb=>Nat.lt_of_lt_of_le (sim.st b hb) hf.size
  sb:=sim.sb
  hp:=fun j hj=>(sim.hp j hj).dQ T (fun li g hg=>hf.block g (sim.lv j g hj li hg).1 (fun h=>(hR g h).2.1 j hj li hg)) (fun _=>rfl)
  dj:=fun i j g hi hj li lj eP iB=>sim.dj i j g hi hj li lj (dA (fun k hk=>hf.block k (sim.l5 i k hi li hk).1 (fun h=>(hR k h).2.1 i hi li (.inl hk))) eP) (dA (fun k hk=>hf.block k (sim.l5 j k hj lj hk).1 (fun h=>(hR k h).2.1 j hj lj (.inl hk))) iB)
  lv:=fun i g hi li hg=>by obtain⟨h1,h2⟩:=sim.lv i g hi li (dA (fun k hk=>hf.block k (sim.l5 i k hi li hk).1 (fun h=>(hR k h).2.1 i hi li (.inl hk))) hg);exact⟨Nat.lt_of_lt_of_le h1 hf.size,h2⟩
  fr:=sim.fr.next hf.os hf.tape hf.output hf.size fun k hk hn=>hf.block k (Nat.lt_of_lt_of_le hk sim.fr.size) fun h=>by
   rcases (hR k h).2.2 with h | h
   ·exact hn h
   omega }
theorem me:∀{l:List AV} {as:List AV} {z:AV},mW l=some (as,z)->l=as++[z]
 | [],_,_,h=>by cases h
 | [x],_,_,h=>by cases h;rfl
 | x::y::r,as,z,h=>by
  rw[mW] at h
  split at h
  ·rename_i l z' h2
   cases h
   rw[me h2]
   rfl
  cases h
theorem Fj {h:Nat->AB} {d:Nat}:∀{fz:List (Nat×AB)},(∀p∈fz,p.1≠d)->app h fz d=h d:=by
 intro fz
 induction fz generalizing h with
 | nil=>intro _;rfl
 | cons p fz ih=>
  intro hp
  obtain⟨i,b⟩:=p
  show app (bI h i b) fz d=h d
  rw[ih fun q hq=>hp q (by simp[hq]),bQ _ _ (fun e=>hp (i,b) (by simp) e.symm)]
theorem BQ {A:dc} (hC:ct A.C) {o:Oper} {V L S:Nat->Prop} {rho:Nat->Value} {s:AS} {a:Act} {w:World} {K:KK} {next:Act->World->Prop} {Q:Exit->Act->World->Prop} (sim:cm A V L S rho s a w) (hd:∀d,o.dst=some d->d < A.n)
  (hn:∀v eff b,K v eff (some b)->¬L (o.dst.getD 0)/\s.h (o.dst.getD 0)=b)
  (hnext:∀v eff new S' rho' a' w',K v eff new->cm A (tL V o.dst) (wX L new (o.dst.getD 0)) S' rho' ⟨en s.t o.dst v,app s.h eff⟩ a' w'->next a' w')
  (f:FuncId) (gZ:List AV) (vs:Array Value) (hl:gZ.length=vs.size)
  (hrep:∀(S2:Nat->Prop) (h2:Nat->AB),cm A V L S2 rho ⟨s.t,h2⟩ a w->∀(i:Nat) x v,gZ[i]?=some x->vs.toList[i]?=some v->bK S2 w A.C.P L rho h2 x v)
  (hrun : (∃ fn : Func, A.C.P.funcs[f]? = some fn ∧ (fn.name == "runtime.NumGoroutine") = false ∧ fn.body.isNone = false) → (execOp a.eval o).run A.C.P w = .ok (.enter f vs) w) (hq : qn A.C s.h (o.dst.getD 0) f gZ K) : o.wp A.C.P a w next Q := by
 unfold qn at hq
 split at hq
 case h_2=>exact hq.elim
 rename_i as id tG
 have Fk:=me tG
 split at hq
 case h_2=>exact hq.elim
 rename_i ty c jj bC
 split at hq
 case h_2=>exact hq.elim
 rename_i AN
 split at hq
 case h_2=>exact hq.elim
 rename_i e es a7
 obtain⟨ws,vb,CZ,Jx⟩:∃ws vb,vs.toList=ws++[vb]/\as.length=ws.length:=by
  have dh:vs.toList≠[]:=fun e=>by
   have:vs.size=0:=by simpa using congrArg List.length e
   rw[Fk] at hl;simp at hl;omega
  refine⟨vs.toList.dropLast,vs.toList.getLast dh,(List.dropLast_concat_getLast dh).symm,?_⟩
  rw[Fk] at hl
  simp at hl ⊢
  omega
 have Df:=hrep S s.h sim as.length (.bx id 0) vb (by rw[Fk];simp) (by rw[CZ,Jx];simp)
 have Mf:∀(i:Nat) c v,as[i]?=some c->ws[i]?=some v->bK S w A.C.P L rho s.h c v:=fun i c v h1 h2=>hrep S s.h sim i c v (by rw[Fk,List.getElem?_append_left (List.getElem?_eq_some_iff.1 h1).1];exact h1) (by rw[CZ,List.getElem?_append_left (List.getElem?_eq_some_iff.1 h2).1];exact h2)
 obtain⟨jl,g0,lV,Og⟩:L id/\∃g,rho id=.pointer (some ⟨g,0,none⟩)/\vb=.pointer (some ⟨g,0,none⟩):=by
  cases Df with
  | bx _ _ _ hv=>exact hv (by rw[bC];trivial)
 obtain⟨xs,fz,S2,⟨r,ch,dw,qx,hq⟩,bN,hpv,vi,hF,w4,hlen⟩:=uG (t:=s.t) hC as ws S s.h Jx sim (lU.refl _) Mf hq
 split at hq
 case h_2=>exact hq.elim
 rename_i hok
 simp only[Bool.and_eq_true,Bool.not_eq_true'] at hok
 obtain⟨jN,Mg,Hw,dh⟩:=hok
 have dh:id≠jj:=fun e=>by rw[e] at dh;simp at dh
 have Dg:(app s.h fz) id=.gJ ty [c,.ow jj]:=by rw[jk Mg,bC]
 have Dh:(app s.h fz) jj=.row e es:=by rw[jk Hw,a7]
 have EM:=bN.hp id jl
 have EM:fa S2 w A.C.P L rho (app s.h fz) id (app s.h fz id):=EM
 rw[Dg] at EM
 obtain⟨g,cells,k1,k2,k3,k4⟩:=EM
 rw[lV] at k1
 obtain rfl:g0=g:=by injection k1 with k1;injection k1 with k1;injection k1
 obtain⟨u0,u1,eS⟩:∃u0 u1,cells=#[u0,u1]:=by
  obtain⟨cl⟩:=cells
  match cl,k3 with
  | [x,y],_=>exact⟨x,y,rfl⟩
 subst eS
 obtain⟨o0,l0⟩:=k4 0 c u0 rfl rfl
 obtain⟨o1,l1⟩:=k4 1 (.ow jj) u1 rfl rfl
 obtain⟨uK,JL⟩:L jj/\u1=rho jj:=by
  cases l1 with
  | ow _ _ hv=>exact hv (by rw[Dh];trivial)
 have Oh:u0=.pointer none\/u0=.pointer (some ⟨g0,0,none⟩):=by
  unfold Gl at AN
  split at AN
  ·cases l0 with
   | p _ _ hx=>cases hx;exact .inl rfl
  ·have hi:=Nat.eq_of_beq_eq_true AN
   subst hi
   cases l0 with
   | bx _ _ _ hv=>
    obtain⟨_,g',e1,e2⟩:=hv (by rw[Dg];trivial)
    rw[lV] at e1
    injection e1 with e1;injection e1 with e1;injection e1 with e1
    subst e1
    exact .inr e2
  cases AN
 have Fe:=bN.hp jj uK
 have Fe:fa S2 w A.C.P L rho (app s.h fz) jj (app s.h fz jj):=Fe
 rw[Dh] at Fe
 have Fe:a_ A.C.P w (bu S2 w) e es (rho jj):=Fe
 rw[<-JL] at Fe
 have za:(app s.h fz id).live:=by rw[Dg];trivial
 have rB:(app s.h fz jj).live:=by rw[Dh];trivial
 have zb:=bN.l5 id g0 jl za (by rw[lV];rfl)
 have oP:∀k,cW u1=some k->k < w.heap.size/\¬S2 k/\(A.mv k\/A.w0.heap.size<=k)/\k≠g0:=fun k hk=>by
  obtain⟨a1,a2,a3⟩:=bN.l5 jj k uK rB (by rw[<-JL];exact hk)
  refine⟨a1,a2,a3,fun e=>dh ?_⟩
  subst e
  exact bN.K6 id jj k jl uK za rB (by rw[lV];rfl) (by rw[<-JL];exact hk)
 have Me:vs=(ws++[Value.pointer (some ⟨g0,0,none⟩)]).toArray:=by
  rw[<-Og,<-CZ]
 have key:=qx.2 S2 w ws g0 u0 u1 bN.ev bN.st hlen hpv k2 Oh Fe zb.2.1 (fun k hk=>⟨(oP k hk).2.1,(oP k hk).2.2.2,(oP k hk).1⟩)
 rw[<-Me] at key
 refine r_ (hrun qx.1) key fun e' w' sa=>?_
 obtain⟨v,rfl,hf,hr,sa⟩:=sa
 refine⟨v,rfl,?_⟩
 have hval:∀{L':Nat->Prop} {rho':Nat->Value} {h':Nat->AB},bK S2 w' A.C.P L' rho' h' (IY (o.dst.getD 0) r) v:=by
  intro L' rho' h'
  cases r with
  | p x=>exact .p _ _ hr
  | own e es=>cases jN
  | hown cs=>cases jN
  | tu ys=>
   obtain⟨us,rfl,q1,q2⟩:=hr
   refine .tu _ us (by simpa using q1) fun i c u hi hu=>?_
   rw[List.getElem?_map] at hi
   obtain⟨z,hz,rfl⟩:=Option.map_eq_some_iff.1 hi
   exact .p _ _ (q2 i z u hz hu)
 split at hq
 case h_2=>
  have fw:=(bN.kill jj).kill id
  have tS:=fw.loose hC w' (fun k=>k=g0\/cW u1=some k) hf (fun k hk=>by
   have dead:∀i,(bI (bI (app s.h fz) jj .none) id .none i).live->i≠id/\i≠jj/\(app s.h fz i).live:=fun i li=>by
    rcases bT (bI (app s.h fz) jj .none) id .none i with⟨rfl,h⟩ | ⟨h1,h⟩
    ·rw[h] at li;exact li.elim
    rw[h] at li
    rcases bT (app s.h fz) jj .none i with⟨rfl,h3⟩ | ⟨h2,h3⟩
    ·rw[h3] at li;exact li.elim
    rw[h3] at li;exact⟨h1,h2,li⟩
   have Gt:∀i,(bI (bI (app s.h fz) jj .none) id .none i).live->hasB w (bI (bI (app s.h fz) jj .none) id .none i) (rho i) k->hasB w (app s.h fz i) (rho i) k:=fun i li hg=>ez (dead i li).2.1 (ez (dead i li).1 hg)
   rcases hk with rfl | hk
   ·exact⟨zb.2.1,fun i hi li eP=>(dead i li).1 (bN.dj i id k hi jl (dead i li).2.2 za (Gt i li eP) (.inl (by rw[lV];rfl))),zb.2.2⟩
   exact⟨(oP k hk).2.1,fun i hi li eP=>(dead i li).2.1 (bN.dj i jj k hi uK (dead i li).2.2 rB (Gt i li eP) (.inl (by rw[<-JL];exact hk))),(oP k hk).2.2.1⟩)
  have e6:bI (bI (app s.h fz) jj .none) id .none=app s.h (fz++[(jj,.none),(id,.none)]):=by rw[cC];rfl
  have tS:cm A V L S2 rho ⟨s.t,bI (bI (app s.h fz) jj .none) id .none⟩ a w':=tS
  rw[e6] at tS
  exact hnext _ _ _ S2 rho _ w' hq (tS.value o.dst hd _ _ hval)
 rename_i dw
 obtain⟨u1',JM,Gu,Ht⟩:=sa
 obtain⟨hL,hb⟩:=hn _ _ _ hq
 have JN:o.dst.getD 0≠id:=fun e=>hL (e ▸ jl)
 have JO:o.dst.getD 0≠jj:=fun e=>hL (e ▸ uK)
 have Oi:g0 < w'.heap.size:=Nat.lt_of_lt_of_le zb.1 hf.size
 obtain⟨w1,Fl⟩:∃w1:World,w1={ w' with heap:=w'.heap.setIfInBounds g0 (.cells #[u0,u1] ty (0,0)) }:=⟨_,rfl⟩
 have Oj:w1.heap[g0]?=some (.cells #[u0,u1] ty (0,0)):=by rw[Fl];simp[Oi]
 have Lg:∀k,k≠g0->w1.heap[k]?=w'.heap[k]?:=fun k hk=>by rw[Fl];simp[Array.getElem?_setIfInBounds,hk.symm]
 have Mh:w1.heap.size=w'.heap.size:=by rw[Fl];simp
 have Ol:∀k,cW u1'=some k->k≠g0:=fun k hk=>by
  rcases (Ht k hk).2 with h | h
  ·exact (oP k h).2.2.2
  have:=zb.1;omega
 have fw:=bN.kill jj
 have tS:=fw.new hC (o.dst.getD 0) (.row e dw) (bN.lK hd) hL (by
   show bI (app s.h fz) jj .none (o.dst.getD 0)=_
   rw[bQ _ _ JO,Fj fun p hp e=>hL (by rw[<-e];exact w4 p hp),hb]) w1 (by rw[Fl];exact hf.os) (by rw[Fl];exact hf.tape) (by rw[Fl];exact hf.output) (by rw[Mh];exact hf.size) (fun k=>cW u1=some k)
  (fun k hk JA=>by
   by_cases e:k=g0
   ·subst e;rw[Oj,k2]
   rw[Lg k e];exact hf.block k hk (fun h=>h.elim e JA))
  (fun k hk=>by
   refine⟨(oP k hk).2.1,fun i hi li eP=>?_,(oP k hk).2.2.1⟩
   have kj:(bI (app s.h fz) jj .none i).live:=li
   rcases bT (app s.h fz) jj .none i with⟨rfl,h⟩ | ⟨JP,h⟩
   ·rw[h] at kj;exact kj.elim
   rw[h] at kj
   exact JP (bN.dj i jj k hi uK kj rB (ez JP eP) (.inl (by rw[<-JL];exact hk))))
  u1' (fun k hk=>by rw[Mh];exact⟨(Ht k hk).1,(Ht k hk).2.symm⟩)
  (fun T=>by
   show a_ A.C.P w1 (bu S2 w1) e dw (bI rho (o.dst.getD 0) u1' (o.dst.getD 0))
   rw[bc]
   exact Gu.dQ (fun k hk=>Lg k (Ol k hk)) (fun x u hx=>hx.mono (fun _ h=>h) fun k hk=>Lg k fun e=>zb.2.1 (e ▸ hk)))
 have Mi:(bI (app s.h fz) jj .none) id=.gJ ty [c,.ow jj]:=by rw[bQ _ _ dh,Dg]
 have Hx:bI rho (o.dst.getD 0) u1' id=.pointer (some ⟨g0,0,none⟩):=by rw[bQ _ _ JN.symm,lV]
 have Fm:=tS.write hC id (.inl jl) (by show ((bI (app s.h fz) jj .none) id).live;rw[Mi];trivial) (.gJ ty [qm ch id c,.ow (o.dst.getD 0)]) (fun _ h=>by cases h) w' (by rw[Fl]) (by rw[Fl]) (by rw[Fl]) Mh.symm
  (fun k hk=>(Lg k fun e=>hk (by rw[Hx,e];rfl)).symm)
  (fun T=>by
   refine⟨g0,_,Hx,JM,rfl,fun j x u hj hu=>?_⟩
   match j,hj,hu with
   | 0,hj,hu=>
    cases hj
    cases ch with
    | true=>
     cases hu
     exact⟨rfl,.bx id 0 _ fun _=>⟨.inl jl,g0,Hx,rfl⟩⟩
    | false=>
     cases hu
     exact⟨o0,(l0.dQ (S':=S2) (w':=w') (L':=fun i=>L i\/i=o.dst.getD 0) (rho':=bI rho (o.dst.getD 0) u1') (h':=bI (bI (app s.h fz) jj .none) id (.gJ ty [qm false id c,.ow (o.dst.getD 0)])) ⟨fun _ h=>h,fun k hk=>hf.block k (bN.st k hk) (fun h=>h.elim (fun e=>zb.2.1 (e ▸ hk)) (fun h=>(oP k h).2.1 hk)),fun j hj=>by
       rcases bT (bI (app s.h fz) jj .none) id (.gJ ty [qm false id c,.ow (o.dst.getD 0)]) j with⟨rfl,h⟩ | ⟨Mj,h⟩
       ·exact⟨by rw[Dg];trivial,fun hl=>⟨.inl hl,bQ _ _ JN.symm⟩⟩
       ·rw[h] at hj
        rcases bT (app s.h fz) jj .none j with⟨rfl,h3⟩ | ⟨IZ,h3⟩
        ·rw[h3] at hj;exact hj.elim
        rw[h3] at hj
        exact⟨hj,fun hl=>⟨.inl hl,bQ _ _ fun e=>hL (e ▸ hl)⟩⟩,fun j e2 hj=>by
       rcases bT (bI (app s.h fz) jj .none) id (.gJ ty [qm false id c,.ow (o.dst.getD 0)]) j with⟨rfl,h⟩ | ⟨Mj,h⟩
       ·rw[h] at hj;cases hj
       rw[h] at hj
       rcases bT (app s.h fz) jj .none j with⟨rfl,h3⟩ | ⟨IZ,h3⟩
       ·rw[h3] at hj;cases hj
       rw[h3] at hj;exact hj⟩)⟩
   | 1,hj,hu=>
    cases hj
    cases hu
    obtain⟨i0,Po,I4,_,hown,_⟩:=Gu
    refine⟨?_,.ow _ _ fun _=>⟨.inr rfl,(bc _ _ _).symm⟩⟩
    obtain⟨a0,c0,Jz⟩:=ec hown
    rw[Jz]
    rfl
   | n+2,hj,hu=>cases hj)
 have e6:bI (bI (app s.h fz) jj .none) id (.gJ ty [qm ch id c,.ow (o.dst.getD 0)])=app s.h (fz++[(jj,.none),(id,.gJ ty [qm ch id c,.ow (o.dst.getD 0)])]):=by rw[cC];rfl
 have Fm:cm A V (fun i=>L i\/i=o.dst.getD 0) S2 (bI rho (o.dst.getD 0) u1') ⟨s.t,bI (bI (app s.h fz) jj .none) id (.gJ ty [qm ch id c,.ow (o.dst.getD 0)])⟩ a w':=Fm
 rw[e6] at Fm
 exact hnext _ _ _ S2 (bI rho (o.dst.getD 0) u1') _ w' hq (Fm.value o.dst hd _ _ hval)
theorem Fo {A:dc} {o:Oper} (c:Call) (g:Operand) (aZ:o.op=.call c) (hc:c.callee=.value g):gx A o:=by
 intro V L S rho s a w K next Q hC sim hV hd hq hn hnext
 obtain⟨callee,args,argTypes⟩:=c
 simp only at hc
 subst hc
 simp only[bY,aZ,eh] at hq
 have hg:=bL sim g fun j hj=>hV j (by simp[aZ,Op.operands,Call.operands,hj])
 have hargs:∀(S2:Nat->Prop) (h2:Nat->AB),cm A V L S2 rho ⟨s.t,h2⟩ a w->∀x∈args.toList,bK S2 w A.C.P L rho h2 (ev s.t x) (a.eval x):=fun S2 h2 bN x hx=>bL bN x fun j hj=>hV j (by simp[aZ,Op.operands,Call.operands];rw[<-hj];exact .inr (Array.mem_toList_iff.1 hx))
 have y7:∀(S2:Nat->Prop) (h2:Nat->AB),cm A V L S2 rho ⟨s.t,h2⟩ a w->∀(i:Nat) x v,(args.toList.map (ev s.t))[i]?=some x->(args.map a.eval).toList[i]?=some v->bK S2 w A.C.P L rho h2 x v:=by
  intro S2 h2 bN i x v hx hv
  rw[List.getElem?_map] at hx
  obtain⟨y,hy,rfl⟩:=Option.map_eq_some_iff.1 hx
  rw[Array.toList_map,List.getElem?_map,hy] at hv
  simp at hv
  rw[<-hv]
  exact hargs S2 h2 bN y (List.mem_of_getElem? hy)
 split at hq
 case h_2=>exact hq.elim
 rename_i f cap Nz
 obtain⟨us,he,hl,_⟩:=nK Nz hg
 have AO : (∀ (S2 : Nat → Prop) (h2 : Nat → AB), cm A V L S2 rho ⟨s.t, h2⟩ a w → ∀ (i : Nat) x v, (args.toList.map (ev s.t) ++ cap)[i]? = some x → (args.map a.eval ++ us).toList[i]? = some v → bK S2 w A.C.P L rho h2 x v) ∧ ((∃ fn : Func, A.C.P.funcs[f]? = some fn ∧ (fn.name == "runtime.NumGoroutine") = false ∧ fn.body.isNone = false) → (execOp a.eval o).run A.C.P w = .ok (.enter f (args.map a.eval ++ us)) w) := by
  refine⟨fun S2 h2 bN i x v hx hv=>?_,fun Mk=>?_⟩
  ·rw[Array.toList_append] at hv
   by_cases hi:i < args.size
   ·rw[List.getElem?_append_left (by simpa using hi)] at hx
    rw[List.getElem?_append_left (by simpa using hi)] at hv
    exact y7 S2 h2 bN i x v hx hv
   rw[List.getElem?_append_right (by simp;omega)] at hx
   rw[List.getElem?_append_right (by simp;omega)] at hv
   simp only[List.length_map,Array.length_toList,Array.toList_map] at hx hv
   have Lh:=bL bN g fun j hj=>hV j (by simp[aZ,Op.operands,Call.operands,hj])
   obtain⟨Pp,oK,_,oC⟩:=nK Nz Lh
   rw[he] at oK
   injection oK with _ _ oK
   subst oK
   exact oC _ x v hx (by simpa using hv)
  simp[execOp,aZ,resolve,he,Deferred.ofValue,invoke,vp Mk]
 split at hq
 ·exact BP hC sim hd hn hnext f _ (args.map a.eval++us) (by simp[hl]) AO.1 AO.2 hq
 exact BQ hC sim hd hn hnext f _ (args.map a.eval++us) (by simp[hl]) AO.1 AO.2 hq
end Go.AM
namespace Go.AM
open Go.RowKit
def Ext (h h':Nat->AB):Prop:=∀id,h id=.none\/h' id=h id
theorem Ext.row {h h':Nat->AB} (H:Ext h h') {id:Nat} {e:TypeId} {es:List (List PV)} (hr:h id=.row e es):h' id=.row e es:=by
 rcases H id with h1 | h1
 ·rw[h1] at hr;cases hr
 rw[h1,hr]
theorem Ext.hM {h h':Nat->AB} (H:Ext h h') {id:Nat} {es:List (List PV)} (hr:h id=.hM es):h' id=.hM es:=by
 rcases H id with h1 | h1
 ·rw[h1] at hr;cases hr
 rw[h1,hr]
theorem Ext.box {h h':Nat->AB} (H:Ext h h') {id:Nat} {cs:List AV} (hr:h id=.box cs):h' id=.box cs:=by
 rcases H id with h1 | h1
 ·rw[h1] at hr;cases hr
 rw[h1,hr]
theorem Ext.bC {h h':Nat->AB} (H:Ext h h') {id:Nat} {cs:List HC} (hr:h id=.bC cs):h' id=.bC cs:=by
 rcases H id with h1 | h1
 ·rw[h1] at hr;cases hr
 rw[h1,hr]
theorem Ext.gJ {h h':Nat->AB} (H:Ext h h') {id:Nat} {ty:TypeId} {cs:List AV} (hr:h id=.gJ ty cs):h' id=.gJ ty cs:=by
 rcases H id with h1 | h1
 ·rw[h1] at hr;cases hr
 rw[h1,hr]
theorem Ext.jK {h h':Nat->AB} (H:Ext h h') {id:Nat} {cs:List PV} (hr:h id=.jK cs):h' id=.jK cs:=by
 rcases H id with h1 | h1
 ·rw[h1] at hr;cases hr
 rw[h1,hr]
theorem Ext.map {h h':Nat->AB} (H:Ext h h') {id:Nat} {mk:MK} {es:List (Value×PV)} (hr:h id=.map mk es):h' id=.map mk es:=by
 rcases H id with h1 | h1
 ·rw[h1] at hr;cases hr
 rw[h1,hr]
theorem Ext.a7 {h h':Nat->AB} (H:Ext h h') {id:Nat} {e:TypeId} {es:List (List HX)} (hr:h id=.a7 e es):h' id=.a7 e es:=by
 rcases H id with h1 | h1
 ·rw[h1] at hr;cases hr
 rw[h1,hr]
theorem BR {h h':Nat->AB} (H:Ext h h') {a:AV} {n:Nat} (hq:hlen h a=some n):hlen h' a=some n:=by
 unfold hlen at hq ⊢
 split at hq
 ·rename_i id
  split at hq
  ·rename_i e es hr
   rw[H.a7 hr]
   exact hq
  cases hq
 cases hq
theorem BS {h h':Nat->AB} (H:Ext h h') {a:AV} {K:List (List PV)->Prop} (hq:fB h a K):hlen h' a=none:=by
 unfold fB at hq
 unfold hlen
 split at hq
 ·rfl
 ·rfl
 ·rename_i id
  simp only
  split at hq
  ·rename_i hr;rw[H.row hr]
  ·rename_i hr;rw[H.hM hr]
  exact hq.elim
 exact hq.elim
theorem oQ {h h':Nat->AB} (H:Ext h h') {a:AV} (h2:pD h a=true):pD h' a=true:=by
 cases a with
 | p x=>cases x <;> exact h2
 | nl=>rfl
 | ow id=>
  unfold pD at h2 ⊢
  simp only at h2 ⊢
  split at h2
  ·rename_i hr;rw[H.row hr]
  ·rename_i hr;rw[H.a7 hr]
  ·rename_i hr;rw[H.hM hr]
  cases h2
 | bx id off=>
  unfold pD at h2 ⊢
  simp only at h2 ⊢
  split at h2
  ·cases h2
  rename_i dh
  rcases H id with h4 | h4
  ·exact absurd h4 (by simpa using dh)
  rw[h4]
  split
  ·rename_i h5;exact absurd h5 (by simpa using dh)
  rfl
 | vw id lo hi=>exact h2
 | rp id i off=>
  unfold pD at h2 ⊢
  simp only at h2 ⊢
  split at h2
  ·rename_i hr;rw[H.row hr]
  ·rename_i hr;rw[H.a7 hr]
  cases h2
 | fn f cap=>rfl
 | tu xs=>exact h2
 | st xs=>exact h2
 | junk=>exact h2
theorem uL {h h':Nat->AB} (H:Ext h h') {a:AV} {K:PV->List (Nat×AB)->Prop} (hq:ji h a K):∃x fz,K x fz/\∀K':PV->List (Nat×AB)->Prop,K' x fz->ji h' a K':=by
 unfold ji at hq
 split at hq
 ·exact⟨_,_,hq,fun K' h=>h⟩
 ·exact⟨_,_,hq,fun K' h=>h⟩
 ·split at hq
  ·rename_i hr
   exact⟨_,_,hq,fun K' h=>by simp only[ji,H.row hr];exact h⟩
  ·rename_i hr
   exact⟨_,_,hq,fun K' h=>by simp only[ji,H.hM hr];exact h⟩
  exact hq.elim
 ·split at hq
  ·rename_i hr
   split at hq
   ·rename_i hx
    exact⟨_,_,hq,fun K' h=>by simp only[ji,H.box hr,hx];exact h⟩
   exact hq.elim
  ·rename_i hr
   exact⟨_,_,hq,fun K' h=>by simp only[ji,H.jK hr];exact h⟩
  exact hq.elim
 exact hq.elim
theorem uM {h h':Nat->AB} (H:Ext h h'):∀{as:List AV} {K:List PV->List (Nat×AB)->Prop},qk h as K->∃xs fz,K xs fz/\∀K':List PV->List (Nat×AB)->Prop,K' xs fz->qk h' as K':=by
 intro as
 induction as with
 | nil=>intro K hq;exact⟨_,_,hq,fun K' h=>h⟩
 | cons a as ih=>
  intro K hq
  unfold qk at hq
  obtain⟨x,fz,hq,hK⟩:=uL H hq
  obtain⟨xs,jM,hq,vq⟩:=ih hq
  refine⟨_,_,hq,fun K' h=>?_⟩
  unfold qk
  exact hK _ (vq _ h)
theorem gi {h h':Nat->AB} (H:Ext h h') {a:AV} {K:PV->List (Nat×AB)->Prop} (hq:gK h a K):∃x fz,K x fz/\∀K':PV->List (Nat×AB)->Prop,K' x fz->gK h' a K':=by
 unfold gK at hq
 split at hq
 ·obtain⟨xs,fz,hq,hK⟩:=uM H hq
  exact⟨_,_,hq,fun K' h=>hK _ h⟩
 rename_i dh
 obtain⟨x,fz,hq,hK⟩:=uL H hq
 refine⟨x,fz,hq,fun K' h=>?_⟩
 unfold gK
 split
 ·exact absurd rfl (dh _ _)
 exact hK _ h
theorem sd {h h':Nat->AB} (H:Ext h h') {a:AV} {K:List (List PV)->Prop} (hq:fB h a K):∃es,K es/\∀K':List (List PV)->Prop,K' es->fB h' a K':=by
 unfold fB at hq
 split at hq
 ·exact⟨_,hq,fun K' h=>h⟩
 ·exact⟨_,hq,fun K' h=>h⟩
 ·split at hq
  ·rename_i hr
   exact⟨_,hq,fun K' h=>by simp only[fB,H.row hr];exact h⟩
  ·rename_i hr
   exact⟨_,hq,fun K' h=>by simp only[fB,H.hM hr];exact h⟩
  exact hq.elim
 exact hq.elim
theorem BU {h h':Nat->AB} (H:Ext h h') {fs:List (Nat×Nat×Bool)} {rho:Operand->AV}:∀{ps:List (Nat×Operand)} {cs:List PV} {K:List PV->List (Nat×AB)->Prop},hD h fs rho ps cs K->∃x fz,K x fz/\∀K':List PV->List (Nat×AB)->Prop,K' x fz->hD h' fs rho ps cs K':=by
 intro ps
 induction ps with
 | nil=>intro cs K hq;exact⟨_,_,hq,fun K' h=>h⟩
 | cons p ps ih=>
  intro cs K hq
  obtain⟨i,x⟩:=p
  unfold hD at hq
  split at hq
  ·rename_i h1
   obtain⟨y,fz,hq,hK⟩:=gi H hq
   split at hq
   ·rename_i ys h2
    split at hq
    ·rename_i h3
     obtain⟨z,jM,hq,vq⟩:=ih hq
     refine⟨z,fz++jM,hq,fun K' h=>?_⟩
     simp only[hD,h1]
     refine hK _ ?_
     simp only[h2,h3]
     exact vq _ h
    exact hq.elim
   exact hq.elim
  exact hq.elim
theorem uN {h h':Nat->AB} (H:Ext h h') {fs:List (Nat×Nat×Bool)} {rho:Operand->AV}:∀{ps:List (Nat×Operand)} {cs:List AV} {K:List AV->Prop},iQ h fs rho ps cs K->∃z,K z/\∀K':List AV->Prop,K' z->iQ h' fs rho ps cs K':=by
 intro ps
 induction ps with
 | nil=>intro cs K hq;exact⟨cs,hq,fun K' h=>h⟩
 | cons p ps ih=>
  intro cs K hq
  obtain⟨i,x⟩:=p
  unfold iQ at hq
  split at hq
  ·rename_i h1
   split at hq
   ·rename_i h2
    obtain⟨z,h3,h4⟩:=ih hq
    refine⟨z,h3,fun K' hk=>?_⟩
    unfold iQ
    simp only[Bool.and_eq_true] at h2
    simp only[h1,h2.1.1,h2.1.2,oQ H h2.2,Bool.and_self]
    exact h4 K' hk
   exact hq.elim
  exact hq.elim
theorem BV {h h':Nat->AB} (H:Ext h h') {b:Bool} {a:AV} {K:PV->List (Nat×AB)->Prop} (hq:qo b h a K):∃x fz,K x fz/\∀K':PV->List (Nat×AB)->Prop,K' x fz->qo b h' a K':=by
 unfold qo at hq
 split at hq
 ·exact⟨_,_,hq,fun K' h=>h⟩
 rename_i dh
 obtain⟨x,fz,h1,h2⟩:=gi H hq
 refine⟨x,fz,h1,fun K' h=>?_⟩
 unfold qo
 split
 ·exact (dh rfl rfl).elim
 exact h2 K' h
theorem se {h h':Nat->AB} (H:Ext h h') {b:Bool} {size:Nat} {rho:Operand->AV}:∀{ps:List (Nat×Operand)} {cs:List (List PV)} {K:List (List PV)->List (Nat×AB)->Prop},fA b h size rho ps cs K->∃x fz,K x fz/\∀K':List (List PV)->List (Nat×AB)->Prop,K' x fz->fA b h' size rho ps cs K':=by
 intro ps
 induction ps with
 | nil=>intro cs K hq;exact⟨_,_,hq,fun K' h=>h⟩
 | cons p ps ih=>
  intro cs K hq
  obtain⟨i,x⟩:=p
  unfold fA at hq
  obtain⟨y,fz,hq,hK⟩:=BV H hq
  split at hq
  ·rename_i ys h2
   split at hq
   ·rename_i h3
    obtain⟨z,jM,hq,vq⟩:=ih hq
    refine⟨z,fz++jM,hq,fun K' h=>?_⟩
    simp only[fA]
    refine hK _ ?_
    simp only[h2,h3]
    exact vq _ h
   exact hq.elim
  exact hq.elim
theorem BW {h h':Nat->AB} (H:Ext h h') {md:Nat->Bool}:∀{as:List AV} {j:Nat} {K:List Arg->List (Nat×AB)->List (Nat×AB)->Prop},fy md h j as K->∃xs ids fz,K xs ids fz/\∀K':List Arg->List (Nat×AB)->List (Nat×AB)->Prop,K' xs ids fz->fy md h' j as K':=by
 intro as
 induction as with
 | nil=>intro j K hq;exact⟨_,_,_,hq,fun K' h=>h⟩
 | cons a as ih=>
  intro j K hq
  unfold fy at hq
  split at hq
  ·rename_i hm
   obtain⟨y,fz,hq,hK⟩:=gi H hq
   obtain⟨xs,ids,jM,hq,vq⟩:=ih hq
   refine⟨_,_,_,hq,fun K' h=>?_⟩
   simp only[fy,hm]
   exact hK _ (vq _ h)
  rename_i hm
  split at hq
  ·split at hq
   ·rename_i hr
    obtain⟨xs,ids,jM,hq,vq⟩:=ih hq
    refine⟨_,_,_,hq,fun K' h=>?_⟩
    simp only[fy,hm,H.row hr]
    exact vq _ h
   ·rename_i hr
    obtain⟨xs,ids,jM,hq,vq⟩:=ih hq
    refine⟨_,_,_,hq,fun K' h=>?_⟩
    simp only[fy,hm,H.hM hr]
    exact vq _ h
   ·rename_i hr
    obtain⟨xs,ids,jM,hq,vq⟩:=ih hq
    refine⟨_,_,_,hq,fun K' h=>?_⟩
    simp only[fy,hm,H.map hr]
    exact vq _ h
   exact hq.elim
  ·obtain⟨xs,ids,jM,hq,vq⟩:=ih hq
   refine⟨_,_,_,hq,fun K' h=>?_⟩
   simp only[fy,hm]
   exact vq _ h
  ·split at hq
   ·rename_i hr
    split at hq
    ·rename_i hx
     obtain⟨xs,ids,jM,hq,vq⟩:=ih hq
     refine⟨_,_,_,hq,fun K' h=>?_⟩
     simp only[fy,hm,H.box hr,hx]
     exact vq _ h
    exact hq.elim
   ·rename_i hr
    obtain⟨xs,ids,jM,hq,vq⟩:=ih hq
    refine⟨_,_,_,hq,fun K' h=>?_⟩
    simp only[fy,hm,H.bC hr]
    exact vq _ h
   exact hq.elim
  exact hq.elim
theorem zc {C:Ctx} {h h':Nat->AB} (H:Ext h h') {d:Nat} {f:FuncId} {as:List AV} {K:KK} (hq:kO C h d f as K):∃v e n,K v e n/\∀K':KK,K' v e n->kO C h' d f as K':=by
 unfold kO at hq
 obtain⟨xs,ids,fz,⟨r,fin,hc,hq⟩,hK⟩:=BW H hq
 split at hq
 ·rename_i h1
  split at hq
  ·rename_i h2
   split at hq
   ·rename_i h3
    refine⟨_,_,_,hq,fun K' h=>?_⟩
    unfold kO
    refine hK _ ⟨r,fin,hc,?_⟩
    simp only[h1,h2,h3]
    exact h
   rename_i h3
   refine⟨_,_,_,hq,fun K' h=>?_⟩
   unfold kO
   refine hK _ ⟨r,fin,hc,?_⟩
   simp only[h1,h2,h3]
   exact h
  exact hq.elim
 exact hq.elim
theorem km.ext {h h':Nat->AB} (H:Ext h h') {a:AV} {x:PV} (hv:km h a x):km h' a x:=by
 cases hv with
 | p=>exact .p _
 | nl=>exact .nl
 | row id e es hr=>exact .row id e es (H.row hr)
 | hM id es hr=>exact .hM id es (H.hM hr)
 | a7 id e es ps hr hp=>exact .a7 id e es ps (H.a7 hr) hp
theorem kP.ext {h h':Nat->AB} (H:Ext h h') {as:List AV} {xs:List PV} (hv:kP h as xs):kP h' as xs:=by
 induction hv with
 | nil=>exact .nil
 | cons h1 _ ih=>exact .cons (h1.ext H) ih
theorem View.ext {h h':Nat->AB} (H:Ext h h') {a:AV} {x:PV} (hv:View h a x):View h' a x:=by
 cases hv with
 | one h1=>exact .one (h1.ext H)
 | box id off cs xs hb hx=>exact .box id off cs xs (H.box hb) (hx.ext H)
 | jK id off xs hb=>exact .jK id off xs (H.jK hb)
theorem oF.ext {h h':Nat->AB} (H:Ext h h') {as:List AV} {xs:List PV} (hv:oF h as xs):oF h' as xs:=by
 induction hv with
 | nil=>exact .nil
 | cons h1 _ ih=>exact .cons (h1.ext H) ih
theorem zd {h h':Nat->AB} (H:Ext h h'):∀{as:List AV},tK (dT h) as=true->tK (dT h') as=true:=by
 intro as
 induction as with
 | nil=>intro h;cases h
 | cons a as ih=>
  intro hq
  unfold tK at hq ⊢
  split at hq
  ·rename_i h1
   have:dT h' a=true:=by
    unfold dT at h1 ⊢
    split at h1
    ·split at h1
     ·rename_i hb;simp only[H.box hb];exact h1
     cases h1
    ·split at h1
     ·rename_i hb;simp only[H.a7 hb]
     cases h1
    cases h1
   rw[this]
  cases dT h' a with
  | true=>rfl
  | false=>exact ih hq
theorem BX {h h':Nat->AB} (H:Ext h h') {a:AV} {K:PV->List (Nat×AB)->Prop} (h1:dT h a=false) (hq:gK h a K):dT h' a=false:=by
 cases a with
 | ow id=>
  simp only[gK,ji] at hq
  simp only[dT] at h1 ⊢
  split at hq
  ·rename_i hr;rw[H.row hr]
  ·rename_i hr;rw[H.hM hr]
  exact hq.elim
 | bx id off=>
  simp only[gK,ji] at hq
  simp only[dT] at h1 ⊢
  split at hq
  ·rename_i hr;rw[hr] at h1;rw[H.box hr];exact h1
  ·rename_i hr;rw[H.jK hr]
  exact hq.elim
 | _=>rfl
theorem zf {h h':Nat->AB} (H:Ext h h') {md:Nat->Bool}:∀{as:List AV} {j:Nat} {K:List Arg->List (Nat×AB)->List (Nat×AB)->Prop},fy md h j as K->tK (dT h) as=false->tK (dT h') as=false:=by
 intro as
 induction as with
 | nil=>intro _ _ _ _;rfl
 | cons a as ih=>
  intro j K hq hn
  unfold tK at hn ⊢
  split at hn
  ·cases hn
  rename_i h1
  have:dT h' a=false/\∃(j:Nat) (K:List Arg->List (Nat×AB)->List (Nat×AB)->Prop),fy md h j as K:=by
   unfold fy at hq
   split at hq
   ·obtain⟨x,fz,pG,_⟩:=gi (fun _=>.inr rfl) hq
    exact⟨BX H h1 hq,_,_,pG⟩
   split at hq
   ·rename_i id
    split at hq
    ·rename_i hr;exact⟨by simp only[dT];rw[H.row hr],_,_,hq⟩
    ·rename_i hr;exact⟨by simp only[dT];rw[H.hM hr],_,_,hq⟩
    ·rename_i hr;exact⟨by simp only[dT];rw[H.map hr],_,_,hq⟩
    exact hq.elim
   ·exact⟨rfl,_,_,hq⟩
   ·rename_i id
    split at hq
    ·rename_i hr
     split at hq
     ·refine⟨?_,_,_,hq⟩
      simp only[dT] at h1 ⊢
      rw[hr] at h1
      rw[H.box hr]
      exact h1
     exact hq.elim
    ·rename_i hr;exact⟨by simp only[dT];rw[H.bC hr],_,_,hq⟩
    exact hq.elim
   exact hq.elim
  obtain⟨h2,j',K',h3⟩:=this
  rw[h2]
  exact ih h3 hn
theorem BY {C:Ctx} {h h':Nat->AB} (H:Ext h h') {d:Nat} {f:FuncId} {as:List AV} {K:KK} (hq:ql C h d f as K):∃v e n,K v e n/\∀K':KK,K' v e n->ql C h' d f as K':=by
 unfold ql at hq
 split at hq
 ·rename_i hn
  have wS:tK (dT h') as=false:=zf H (by unfold kO at hq;exact hq) hn
  obtain⟨v,e,n,h1,h2⟩:=zc H hq
  exact⟨v,e,n,h1,fun K' hk=>by unfold ql;rw[wS];exact h2 K' hk⟩
 rename_i hn
 have wS:=zd H hn
 obtain⟨xs,r,h1,h2,h3,h4⟩:=hq
 exact⟨_,_,_,h4,fun K' hk=>by unfold ql;rw[wS];exact⟨xs,r,h1.ext H,h2,h3,hk⟩⟩
theorem BZ {C:Ctx} {h h':Nat->AB} (H:Ext h h') {d:Nat} {f:FuncId} {as:List AV} {K:KK} (hq:qn C h d f as K):∃v e n,K v e n/\∀K':KK,K' v e n->qn C h' d f as K':=by
 unfold qn at hq
 split at hq
 case h_2=>exact hq.elim
 rename_i h0
 split at hq
 case h_2=>exact hq.elim
 rename_i h1
 split at hq
 case h_2=>exact hq.elim
 rename_i h2
 split at hq
 case h_2=>exact hq.elim
 rename_i h3
 obtain⟨xs,fz,⟨r,ch,dw,hc,hq⟩,hK⟩:=uM H hq
 split at hq
 case h_2=>exact hq.elim
 rename_i h4
 split at hq
 ·refine⟨_,_,_,hq,fun K' h=>?_⟩
  unfold qn
  simp only[h0,H.gJ h1,h2,H.row h3]
  refine hK _ ⟨r,ch,_,hc,?_⟩
  simp only[h4]
  exact h
 refine⟨_,_,_,hq,fun K' h=>?_⟩
 unfold qn
 simp only[h0,H.gJ h1,h2,H.row h3]
 refine hK _ ⟨r,ch,_,hc,?_⟩
 simp only[h4]
 exact h
theorem ku {k:IntKind} {n:Int} {K:Value->Prop} (hq:pE k n K):∃v,K v/\∀K':Value->Prop,K' v->pE k n K':=by
 unfold pE at hq
 split at hq
 ·rename_i h
  exact⟨_,hq.2,fun K' hk=>by simp only[pE,h];exact⟨hq.1,hk⟩⟩
 rename_i h
 exact⟨_,hq,fun K' hk=>by simp only[pE,h];exact hk⟩
theorem w8 {T:TypeId->Option TI} {op:BinOp} {t:TypeId} {x:PV} {K:Value->Prop} (hq:Bx T op t x K):∃v,K v/\∀K':Value->Prop,K' v->Bx T op t x K':=by
 unfold Bx at hq
 split at hq
 case h_2=>exact hq.elim
 split at hq
 case h_1=>exact hq.elim
 rename_i h1
 split at hq
 case h_2=>exact hq.elim
 rename_i h2
 split at hq <;> first
  | exact hq.elim
  | exact⟨_,hq,fun K' h=>by simp only[Bx,h1,h2];exact h⟩
theorem w9 {T:TypeId->Option TI} {op:BinOp} {t:TypeId} {x y:PV} {K:Value->Prop} (hq:nV T op t x y K):∃v,K v/\∀K':Value->Prop,K' v->nV T op t x y K':=by
 unfold nV at hq
 split at hq
 ·split at hq
  ·rename_i hs
   exact⟨_,hq.2,fun K' h=>by simp only[nV,hs];exact⟨hq.1,h⟩⟩
  rename_i hs
  split at hq
  ·exact hq.elim
  rename_i hk
  split at hq <;> first
   | exact hq.elim
   | (obtain⟨v,h1,h2⟩:=ku hq;exact⟨v,h1,fun K' h=>by simp only[nV,hk,hs];exact h2 K' h⟩)
   | (obtain⟨v,h1,h2⟩:=ku hq.2;exact⟨v,h1,fun K' h=>by simp only[nV,hk,hs];exact⟨hq.1,h2 K' h⟩⟩)
   | exact⟨_,hq,fun K' h=>by simp only[nV,hk,hs];exact h⟩
   | exact⟨_,hq.2,fun K' h=>by simp only[nV,hk,hs];exact⟨hq.1,h⟩⟩
 ·split at hq <;> first
   | exact hq.elim
   | exact⟨_,hq,fun K' h=>by simp only[nV];exact h⟩
   | exact⟨_,hq.2,fun K' h=>by simp only[nV];exact⟨hq.1,h⟩⟩
 ·split at hq
  ·rename_i hT
   split at hq <;> first
    | exact hq.elim
    | exact⟨_,hq,fun K' h=>by simp only[nV,hT];exact h⟩
  exact hq.elim
 ·split at hq
  ·rename_i hT
   split at hq
   ·exact hq.elim
   rename_i hn
   split at hq
   ·split at hq
    ·rename_i he
     exact⟨_,hq,fun K' h=>by simp only[nV,hT,hn,he];exact h⟩
    exact hq.elim
   ·split at hq
    ·rename_i he
     exact⟨_,hq,fun K' h=>by simp only[nV,hT,hn,he];exact h⟩
    exact hq.elim
   exact hq.elim
  exact hq.elim
 exact hq.elim
theorem oc {h h':Nat->AB} (H:Ext h h') {C:Ctx} {rho:Operand->AV} {t:TypeId} {x:Operand} {lo hi:Option Operand} {K:KK} (hq:fj C rho h t x lo hi K):∃v e n,K v e n/\∀K':KK,K' v e n->fj C rho h' t x lo hi K':=by
 simp only[fj] at hq
 split at hq
 ·rename_i h0
  split at hq
  ·rename_i h1
   split at hq
   ·rename_i h2 h3;exact⟨_,_,_,hq.2,fun K' h=>by simp only[fj,h0,h1,h2,h3];exact⟨hq.1,h⟩⟩
   exact hq.elim
  exact hq.elim
 ·rename_i h0
  split at hq
  ·exact hq.elim
  rename_i h1
  obtain⟨z,fz,hq,hK⟩:=gi H hq
  split at hq
  ·split at hq
   ·rename_i h2 h3
    refine⟨_,_,_,hq.2,fun K' h=>?_⟩
    simp only[fj,h0,h1]
    refine hK _ ?_
    simp only[h2,h3]
    exact⟨hq.1,h⟩
   exact hq.elim
  exact hq.elim
 exact hq.elim
theorem B0 {C:Ctx} {rho:Operand->AV} {t:TypeId} {lo hi:Option Operand} {id:Nat} {e':TypeId} {es:List (List PV)} {K:KK} (hq:oG C rho t lo hi id e' es K):∃v e n,K v e n/\∀K':KK,K' v e n->oG C rho t lo hi id e' es K':=by
 unfold oG at hq
 split at hq
 ·rename_i h0
  split at hq
  ·rename_i h1
   split at hq
   ·rename_i h2 h3;exact⟨_,_,_,hq.2,fun K' h=>by simp only[oG,h0,h1,h2,h3];exact⟨hq.1,h⟩⟩
   exact hq.elim
  exact hq.elim
 exact hq.elim
theorem m_ {C:Ctx} {o:Oper} {rho:Operand->AV} {h h':Nat->AB} (H:Ext h h') {K:KK} (hq:bY C o rho h K):∃v e n,K v e n/\∀K':KK,K' v e n->bY C o rho h' K':=by
 cases aZ:o.op <;> simp only[bY,aZ] at hq
 case move x=>exact⟨_,_,_,hq,fun K' h=>by simp only[bY,aZ];exact h⟩
 case assign x=>exact⟨_,_,_,hq,fun K' h=>by simp only[bY,aZ];exact h⟩
 case pick c a b=>
  split at hq
  ·rename_i h1
   split at hq
   ·exact⟨_,_,_,hq,fun K' h=>by simp only[bY,aZ,h1];exact h⟩
   exact⟨_,_,_,hq,fun K' h=>by simp only[bY,aZ,h1];exact h⟩
  exact hq.elim
 case alloc e=>
  split at hq
  ·rename_i h1
   split at hq
   ·rename_i h2
    exact⟨_,_,_,hq,fun K' h=>by simp only[bY,aZ,h1,h2];exact h⟩
   rename_i h2
   exact⟨_,_,_,hq,fun K' h=>by simp only[bY,aZ,h1,h2];exact h⟩
  exact hq.elim
 case box e x=>
  split at hq
  ·rename_i h1
   exact⟨_,_,_,hq,fun K' h=>by simp only[bY,aZ,h1];exact h⟩
  ·rename_i h1
   exact⟨_,_,_,hq,fun K' h=>by simp only[bY,aZ,h1];exact h⟩
  rename_i h1 oI
  split at hq
  ·rename_i h2
   have h3:=oQ H h2
   refine⟨_,_,_,hq,fun K' h=>?_⟩
   simp only[bY,aZ]
   cases Li:rho x with
   | p y=>
    cases y with
    | ag cs=>exact (h1 cs Li).elim
    | _=>rw[Li] at h3 h;simp only[h3];exact h
   | st xs=>exact (oI xs Li).elim
   | _=>rw[Li] at h3 h;simp only[h3];exact h
  exact hq.elim
 case binOp op t x y t'=>
  split at hq
  ·rename_i h1 h2
   obtain⟨v,h3,h4⟩:=w9 hq
   exact⟨_,_,_,h3,fun K' h=>by simp only[bY,aZ,h1,h2];exact h4 _ h⟩
  ·rename_i h1 h2
   obtain⟨v,h3,h4⟩:=w8 hq
   exact⟨_,_,_,h3,fun K' h=>by simp only[bY,aZ,h1,h2];exact h4 _ h⟩
  exact hq.elim
 case unOp op t x=>
  split at hq
  ·rename_i h1
   exact⟨_,_,_,hq,fun K' h=>by simp only[bY,aZ,h1];exact h⟩
  ·rename_i h1
   obtain⟨v,h3,h4⟩:=ku hq
   exact⟨_,_,_,h3,fun K' h=>by simp only[bY,aZ,h1];exact h4 _ h⟩
  exact hq.elim
 case convert src dst x=>
  split at hq
  ·rename_i h1 h2 h3
   obtain⟨v,h5,h4⟩:=ku hq
   exact⟨_,_,_,h5,fun K' h=>by simp only[bY,aZ,h1,h2,h3];exact h4 _ h⟩
  ·rename_i h1 h2 h3
   exact⟨_,_,_,hq,fun K' h=>by simp only[bY,aZ,h1,h2,h3];exact h⟩
  ·rename_i h1 h2 h3
   exact⟨_,_,_,hq,fun K' h=>by simp only[bY,aZ,h1,h2,h3];exact h⟩
  exact hq.elim
 case nilCheck x=>
  split at hq
  ·rename_i h1
   exact⟨_,_,_,hq,fun K' h=>by simp only[bY,aZ,h1];exact h⟩
  ·rename_i h1
   split at hq
   ·rename_i h2;exact⟨_,_,_,hq,fun K' h=>by simp only[bY,aZ,h1,H.box h2];exact h⟩
   ·rename_i h2;exact⟨_,_,_,hq,fun K' h=>by simp only[bY,aZ,h1,H.jK h2];exact h⟩
   exact hq.elim
  ·rename_i h1
   split at hq
   ·rename_i h2;exact⟨_,_,_,hq,fun K' h=>by simp only[bY,aZ,h1,H.row h2];exact h⟩
   ·rename_i h2;exact⟨_,_,_,hq,fun K' h=>by simp only[bY,aZ,h1,H.a7 h2];exact h⟩
   exact hq.elim
  exact hq.elim
 case extract x i=>
  split at hq
  ·rename_i h1
   split at hq
   ·rename_i h2;exact⟨_,_,_,hq,fun K' h=>by simp only[bY,aZ,h1,h2];exact h⟩
   exact hq.elim
  exact hq.elim
 case load t x=>
  split at hq
  ·exact hq.elim
  rename_i h0
  split at hq
  ·rename_i h1
   split at hq
   ·rename_i h2
    split at hq
    ·rename_i h3;exact⟨_,_,_,hq,fun K' h=>by simp only[bY,aZ,h0,h1,h2,h3];exact h⟩
    exact hq.elim
   rename_i h2
   split at hq
   ·exact⟨_,_,_,hq,fun K' h=>by simp only[bY,aZ,h0,h1,h2];exact h⟩
   exact hq.elim
  ·rename_i h1
   split at hq
   ·rename_i h2
    split at hq
    ·rename_i h3
     split at hq
     ·rename_i h4 h5;exact⟨_,_,_,hq,fun K' h=>by simp only[bY,aZ,h0,h1,H.box h2,h3,h4,h5];exact h⟩
     exact hq.elim
    rename_i h3
    split at hq
    ·rename_i h4;exact⟨_,_,_,hq,fun K' h=>by simp only[bY,aZ,h0,h1,H.box h2,h3,h4];exact h⟩
    exact hq.elim
   ·rename_i h2
    split at hq
    ·rename_i h3
     split at hq
     ·rename_i h4;exact⟨_,_,_,hq,fun K' h=>by simp only[bY,aZ,h0,h1,H.jK h2,h3,h4];exact h⟩
     exact hq.elim
    rename_i h3
    split at hq
    ·rename_i h4;exact⟨_,_,_,hq,fun K' h=>by simp only[bY,aZ,h0,h1,H.jK h2,h3,h4];exact h⟩
    exact hq.elim
   exact hq.elim
  ·rename_i h1
   split at hq
   ·rename_i h2
    obtain⟨r,hr,hq⟩:=hq
    split at hq
    ·rename_i h3
     split at hq
     ·rename_i h4;exact⟨_,_,_,hq,fun K' h=>by simp only[bY,aZ,h0,h1,H.row h2];refine⟨r,hr,?_⟩;simp only[h3,h4];exact h⟩
     exact hq.elim
    rename_i h3
    split at hq
    ·rename_i h4;exact⟨_,_,_,hq,fun K' h=>by simp only[bY,aZ,h0,h1,H.row h2];refine⟨r,hr,?_⟩;simp only[h3,h4];exact h⟩
    exact hq.elim
   ·rename_i h2
    obtain⟨r,hr,hq⟩:=hq
    split at hq
    ·exact hq.elim
    rename_i h3
    split at hq
    ·rename_i h4;exact⟨_,_,_,hq,fun K' h=>by simp only[bY,aZ,h0,h1,H.a7 h2];refine⟨r,hr,?_⟩;simp only[h3,h4];exact h⟩
    exact hq.elim
   exact hq.elim
  exact hq.elim
 case store t x y=>
  split at hq
  ·exact hq.elim
  rename_i h0
  split at hq
  ·rename_i h1
   split at hq
   ·rename_i h2
    split at hq
    ·rename_i h3
     obtain⟨z,fz,hq,hK⟩:=gi H hq
     split at hq
     ·split at hq
      ·rename_i h4
       refine⟨_,_,_,hq,fun K' h=>?_⟩
       simp only[bY,aZ,h0,h1,H.box h2,h3]
       refine hK _ ?_
       simp only[h4]
       exact h
      exact hq.elim
     exact hq.elim
    rename_i h3
    split at hq
    ·rename_i h4
     simp only[Bool.and_eq_true] at h4
     have h5:=oQ H h4.2
     refine⟨_,_,_,hq,fun K' h=>?_⟩
     simp only[bY,aZ,h0,h1,H.box h2,h3,h4.1.1,h4.1.2,h5,Bool.and_self]
     exact h
    exact hq.elim
   exact hq.elim
  ·rename_i h1
   split at hq
   ·rename_i h2
    obtain⟨r,hr,hq⟩:=hq
    obtain⟨z,fz,hq,hK⟩:=gi H hq
    split at hq
    ·rename_i h3
     split at hq
     ·rename_i h4
      refine⟨_,_,_,hq,fun K' h=>?_⟩
      simp only[bY,aZ,h0,h1,H.row h2]
      refine⟨r,hr,hK _ ?_⟩
      simp only[h3,h4]
      exact h
     exact hq.elim
    exact hq.elim
   ·rename_i h2
    obtain⟨r,hr,hq⟩:=hq
    split at hq
    ·exact hq.elim
    rename_i h3
    split at hq
    ·rename_i h4
     simp only[Bool.and_eq_true] at h4
     have h5:=oQ H h4.2
     refine⟨_,_,_,hq,fun K' h=>?_⟩
     simp only[bY,aZ,h0,h1,H.a7 h2]
     refine⟨r,hr,?_⟩
     simp only[h3,h4.1.1,h4.1.2,h5,Bool.and_self]
     exact h
    exact hq.elim
   exact hq.elim
  exact hq.elim
 case fieldAddr t x f=>
  split at hq
  ·rename_i h0
   split at hq
   ·rename_i h1
    split at hq
    ·rename_i h2;exact⟨_,_,_,hq,fun K' h=>by simp only[bY,aZ,h0,h1,h2];exact h⟩
    ·rename_i id o' h2
     split at hq
     ·exact hq.elim
     rename_i dh
     refine⟨_,_,_,hq,fun K' h=>?_⟩
     simp only[bY,aZ,h0,h1,h2]
     rcases H id with h4 | h4
     ·exact absurd h4 (by simpa using dh)
     rw[h4]
     split
     ·rename_i h5;exact absurd h5 (by simpa using dh)
     exact h
    ·rename_i h2
     split at hq
     ·rename_i h3;exact⟨_,_,_,hq,fun K' h=>by simp only[bY,aZ,h0,h1,h2,H.row h3];exact h⟩
     ·rename_i h3;exact⟨_,_,_,hq,fun K' h=>by simp only[bY,aZ,h0,h1,h2,H.a7 h3];exact h⟩
     exact hq.elim
    exact hq.elim
   exact hq.elim
  exact hq.elim
 case field t x f=>
  split at hq
  ·rename_i h0 Hy
   split at hq
   ·rename_i h1
    split at hq
    ·split at hq
     ·rename_i h3;exact⟨_,_,_,hq,fun K' h=>by simp only[bY,aZ,h0,Hy,h1,h3];exact h⟩
     exact hq.elim
    split at hq
    ·rename_i h3;exact⟨_,_,_,hq,fun K' h=>by simp only[bY,aZ,h0,Hy,h1,h3];exact h⟩
    exact hq.elim
   exact hq.elim
  exact hq.elim
 case indexAddr t x ix=>
  split at hq
  ·rename_i h0 Hy
   split at hq
   ·exact hq.elim
   rename_i h1
   split at hq
   ·rename_i h2
    obtain⟨r,hr,hq⟩:=hq
    split at hq
    ·rename_i h3;exact⟨_,_,_,hq,fun K' h=>by simp only[bY,aZ,h0,Hy,h1,h2];refine⟨r,hr,?_⟩;simp only[h3];exact h⟩
    exact hq.elim
   ·rename_i h2
    split at hq
    ·rename_i h3
     split at hq
     ·rename_i h4;exact⟨_,_,_,hq.2,fun K' h=>by simp only[bY,aZ,h0,Hy,h1,h2,H.row h3,h4];exact⟨hq.1,h⟩⟩
     exact hq.elim
    ·rename_i h3
     split at hq
     ·rename_i h4;exact⟨_,_,_,hq.2,fun K' h=>by simp only[bY,aZ,h0,Hy,h1,h2,H.a7 h3,h4];exact⟨hq.1,h⟩⟩
     exact hq.elim
    ·rename_i h3
     obtain⟨r,hr,hq⟩:=hq
     split at hq
     ·rename_i h4;exact⟨_,_,_,hq,fun K' h=>by simp only[bY,aZ,h0,Hy,h1,h2,H.hM h3];refine⟨r,hr,?_⟩;simp only[h4];exact h⟩
     exact hq.elim
    exact hq.elim
   exact hq.elim
  exact hq.elim
 case index t x ix=>
  split at hq
  ·rename_i h0 h1 h2
   obtain⟨b,hb,hq⟩:=hq
   exact⟨_,_,_,hq,fun K' h=>by simp only[bY,aZ,h0,h1,h2];exact⟨b,hb,h⟩⟩
  exact hq.elim
 case slice t x lo hi mx=>
  cases mx with
  | some m=>exact hq.elim
  | none=>
   simp only at hq
   split at hq
   ·rename_i id hid
    split at hq
    ·rename_i e' es hr
     rcases hq with hq | hq
     ·obtain⟨v,e,n,hq,hK⟩:=B0 hq
      exact⟨v,e,n,hq,fun K' h=>by simp only[bY,aZ,hid,H.row hr];exact .inl (hK _ h)⟩
     obtain⟨v,e,n,hq,hK⟩:=oc H hq
     exact⟨v,e,n,hq,fun K' h=>by simp only[bY,aZ,hid,H.row hr];exact .inr (hK _ h)⟩
    rename_i dh
    obtain⟨v,e,n,hq,hK⟩:=oc H hq
    refine⟨v,e,n,hq,fun K' h=>?_⟩
    simp only[bY,aZ,hid]
    split
    ·exact .inr (hK _ h)
    exact hK _ h
   rename_i dh
   obtain⟨v,e,n,hq,hK⟩:=oc H hq
   refine⟨v,e,n,hq,fun K' h=>?_⟩
   simp only[bY,aZ]
   first
    | exact hK _ h
    | (
      split
      ·rename_i id hid;exact absurd hid (dh id)
      exact hK _ h)
 case makeMap t r=>
  cases r with
  | some _=>exact hq.elim
  | none=>
   simp only at hq
   split at hq
   ·rename_i h0
    split at hq
    ·rename_i h1
     split at hq
     ·rename_i h2;exact⟨_,_,_,hq,fun K' h=>by simp only[bY,aZ,h0,h1,h2];exact h⟩
     exact hq.elim
    exact hq.elim
   exact hq.elim
 case lookup t x i ck=>
  split at hq
  case h_2=>exact hq.elim
  rename_i h0
  split at hq
  case h_2=>exact hq.elim
  rename_i h1 h2
  split at hq
  case h_2=>exact hq.elim
  rename_i h3
  split at hq
  case h_2=>exact hq.elim
  rename_i h4
  split at hq
  case h_2=>exact hq.elim
  rename_i h5
  split at hq
  case h_2=>exact hq.elim
  rename_i h6
  split at hq
  case h_2=>exact hq.elim
  rename_i h7
  obtain⟨r,hr,hq⟩:=hq
  cases ck with
  | true=>exact⟨_,_,_,hq,fun K' h=>by simp only[bY,aZ,h0,h1,h2,h3,h4,H.map h5,h6,h7];exact⟨r,hr,h⟩⟩
  | false=>exact⟨_,_,_,hq,fun K' h=>by simp only[bY,aZ,h0,h1,h2,h3,h4,H.map h5,h6,h7];exact⟨r,hr,h⟩⟩
 case mapUpdate t x i y=>
  split at hq
  case h_2=>exact hq.elim
  rename_i h0
  split at hq
  case h_2=>exact hq.elim
  rename_i h1
  split at hq
  case h_2=>exact hq.elim
  rename_i h3
  split at hq
  case h_2=>exact hq.elim
  rename_i h4
  split at hq
  case h_2=>exact hq.elim
  rename_i h5
  split at hq
  case h_2=>exact hq.elim
  rename_i h6
  split at hq
  case h_2=>exact hq.elim
  rename_i h7
  obtain⟨z,fz,hq,hK⟩:=gi H hq
  split at hq
  case h_2=>exact hq.elim
  rename_i h8
  refine⟨_,_,_,hq,fun K' h=>?_⟩
  simp only[bY,aZ,h0,h1,h3,h4,H.map h5,h6,h7]
  refine hK _ ?_
  simp only[h8]
  exact h
 case build t ps=>
  split at hq
  ·rename_i h0
   split at hq
   ·rename_i h1
    obtain⟨z,fz,hq,hK⟩:=BU H hq
    exact⟨_,_,_,hq,fun K' h=>by simp only[bY,aZ,h0,h1];exact hK _ h⟩
   rename_i h1
   obtain⟨z,hq,hK⟩:=uN H hq
   exact⟨_,_,_,hq,fun K' h=>by simp only[bY,aZ,h0,h1];exact hK _ h⟩
  exact hq.elim
 case buildSlice t len ps=>
  split at hq
  ·rename_i h0
   split at hq
   ·rename_i h1
    split at hq
    ·rename_i h2
     split at hq
     ·rename_i h3
      obtain⟨z,fz,hq,hK⟩:=se H hq
      exact⟨_,_,_,hq,fun K' h=>by simp only[bY,aZ,h0,h1,h2,h3];exact hK _ h⟩
     rename_i h3
     obtain⟨z,fz,hq,hK⟩:=se H hq
     exact⟨_,_,_,hq,fun K' h=>by simp only[bY,aZ,h0,h1,h2,h3];exact hK _ h⟩
    exact hq.elim
   exact hq.elim
  exact hq.elim
 case makeSlice t n c=>
  split at hq
  ·rename_i h0 h1 h2
   split at hq
   ·rename_i h3
    split at hq
    ·rename_i h4;exact⟨_,_,_,hq.2,fun K' h=>by simp only[bY,aZ,h0,h1,h2,h3,h4];exact⟨hq.1,h⟩⟩
    exact hq.elim
   exact hq.elim
  exact hq.elim
 case makeFunc fn first cap=>
  cases fn with
  | func f=>
   simp only at hq
   split at hq
   ·rename_i h1;exact⟨_,_,_,hq,fun K' h=>by simp only[bY,aZ,h1];exact h⟩
   exact hq.elim
  | _=>exact hq.elim
 case call c=>
  split at hq
  ·rename_i h0
   split at hq
   ·rename_i h1 h2
    split at hq
    ·rename_i h3
     split at hq
     ·rename_i h4;exact⟨_,_,_,hq,fun K' h=>by simp only[bY,aZ,h0,h1,h2,h3,h4];exact h⟩
     exact hq.elim
    ·rename_i h3
     split at hq
     ·rename_i m hm
      exact⟨_,_,_,hq,fun K' h=>by simp only[bY,aZ,h0,h1,h2,h3,BR H hm];exact h⟩
     have hn:=BS H hq
     obtain⟨es,hq,hK⟩:=sd H hq
     exact⟨_,_,_,hq,fun K' h=>by simp only[bY,aZ,h0,h1,h2,h3,hn];exact hK _ h⟩
    ·rename_i h3
     split at hq
     ·rename_i h4
      split at hq
      ·rename_i h5;exact⟨_,_,_,hq,fun K' h=>by simp only[bY,aZ,h0,h1,h2,h3,h4,H.map h5];exact h⟩
      exact hq.elim
     exact hq.elim
    exact hq.elim
   exact hq.elim
  ·rename_i h0
   split at hq
   case h_2=>exact hq.elim
   rename_i h1 h2
   split at hq
   case h_2=>exact hq.elim
   rename_i h3
   split at hq
   case h_2=>exact hq.elim
   rename_i h4
   split at hq
   case h_2=>exact hq.elim
   rename_i h5
   split at hq
   case h_2=>exact hq.elim
   rename_i h6
   split at hq
   case h_2=>exact hq.elim
   rename_i h7
   exact⟨_,_,_,hq.2,fun K' h=>by simp only[bY,aZ,h0,h1,h2,h3,h4,h5,H.row h6,h7];exact⟨hq.1,h⟩⟩
  ·rename_i h0
   split at hq
   ·rename_i h1
    split at hq
    ·rename_i h2 h3;exact⟨_,_,_,hq,fun K' h=>by simp only[bY,aZ,h0,h1,h2,h3];exact h⟩
    exact hq.elim
   exact hq.elim
  ·rename_i h0
   split at hq
   ·rename_i h1
    split at hq
    ·rename_i h2 h3;exact⟨_,_,_,hq,fun K' h=>by simp only[bY,aZ,h0,h1,h2,h3];exact h⟩
    exact hq.elim
   ·rename_i h1
    split at hq
    ·rename_i h2 h3 h4;exact⟨_,_,_,hq,fun K' h=>by simp only[bY,aZ,h0,h1,h2,h3,h4];exact h⟩
    exact hq.elim
   ·rename_i h1
    split at hq
    ·rename_i h2 h3 h4 h5 h6;exact⟨_,_,_,hq,fun K' h=>by simp only[bY,aZ,h0,h1,h2,h3,h4,h5,h6];exact h⟩
    exact hq.elim
   exact hq.elim
  ·rename_i h0
   split at hq
   ·rename_i h1 h2
    split at hq
    ·rename_i h3 h4
     split at hq
     ·rename_i h5
      split at hq
      ·rename_i h6
       obtain⟨es,hq,hK⟩:=sd H hq
       split at hq
       ·rename_i h7
        refine⟨_,_,_,hq.2,fun K' h=>?_⟩
        simp only[bY,aZ,h0,h1,h2,h3,h4,h5,h6]
        refine hK _ ?_
        simp only[h7]
        exact⟨hq.1,h⟩
       ·rename_i h7
        split at hq
        ·rename_i h8
         split at hq
         ·rename_i h9
          refine⟨_,_,_,hq.2,fun K' h=>?_⟩
          simp only[bY,aZ,h0,h1,h2,h3,h4,h5,h6]
          refine hK _ ?_
          simp only[h7,H.row h8,h9]
          exact⟨hq.1,h⟩
         exact hq.elim
        ·rename_i h8
         split at hq
         ·rename_i h9
          refine⟨_,_,_,hq.2,fun K' h=>?_⟩
          simp only[bY,aZ,h0,h1,h2,h3,h4,h5,h6]
          refine hK _ ?_
          simp only[h7,H.a7 h8,h9]
          exact⟨hq.1,h⟩
         exact hq.elim
        exact hq.elim
       exact hq.elim
      exact hq.elim
     exact hq.elim
    exact hq.elim
   exact hq.elim
  ·rename_i h0
   split at hq
   ·rename_i h1
    split at hq
    ·rename_i h2
     obtain⟨v,e,n,hq,hK⟩:=BY H hq
     exact⟨_,_,_,hq,fun K' h=>by simp only[bY,aZ,h0,h1,h2];exact hK _ h⟩
    rename_i h2
    obtain⟨v,e,n,hq,hK⟩:=BZ H hq
    exact⟨_,_,_,hq,fun K' h=>by simp only[bY,aZ,h0,h1,h2];exact hK _ h⟩
   exact hq.elim
  exact hq.elim
 all_goals exact hq.elim
theorem Di (A:dc) (o:Oper):gx A o:=by
 cases aZ:o.op
 case move x=>exact EX x aZ
 case assign x=>exact Bz x aZ
 case pick c x y=>exact EY c x y aZ
 case alloc e=>exact CV e aZ
 case box e x=>exact Hg e x aZ
 case build t ps=>exact C4 t ps aZ
 case buildSlice t n ps=>exact tO t n ps aZ
 case load t x=>exact E2 t x aZ
 case store t x y=>exact CY t x y aZ
 case nilCheck x=>exact wZ x aZ
 case binOp op t x y t'=>exact CN op t x y t' aZ
 case unOp op t x=>exact E1 op t x aZ
 case convert s d x=>exact yL s d x aZ
 case makeFunc fn first cap=>
  cases fn with
  | func f=>exact w2 f first cap aZ
  | _=>intro V L S rho s a w K next Q hC sim hV hd hq;simp only[bY,aZ] at hq
 case makeSlice t n c=>exact vl t n c aZ
 case makeMap t r=>
  cases r with
  | none=>exact yY t aZ
  | some r=>intro V L S rho s a w K next Q hC sim hV hd hq;simp only[bY,aZ] at hq
 case lookup t x i ck=>exact BM t x i ck aZ
 case mapUpdate t x i y=>exact vo t x i y aZ
 case slice t x lo hi mx=>
  cases mx with
  | none=>exact ok_slice t x lo hi aZ
  | some m=>intro V L S rho s a w K next Q hC sim hV hd hq;simp only[bY,aZ] at hq
 case fieldAddr t x f=>exact vg t x f aZ
 case field t x f=>exact CQ t x f aZ
 case indexAddr t x ix=>exact vh t x ix aZ
 case index t x ix=>exact CR t x ix aZ
 case extract x i=>exact yJ x i aZ
 case call c=>
  cases hc:c.callee with
  | value g=>exact Fo c g aZ hc
  | invoke r m=>intro V L S rho s a w K next Q hC sim hV hd hq;simp only[bY,aZ,hc,eh,eN] at hq
  | builtin b=>
   cases b
   case len=>exact Hl c aZ hc
   case min=>exact Hm c aZ hc
   case max=>exact Ho c aZ hc
   case append=>exact BI c aZ hc
   case clear=>exact Db c aZ hc
   all_goals (intro V L S rho s a w K next Q hC sim hV hd hq;simp only[bY,aZ,hc,eh,eN] at hq)
 all_goals (intro V L S rho s a w K next Q hC sim hV hd hq;simp only[bY,aZ] at hq)
end Go.AM
namespace Go.AM
open Go.RowKit
def cK (a b:Nat):Bool:=Nat.beq a b
theorem bH {a b:Nat}:cK a b=true↔a=b:=by unfold cK;exact⟨Nat.eq_of_beq_eq_true,fun h=>by subst h;simp⟩
mutual
def nL (d:Nat):AV->Bool
 | .ow i=>cK i d
 | .rp i _ _=>cK i d
 | .bx i _=>cK i d
 | .vw i _ _=>cK i d
 | .fn _ cap=>fE d cap
 | .tu xs=>fE d xs
 | .st xs=>fE d xs
 | _=>false
def fE (d:Nat):List AV->Bool
 | []=>false
 | x::r=>nL d x || fE d r
end
def rn (i d:Nat):AV->AV
 | .ow k=>match cK k i with
  | true=>.ow d
  | false=>match cK k d with
   | true=>.junk
   | false=>.ow k
 | .rp k a b=>match cK k i with
  | true=>.rp d a b
  | false=>match cK k d with
   | true=>.junk
   | false=>.rp k a b
 | .bx k a=>match cK k i with
  | true=>.bx d a
  | false=>match cK k d with
   | true=>.junk
   | false=>.bx k a
 | .vw k a b=>match cK k i with
  | true=>.vw d a b
  | false=>match cK k d with
   | true=>.junk
   | false=>.vw k a b
 | .fn f cap=>match fE i cap || fE d cap with
  | true=>.junk
  | false=>.fn f cap
 | .tu xs=>match fE i xs || fE d xs with
  | true=>.junk
  | false=>.tu xs
 | .st xs=>match fE i xs || fE d xs with
  | true=>.junk
  | false=>.st xs
 | x=>x
def HX.lL (f:AV->AV):HX->HX
 | .av x=>.av (f x)
 | .row e es=>.row e es
def Dj (i d:Nat):AB->AB
 | .a7 e es=>.a7 e (es.map fun r=>r.map (HX.lL (rn i d)))
 | .box cs=>.box (cs.map (rn i d))
 | .gJ ty cs=>.gJ ty (cs.map (rn i d))
 | b=>b
def jH (i d:Nat) (s:AS):AS:=⟨fun j=>rn i d (s.t j),fun j=>match cK j d with
 | true=>Dj i d (s.h i)
 | false=>match cK j i with
  | true=>.none
  | false=>Dj i d (s.h j)⟩
def sc (d:Nat):AV->AV
 | .p x=>.p x
 | .nl=>.nl
 | .ow i=>match cK i d with
  | true=>.junk
  | false=>.ow i
 | .rp i a b=>match cK i d with
  | true=>.junk
  | false=>.rp i a b
 | .bx i a=>match cK i d with
  | true=>.junk
  | false=>.bx i a
 | .vw i a b=>match cK i d with
  | true=>.junk
  | false=>.vw i a b
 | .fn f cap=>match fE d cap with
  | true=>.junk
  | false=>.fn f cap
 | .tu xs=>match fE d xs with
  | true=>.junk
  | false=>.tu xs
 | .st xs=>match fE d xs with
  | true=>.junk
  | false=>.st xs
 | .junk=>.junk
theorem Dk (d:Nat) (x:AV):sc d x=match nL d x with
  | true=>.junk
  | false=>x:=by cases x <;> rfl
def uO (d:Nat):AB->AB
 | .a7 e es=>.a7 e (es.map fun r=>r.map (HX.lL (sc d)))
 | .box cs=>.box (cs.map (sc d))
 | .gJ ty cs=>.gJ ty (cs.map (sc d))
 | b=>b
def hI (d:Nat) (s:AS):AS:=⟨fun j=>sc d (s.t j),bI (fun k=>uO d (s.h k)) d .none⟩
def di:Nat->Prop:=fun _=>True
theorem pJ (i d:Nat) (b:AB):(Dj i d b).there↔b.there:=by cases b <;> rfl
theorem w_ (i d:Nat) (b:AB):(Dj i d b).live↔b.live:=by cases b <;> rfl
structure xa (L L':Nat->Prop) (rho rho':Nat->Value) (h h':Nat->AB) (i d:Nat):Prop where
 old:∀k,k≠i->k≠d->((h' k).there->(h k).there)/\(L k->L' k)/\rho' k=rho k/\(∀e,(h' k).kN=some e->(h k).kN=some e)
 new:i≠d->((h' d).there->(h i).there)/\(L i->L' d)/\rho' d=rho i/\(∀e,(h' d).kN=some e->(h i).kN=some e)
theorem cU {d:Nat}:∀{xs:List AV},fE d xs=false->∀x∈xs,nL d x=false:=by
 intro xs
 induction xs with
 | nil=>intro _ x hx;cases hx
 | cons y xs ih=>
  intro h x hx
  simp only[fE,Bool.or_eq_false_iff] at h
  rcases List.mem_cons.1 hx with e | e
  ·rw[e];exact h.1
  exact ih h.2 x e
theorem bK.mf {S:Nat->Prop} {w:World} {P:Program} {L L':Nat->Prop} {rho rho':Nat->Value} {h h':Nat->AB} {i d:Nat} (T:xa L L' rho rho' h h' i d) {x:AV} {v:Value} (hx:bK S w P L rho h x v) (h1:nL i x=false) (h2:nL d x=false):bK S w P L' rho' h' x v:=by
 induction hx with
 | p x v hx=>exact .p x v hx
 | nl=>exact .nl
 | ow k v hv=>
  have e1:k≠i:=fun e=>by rw[nL,bH.2 e] at h1;cases h1
  have e2:k≠d:=fun e=>by rw[nL,bH.2 e] at h2;cases h2
  obtain⟨t1,t2,t3,t4⟩:=T.old k e1 e2
  exact .ow k v fun ht=>⟨t2 (hv (t1 ht)).1,by rw[t3];exact (hv (t1 ht)).2⟩
 | rp k a b v hv=>
  have e1:k≠i:=fun e=>by rw[nL,bH.2 e] at h1;cases h1
  have e2:k≠d:=fun e=>by rw[nL,bH.2 e] at h2;cases h2
  obtain⟨t1,t2,t3,t4⟩:=T.old k e1 e2
  exact .rp k a b v fun e he=>by obtain⟨q1,q2⟩:=hv e (t4 e he);exact⟨t2 q1,by rw[t3];exact q2⟩
 | bx k a v hv=>
  have e1:k≠i:=fun e=>by rw[nL,bH.2 e] at h1;cases h1
  have e2:k≠d:=fun e=>by rw[nL,bH.2 e] at h2;cases h2
  obtain⟨t1,t2,t3,t4⟩:=T.old k e1 e2
  exact .bx k a v fun ht=>⟨t2 (hv (t1 ht)).1,by rw[t3];exact (hv (t1 ht)).2⟩
 | vw k a b v hv=>
  have e1:k≠i:=fun e=>by rw[nL,bH.2 e] at h1;cases h1
  have e2:k≠d:=fun e=>by rw[nL,bH.2 e] at h2;cases h2
  obtain⟨t1,t2,t3,t4⟩:=T.old k e1 e2
  exact .vw k a b v fun e he=>by obtain⟨q1,q2⟩:=hv e (t4 e he);exact⟨t2 q1,by rw[t3];exact q2⟩
 | fn f cap vs hl hc ih=>exact .fn f cap vs hl fun j c u hj hu=>ih j c u hj hu (cU h1 c (List.mem_of_getElem? hj)) (cU h2 c (List.mem_of_getElem? hj))
 | tu xs vs hl hc ih=>exact .tu xs vs hl fun j c u hj hu=>ih j c u hj hu (cU h1 c (List.mem_of_getElem? hj)) (cU h2 c (List.mem_of_getElem? hj))
 | st xs vs hl h0 hc ih=>exact .st xs vs hl h0 fun j c u hj hu=>ih j c u hj hu (cU h1 c (List.mem_of_getElem? hj)) (cU h2 c (List.mem_of_getElem? hj))
 | junk v=>exact .junk v
theorem bK.rn {S:Nat->Prop} {w:World} {P:Program} {L L':Nat->Prop} {rho rho':Nat->Value} {h h':Nat->AB} {i d:Nat} (T:xa L L' rho rho' h h' i d) (hid:i≠d\/∀k,k=d->¬(h' k).there ) {x:AV} {v:Value} (hx:bK S w P L rho h x v):bK S w P L' rho' h' (rn i d x) v:=by
 have dead:i=d->¬(h' d).there:=fun e=>hid.resolve_left (fun h=>h e) d rfl
 cases hx with
 | p x v hx=>exact .p x v hx
 | nl=>exact .nl
 | ow k v hv=>
  unfold AM.rn
  simp only
  split
  ·rename_i hk
   have hk:=bH.1 hk
   subst hk
   refine .ow d v fun ht=>?_
   by_cases e:k=d
   ·exact absurd ht (dead e)
   obtain⟨t1,t2,t3,t4⟩:=T.new e
   exact⟨t2 (hv (t1 ht)).1,by rw[t3];exact (hv (t1 ht)).2⟩
  rename_i hk
  split
  ·exact .junk v
  rename_i lZ
  exact bK.mf T (.ow k v hv) (by simpa [nL] using hk) (by simpa [nL] using lZ)
 | rp k a b v hv=>
  unfold AM.rn
  simp only
  split
  ·rename_i hk
   have hk:=bH.1 hk
   subst hk
   refine .rp d a b v fun e he=>?_
   by_cases e':k=d
   ·exact absurd (kQ he) (dead e')
   obtain⟨t1,t2,t3,t4⟩:=T.new e'
   obtain⟨q1,q2⟩:=hv e (t4 e he)
   exact⟨t2 q1,by rw[t3];exact q2⟩
  rename_i hk
  split
  ·exact .junk v
  rename_i lZ
  exact bK.mf T (.rp k a b v hv) (by simpa [nL] using hk) (by simpa [nL] using lZ)
 | vw k a b v hv=>
  unfold AM.rn
  simp only
  split
  ·rename_i hk
   have hk:=bH.1 hk
   subst hk
   refine .vw d a b v fun e he=>?_
   by_cases e':k=d
   ·exact absurd (kQ he) (dead e')
   obtain⟨t1,t2,t3,t4⟩:=T.new e'
   obtain⟨q1,q2⟩:=hv e (t4 e he)
   exact⟨t2 q1,by rw[t3];exact q2⟩
  rename_i hk
  split
  ·exact .junk v
  rename_i lZ
  exact bK.mf T (.vw k a b v hv) (by simpa [nL] using hk) (by simpa [nL] using lZ)
 | bx k a v hv=>
  unfold AM.rn
  simp only
  split
  ·rename_i hk
   have hk:=bH.1 hk
   subst hk
   refine .bx d a v fun ht=>?_
   by_cases e:k=d
   ·exact absurd ht (dead e)
   obtain⟨t1,t2,t3,t4⟩:=T.new e
   exact⟨t2 (hv (t1 ht)).1,by rw[t3];exact (hv (t1 ht)).2⟩
  rename_i hk
  split
  ·exact .junk v
  rename_i lZ
  exact bK.mf T (.bx k a v hv) (by simpa [nL] using hk) (by simpa [nL] using lZ)
 | fn f cap vs hl hc=>
  unfold AM.rn
  simp only
  split
  ·exact .junk _
  rename_i hm
  simp only[Bool.or_eq_false_iff] at hm
  exact .fn f cap vs hl fun j c u hj hu=>(hc j c u hj hu).mf T (cU hm.1 c (List.mem_of_getElem? hj)) (cU hm.2 c (List.mem_of_getElem? hj))
 | tu xs vs hl hc=>
  unfold AM.rn
  simp only
  split
  ·exact .junk _
  rename_i hm
  simp only[Bool.or_eq_false_iff] at hm
  exact .tu xs vs hl fun j c u hj hu=>(hc j c u hj hu).mf T (cU hm.1 c (List.mem_of_getElem? hj)) (cU hm.2 c (List.mem_of_getElem? hj))
 | st xs vs hl h0 hc=>
  unfold AM.rn
  simp only
  split
  ·exact .junk _
  rename_i hm
  simp only[Bool.or_eq_false_iff] at hm
  exact .st xs vs hl h0 fun j c u hj hu=>(hc j c u hj hu).mf T (cU hm.1 c (List.mem_of_getElem? hj)) (cU hm.2 c (List.mem_of_getElem? hj))
 | junk v=>exact .junk v
theorem kV {w:World} {f:AV->AV} {es:List (List HX)} {g a j:Nat} {u:Value}:gd w (es.map fun r=>r.map (HX.lL f)) g a j u↔gd w es g a j u:=by
 constructor
 ·rintro⟨r,e,xs,c,ty,m,h1,h2,h3,h4⟩
  rw[List.getElem?_map] at h1
  obtain⟨q,hq,rfl⟩:=Option.map_eq_some_iff.1 h1
  rw[List.getElem?_map] at h2
  obtain⟨z,hz,Om⟩:=Option.map_eq_some_iff.1 h2
  rw[List.length_map] at h4
  cases z with
  | av x=>cases Om
  | row e' nX=>exact⟨q,e',nX,c,ty,m,hq,hz,h3,h4⟩
 rintro⟨r,e,xs,c,ty,m,h1,h2,h3,h4⟩
 exact⟨r.map (HX.lL f),e,xs,c,ty,m,by rw[List.getElem?_map,h1];rfl,by rw[List.getElem?_map,h2];rfl,h3,by rw[List.length_map];exact h4⟩
theorem qY.map {w:World} {f:AV->AV} {es:List (List HX)} {v:Value} (h:qY w es v):qY w (es.map fun r=>r.map (HX.lL f)) v:=
 ⟨fun g a j u b h1 h2 h3=>h.top g a j u b h1 (kV.1 h2) h3,fun g a j a' j' u u' b h1 h2 h3 h4 h5=>h.dis g a j a' j' u u' b h1 (kV.1 h2) (kV.1 h3) h4 h5⟩
theorem a_.map {P:Program} {w:World} {R R':HX->Value->Prop} {f:AV->AV} {e:TypeId} {es:List (List HX)} {v:Value} (h:a_ P w R e es v) (hR:∀x u,R x u->R' (HX.lL f x) u):a_ P w R' e (es.map fun r=>r.map (HX.lL f)) v:=by
 obtain⟨i,xs,h1,h2,h3,h4,h5,h6⟩:=h
 refine⟨i,xs,h1,h2,by rw[List.length_map];exact h3,fun r hr=>?_,h5,fun a r j x ha hj=>?_⟩
 ·obtain⟨q,hq,rfl⟩:=List.mem_map.1 hr
  rw[List.length_map];exact h4 q hq
 rw[List.getElem?_map] at ha
 obtain⟨q,hq,rfl⟩:=Option.map_eq_some_iff.1 ha
 rw[List.getElem?_map] at hj
 obtain⟨z,hz,rfl⟩:=Option.map_eq_some_iff.1 hj
 obtain⟨u,hu,hr⟩:=h6 a q j z hq hz
 exact⟨u,hu,hR _ _ hr⟩
theorem sf {w:World} {e:TypeId} {es:List (List HX)} {v:Value} {k:Nat}:hasB w (.a7 e es) v k↔cW v=some k\/∃g a j u,cW v=some g/\gd w es g a j u/\cW u=some k:=by
 constructor
 ·rintro (h | ⟨cs,g,h,_⟩ | ⟨e',dw,g,a,j,u,h,h1,h2,h3⟩)
  ·exact .inl h
  ·cases h
  injection h with h4 h5
  subst h4 h5
  exact .inr ⟨g,a,j,u,h1,h2,h3⟩
 rintro (h | ⟨g,a,j,u,h1,h2,h3⟩)
 ·exact .inl h
 exact .inr (.inr ⟨_,_,_,_,_,_,rfl,h1,h2,h3⟩)
theorem uP {w:World} {f:AV->AV} {e:TypeId} {es:List (List HX)} {v:Value} {k:Nat}:hasB w (.a7 e (es.map fun r=>r.map (HX.lL f))) v k↔hasB w (.a7 e es) v k:=by
 rw[sf,sf]
 simp only[kV]
theorem AP {w:World} (i d:Nat) (b:AB) (v:Value) (g:Nat):hasB w (Dj i d b) v g↔hasB w b v g:=by
 cases b with
 | a7 e es=>exact uP
 | box cs=>exact⟨fun h=>.inl (aY rfl h),fun h=>.inl (aY rfl h)⟩
 | gJ ty cs=>exact⟨fun h=>.inl (aY rfl h),fun h=>.inl (aY rfl h)⟩
 | _=>exact Iff.rfl
theorem cm.rename {A:dc} {S:Nat->Prop} {rho:Nat->Value} {s:AS} {a:Act} {w:World} (sim:cm A di di S rho s a w) (i d:Nat) (hid:i≠d) (hdb:d < 100000):cm A di di S (fun j=>if j=d then rho i else rho j) (jH i d s) a w:=by
 have hd:(jH i d s).h d=Dj i d (s.h i):=by simp[jH,cK]
 have hi:(jH i d s).h i=.none:=by
  have:cK i d=false:=by rw[Bool.eq_false_iff];intro e;exact hid (bH.1 e)
  simp only[jH,this,bH.2 rfl]
 have ho:∀k,k≠i->k≠d->(jH i d s).h k=Dj i d (s.h k):=fun k h1 h2=>by
  have e1:cK k d=false:=by rw[Bool.eq_false_iff];intro e;exact h2 (bH.1 e)
  have e2:cK k i=false:=by rw[Bool.eq_false_iff];intro e;exact h1 (bH.1 e)
  simp[jH,e1,e2]
 have row:∀b e,(Dj i d b).kN=some e->b.kN=some e:=fun b e h=>by cases b <;> exact h
 have T:xa di di rho (fun j=>if j=d then rho i else rho j) s.h (jH i d s).h i d:=
  ⟨fun k h1 h2=>by rw[ho k h1 h2];exact⟨(pJ _ _ _).1,fun h=>h,if_neg h2,row _⟩,fun _=>by rw[hd];exact⟨(pJ _ _ _).1,fun h=>h,if_pos rfl,row _⟩⟩
 have Ml:∀k,((jH i d s).h k).live->∃k',(s.h k').live/\(if k=d then rho i else rho k)=rho k'/\(k'=if k=d then i else k)/\∀v g,hasB w ((jH i d s).h k) v g↔hasB w (s.h k') v g:=by
  intro k hl
  by_cases e:k=d
  ·subst e
   rw[hd,w_] at hl
   exact⟨i,hl,if_pos rfl,(if_pos rfl).symm,fun v g=>by rw[hd,AP]⟩
  by_cases e':k=i
  ·subst e';rw[hi] at hl;exact hl.elim
  rw[ho k e' e,w_] at hl
  exact⟨k,hl,if_neg e,(if_neg e).symm,fun v g=>by rw[ho k e' e,AP]⟩
 have hrep:∀k b,fa S w A.C.P di rho s.h k b->∀k',(if k'=d then rho i else rho k')=rho k->fa S w A.C.P di (fun j=>if j=d then rho i else rho j) (jH i d s).h k' (Dj i d b):=by
  intro k b hb k' hk
  cases b with
  | none=>trivial
  | row e es=>show a_ _ _ _ _ _ (if k'=d then rho i else rho k');rw[hk];exact hb
  | hM es=>show bu _ _ _ (if k'=d then rho i else rho k');rw[hk];exact hb
  | jK es=>show bu _ _ _ (if k'=d then rho i else rho k');rw[hk];exact hb
  | map mk es=>
   obtain⟨g,ms,clock,h1,h2⟩:=hb
   exact⟨g,ms,clock,by simp only;rw[hk];exact h1,h2⟩
  | box cs=>
   obtain⟨g,ty,c,h1,h2,h3,h4⟩:=hb
   refine⟨g,ty,c,by simp only;rw[hk];exact h1,h2,by simpa using h3,fun j x u hj hu=>?_⟩
   rw[List.getElem?_map] at hj
   obtain⟨z,hz,rfl⟩:=Option.map_eq_some_iff.1 hj
   exact⟨(h4 j z u hz hu).1,(h4 j z u hz hu).2.rn T (.inl hid)⟩
  | gJ ty cs=>
   obtain⟨g,c,h1,h2,h3,h4⟩:=hb
   refine⟨g,c,by simp only;rw[hk];exact h1,h2,by simpa using h3,fun j x u hj hu=>?_⟩
   rw[List.getElem?_map] at hj
   obtain⟨z,hz,rfl⟩:=Option.map_eq_some_iff.1 hj
   exact⟨(h4 j z u hz hu).1,(h4 j z u hz hu).2.rn T (.inl hid)⟩
  | bC cs=>
   obtain⟨g,ty,c,h1,h2⟩:=hb
   exact⟨g,ty,c,by simp only;rw[hk];exact h1,h2⟩
  | a7 e es=>
   obtain⟨h1,h2⟩:=hb
   show a_ _ _ _ _ _ (if k'=d then rho i else rho k')/\qY _ _ (if k'=d then rho i else rho k')
   rw[hk]
   refine⟨a_.map h1 fun x u hx=>?_,h2.map⟩
   cases x with
   | av x=>exact bK.rn T (.inl hid) hx
   | row e' dw=>exact hx
 exact
 {tm:=fun j hj=>(sim.tm j hj).rn T (.inl hid)
  sz:=sim.sz,df:=sim.df,nb:=sim.nb,pn:=fun id h=>by show (if id=d then rho i else rho id)=_;rw[if_neg (by omega)];exact sim.pn id h,ev:=sim.ev,s0:=sim.s0,st:=sim.st,sb:=sim.sb
  hp:=fun k _=>by
   by_cases e:k=d
   ·subst e;rw[hd];exact hrep i _ (sim.hp i trivial) k (if_pos rfl)
   by_cases e':k=i
   ·subst e';rw[hi];trivial
   rw[ho k e' e];exact hrep k _ (sim.hp k trivial) k (if_neg e)
  dj:=fun a b g _ _ la lb ha hb=>by
   obtain⟨a',h1,h2,h3,h7⟩:=Ml a la
   obtain⟨b',h4,h5,h6,h8⟩:=Ml b lb
   have:=sim.dj a' b' g trivial trivial h1 h4 (by rw[<-h7,<-h2];exact ha) (by rw[<-h8,<-h5];exact hb)
   rw[h3,h6] at this
   by_cases ea:a=d <;> by_cases eb:b=d
   ·rw[ea,eb]
   ·rw[if_pos ea,if_neg eb] at this
    rw[<-this] at lb
    rw[hi] at lb;exact lb.elim
   ·rw[if_neg ea,if_pos eb] at this
    rw[this] at la
    rw[hi] at la;exact la.elim
   rwa [if_neg ea,if_neg eb] at this
  lv:=fun k g _ lk hk=>by
   obtain⟨k',h1,h2,_,h3⟩:=Ml k lk
   exact sim.lv k' g trivial h1 (by rw[<-h3,<-h2];exact hk)
  fr:=sim.fr }
theorem bK.sc {S:Nat->Prop} {w:World} {P:Program} {L L':Nat->Prop} {rho:Nat->Value} {h h':Nat->AB} {d:Nat} (T:xa L L' rho rho h h' d d) {x:AV} {v:Value} (hx:bK S w P L rho h x v):bK S w P L' rho h' (sc d x) v:=by
 rw[Dk]
 split
 ·exact .junk v
 rename_i hm;exact hx.mf T hm hm
theorem B1 (d:Nat) (b:AB):(uO d b).there↔b.there:=by cases b <;> rfl
theorem sg (d:Nat) (b:AB):(uO d b).live↔b.live:=by cases b <;> rfl
theorem vt {w:World} (d:Nat) (b:AB) (v:Value) (g:Nat):hasB w (uO d b) v g↔hasB w b v g:=by
 cases b with
 | a7 e es=>exact uP
 | box cs=>exact⟨fun h=>.inl (aY rfl h),fun h=>.inl (aY rfl h)⟩
 | gJ ty cs=>exact⟨fun h=>.inl (aY rfl h),fun h=>.inl (aY rfl h)⟩
 | _=>exact Iff.rfl
theorem cm.Gv {A:dc} {L S:Nat->Prop} {rho:Nat->Value} {s:AS} {a:Act} {w:World} (sim:cm A di L S rho s a w) (d:Nat) (b:AB):cm A di (fun k=>L k/\k≠d) S rho ⟨(hI d s).t,bI (hI d s).h d b⟩ a w:=by
 have ho:∀k,k≠d->bI (hI d s).h d b k=uO d (s.h k):=fun k hk=>by rw[bQ _ _ hk];show bI (fun k=>uO d (s.h k)) d AB.none k=_;rw[bQ _ _ hk]
 have row:∀x e,(uO d x).kN=some e->x.kN=some e:=fun x e h=>by cases x <;> exact h
 have T:xa L (fun k=>L k/\k≠d) rho rho s.h (bI (hI d s).h d b) d d:=
  ⟨fun k h1 _=>by rw[ho k h1];exact⟨(B1 _ _).1,fun h=>⟨h,h1⟩,rfl,row _⟩,fun h=>absurd rfl h⟩
 exact
 {tm:=fun j hj=>(sim.tm j hj).sc T
  sz:=sim.sz,df:=sim.df,nb:=sim.nb,pn:=sim.pn,ev:=sim.ev,s0:=sim.s0,st:=sim.st,sb:=sim.sb
  hp:=fun k hk=>by
   show fa _ _ _ _ _ _ _ (bI (hI d s).h d b k)
   rw[ho k hk.2]
   have hh:=sim.hp k hk.1
   cases hb:s.h k with
   | none=>trivial
   | row e es=>rw[hb] at hh;exact hh
   | hM es=>rw[hb] at hh;exact hh
   | jK es=>rw[hb] at hh;exact hh
   | map mk es=>rw[hb] at hh;exact hh
   | box cs=>
    rw[hb] at hh
    obtain⟨g,ty,c,h1,h2,h3,h4⟩:=hh
    refine⟨g,ty,c,h1,h2,by simpa using h3,fun j x u hj hu=>?_⟩
    rw[List.getElem?_map] at hj
    obtain⟨z,hz,rfl⟩:=Option.map_eq_some_iff.1 hj
    exact⟨(h4 j z u hz hu).1,(h4 j z u hz hu).2.sc T⟩
   | gJ ty cs=>
    rw[hb] at hh
    obtain⟨g,c,h1,h2,h3,h4⟩:=hh
    refine⟨g,c,h1,h2,by simpa using h3,fun j x u hj hu=>?_⟩
    rw[List.getElem?_map] at hj
    obtain⟨z,hz,rfl⟩:=Option.map_eq_some_iff.1 hj
    exact⟨(h4 j z u hz hu).1,(h4 j z u hz hu).2.sc T⟩
   | bC cs=>rw[hb] at hh;exact hh
   | a7 e es=>
    rw[hb] at hh
    obtain⟨h1,h2⟩:=hh
    refine⟨a_.map h1 fun x u hx=>?_,h2.map⟩
    cases x with
    | av x=>exact bK.sc T hx
    | row e' dw=>exact hx
  dj:=fun i j g hi hj li lj eP iB=>by
   have kj:(bI (hI d s).h d b i).live:=li
   have JQ:(bI (hI d s).h d b j).live:=lj
   have eP:hasB w (bI (hI d s).h d b i) (rho i) g:=eP
   have iB:hasB w (bI (hI d s).h d b j) (rho j) g:=iB
   rw[ho i hi.2,sg] at kj
   rw[ho j hj.2,sg] at JQ
   rw[ho i hi.2,vt] at eP
   rw[ho j hj.2,vt] at iB
   exact sim.dj i j g hi.1 hj.1 kj JQ eP iB
  lv:=fun i g hi li hg=>by
   have kj:(bI (hI d s).h d b i).live:=li
   have hg:hasB w (bI (hI d s).h d b i) (rho i) g:=hg
   rw[ho i hi.2,sg] at kj
   rw[ho i hi.2,vt] at hg
   exact sim.lv i g hi.1 kj hg
  fr:=sim.fr }
theorem cm.nB {A:dc} {V V' L L' S:Nat->Prop} {rho:Nat->Value} {s:AS} {a:Act} {w:World} (sim:cm A V L S rho s a w) (hV:∀j,V' j->V j) (hL:∀i,L' i↔L i):cm A V' L' S rho s a w:=by
 have e:L'=L:=funext fun i=>propext (hL i)
 subst e
 exact { sim with tm:=fun j hj=>sim.tm j (hV j hj) }
theorem cm.AQ {A:dc} {V S:Nat->Prop} {rho:Nat->Value} {s:AS} {a:Act} {w:World} (d:Nat) (sim:cm A V (fun k=>k≠d) S rho s a w) (hn:s.h d=.none):cm A V di S rho s a w:=by
 have T:kp S S w w (fun k=>k≠d) di rho rho s.h s.h:=⟨fun b h=>h,fun _ _=>rfl,fun k hk=>⟨hk,fun _=>⟨trivial,rfl⟩⟩,fun k e h=>h⟩
 have nl:∀k,(s.h k).live->k≠d:=fun k hk e=>by rw[e,hn] at hk;exact hk
 exact
 {tm:=fun j hj=>(sim.tm j hj).dQ T
  sz:=sim.sz,df:=sim.df,nb:=sim.nb,pn:=sim.pn,ev:=sim.ev,s0:=sim.s0,st:=sim.st,sb:=sim.sb
  hp:=fun k _=>by
   by_cases e:k=d
   ·subst e;rw[hn];trivial
   exact (sim.hp k e).dQ T (fun _ _ _=>rfl) (fun _=>rfl)
  dj:=fun i j g _ _ li lj=>sim.dj i j g (nl i li) (nl j lj) li lj
  lv:=fun i g _ li=>sim.lv i g (nl i li) li
  fr:=sim.fr }
theorem cm.free {A:dc} {S:Nat->Prop} {rho:Nat->Value} {s:AS} {a:Act} {w:World} (sim:cm A di di S rho s a w) (d:Nat) (b:AB):cm A di (fun k=>k≠d) S rho ⟨(hI d s).t,bI (hI d s).h d b⟩ a w:=
 (sim.Gv d b).nB (fun _ _=>trivial) (fun _=>⟨fun h=>⟨trivial,h⟩,fun h=>h.2⟩)
def gP:Op->Bool
 | .box _ _ | .alloc _ | .buildSlice _ _ _ | .makeSlice _ _ _ | .makeMap _ _=>true
 | .call c=>match c.callee with
  | .builtin .append=>true
  | .value _=>true
  | _=>false
 | _=>false
def oM (h:Nat->AB) (d:Nat):Option AB->Nat->AB
 | none=>h
 | some b=>bI h d b
def si:AV->Bool
 | .p (.sl [])=>true
 | _=>false
def Hz:AV->Bool
 | .nl=>true
 | _=>false
def Mm:BinOp->Bool
 | .eql=>true
 | .neq=>true
 | _=>false
def oR (C:Ctx) (o:Oper) (t:Nat->AV):Bool:=match o.op with
 | .binOp op ty x y _=>Mm op && Hz (ev t y) && si (ev t x) && (match C.T ty with
  | some { ud:=.sl _,.. }=>true
  | _=>false)
 | _=>false
def nM (C:Ctx) (o:Oper) (K:AS->Prop) (s:AS):Prop:=
 match gP o.op with
 | true=>bY C o (ev (hI (o.dst.getD 0) s).t) (hI (o.dst.getD 0) s).h fun v eff new=>K ⟨en (hI (o.dst.getD 0) s).t o.dst v,match new with
   | none=>bI (app (hI (o.dst.getD 0) s).h eff) (o.dst.getD 0) .none
   | some b=>app (bI (hI (o.dst.getD 0) s).h (o.dst.getD 0) b) eff⟩
 | false=>match o.op,o.dst with
  | .assign x,some d=>match ev s.t x with
   | .ow i=>match s.h i with
    | .row _ _=>match cK i d with
     | true=>K ⟨bI s.t d (.ow i),s.h⟩
     | false=>K ⟨bI (jH i d s).t d (.ow d),(jH i d s).h⟩
    | .a7 _ _=>match cK i d with
     | true=>K ⟨bI s.t d (.ow i),s.h⟩
     | false=>K ⟨bI (jH i d s).t d (.ow d),(jH i d s).h⟩
    | _=>K ⟨bI s.t d (.ow i),s.h⟩
   | v=>K ⟨bI s.t d v,s.h⟩
  | _,_=>bY C o (ev s.t) s.h fun v eff new=>match new with
   | none=>K ⟨en s.t o.dst v,app s.h eff⟩
   | some _=>False
def step (C:Ctx) (o:Oper) (K:AS->Prop) (s:AS):Prop:=match oR C o s.t with
 | true=>K ⟨en s.t o.dst (.p (.im (.bool true))),s.h⟩/\K ⟨en s.t o.dst (.p (.im (.bool false))),s.h⟩
 | false=>nM C o K s
def iK (o:Oper) (n:Nat):Prop:=∀d,o.dst=some d->d < n
theorem xb {A:dc} (hC:ct A.C) {o:Oper} {S:Nat->Prop} {rho:Nat->Value} {s:AS} {a:Act} {w:World} {K:AS->Prop} {next:Act->World->Prop} {Q:Exit->Act->World->Prop} (hd:iK o A.n) (sim:cm A di di S rho s a w) (hq:nM A.C o K s)
  (hnext:∀s' S' rho' a' w',K s'->cm A di di S' rho' s' a' w'->next a' w'):o.wp A.C.P a w next Q:=by
 have plain:∀K':KK,bY A.C o (ev s.t) s.h K'->(∀v eff b,¬K' v eff (some b))->(∀v eff,K' v eff none->K ⟨en s.t o.dst v,app s.h eff⟩)->o.wp A.C.P a w next Q:=by
  intro K' hq h1 h2
  refine Di A o _ _ _ _ _ _ _ K' next Q hC sim (fun _ _=>trivial) hd hq (fun v eff b h=>absurd h (h1 v eff b)) fun v eff new S' rho' a' w' hk cg=>?_
  cases new with
  | some b=>exact absurd hk (h1 v eff b)
  | none=>exact hnext _ _ _ _ _ (h2 v eff hk) (cg.nB (fun _ _=>.inl trivial) (fun _=>Iff.rfl))
 unfold nM at hq
 split at hq
 ·have Mn:∀n,Ext (hI (o.dst.getD 0) s).h (oM (hI (o.dst.getD 0) s).h (o.dst.getD 0) n):=fun n k=>by
   cases n with
   | none=>exact .inr rfl
   | some b=>
    by_cases e:k=o.dst.getD 0
    ·subst e;exact .inl (by show bI (fun k=>uO (o.dst.getD 0) (s.h k)) _ AB.none _=_;rw[bc])
    exact .inr (bQ _ _ e)
  obtain⟨v,eff,new,hk,G8⟩:=m_ (fun _=>.inr rfl) hq
  obtain⟨v2,e2,n2,⟨rfl,rfl,rfl⟩,uC⟩:=m_ (Mn new) (G8 (fun v' e' n'=>v'=v/\e'=eff/\n'=new) ⟨rfl,rfl,rfl⟩)
  have pG:=uC (fun v' e' n'=>v'=v2/\e'=e2/\n'=n2) ⟨rfl,rfl,rfl⟩
  have pK:cm A di (fun k=>k≠o.dst.getD 0) S rho ⟨(hI (o.dst.getD 0) s).t,oM (hI (o.dst.getD 0) s).h (o.dst.getD 0) n2⟩ a w:=by
   have:=sim.free (o.dst.getD 0) (match n2 with | none=>.none | some b=>b)
   cases n2 with
   | some b=>exact this
   | none=>
    have e:bI (hI (o.dst.getD 0) s).h (o.dst.getD 0) .none=(hI (o.dst.getD 0) s).h:=eR _ _ _ (by show bI (fun k=>uO (o.dst.getD 0) (s.h k)) _ AB.none _=_;rw[bc])
    simp only at this
    rw[e] at this
    exact this
  refine Di A o _ _ _ _ _ _ _ _ next Q hC pK (fun _ _=>trivial) hd pG (fun v eff b h=>?_) fun v eff new S' rho' a' w' BA cg=>?_
  ·obtain⟨_,_,rfl⟩:=h
   exact⟨fun h=>h rfl,bc _ _ _⟩
  obtain⟨rfl,rfl,rfl⟩:=BA
  refine hnext _ S' rho' _ _ hk ?_
  cases new with
  | some b=>exact cg.nB (V':=di) (L':=di) (fun _ _=>.inl trivial) (fun k=>⟨fun _=>by by_cases e:k=o.dst.getD 0;exact .inr e;exact .inl e,fun _=>trivial⟩)
  | none=>exact ((cg.kill (o.dst.getD 0)).AQ _ (bc _ _ _)).nB (fun _ _=>.inl trivial) (fun _=>Iff.rfl)
 split at hq
 ·rename_i x d aZ iU
  have run:(execOp a.eval o).run A.C.P w=.ok (.value (a.eval x)) w:=by simp[execOp,aZ]
  have hx:=bL sim x (fun _ _=>trivial)
  have same:∀v,ev s.t x=v->K ⟨bI s.t d v,s.h⟩->o.wp A.C.P a w next Q:=fun v hv hk=>by
   refine dR run (hnext _ S rho _ _ hk ?_)
   have:=(sim.value o.dst hd v _ (by rw[<-hv];exact hx)).nB (V':=di) (L':=di) (fun _ _=>.inl trivial) (fun _=>Iff.rfl)
   rw[iU] at this ⊢
   exact this
  have Lj:∀i,ev s.t x=.ow i->cK i d=false->K ⟨bI (jH i d s).t d (.ow d),(jH i d s).h⟩->o.wp A.C.P a w next Q:=fun i hi dh hq=>by
     have hid:i≠d:=fun e=>by rw[bH.2 e] at dh;cases dh
     refine dR run (hnext _ S (fun j=>if j=d then rho i else rho j) _ _ hq ?_)
     have pK:=sim.rename i d hid (Nat.lt_of_lt_of_le (hd d iU) sim.nb)
     have On:bK S w A.C.P di (fun j=>if j=d then rho i else rho j) (jH i d s).h (.ow d) (a.eval x):=by
      rw[hi] at hx
      refine .ow d _ fun ht=>⟨trivial,?_⟩
      have:(s.h i).there:=by simpa [jH,bH.2 rfl,pJ] using ht
      rw[(hx.db this).2]
      simp
     have:=(pK.value o.dst hd (.ow d) _ On).nB (V':=di) (L':=di) (fun _ _=>.inl trivial) (fun _=>Iff.rfl)
     rw[iU] at this ⊢
     exact this
  split at hq
  ·rename_i i hi
   split at hq
   ·split at hq
    ·exact same _ hi hq
    rename_i dh
    exact Lj i hi dh hq
   ·split at hq
    ·exact same _ hi hq
    rename_i dh
    exact Lj i hi dh hq
   exact same _ hi hq
  exact same _ rfl hq
 refine plain _ hq (fun v eff b h=>h) (fun v eff h=>h)
theorem vu {x:AV} (h:si x=true):x=.p (.sl []):=by
 unfold si at h
 split at h
 ·rfl
 cases h
theorem Dl {x:AV} (h:Hz x=true):x=.nl:=by unfold Hz at h;split at h;rfl;cases h
theorem zg {A:dc} (hC:ct A.C) {o:Oper} {S:Nat->Prop} {rho:Nat->Value} {s:AS} {a:Act} {w:World} {K:AS->Prop} {next:Act->World->Prop} {Q:Exit->Act->World->Prop} (hd:iK o A.n) (sim:cm A di di S rho s a w) (hq:step A.C o K s)
  (hnext:∀s' S' rho' a' w',K s'->cm A di di S' rho' s' a' w'->next a' w'):o.wp A.C.P a w next Q:=by
 unfold step at hq
 split at hq
 ·rename_i hn
  unfold oR at hn
  split at hn
  ·rename_i op ty x y Pq aZ
   simp only[Bool.and_eq_true] at hn
   obtain⟨⟨⟨h1,h3⟩,h2⟩,h4⟩:=hn
   split at h4
   case h_2=>cases h4
   rename_i e size bytes zero eq hT
   have eW:=(hC.gw ty _ hT).under
   simp only at eW
   have hx:=bL sim x (fun _ _=>trivial)
   have hy:=bL sim y (fun _ _=>trivial)
   rw[vu h2] at hx
   rw[Dl h3] at hy
   obtain⟨ad,c,hv,_⟩:=hx.fq.kR
   have lT:a.eval y=.slice none 0 0:=by generalize a.eval y=v at hy;cases hy;rfl
   have fin:∀b:Bool,(execOp a.eval o).run A.C.P w=.ok (.value (.bool b)) w->o.wp A.C.P a w next Q:=fun b hrun=>by
    refine dR hrun (hnext ⟨en s.t o.dst (.p (.im (.bool b))),s.h⟩ S rho _ _ ?_ ?_)
    ·cases b
     ·exact hq.2
     exact hq.1
    exact (sim.value o.dst hd (.p (.im (.bool b))) _ (.p _ _ (.im _))).nB (V':=di) (L':=di) (fun _ _=>.inl trivial) (fun _=>Iff.rfl)
   cases op <;> first | (cases h1;done) | skip
   ·refine fin ad.isNone ?_
    simp[execOp,aZ,hv,lT,eqGuard,binOp,eO _ _ _ _ _ _ eW]
   refine fin (!ad.isNone) ?_
   simp[execOp,aZ,hv,lT,eqGuard,binOp,eO _ _ _ _ _ _ eW]
  cases hn
 exact xb hC hd sim hq hnext
end Go.AM
namespace Go.AM
open Go.RowKit
def fc (b:Bool) (p q:Prop):Prop:=match b with
 | true=>p
 | false=>q
theorem aa {b:Bool} {p q:Prop} (h1:b=true->p) (h2:b=false->q):fc b p q:=by
 cases b
 ·exact h2 rfl
 exact h1 rfl
def ep (b:Bool):AV:=.p (.im (.bool b))
def jY:AV:=.p (.im undef)
def Dm:Value->Option Bool
 | .bool b=>some b
 | _=>none
def JR (v:Value) (want:Bool):Bool:=Dm v == some want
def cL (C:Ctx) (all:List Oper):List Oper->(AS->Prop)->AS->Prop
 | [],K,s=>K s
 | o::r,K,s=>match o.guard with
  | none=>step C o (cL C all r K) s
  | some (g,want)=>match all[g]? with
   | none=>False
   | some og=>match og.dst with
    | none=>False
    | some tg=>match s.t tg with
     | .p (.im (.bool b))=>fc b
       (match want with
        | true=>step C o (cL C all r K) ⟨bI s.t tg (ep true),s.h⟩
        | false=>cL C all r K ⟨en (bI s.t tg (ep true)) o.dst jY,s.h⟩)
       (match want with
        | false=>step C o (cL C all r K) ⟨bI s.t tg (ep false),s.h⟩
        | true=>cL C all r K ⟨en (bI s.t tg (ep false)) o.dst jY,s.h⟩)
     | .p (.im (.tuple _))=>cL C all r K ⟨en s.t o.dst jY,s.h⟩
     | _=>False
theorem kW {A:dc} {V L S:Nat->Prop} {rho:Nat->Value} {s:AS} {a:Act} {w:World} (sim:cm A V L S rho s a w) {ops:Array Oper} {g tg:Nat} {og:Oper} {v:Value} (h1:ops[g]?=some og) (h2:og.dst=some tg) (hv:V tg) (h3:s.t tg=.p (.im v)):yielded ops a.tmps g=Dm v:=by
 have h4:=sim.tm tg hv
 rw[h3] at h4
 have h5:a.tmps.getD tg undef=v:=h4.b_
 rw[Array.getD_eq_getD_getElem?] at h5
 subst h5
 unfold yielded Dm
 rw[h1]
 simp only[Option.bind_some,h2]
 cases h:a.tmps[tg]? with
 | none=>rfl
 | some v=>simp only[Option.getD_some];split <;> simp_all
theorem zh {A:dc} (hC:ct A.C) {ops:Array Oper} {Q:Exit->Act->World->Prop} {K:AS->Prop} (fm:∀s S rho a w,K s->cm A di di S rho s a w->Q .normal a w):
  ∀(l:List Oper) (k:Nat) (s:AS) (S:Nat->Prop) (rho:Nat->Value) (a:Act) (w:World),(∀j,l[j]?=ops[k+j]?)->(∀o∈l,iK o A.n)->cL A.C ops.toList l K s->cm A di di S rho s a w->wpOps A.C.P ops Q (List.range' k l.length) a w:=by
 intro l
 induction l with
 | nil=>intro k s S rho a w _ _ hq sim;exact fm s S rho a w hq sim
 | cons o l ih=>
  intro k s S rho a w hl hd hq sim
  have h0:ops[k]?=some o:=by simpa using (hl 0).symm
  have JS:∀j,l[j]?=ops[k+1+j]?:=fun j=>by have:=hl (j+1);simpa [Nat.add_assoc,Nat.add_comm 1 j] using this
  have q9:∀o∈l,iK o A.n:=fun o ho=>hd o (by simp[ho])
  have JT:=hd o (by simp)
  rw[List.length_cons,List.range'_succ]
  simp only[wpOps,h0]
  have run:∀(s:AS),step A.C o (cL A.C ops.toList l K) s->cm A di di S rho s a w->o.wp A.C.P a w (wpOps A.C.P ops Q (List.range' (k+1) l.length)) Q:=fun s hs sim=>
   zg hC JT sim hs fun s' S' rho' a' w' hk cg=>ih (k+1) s' S' rho' a' w' JS q9 hk cg
  have skip:∀(t:Nat->AV),cL A.C ops.toList l K ⟨en t o.dst jY,s.h⟩->cm A di di S rho ⟨t,s.h⟩ a w->wpOps A.C.P ops Q (List.range' (k+1) l.length) (a.put o.dst undef) w:=fun t hs sim=>by
   have:=(sim.value o.dst JT jY undef (.p _ _ (.im _))).nB (V':=di) (L':=di) (fun _ _=>.inl trivial) (fun _=>Iff.rfl)
   exact ih (k+1) _ S rho _ w JS q9 hs this
  unfold cL at hq
  split at hq
  ·rename_i hg
   rw[if_pos (by simp[Region.wanted,hg])]
   exact .inl (run s hq sim)
  rename_i g want hg
  split at hq
  ·exact hq.elim
  rename_i og HA
  split at hq
  ·exact hq.elim
  rename_i tg HB
  split at hq
  ·rename_i b hb
   have hy:=kW sim (ops:=ops) (g:=g) (by simpa using HA) HB trivial hb
   have oS:∀b',b=b'->bI s.t tg (ep b')=s.t:=fun b' e=>eR _ _ _ (by rw[hb,e];rfl)
   have sj:Region.wanted o (yielded ops a.tmps)=(some b == some want):=by simp[Region.wanted,hg,hy,Dm]
   rw[sj]
   cases b <;> cases want <;> simp only[fc] at hq
   ·rw[oS false rfl] at hq
    rw[if_pos (by decide)]
    exact .inl (run s hq sim)
   ·rw[oS false rfl] at hq
    rw[if_neg (by decide)]
    exact skip s.t hq sim
   ·rw[oS true rfl] at hq
    rw[if_neg (by decide)]
    exact skip s.t hq sim
   rw[oS true rfl] at hq
   rw[if_pos (by decide)]
   exact .inl (run s hq sim)
  ·rename_i q hb
   have hy:=kW sim (ops:=ops) (g:=g) (by simpa using HA) HB trivial hb
   have sj:Region.wanted o (yielded ops a.tmps)=false:=by simp[Region.wanted,hg,hy,Dm]
   rw[sj,if_neg (by decide)]
   exact skip s.t hq sim
  exact hq.elim
def W (A:dc) (c:Code) (K:Exit->AS->Prop) (s:AS):Prop:=
 ∀S rho a w,cm A di di S rho s a w->c.wp A.C.P (fun e a' w'=>∃S' rho' s',cm A di di S' rho' s' a' w'/\K e s') a w
theorem JU {A:dc} {x y:Code} {K:Exit->AS->Prop} {s:AS} (h:W A x (fun e s'=>match e with | .normal=>W A y K s' | e=>K e s') s):W A (.seq x y) K s:=by
 intro S rho a w sim
 refine wp_seq (wp_mono (h S rho a w sim) fun e a' w' hq=>?_)
 obtain⟨S',rho',s',cg,hk⟩:=hq
 cases e with
 | normal=>exact hk S' rho' a' w' cg
 | exit id=>exact⟨S',rho',s',cg,hk⟩
 | goto l=>exact⟨S',rho',s',cg,hk⟩
 | ret=>exact⟨S',rho',s',cg,hk⟩
 | panic c=>exact⟨S',rho',s',cg,hk⟩
 | outgrown=>exact⟨S',rho',s',cg,hk⟩
theorem zj {A:dc} {c:Code} {K K':Exit->AS->Prop} {s:AS} (h:W A c K s) (hk:∀e s,K e s->K' e s):W A c K' s:=
 fun S rho a w sim=>wp_mono (h S rho a w sim) fun _ _ _ ⟨S',rho',s',cg,k⟩=>⟨S',rho',s',cg,hk _ _ k⟩
theorem HD {A:dc} {c:Operand} {x y:Code} {K:Exit->AS->Prop} {s:AS} {b:Bool} (hb:ev s.t c=.p (.im (.bool b))) (h1:b=true->W A x K s) (h2:b=false->W A y K s):W A (.cond c x y) K s:=by
 intro S rho a w sim
 have hc:=bL sim c (fun _ _=>trivial)
 rw[hb] at hc
 refine wp_cond_split hc.b_ (fun h=>h1 h S rho a w sim) (fun h=>h2 h S rho a w sim)
theorem Fp {A:dc} {id:Nat} {c:Code} {K:Exit->AS->Prop} {s:AS} (h:W A c (fun e s'=>match e with | .exit i=>fc (cK i id) (K .normal s') (K (.exit i) s') | e=>K e s') s):W A (.block id c) K s:=by
 intro S rho a w sim
 refine wp_block (wp_mono (h S rho a w sim) fun e a' w' hq=>?_)
 obtain⟨S',rho',s',cg,hk⟩:=hq
 cases e with
 | exit i=>
  simp only[Exit.inBlock]
  simp only at hk
  by_cases e:i=id
  ·rw[if_pos e]
   rw[bH.2 e] at hk
   exact⟨S',rho',s',cg,hk⟩
  rw[if_neg e]
  have:cK i id=false:=by rw[Bool.eq_false_iff];intro h;exact e (bH.1 h)
  rw[this] at hk
  exact⟨S',rho',s',cg,hk⟩
 | normal=>exact⟨S',rho',s',cg,hk⟩
 | goto l=>exact⟨S',rho',s',cg,hk⟩
 | ret=>exact⟨S',rho',s',cg,hk⟩
 | panic c=>exact⟨S',rho',s',cg,hk⟩
 | outgrown=>exact⟨S',rho',s',cg,hk⟩
def bg (A:dc) (s s':AS):Prop:=∀S rho a w,cm A di di S rho s a w->∃S' rho',cm A di di S' rho' s' a w
theorem bg.refl (A:dc) (s:AS):bg A s s:=fun S rho _ _ h=>⟨S,rho,h⟩
theorem bg.trans {A:dc} {s s' kK:AS} (h:bg A s s') (k:bg A s' kK):bg A s kK:=fun S rho a w sim=>by
 obtain⟨S',rho',cg⟩:=h S rho a w sim
 exact k S' rho' a w cg
theorem least {P:Nat->Prop} (h:∃n,P n):∃n,P n/\∀k,P k->n<=k:=by
 obtain⟨n,hn⟩:=h
 induction n using Nat.strongRecOn with
 | _ n ih=>
  by_cases hk:∃k,k < n/\P k
  ·obtain⟨k,h1,h2⟩:=hk
   exact ih k h1 h2
  exact⟨n,hn,fun k h=>Nat.le_of_not_lt fun fC=>hk ⟨k,fC,h⟩⟩
theorem HE {A:dc} {c:Code} {K:Exit->AS->Prop} {s:AS} {α:Type} (I:α->AS->Prop) (m:α->Nat) (h0:∃x s',bg A s s'/\I x s')
  (round:∀x s,I x s->W A c (fun e s'=>match e with | .normal=>∃y kK,bg A s' kK/\I y kK/\m y < m x | e=>K e s') s):W A (.loop c) K s:=by
 intro S rho a w sim
 let J:Act->World->Nat->Prop:=fun a w n=>∃x S rho s,cm A di di S rho s a w/\I x s/\m x=n
 have dec:∀a w,Decidable (∃n,J a w n):=fun a w=>Classical.propDecidable _
 let mu:Act->World->Nat:=fun a w=>@dite _ (∃n,J a w n) (dec a w) (fun h=>Classical.choose (least h)) (fun _=>0)
 have NA:∀a w (h:∃n,J a w n),mu a w=Classical.choose (least h):=fun a w h=>by
  show @dite _ _ (dec a w) _ _=_
  rw[dif_pos h]
 refine wp_loop (fun a w=>∃n,J a w n) mu ?_ ?_
 ·obtain⟨x,s',hle,hi⟩:=h0
  obtain⟨S',rho',cg⟩:=hle S rho a w sim
  exact⟨m x,x,S',rho',s',cg,hi,rfl⟩
 intro a w hJ
 obtain⟨⟨x,S1,Mo,s1,pK,hi,hm⟩,_⟩:=Classical.choose_spec (least hJ)
 refine wp_mono (round x s1 hi S1 Mo a w pK) fun e a' w' hq=>?_
 obtain⟨S',rho',s',cg,hk⟩:=hq
 cases e with
 | normal=>
  obtain⟨y,kK,hle,yz,fC⟩:=hk
  obtain⟨NB,Gw,Gx⟩:=hle S' rho' a' w' cg
  have Mp:∃n,J a' w' n:=⟨m y,y,NB,Gw,kK,Gx,yz,rfl⟩
  refine⟨Mp,?_⟩
  rw[NA a w hJ,NA a' w' Mp,<-hm]
  exact Nat.lt_of_le_of_lt ((Classical.choose_spec (least Mp)).2 (m y) ⟨y,NB,Gw,kK,Gx,yz,rfl⟩) fC
 | exit id=>exact⟨S',rho',s',cg,hk⟩
 | goto l=>exact⟨S',rho',s',cg,hk⟩
 | ret=>exact⟨S',rho',s',cg,hk⟩
 | panic c=>exact⟨S',rho',s',cg,hk⟩
 | outgrown=>exact⟨S',rho',s',cg,hk⟩
theorem Dn {A:dc} (hC:ct A.C) {id:Nat} {ops:Array Oper} {K:Exit->AS->Prop} {s:AS} (hd:∀o∈ops.toList,iK o A.n) (h:cL A.C ops.toList ops.toList (K .normal) s):W A (.region id ops false) K s:=by
 intro S rho a w sim
 refine wp_region ?_
 have:=zh hC (ops:=ops) (Q:=fun e a' w'=>∃S' rho' s',cm A di di S' rho' s' a' w'/\K e s') (K:=K .normal) (fun s S rho a w hk sim=>⟨S,rho,s,sim,hk⟩) ops.toList 0 s S rho a w (fun j=>by simp) hd h sim
 rw[List.range_eq_range']
 simpa using this
end Go.AM
namespace Go.AM
open Go.RowKit
def JV (j:Nat):Arg->AV
 | .pv x=>.p x
 | .row _ _=>.ow (100000+j)
 | .map _ _=>.ow (100000+j)
 | .box _=>.bx (100000+j) 0
 | .bC _=>.bx (100000+j) 0
def Gy:Arg->AB
 | .pv _=>.none
 | .row e es=>.row e es
 | .map mk es=>.map mk es
 | .box cs=>.box (cs.map .p)
 | .bC cs=>.bC cs
def dp:List AV->List Nat
 | []=>[]
 | .ow n::r=>n::dp r
 | _::r=>dp r
def xc (n:Nat):List Nat->Bool
 | []=>false
 | m::r=>match Nat.beq m n with
  | true=>true
  | false=>xc n r
def ed:List Nat->Bool
 | []=>true
 | n::r=>!xc n r && (Nat.blt n 100000 && ed r)
def Dp:List Arg->Bool
 | []=>true
 | .bC _::_=>false
 | _::r=>Dp r
def sk (h:Nat->AB):List AV->List HC->Prop
 | [],[]=>True
 | .p x::r,.p y::s=>x=y/\sk h r s
 | .ow n::r,.row e es::s=>h n=.row e es/\sk h r s
 | _,_=>False
theorem jn {n:Nat} {l:List Nat}:xc n l=true↔n∈l:=by
 induction l with
 | nil=>simp[xc]
 | cons m l ih=>
  unfold xc
  split
  ·rename_i h
   have:=Nat.eq_of_beq_eq_true h
   simp[this]
  rename_i h
  rw[ih]
  have:¬n=m:=fun e=>by rw[e] at h;simp at h
  simp[this]
theorem gj {n:Nat}:∀{l:List AV},n∈dp l↔(AV.ow n:AV)∈l
 | []=>by simp[dp]
 | x::l=>by cases x <;> simp[dp,gj (l:=l)]
theorem kX:∀{l:List AV} {i j n:Nat},ed (dp l)=true->l[i]?=some (.ow n)->l[j]?=some (.ow n)->i=j
 | [],i,j,n,_,h,_=>by simp at h
 | x::l,i,j,n,hg,h1,h2=>by
  have tail:ed (dp l)=true:=by
   cases x <;> first | exact hg | (simp[dp,ed] at hg ⊢;exact hg.2.2)
  have ga:∀k:Nat,x=AV.ow n->l[k]?=some (AV.ow n)->False:=fun k hx hk=>by
   subst hx
   simp[dp,ed] at hg
   have:xc n (dp l)=true:=jn.2 (gj.2 (List.mem_of_getElem? hk))
   rw[hg.1] at this
   cases this
  cases i with
  | zero=>
   cases j with
   | zero=>rfl
   | succ j=>simp at h1 h2;exact (ga j h1 h2).elim
  | succ i=>
   cases j with
   | zero=>simp at h1 h2;exact (ga i h2 h1).elim
   | succ j=>simp at h1 h2;rw[kX tail h1 h2]
theorem kY:∀{l:List Nat} {n:Nat},ed l=true->n∈l->n < 100000
 | [],n,_,h=>by cases h
 | m::l,n,hg,h=>by
  simp[ed] at hg
  rcases List.mem_cons.1 h with h | h
  ·subst h
   have:=hg.2.1
   first | omega | (have:=Nat.le_of_ble_eq_true (show Nat.ble (n+1) 100000=true from this);omega) | (simp[Nat.blt] at this;omega)
  exact kY hg.2.2 h
theorem uQ {h:Nat->AB}:∀{bs:List AV} {cs:List HC},sk h bs cs->bs.length=cs.length
 | [],[],_=>rfl
 | [],_::_,hp=>hp.elim
 | b::bs,[],hp=>by cases b <;> exact hp.elim
 | b::bs,c::cs,hp=>by
  cases b <;> cases c <;> first | exact hp.elim | (have:=uQ hp.2;simp[this])
theorem xd {h:Nat->AB}:∀{bs:List AV} {cs:List HC} {j:Nat} {x:AV} {y:HC},sk h bs cs->bs[j]?=some x->cs[j]?=some y->(∃z,x=.p z/\y=.p z)\/∃n e es,x=.ow n/\y=.row e es/\h n=.row e es
 | [],_,j,x,y,_,h1,_=>by simp at h1
 | b::bs,[],j,x,y,_,_,h2=>by simp at h2
 | b::bs,c::cs,0,x,y,hp,h1,h2=>by
  simp at h1 h2
  subst h1 h2
  cases b <;> cases c <;> first | exact hp.elim | exact .inl ⟨_,rfl,by rw[hp.1]⟩ | exact .inr ⟨_,_,_,rfl,rfl,hp.1⟩
 | b::bs,c::cs,j+1,x,y,hp,h1,h2=>by
  simp at h1 h2
  have Mq:sk h bs cs:=by cases b <;> cases c <;> first | exact hp.elim | exact hp.2
  exact xd Mq h1 h2
theorem xe {A:dc} {V L S:Nat->Prop} {rho:Nat->Value} {s:AS} {a:Act} {w:World} (sim:cm A V L S rho s a w) {id:Nat} (hL:L id) {bs:List AV} {cs:List HC} (hb:s.h id=.box bs) (hg:ed (dp bs)=true) (hp:sk s.h bs cs):
  ∃g ty c,rho id=.pointer (some ⟨g,0,none⟩)/\Bu S w A.C.P cs g ty c/\∀k,hasB w (.bC cs) (rho id) k->cW (rho id)=some k\/∃n,n∈dp bs/\L n/\(s.h n).live/\cW (rho n)=some k:=by
 have hh:=sim.hp id hL
 rw[hb] at hh
 obtain⟨g,ty,c,k1,k2,k3,k4⟩:=hh
 have hl:=uQ hp
 have cI:(s.h id).live:=by rw[hb];trivial
 have hx:∀{j:Nat} {y:HC} {u:Value},cs[j]?=some y->c[j]?=some u->u.oneCell'=true/\Gk S w A.C.P y u/\(y.isRow->∃n,bs[j]?=some (.ow n)/\L n/\u=rho n/\(s.h n).live/\n≠id):=by
  intro j y u hj hu
  obtain⟨x,hx⟩:∃x,bs[j]?=some x:=⟨_,List.getElem?_eq_getElem (by rw[hl];exact aW hj)⟩
  obtain⟨o1,o2⟩:=k4 j x u hx hu
  rcases xd hp hx hj with⟨z,rfl,rfl⟩ | ⟨n,e,es,rfl,rfl,hn⟩
  ·exact⟨o1,o2.fq,fun h=>h.elim⟩
  obtain⟨AT,rfl⟩:=o2.db (by rw[hn];trivial)
  have hr:=sim.hp n AT
  rw[hn] at hr
  exact⟨o1,hr,fun _=>⟨n,hx,AT,rfl,by rw[hn];trivial,fun e=>by rw[e,hb] at hn;cases hn⟩⟩
 have B2:cW (rho id)=some g:=by rw[k1];rfl
 refine⟨g,ty,c,k1,⟨k2,by rw[k3,hl],fun j y u hj hu=>⟨(hx hj hu).1,(hx hj hu).2.1⟩,fun j y u b hj hu hy iI e=>?_,fun i j x y u v b hi hj hu hv Oo Oq e1 e2=>?_⟩,fun k hk=>?_⟩
 ·obtain⟨n,_,AT,rfl,Fq,dh⟩:=(hx hj hu).2.2 hy
  subst e
  exact dh (sim.K6 n id b AT hL Fq cI iI B2)
 ·obtain⟨n,hn,AT,rfl,Fq,_⟩:=(hx hi hu).2.2 Oo
  obtain⟨m,hm,Ot,rfl,Mr,_⟩:=(hx hj hv).2.2 Oq
  have:=sim.K6 n m b AT Ot Fq Mr e1 e2
  subst this
  exact kX hg hn hm
 rcases hk with hk | ⟨jF,g',kS,lJ,c',N3,m,j,y,u,q1,q2,q3,q4,q5⟩ | ⟨_,_,_,_,_,_,kS,_⟩
 ·exact .inl hk
 ·injection kS with kS
  subst kS
  rw[B2] at lJ
  injection lJ with lJ
  subst lJ
  rw[k2] at q1
  injection q1 with q1
  injection q1 with q1 _ _
  subst q1
  obtain⟨n,hn,AT,rfl,Fq,_⟩:=(hx q2 q4).2.2 q3
  exact .inr ⟨n,gj.2 (List.mem_of_getElem? hn),AT,Fq,q5⟩
 cases kS
def uR (args:List Arg) (j:Nat):AV:=match args[j]? with
 | some x=>JV j x
 | none=>.junk
def mg (args:List Arg) (j:Nat):AB:=match Nat.ble 100000 j with
 | true=>match args[j - 100000]? with
  | some x=>Gy x
  | none=>.none
 | false=>.none
def Dq (a : Tmp) (t : TypeId) : Oper := { dst := none, op := .load t (.tmp a), type := t, pos := "", after := #[], guard := none }
def Gz (C:Ctx) (s:AS):ResultVar->(AV->Prop)->Prop
 | .tmp t,K=>K (s.t t)
 | .cell a t,K=>bY C (Dq a t) (ev s.t) s.h fun v _ _=>match v with
  | .p x=>K (.p x)
  | _=>False
def zk (C:Ctx) (s:AS):List ResultVar->(List AV->Prop)->Prop
 | [],K=>K []
 | r::rs,K=>Gz C s r fun a=>zk C s rs fun as=>K (a::as)
def zl (h:Nat->AB):List AV->(List PV->(Nat->AB)->Prop)->Prop
 | [],K=>K [] h
 | a::r,K=>gK h a fun x fz=>zl (app h fz) r fun xs h'=>K (x::xs) h'
def jO:AB->Nat->Bool
 | .box bs,i=>xc i (dp bs)
 | _,_=>false
def jo (h:Nat->AB):Nat->List Arg->List Fin->Nat->Bool
 | j,.pv _::xs,fs,i=>jo h (j+1) xs fs i
 | j,_::xs,f::fs,i=>(f.kept && (cK j i || jO (h j) i)) || jo h (j+1) xs fs i
 | _,_,_,_=>false
def iV (h:Nat->AB):Nat->List Arg->List Fin->Prop
 | _,[],[]=>True
 | j,.pv _::xs,fs=>iV h (j+1) xs fs
 | j,.row _ _::xs,.gone::fs=>iV h (j+1) xs fs
 | j,.map _ _::xs,.gone::fs=>iV h (j+1) xs fs
 | j,.box _::xs,.gone::fs=>iV h (j+1) xs fs
 | j,.bC _::xs,.gone::fs=>iV h (j+1) xs fs
 | j,.row e _::xs,.row es::fs=>h j=.row e es/\iV h (j+1) xs fs
 | j,.map mk _::xs,.map es::fs=>h j=.map mk es/\iV h (j+1) xs fs
 | j,.box _::xs,.box cs::fs=>(match h j with
  | .box bs=>dS bs=some cs
  | _=>False)/\iV h (j+1) xs fs
 | j,.bC _::xs,.bC cs::fs=>(match h j with
  | .bC bs=>bs=cs
  | .box bs=>(ed (dp bs) && Dp xs)=true/\sk h bs cs
  | _=>False)/\iV h (j+1) xs fs
 | _,_,_=>False
def Dr (C:Ctx) (rs:List ResultVar) (args:List Arg) (r:AR) (fin:List Fin) (s:AS):Prop:=
 zk C s rs fun gZ=>match r with
  | .own e es=>match gZ with
   | [a]=>match a with
    | .ow i=>s.h i=.row e es/\jo s.h 100000 args fin i=false/\iV s.h 100000 args fin
    | .vw i lo hi=>match lo with
     | 0=>match s.h i with
      | .row e' xs=>match cK e' e with
       | true=>es=xs.take hi/\jo s.h 100000 args fin i=false/\iV s.h 100000 args fin
       | false=>False
      | _=>False
     | _+1=>False
    | .nl=>match C.T e with
     | some ti=>match Nat.blt 0 ti.size with
      | true=>es=[]/\iV s.h 100000 args fin
      | false=>False
     | none=>False
    | _=>False
   | _=>False
  | .hown cs=>match gZ with
   | [a]=>match a with
    | .bx i off=>match off with
     | 0=>s.h i=.bC cs/\jo s.h 100000 args fin i=false/\iV s.h 100000 args fin
     | _+1=>False
    | _=>False
   | _=>False
  | .p x=>match gZ with
   | [a]=>gK s.h a fun y fz=>y=x/\iV (app s.h fz) 100000 args fin
   | _=>False
  | .tu xs=>match gZ with
   | [_]=>False
   | _=>zl s.h gZ fun ys h'=>ys=xs/\iV h' 100000 args fin
def Ds (C:Ctx) (rs:List ResultVar) (args:List Arg) (r:AR) (fin:List Fin) (e:Exit) (s:AS):Prop:=match e with
 | .normal=>Dr C rs args r fin s
 | .ret=>Dr C rs args r fin s
 | _=>False
def xf (tmps:Array Value):ResultVar->Sem Value
 | .tmp t=>pure (tmps.getD t undef)
 | .cell b t=>do loadVar t (<-asAddr (tmps.getD b undef))
theorem B3 {A:dc} (hC:ct A.C) {S:Nat->Prop} {rho:Nat->Value} {s:AS} {a:Act} {w:World} (sim:cm A di di S rho s a w) (r:ResultVar) {K:AV->Prop} (hq:Gz A.C s r K):
  ∃av v,K av/\(xf a.tmps r).run A.C.P w=.ok v w /\
   (∀(S2:Nat->Prop) (h2:Nat->AB),(∀b,S b->S2 b)->cm A di di S2 rho ⟨s.t,h2⟩ a w->bK S2 w A.C.P di rho h2 av v):=by
 cases r with
 | tmp t=>exact⟨s.t t,a.tmps.getD t undef,hq,rfl,fun S2 h2 _ bN=>bN.tm t trivial⟩
 | cell b t=>
  obtain⟨av,v,h1,h2,h3⟩:=wY (o:=Dq b t) (K:=fun v _ _=>match v with | .p x=>K (.p x) | _=>False) t (.tmp b) rfl hC sim (fun _ _=>trivial) hq
  split at h1
  ·rename_i x
   refine⟨_,v,h1,?_,fun S2 qu hS bN=>.p _ _ (h2.fq.mono hS (fun _ _=>rfl))⟩
   have h4:(Instr.loadAt t (a.tmps.getD b undef)).run A.C.P w=.ok v w:=h3
   cases hv:a.tmps.getD b undef with
   | pointer p=>
    rw[hv] at h4
    cases p with
    | none=>simp[Instr.loadAt,Instr.sureAddr,stuck,Sem.run] at h4
    | some ad=>
     have h5:(loadVar t ad).run A.C.P w=.ok v w:=by simpa [Instr.loadAt,Instr.sureAddr] using h4
     show (xf a.tmps (.cell b t)).run _ _=_
     unfold xf
     simp only[hv]
     exact h5
   | _=>rw[hv] at h4;simp[Instr.loadAt,Instr.sureAddr,stuck,Sem.run] at h4
  exact h1.elim
theorem zm {A:dc} (hC:ct A.C) {S:Nat->Prop} {rho:Nat->Value} {s:AS} {a:Act} {w:World} (sim:cm A di di S rho s a w):∀(rs:List ResultVar) {K:List AV->Prop},zk A.C s rs K ->
  ∃gZ vs,K gZ/\gZ.length=vs.length/\(rs.mapM (xf a.tmps)).run A.C.P w=.ok vs w/\vs.length=rs.length /\
   (∀(S2:Nat->Prop) (h2:Nat->AB),(∀b,S b->S2 b)->cm A di di S2 rho ⟨s.t,h2⟩ a w->∀(i:Nat) av v,gZ[i]?=some av->vs[i]?=some v->bK S2 w A.C.P di rho h2 av v):=by
 intro rs
 induction rs with
 | nil=>intro K hq;exact⟨[],[],hq,rfl,rfl,rfl,by simp⟩
 | cons r rs ih=>
  intro K hq
  obtain⟨av,v,hq,h1,h2⟩:=B3 hC sim r hq
  obtain⟨gZ,vs,hq,h3,h4,h5,h6⟩:=ih hq
  refine⟨av::gZ,v::vs,hq,by simp[h3],?_,by simp[h5],fun S2 qu hS bN i x u hx hu=>?_⟩
  ·rw[List.mapM_cons,Sem.run_bind,h1,Result.andThen_ok,Sem.run_bind,h4]
   rfl
  cases i with
  | zero=>simp at hx hu;subst hx hu;exact h2 S2 qu hS bN
  | succ i=>exact h6 S2 qu hS bN i x u (by simpa using hx) (by simpa using hu)
theorem zn {A:dc} (hC:ct A.C) {rho:Nat->Value} {t:Nat->AV} {a:Act} {w:World}:∀(gZ:List AV) (vs:List Value) (S:Nat->Prop) (h:Nat->AB) {K:List PV->(Nat->AB)->Prop},gZ.length=vs.length->cm A di di S rho ⟨t,h⟩ a w ->
  (∀(S2:Nat->Prop) (h2:Nat->AB),(∀b,S b->S2 b)->cm A di di S2 rho ⟨t,h2⟩ a w->∀(i:Nat) av v,gZ[i]?=some av->vs[i]?=some v->bK S2 w A.C.P di rho h2 av v)->zl h gZ K ->
  ∃ys h' S',K ys h'/\cm A di di S' rho ⟨t,h'⟩ a w/\(∀b,S b->S' b)/\ys.length=vs.length/\∀(i:Nat) y v,ys[i]?=some y->vs[i]?=some v->bu S' w y v:=by
 intro gZ
 induction gZ with
 | nil=>
  intro vs S h K hl sim _ hq
  have:vs=[]:=List.eq_nil_of_length_eq_zero hl.symm
  subst this
  exact⟨[],h,S,hq,sim,fun _ h=>h,rfl,by simp⟩
 | cons av gZ ih=>
  intro vs S h K hl sim hrep hq
  cases vs with
  | nil=>simp at hl
  | cons v vs=>
   obtain⟨y,fz,S2,hq,bN,hp,vi,_,_⟩:=gh hC sim (lU.refl h) (hrep S h (fun _ h=>h) sim 0 av v rfl rfl) hq
   obtain⟨ys,h',S',k1,k2,k3,k4,k5⟩:=ih vs S2 (app h fz) (by simpa using hl) bN (fun S3 h3 hS fw i x u hx hu=>hrep S3 h3 (fun b hb=>hS b (vi b hb)) fw (i+1) x u (by simpa using hx) (by simpa using hu)) hq
   refine⟨y::ys,h',S',k1,k2,fun b hb=>k3 b (vi b hb),by simp[k4],fun i z u hz hu=>?_⟩
   cases i with
   | zero=>simp at hz hu;subst hz hu;exact hp.mono k3 (fun _ _=>rfl)
   | succ i=>exact k5 i z u (by simpa using hz) (by simpa using hu)
theorem na {h:Nat->AB} {j:Nat} {x:Arg} {xs:List Arg} {f:Fin} {fs:List Fin} (hx:x.handed=true) (hq:iV h j (x::xs) (f::fs)):iV h (j+1) xs fs:=by
 cases x <;> cases f <;> first | (cases hx;done) | exact hq.elim | exact hq.2 | exact hq
def uS (h:Nat->AB) (j id:Nat):Prop:=id=j\/jO (h j) id=true
theorem Dt {A:dc} {S:Nat->Prop} {rho:Nat->Value} {t:Nat->AV} {h:Nat->AB} {a:Act} {w:World} (sim:cm A di di S rho ⟨t,h⟩ a w):∀(args:List Arg) (fin:List Fin) (vs:List Value) (j:Nat),args.length=vs.length->(∀i v,vs[i]?=some v->(∃x,args[i]?=some x/\x.handed=true)->v=rho (j+i))->iV h j args fin ->
  fx S w A.C.P args fin vs/\∀i g,du w args fin vs i g->∃id,uS h (j+i) id/\(h id).live/\hasB w (h id) (rho id) g/\jo h j args fin id=true:=by
 intro args
 induction args with
 | nil=>intro fin vs j hl _ hq;have:vs=[]:=List.eq_nil_of_length_eq_zero hl.symm;subst this;cases fin with | nil=>exact⟨trivial,fun i g h=>h.elim⟩ | cons f fin=>exact hq.elim
 | cons x args ih=>
  intro fin vs j hl hv hq
  cases vs with
  | nil=>simp at hl
  | cons v vs=>
   have JS:args.length=vs.length:=by simpa using hl
   have yI:∀i v,vs[i]?=some v->(∃x,args[i]?=some x/\x.handed=true)->v=rho (j+1+i):=fun i u h1 ⟨y,h2,h3⟩=>by
    have:=hv (i+1) u (by simpa using h1) ⟨y,by simpa using h2,h3⟩
    rw[this];congr 1;omega
   cases hx:x.handed with
   | false=>
    cases x with
    | pv y=>
     obtain⟨r1,r2⟩:=ih fin vs (j+1) JS yI hq
     refine⟨r1,fun i g hg=>?_⟩
     cases i with
     | zero=>exact hg.elim
     | succ i=>
      obtain⟨id,q1,q2,q3,q4⟩:=r2 i g hg
      exact⟨id,by rw[show j+(i+1)=j+1+i by omega];exact q1,q2,q3,q4⟩
    | row=>cases hx
    | map=>cases hx
    | box=>cases hx
    | bC=>cases hx
   | true=>
    have NC:v=rho j:=hv 0 v rfl ⟨_,rfl,hx⟩
    cases fin with
    | nil=>cases x <;> first | (cases hx;done) | exact hq.elim
    | cons f fin=>
     obtain⟨r1,r2⟩:=ih fin vs (j+1) JS yI (na hx hq)
     have mk:nW S w A.C.P x f v->(∀g,f.kept=true->hasB w (G3 f) v g->∃id,uS h j id/\(h id).live/\hasB w (h id) (rho id) g)->fx S w A.C.P (x::args) (f::fin) (v::vs)/\∀i g,du w (x::args) (f::fin) (v::vs) i g->∃id,uS h (j+i) id/\(h id).live/\hasB w (h id) (rho id) g/\jo h j (x::args) (f::fin) id=true:=by
      intro m1 m2
      refine⟨by cases x <;> first | (cases hx;done) | exact⟨m1,r1⟩,fun i g hg=>?_⟩
      cases i with
      | zero=>
       obtain⟨g1,g2⟩:f.kept=true/\hasB w (G3 f) v g:=by cases x <;> first | (cases hx;done) | exact hg
       obtain⟨id,q1,q2,q3⟩:=m2 g g1 g2
       refine⟨id,q1,q2,q3,?_⟩
       have:(cK j id || jO (h j) id)=true:=by
        rcases q1 with q1 | q1
        ·rw[q1,bH.2 rfl];rfl
        rw[q1];simp
       cases x <;> first | (cases hx;done) | (simp only[jo,g1,this,Bool.true_and,Bool.true_or])
      | succ i=>
       have lJ:du w args fin vs i g:=by cases x <;> first | (cases hx;done) | exact hg
       obtain⟨id,q1,q2,q3,q4⟩:=r2 i g lJ
       refine⟨id,by rw[show j+(i+1)=j+1+i by omega];exact q1,q2,q3,?_⟩
       cases x <;> first | (cases hx;done) | (simp only[jo,q4,Bool.or_true])
     refine mk ?_ ?_
     ·rw[NC]
      cases x with
      | pv y=>cases hx
      | row e es=>
       cases f with
       | gone=>trivial
       | row dw=>
        have hh:=sim.hp j trivial
        have hh:fa S w A.C.P di rho h j (h j):=hh
        rw[hq.1] at hh
        exact⟨hh,fun g hg=>(sim.l5 j g trivial (by show (h j).live;rw[hq.1];trivial) hg).2.1⟩
       | map dw=>exact hq.elim
       | box cs=>exact hq.elim
       | bC cs=>exact hq.elim
      | map mk es=>
       cases f with
       | gone=>trivial
       | map dw=>
        have hh:=sim.hp j trivial
        have hh:fa S w A.C.P di rho h j (h j):=hh
        rw[hq.1] at hh
        exact⟨hh,fun g hg=>(sim.l5 j g trivial (by show (h j).live;rw[hq.1];trivial) hg).2.1⟩
       | row dw=>exact hq.elim
       | box cs=>exact hq.elim
       | bC cs=>exact hq.elim
      | box ys=>
       cases f with
       | gone=>trivial
       | row dw=>exact hq.elim
       | map dw=>exact hq.elim
       | bC dw=>exact hq.elim
       | box cs=>
        obtain⟨kZ,pG⟩:=hq
        split at kZ
        ·rename_i bs hb
         have hh:=sim.hp j trivial
         have hh:fa S w A.C.P di rho h j (h j):=hh
         rw[hb] at hh
         obtain⟨g,ty,c,k1,k2,k3,k4⟩:=hh
         obtain⟨k5,k6⟩:=fS kZ
         refine⟨g,ty,c,k1,k2,by rw[k3,k5],(sim.l5 j g trivial (by show (h j).live;rw[hb];trivial) (by rw[k1];rfl)).2.1,fun i x u hi hu=>?_⟩
         obtain⟨y,hy⟩:∃y,bs[i]?=some y:=⟨_,List.getElem?_eq_getElem (by rw[k5];exact aW hi)⟩
         obtain⟨k7,k8⟩:=k4 i y u hy hu
         exact⟨k7,k8.rz (k6 i y x hy hi)⟩
        exact kZ.elim
      | bC ys=>
       cases f with
       | gone=>trivial
       | row dw=>exact hq.elim
       | map dw=>exact hq.elim
       | box dw=>exact hq.elim
       | bC cs=>
        obtain⟨kZ,pG⟩:=hq
        split at kZ
        ·rename_i bs hb
         subst kZ
         have hh:=sim.hp j trivial
         have hh:fa S w A.C.P di rho h j (h j):=hh
         rw[hb] at hh
         obtain⟨g,ty,c,k1,k2⟩:=hh
         exact⟨g,ty,c,k1,k2,fun k hk=>(sim.lv j k trivial (by show (h j).live;rw[hb];trivial) (by show hasB w (h j) _ _;rw[hb];exact hk)).2.1⟩
        ·rename_i bs hb
         simp only[Bool.and_eq_true] at kZ
         obtain⟨g,ty,c,k1,k2,k3⟩:=xe sim (id:=j) trivial hb kZ.1.1 kZ.2
         refine⟨g,ty,c,k1,k2,fun k hk=>?_⟩
         rcases k3 k hk with hk | ⟨n,_,hn,Fq,hk⟩
         ·exact (sim.l5 j k trivial (by show (h j).live;rw[hb];trivial) hk).2.1
         exact (sim.l5 n k hn Fq hk).2.1
        exact kZ.elim
     intro g hf hg
     rw[NC] at hg
     cases x with
     | pv y=>cases hx
     | row e es=>
      cases f with
      | gone=>cases hf
      | row dw=>exact⟨j,.inl rfl,by rw[hq.1];trivial,.inl (aY rfl hg)⟩
      | map dw=>exact hq.elim
      | box cs=>exact hq.elim
      | bC cs=>exact hq.elim
     | map mk es=>
      cases f with
      | gone=>cases hf
      | map dw=>exact⟨j,.inl rfl,by rw[hq.1];trivial,.inl (aY rfl hg)⟩
      | row dw=>exact hq.elim
      | box cs=>exact hq.elim
      | bC cs=>exact hq.elim
     | box ys=>
      cases f with
      | gone=>cases hf
      | row dw=>exact hq.elim
      | map dw=>exact hq.elim
      | bC dw=>exact hq.elim
      | box cs=>
       obtain⟨kZ,pG⟩:=hq
       split at kZ
       ·rename_i bs hb
        exact⟨j,.inl rfl,by rw[hb];trivial,.inl (aY rfl hg)⟩
       exact kZ.elim
     | bC ys=>
      cases f with
      | gone=>cases hf
      | row dw=>exact hq.elim
      | map dw=>exact hq.elim
      | box dw=>exact hq.elim
      | bC cs=>
       obtain⟨kZ,pG⟩:=hq
       split at kZ
       ·rename_i bs hb
        subst kZ
        exact⟨j,.inl rfl,by rw[hb];trivial,by rw[hb];exact hg⟩
       ·rename_i bs hb
        simp only[Bool.and_eq_true] at kZ
        obtain⟨g',ty,c,k1,k2,k3⟩:=xe sim (id:=j) trivial hb kZ.1.1 kZ.2
        rcases k3 g hg with hk | ⟨n,hm,hn,Fq,hk⟩
        ·exact⟨j,.inl rfl,by rw[hb];trivial,.inl hk⟩
        exact⟨n,.inr (by rw[hb];exact jn.2 hm),Fq,.inl hk⟩
       exact kZ.elim
theorem B4 {h:Nat->AB}:∀(args:List Arg) (fin:List Fin) (w:World) (vs:List Value) (j0:Nat),100000<=j0->iV h j0 args fin->∀i k id g,du w args fin vs i g->du w args fin vs k g->uS h (j0+i) id->uS h (j0+k) id->i=k:=by
 have small:∀(args:List Arg) (fin:List Fin) (w:World) (vs:List Value) (j0:Nat),iV h j0 args fin->∀i g id,du w args fin vs i g->jO (h (j0+i)) id=true->id < 100000/\Dp args=false/\(∀m,i=m+1->∀x xs,args=x::xs->Dp xs=false):=by
  intro args
  induction args with
  | nil=>intro fin w vs j0 _ i g id hg;exact hg.elim
  | cons x args ih=>
   intro fin w vs j0 hq i g id hg hi
   cases vs with
   | nil=>cases fin <;> exact hg.elim
   | cons v vs=>
    cases hx:x.handed with
    | false=>
     cases x with
     | pv y=>
      cases i with
      | zero=>exact hg.elim
      | succ i=>
       obtain⟨h1,h2,_⟩:=ih fin w vs (j0+1) hq i g id hg (by rw[show j0+1+i=j0+(i+1) by omega];exact hi)
       exact⟨h1,h2,fun m hm x xs he=>by injection he with _ he;rw[<-he];exact h2⟩
     | row=>cases hx
     | map=>cases hx
     | box=>cases hx
     | bC=>cases hx
    | true=>
     cases fin with
     | nil=>cases x <;> first | (cases hx;done) | exact hg.elim
     | cons f fin=>
      cases i with
      | succ i=>
       have lJ:du w args fin vs i g:=by cases x <;> first | (cases hx;done) | exact hg
       obtain⟨h1,h2,_⟩:=ih fin w vs (j0+1) (na hx hq) i g id lJ (by rw[show j0+1+i=j0+(i+1) by omega];exact hi)
       exact⟨h1,by cases x <;> first | exact h2 | rfl,fun m hm x xs he=>by injection he with _ he;rw[<-he];exact h2⟩
      | zero=>
       have hf:f.kept=true:=by cases x <;> first | (cases hx;done) | exact hg.1
       have hi:jO (h j0) id=true:=hi
       cases x with
       | pv y=>cases hx
       | row e es=>cases f <;> first | (cases hf;done) | exact hq.elim | (rw[hq.1] at hi;cases hi)
       | map mk es=>cases f <;> first | (cases hf;done) | exact hq.elim | (rw[hq.1] at hi;cases hi)
       | box ys=>
        cases f with
        | gone=>cases hf
        | row dw=>exact hq.elim
        | map dw=>exact hq.elim
        | bC dw=>exact hq.elim
        | box cs=>
         obtain⟨kZ,pG⟩:=hq
         split at kZ
         ·rename_i bs hb
          rw[hb] at hi
          obtain⟨k5,k6⟩:=fS kZ
          obtain⟨n,hn⟩:=List.mem_iff_getElem?.1 (gj.1 (jn.1 hi))
          obtain⟨y,hy⟩:∃y,cs[n]?=some y:=⟨_,List.getElem?_eq_getElem (by rw[<-k5];exact aW hn)⟩
          have:=k6 n _ y hn hy
          rcases this with h | h
          ·cases h
          cases h.1
         exact kZ.elim
       | bC ys=>
        cases f with
        | gone=>cases hf
        | row dw=>exact hq.elim
        | map dw=>exact hq.elim
        | box dw=>exact hq.elim
        | bC cs=>
         obtain⟨kZ,pG⟩:=hq
         split at kZ
         ·rename_i bs hb
          rw[hb] at hi;cases hi
         ·rename_i bs hb
          rw[hb] at hi
          simp only[Bool.and_eq_true] at kZ
          exact⟨kY kZ.1.1 (jn.1 hi),rfl,fun m hm=>by omega⟩
         exact kZ.elim
 have later:∀(args:List Arg) (fin:List Fin) (w:World) (vs:List Value) (j0:Nat),iV h j0 args fin->∀i k g g' id,du w args fin vs i g->du w args fin vs k g'->jO (h (j0+i)) id=true->jO (h (j0+k)) id=true->i < k->False:=by
  intro args
  induction args with
  | nil=>intro fin w vs j0 _ i k g g' id hg;exact hg.elim
  | cons x args ih=>
   intro fin w vs j0 hq i k g g' id hg lJ hi hk fC
   cases vs with
   | nil=>cases fin <;> exact hg.elim
   | cons v vs=>
    obtain⟨k,rfl⟩:∃m,k=m+1:=⟨k - 1,by omega⟩
    cases hx:x.handed with
    | false=>
     cases x with
     | pv y=>
      cases i with
      | zero=>exact hg.elim
      | succ i=>exact ih fin w vs (j0+1) hq i k g g' id hg lJ (by rw[show j0+1+i=j0+(i+1) by omega];exact hi) (by rw[show j0+1+k=j0+(k+1) by omega];exact hk) (by omega)
     | row=>cases hx
     | map=>cases hx
     | box=>cases hx
     | bC=>cases hx
    | true=>
     cases fin with
     | nil=>cases x <;> first | (cases hx;done) | exact hg.elim
     | cons f fin=>
      have Lh:du w args fin vs k g':=by cases x <;> first | (cases hx;done) | exact lJ
      cases i with
      | succ i=>
       have Ou:du w args fin vs i g:=by cases x <;> first | (cases hx;done) | exact hg
       exact ih fin w vs (j0+1) (na hx hq) i k g g' id Ou Lh (by rw[show j0+1+i=j0+(i+1) by omega];exact hi) (by rw[show j0+1+k=j0+(k+1) by omega];exact hk) (by omega)
      | zero=>
       have h2:=(small args fin w vs (j0+1) (na hx hq) k g' id Lh (by rw[show j0+1+k=j0+(k+1) by omega];exact hk)).2.1
       have hf:f.kept=true:=by cases x <;> first | (cases hx;done) | exact hg.1
       have hi:jO (h j0) id=true:=hi
       have h3:=small (x::args) (f::fin) w (v::vs) j0 hq 0 g id hg hi
       cases x with
       | pv y=>cases hx
       | row e es=>cases f <;> first | (cases hf;done) | exact hq.elim | (rw[hq.1] at hi;cases hi)
       | map mk es=>cases f <;> first | (cases hf;done) | exact hq.elim | (rw[hq.1] at hi;cases hi)
       | box ys=>exact (by
         have:Dp (.box ys::args)=false:=h3.2.1
         cases f with
         | gone=>cases hf
         | row dw=>exact hq.elim
         | map dw=>exact hq.elim
         | bC dw=>exact hq.elim
         | box cs=>
          obtain⟨kZ,pG⟩:=hq
          split at kZ
          ·rename_i bs hb
           rw[hb] at hi
           obtain⟨k5,k6⟩:=fS kZ
           obtain⟨n,hn⟩:=List.mem_iff_getElem?.1 (gj.1 (jn.1 hi))
           obtain⟨y,hy⟩:∃y,cs[n]?=some y:=⟨_,List.getElem?_eq_getElem (by rw[<-k5];exact aW hn)⟩
           rcases k6 n _ y hn hy with h | h
           ·cases h
           cases h.1
          exact kZ.elim)
       | bC ys=>
        cases f with
        | gone=>cases hf
        | row dw=>exact hq.elim
        | map dw=>exact hq.elim
        | box dw=>exact hq.elim
        | bC cs=>
         obtain⟨kZ,pG⟩:=hq
         split at kZ
         ·rename_i bs hb
          rw[hb] at hi;cases hi
         ·rename_i bs hb
          simp only[Bool.and_eq_true] at kZ
          rw[kZ.1.2] at h2
          cases h2
         exact kZ.elim
 intro args fin w vs j0 hj hq i k id g hi hk ki kk
 rcases ki with ki | ki <;> rcases kk with kk | kk
 ·omega
 ·have:=(small args fin w vs j0 hq k g id hk kk).1;omega
 ·have:=(small args fin w vs j0 hq i g id hi ki).1;omega
 rcases Nat.lt_trichotomy i k with h | h | h
 ·exact (later args fin w vs j0 hq i k g g id hi hk ki kk h).elim
 ·exact h
 exact (later args fin w vs j0 hq k i g g id hk hi kk ki h).elim
theorem a_.front {P:Program} {S:Nat->Prop} {w:World} {e:TypeId} {xs:List (List PV)} {v u:Value} {a:Option Addr} {n c hi:Nat} (h:a_ P w (bu S w) e xs v) (hv:v=.slice a n c) (hn:hi<=n) (hu:u=.slice a hi c):a_ P w (bu S w) e (xs.take hi) u:=by
 obtain⟨i,ys,h1,h2,h3,h4,h5,h6⟩:=h
 have hF:Flat S w i.size xs ys:=⟨h3.1,h4,h5,h6⟩
 have CC:n=xs.length:=by
  rcases h3.2 with⟨g1,g2⟩ | ⟨g,cap,cur,g1,_⟩
  ·rw[hv] at g1;injection g1 with _ g1 _;omega
  rw[hv] at g1;injection g1
 subst CC
 have CA:=hF.take hi hn
 have hl:(xs.take hi).length=hi:=by rw[List.length_take];omega
 refine a_.of_flat h1 h2 ?_ CA
 refine⟨CA.len,?_⟩
 rw[hl,hu]
 rcases h3.2 with⟨g1,g2⟩ | ⟨g,cap,cur,g1,g2,g3,g4,g5,g6,g7⟩
 ·rw[hv] at g1
  injection g1 with g1 _ g3
  exact .inl ⟨by rw[g1,g3];congr 1;omega,by omega⟩
 rw[hv] at g1
 injection g1 with g1 _ g8
 refine .inr ⟨g,cap,cur,by rw[g1,g8],g2,g3,by omega,g5,g6,?_⟩
 rw[<-g7,List.take_take,Nat.min_eq_left (Nat.mul_le_mul_right _ hn)]
theorem ss (args:List Arg) (j:Nat):mg args (100000+j)=match args[j]? with
  | some x=>Gy x
  | none=>.none:=by
 have h1:Nat.ble 100000 (100000+j)=true:=Nat.ble_eq_true_of_le (by omega)
 have h2:100000+j - 100000=j:=by omega
 simp only[mg,h1,h2]
theorem xg (args:List Arg) (k:Nat) (h:k < 100000):mg args k=.none:=by
 have h1:Nat.ble 100000 k=false:=by
  rw[Bool.eq_false_iff]
  intro h2
  have:=Nat.le_of_ble_eq_true h2
  omega
 simp only[mg,h1]
theorem Du {C:Ctx} {S:Nat->Prop} {w:World} {args:List Arg} {vs:Array Value} (m:Nat) (hm:vs.size+m<=100000) (hE:C.E S w) (hS:∀b,S b->b < w.heap.size) (hl:args.length=vs.size) (hrep:∀(j:Nat) x v,args[j]?=some x->vs[j]?=some v->yF S w C.P x v)
  (hdis:∀(i j:Nat) x y v u g,args[i]?=some x->args[j]?=some y->vs[i]?=some v->vs[j]?=some u->x.handed=true->y.handed=true->hasB w (ve x) v g->hasB w (ve y) u g->i=j):
  cm ⟨C,w,Mv w args vs,S,vs.size+m,fun k=>vs.getD (k - 100000) undef⟩ di di S (fun k=>vs.getD (k - 100000) undef) ⟨uR args,mg args⟩ { tmps:=vs++Array.replicate m undef,defers:=[] } w:=by
 have jX:∀j v,vs[j]?=some v->vs.getD j undef=v:=fun j v h=>by rw[Array.getD_eq_getD_getElem?,h];rfl
 have lV:∀j,vs.getD (100000+j - 100000) undef=vs.getD j undef:=fun j=>by rw[Nat.add_sub_cancel_left]
 have at_:∀j x,args[j]?=some x->∃v,vs[j]?=some v/\vs.getD j undef=v:=fun j x h=>by
  obtain⟨v,hv⟩:=hY hl (aW h)
  exact⟨v,hv,jX j v hv⟩
 have live:∀k,(mg args k).live->∃j x v,k=100000+j/\args[j]?=some x/\vs[j]?=some v/\vs.getD (k - 100000) undef=v/\x.handed=true:=by
  intro k hk
  by_cases fC:k < 100000
  ·rw[xg _ _ fC] at hk;exact hk.elim
  obtain⟨j,rfl⟩:∃j,k=100000+j:=⟨k - 100000,by omega⟩
  rw[ss] at hk
  cases h:args[j]? with
  | none=>rw[h] at hk;exact hk.elim
  | some x=>
   rw[h] at hk
   obtain⟨v,h1,h2⟩:=at_ j x h
   refine⟨j,x,v,rfl,h,h1,by rw[lV];exact h2,?_⟩
   cases x with
   | pv y=>exact hk.elim
   | row=>rfl
   | map=>rfl
   | box=>rfl
   | bC=>rfl
 have Ms:∀(j:Nat) (x:Arg) (v:Value) (g:Nat),args[j]?=some x->vs[j]?=some v->x.handed=true->hasB w (ve x) v g->g < w.heap.size/\¬S g:=by
  intro j x v g h1 h2 h3 h4
  have:=hrep j x v h1 h2
  cases x with
  | pv y=>cases h3
  | map mk es=>
   have h4:=aY rfl h4
   obtain⟨⟨g',ms,cl,rfl,k2,_⟩,hn⟩:=this
   have Cz:=h4
   injection h4 with h4
   subst h4
   exact⟨(Array.getElem?_eq_some_iff.1 k2).1,hn _ Cz⟩
  | row e es=>
   have h4:=aY rfl h4
   obtain⟨⟨i,xs,_,_,ho,_⟩,hn⟩:=this
   exact⟨(ho.lt g (by rw[eB (ec ho).choose_spec.choose_spec];exact h4)).2,hn g h4⟩
  | box cs=>
   have h4:=aY rfl h4
   obtain⟨g',ty,c,rfl,k2,_,k4,_⟩:=this
   injection h4 with h4
   subst h4
   exact⟨(Array.getElem?_eq_some_iff.1 k2).1,k4⟩
  | bC cs=>
   obtain⟨g',ty,c,_,_,k⟩:=this
   exact⟨(k g h4).2,(k g h4).1⟩
 have pL:∀(j:Nat) (x:Arg) (v:Value) (g:Nat),args[j]?=some x->x.handed=true->(hasB w (mg args (100000+j)) v g↔hasB w (ve x) v g):=by
  intro j x v g h1 h2
  rw[ss,h1]
  cases x with
  | pv y=>cases h2
  | row e es=>exact⟨fun h=>.inl (aY rfl h),fun h=>.inl (aY rfl h)⟩
  | map mk es=>exact⟨fun h=>.inl (aY rfl h),fun h=>.inl (aY rfl h)⟩
  | box cs=>exact⟨fun h=>.inl (aY rfl h),fun h=>.inl (aY rfl h)⟩
  | bC cs=>exact Iff.rfl
 exact
 {tm:=fun j _=>by
   show bK _ _ _ _ _ _ (uR args j) ((vs++Array.replicate m undef).getD j undef)
   unfold uR
   cases h:args[j]? with
   | none=>exact .junk _
   | some x=>
    obtain⟨v,h1,h2⟩:=at_ j x h
    have hj:j < vs.size:=by rw[<-hl];exact aW h
    have h3:(vs++Array.replicate m undef).getD j undef=v:=by
     rw[Array.getD_eq_getD_getElem?,Array.getElem?_append_left hj,h1];rfl
    rw[h3]
    have hr:=hrep j x v h h1
    cases x with
    | pv y=>exact .p _ _ hr
    | row e es=>exact .ow _ v fun _=>⟨trivial,by rw[lV];exact h2.symm⟩
    | map mk es=>exact .ow _ v fun _=>⟨trivial,by rw[lV];exact h2.symm⟩
    | box cs=>
     obtain⟨g,ty,c,e1,_⟩:=hr
     exact .bx _ 0 v fun _=>⟨trivial,g,by rw[lV,h2];exact e1,e1⟩
    | bC cs=>
     obtain⟨g,ty,c,e1,_⟩:=hr
     exact .bx _ 0 v fun _=>⟨trivial,g,by rw[lV,h2];exact e1,e1⟩
  sz:=by simp
  df:=rfl,nb:=hm,pn:=fun _ _=>rfl,ev:=hE,s0:=fun _ h=>h,st:=hS,sb:=fun b h=>.inl h
  hp:=fun k _=>by
   show fa _ _ _ _ _ _ k (mg args k)
   by_cases fC:k < 100000
   ·rw[xg _ _ fC];trivial
   obtain⟨j,rfl⟩:∃j,k=100000+j:=⟨k - 100000,by omega⟩
   rw[ss]
   cases h:args[j]? with
   | none=>trivial
   | some x=>
    obtain⟨v,h1,h2⟩:=at_ j x h
    have hr:=hrep j x v h h1
    cases x with
    | pv y=>trivial
    | row e es=>show a_ _ _ _ _ _ (vs.getD (100000+j - 100000) undef);rw[lV,h2];exact hr.1
    | map mk es=>show vd _ _ _ _ (vs.getD (100000+j - 100000) undef);rw[lV,h2];exact hr.1
    | box cs=>
     obtain⟨g,ty,c,e1,e2,e3,e4,e5⟩:=hr
     refine⟨g,ty,c,by simp only;rw[lV,h2];exact e1,e2,by simpa using e3,fun i x u hi hu=>?_⟩
     rw[List.getElem?_map] at hi
     obtain⟨z,hz,rfl⟩:=Option.map_eq_some_iff.1 hi
     exact⟨(e5 i z u hz hu).1,.p _ _ (e5 i z u hz hu).2⟩
    | bC cs=>
     obtain⟨g,ty,c,e1,e2,_⟩:=hr
     exact⟨g,ty,c,by simp only;rw[lV,h2];exact e1,e2⟩
  dj:=fun i j g _ _ li lj hi hj=>by
   obtain⟨i',x,v,e1,h1,h2,h3,h4⟩:=live i li
   obtain⟨j',y,u,e2,k1,k2,k3,k4⟩:=live j lj
   have:=hdis i' j' x y v u g h1 k1 h2 k2 h4 k4 (by rw[<-pL i' x v g h1 h4,<-e1,<-h3];exact hi) (by rw[<-pL j' y u g k1 k4,<-e2,<-k3];exact hj)
   omega
  lv:=fun k g _ lk hk=>by
   obtain⟨j,x,v,e1,h1,h2,h3,h4⟩:=live k lk
   have BA:hasB w (ve x) v g:=by rw[<-pL j x v g h1 h4,<-e1,<-h3];exact hk
   obtain⟨h5,h6⟩:=Ms j x v g h1 h2 h4 BA
   exact⟨h5,h6,.inl ⟨j,x,v,h1,h2,h4,BA⟩⟩
  fr:=Fr.refl _ _ }
theorem xh {P:Program} {fn:Func} {tmps:Array Value} {w:World} {vs:List Value} (h:(fn.results.toList.mapM (xf tmps)).run P w=.ok vs w):
  (results fn tmps).run P w=.ok (if h:vs.toArray.size=1 then vs.toArray[0] else .tuple vs.toArray) w:=by
 have e:results fn tmps=(do let vs <-fn.results.mapM (xf tmps);pure (if h:vs.size=1 then vs[0] else .tuple vs)):=by
  unfold results xf
  rfl
 rw[e,<-Array.toArray_toList (xs:=fn.results),List.mapM_toArray,Sem.run_bind]
 have:(Functor.map List.toArray (fn.results.toList.mapM (xf tmps))).run P w=.ok vs.toArray w:=by
  rw[map_eq_pure_bind,Sem.run_bind,h]
  rfl
 rw[this]
 rfl
theorem HF {C : Ctx} (hC : ct C) {f : FuncId} {fn : Func} {c : Code} (hf : C.P.funcs[f]? = some fn) (hb : fn.body = some c) (lM : (fn.name == "runtime.NumGoroutine") = false) {args : List Arg} {r : AR} {fin : List Fin} (hn : args.length + (fn.ntmps - args.length) ≤ 100000)
  (h:∀A:dc,A.C=C->A.n=args.length+(fn.ntmps - args.length)->W A c (Ds C fn.results.toList args r fin) ⟨uR args,mg args⟩):aw C f args r fin:=by
 refine⟨⟨fn,hf,lM,by rw[hb];rfl⟩,fun S w vs hE hS hl hrep hdis=>?_⟩
 have sim:=Du (fn.ntmps - vs.size) (by rw[<-hl];exact hn) hE hS hl hrep hdis
 refine calls_of_wp hf hb ?_
 have hw:=h ⟨C,w,Mv w args vs,S,vs.size+(fn.ntmps - vs.size),fun k=>vs.getD (k - 100000) undef⟩ rfl (by rw[hl])
 refine wp_mono (hw S _ _ w sim) fun e a' w' hq=>?_
 obtain⟨S',rho',s',cg,hk⟩:=hq
 have Dd:Dr C fn.results.toList args r fin s'->a'.defers=[]/\∃v,(results fn a'.tmps).run C.P w'=.ok v w'/\∃v0 S',Ending.returned v=.returned v0/\Fr (Mv w args vs) w w'/\(∀b,S b->S' b)/\(∀b,S' b->b < w'.heap.size)/\(∀b,S' b->S b\/w.heap.size<=b\/Mv w args vs b)/\
   CF S' w' C.P r v0/\fx S' w' C.P args fin vs.toList/\oE w w' args fin vs/\(∀g,r.owns=true->hasB w' r.ab v0 g->g < w'.heap.size/\(w.heap.size<=g\/Mv w args vs g)/\∀i,¬du w' args fin vs.toList i g):=by
  intro hk
  refine⟨cg.df,?_⟩
  obtain⟨gZ,us,hk,h1,h2,h3,h4⟩:=zm (A:=⟨C,w,Mv w args vs,S,vs.size+(fn.ntmps - vs.size),fun k=>vs.getD (k - 100000) undef⟩) hC cg fn.results.toList hk
  have hrun:=xh h2
  have uC:args.length=vs.toList.length:=by simpa using hl
  have Mt:∀(S2:Nat->Prop) (h2:Nat->AB),cm ⟨C,w,Mv w args vs,S,vs.size+(fn.ntmps - vs.size),fun k=>vs.getD (k - 100000) undef⟩ di di S2 rho' ⟨s'.t,h2⟩ a' w'->∀i u,vs.toList[i]?=some u->(∃x,args[i]?=some x/\x.handed=true)->u=rho' (100000+i):=fun S2 h2 bN i u hu _=>by
   rw[bN.pn (100000+i) (by omega)]
   have nZ:vs[i]?=some u:=by simpa using hu
   show u=vs.getD (100000+i - 100000) undef
   rw[Nat.add_sub_cancel_left,Array.getD_eq_getD_getElem?,nZ]
   rfl
  have fk:∀(S2:Nat->Prop) (h2:Nat->AB),cm ⟨C,w,Mv w args vs,S,vs.size+(fn.ntmps - vs.size),fun k=>vs.getD (k - 100000) undef⟩ di di S2 rho' ⟨s'.t,h2⟩ a' w'->iV h2 100000 args fin->fx S2 w' C.P args fin vs.toList/\(∀i g,du w' args fin vs.toList i g->∃id,uS h2 (100000+i) id/\(h2 id).live/\hasB w' (h2 id) (rho' id) g/\jo h2 100000 args fin id=true)/\oE w w' args fin vs:=by
   intro S2 h2 bN fm
   obtain⟨r1,r2⟩:=Dt bN args fin vs.toList 100000 uC (Mt S2 h2 bN) fm
   refine⟨r1,r2,fun i g hg=>?_,fun i j g hi hj=>?_⟩
   ·obtain⟨id,_,q2,q3,_⟩:=r2 i g hg
    obtain⟨p1,_,p3⟩:=bN.lv id g trivial q2 q3
    exact⟨p1,p3.symm⟩
   obtain⟨id,q1,q2,q3,_⟩:=r2 i g hi
   obtain⟨tR,p1,p2,p3,_⟩:=r2 j g hj
   have:=bN.dj id tR g trivial trivial q2 p2 q3 p3
   subst this
   exact B4 args fin w' vs.toList 100000 (Nat.le_refl _) fm i j id g hi hj q1 p1
  have outer:∀(S2:Nat->Prop) (h2:Nat->AB) (v:Value),cm ⟨C,w,Mv w args vs,S,vs.size+(fn.ntmps - vs.size),fun k=>vs.getD (k - 100000) undef⟩ di di S2 rho' ⟨s'.t,h2⟩ a' w'->(results fn a'.tmps).run C.P w'=.ok v w'->CF S2 w' C.P r v->iV h2 100000 args fin->(∀g,r.owns=true->hasB w' r.ab v g->g < w'.heap.size/\(w.heap.size<=g\/Mv w args vs g)/\∀i,¬du w' args fin vs.toList i g)->
    ∃v,(results fn a'.tmps).run C.P w'=.ok v w'/\∃v0 S',Ending.returned v=.returned v0/\Fr (Mv w args vs) w w'/\(∀b,S b->S' b)/\(∀b,S' b->b < w'.heap.size)/\(∀b,S' b->S b\/w.heap.size<=b\/Mv w args vs b)/\
   CF S' w' C.P r v0/\fx S' w' C.P args fin vs.toList/\oE w w' args fin vs/\(∀g,r.owns=true->hasB w' r.ab v0 g->g < w'.heap.size/\(w.heap.size<=g\/Mv w args vs g)/\∀i,¬du w' args fin vs.toList i g):=by
   intro S2 h2 v bN hr JW fm hown
   refine⟨v,hr,v,S2,rfl,bN.fr,bN.s0,bN.st,fun b hb=>?_,JW,(fk S2 h2 bN fm).1,(fk S2 h2 bN fm).2.2,hown⟩
   rcases bN.sb b hb with h | h | h
   ·exact .inl h
   ·exact .inr (.inr h)
   exact .inr (.inl h)
  cases r with
  | own e es=>
   simp only at hk
   split at hk
   ·rename_i av
    obtain⟨u,rfl⟩:∃u,us=[u]:=by
     match us,h1 with
     | [u],_=>exact⟨u,rfl⟩
    have su:(results fn a'.tmps).run C.P w'=.ok u w':=hrun
    split at hk
    ·rename_i i
     obtain⟨k1,k2,k3⟩:=hk
     have hu:=h4 S' s'.h (fun _ h=>h) cg 0 _ u rfl rfl
     obtain⟨_,hv⟩:=hu.db (by rw[k1];trivial)
     have hh:=cg.hp i trivial
     rw[k1] at hh
     have cI:(s'.h i).live:=by rw[k1];trivial
     refine outer S' s'.h u cg su ⟨by rw[hv];exact hh,fun g hg=>(cg.l5 i g trivial cI (by rw[<-hv];exact hg)).2.1⟩ k3 fun g _ JX=>?_
     have hg:cW u=some g:=aY rfl JX
     have lJ:cW (rho' i)=some g:=by rw[<-hv];exact hg
     obtain⟨l1,l2,l3⟩:=cg.l5 i g trivial cI lJ
     refine⟨l1,l3.symm,fun n JY=>?_⟩
     obtain⟨i',_,m1,m2,m3⟩:=(fk S' s'.h cg k3).2.1 n g JY
     have:=cg.dj i i' g trivial trivial cI m1 (.inl lJ) m2
     subst this
     rw[k2] at m3
     cases m3
    ·rename_i i lo hi
     have Ov:lo=0/\∃xs,s'.h i=.row e xs/\es=xs.take hi/\jo s'.h 100000 args fin i=false/\iV s'.h 100000 args fin:=by
      cases lo with
      | succ n=>exact hk.elim
      | zero=>
       cases hr:s'.h i with
       | row e' xs=>
        rw[hr] at hk
        simp only at hk
        split at hk
        ·rename_i tN
         rw[bH.1 tN]
         exact⟨rfl,xs,rfl,hk⟩
        exact hk.elim
       | _=>rw[hr] at hk;exact hk.elim
     obtain⟨rfl,xs,a7,k1,k2,k3⟩:=Ov
     have hu:=h4 S' s'.h (fun _ h=>h) cg 0 _ u rfl rfl
     obtain⟨_,n,cp,ad,ti,q1,q2,_,q3,q4,hv⟩:=hu.Da a7
     have hh:=cg.hp i trivial
     rw[a7] at hh
     have hh:a_ C.P w' (bu S' w') e xs (rho' i):=hh
     have cI:(s'.h i).live:=by rw[a7];trivial
     have hblk:∀g,cW u=some g->cW (rho' i)=some g:=by
      intro g hg
      rw[hv] at hg
      rw[q1]
      split at hg
      ·cases ad <;> exact hg
      cases ad with
      | none=>cases hg
      | some a0=>
       simp only[Option.map_some,Nat.zero_mul,Addr.add,if_pos] at hg
       exact hg
     refine outer S' s'.h u cg su ⟨?_,fun g hg=>(cg.l5 i g trivial cI (hblk g hg)).2.1⟩ k3 fun g _ JX=>?_
     ·rw[k1]
      exact a_.front hh q1 q3 (by rw[hv];simp[Addr.add])
     have hg:cW u=some g:=aY rfl JX
     obtain⟨l1,l2,l3⟩:=cg.l5 i g trivial cI (hblk g hg)
     refine⟨l1,l3.symm,fun n JY=>?_⟩
     obtain⟨i',_,m1,m2,m3⟩:=(fk S' s'.h cg k3).2.1 n g JY
     have:=cg.dj i i' g trivial trivial cI m1 (.inl (hblk g hg)) m2
     subst this
     rw[k2] at m3
     cases m3
    ·split at hk
     case h_2=>exact hk.elim
     rename_i ti hT
     split at hk
     case h_2=>exact hk.elim
     rename_i hpos
     obtain⟨k1,k3⟩:=hk
     subst k1
     obtain⟨info,z,g1,g2,_⟩:=hC.gw e ti hT
     have hu:=h4 S' s'.h (fun _ h=>h) cg 0 _ u rfl rfl
     have nZ:u=.slice none 0 0:=by cases hu;rfl
     subst nZ
     exact outer S' s'.h _ cg su ⟨⟨info,[],g1,by have:=Nat.le_of_ble_eq_true hpos;omega,World.ownsRow_nil _ _ _ _,by simp,by simp,by simp⟩,fun g hg=>by cases hg⟩ k3 fun g _ hg=>by cases aY rfl hg
    exact hk.elim
   exact hk.elim
  | hown cs=>
   simp only at hk
   split at hk
   ·rename_i av
    obtain⟨u,rfl⟩:∃u,us=[u]:=by
     match us,h1 with
     | [u],_=>exact⟨u,rfl⟩
    have su:(results fn a'.tmps).run C.P w'=.ok u w':=hrun
    split at hk
    ·rename_i i off
     cases off with
     | succ n=>exact hk.elim
     | zero=>
      obtain⟨k1,k2,k3⟩:=hk
      have hu:=h4 S' s'.h (fun _ h=>h) cg 0 _ u rfl rfl
      obtain⟨_,g0,JX,hv⟩:=hu.gz (by rw[k1];trivial)
      have ND:u=rho' i:=by rw[hv,JX]
      have hh:=cg.hp i trivial
      rw[k1] at hh
      obtain⟨g1,ty,c,e1,e2⟩:=hh
      have cI:(s'.h i).live:=by rw[k1];trivial
      have HG:∀k,hasB w' (.bC cs) u k->hasB w' (s'.h i) (rho' i) k:=fun k hk=>by rw[k1,<-ND];exact hk
      refine outer S' s'.h u cg su ⟨g1,ty,c,by rw[ND];exact e1,e2,fun k hk=>(cg.lv i k trivial cI (HG k hk)).2.1⟩ k3 fun g _ hg=>?_
      have lJ:=HG g hg
      obtain⟨l1,l2,l3⟩:=cg.lv i g trivial cI lJ
      refine⟨l1,l3.symm,fun n JY=>?_⟩
      obtain⟨i',_,m1,m2,m3⟩:=(fk S' s'.h cg k3).2.1 n g JY
      have:=cg.dj i i' g trivial trivial cI m1 lJ m2
      subst this
      rw[k2] at m3
      cases m3
    exact hk.elim
   exact hk.elim
  | p x=>
   simp only at hk
   split at hk
   ·rename_i av
    obtain⟨u,rfl⟩:∃u,us=[u]:=by
     match us,h1 with
     | [u],_=>exact⟨u,rfl⟩
    have su:(results fn a'.tmps).run C.P w'=.ok u w':=hrun
    obtain⟨y,fz,S2,⟨rfl,fm⟩,bN,hp,vi,_,_⟩:=gh hC (s:=⟨s'.t,s'.h⟩) cg (lU.refl s'.h) (h4 S' s'.h (fun _ h=>h) cg 0 _ u rfl rfl) hk
    exact outer S2 _ u bN su hp fm (fun g h=>by cases h)
   exact hk.elim
  | tu xs=>
   simp only at hk
   split at hk
   ·exact hk.elim
   rename_i dh
   obtain⟨ys,h',S2,⟨rfl,fm⟩,bN,vi,hlen,hp⟩:=zn hC gZ us S' s'.h h1 cg (fun S2 h2 hS bN=>h4 S2 h2 hS bN) hk
   have Ow:us.toArray.size≠1:=by
    intro e
    have e1:us.length=1:=by simpa using e
    obtain⟨q,hq⟩:=List.length_eq_one_iff.1 (h1.trans e1)
    exact dh q hq
   rw[dif_neg Ow] at hrun
   refine outer S2 h' _ bN hrun ⟨us.toArray,rfl,by simpa using hlen,fun i x u hx hu=>hp i x u hx (by simpa using hu)⟩ fm (fun g h=>by cases h)
 cases e with
 | normal=>exact Dd hk
 | ret=>exact Dd hk
 | exit id=>exact hk.elim
 | goto l=>exact hk.elim
 | panic c=>exact hk.elim
 | outgrown=>exact hk.elim
end Go.AM
