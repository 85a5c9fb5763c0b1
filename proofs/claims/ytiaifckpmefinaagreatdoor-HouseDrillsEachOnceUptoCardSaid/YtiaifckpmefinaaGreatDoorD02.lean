/- Part 2 of 11 of the proof of HouseDrillsEachOnce (the names are shortened by a program: the size of a claim is limited). -/
import Derived.Test.YtiaifckpmefinaaGreatDoorD01
set_option linter.unusedVariables false
set_option linter.unusedSimpArgs false
set_option maxRecDepth 100000
set_option maxHeartbeats 8000000
namespace Go.AM
open Go.RowKit
theorem lI {S S':Nat->Prop} {w w':World} {x:PV} {v:Value} (h:CW x=true) (hx:az S w x v):az S' w' x v:=by
 cases hx with
 | im=>exact .im _
 | ag cs vs hl h1 hc=>
  refine .ag cs vs hl h1 fun i c v hi hv=>?_
  have hm:=List.mem_of_getElem? hi
  have:=List.all_eq_true.1 h c hm
  have Qg:=hc i c v hi hv
  cases c with
  | im y=>cases Qg;exact .im _
  | _=>cases this
 | nil=>cases h
 | sl=>cases h
 | ip=>cases h
 | fn=>cases h
theorem bd.grow {A:bE} {V L S:Nat->Prop} {rho:Nat->Value} {s:AS} {a:Act} {w:World} (sim:bd A V L S rho s a w) (hC:a8 A.C) (w':World) (hf:Fr (fun _=>False) w w'):bd A V L S rho s a w':=by
 have f_:∀b,S b->w'.heap[b]?=w.heap[b]?:=fun k hk=>hf.block k (sim.st k hk) (fun h=>h)
 have T:g_ S S w w' L L rho rho s.h s.h:=⟨fun b h=>h,f_,fun j hj=>⟨hj,fun hl=>⟨hl,rfl⟩⟩,fun j e' hj=>hj⟩
 exact
 {tm:=fun j hj=>(sim.tm j hj).bP T
  sz:=sim.sz,df:=sim.df,nb:=sim.nb,pn:=sim.pn
  ev:=hC.env _ _ _ _ sim.ev (fun b h=>h) f_ hf.size
  s0:=sim.s0
  st:=fun b hb=>Nat.lt_of_lt_of_le (sim.st b hb) hf.size
  sb:=sim.sb
  hp:=fun j hj=>(sim.hp j hj).bP T (fun li g hg=>hf.block g (sim.lv j g hj li hg).1 (fun h=>h)) (fun _=>rfl)
  dj:=fun i j g hi hj li lj dk fQ=>sim.dj i j g hi hj li lj (bZ (fun k hk=>hf.block k (sim.kE i k hi li hk).1 (fun h=>h)) dk) (bZ (fun k hk=>hf.block k (sim.kE j k hj lj hk).1 (fun h=>h)) fQ)
  lv:=fun i g hi li hg=>by obtain⟨h1,h2⟩:=sim.lv i g hi li (bZ (fun k hk=>hf.block k (sim.kE i k hi li hk).1 (fun h=>h)) hg);exact⟨Nat.lt_of_lt_of_le h1 hf.size,h2⟩
  fr:=sim.fr.next hf.os hf.tape hf.output hf.size fun k hk _=>hf.block k (Nat.lt_of_lt_of_le hk sim.fr.size) (fun h=>h) }
inductive dG (L:Nat->Prop) (rho:Nat->Value) (h:Nat->AB):List Arg->List Value->List (Nat×AB)->Prop
 | nil:dG L rho h [] [] []
 | pv (x:PV) (v:Value) {xs:List Arg} {vs:List Value} {ids:List (Nat×AB)} (hr:dG L rho h xs vs ids):dG L rho h (.pv x::xs) (v::vs) ids
 | row (id:Nat) (e:TypeId) (es:List (List PV)) {xs:List Arg} {vs:List Value} {ids:List (Nat×AB)} (hL:L id) (hid:h id=.row e es) (hr:dG L rho h xs vs ids):dG L rho h (.row e es::xs) (rho id::vs) ((id,.row e es)::ids)
 | map (id:Nat) (mk:MK) (es:List (Value×PV)) {xs:List Arg} {vs:List Value} {ids:List (Nat×AB)} (hL:L id) (hid:h id=.map mk es) (hr:dG L rho h xs vs ids):dG L rho h (.map mk es::xs) (rho id::vs) ((id,.map mk es)::ids)
 | box (id:Nat) (cs:List AV) (ys:List PV) {xs:List Arg} {vs:List Value} {ids:List (Nat×AB)} (hL:L id) (hid:h id=.box cs) (hy:cv cs=some ys) (hr:dG L rho h xs vs ids):dG L rho h (.box ys::xs) (rho id::vs) ((id,.box cs)::ids)
 | aC (id:Nat) (cs:List HC) {xs:List Arg} {vs:List Value} {ids:List (Nat×AB)} (hL:L id) (hid:h id=.aC cs) (hr:dG L rho h xs vs ids):dG L rho h (.aC cs::xs) (rho id::vs) ((id,.aC cs)::ids)
theorem BS {A:bE} (hC:a8 A.C) {V L:Nat->Prop} {rho:Nat->Value} {t:Nat->AV} {a:Act} {w:World} {h:Nat->AB} {md:Nat->Bool}:
  ∀(fL:List AV) (vs:List Value) (j:Nat) (h':Nat->AB) (S:Nat->Prop) (K:List Arg->List (Nat×AB)->List (Nat×AB)->Prop),fL.length=vs.length->bd A V L S rho ⟨t,h'⟩ a w->kv h h' ->
   (∀(S2:Nat->Prop) (h2:Nat->AB),bd A V L S2 rho ⟨t,h2⟩ a w->∀(i:Nat) x v,fL[i]?=some x->vs[i]?=some v->aI S2 w A.C.P L rho h2 x v)->
   (∀id,(h' id).there->(h id).there)->dU md h j fL K ->
  ∃xs ids fz S',K xs ids fz/\bd A V L S' rho ⟨t,app h' fz⟩ a w/\(∀b,S b->S' b)/\kv h (app h' fz)/\(∀p∈fz,L p.1)/\xs.length=vs.length/\dG L rho h xs vs ids/\(∀(i:Nat) x v,xs[i]?=some (.pv x)->vs[i]?=some v->az S' w x v):=by
 intro fL
 induction fL with
 | nil=>
  intro vs j h' S K hl sim hF hrep _ hq
  have:vs=[]:=List.eq_nil_of_length_eq_zero hl.symm
  subst this
  exact⟨[],[],[],S,hq,sim,fun _ h=>h,hF,by simp,rfl,.nil,by simp⟩
 | cons x fL ih=>
  intro vs j h' S K hl sim hF hrep hth hq
  cases vs with
  | nil=>simp at hl
  | cons v vs=>
   simp only[List.length_cons,Nat.add_right_cancel_iff] at hl
   have hx:aI S w A.C.P L rho h' x v:=hrep S h' sim 0 x v rfl rfl
   have ru:∀(S2:Nat->Prop) (h2:Nat->AB),bd A V L S2 rho ⟨t,h2⟩ a w->∀(i:Nat) x v,fL[i]?=some x->vs[i]?=some v->aI S2 w A.C.P L rho h2 x v:=fun S2 h2 s2 i x v h3 h4=>hrep S2 h2 s2 (i+1) x v (by simpa using h3) (by simpa using h4)
   unfold dU at hq
   split at hq
   ·obtain⟨y,fz,S2,hq,aP,hp,uF,CQ,wB⟩:=eM hC sim hF hx hq
    have Nc:∀id,(app h' fz id).there->(h id).there:=fun id ht=>by
     rcases CQ id with h1 | ⟨e',xs,h1,h2⟩ | ⟨cs,xs,h1,_,h2⟩
     ·rw[h1] at ht;exact ht
     ·rw[h1];trivial
     rw[h1];trivial
    obtain⟨xs,ids,iL,S',k1,k2,k3,k4,k5,k6,k7,k8⟩:=ih vs (j+1) (app h' fz) S2 _ hl aP CQ ru Nc hq
    refine⟨.pv y::xs,ids,fz++iL,S',k1,by rw[bq];exact k2,fun b hb=>k3 b (uF b hb),by rw[bq];exact k4,fun p hp=>(List.mem_append.1 hp).elim (wB p) (k5 p),by simp[k6],.pv y v k7,fun i x u h3 h4=>?_⟩
    cases i with
    | zero=>simp at h3 h4;subst h3 h4;exact hp.mono k3 (fun _ _=>rfl)
    | succ i=>exact k8 i x u (by simpa using h3) (by simpa using h4)
   split at hq
   ·rename_i id
    split at hq
    ·rename_i e es an
     obtain⟨xs,ids,iL,S',k1,k2,k3,k4,k5,k6,k7,k8⟩:=ih vs (j+1) h' S _ hl sim hF ru hth hq
     have ht:(h' id).there:=by
      rcases hF id with h1 | ⟨e',xs,h1,h2⟩ | ⟨cs,xs,h1,_,h2⟩
      ·rw[h1,an];trivial
      ·rw[h2];trivial
      rw[h2];trivial
     obtain⟨hL,rfl⟩:=hx.bF ht
     refine⟨.row e es::xs,(id,.row e es)::ids,iL,S',k1,k2,k3,k4,k5,by simp[k6],.row id e es hL an k7,fun i x u h3 h4=>?_⟩
     cases i with
     | zero=>simp at h3
     | succ i=>exact k8 i x u (by simpa using h3) (by simpa using h4)
    ·rename_i es GR
     obtain⟨xs,ids,iL,S',k1,k2,k3,k4,k5,k6,k7,k8⟩:=ih vs (j+1) h' S _ hl sim hF ru hth hq
     have he:h' id=.fK es:=by
      rcases hF id with h1 | ⟨e',xs,h1,h2⟩ | ⟨cs,xs,h1,_,h2⟩
      ·rw[h1,GR]
      ·rw[GR] at h1;cases h1
      rw[GR] at h1;cases h1
     obtain⟨hL,rfl⟩:=hx.bF (by rw[he];trivial)
     have hh:=sim.hp id hL
     have hh:cZ S w A.C.P L rho h' id (h' id):=hh
     rw[he] at hh
     refine⟨.pv (.sl es)::xs,ids,iL,S',k1,k2,k3,k4,k5,by simp[k6],.pv _ _ k7,fun i x u h3 h4=>?_⟩
     cases i with
     | zero=>simp at h3 h4;subst h3 h4;exact az.mono hh k3 (fun _ _=>rfl)
     | succ i=>exact k8 i x u (by simpa using h3) (by simpa using h4)
    ·rename_i mk es an
     obtain⟨xs,ids,iL,S',k1,k2,k3,k4,k5,k6,k7,k8⟩:=ih vs (j+1) h' S _ hl sim hF ru hth hq
     have ht:(h' id).there:=by
      rcases hF id with h1 | ⟨e',xs,h1,h2⟩ | ⟨cs,xs,h1,_,h2⟩
      ·rw[h1,an];trivial
      ·rw[h2];trivial
      rw[h2];trivial
     obtain⟨hL,rfl⟩:=hx.bF ht
     refine⟨.map mk es::xs,(id,.map mk es)::ids,iL,S',k1,k2,k3,k4,k5,by simp[k6],.map id mk es hL an k7,fun i x u h3 h4=>?_⟩
     cases i with
     | zero=>simp at h3
     | succ i=>exact k8 i x u (by simpa using h3) (by simpa using h4)
    exact hq.elim
   ·obtain⟨xs,ids,iL,S',k1,k2,k3,k4,k5,k6,k7,k8⟩:=ih vs (j+1) h' S _ hl sim hF ru hth hq
    refine⟨.pv _::xs,ids,iL,S',k1,k2,k3,k4,k5,by simp[k6],.pv _ _ k7,fun i x u h3 h4=>?_⟩
    cases i with
    | zero=>simp at h3 h4;subst h3 h4;exact hx.dE.mono k3 (fun _ _=>rfl)
    | succ i=>exact k8 i x u (by simpa using h3) (by simpa using h4)
   ·rename_i id
    split at hq
    ·rename_i cs aC
     split at hq
     ·rename_i ys HY
      obtain⟨xs,ids,iL,S',k1,k2,k3,k4,k5,k6,k7,k8⟩:=ih vs (j+1) h' S _ hl sim hF ru hth hq
      have ht:(h' id).there:=by
       rcases hF id with h1 | ⟨e',xs,h1,h2⟩ | ⟨cs,xs,h1,_,h2⟩
       ·rw[h1,aC];trivial
       ·rw[h2];trivial
       rw[h2];trivial
      obtain⟨hL,g,hg,hv⟩:=hx.eY ht
      have wv:v=rho id:=by rw[hv,hg]
      subst wv
      refine⟨.box ys::xs,(id,.box cs)::ids,iL,S',k1,k2,k3,k4,k5,by simp[k6],.box id cs ys hL aC HY k7,fun i x u h3 h4=>?_⟩
      cases i with
      | zero=>simp at h3
      | succ i=>exact k8 i x u (by simpa using h3) (by simpa using h4)
     exact hq.elim
    ·rename_i cs aC
     obtain⟨xs,ids,iL,S',k1,k2,k3,k4,k5,k6,k7,k8⟩:=ih vs (j+1) h' S _ hl sim hF ru hth hq
     have ht:(h' id).there:=by
      rcases hF id with h1 | ⟨e',xs,h1,h2⟩ | ⟨cs,xs,h1,_,h2⟩
      ·rw[h1,aC];trivial
      ·rw[h2];trivial
      rw[h2];trivial
     obtain⟨hL,g,hg,hv⟩:=hx.eY ht
     have wv:v=rho id:=by rw[hv,hg]
     subst wv
     refine⟨.aC cs::xs,(id,.aC cs)::ids,iL,S',k1,k2,k3,k4,k5,by simp[k6],.aC id cs hL aC k7,fun i x u h3 h4=>?_⟩
     cases i with
     | zero=>simp at h3
     | succ i=>exact k8 i x u (by simpa using h3) (by simpa using h4)
    exact hq.elim
   exact hq.elim
theorem dG.at {L:Nat->Prop} {rho:Nat->Value} {h:Nat->AB} {xs:List Arg} {vs:List Value} {ids:List (Nat×AB)} (H:dG L rho h xs vs ids):∀(j:Nat) x v,xs[j]?=some x->vs[j]?=some v->x.handed=true->∃id b,(id,b)∈ids/\L id/\h id=b/\v=rho id/\(((∃e es,x=.row e es/\b=.row e es)\/∃mk es,x=.map mk es/\b=.map mk es)\/(∃cs ys,x=.box ys/\b=.box cs/\cv cs=some ys)\/∃cs,x=.aC cs/\b=.aC cs):=by
 induction H with
 | nil=>intro j x v h1;simp at h1
 | pv y u hr ih=>
  intro j x v h1 h2 h3
  cases j with
  | zero=>simp at h1;subst h1;cases h3
  | succ j=>exact ih j x v (by simpa using h1) (by simpa using h2) h3
 | row id e es hL hid hr ih=>
  intro j x v h1 h2 h3
  cases j with
  | zero=>simp at h1 h2;subst h1 h2;exact⟨id,_,by simp,hL,hid,rfl,.inl (.inl ⟨e,es,rfl,rfl⟩)⟩
  | succ j=>obtain⟨i,b,m,r⟩:=ih j x v (by simpa using h1) (by simpa using h2) h3;exact⟨i,b,by simp[m],r⟩
 | map id mk es hL hid hr ih=>
  intro j x v h1 h2 h3
  cases j with
  | zero=>simp at h1 h2;subst h1 h2;exact⟨id,_,by simp,hL,hid,rfl,.inl (.inr ⟨mk,es,rfl,rfl⟩)⟩
  | succ j=>obtain⟨i,b,m,r⟩:=ih j x v (by simpa using h1) (by simpa using h2) h3;exact⟨i,b,by simp[m],r⟩
 | box id cs ys hL hid hy hr ih=>
  intro j x v h1 h2 h3
  cases j with
  | zero=>simp at h1 h2;subst h1 h2;exact⟨id,_,by simp,hL,hid,rfl,.inr (.inl ⟨cs,ys,rfl,rfl,hy⟩)⟩
  | succ j=>obtain⟨i,b,m,r⟩:=ih j x v (by simpa using h1) (by simpa using h2) h3;exact⟨i,b,by simp[m],r⟩
 | aC id cs hL hid hr ih=>
  intro j x v h1 h2 h3
  cases j with
  | zero=>simp at h1 h2;subst h1 h2;exact⟨id,_,by simp,hL,hid,rfl,.inr (.inr ⟨cs,rfl,rfl⟩)⟩
  | succ j=>obtain⟨i,b,m,r⟩:=ih j x v (by simpa using h1) (by simpa using h2) h3;exact⟨i,b,by simp[m],r⟩
theorem dG.back {L:Nat->Prop} {rho:Nat->Value} {h:Nat->AB} {xs:List Arg} {vs:List Value} {ids:List (Nat×AB)} (H:dG L rho h xs vs ids):∀id b,(id,b)∈ids->L id/\h id=b/\b.live/\∃(j:Nat) (x:Arg),xs[j]?=some x/\vs[j]?=some (rho id)/\x.handed=true:=by
 induction H with
 | nil=>intro id b h;cases h
 | pv y u hr ih=>intro id b h;obtain⟨h1,h2,h3,j,x,h4⟩:=ih id b h;exact⟨h1,h2,h3,j+1,x,by simpa using h4⟩
 | row i e es hL hid hr ih=>
  intro id b h
  rcases List.mem_cons.1 h with h | h
  ·injection h with h1 h2;subst h1 h2;exact⟨hL,hid,trivial,0,_,rfl,rfl,rfl⟩
  obtain⟨h1,h2,h3,j,x,h4⟩:=ih id b h;exact⟨h1,h2,h3,j+1,x,by simpa using h4⟩
 | map i mk es hL hid hr ih=>
  intro id b h
  rcases List.mem_cons.1 h with h | h
  ·injection h with h1 h2;subst h1 h2;exact⟨hL,hid,trivial,0,_,rfl,rfl,rfl⟩
  obtain⟨h1,h2,h3,j,x,h4⟩:=ih id b h;exact⟨h1,h2,h3,j+1,x,by simpa using h4⟩
 | box i cs ys hL hid hy hr ih=>
  intro id b h
  rcases List.mem_cons.1 h with h | h
  ·injection h with h1 h2;subst h1 h2;exact⟨hL,hid,trivial,0,_,rfl,rfl,rfl⟩
  obtain⟨h1,h2,h3,j,x,h4⟩:=ih id b h;exact⟨h1,h2,h3,j+1,x,by simpa using h4⟩
 | aC i cs hL hid hr ih=>
  intro id b h
  rcases List.mem_cons.1 h with h | h
  ·injection h with h1 h2;subst h1 h2;exact⟨hL,hid,trivial,0,_,rfl,rfl,rfl⟩
  obtain⟨h1,h2,h3,j,x,h4⟩:=ih id b h;exact⟨h1,h2,h3,j+1,x,by simpa using h4⟩
theorem dG.inj {L:Nat->Prop} {rho:Nat->Value} {h:Nat->AB} {xs:List Arg} {vs:List Value} {ids:List (Nat×AB)} (H:dG L rho h xs vs ids) (hn:(ids.map (·.1)).Nodup):∀(i j:Nat) x y v u,xs[i]?=some x->xs[j]?=some y->vs[i]?=some v->vs[j]?=some u->x.handed=true->y.handed=true->i≠j ->
  ∃yH mW b1 b2,yH≠mW/\(yH,b1)∈ids/\(mW,b2)∈ids/\v=rho yH/\u=rho mW/\(((∃e es,x=.row e es/\b1=.row e es)\/∃mk es,x=.map mk es/\b1=.map mk es)\/(∃cs ys,x=.box ys/\b1=.box cs/\cv cs=some ys)\/∃cs,x=.aC cs/\b1=.aC cs)/\(((∃e es,y=.row e es/\b2=.row e es)\/∃mk es,y=.map mk es/\b2=.map mk es)\/(∃cs ys,y=.box ys/\b2=.box cs/\cv cs=some ys)\/∃cs,y=.aC cs/\b2=.aC cs):=by
 have step:∀(i0:Nat) (b0:AB) {xs:List Arg} {vs:List Value} {ids:List (Nat×AB)} (H:dG L rho h xs vs ids) (hn:(((i0,b0)::ids).map (·.1)).Nodup) (j:Nat) (y:Arg) (u:Value),xs[j]?=some y->vs[j]?=some u->y.handed=true->∃id b,id≠i0/\(id,b)∈ids/\u=rho id/\(((∃e es,y=.row e es/\b=.row e es)\/∃mk es,y=.map mk es/\b=.map mk es)\/(∃cs ys,y=.box ys/\b=.box cs/\cv cs=some ys)\/∃cs,y=.aC cs/\b=.aC cs):=by
  intro i0 b0 xs vs ids H hn j y u h1 h2 h3
  obtain⟨id,b,h4,_,_,h5,hf⟩:=H.at j y u h1 h2 h3
  simp only[List.map_cons,List.nodup_cons] at hn
  exact⟨id,b,fun e=>hn.1 (List.mem_map.2 ⟨(id,b),h4,e⟩),h4,h5,hf⟩
 induction H with
 | nil=>intro i j x y v u h1;simp at h1
 | pv z v0 hr ih=>
  intro i j x y v u h1 h2 h3 h4 h5 h6 h7
  cases i with
  | zero=>simp at h1;subst h1;cases h5
  | succ i=>
   cases j with
   | zero=>simp at h2;subst h2;cases h6
   | succ j=>exact ih hn i j x y v u (by simpa using h1) (by simpa using h2) (by simpa using h3) (by simpa using h4) h5 h6 (by omega)
 | row id e es hL hid hr ih=>
  intro i j x y v u h1 h2 h3 h4 h5 h6 h7
  have wk:=hn
  simp only[List.map_cons,List.nodup_cons] at wk
  cases i with
  | zero=>
   cases j with
   | zero=>exact absurd rfl h7
   | succ j=>
    obtain⟨mW,b2,k1,k2,k3,hf⟩:=step id (.row e es) hr hn j y u (by simpa using h2) (by simpa using h4) h6
    simp at h1 h3
    exact⟨id,mW,.row e es,b2,k1.symm,by simp,by simp[k2],h3.symm,k3,h1 ▸ .inl (.inl ⟨e,es,rfl,rfl⟩),hf⟩
  | succ i=>
   cases j with
   | zero=>
    obtain⟨mW,b2,k1,k2,k3,hf⟩:=step id (.row e es) hr hn i x v (by simpa using h1) (by simpa using h3) h5
    simp at h2 h4
    exact⟨mW,id,b2,.row e es,k1,by simp[k2],by simp,k3,h4.symm,hf,h2 ▸ .inl (.inl ⟨e,es,rfl,rfl⟩)⟩
   | succ j=>
    obtain⟨yH,mW,b1,b2,k1,k2,k3,k4,k5⟩:=ih wk.2 i j x y v u (by simpa using h1) (by simpa using h2) (by simpa using h3) (by simpa using h4) h5 h6 (by omega)
    exact⟨yH,mW,b1,b2,k1,by simp[k2],by simp[k3],k4,k5⟩
 | map id mk es hL hid hr ih=>
  intro i j x y v u h1 h2 h3 h4 h5 h6 h7
  have wk:=hn
  simp only[List.map_cons,List.nodup_cons] at wk
  cases i with
  | zero=>
   cases j with
   | zero=>exact absurd rfl h7
   | succ j=>
    obtain⟨mW,b2,k1,k2,k3,hf⟩:=step id (.map mk es) hr hn j y u (by simpa using h2) (by simpa using h4) h6
    simp at h1 h3
    exact⟨id,mW,.map mk es,b2,k1.symm,by simp,by simp[k2],h3.symm,k3,h1 ▸ .inl (.inr ⟨mk,es,rfl,rfl⟩),hf⟩
  | succ i=>
   cases j with
   | zero=>
    obtain⟨mW,b2,k1,k2,k3,hf⟩:=step id (.map mk es) hr hn i x v (by simpa using h1) (by simpa using h3) h5
    simp at h2 h4
    exact⟨mW,id,b2,.map mk es,k1,by simp[k2],by simp,k3,h4.symm,hf,h2 ▸ .inl (.inr ⟨mk,es,rfl,rfl⟩)⟩
   | succ j=>
    obtain⟨yH,mW,b1,b2,k1,k2,k3,k4,k5⟩:=ih wk.2 i j x y v u (by simpa using h1) (by simpa using h2) (by simpa using h3) (by simpa using h4) h5 h6 (by omega)
    exact⟨yH,mW,b1,b2,k1,by simp[k2],by simp[k3],k4,k5⟩
 | box id cs ys hL hid hy hr ih=>
  intro i j x y v u h1 h2 h3 h4 h5 h6 h7
  have wk:=hn
  simp only[List.map_cons,List.nodup_cons] at wk
  cases i with
  | zero=>
   cases j with
   | zero=>exact absurd rfl h7
   | succ j=>
    obtain⟨mW,b2,k1,k2,k3,hf⟩:=step id (.box cs) hr hn j y u (by simpa using h2) (by simpa using h4) h6
    simp at h1 h3
    exact⟨id,mW,.box cs,b2,k1.symm,by simp,by simp[k2],h3.symm,k3,h1 ▸ .inr (.inl ⟨cs,ys,rfl,rfl,hy⟩),hf⟩
  | succ i=>
   cases j with
   | zero=>
    obtain⟨mW,b2,k1,k2,k3,hf⟩:=step id (.box cs) hr hn i x v (by simpa using h1) (by simpa using h3) h5
    simp at h2 h4
    exact⟨mW,id,b2,.box cs,k1,by simp[k2],by simp,k3,h4.symm,hf,h2 ▸ .inr (.inl ⟨cs,ys,rfl,rfl,hy⟩)⟩
   | succ j=>
    obtain⟨yH,mW,b1,b2,k1,k2,k3,k4,k5⟩:=ih wk.2 i j x y v u (by simpa using h1) (by simpa using h2) (by simpa using h3) (by simpa using h4) h5 h6 (by omega)
    exact⟨yH,mW,b1,b2,k1,by simp[k2],by simp[k3],k4,k5⟩
 | aC id cs hL hid hr ih=>
  intro i j x y v u h1 h2 h3 h4 h5 h6 h7
  have wk:=hn
  simp only[List.map_cons,List.nodup_cons] at wk
  cases i with
  | zero=>
   cases j with
   | zero=>exact absurd rfl h7
   | succ j=>
    obtain⟨mW,b2,k1,k2,k3,hf⟩:=step id (.aC cs) hr hn j y u (by simpa using h2) (by simpa using h4) h6
    simp at h1 h3
    exact⟨id,mW,.aC cs,b2,k1.symm,by simp,by simp[k2],h3.symm,k3,h1 ▸ .inr (.inr ⟨cs,rfl,rfl⟩),hf⟩
  | succ i=>
   cases j with
   | zero=>
    obtain⟨mW,b2,k1,k2,k3,hf⟩:=step id (.aC cs) hr hn i x v (by simpa using h1) (by simpa using h3) h5
    simp at h2 h4
    exact⟨mW,id,b2,.aC cs,k1,by simp[k2],by simp,k3,h4.symm,hf,h2 ▸ .inr (.inr ⟨cs,rfl,rfl⟩)⟩
   | succ j=>
    obtain⟨yH,mW,b1,b2,k1,k2,k3,k4,k5⟩:=ih wk.2 i j x y v u (by simpa using h1) (by simpa using h2) (by simpa using h3) (by simpa using h4) h5 h6 (by omega)
    exact⟨yH,mW,b1,b2,k1,by simp[k2],by simp[k3],k4,k5⟩
theorem Dl {id:Nat}:∀{fz:List (Nat×AB)},mR id fz=true->∀p∈fz,p.1≠id:=by
 intro fz
 induction fz with
 | nil=>intro _ p hp;cases hp
 | cons x fz ih=>
  intro hn p hp
  unfold mR at hn
  split at hn
  ·cases hn
  rename_i bG
  rcases List.mem_cons.1 hp with h | h
  ·subst h;intro e;rw[e] at bG;simp at bG
  exact ih hn p h
theorem yI:∀{ids fz:List (Nat×AB)},Ar ids fz=true->(∀p∈ids,mR p.1 fz=true)/\(ids.map (·.1)).Nodup:=by
 intro ids
 induction ids with
 | nil=>intro fz _;simp
 | cons x ids ih=>
  intro fz h
  obtain⟨i,b⟩:=x
  simp only[Ar,Bool.and_eq_true] at h
  obtain⟨⟨h1,h2⟩,h3⟩:=h
  obtain⟨h4,h5⟩:=ih h3
  refine⟨fun p hp=>?_,?_⟩
  ·rcases List.mem_cons.1 hp with h | h
   ·subst h;exact h1
   exact h4 p h
  simp only[List.map_cons,List.nodup_cons]
  refine⟨fun hm=>?_,h5⟩
  obtain⟨p,hp,he⟩:=List.mem_map.1 hm
  exact Dl h2 p hp he
def s4:List Arg->List (Nat×AB)->Nat->Nat->Prop
 | x::xs,ids,i,id=>match x.handed with
  | false=>match i with
   | 0=>False
   | i+1=>s4 xs ids i id
  | true=>match ids with
   | (id0,_)::ids=>match i with
    | 0=>id=id0
    | i+1=>s4 xs ids i id
   | []=>False
 | _,_,_,_=>False
theorem s4.uniq:∀{xs:List Arg} {ids:List (Nat×AB)} {i a b:Nat},s4 xs ids i a->s4 xs ids i b->a=b
 | [],_,_,_,_,h,_=>h.elim
 | x::xs,ids,i,a,b,h,k=>by
  unfold s4 at h k
  split at h
  ·rename_i hx
   simp only[hx] at k
   cases i with
   | zero=>exact h.elim
   | succ i=>exact s4.uniq h k
  rename_i hx
  simp only[hx] at k
  cases ids with
  | nil=>exact h.elim
  | cons p ids=>
   cases i with
   | zero=>exact h.trans k.symm
   | succ i=>exact s4.uniq (xs:=xs) (ids:=ids) h k
def Fy (S:Nat->Prop) (w:World) (P:Program) (args:List Arg) (fin:List Fin) (vs:List Value) (i:Nat) (v:Value) (eo new:AB):Prop:=
 new=.none\/(((∃e es bW,eo=.row e es/\new=.row e bW/\aw P w (az S w) e bW v)\/∃mk es bW,eo=.map mk es/\new=.map mk bW/\uy S w mk bW v)\/(∃(cs:List AV) (xs:List PV) (g:Nat) (ty:TypeId) (c:Array Value),eo=.box cs/\new=.box (xs.map .p)/\v=.pointer (some ⟨g,0,none⟩)/\w.heap[g]?=some (.cells c ty (0,0))/\c.size=xs.length/\∀(j:Nat) x u,xs[j]?=some x->c[j]?=some u->u.oneCell'=true/\az S w x u)\/
  (∃(cs iH:List HC) (g:Nat) (ty:TypeId) (c:Array Value),eo=.aC cs/\new=.aC iH/\v=.pointer (some ⟨g,0,none⟩)/\Bx S w P iH g ty c))/\
  (∀g,hasB w new v g->¬S g/\bU w args fin vs i g)
theorem Fy.lift {S:Nat->Prop} {w:World} {P:Program} {xs:List Arg} {fin:List Fin} {vs:List Value} {i:Nat} {v:Value} {eo new:AB} {mA:List Arg} {Dm:List Fin} {iI:List Value} {i':Nat} (h:∀g,bU w xs fin vs i g->bU w mA Dm iI i' g) (hb:Fy S w P xs fin vs i v eo new):Fy S w P mA Dm iI i' v eo new:=
 hb.imp id fun hb=>⟨hb.1,fun g hg=>⟨(hb.2 g hg).1,h g (hb.2 g hg).2⟩⟩
theorem h_ {S:Nat->Prop} {w:World} {P:Program} {L:Nat->Prop} {rho:Nat->Value} {h:Nat->AB} {xs:List Arg} {vs:List Value} {ids:List (Nat×AB)} (H:dG L rho h xs vs ids):
  ∀(fin:List Fin) fe,dT S w P xs fin vs->dI ids fin=some fe->fe.map (·.1)=ids.map (·.1)/\∀id new,(id,new)∈fe->∃eo i,(id,eo)∈ids/\s4 xs ids i id/\Fy S w P xs fin vs i (rho id) eo new:=by
 induction H with
 | nil=>
  intro fin fe dK kI
  cases fin with
  | nil=>simp[dI] at kI;subst kI;exact⟨rfl,by simp⟩
  | cons f fin=>simp[dI] at kI
 | pv x v hr ih=>
  intro fin fe dK kI
  obtain⟨h2,h3⟩:=ih fin fe dK kI
  refine⟨h2,fun id new hm=>?_⟩
  obtain⟨eo,i,h4,h6,h5⟩:=h3 id new hm
  exact⟨eo,i+1,h4,h6,h5.lift fun g h=>h⟩
 | @row i e es xs vs ids hL hid hr ih=>
  intro fin fe dK kI
  cases fin with
  | nil=>exact dK.elim
  | cons f fin=>
   obtain⟨hf,kJ⟩:=(show mT S w P (.row e es) f (rho i)/\dT S w P xs fin vs from dK)
   cases f with
   | gone=>
    simp only[dI] at kI
    obtain⟨yJ,h1,rfl⟩:=Option.map_eq_some_iff.1 kI
    obtain⟨h2,h3⟩:=ih fin yJ kJ h1
    refine⟨by simp[h2],fun id new hm=>?_⟩
    rcases List.mem_cons.1 hm with e' | e'
    ·injection e' with e1 e2;subst e1 e2;exact⟨.row e es,0,by simp,rfl,.inl rfl⟩
    obtain⟨eo,k,h4,h6,h5⟩:=h3 id new e';exact⟨eo,k+1,by simp[h4],h6,h5.lift fun g h=>h⟩
   | row bW=>
    simp only[dI] at kI
    obtain⟨yJ,h1,rfl⟩:=Option.map_eq_some_iff.1 kI
    obtain⟨h2,h3⟩:=ih fin yJ kJ h1
    refine⟨by simp[h2],fun id new hm=>?_⟩
    rcases List.mem_cons.1 hm with e' | e'
    ·injection e' with e1 e2
     subst e1 e2
     exact⟨_,0,by simp,rfl,.inr ⟨.inl (.inl ⟨e,es,bW,rfl,rfl,hf.1⟩),fun g hg=>⟨hf.2 g (aq rfl hg),rfl,.inl (aq rfl hg)⟩⟩⟩
    obtain⟨eo,k,h4,h6,h5⟩:=h3 id new e';exact⟨eo,k+1,by simp[h4],h6,h5.lift fun g h=>h⟩
   | map bW=>exact hf.elim
   | box cs=>exact hf.elim
   | aC cs=>exact hf.elim
 | @map i mk es xs vs ids hL hid hr ih=>
  intro fin fe dK kI
  cases fin with
  | nil=>exact dK.elim
  | cons f fin=>
   obtain⟨hf,kJ⟩:=(show mT S w P (.map mk es) f (rho i)/\dT S w P xs fin vs from dK)
   cases f with
   | gone=>
    simp only[dI] at kI
    obtain⟨yJ,h1,rfl⟩:=Option.map_eq_some_iff.1 kI
    obtain⟨h2,h3⟩:=ih fin yJ kJ h1
    refine⟨by simp[h2],fun id new hm=>?_⟩
    rcases List.mem_cons.1 hm with e' | e'
    ·injection e' with e1 e2;subst e1 e2;exact⟨.map mk es,0,by simp,rfl,.inl rfl⟩
    obtain⟨eo,k,h4,h6,h5⟩:=h3 id new e';exact⟨eo,k+1,by simp[h4],h6,h5.lift fun g h=>h⟩
   | map bW=>
    simp only[dI] at kI
    obtain⟨yJ,h1,rfl⟩:=Option.map_eq_some_iff.1 kI
    obtain⟨h2,h3⟩:=ih fin yJ kJ h1
    refine⟨by simp[h2],fun id new hm=>?_⟩
    rcases List.mem_cons.1 hm with e' | e'
    ·injection e' with e1 e2
     subst e1 e2
     exact⟨_,0,by simp,rfl,.inr ⟨.inl (.inr ⟨mk,es,bW,rfl,rfl,hf.1⟩),fun g hg=>⟨hf.2 g (aq rfl hg),rfl,.inl (aq rfl hg)⟩⟩⟩
    obtain⟨eo,k,h4,h6,h5⟩:=h3 id new e';exact⟨eo,k+1,by simp[h4],h6,h5.lift fun g h=>h⟩
   | row bW=>exact hf.elim
   | box cs=>exact hf.elim
   | aC cs=>exact hf.elim
 | @box i cs ys xs vs ids hL hid hy hr ih=>
  intro fin fe dK kI
  cases fin with
  | nil=>exact dK.elim
  | cons f fin=>
   obtain⟨hf,kJ⟩:=(show mT S w P (.box ys) f (rho i)/\dT S w P xs fin vs from dK)
   cases f with
   | gone=>
    simp only[dI] at kI
    obtain⟨yJ,h1,rfl⟩:=Option.map_eq_some_iff.1 kI
    obtain⟨h2,h3⟩:=ih fin yJ kJ h1
    refine⟨by simp[h2],fun id new hm=>?_⟩
    rcases List.mem_cons.1 hm with e' | e'
    ·injection e' with e1 e2;subst e1 e2;exact⟨.box cs,0,by simp,rfl,.inl rfl⟩
    obtain⟨eo,k,h4,h6,h5⟩:=h3 id new e';exact⟨eo,k+1,by simp[h4],h6,h5.lift fun g h=>h⟩
   | row es=>exact hf.elim
   | map es=>exact hf.elim
   | aC es=>exact hf.elim
   | box mA=>
    simp only[dI] at kI
    obtain⟨yJ,h1,rfl⟩:=Option.map_eq_some_iff.1 kI
    obtain⟨h2,h3⟩:=ih fin yJ kJ h1
    refine⟨by simp[h2],fun id new hm=>?_⟩
    rcases List.mem_cons.1 hm with e' | e'
    ·injection e' with e1 e2
     subst e1 e2
     obtain⟨g,ty,c,m1,m2,m3,m4,m5⟩:=hf
     refine⟨_,0,by simp,rfl,.inr ⟨.inr (.inl ⟨cs,mA,g,ty,c,rfl,rfl,m1,m2,m3,m5⟩),fun g' hg=>?_⟩⟩
     have hg:=aq rfl hg
     refine⟨?_,rfl,.inl hg⟩
     rw[m1] at hg
     injection hg with hg
     exact hg ▸ m4
    obtain⟨eo,k,h4,h6,h5⟩:=h3 id new e';exact⟨eo,k+1,by simp[h4],h6,h5.lift fun g h=>h⟩
 | @aC i cs xs vs ids hL hid hr ih=>
  intro fin fe dK kI
  cases fin with
  | nil=>exact dK.elim
  | cons f fin=>
   obtain⟨hf,kJ⟩:=(show mT S w P (.aC cs) f (rho i)/\dT S w P xs fin vs from dK)
   cases f with
   | gone=>
    simp only[dI] at kI
    obtain⟨yJ,h1,rfl⟩:=Option.map_eq_some_iff.1 kI
    obtain⟨h2,h3⟩:=ih fin yJ kJ h1
    refine⟨by simp[h2],fun id new hm=>?_⟩
    rcases List.mem_cons.1 hm with e' | e'
    ·injection e' with e1 e2;subst e1 e2;exact⟨.aC cs,0,by simp,rfl,.inl rfl⟩
    obtain⟨eo,k,h4,h6,h5⟩:=h3 id new e';exact⟨eo,k+1,by simp[h4],h6,h5.lift fun g h=>h⟩
   | row es=>exact hf.elim
   | map es=>exact hf.elim
   | box es=>exact hf.elim
   | aC iH=>
    simp only[dI] at kI
    obtain⟨yJ,h1,rfl⟩:=Option.map_eq_some_iff.1 kI
    obtain⟨h2,h3⟩:=ih fin yJ kJ h1
    refine⟨by simp[h2],fun id new hm=>?_⟩
    rcases List.mem_cons.1 hm with e' | e'
    ·injection e' with e1 e2
     subst e1 e2
     obtain⟨g,ty,c,m1,m2,m3⟩:=hf
     exact⟨_,0,by simp,rfl,.inr ⟨.inr (.inr ⟨cs,iH,g,ty,c,rfl,rfl,m1,m2⟩),fun g' hg=>⟨m3 g' hg,rfl,hg⟩⟩⟩
    obtain⟨eo,k,h4,h6,h5⟩:=h3 id new e';exact⟨eo,k+1,by simp[h4],h6,h5.lift fun g h=>h⟩
theorem cS (fe:List (Nat×AB)) (h:Nat->AB) (id:Nat):(∃b,(id,b)∈fe/\app h fe id=b)\/((∀p∈fe,p.1≠id)/\app h fe id=h id):=by
 induction fe generalizing h with
 | nil=>exact .inr ⟨by simp,rfl⟩
 | cons x fe ih=>
  rcases ih (aA h x.1 x.2) with⟨b,h1,h2⟩ | ⟨h1,h2⟩
  ·exact .inl ⟨b,by simp[h1],h2⟩
  by_cases e:x.1=id
  ·refine .inl ⟨x.2,by rw[<-e];simp,?_⟩
   show app (aA h x.1 x.2) fe id=x.2
   rw[h2,e,ar]
  refine .inr ⟨fun p hp=>?_,?_⟩
  ·rcases List.mem_cons.1 hp with h | h
   ·rw[h];exact e
   exact h1 p h
  show app (aA h x.1 x.2) fe id=h id
  rw[h2,aE _ _ (fun e'=>e e'.symm)]
theorem nK {w:World} {b:AB} {v:Value} {g:Nat} {x:Arg} (h:((∃e es,x=.row e es/\b=.row e es)\/∃mk es,x=.map mk es/\b=.map mk es)\/(∃cs ys,x=.box ys/\b=.box cs/\cv cs=some ys)\/∃cs,x=.aC cs/\b=.aC cs):hasB w (uz x) v g↔hasB w b v g:=by
 rcases h with (⟨e,es,rfl,rfl⟩ | ⟨mk,es,rfl,rfl⟩) | ⟨cs,ys,rfl,rfl,_⟩ | ⟨cs,rfl,rfl⟩
 ·exact⟨fun h=>.inl (aq rfl h),fun h=>.inl (aq rfl h)⟩
 ·exact⟨fun h=>.inl (aq rfl h),fun h=>.inl (aq rfl h)⟩
 ·exact⟨fun h=>.inl (aq rfl h),fun h=>.inl (aq rfl h)⟩
 exact Iff.rfl
theorem dG.form {L:Nat->Prop} {rho:Nat->Value} {h:Nat->AB} {xs:List Arg} {vs:List Value} {ids:List (Nat×AB)} (H:dG L rho h xs vs ids):∀id b,(id,b)∈ids->∃(j:Nat) (x:Arg),xs[j]?=some x/\vs[j]?=some (rho id)/\x.handed=true/\(((∃e es,x=.row e es/\b=.row e es)\/∃mk es,x=.map mk es/\b=.map mk es)\/(∃cs ys,x=.box ys/\b=.box cs/\cv cs=some ys)\/∃cs,x=.aC cs/\b=.aC cs):=by
 induction H with
 | nil=>intro id b h;cases h
 | pv y u hr ih=>intro id b h;obtain⟨j,x,h4⟩:=ih id b h;exact⟨j+1,x,by simpa using h4⟩
 | row i e es hL hid hr ih=>
  intro id b h
  rcases List.mem_cons.1 h with h | h
  ·injection h with h1 h2;subst h1 h2;exact⟨0,_,rfl,rfl,rfl,.inl (.inl ⟨e,es,rfl,rfl⟩)⟩
  obtain⟨j,x,h4⟩:=ih id b h;exact⟨j+1,x,by simpa using h4⟩
 | map i mk es hL hid hr ih=>
  intro id b h
  rcases List.mem_cons.1 h with h | h
  ·injection h with h1 h2;subst h1 h2;exact⟨0,_,rfl,rfl,rfl,.inl (.inr ⟨mk,es,rfl,rfl⟩)⟩
  obtain⟨j,x,h4⟩:=ih id b h;exact⟨j+1,x,by simpa using h4⟩
 | box i cs ys hL hid hy hr ih=>
  intro id b h
  rcases List.mem_cons.1 h with h | h
  ·injection h with h1 h2;subst h1 h2;exact⟨0,_,rfl,rfl,rfl,.inr (.inl ⟨cs,ys,rfl,rfl,hy⟩)⟩
  obtain⟨j,x,h4⟩:=ih id b h;exact⟨j+1,x,by simpa using h4⟩
 | aC i cs hL hid hr ih=>
  intro id b h
  rcases List.mem_cons.1 h with h | h
  ·injection h with h1 h2;subst h1 h2;exact⟨0,_,rfl,rfl,rfl,.inr (.inr ⟨cs,rfl,rfl⟩)⟩
  obtain⟨j,x,h4⟩:=ih id b h;exact⟨j+1,x,by simpa using h4⟩
theorem dG.mv {L:Nat->Prop} {rho:Nat->Value} {h:Nat->AB} {w:World} {xs:List Arg} {vs:Array Value} {ids:List (Nat×AB)} (H:dG L rho h xs vs.toList ids) (g:Nat):Mv w xs vs g↔∃id b,(id,b)∈ids/\hasB w b (rho id) g:=by
 constructor
 ·rintro⟨j,x,v,h1,h2,h3,h4⟩
  obtain⟨id,b,h5,_,_,h6,h7⟩:=H.at j x v h1 (by simpa using h2) h3
  exact⟨id,b,h5,by rw[<-h6];exact (nK h7).1 h4⟩
 rintro⟨id,b,h1,h2⟩
 obtain⟨j,x,h3,h4,h5,h6⟩:=H.form id b h1
 exact⟨j,x,_,h3,by simpa using h4,h5,(nK h6).2 h2⟩
theorem bd.handed {A:bE} {V L S2 S':Nat->Prop} {rho:Nat->Value} {t:Nat->AV} {a:Act} {w w':World} {h h2:Nat->AB} (hC:a8 A.C) (sim:bd A V L S2 rho ⟨t,h2⟩ a w) {xs:List Arg} {vs:Array Value} {ids fe:List (Nat×AB)} {fin:List Fin} (H:dG L rho h xs vs.toList ids) (hh:∀id b,(id,b)∈ids->h2 id=h id)
  (hf:Fr (Mv w xs vs) w w') (hS:∀b,S2 b->S' b) (wj:∀b,S' b->b < w'.heap.size) (Ki:∀b,S' b->S2 b\/w.heap.size<=b\/Mv w xs vs b) (dK:dT S' w' A.C.P xs fin vs.toList) (hok:nA w w' xs fin vs) (kI:dI ids fin=some fe):
  bd A V L S' rho ⟨t,app h2 fe⟩ a w':=by
 obtain⟨hk,hb⟩:=h_ H fin fe dK kI
 have Dn:∀id,(∃b,(id,b)∈ids)↔∃b,(id,b)∈fe:=by
  intro id
  have:id∈ids.map (·.1)↔id∈fe.map (·.1):=by rw[hk]
  simpa using this
 have own:∀id b,(id,b)∈ids->L id/\(h2 id).live/\h2 id=b:=fun id b hm=>by
  obtain⟨h1,h3,h4,_⟩:=H.back id b hm
  have:=hh id b hm
  exact⟨h1,by rw[this,h3];exact h4,by rw[this,h3]⟩
 have Ma:∀g,Mv w xs vs g->¬S2 g/\(A.mv g\/A.w0.heap.size<=g):=fun g hg=>by
  obtain⟨id,b,h1,h3⟩:=H.mv g |>.1 hg
  obtain⟨h4,h5,h6⟩:=own id b h1
  exact (sim.lv id g h4 h5 (by show hasB w (h2 id) _ _;rw[h6];exact h3)).2
 have f_:∀b,S2 b->w'.heap[b]?=w.heap[b]?:=fun k hk=>hf.block k (sim.st k hk) fun hm=>(Ma k hm).1 hk
 have T:g_ S2 S' w w' L L rho rho h2 (app h2 fe):=by
  refine⟨hS,f_,fun id ht=>⟨?_,fun hl=>⟨hl,rfl⟩⟩,fun id e he=>?_⟩
  ·rcases cS fe h2 id with⟨b,h1,h3⟩ | ⟨_,h3⟩
   ·obtain⟨b',jG⟩:=(Dn id).2 ⟨b,h1⟩
    obtain⟨_,h4,_⟩:=own id b' jG
    cases hx:h2 id <;> rw[hx] at h4 <;> first | trivial | exact h4.elim
   rw[h3] at ht;exact ht
  rcases cS fe h2 id with⟨b,h1,h3⟩ | ⟨_,h3⟩
  ·rw[h3] at he
   obtain⟨eo,i,h4,_,h5⟩:=hb id b h1
   obtain⟨_,_,h6⟩:=own id eo h4
   rcases h5 with h5 | ⟨h5 | h5 | h5,_⟩
   ·rw[h5] at he;cases he
   ·rcases h5 with h5 | h5
    ·obtain⟨e',Mb,jg,h7,h8,_⟩:=h5
     rw[h8] at he
     injection he with he
     rw[h6,h7,he];rfl
    obtain⟨mk,Mb,jg,h7,h8,_⟩:=h5
    rw[h8] at he;cases he
   ·obtain⟨cs,ys,g,ty,c,h7,h8,_⟩:=h5
    rw[h8] at he;cases he
   obtain⟨cs,ys,g,ty,c,h7,h8,_⟩:=h5
   rw[h8] at he;cases he
  rw[h3] at he;exact he
 have di:∀id,(app h2 fe id).live->(h2 id).live:=by
  intro id hl
  rcases cS fe h2 id with⟨b,h1,h3⟩ | ⟨_,h3⟩
  ·obtain⟨b',jG⟩:=(Dn id).2 ⟨b,h1⟩
   exact (own id b' jG).2.1
  rw[h3] at hl;exact hl
 have same:∀id g,L id->(h2 id).live->(∀p∈fe,p.1≠id)->hasB w (h2 id) (rho id) g->¬Mv w xs vs g:=fun id g hl li h1 hg hm=>by
  obtain⟨s5,b',h4,h5⟩:=H.mv g |>.1 hm
  obtain⟨h6,h7,h8⟩:=own s5 b' h4
  have:=sim.dj id s5 g hl h6 li h7 hg (by show hasB w (h2 s5) _ _;rw[h8];exact h5)
  subst this
  obtain⟨b2,ri⟩:=(Dn id).1 ⟨b',h4⟩
  exact h1 _ ri rfl
 have old:∀id g,L id->(h2 id).live->(∀p∈fe,p.1≠id)->hasB w' (h2 id) (rho id) g->hasB w (h2 id) (rho id) g:=fun id g hl li h1 hg=>
  bZ (fun k hk=>hf.block k (sim.kE id k hl li hk).1 (same id k hl li h1 (.inl hk))) hg
 have back:∀id b,(id,b)∈fe->(app h2 fe id).live->app h2 fe id=b->∃i,s4 xs ids i id/\∀g,hasB w' b (rho id) g->¬S' g/\bU w' xs fin vs.toList i g:=fun id b hm hl he=>by
  obtain⟨eo,i,_,pY,h3⟩:=hb id b hm
  rcases h3 with h3 | ⟨_,h3⟩
  ·rw[he,h3] at hl;exact hl.elim
  exact⟨i,pY,h3⟩
 exact
 {tm:=fun j hj=>(sim.tm j hj).bP T
  sz:=sim.sz,df:=sim.df,nb:=sim.nb,pn:=sim.pn
  ev:=hC.env _ _ _ _ sim.ev hS f_ hf.size
  s0:=fun b hb=>hS b (sim.s0 b hb)
  st:=wj
  sb:=fun b hb=>by
   rcases Ki b hb with h | h | h
   ·exact sim.sb b h
   ·exact .inr (.inr (Nat.le_trans sim.fr.size h))
   exact .inr (Ma b h).2
  hp:=fun id hl=>by
   show cZ _ _ _ _ _ _ _ (app h2 fe id)
   rcases cS fe h2 id with⟨b,h1,h3⟩ | ⟨h1,h3⟩
   ·rw[h3]
    obtain⟨eo,i,h4,_,h5⟩:=hb id b h1
    rcases h5 with h5 | ⟨h5 | h5 | h5,_⟩
    ·rw[h5];trivial
    ·rcases h5 with h5 | h5
     ·obtain⟨e',Mb,jg,h7,h8,h9⟩:=h5
      rw[h8];exact h9
     obtain⟨mk,Mb,jg,h7,h8,h9⟩:=h5
     rw[h8];exact h9
    ·obtain⟨cs,ys,g,ty,c,h7,h8,h9,Kj,Qh,Pa⟩:=h5
     rw[h8]
     refine⟨g,ty,c,h9,Kj,by simpa using Qh,fun j x u hj hu=>?_⟩
     rw[List.getElem?_map] at hj
     obtain⟨z,hz,rfl⟩:=Option.map_eq_some_iff.1 hj
     exact⟨(Pa j z u hz hu).1,.p _ _ (Pa j z u hz hu).2⟩
    obtain⟨cs,iH,g,ty,c,h7,h8,h9,Kj⟩:=h5
    rw[h8]
    exact⟨g,ty,c,h9,Kj⟩
   rw[h3]
   exact (sim.hp id hl).bP T (fun li g hg=>hf.block g (sim.lv id g hl li hg).1 (same id g hl li h1 hg)) (fun _=>rfl)
  dj:=fun i j g hi hj li lj dk fQ=>by
   have one:∀i j,L i->L j->(app h2 fe i).live->(app h2 fe j).live->hasB w' (app h2 fe i) (rho i) g->hasB w' (app h2 fe j) (rho j) g->(∃b,(i,b)∈fe/\app h2 fe i=b)->((∀p∈fe,p.1≠j)/\app h2 fe j=h2 j)->False:=by
    rintro i j hi hj li lj dk fQ ⟨b,m1,m2⟩ ⟨n1,n2⟩
    rw[n2] at fQ lj
    have fQ:=old j g hj lj n1 fQ
    obtain⟨k,_,kC⟩:=back i b m1 li m2
    rw[m2] at dk
    rcases (hok.1 k g (kC g dk).2).2 with h | h
    ·have:=(sim.lv j g hj lj fQ).1
     exact absurd this (by omega)
    exact same j g hj lj n1 fQ h
   rcases cS fe h2 i with ci | ci
   ·rcases cS fe h2 j with cj | cj
    ·obtain⟨b,m1,m2⟩:=ci
     obtain⟨c,n1,n2⟩:=cj
     obtain⟨k1,p1,q1⟩:=back i b m1 li m2
     obtain⟨k2,p2,q2⟩:=back j c n1 lj n2
     have dk:hasB w' (app h2 fe i) (rho i) g:=dk
     have fQ:hasB w' (app h2 fe j) (rho j) g:=fQ
     rw[m2] at dk
     rw[n2] at fQ
     have:=hok.2 k1 k2 g (q1 g dk).2 (q2 g fQ).2
     subst this
     exact p1.uniq p2
    exact (one i j hi hj li lj dk fQ ci cj).elim
   rcases cS fe h2 j with cj | cj
   ·exact (one j i hj hi lj li fQ dk cj ci).elim
   have dk:hasB w' (app h2 fe i) (rho i) g:=dk
   have fQ:hasB w' (app h2 fe j) (rho j) g:=fQ
   have li:(app h2 fe i).live:=li
   have lj:(app h2 fe j).live:=lj
   rw[ci.2] at dk li
   rw[cj.2] at fQ lj
   exact sim.dj i j g hi hj li lj (old i g hi li ci.1 dk) (old j g hj lj cj.1 fQ)
  lv:=fun id g hl li hg=>by
   have hg:hasB w' (app h2 fe id) (rho id) g:=hg
   have li:(app h2 fe id).live:=li
   rcases cS fe h2 id with⟨b,h1,h3⟩ | ⟨h1,h3⟩
   ·obtain⟨k,_,q⟩:=back id b h1 li h3
    rw[h3] at hg
    obtain⟨q1,q2⟩:=q g hg
    obtain⟨r1,r2⟩:=hok.1 k g q2
    refine⟨r1,q1,?_⟩
    rcases r2 with h | h
    ·exact .inr (Nat.le_trans sim.fr.size h)
    exact (Ma g h).2
   rw[h3] at hg li
   have hg:=old id g hl li h1 hg
   obtain⟨h4,h5,h6⟩:=sim.lv id g hl li hg
   refine⟨Nat.lt_of_lt_of_le h4 hf.size,fun hs=>?_,h6⟩
   rcases Ki g hs with h | h | h
   ·exact h5 h
   ·omega
   exact same id g hl li h1 hg h
  fr:=sim.fr.next hf.os hf.tape hf.output hf.size fun k hk hn=>hf.block k (Nat.lt_of_lt_of_le hk sim.fr.size) fun hm=>by
   rcases (Ma k hm).2 with h | h
   ·exact hn h
   omega }
theorem rv {P:Program} {o:Oper} {a:Act} {w:World} {f:FuncId} {vs:Array Value} {next:Act->World->Prop} {Q:Exit->Act->World->Prop} {R:Ending->World->Prop} (h:(execOp a.eval o).run P w=.ok (.enter f vs) w) (hc:Calls P f vs w R)
  (hn:∀e w',R e w'->∃v,e=.returned v/\next (a.put o.dst v) w'):o.wp P a w next Q:=by
 unfold Oper.wp
 rw[h]
 refine hc.mono fun e w' hr=>?_
 obtain⟨v,rfl,h2⟩:=hn e w' hr
 exact h2
theorem yK {A:bE} (hC:a8 A.C) {o:Oper} {V L S:Nat->Prop} {rho:Nat->Value} {s:AS} {a:Act} {w:World} {K:KK} {next:Act->World->Prop} {Q:Exit->Act->World->Prop} (sim:bd A V L S rho s a w) (hd:∀d,o.dst=some d->d < A.n)
  (hn:∀v eff b,K v eff (some b)->¬L (o.dst.getD 0)/\s.h (o.dst.getD 0)=b)
  (hnext:∀v eff new S' rho' a' w',K v eff new->bd A (sX V o.dst) (wx L new (o.dst.getD 0)) S' rho' ⟨cQ s.t o.dst v,app s.h eff⟩ a' w'->next a' w')
  (f:FuncId) (fL:List AV) (vs:Array Value) (hl:fL.length=vs.size)
  (hrep:∀(S2:Nat->Prop) (h2:Nat->AB),bd A V L S2 rho ⟨s.t,h2⟩ a w->∀(i:Nat) x v,fL[i]?=some x->vs.toList[i]?=some v->aI S2 w A.C.P L rho h2 x v)
  (hrun : (∃ fn : Func, A.C.P.funcs[f]? = some fn ∧ (fn.name == "runtime.NumGoroutine") = false ∧ fn.body.isNone = false) → (execOp a.eval o).run A.C.P w = .ok (.enter f vs) w) (hq : jC A.C s.h (o.dst.getD 0) f fL K) : o.wp A.C.P a w next Q := by
 unfold jC at hq
 obtain⟨xs,ids,fz,S2,⟨r,fin,p6,hq⟩,aP,uF,hF,wB,hlen,H,hpv⟩:=BS hC fL vs.toList 0 s.h S _ (by simpa using hl) sim (kv.refl _) hrep (fun _ h=>h) hq
 split at hq
 ·rename_i fe kI
  split at hq
  ·rename_i hok
   obtain⟨Qi,yL⟩:=yI hok
   have hh:∀id b,(id,b)∈ids->(app s.h fz) id=s.h id:=fun id b hm=>hM (Qi (id,b) hm)
   have own:∀id b,(id,b)∈ids->L id/\(app s.h fz id).live/\app s.h fz id=b:=fun id b hm=>by
    obtain⟨h1,h3,h4,_⟩:=H.back id b hm
    have:=hh id b hm
    exact⟨h1,by rw[this,h3];exact h4,by rw[this,h3]⟩
   have key:=p6.2 S2 w vs aP.ev aP.st (by simpa using hlen) (fun j x v hj hv=>by
     have wv:vs.toList[j]?=some v:=by simpa using hv
     cases hx:x.handed with
     | false=>
      cases x with
      | pv y=>exact hpv j y v hj wv
      | row=>cases hx
      | map=>cases hx
      | box=>cases hx
      | aC=>cases hx
     | true=>
      obtain⟨id,b,h1,h2,h3,h4,h5⟩:=H.at j x v hj wv hx
      obtain⟨h6,h7,h8⟩:=own id b h1
      have hp:=aP.hp id h6
      have hp:cZ S2 w A.C.P L rho (app s.h fz) id (app s.h fz id):=hp
      rw[h8] at hp
      rcases h5 with (⟨e,es,rfl,rfl⟩ | ⟨mk,es,rfl,rfl⟩) | ⟨cs,ys,rfl,rfl,hy⟩ | ⟨cs,rfl,rfl⟩
      ·rw[h4]
       exact⟨hp,fun g hg=>(aP.kE id g h6 h7 hg).2.1⟩
      ·rw[h4]
       exact⟨hp,fun g hg=>(aP.kE id g h6 h7 hg).2.1⟩
      ·obtain⟨g,ty,c,k1,k2,k3,k4⟩:=hp
       obtain⟨k5,k6⟩:=en hy
       rw[h4]
       refine⟨g,ty,c,k1,k2,by rw[k3,k5],(aP.kE id g h6 h7 (by rw[k1];rfl)).2.1,fun i x u hi hu=>?_⟩
       obtain⟨y,hy⟩:∃y,cs[i]?=some y:=⟨_,List.getElem?_eq_getElem (by rw[k5];exact ao hi)⟩
       obtain⟨k7,k8⟩:=k4 i y u hy hu
       exact⟨k7,k8.qK (k6 i y x hy hi)⟩
      obtain⟨g,ty,c,k1,k2⟩:=hp
      rw[h4]
      exact⟨g,ty,c,k1,k2,fun k hk=>by obtain⟨q1,q2,_⟩:=aP.lv id k h6 h7 (by show hasB w (app s.h fz id) _ _;rw[h8];exact hk);exact⟨q2,q1⟩⟩)
    (fun i j x y v u g hi hj hv hu hx hy hg kg=>by
     by_cases AH:i=j
     ·exact AH
     obtain⟨yH,mW,b1,b2,k1,k2,k3,k4,k5,f1,f2⟩:=H.inj yL i j x y v u hi hj (by simpa using hv) (by simpa using hu) hx hy AH
     obtain⟨l1,v1,o1⟩:=own yH b1 k2
     obtain⟨l2,v2,o2⟩:=own mW b2 k3
     exact absurd (aP.dj yH mW g l1 l2 v1 v2 (by show hasB w (app s.h fz yH) _ _;rw[<-k4,o1];exact (nK f1).1 hg) (by show hasB w (app s.h fz mW) _ _;rw[<-k5,o2];exact (nK f2).1 kg)) k1)
   refine rv (hrun p6.1) key fun e w' ry=>?_
   obtain⟨v,S',rfl,hf,Pb,wj,Ki,hr,dK,Kk,hown⟩:=ry
   refine⟨v,rfl,?_⟩
   split at hq
   ·rename_i iN
    simp only[Bool.and_eq_true] at iN
    have Nd:ids=[]:=by cases ids with | nil=>rfl | cons p ids=>cases iN.2
    subst Nd
    have Nf:Fr (fun _=>False) w w':=⟨hf.os,hf.tape,hf.output,hf.size,fun k hk _=>hf.block k hk fun hm=>by
     obtain⟨id,b,h1,_⟩:=(H.mv k).1 hm
     cases h1⟩
    have dR:=sim.grow hC w' Nf
    refine hnext _ _ _ S rho _ _ hq (dR.value o.dst hd _ _ ?_)
    cases r with
    | p x=>exact .p _ _ (lI iN.1 hr)
    | own e es=>cases iN.1
    | hown cs=>cases iN.1
    | tu ys=>
     obtain⟨us,rfl,h1,h2⟩:=hr
     refine .tu _ us (by simpa using h1) fun i c u hi hu=>?_
     rw[List.getElem?_map] at hi
     obtain⟨z,hz,rfl⟩:=Option.map_eq_some_iff.1 hi
     exact .p _ _ (lI (List.all_eq_true.1 iN.1 z (List.mem_of_getElem? hz)) (h2 i z u hz hu))
   have dR:=bd.handed hC aP H hh hf Pb wj Ki dK Kk kI
   have dR:bd A V L S' rho ⟨s.t,app s.h (fz++fe)⟩ a w':=by rw[bq];exact dR
   cases r with
   | p x=>exact hnext _ _ _ S' rho _ _ hq (dR.value o.dst hd _ _ (.p _ _ hr))
   | tu ys=>
    refine hnext _ _ _ S' rho _ _ hq (dR.value o.dst hd _ _ ?_)
    obtain⟨us,rfl,h1,h2⟩:=hr
    refine .tu _ us (by simpa using h1) fun i c u hi hu=>?_
    rw[List.getElem?_map] at hi
    obtain⟨z,hz,rfl⟩:=Option.map_eq_some_iff.1 hi
    exact .p _ _ (h2 i z u hz hu)
   | own e es=>
    obtain⟨hL,hb⟩:=hn _ _ _ hq
    have H9:app s.h (fz++fe) (o.dst.getD 0)=.row e es:=by
     rw[eS (fun p hp (e:p.1=_)=>?_),hb]
     rcases List.mem_append.1 hp with h | h
     ·exact hL (by rw[<-e];exact wB p h)
     obtain⟨hk,_⟩:=h_ H fin fe dK kI
     have:p.1∈ids.map (·.1):=by rw[<-hk];exact List.mem_map.2 ⟨p,h,rfl⟩
     obtain⟨q,Ng,Nh⟩:=List.mem_map.1 this
     obtain⟨Ni,_⟩:=own q.1 q.2 Ng
     exact hL (by rw[<-e,<-Nh];exact Ni)
    have s6:=dR.kG hC (o.dst.getD 0) (AB.row e es) (dR.kj hd) hL H9 w' rfl rfl rfl (Nat.le_refl _) (fun k=>hasB w' (AB.row e es) v k) (fun _ _ _=>rfl) (fun k hk=>by
      have CR:=aq rfl hk
      obtain⟨h1,h2,h3⟩:=hown k rfl (.inl CR)
      refine⟨hr.2 k CR,fun i hi li dk=>?_,?_⟩
      ·have jf:(app s.h (fz++fe) i).live:=li
       rw[bq] at jf
       have dk:hasB w' (app s.h (fz++fe) i) (rho i) k:=dk
       rw[bq] at dk
       rcases cS fe (app s.h fz) i with⟨b,m1,m2⟩ | ⟨m1,m2⟩
       ·obtain⟨kC,ri⟩:=h_ H fin fe dK kI
        obtain⟨eo,n,m3,_,m4⟩:=ri i b m1
        rcases m4 with m4 | ⟨_,m4⟩
        ·rw[m2,m4] at jf;exact jf
        rw[m2] at dk;exact h3 n (m4 k dk).2
       rw[m2] at jf dk
       have Kl:∀g,hasB w (app s.h fz i) (rho i) g->¬Mv w xs vs g:=fun g hg hm=>by
        obtain⟨s5,b',m3,m4⟩:=(H.mv g).1 hm
        obtain⟨m5,m6,m7⟩:=own s5 b' m3
        have:=aP.dj i s5 g hi m5 jf m6 hg (by show hasB w (app s.h fz s5) _ _;rw[m7];exact m4)
        subst this
        obtain⟨kC,_⟩:=h_ H fin fe dK kI
        have:i∈fe.map (·.1):=by rw[kC];exact List.mem_map.2 ⟨_,m3,rfl⟩
        obtain⟨p,hp,Nj⟩:=List.mem_map.1 this
        exact m1 p hp Nj
       have dk:=bZ (fun g hg=>hf.block g (aP.kE i g hi jf hg).1 (Kl g (.inl hg))) dk
       obtain⟨q1,q2,q3⟩:=aP.lv i k hi jf dk
       rcases h2 with h2 | h2
       ·omega
       exact Kl k dk h2
      ·rcases h2 with h2 | h2
       ·exact .inr (Nat.le_trans aP.fr.size h2)
       obtain⟨s5,b',m3,m4⟩:=(H.mv k).1 h2
       obtain⟨m5,m6,m7⟩:=own s5 b' m3
       exact (aP.lv s5 k m5 m6 (by show hasB w (app s.h fz s5) _ _;rw[m7];exact m4)).2.2) v (fun g hg=>⟨(hown g rfl (.inl (aq rfl hg))).1,.inr hg⟩) (fun T=>by
      show aw _ _ _ e es (aA rho (o.dst.getD 0) v (o.dst.getD 0))
      rw[ar]
      exact hr.1)
    exact hnext _ _ _ S' _ _ _ hq (s6.value o.dst hd _ _ (.ow _ _ fun _=>⟨.inr rfl,(ar _ _ _).symm⟩))
   | hown cs=>
    obtain⟨hL,hb⟩:=hn _ _ _ hq
    obtain⟨g0,Qj,c0,Nk,Km,mB⟩:=hr
    have H9:app s.h (fz++fe) (o.dst.getD 0)=.aC cs:=by
     rw[eS (fun p hp (e:p.1=_)=>?_),hb]
     rcases List.mem_append.1 hp with h | h
     ·exact hL (by rw[<-e];exact wB p h)
     obtain⟨hk,_⟩:=h_ H fin fe dK kI
     have:p.1∈ids.map (·.1):=by rw[<-hk];exact List.mem_map.2 ⟨p,h,rfl⟩
     obtain⟨q,Ng,Nh⟩:=List.mem_map.1 this
     obtain⟨Ni,_⟩:=own q.1 q.2 Ng
     exact hL (by rw[<-e,<-Nh];exact Ni)
    have s6:=dR.kG hC (o.dst.getD 0) (AB.aC cs) (dR.kj hd) hL H9 w' rfl rfl rfl (Nat.le_refl _) (fun k=>hasB w' (AB.aC cs) v k) (fun _ _ _=>rfl) (fun k hk=>by
      obtain⟨h1,h2,h3⟩:=hown k rfl hk
      refine⟨mB k hk,fun i hi li dk=>?_,?_⟩
      ·have jf:(app s.h (fz++fe) i).live:=li
       rw[bq] at jf
       have dk:hasB w' (app s.h (fz++fe) i) (rho i) k:=dk
       rw[bq] at dk
       rcases cS fe (app s.h fz) i with⟨b,m1,m2⟩ | ⟨m1,m2⟩
       ·obtain⟨kC,ri⟩:=h_ H fin fe dK kI
        obtain⟨eo,n,m3,_,m4⟩:=ri i b m1
        rcases m4 with m4 | ⟨_,m4⟩
        ·rw[m2,m4] at jf;exact jf
        rw[m2] at dk;exact h3 n (m4 k dk).2
       rw[m2] at jf dk
       have Kl:∀g,hasB w (app s.h fz i) (rho i) g->¬Mv w xs vs g:=fun g hg hm=>by
        obtain⟨s5,b',m3,m4⟩:=(H.mv g).1 hm
        obtain⟨m5,m6,m7⟩:=own s5 b' m3
        have:=aP.dj i s5 g hi m5 jf m6 hg (by show hasB w (app s.h fz s5) _ _;rw[m7];exact m4)
        subst this
        obtain⟨kC,_⟩:=h_ H fin fe dK kI
        have:i∈fe.map (·.1):=by rw[kC];exact List.mem_map.2 ⟨_,m3,rfl⟩
        obtain⟨p,hp,Nj⟩:=List.mem_map.1 this
        exact m1 p hp Nj
       have dk:=bZ (fun g hg=>hf.block g (aP.kE i g hi jf hg).1 (Kl g (.inl hg))) dk
       obtain⟨q1,q2,q3⟩:=aP.lv i k hi jf dk
       rcases h2 with h2 | h2
       ·omega
       exact Kl k dk h2
      ·rcases h2 with h2 | h2
       ·exact .inr (Nat.le_trans aP.fr.size h2)
       obtain⟨s5,b',m3,m4⟩:=(H.mv k).1 h2
       obtain⟨m5,m6,m7⟩:=own s5 b' m3
       exact (aP.lv s5 k m5 m6 (by show hasB w (app s.h fz s5) _ _;rw[m7];exact m4)).2.2) v (fun g hg=>⟨(hown g rfl hg).1,.inr hg⟩) (fun T=>by
      exact⟨g0,Qj,c0,by rw[ar];exact Nk,Km⟩)
    exact hnext _ _ _ S' _ _ _ hq (s6.value o.dst hd _ _ (.bx _ _ _ fun _=>⟨.inr rfl,g0,by rw[ar];exact Nk,Nk⟩))
  exact hq.elim
 exact hq.elim
theorem jh.rep {A:bE} (hC:a8 A.C) {V L S:Nat->Prop} {rho:Nat->Value} {s:AS} {a:Act} {w:World} (sim:bd A V L S rho s a w) {x:AV} {y:PV} {v:Value} (hv:jh s.h x y) (hx:aI S w A.C.P L rho s.h x v):
  az (fun b=>S b\/∃id,L id/\(s.h id).live/\hasB w (s.h id) (rho id) b) w y v:=by
 have hS:∀b,S b->S b\/∃id,L id/\(s.h id).live/\hasB w (s.h id) (rho id) b:=fun b h=>.inl h
 cases hv with
 | p=>exact hx.dE.mono hS (fun _ _=>rfl)
 | nl=>cases hx;exact .nil _ _
 | row id e es hr=>
  obtain⟨hL,rfl⟩:=hx.bF (by rw[hr];trivial)
  have hh:=sim.hp id hL
  rw[hr] at hh
  exact aw.yw hh hS fun g hg=>.inr ⟨id,hL,by rw[hr];trivial,.inl hg⟩
 | fK id es hr=>
  obtain⟨hL,rfl⟩:=hx.bF (by rw[hr];trivial)
  have hh:=sim.hp id hL
  rw[hr] at hh
  exact az.mono hh hS (fun _ _=>rfl)
 | an id e es ps hr hp=>
  obtain⟨hL,rfl⟩:=hx.bF (by rw[hr];trivial)
  have hh:=sim.hp id hL
  rw[hr] at hh
  obtain⟨hR,_⟩:=hh
  have ba:(s.h id).live:=by rw[hr];trivial
  have M3:aw A.C.P w (az (fun b=>S b\/∃id,L id/\(s.h id).live/\hasB w (s.h id) (rho id) b) w) e ps (rho id):=by
   have Qk:=hR
   obtain⟨i,ws,h1,h2,h3,h4,h5,h6⟩:=Qk
   have old:∀{a:Nat} {q:List PV},ps[a]?=some q->∃r,es[a]?=some r:=fun {a q} ha=>⟨_,List.getElem?_eq_getElem (by rw[<-hp.len];exact ao ha)⟩
   refine⟨i,ws,h1,h2,by rw[hp.len];exact h3,fun q hq=>?_,h5,fun k q j y ha hj=>?_⟩
   ·obtain⟨k,hk⟩:=List.mem_iff_getElem?.1 hq
    obtain⟨r,hr⟩:=old hk
    rw[(hp.row k r q hr hk).1]
    exact h4 r (List.mem_of_getElem? hr)
   obtain⟨r,Nl⟩:=old ha
   obtain⟨hlen,hcell⟩:=hp.row k r q Nl ha
   obtain⟨x,hx⟩:∃x,r[j]?=some x:=⟨_,List.getElem?_eq_getElem (by rw[<-hlen];exact ao hj)⟩
   obtain⟨u,hu,sW⟩:=h6 k r j x Nl hx
   refine⟨u,hu,?_⟩
   have:=hcell j x y hx hj
   cases this with
   | p x=>exact (aI.dE sW).mono hS (fun _ _=>rfl)
   | nl=>
    have sW:aI S w A.C.P L rho s.h .nl u:=sW
    cases sW
    exact .nil _ _
   | row e' xs=>
    have sW:aw A.C.P w (az S w) e' xs u:=sW
    refine aw.yw sW hS fun b hb=>.inr ⟨id,hL,ba,?_⟩
    obtain⟨g,u2,g1,g2,_⟩:=hR.wq Nl hx
    have:u2=u:=by
     obtain⟨_,_,_,_,_,q3⟩:=(lH h3 h4 g1).1 g2
     rw[hu] at q3
     injection q3 with q3
     exact q3.symm
    subst this
    rw[hr]
    exact .inr (.inr ⟨_,_,_,_,_,_,rfl,g1,g2,hb⟩)
  exact aw.yw M3 (fun _ h=>h) fun g hg=>.inr ⟨id,hL,ba,.inl hg⟩
theorem jD.at {h:Nat->AB} {as:List AV} {xs:List PV} (hv:jD h as xs):as.length=xs.length/\∀(i:Nat) a x,as[i]?=some a->xs[i]?=some x->jh h a x:=by
 induction hv with
 | nil=>exact⟨rfl,fun i a x h=>by simp at h⟩
 | cons h1 h2 ih=>
  refine⟨by simp[ih.1],fun i a x ha hx=>?_⟩
  cases i with
  | zero=>simp at ha hx;subst ha hx;exact h1
  | succ i=>exact ih.2 i a x (by simpa using ha) (by simpa using hx)
theorem View.rep {A:bE} (hC:a8 A.C) {V L S:Nat->Prop} {rho:Nat->Value} {s:AS} {a:Act} {w:World} (sim:bd A V L S rho s a w) {x:AV} {y:PV} {v:Value} (hv:View s.h x y) (hx:aI S w A.C.P L rho s.h x v):
  az (fun b=>S b\/∃id,L id/\(s.h id).live/\hasB w (s.h id) (rho id) b) w y v:=by
 have hS:∀b,S b->S b\/∃id,L id/\(s.h id).live/\hasB w (s.h id) (rho id) b:=fun b h=>.inl h
 cases hv with
 | one h1=>exact h1.rep hC sim hx
 | box id off cs xs hb oQ=>
  obtain⟨hL,g,hg,hv⟩:=hx.eY (by rw[hb];trivial)
  have hh:=sim.hp id hL
  rw[hb] at hh
  obtain⟨g',ty,c,k1,k2,k3,k4⟩:=hh
  rw[hg] at k1
  injection k1 with k1
  injection k1 with k1
  injection k1 with k1
  subst k1
  obtain⟨hl,rh⟩:=oQ.at
  have hU:∀(i:Nat) x,xs[i]?=some x->∃u,c[i]?=some u/\u.oneCell'=true/\az (fun b=>S b\/∃id,L id/\(s.h id).live/\hasB w (s.h id) (rho id) b) w x u:=by
   intro i x hi
   obtain⟨y,hy⟩:∃y,cs[i]?=some y:=⟨_,List.getElem?_eq_getElem (by rw[hl];exact ao hi)⟩
   obtain⟨u,hu⟩:=fP k3.symm (ao hy)
   obtain⟨h5,h6⟩:=k4 _ _ _ hy hu
   exact⟨u,hu,h5,(rh i y x hy hi).rep hC sim h6⟩
  have:az (fun b=>S b\/∃id,L id/\(s.h id).live/\hasB w (s.h id) (rho id) b) w (.ip xs) (.pointer (some ⟨g,0,none⟩)):=by
   refine .ip xs g 0 (fun i=>(c[i]?).getD undef) (.inr ⟨id,hL,by rw[hb];trivial,.inl (by rw[hg];rfl)⟩) (fun i x hi=>?_) fun i x hi=>?_
   ·obtain⟨u,h5,h6,h7⟩:=hU i x hi
    rw[Nat.zero_add,cell_of_row w g i c ty (0,0) k2,h5]
    exact⟨rfl,h6⟩
   obtain⟨u,h5,h6,h7⟩:=hU i x hi
   rw[h5]
   exact h7
  rw[hv]
  exact this.nJ rfl
 | gC id off xs hb=>
  obtain⟨hL,g,hg,hv⟩:=hx.eY (by rw[hb];trivial)
  have hh:=sim.hp id hL
  rw[hb] at hh
  have HP:az _ w (.ip xs) (rho id):=hh
  rw[hv]
  exact (HP.nJ hg).mono hS (fun _ _=>rfl)
theorem nB.at {h:Nat->AB} {as:List AV} {xs:List PV} (hv:nB h as xs):as.length=xs.length/\∀(i:Nat) a x,as[i]?=some a->xs[i]?=some x->View h a x:=by
 induction hv with
 | nil=>exact⟨rfl,fun i a x h=>by simp at h⟩
 | cons h1 h2 ih=>
  refine⟨by simp[ih.1],fun i a x ha hx=>?_⟩
  cases i with
  | zero=>simp at ha hx;subst ha hx;exact h1
  | succ i=>exact ih.2 i a x (by simpa using ha) (by simpa using hx)
theorem BU {A:bE} (hC:a8 A.C) {o:Oper} {V L S:Nat->Prop} {rho:Nat->Value} {s:AS} {a:Act} {w:World} {K:KK} {next:Act->World->Prop} {Q:Exit->Act->World->Prop} (sim:bd A V L S rho s a w) (hd:∀d,o.dst=some d->d < A.n)
  (hn:∀v eff b,K v eff (some b)->¬L (o.dst.getD 0)/\s.h (o.dst.getD 0)=b)
  (hnext:∀v eff new S' rho' a' w',K v eff new->bd A (sX V o.dst) (wx L new (o.dst.getD 0)) S' rho' ⟨cQ s.t o.dst v,app s.h eff⟩ a' w'->next a' w')
  (f:FuncId) (fL:List AV) (vs:Array Value) (hl:fL.length=vs.size)
  (hrep:∀(S2:Nat->Prop) (h2:Nat->AB),bd A V L S2 rho ⟨s.t,h2⟩ a w->∀(i:Nat) x v,fL[i]?=some x->vs.toList[i]?=some v->aI S2 w A.C.P L rho h2 x v)
  (hrun : (∃ fn : Func, A.C.P.funcs[f]? = some fn ∧ (fn.name == "runtime.NumGoroutine") = false ∧ fn.body.isNone = false) → (execOp a.eval o).run A.C.P w = .ok (.enter f vs) w) (hq : pS A.C s.h (o.dst.getD 0) f fL K) : o.wp A.C.P a w next Q := by
 unfold pS at hq
 split at hq
 ·exact yK hC sim hd hn hnext f fL vs hl hrep hrun hq
 obtain⟨xs,r,Da,p6,iN,hq⟩:=hq
 obtain⟨Ke,Nn⟩:=Da.at
 have key:=p6.2 (fun b=>S b\/∃id,L id/\(s.h id).live/\hasB w (s.h id) (rho id) b) w vs (hC.env _ _ _ _ sim.ev (fun b h=>.inl h) (fun _ _=>rfl) (Nat.le_refl _)) (fun b h=>h.elim (sim.st b) fun ⟨id,h1,h2,h3⟩=>(sim.lv id b h1 h2 h3).1) (by simp[<-Ke,hl]) (fun j x v hj hv=>by
   rw[List.getElem?_map] at hj
   obtain⟨y,hy,rfl⟩:=Option.map_eq_some_iff.1 hj
   obtain⟨av,Pc⟩:∃av,fL[j]?=some av:=⟨_,List.getElem?_eq_getElem (by rw[Ke];exact ao hy)⟩
   exact (Nn j av y Pc hy).rep hC sim (hrep S s.h sim j av v Pc (by simpa using hv))) (fun i j x y v u g hi hj hv hu hx=>by
   rw[List.getElem?_map] at hi
   obtain⟨z,_,rfl⟩:=Option.map_eq_some_iff.1 hi
   cases hx)
 refine rv (hrun p6.1) key fun e w' ry=>?_
 obtain⟨v,S',rfl,hf,Pb,wj,Ki,hr,dK,Kk,hown⟩:=ry
 refine⟨v,rfl,?_⟩
 have Nf:Fr (fun _=>False) w w':=⟨hf.os,hf.tape,hf.output,hf.size,fun k hk _=>hf.block k hk fun ⟨j,x,v,hj,_,hx,_⟩=>by
  rw[List.getElem?_map] at hj
  obtain⟨z,_,rfl⟩:=Option.map_eq_some_iff.1 hj
  cases hx⟩
 have dR:=sim.grow hC w' Nf
 refine hnext _ _ _ S rho _ _ hq (dR.value o.dst hd _ _ ?_)
 cases r with
 | p x=>exact .p _ _ (lI iN hr)
 | own e es=>cases iN
 | hown cs=>cases iN
 | tu ys=>
  obtain⟨us,rfl,h1,h2⟩:=hr
  refine .tu _ us (by simpa using h1) fun i c u hi hu=>?_
  rw[List.getElem?_map] at hi
  obtain⟨z,hz,rfl⟩:=Option.map_eq_some_iff.1 hi
  exact .p _ _ (lI (List.all_eq_true.1 iN z (List.mem_of_getElem? hz)) (h2 i z u hz hu))
theorem uP {P : Program} {w : World} {f : FuncId} {vs : Array Value} (h : ∃ fn : Func, P.funcs[f]? = some fn ∧ (fn.name == "runtime.NumGoroutine") = false ∧ fn.body.isNone = false) : (callFunc f vs).run P w = .ok (.enter f vs) w := by
 obtain⟨fn,h1,h2,h3⟩:=h
 have pY : ¬ fn.name = "runtime.NumGoroutine" := by simpa using h2
 cases hb:fn.body with
 | none=>rw[hb] at h3;cases h3
 | some b=>simp[callFunc,Sem.run,program,h1,pY,hb]
theorem wE {α:Type} {a:Array α} (h:isNil a.toList=true):a=#[]:=by
 obtain⟨l⟩:=a
 cases l with
 | nil=>rfl
 | cons y l=>cases h
theorem mD {S:Nat->Prop} {w:World} {P:Program} {L:Nat->Prop} {rho:Nat->Value} {h:Nat->AB} {x:AV} {v:Value} {f:FuncId} {cap:List AV} (hc:qZ x=some (f,cap)) (hx:aI S w P L rho h x v):∃us:Array Value,v=.func (.func f) #[] us/\cap.length=us.size/\∀(i:Nat) c u,cap[i]?=some c->us[i]?=some u->aI S w P L rho h c u:=by
 cases x <;> simp only[qZ] at hc <;> try (cases hc;done)
 ·rename_i y
  have hx:=hx.dE
  cases y <;> simp only[Av] at hc <;> try (cases hc;done)
  ·rename_i z
   obtain rfl:=hx.aZ
   unfold Au at hc
   split at hc
   ·rename_i fn first cp
    split at hc
    ·rename_i hn
     simp only[Bool.and_eq_true] at hn
     have e1:=wE hn.1
     have e2:=wE hn.2
     subst e1 e2
     cases fn <;> simp only[As] at hc <;> try (cases hc;done)
     injection hc with hc
     injection hc with h1 h2
     subst h1 h2
     exact⟨#[],rfl,rfl,by simp⟩
    cases hc
   cases hc
  rename_i g cp
  injection hc with hc
  injection hc with h1 h2
  subst h1 h2
  cases hx
  rename_i us hl hr
  refine⟨us,rfl,by simpa using hl,fun i c u hc hu=>?_⟩
  rw[List.getElem?_map] at hc
  obtain⟨z,hz,rfl⟩:=Option.map_eq_some_iff.1 hc
  exact .p _ _ (hr i z u hz hu)
 injection hc with hc
 injection hc with h1 h2
 subst h1 h2
 cases hx
 exact⟨_,rfl,by assumption,by assumption⟩
theorem bd.loose {A:bE} {V L S:Nat->Prop} {rho:Nat->Value} {s:AS} {a:Act} {w:World} (sim:bd A V L S rho s a w) (hC:a8 A.C) (w':World) (R:Nat->Prop) (hf:Fr R w w') (hR:∀k,R k->¬S k/\(∀i,L i->(s.h i).live->¬hasB w (s.h i) (rho i) k)/\(A.mv k\/A.w0.heap.size<=k)):bd A V L S rho s a w':=by
 have f_:∀b,S b->w'.heap[b]?=w.heap[b]?:=fun k hk=>hf.block k (sim.st k hk) (fun h=>(hR k h).1 hk)
 have T:g_ S S w w' L L rho rho s.h s.h:=⟨fun b h=>h,f_,fun j hj=>⟨hj,fun hl=>⟨hl,rfl⟩⟩,fun j e' hj=>hj⟩
 exact
 {tm:=fun j hj=>(sim.tm j hj).bP T
  sz:=sim.sz,df:=sim.df,nb:=sim.nb,pn:=sim.pn
  ev:=hC.env _ _ _ _ sim.ev (fun b h=>h) f_ hf.size
  s0:=sim.s0
  st:=fun b hb=>Nat.lt_of_lt_of_le (sim.st b hb) hf.size
  sb:=sim.sb
  hp:=fun j hj=>(sim.hp j hj).bP T (fun li g hg=>hf.block g (sim.lv j g hj li hg).1 (fun h=>(hR g h).2.1 j hj li hg)) (fun _=>rfl)
  dj:=fun i j g hi hj li lj dk fQ=>sim.dj i j g hi hj li lj (bZ (fun k hk=>hf.block k (sim.kE i k hi li hk).1 (fun h=>(hR k h).2.1 i hi li (.inl hk))) dk) (bZ (fun k hk=>hf.block k (sim.kE j k hj lj hk).1 (fun h=>(hR k h).2.1 j hj lj (.inl hk))) fQ)
  lv:=fun i g hi li hg=>by obtain⟨h1,h2⟩:=sim.lv i g hi li (bZ (fun k hk=>hf.block k (sim.kE i k hi li hk).1 (fun h=>(hR k h).2.1 i hi li (.inl hk))) hg);exact⟨Nat.lt_of_lt_of_le h1 hf.size,h2⟩
  fr:=sim.fr.next hf.os hf.tape hf.output hf.size fun k hk hn=>hf.block k (Nat.lt_of_lt_of_le hk sim.fr.size) fun h=>by
   rcases (hR k h).2.2 with h | h
   ·exact hn h
   omega }
theorem kK:∀{l:List AV} {as:List AV} {z:AV},lC l=some (as,z)->l=as++[z]
 | [],_,_,h=>by cases h
 | [x],_,_,h=>by cases h;rfl
 | x::y::r,as,z,h=>by
  rw[lC] at h
  split at h
  ·rename_i l z' h2
   cases h
   rw[kK h2]
   rfl
  cases h
theorem Fz {h:Nat->AB} {d:Nat}:∀{fz:List (Nat×AB)},(∀p∈fz,p.1≠d)->app h fz d=h d:=by
 intro fz
 induction fz generalizing h with
 | nil=>intro _;rfl
 | cons p fz ih=>
  intro hp
  obtain⟨i,b⟩:=p
  show app (aA h i b) fz d=h d
  rw[ih fun q hq=>hp q (by simp[hq]),aE _ _ (fun e=>hp (i,b) (by simp) e.symm)]
theorem BV {A:bE} (hC:a8 A.C) {o:Oper} {V L S:Nat->Prop} {rho:Nat->Value} {s:AS} {a:Act} {w:World} {K:KK} {next:Act->World->Prop} {Q:Exit->Act->World->Prop} (sim:bd A V L S rho s a w) (hd:∀d,o.dst=some d->d < A.n)
  (hn:∀v eff b,K v eff (some b)->¬L (o.dst.getD 0)/\s.h (o.dst.getD 0)=b)
  (hnext:∀v eff new S' rho' a' w',K v eff new->bd A (sX V o.dst) (wx L new (o.dst.getD 0)) S' rho' ⟨cQ s.t o.dst v,app s.h eff⟩ a' w'->next a' w')
  (f:FuncId) (fL:List AV) (vs:Array Value) (hl:fL.length=vs.size)
  (hrep:∀(S2:Nat->Prop) (h2:Nat->AB),bd A V L S2 rho ⟨s.t,h2⟩ a w->∀(i:Nat) x v,fL[i]?=some x->vs.toList[i]?=some v->aI S2 w A.C.P L rho h2 x v)
  (hrun : (∃ fn : Func, A.C.P.funcs[f]? = some fn ∧ (fn.name == "runtime.NumGoroutine") = false ∧ fn.body.isNone = false) → (execOp a.eval o).run A.C.P w = .ok (.enter f vs) w) (hq : pU A.C s.h (o.dst.getD 0) f fL K) : o.wp A.C.P a w next Q := by
 unfold pU at hq
 split at hq
 case h_2=>exact hq.elim
 rename_i as id rh
 have FA:=kK rh
 split at hq
 case h_2=>exact hq.elim
 rename_i ty c gZ aC
 split at hq
 case h_2=>exact hq.elim
 rename_i AI
 split at hq
 case h_2=>exact hq.elim
 rename_i e es an
 obtain⟨ws,vb,Da,Ka⟩:∃ws vb,vs.toList=ws++[vb]/\as.length=ws.length:=by
  have bG:vs.toList≠[]:=fun e=>by
   have:vs.size=0:=by simpa using congrArg List.length e
   rw[FA] at hl;simp at hl;omega
  refine⟨vs.toList.dropLast,vs.toList.getLast bG,(List.dropLast_concat_getLast bG).symm,?_⟩
  rw[FA] at hl
  simp at hl ⊢
  omega
 have Dp:=hrep S s.h sim as.length (.bx id 0) vb (by rw[FA];simp) (by rw[Da,Ka];simp)
 have No:∀(i:Nat) c v,as[i]?=some c->ws[i]?=some v->aI S w A.C.P L rho s.h c v:=fun i c v h1 h2=>hrep S s.h sim i c v (by rw[FA,List.getElem?_append_left (List.getElem?_eq_some_iff.1 h1).1];exact h1) (by rw[Da,List.getElem?_append_left (List.getElem?_eq_some_iff.1 h2).1];exact h2)
 obtain⟨hY,g0,gG,Ql⟩:L id/\∃g,rho id=.pointer (some ⟨g,0,none⟩)/\vb=.pointer (some ⟨g,0,none⟩):=by
  cases Dp with
  | bx _ _ _ hv=>exact hv (by rw[aC];trivial)
 obtain⟨xs,fz,S2,⟨r,ch,bW,p6,hq⟩,aP,hpv,uF,hF,wB,hlen⟩:=tH (t:=s.t) hC as ws S s.h Ka sim (kv.refl _) No hq
 split at hq
 case h_2=>exact hq.elim
 rename_i hok
 simp only[Bool.and_eq_true,Bool.not_eq_true'] at hok
 obtain⟨iN,Pd,Mc,bG⟩:=hok
 have bG:id≠gZ:=fun e=>by rw[e] at bG;simp at bG
 have Dq:(app s.h fz) id=.fv ty [c,.ow gZ]:=by rw[hM Pd,aC]
 have Dr:(app s.h fz) gZ=.row e es:=by rw[hM Mc,an]
 have Md:=aP.hp id hY
 have Md:cZ S2 w A.C.P L rho (app s.h fz) id (app s.h fz id):=Md
 rw[Dq] at Md
 obtain⟨g,cells,k1,k2,k3,k4⟩:=Md
 rw[gG] at k1
 obtain rfl:g0=g:=by injection k1 with k1;injection k1 with k1;injection k1
 obtain⟨u0,u1,dq⟩:∃u0 u1,cells=#[u0,u1]:=by
  obtain⟨cl⟩:=cells
  match cl,k3 with
  | [x,y],_=>exact⟨x,y,rfl⟩
 subst dq
 obtain⟨o0,l0⟩:=k4 0 c u0 rfl rfl
 obtain⟨o1,l1⟩:=k4 1 (.ow gZ) u1 rfl rfl
 obtain⟨tL,Kn⟩:L gZ/\u1=rho gZ:=by
  cases l1 with
  | ow _ _ hv=>exact hv (by rw[Dr];trivial)
 have Qm:u0=.pointer none\/u0=.pointer (some ⟨g0,0,none⟩):=by
  unfold GL at AI
  split at AI
  ·cases l0 with
   | p _ _ hx=>cases hx;exact .inl rfl
  ·have hi:=Nat.eq_of_beq_eq_true AI
   subst hi
   cases l0 with
   | bx _ _ _ hv=>
    obtain⟨_,g',e1,e2⟩:=hv (by rw[Dq];trivial)
    rw[gG] at e1
    injection e1 with e1;injection e1 with e1;injection e1 with e1
    subst e1
    exact .inr e2
  cases AI
 have uL:=aP.hp gZ tL
 have uL:cZ S2 w A.C.P L rho (app s.h fz) gZ (app s.h fz gZ):=uL
 rw[Dr] at uL
 have uL:aw A.C.P w (az S2 w) e es (rho gZ):=uL
 rw[<-Kn] at uL
 have yM:(app s.h fz id).live:=by rw[Dq];trivial
 have qL:(app s.h fz gZ).live:=by rw[Dr];trivial
 have yN:=aP.kE id g0 hY yM (by rw[gG];rfl)
 have nL:∀k,br u1=some k->k < w.heap.size/\¬S2 k/\(A.mv k\/A.w0.heap.size<=k)/\k≠g0:=fun k hk=>by
  obtain⟨a1,a2,a3⟩:=aP.kE gZ k tL qL (by rw[<-Kn];exact hk)
  refine⟨a1,a2,a3,fun e=>bG ?_⟩
  subst e
  exact aP.LX id gZ k hY tL yM qL (by rw[gG];rfl) (by rw[<-Kn];exact hk)
 have Nn:vs=(ws++[Value.pointer (some ⟨g0,0,none⟩)]).toArray:=by
  rw[<-Ql,<-Da]
 have key:=p6.2 S2 w ws g0 u0 u1 aP.ev aP.st hlen hpv k2 Qm uL yN.2.1 (fun k hk=>⟨(nL k hk).2.1,(nL k hk).2.2.2,(nL k hk).1⟩)
 rw[<-Nn] at key
 refine rv (hrun p6.1) key fun e' w' ry=>?_
 obtain⟨v,rfl,hf,hr,ry⟩:=ry
 refine⟨v,rfl,?_⟩
 have hval:∀{L':Nat->Prop} {rho':Nat->Value} {h':Nat->AB},aI S2 w' A.C.P L' rho' h' (JB (o.dst.getD 0) r) v:=by
  intro L' rho' h'
  cases r with
  | p x=>exact .p _ _ hr
  | own e es=>cases iN
  | hown cs=>cases iN
  | tu ys=>
   obtain⟨us,rfl,q1,q2⟩:=hr
   refine .tu _ us (by simpa using q1) fun i c u hi hu=>?_
   rw[List.getElem?_map] at hi
   obtain⟨z,hz,rfl⟩:=Option.map_eq_some_iff.1 hi
   exact .p _ _ (q2 i z u hz hu)
 split at hq
 case h_2=>
  have dR:=(aP.kill gZ).kill id
  have s6:=dR.loose hC w' (fun k=>k=g0\/br u1=some k) hf (fun k hk=>by
   have dead:∀i,(aA (aA (app s.h fz) gZ .none) id .none i).live->i≠id/\i≠gZ/\(app s.h fz i).live:=fun i li=>by
    rcases aF (aA (app s.h fz) gZ .none) id .none i with⟨rfl,h⟩ | ⟨h1,h⟩
    ·rw[h] at li;exact li.elim
    rw[h] at li
    rcases aF (app s.h fz) gZ .none i with⟨rfl,h3⟩ | ⟨h2,h3⟩
    ·rw[h3] at li;exact li.elim
    rw[h3] at li;exact⟨h1,h2,li⟩
   have GV:∀i,(aA (aA (app s.h fz) gZ .none) id .none i).live->hasB w (aA (aA (app s.h fz) gZ .none) id .none i) (rho i) k->hasB w (app s.h fz i) (rho i) k:=fun i li hg=>cT (dead i li).2.1 (cT (dead i li).1 hg)
   rcases hk with rfl | hk
   ·exact⟨yN.2.1,fun i hi li dk=>(dead i li).1 (aP.dj i id k hi hY (dead i li).2.2 yM (GV i li dk) (.inl (by rw[gG];rfl))),yN.2.2⟩
   exact⟨(nL k hk).2.1,fun i hi li dk=>(dead i li).2.1 (aP.dj i gZ k hi tL (dead i li).2.2 qL (GV i li dk) (.inl (by rw[<-Kn];exact hk))),(nL k hk).2.2.1⟩)
  have e6:aA (aA (app s.h fz) gZ .none) id .none=app s.h (fz++[(gZ,.none),(id,.none)]):=by rw[bq];rfl
  have s6:bd A V L S2 rho ⟨s.t,aA (aA (app s.h fz) gZ .none) id .none⟩ a w':=s6
  rw[e6] at s6
  exact hnext _ _ _ S2 rho _ w' hq (s6.value o.dst hd _ _ hval)
 rename_i bW
 obtain⟨u1',Ko,GW,H8⟩:=ry
 obtain⟨hL,hb⟩:=hn _ _ _ hq
 have Kp:o.dst.getD 0≠id:=fun e=>hL (e ▸ hY)
 have Kq:o.dst.getD 0≠gZ:=fun e=>hL (e ▸ tL)
 have Qn:g0 < w'.heap.size:=Nat.lt_of_lt_of_le yN.1 hf.size
 obtain⟨w1,FB⟩:∃w1:World,w1={ w' with heap:=w'.heap.setIfInBounds g0 (.cells #[u0,u1] ty (0,0)) }:=⟨_,rfl⟩
 have Qo:w1.heap[g0]?=some (.cells #[u0,u1] ty (0,0)):=by rw[FB];simp[Qn]
 have Me:∀k,k≠g0->w1.heap[k]?=w'.heap[k]?:=fun k hk=>by rw[FB];simp[Array.getElem?_setIfInBounds,hk.symm]
 have Np:w1.heap.size=w'.heap.size:=by rw[FB];simp
 have Qp:∀k,br u1'=some k->k≠g0:=fun k hk=>by
  rcases (H8 k hk).2 with h | h
  ·exact (nL k h).2.2.2
  have:=yN.1;omega
 have dR:=aP.kill gZ
 have s6:=dR.new hC (o.dst.getD 0) (.row e bW) (aP.kj hd) hL (by
   show aA (app s.h fz) gZ .none (o.dst.getD 0)=_
   rw[aE _ _ Kq,Fz fun p hp e=>hL (by rw[<-e];exact wB p hp),hb]) w1 (by rw[FB];exact hf.os) (by rw[FB];exact hf.tape) (by rw[FB];exact hf.output) (by rw[Np];exact hf.size) (fun k=>br u1=some k)
  (fun k hk Kd=>by
   by_cases e:k=g0
   ·subst e;rw[Qo,k2]
   rw[Me k e];exact hf.block k hk (fun h=>h.elim e Kd))
  (fun k hk=>by
   refine⟨(nL k hk).2.1,fun i hi li dk=>?_,(nL k hk).2.2.1⟩
   have jf:(aA (app s.h fz) gZ .none i).live:=li
   rcases aF (app s.h fz) gZ .none i with⟨rfl,h⟩ | ⟨Kr,h⟩
   ·rw[h] at jf;exact jf.elim
   rw[h] at jf
   exact Kr (aP.dj i gZ k hi tL jf qL (cT Kr dk) (.inl (by rw[<-Kn];exact hk))))
  u1' (fun k hk=>by rw[Np];exact⟨(H8 k hk).1,(H8 k hk).2.symm⟩)
  (fun T=>by
   show aw A.C.P w1 (az S2 w1) e bW (aA rho (o.dst.getD 0) u1' (o.dst.getD 0))
   rw[ar]
   exact GW.bP (fun k hk=>Me k (Qp k hk)) (fun x u hx=>hx.mono (fun _ h=>h) fun k hk=>Me k fun e=>yN.2.1 (e ▸ hk)))
 have Nq:(aA (app s.h fz) gZ .none) id=.fv ty [c,.ow gZ]:=by rw[aE _ _ bG,Dq]
 have Ia:aA rho (o.dst.getD 0) u1' id=.pointer (some ⟨g0,0,none⟩):=by rw[aE _ _ Kp.symm,gG]
 have FC:=s6.write hC id (.inl hY) (by show ((aA (app s.h fz) gZ .none) id).live;rw[Nq];trivial) (.fv ty [pT ch id c,.ow (o.dst.getD 0)]) (fun _ h=>by cases h) w' (by rw[FB]) (by rw[FB]) (by rw[FB]) Np.symm
  (fun k hk=>(Me k fun e=>hk (by rw[Ia,e];rfl)).symm)
  (fun T=>by
   refine⟨g0,_,Ia,Ko,rfl,fun j x u hj hu=>?_⟩
   match j,hj,hu with
   | 0,hj,hu=>
    cases hj
    cases ch with
    | true=>
     cases hu
     exact⟨rfl,.bx id 0 _ fun _=>⟨.inl hY,g0,Ia,rfl⟩⟩
    | false=>
     cases hu
     exact⟨o0,(l0.bP (S':=S2) (w':=w') (L':=fun i=>L i\/i=o.dst.getD 0) (rho':=aA rho (o.dst.getD 0) u1') (h':=aA (aA (app s.h fz) gZ .none) id (.fv ty [pT false id c,.ow (o.dst.getD 0)])) ⟨fun _ h=>h,fun k hk=>hf.block k (aP.st k hk) (fun h=>h.elim (fun e=>yN.2.1 (e ▸ hk)) (fun h=>(nL k h).2.1 hk)),fun j hj=>by
       rcases aF (aA (app s.h fz) gZ .none) id (.fv ty [pT false id c,.ow (o.dst.getD 0)]) j with⟨rfl,h⟩ | ⟨Nr,h⟩
       ·exact⟨by rw[Dq];trivial,fun hl=>⟨.inl hl,aE _ _ Kp.symm⟩⟩
       ·rw[h] at hj
        rcases aF (app s.h fz) gZ .none j with⟨rfl,h3⟩ | ⟨Fh,h3⟩
        ·rw[h3] at hj;exact hj.elim
        rw[h3] at hj
        exact⟨hj,fun hl=>⟨.inl hl,aE _ _ fun e=>hL (e ▸ hl)⟩⟩,fun j e2 hj=>by
       rcases aF (aA (app s.h fz) gZ .none) id (.fv ty [pT false id c,.ow (o.dst.getD 0)]) j with⟨rfl,h⟩ | ⟨Nr,h⟩
       ·rw[h] at hj;cases hj
       rw[h] at hj
       rcases aF (app s.h fz) gZ .none j with⟨rfl,h3⟩ | ⟨Fh,h3⟩
       ·rw[h3] at hj;cases hj
       rw[h3] at hj;exact hj⟩)⟩
   | 1,hj,hu=>
    cases hj
    cases hu
    obtain⟨i0,RH,JH,_,hown,_⟩:=GW
    refine⟨?_,.ow _ _ fun _=>⟨.inr rfl,(ar _ _ _).symm⟩⟩
    obtain⟨a0,c0,Kc⟩:=cC hown
    rw[Kc]
    rfl
   | n+2,hj,hu=>cases hj)
 have e6:aA (aA (app s.h fz) gZ .none) id (.fv ty [pT ch id c,.ow (o.dst.getD 0)])=app s.h (fz++[(gZ,.none),(id,.fv ty [pT ch id c,.ow (o.dst.getD 0)])]):=by rw[bq];rfl
 have FC:bd A V (fun i=>L i\/i=o.dst.getD 0) S2 (aA rho (o.dst.getD 0) u1') ⟨s.t,aA (aA (app s.h fz) gZ .none) id (.fv ty [pT ch id c,.ow (o.dst.getD 0)])⟩ a w':=FC
 rw[e6] at FC
 exact hnext _ _ _ S2 (aA rho (o.dst.getD 0) u1') _ w' hq (FC.value o.dst hd _ _ hval)
theorem FD {A:bE} {o:Oper} (c:Call) (g:Operand) (ax:o.op=.call c) (hc:c.callee=.value g):eX A o:=by
 intro V L S rho s a w K next Q hC sim hV hd hq hn hnext
 obtain⟨callee,args,argTypes⟩:=c
 simp only at hc
 subst hc
 simp only[aY,ax,cM] at hq
 have hg:=aM sim g fun j hj=>hV j (by simp[ax,Op.operands,Call.operands,hj])
 have hargs:∀(S2:Nat->Prop) (h2:Nat->AB),bd A V L S2 rho ⟨s.t,h2⟩ a w->∀x∈args.toList,aI S2 w A.C.P L rho h2 (ev s.t x) (a.eval x):=fun S2 h2 aP x hx=>aM aP x fun j hj=>hV j (by simp[ax,Op.operands,Call.operands];rw[<-hj];exact .inr (Array.mem_toList_iff.1 hx))
 have yG:∀(S2:Nat->Prop) (h2:Nat->AB),bd A V L S2 rho ⟨s.t,h2⟩ a w->∀(i:Nat) x v,(args.toList.map (ev s.t))[i]?=some x->(args.map a.eval).toList[i]?=some v->aI S2 w A.C.P L rho h2 x v:=by
  intro S2 h2 aP i x v hx hv
  rw[List.getElem?_map] at hx
  obtain⟨y,hy,rfl⟩:=Option.map_eq_some_iff.1 hx
  rw[Array.toList_map,List.getElem?_map,hy] at hv
  simp at hv
  rw[<-hv]
  exact hargs S2 h2 aP y (List.mem_of_getElem? hy)
 split at hq
 case h_2=>exact hq.elim
 rename_i f cap Pe
 obtain⟨us,he,hl,_⟩:=mD Pe hg
 have AJ : (∀ (S2 : Nat → Prop) (h2 : Nat → AB), bd A V L S2 rho ⟨s.t, h2⟩ a w → ∀ (i : Nat) x v, (args.toList.map (ev s.t) ++ cap)[i]? = some x → (args.map a.eval ++ us).toList[i]? = some v → aI S2 w A.C.P L rho h2 x v) ∧ ((∃ fn : Func, A.C.P.funcs[f]? = some fn ∧ (fn.name == "runtime.NumGoroutine") = false ∧ fn.body.isNone = false) → (execOp a.eval o).run A.C.P w = .ok (.enter f (args.map a.eval ++ us)) w) := by
  refine⟨fun S2 h2 aP i x v hx hv=>?_,fun Ns=>?_⟩
  ·rw[Array.toList_append] at hv
   by_cases hi:i < args.size
   ·rw[List.getElem?_append_left (by simpa using hi)] at hx
    rw[List.getElem?_append_left (by simpa using hi)] at hv
    exact yG S2 h2 aP i x v hx hv
   rw[List.getElem?_append_right (by simp;omega)] at hx
   rw[List.getElem?_append_right (by simp;omega)] at hv
   simp only[List.length_map,Array.length_toList,Array.toList_map] at hx hv
   have Mf:=aM aP g fun j hj=>hV j (by simp[ax,Op.operands,Call.operands,hj])
   obtain⟨RI,lF,_,mB⟩:=mD Pe Mf
   rw[he] at lF
   injection lF with _ _ lF
   subst lF
   exact mB _ x v hx (by simpa using hv)
  simp[execOp,ax,resolve,he,Deferred.ofValue,invoke,uP Ns]
 split at hq
 ·exact BU hC sim hd hn hnext f _ (args.map a.eval++us) (by simp[hl]) AJ.1 AJ.2 hq
 exact BV hC sim hd hn hnext f _ (args.map a.eval++us) (by simp[hl]) AJ.1 AJ.2 hq
end Go.AM
namespace Go.AM
open Go.RowKit
def Ext (h h':Nat->AB):Prop:=∀id,h id=.none\/h' id=h id
theorem Ext.row {h h':Nat->AB} (H:Ext h h') {id:Nat} {e:TypeId} {es:List (List PV)} (hr:h id=.row e es):h' id=.row e es:=by
 rcases H id with h1 | h1
 ·rw[h1] at hr;cases hr
 rw[h1,hr]
theorem Ext.fK {h h':Nat->AB} (H:Ext h h') {id:Nat} {es:List (List PV)} (hr:h id=.fK es):h' id=.fK es:=by
 rcases H id with h1 | h1
 ·rw[h1] at hr;cases hr
 rw[h1,hr]
theorem Ext.box {h h':Nat->AB} (H:Ext h h') {id:Nat} {cs:List AV} (hr:h id=.box cs):h' id=.box cs:=by
 rcases H id with h1 | h1
 ·rw[h1] at hr;cases hr
 rw[h1,hr]
theorem Ext.aC {h h':Nat->AB} (H:Ext h h') {id:Nat} {cs:List HC} (hr:h id=.aC cs):h' id=.aC cs:=by
 rcases H id with h1 | h1
 ·rw[h1] at hr;cases hr
 rw[h1,hr]
theorem Ext.fv {h h':Nat->AB} (H:Ext h h') {id:Nat} {ty:TypeId} {cs:List AV} (hr:h id=.fv ty cs):h' id=.fv ty cs:=by
 rcases H id with h1 | h1
 ·rw[h1] at hr;cases hr
 rw[h1,hr]
theorem Ext.gC {h h':Nat->AB} (H:Ext h h') {id:Nat} {cs:List PV} (hr:h id=.gC cs):h' id=.gC cs:=by
 rcases H id with h1 | h1
 ·rw[h1] at hr;cases hr
 rw[h1,hr]
theorem Ext.map {h h':Nat->AB} (H:Ext h h') {id:Nat} {mk:MK} {es:List (Value×PV)} (hr:h id=.map mk es):h' id=.map mk es:=by
 rcases H id with h1 | h1
 ·rw[h1] at hr;cases hr
 rw[h1,hr]
theorem Ext.an {h h':Nat->AB} (H:Ext h h') {id:Nat} {e:TypeId} {es:List (List HX)} (hr:h id=.an e es):h' id=.an e es:=by
 rcases H id with h1 | h1
 ·rw[h1] at hr;cases hr
 rw[h1,hr]
theorem BW {h h':Nat->AB} (H:Ext h h') {a:AV} {n:Nat} (hq:hlen h a=some n):hlen h' a=some n:=by
 unfold hlen at hq ⊢
 split at hq
 ·rename_i id
  split at hq
  ·rename_i e es hr
   rw[H.an hr]
   exact hq
  cases hq
 ·rename_i id lo hi
  split at hq
  ·rename_i e es hr
   rw[H.row hr]
   exact hq
  cases hq
 cases hq
theorem BX {h h':Nat->AB} (H:Ext h h') {a:AV} {K:List (List PV)->Prop} (hq:dW h a K):hlen h' a=none:=by
 unfold dW at hq
 unfold hlen
 split at hq
 ·rfl
 ·rfl
 ·rename_i id
  simp only
  split at hq
  ·rename_i hr;rw[H.row hr]
  ·rename_i hr;rw[H.fK hr]
  exact hq.elim
 exact hq.elim
theorem nM {h h':Nat->AB} (H:Ext h h') {a:AV} (h2:oS h a=true):oS h' a=true:=by
 cases a with
 | p x=>cases x <;> exact h2
 | nl=>rfl
 | ow id=>
  unfold oS at h2 ⊢
  simp only at h2 ⊢
  split at h2
  ·rename_i hr;rw[H.row hr]
  ·rename_i hr;rw[H.an hr]
  ·rename_i hr;rw[H.fK hr]
  cases h2
 | bx id off=>
  unfold oS at h2 ⊢
  simp only at h2 ⊢
  split at h2
  ·cases h2
  rename_i bG
  rcases H id with h4 | h4
  ·exact absurd h4 (by simpa using bG)
  rw[h4]
  split
  ·rename_i h5;exact absurd h5 (by simpa using bG)
  rfl
 | vw id lo hi=>exact h2
 | rp id i off=>
  unfold oS at h2 ⊢
  simp only at h2 ⊢
  split at h2
  ·rename_i hr;rw[H.row hr]
  ·rename_i hr;rw[H.an hr]
  cases h2
 | fn f cap=>rfl
 | tu xs=>exact h2
 | st xs=>exact h2
 | junk=>exact h2
theorem tM {h h':Nat->AB} (H:Ext h h') {a:AV} {K:PV->List (Nat×AB)->Prop} (hq:gY h a K):∃x fz,K x fz/\∀K':PV->List (Nat×AB)->Prop,K' x fz->gY h' a K':=by
 unfold gY at hq
 split at hq
 ·exact⟨_,_,hq,fun K' h=>h⟩
 ·exact⟨_,_,hq,fun K' h=>h⟩
 ·split at hq
  ·rename_i hr
   exact⟨_,_,hq,fun K' h=>by simp only[gY,H.row hr];exact h⟩
  ·rename_i hr
   exact⟨_,_,hq,fun K' h=>by simp only[gY,H.fK hr];exact h⟩
  exact hq.elim
 ·split at hq
  ·rename_i hr
   split at hq
   ·rename_i hx
    exact⟨_,_,hq,fun K' h=>by simp only[gY,H.box hr,hx];exact h⟩
   exact hq.elim
  ·rename_i hr
   exact⟨_,_,hq,fun K' h=>by simp only[gY,H.gC hr];exact h⟩
  exact hq.elim
 exact hq.elim
theorem tN {h h':Nat->AB} (H:Ext h h'):∀{as:List AV} {K:List PV->List (Nat×AB)->Prop},pR h as K->∃xs fz,K xs fz/\∀K':List PV->List (Nat×AB)->Prop,K' xs fz->pR h' as K':=by
 intro as
 induction as with
 | nil=>intro K hq;exact⟨_,_,hq,fun K' h=>h⟩
 | cons a as ih=>
  intro K hq
  unfold pR at hq
  obtain⟨x,fz,hq,hK⟩:=tM H hq
  obtain⟨xs,iL,hq,uQ⟩:=ih hq
  refine⟨_,_,hq,fun K' h=>?_⟩
  unfold pR
  exact hK _ (uQ _ h)
theorem eN {h h':Nat->AB} (H:Ext h h') {a:AV} {K:PV->List (Nat×AB)->Prop} (hq:eh h a K):∃x fz,K x fz/\∀K':PV->List (Nat×AB)->Prop,K' x fz->eh h' a K':=by
 unfold eh at hq
 split at hq
 ·obtain⟨xs,fz,hq,hK⟩:=tN H hq
  exact⟨_,_,hq,fun K' h=>hK _ h⟩
 rename_i bG
 obtain⟨x,fz,hq,hK⟩:=tM H hq
 refine⟨x,fz,hq,fun K' h=>?_⟩
 unfold eh
 split
 ·exact absurd rfl (bG _ _)
 exact hK _ h
theorem rz {h h':Nat->AB} (H:Ext h h') {a:AV} {K:List (List PV)->Prop} (hq:dW h a K):∃es,K es/\∀K':List (List PV)->Prop,K' es->dW h' a K':=by
 unfold dW at hq
 split at hq
 ·exact⟨_,hq,fun K' h=>h⟩
 ·exact⟨_,hq,fun K' h=>h⟩
 ·split at hq
  ·rename_i hr
   exact⟨_,hq,fun K' h=>by simp only[dW,H.row hr];exact h⟩
  ·rename_i hr
   exact⟨_,hq,fun K' h=>by simp only[dW,H.fK hr];exact h⟩
  exact hq.elim
 exact hq.elim
theorem BY {h h':Nat->AB} (H:Ext h h') {fs:List (Nat×Nat×Bool)} {rho:Operand->AV}:∀{ps:List (Nat×Operand)} {cs:List PV} {K:List PV->List (Nat×AB)->Prop},fM h fs rho ps cs K->∃x fz,K x fz/\∀K':List PV->List (Nat×AB)->Prop,K' x fz->fM h' fs rho ps cs K':=by
 intro ps
 induction ps with
 | nil=>intro cs K hq;exact⟨_,_,hq,fun K' h=>h⟩
 | cons p ps ih=>
  intro cs K hq
  obtain⟨i,x⟩:=p
  unfold fM at hq
  split at hq
  ·rename_i h1
   obtain⟨y,fz,hq,hK⟩:=eN H hq
   split at hq
   ·rename_i ys h2
    split at hq
    ·rename_i h3
     obtain⟨z,iL,hq,uQ⟩:=ih hq
     refine⟨z,fz++iL,hq,fun K' h=>?_⟩
     simp only[fM,h1]
     refine hK _ ?_
     simp only[h2,h3]
     exact uQ _ h
    exact hq.elim
   exact hq.elim
  exact hq.elim
theorem tO {h h':Nat->AB} (H:Ext h h') {fs:List (Nat×Nat×Bool)} {rho:Operand->AV}:∀{ps:List (Nat×Operand)} {cs:List AV} {K:List AV->Prop},gD h fs rho ps cs K->∃z,K z/\∀K':List AV->Prop,K' z->gD h' fs rho ps cs K':=by
 intro ps
 induction ps with
 | nil=>intro cs K hq;exact⟨cs,hq,fun K' h=>h⟩
 | cons p ps ih=>
  intro cs K hq
  obtain⟨i,x⟩:=p
  unfold gD at hq
  split at hq
  ·rename_i h1
   split at hq
   ·rename_i h2
    obtain⟨z,h3,h4⟩:=ih hq
    refine⟨z,h3,fun K' hk=>?_⟩
    unfold gD
    simp only[Bool.and_eq_true] at h2
    simp only[h1,h2.1.1,h2.1.2,nM H h2.2,Bool.and_self]
    exact h4 K' hk
   exact hq.elim
  exact hq.elim
theorem BZ {h h':Nat->AB} (H:Ext h h') {b:Bool} {a:AV} {K:PV->List (Nat×AB)->Prop} (hq:pV b h a K):∃x fz,K x fz/\∀K':PV->List (Nat×AB)->Prop,K' x fz->pV b h' a K':=by
 unfold pV at hq
 split at hq
 ·exact⟨_,_,hq,fun K' h=>h⟩
 rename_i bG
 obtain⟨x,fz,h1,h2⟩:=eN H hq
 refine⟨x,fz,h1,fun K' h=>?_⟩
 unfold pV
 split
 ·exact (bG rfl rfl).elim
 exact h2 K' h
theorem rA {h h':Nat->AB} (H:Ext h h') {b:Bool} {size:Nat} {rho:Operand->AV}:∀{ps:List (Nat×Operand)} {cs:List (List PV)} {K:List (List PV)->List (Nat×AB)->Prop},dV b h size rho ps cs K->∃x fz,K x fz/\∀K':List (List PV)->List (Nat×AB)->Prop,K' x fz->dV b h' size rho ps cs K':=by
 intro ps
 induction ps with
 | nil=>intro cs K hq;exact⟨_,_,hq,fun K' h=>h⟩
 | cons p ps ih=>
  intro cs K hq
  obtain⟨i,x⟩:=p
  unfold dV at hq
  obtain⟨y,fz,hq,hK⟩:=BZ H hq
  split at hq
  ·rename_i ys h2
   split at hq
   ·rename_i h3
    obtain⟨z,iL,hq,uQ⟩:=ih hq
    refine⟨z,fz++iL,hq,fun K' h=>?_⟩
    simp only[dV]
    refine hK _ ?_
    simp only[h2,h3]
    exact uQ _ h
   exact hq.elim
  exact hq.elim
theorem B0 {h h':Nat->AB} (H:Ext h h') {md:Nat->Bool}:∀{as:List AV} {j:Nat} {K:List Arg->List (Nat×AB)->List (Nat×AB)->Prop},dU md h j as K->∃xs ids fz,K xs ids fz/\∀K':List Arg->List (Nat×AB)->List (Nat×AB)->Prop,K' xs ids fz->dU md h' j as K':=by
 intro as
 induction as with
 | nil=>intro j K hq;exact⟨_,_,_,hq,fun K' h=>h⟩
 | cons a as ih=>
  intro j K hq
  unfold dU at hq
  split at hq
  ·rename_i hm
   obtain⟨y,fz,hq,hK⟩:=eN H hq
   obtain⟨xs,ids,iL,hq,uQ⟩:=ih hq
   refine⟨_,_,_,hq,fun K' h=>?_⟩
   simp only[dU,hm]
   exact hK _ (uQ _ h)
  rename_i hm
  split at hq
  ·split at hq
   ·rename_i hr
    obtain⟨xs,ids,iL,hq,uQ⟩:=ih hq
    refine⟨_,_,_,hq,fun K' h=>?_⟩
    simp only[dU,hm,H.row hr]
    exact uQ _ h
   ·rename_i hr
    obtain⟨xs,ids,iL,hq,uQ⟩:=ih hq
    refine⟨_,_,_,hq,fun K' h=>?_⟩
    simp only[dU,hm,H.fK hr]
    exact uQ _ h
   ·rename_i hr
    obtain⟨xs,ids,iL,hq,uQ⟩:=ih hq
    refine⟨_,_,_,hq,fun K' h=>?_⟩
    simp only[dU,hm,H.map hr]
    exact uQ _ h
   exact hq.elim
  ·obtain⟨xs,ids,iL,hq,uQ⟩:=ih hq
   refine⟨_,_,_,hq,fun K' h=>?_⟩
   simp only[dU,hm]
   exact uQ _ h
  ·split at hq
   ·rename_i hr
    split at hq
    ·rename_i hx
     obtain⟨xs,ids,iL,hq,uQ⟩:=ih hq
     refine⟨_,_,_,hq,fun K' h=>?_⟩
     simp only[dU,hm,H.box hr,hx]
     exact uQ _ h
    exact hq.elim
   ·rename_i hr
    obtain⟨xs,ids,iL,hq,uQ⟩:=ih hq
    refine⟨_,_,_,hq,fun K' h=>?_⟩
    simp only[dU,hm,H.aC hr]
    exact uQ _ h
   exact hq.elim
  exact hq.elim
theorem yO {C:Ctx} {h h':Nat->AB} (H:Ext h h') {d:Nat} {f:FuncId} {as:List AV} {K:KK} (hq:jC C h d f as K):∃v e n,K v e n/\∀K':KK,K' v e n->jC C h' d f as K':=by
 unfold jC at hq
 obtain⟨xs,ids,fz,⟨r,fin,hc,hq⟩,hK⟩:=B0 H hq
 split at hq
 ·rename_i h1
  split at hq
  ·rename_i h2
   split at hq
   ·rename_i h3
    refine⟨_,_,_,hq,fun K' h=>?_⟩
    unfold jC
    refine hK _ ⟨r,fin,hc,?_⟩
    simp only[h1,h2,h3]
    exact h
   rename_i h3
   refine⟨_,_,_,hq,fun K' h=>?_⟩
   unfold jC
   refine hK _ ⟨r,fin,hc,?_⟩
   simp only[h1,h2,h3]
   exact h
  exact hq.elim
 exact hq.elim
theorem jh.ext {h h':Nat->AB} (H:Ext h h') {a:AV} {x:PV} (hv:jh h a x):jh h' a x:=by
 cases hv with
 | p=>exact .p _
 | nl=>exact .nl
 | row id e es hr=>exact .row id e es (H.row hr)
 | fK id es hr=>exact .fK id es (H.fK hr)
 | an id e es ps hr hp=>exact .an id e es ps (H.an hr) hp
theorem jD.ext {h h':Nat->AB} (H:Ext h h') {as:List AV} {xs:List PV} (hv:jD h as xs):jD h' as xs:=by
 induction hv with
 | nil=>exact .nil
 | cons h1 _ ih=>exact .cons (h1.ext H) ih
theorem View.ext {h h':Nat->AB} (H:Ext h h') {a:AV} {x:PV} (hv:View h a x):View h' a x:=by
 cases hv with
 | one h1=>exact .one (h1.ext H)
 | box id off cs xs hb hx=>exact .box id off cs xs (H.box hb) (hx.ext H)
 | gC id off xs hb=>exact .gC id off xs (H.gC hb)
theorem nB.ext {h h':Nat->AB} (H:Ext h h') {as:List AV} {xs:List PV} (hv:nB h as xs):nB h' as xs:=by
 induction hv with
 | nil=>exact .nil
 | cons h1 _ ih=>exact .cons (h1.ext H) ih
theorem yP {h h':Nat->AB} (H:Ext h h'):∀{as:List AV},sV (cw h) as=true->sV (cw h') as=true:=by
 intro as
 induction as with
 | nil=>intro h;cases h
 | cons a as ih=>
  intro hq
  unfold sV at hq ⊢
  split at hq
  ·rename_i h1
   have:cw h' a=true:=by
    unfold cw at h1 ⊢
    split at h1
    ·split at h1
     ·rename_i hb;simp only[H.box hb];exact h1
     cases h1
    ·split at h1
     ·rename_i hb;simp only[H.an hb]
     cases h1
    cases h1
   rw[this]
  cases cw h' a with
  | true=>rfl
  | false=>exact ih hq
theorem B1 {h h':Nat->AB} (H:Ext h h') {a:AV} {K:PV->List (Nat×AB)->Prop} (h1:cw h a=false) (hq:eh h a K):cw h' a=false:=by
 cases a with
 | ow id=>
  simp only[eh,gY] at hq
  simp only[cw] at h1 ⊢
  split at hq
  ·rename_i hr;rw[H.row hr]
  ·rename_i hr;rw[H.fK hr]
  exact hq.elim
 | bx id off=>
  simp only[eh,gY] at hq
  simp only[cw] at h1 ⊢
  split at hq
  ·rename_i hr;rw[hr] at h1;rw[H.box hr];exact h1
  ·rename_i hr;rw[H.gC hr]
  exact hq.elim
 | _=>rfl
theorem yQ {h h':Nat->AB} (H:Ext h h') {md:Nat->Bool}:∀{as:List AV} {j:Nat} {K:List Arg->List (Nat×AB)->List (Nat×AB)->Prop},dU md h j as K->sV (cw h) as=false->sV (cw h') as=false:=by
 intro as
 induction as with
 | nil=>intro _ _ _ _;rfl
 | cons a as ih=>
  intro j K hq hn
  unfold sV at hn ⊢
  split at hn
  ·cases hn
  rename_i h1
  have:cw h' a=false/\∃(j:Nat) (K:List Arg->List (Nat×AB)->List (Nat×AB)->Prop),dU md h j as K:=by
   unfold dU at hq
   split at hq
   ·obtain⟨x,fz,oW,_⟩:=eN (fun _=>.inr rfl) hq
    exact⟨B1 H h1 hq,_,_,oW⟩
   split at hq
   ·rename_i id
    split at hq
    ·rename_i hr;exact⟨by simp only[cw];rw[H.row hr],_,_,hq⟩
    ·rename_i hr;exact⟨by simp only[cw];rw[H.fK hr],_,_,hq⟩
    ·rename_i hr;exact⟨by simp only[cw];rw[H.map hr],_,_,hq⟩
    exact hq.elim
   ·exact⟨rfl,_,_,hq⟩
   ·rename_i id
    split at hq
    ·rename_i hr
     split at hq
     ·refine⟨?_,_,_,hq⟩
      simp only[cw] at h1 ⊢
      rw[hr] at h1
      rw[H.box hr]
      exact h1
     exact hq.elim
    ·rename_i hr;exact⟨by simp only[cw];rw[H.aC hr],_,_,hq⟩
    exact hq.elim
   exact hq.elim
  obtain⟨h2,j',K',h3⟩:=this
  rw[h2]
  exact ih h3 hn
theorem B2 {C:Ctx} {h h':Nat->AB} (H:Ext h h') {d:Nat} {f:FuncId} {as:List AV} {K:KK} (hq:pS C h d f as K):∃v e n,K v e n/\∀K':KK,K' v e n->pS C h' d f as K':=by
 unfold pS at hq
 split at hq
 ·rename_i hn
  have wk:sV (cw h') as=false:=yQ H (by unfold jC at hq;exact hq) hn
  obtain⟨v,e,n,h1,h2⟩:=yO H hq
  exact⟨v,e,n,h1,fun K' hk=>by unfold pS;rw[wk];exact h2 K' hk⟩
 rename_i hn
 have wk:=yP H hn
 obtain⟨xs,r,h1,h2,h3,h4⟩:=hq
 exact⟨_,_,_,h4,fun K' hk=>by unfold pS;rw[wk];exact⟨xs,r,h1.ext H,h2,h3,hk⟩⟩
theorem B3 {C:Ctx} {h h':Nat->AB} (H:Ext h h') {d:Nat} {f:FuncId} {as:List AV} {K:KK} (hq:pU C h d f as K):∃v e n,K v e n/\∀K':KK,K' v e n->pU C h' d f as K':=by
 unfold pU at hq
 split at hq
 case h_2=>exact hq.elim
 rename_i h0
 split at hq
 case h_2=>exact hq.elim
 rename_i h1
 split at hq
 case h_2=>exact hq.elim
 rename_i h2
 split at hq
 case h_2=>exact hq.elim
 rename_i h3
 obtain⟨xs,fz,⟨r,ch,bW,hc,hq⟩,hK⟩:=tN H hq
 split at hq
 case h_2=>exact hq.elim
 rename_i h4
 split at hq
 ·refine⟨_,_,_,hq,fun K' h=>?_⟩
  unfold pU
  simp only[h0,H.fv h1,h2,H.row h3]
  refine hK _ ⟨r,ch,_,hc,?_⟩
  simp only[h4]
  exact h
 refine⟨_,_,_,hq,fun K' h=>?_⟩
 unfold pU
 simp only[h0,H.fv h1,h2,H.row h3]
 refine hK _ ⟨r,ch,_,hc,?_⟩
 simp only[h4]
 exact h
theorem jk {k:IntKind} {n:Int} {K:Value->Prop} (hq:oT k n K):∃v,K v/\∀K':Value->Prop,K' v->oT k n K':=by
 unfold oT at hq
 split at hq
 ·rename_i h
  exact⟨_,hq.2,fun K' hk=>by simp only[oT,h];exact⟨hq.1,hk⟩⟩
 rename_i h
 exact⟨_,hq,fun K' hk=>by simp only[oT,h];exact hk⟩
theorem wF {T:TypeId->Option TI} {op:BinOp} {t:TypeId} {x:PV} {K:Value->Prop} (hq:BA T op t x K):∃v,K v/\∀K':Value->Prop,K' v->BA T op t x K':=by
 unfold BA at hq
 split at hq
 case h_2=>exact hq.elim
 split at hq
 case h_1=>exact hq.elim
 rename_i h1
 split at hq
 case h_2=>exact hq.elim
 rename_i h2
 split at hq <;> first
  | exact hq.elim
  | exact⟨_,hq,fun K' h=>by simp only[BA,h1,h2];exact h⟩
theorem wG {T:TypeId->Option TI} {op:BinOp} {t:TypeId} {x y:PV} {K:Value->Prop} (hq:mS T op t x y K):∃v,K v/\∀K':Value->Prop,K' v->mS T op t x y K':=by
 unfold mS at hq
 split at hq
 ·split at hq
  ·rename_i hs
   exact⟨_,hq.2,fun K' h=>by simp only[mS,hs];exact⟨hq.1,h⟩⟩
  rename_i hs
  split at hq
  ·exact hq.elim
  rename_i hk
  split at hq <;> first
   | exact hq.elim
   | (obtain⟨v,h1,h2⟩:=jk hq;exact⟨v,h1,fun K' h=>by simp only[mS,hk,hs];exact h2 K' h⟩)
   | (obtain⟨v,h1,h2⟩:=jk hq.2;exact⟨v,h1,fun K' h=>by simp only[mS,hk,hs];exact⟨hq.1,h2 K' h⟩⟩)
   | exact⟨_,hq,fun K' h=>by simp only[mS,hk,hs];exact h⟩
   | exact⟨_,hq.2,fun K' h=>by simp only[mS,hk,hs];exact⟨hq.1,h⟩⟩
 ·split at hq <;> first
   | exact hq.elim
   | exact⟨_,hq,fun K' h=>by simp only[mS];exact h⟩
   | exact⟨_,hq.2,fun K' h=>by simp only[mS];exact⟨hq.1,h⟩⟩
 ·split at hq
  ·rename_i hT
   split at hq <;> first
    | exact hq.elim
    | exact⟨_,hq,fun K' h=>by simp only[mS,hT];exact h⟩
  exact hq.elim
 ·split at hq
  ·rename_i hT
   split at hq
   ·exact hq.elim
   rename_i hn
   split at hq
   ·split at hq
    ·rename_i he
     exact⟨_,hq,fun K' h=>by simp only[mS,hT,hn,he];exact h⟩
    exact hq.elim
   ·split at hq
    ·rename_i he
     exact⟨_,hq,fun K' h=>by simp only[mS,hT,hn,he];exact h⟩
    exact hq.elim
   exact hq.elim
  exact hq.elim
 exact hq.elim
theorem mX {h h':Nat->AB} (H:Ext h h') {C:Ctx} {rho:Operand->AV} {t:TypeId} {x:Operand} {lo hi:Option Operand} {K:KK} (hq:dJ C rho h t x lo hi K):∃v e n,K v e n/\∀K':KK,K' v e n->dJ C rho h' t x lo hi K':=by
 simp only[dJ] at hq
 split at hq
 ·rename_i h0
  split at hq
  ·rename_i h1
   split at hq
   ·rename_i h2 h3;exact⟨_,_,_,hq.2,fun K' h=>by simp only[dJ,h0,h1,h2,h3];exact⟨hq.1,h⟩⟩
   exact hq.elim
  exact hq.elim
 ·rename_i h0
  split at hq
  ·exact hq.elim
  rename_i h1
  obtain⟨z,fz,hq,hK⟩:=eN H hq
  split at hq
  ·split at hq
   ·rename_i h2 h3
    refine⟨_,_,_,hq.2,fun K' h=>?_⟩
    simp only[dJ,h0,h1]
    refine hK _ ?_
    simp only[h2,h3]
    exact⟨hq.1,h⟩
   exact hq.elim
  exact hq.elim
 exact hq.elim
theorem B4 {C:Ctx} {rho:Operand->AV} {t:TypeId} {lo hi:Option Operand} {id:Nat} {e':TypeId} {es:List (List PV)} {K:KK} (hq:nD C rho t lo hi id e' es K):∃v e n,K v e n/\∀K':KK,K' v e n->nD C rho t lo hi id e' es K':=by
 unfold nD at hq
 split at hq
 ·rename_i h0
  split at hq
  ·rename_i h1
   split at hq
   ·rename_i h2 h3;exact⟨_,_,_,hq.2,fun K' h=>by simp only[nD,h0,h1,h2,h3];exact⟨hq.1,h⟩⟩
   exact hq.elim
  exact hq.elim
 exact hq.elim
theorem lJ {C:Ctx} {o:Oper} {rho:Operand->AV} {h h':Nat->AB} (H:Ext h h') {K:KK} (hq:aY C o rho h K):∃v e n,K v e n/\∀K':KK,K' v e n->aY C o rho h' K':=by
 cases ax:o.op <;> simp only[aY,ax] at hq
 case move x=>exact⟨_,_,_,hq,fun K' h=>by simp only[aY,ax];exact h⟩
 case assign x=>exact⟨_,_,_,hq,fun K' h=>by simp only[aY,ax];exact h⟩
 case pick c a b=>
  split at hq
  ·rename_i h1
   split at hq
   ·exact⟨_,_,_,hq,fun K' h=>by simp only[aY,ax,h1];exact h⟩
   exact⟨_,_,_,hq,fun K' h=>by simp only[aY,ax,h1];exact h⟩
  exact hq.elim
 case alloc e=>
  split at hq
  ·rename_i h1
   split at hq
   ·rename_i h2
    exact⟨_,_,_,hq,fun K' h=>by simp only[aY,ax,h1,h2];exact h⟩
   rename_i h2
   exact⟨_,_,_,hq,fun K' h=>by simp only[aY,ax,h1,h2];exact h⟩
  exact hq.elim
 case box e x=>
  split at hq
  ·rename_i h1
   exact⟨_,_,_,hq,fun K' h=>by simp only[aY,ax,h1];exact h⟩
  ·rename_i h1
   exact⟨_,_,_,hq,fun K' h=>by simp only[aY,ax,h1];exact h⟩
  rename_i h1 nG
  split at hq
  ·rename_i h2
   have h3:=nM H h2
   refine⟨_,_,_,hq,fun K' h=>?_⟩
   simp only[aY,ax]
   cases Mg:rho x with
   | p y=>
    cases y with
    | ag cs=>exact (h1 cs Mg).elim
    | _=>rw[Mg] at h3 h;simp only[h3];exact h
   | st xs=>exact (nG xs Mg).elim
   | _=>rw[Mg] at h3 h;simp only[h3];exact h
  exact hq.elim
 case binOp op t x y t'=>
  split at hq
  ·rename_i h1 h2
   obtain⟨v,h3,h4⟩:=wG hq
   exact⟨_,_,_,h3,fun K' h=>by simp only[aY,ax,h1,h2];exact h4 _ h⟩
  ·rename_i h1 h2
   obtain⟨v,h3,h4⟩:=wF hq
   exact⟨_,_,_,h3,fun K' h=>by simp only[aY,ax,h1,h2];exact h4 _ h⟩
  exact hq.elim
 case unOp op t x=>
  split at hq
  ·rename_i h1
   exact⟨_,_,_,hq,fun K' h=>by simp only[aY,ax,h1];exact h⟩
  ·rename_i h1
   obtain⟨v,h3,h4⟩:=jk hq
   exact⟨_,_,_,h3,fun K' h=>by simp only[aY,ax,h1];exact h4 _ h⟩
  exact hq.elim
 case convert src dst x=>
  split at hq
  ·rename_i h1 h2 h3
   obtain⟨v,h5,h4⟩:=jk hq
   exact⟨_,_,_,h5,fun K' h=>by simp only[aY,ax,h1,h2,h3];exact h4 _ h⟩
  ·rename_i h1 h2 h3
   exact⟨_,_,_,hq,fun K' h=>by simp only[aY,ax,h1,h2,h3];exact h⟩
  ·rename_i h1 h2 h3
   exact⟨_,_,_,hq,fun K' h=>by simp only[aY,ax,h1,h2,h3];exact h⟩
  exact hq.elim
 case nilCheck x=>
  split at hq
  ·rename_i h1
   exact⟨_,_,_,hq,fun K' h=>by simp only[aY,ax,h1];exact h⟩
  ·rename_i h1
   split at hq
   ·rename_i h2;exact⟨_,_,_,hq,fun K' h=>by simp only[aY,ax,h1,H.box h2];exact h⟩
   ·rename_i h2;exact⟨_,_,_,hq,fun K' h=>by simp only[aY,ax,h1,H.gC h2];exact h⟩
   exact hq.elim
  ·rename_i h1
   split at hq
   ·rename_i h2;exact⟨_,_,_,hq,fun K' h=>by simp only[aY,ax,h1,H.row h2];exact h⟩
   ·rename_i h2;exact⟨_,_,_,hq,fun K' h=>by simp only[aY,ax,h1,H.an h2];exact h⟩
   exact hq.elim
  exact hq.elim
 case extract x i=>
  split at hq
  ·rename_i h1
   split at hq
   ·rename_i h2;exact⟨_,_,_,hq,fun K' h=>by simp only[aY,ax,h1,h2];exact h⟩
   exact hq.elim
  exact hq.elim
 case load t x=>
  split at hq
  ·exact hq.elim
  rename_i h0
  split at hq
  ·rename_i h1
   split at hq
   ·rename_i h2
    split at hq
    ·rename_i h3;exact⟨_,_,_,hq,fun K' h=>by simp only[aY,ax,h0,h1,h2,h3];exact h⟩
    exact hq.elim
   rename_i h2
   split at hq
   ·exact⟨_,_,_,hq,fun K' h=>by simp only[aY,ax,h0,h1,h2];exact h⟩
   exact hq.elim
  ·rename_i h1
   split at hq
   ·rename_i h2
    split at hq
    ·rename_i h3
     split at hq
     ·rename_i h4 h5;exact⟨_,_,_,hq,fun K' h=>by simp only[aY,ax,h0,h1,H.box h2,h3,h4,h5];exact h⟩
     exact hq.elim
    rename_i h3
    split at hq
    ·rename_i h4;exact⟨_,_,_,hq,fun K' h=>by simp only[aY,ax,h0,h1,H.box h2,h3,h4];exact h⟩
    exact hq.elim
   ·rename_i h2
    split at hq
    ·rename_i h3
     split at hq
     ·rename_i h4;exact⟨_,_,_,hq,fun K' h=>by simp only[aY,ax,h0,h1,H.gC h2,h3,h4];exact h⟩
     exact hq.elim
    rename_i h3
    split at hq
    ·rename_i h4;exact⟨_,_,_,hq,fun K' h=>by simp only[aY,ax,h0,h1,H.gC h2,h3,h4];exact h⟩
    exact hq.elim
   exact hq.elim
  ·rename_i h1
   split at hq
   ·rename_i h2
    obtain⟨r,hr,hq⟩:=hq
    split at hq
    ·rename_i h3
     split at hq
     ·rename_i h4;exact⟨_,_,_,hq,fun K' h=>by simp only[aY,ax,h0,h1,H.row h2];refine⟨r,hr,?_⟩;simp only[h3,h4];exact h⟩
     exact hq.elim
    rename_i h3
    split at hq
    ·rename_i h4;exact⟨_,_,_,hq,fun K' h=>by simp only[aY,ax,h0,h1,H.row h2];refine⟨r,hr,?_⟩;simp only[h3,h4];exact h⟩
    exact hq.elim
   ·rename_i h2
    obtain⟨r,hr,hq⟩:=hq
    split at hq
    ·exact hq.elim
    rename_i h3
    split at hq
    ·rename_i h4;exact⟨_,_,_,hq,fun K' h=>by simp only[aY,ax,h0,h1,H.an h2];refine⟨r,hr,?_⟩;simp only[h3,h4];exact h⟩
    exact hq.elim
   exact hq.elim
  exact hq.elim
 case store t x y=>
  split at hq
  ·exact hq.elim
  rename_i h0
  split at hq
  ·rename_i h1
   split at hq
   ·rename_i h2
    split at hq
    ·rename_i h3
     obtain⟨z,fz,hq,hK⟩:=eN H hq
     split at hq
     ·split at hq
      ·rename_i h4
       refine⟨_,_,_,hq,fun K' h=>?_⟩
       simp only[aY,ax,h0,h1,H.box h2,h3]
       refine hK _ ?_
       simp only[h4]
       exact h
      exact hq.elim
     exact hq.elim
    rename_i h3
    split at hq
    ·rename_i h4
     simp only[Bool.and_eq_true] at h4
     have h5:=nM H h4.2
     refine⟨_,_,_,hq,fun K' h=>?_⟩
     simp only[aY,ax,h0,h1,H.box h2,h3,h4.1.1,h4.1.2,h5,Bool.and_self]
     exact h
    exact hq.elim
   exact hq.elim
  ·rename_i h1
   split at hq
   ·rename_i h2
    obtain⟨r,hr,hq⟩:=hq
    obtain⟨z,fz,hq,hK⟩:=eN H hq
    split at hq
    ·rename_i h3
     split at hq
     ·rename_i h4
      refine⟨_,_,_,hq,fun K' h=>?_⟩
      simp only[aY,ax,h0,h1,H.row h2]
      refine⟨r,hr,hK _ ?_⟩
      simp only[h3,h4]
      exact h
     exact hq.elim
    exact hq.elim
   ·rename_i h2
    obtain⟨r,hr,hq⟩:=hq
    split at hq
    ·exact hq.elim
    rename_i h3
    split at hq
    ·rename_i h4
     simp only[Bool.and_eq_true] at h4
     have h5:=nM H h4.2
     refine⟨_,_,_,hq,fun K' h=>?_⟩
     simp only[aY,ax,h0,h1,H.an h2]
     refine⟨r,hr,?_⟩
     simp only[h3,h4.1.1,h4.1.2,h5,Bool.and_self]
     exact h
    exact hq.elim
   exact hq.elim
  exact hq.elim
 case fieldAddr t x f=>
  split at hq
  ·rename_i h0
   split at hq
   ·rename_i h1
    split at hq
    ·rename_i h2;exact⟨_,_,_,hq,fun K' h=>by simp only[aY,ax,h0,h1,h2];exact h⟩
    ·rename_i id o' h2
     split at hq
     ·exact hq.elim
     rename_i bG
     refine⟨_,_,_,hq,fun K' h=>?_⟩
     simp only[aY,ax,h0,h1,h2]
     rcases H id with h4 | h4
     ·exact absurd h4 (by simpa using bG)
     rw[h4]
     split
     ·rename_i h5;exact absurd h5 (by simpa using bG)
     exact h
    ·rename_i h2
     split at hq
     ·rename_i h3;exact⟨_,_,_,hq,fun K' h=>by simp only[aY,ax,h0,h1,h2,H.row h3];exact h⟩
     ·rename_i h3;exact⟨_,_,_,hq,fun K' h=>by simp only[aY,ax,h0,h1,h2,H.an h3];exact h⟩
     exact hq.elim
    exact hq.elim
   exact hq.elim
  exact hq.elim
 case field t x f=>
  split at hq
  ·rename_i h0 GX
   split at hq
   ·rename_i h1
    split at hq
    ·split at hq
     ·rename_i h3;exact⟨_,_,_,hq,fun K' h=>by simp only[aY,ax,h0,GX,h1,h3];exact h⟩
     exact hq.elim
    split at hq
    ·rename_i h3;exact⟨_,_,_,hq,fun K' h=>by simp only[aY,ax,h0,GX,h1,h3];exact h⟩
    exact hq.elim
   exact hq.elim
  exact hq.elim
 case indexAddr t x ix=>
  split at hq
  ·rename_i h0 GX
   split at hq
   ·exact hq.elim
   rename_i h1
   split at hq
   ·rename_i h2
    obtain⟨r,hr,hq⟩:=hq
    split at hq
    ·rename_i h3;exact⟨_,_,_,hq,fun K' h=>by simp only[aY,ax,h0,GX,h1,h2];refine⟨r,hr,?_⟩;simp only[h3];exact h⟩
    exact hq.elim
   ·rename_i h2
    split at hq
    ·rename_i h3
     split at hq
     ·rename_i h4;exact⟨_,_,_,hq.2,fun K' h=>by simp only[aY,ax,h0,GX,h1,h2,H.row h3,h4];exact⟨hq.1,h⟩⟩
     exact hq.elim
    ·rename_i h3
     split at hq
     ·rename_i h4;exact⟨_,_,_,hq.2,fun K' h=>by simp only[aY,ax,h0,GX,h1,h2,H.an h3,h4];exact⟨hq.1,h⟩⟩
     exact hq.elim
    ·rename_i h3
     obtain⟨r,hr,hq⟩:=hq
     split at hq
     ·rename_i h4;exact⟨_,_,_,hq,fun K' h=>by simp only[aY,ax,h0,GX,h1,h2,H.fK h3];refine⟨r,hr,?_⟩;simp only[h4];exact h⟩
     exact hq.elim
    exact hq.elim
   ·rename_i h2
    split at hq
    ·rename_i h3
     split at hq
     ·rename_i h4;exact⟨_,_,_,hq.2,fun K' h=>by simp only[aY,ax,h0,GX,h1,h2,H.row h3,h4];exact⟨hq.1,h⟩⟩
     exact hq.elim
    exact hq.elim
   exact hq.elim
  exact hq.elim
 case index t x ix=>
  split at hq
  ·rename_i h0 h1 h2
   obtain⟨b,hb,hq⟩:=hq
   exact⟨_,_,_,hq,fun K' h=>by simp only[aY,ax,h0,h1,h2];exact⟨b,hb,h⟩⟩
  exact hq.elim
 case slice t x lo hi mx=>
  cases mx with
  | some m=>exact hq.elim
  | none=>
   simp only at hq
   split at hq
   ·rename_i id hid
    split at hq
    ·rename_i e' es hr
     rcases hq with hq | hq
     ·obtain⟨v,e,n,hq,hK⟩:=B4 hq
      exact⟨v,e,n,hq,fun K' h=>by simp only[aY,ax,hid,H.row hr];exact .inl (hK _ h)⟩
     obtain⟨v,e,n,hq,hK⟩:=mX H hq
     exact⟨v,e,n,hq,fun K' h=>by simp only[aY,ax,hid,H.row hr];exact .inr (hK _ h)⟩
    rename_i bG
    obtain⟨v,e,n,hq,hK⟩:=mX H hq
    refine⟨v,e,n,hq,fun K' h=>?_⟩
    simp only[aY,ax,hid]
    split
    ·exact .inr (hK _ h)
    exact hK _ h
   rename_i bG
   obtain⟨v,e,n,hq,hK⟩:=mX H hq
   refine⟨v,e,n,hq,fun K' h=>?_⟩
   simp only[aY,ax]
   first
    | exact hK _ h
    | (
      split
      ·rename_i id hid;exact absurd hid (bG id)
      exact hK _ h)
 case makeMap t r=>
  cases r with
  | some _=>exact hq.elim
  | none=>
   simp only at hq
   split at hq
   ·rename_i h0
    split at hq
    ·rename_i h1
     split at hq
     ·rename_i h2;exact⟨_,_,_,hq,fun K' h=>by simp only[aY,ax,h0,h1,h2];exact h⟩
     exact hq.elim
    exact hq.elim
   exact hq.elim
 case lookup t x i ck=>
  split at hq
  case h_2=>exact hq.elim
  rename_i h0
  split at hq
  case h_2=>exact hq.elim
  rename_i h1 h2
  split at hq
  case h_2=>exact hq.elim
  rename_i h3
  split at hq
  case h_2=>exact hq.elim
  rename_i h4
  split at hq
  case h_2=>exact hq.elim
  rename_i h5
  split at hq
  case h_2=>exact hq.elim
  rename_i h6
  split at hq
  case h_2=>exact hq.elim
  rename_i h7
  obtain⟨r,hr,hq⟩:=hq
  cases ck with
  | true=>exact⟨_,_,_,hq,fun K' h=>by simp only[aY,ax,h0,h1,h2,h3,h4,H.map h5,h6,h7];exact⟨r,hr,h⟩⟩
  | false=>exact⟨_,_,_,hq,fun K' h=>by simp only[aY,ax,h0,h1,h2,h3,h4,H.map h5,h6,h7];exact⟨r,hr,h⟩⟩
 case mapUpdate t x i y=>
  split at hq
  case h_2=>exact hq.elim
  rename_i h0
  split at hq
  case h_2=>exact hq.elim
  rename_i h1
  split at hq
  case h_2=>exact hq.elim
  rename_i h3
  split at hq
  case h_2=>exact hq.elim
  rename_i h4
  split at hq
  case h_2=>exact hq.elim
  rename_i h5
  split at hq
  case h_2=>exact hq.elim
  rename_i h6
  split at hq
  case h_2=>exact hq.elim
  rename_i h7
  obtain⟨z,fz,hq,hK⟩:=eN H hq
  split at hq
  case h_2=>exact hq.elim
  rename_i h8
  refine⟨_,_,_,hq,fun K' h=>?_⟩
  simp only[aY,ax,h0,h1,h3,h4,H.map h5,h6,h7]
  refine hK _ ?_
  simp only[h8]
  exact h
 case build t ps=>
  split at hq
  ·rename_i h0
   split at hq
   ·rename_i h1
    obtain⟨z,fz,hq,hK⟩:=BY H hq
    exact⟨_,_,_,hq,fun K' h=>by simp only[aY,ax,h0,h1];exact hK _ h⟩
   rename_i h1
   obtain⟨z,hq,hK⟩:=tO H hq
   exact⟨_,_,_,hq,fun K' h=>by simp only[aY,ax,h0,h1];exact hK _ h⟩
  exact hq.elim
 case buildSlice t len ps=>
  split at hq
  ·rename_i h0
   split at hq
   ·rename_i h1
    split at hq
    ·rename_i h2
     split at hq
     ·rename_i h3
      obtain⟨z,fz,hq,hK⟩:=rA H hq
      exact⟨_,_,_,hq,fun K' h=>by simp only[aY,ax,h0,h1,h2,h3];exact hK _ h⟩
     rename_i h3
     obtain⟨z,fz,hq,hK⟩:=rA H hq
     exact⟨_,_,_,hq,fun K' h=>by simp only[aY,ax,h0,h1,h2,h3];exact hK _ h⟩
    exact hq.elim
   exact hq.elim
  exact hq.elim
 case makeSlice t n c=>
  split at hq
  ·rename_i h0 h1 h2
   split at hq
   ·rename_i h3
    split at hq
    ·rename_i h4;exact⟨_,_,_,hq.2,fun K' h=>by simp only[aY,ax,h0,h1,h2,h3,h4];exact⟨hq.1,h⟩⟩
    exact hq.elim
   exact hq.elim
  exact hq.elim
 case makeFunc fn first cap=>
  cases fn with
  | func f=>
   simp only at hq
   split at hq
   ·rename_i h1;exact⟨_,_,_,hq,fun K' h=>by simp only[aY,ax,h1];exact h⟩
   exact hq.elim
  | _=>exact hq.elim
 case call c=>
  split at hq
  ·rename_i h0
   split at hq
   ·rename_i h1 h2
    split at hq
    ·rename_i h3
     split at hq
     ·rename_i h4;exact⟨_,_,_,hq,fun K' h=>by simp only[aY,ax,h0,h1,h2,h3,h4];exact h⟩
     exact hq.elim
    ·rename_i h3
     split at hq
     ·rename_i m hm
      exact⟨_,_,_,hq,fun K' h=>by simp only[aY,ax,h0,h1,h2,h3,BW H hm];exact h⟩
     have hn:=BX H hq
     obtain⟨es,hq,hK⟩:=rz H hq
     exact⟨_,_,_,hq,fun K' h=>by simp only[aY,ax,h0,h1,h2,h3,hn];exact hK _ h⟩
    ·rename_i h3
     split at hq
     ·rename_i h4
      split at hq
      ·rename_i h5;exact⟨_,_,_,hq,fun K' h=>by simp only[aY,ax,h0,h1,h2,h3,h4,H.map h5];exact h⟩
      exact hq.elim
     exact hq.elim
    exact hq.elim
   exact hq.elim
  ·rename_i h0
   split at hq
   case h_2=>exact hq.elim
   rename_i h1 h2
   split at hq
   case h_2=>exact hq.elim
   rename_i h3
   split at hq
   case h_2=>exact hq.elim
   rename_i h4
   split at hq
   case h_2=>exact hq.elim
   rename_i h5
   split at hq
   case h_2=>exact hq.elim
   rename_i h6
   split at hq
   case h_2=>exact hq.elim
   rename_i h7
   exact⟨_,_,_,hq.2,fun K' h=>by simp only[aY,ax,h0,h1,h2,h3,h4,h5,H.row h6,h7];exact⟨hq.1,h⟩⟩
  ·rename_i h0
   split at hq
   ·rename_i h1
    split at hq
    ·rename_i h2 h3;exact⟨_,_,_,hq,fun K' h=>by simp only[aY,ax,h0,h1,h2,h3];exact h⟩
    exact hq.elim
   exact hq.elim
  ·rename_i h0
   split at hq
   ·rename_i h1
    split at hq
    ·rename_i h2 h3;exact⟨_,_,_,hq,fun K' h=>by simp only[aY,ax,h0,h1,h2,h3];exact h⟩
    exact hq.elim
   ·rename_i h1
    split at hq
    ·rename_i h2 h3 h4;exact⟨_,_,_,hq,fun K' h=>by simp only[aY,ax,h0,h1,h2,h3,h4];exact h⟩
    exact hq.elim
   ·rename_i h1
    split at hq
    ·rename_i h2 h3 h4 h5 h6;exact⟨_,_,_,hq,fun K' h=>by simp only[aY,ax,h0,h1,h2,h3,h4,h5,h6];exact h⟩
    exact hq.elim
   exact hq.elim
  ·rename_i h0
   split at hq
   ·rename_i h1 h2
    split at hq
    ·rename_i h3 h4
     split at hq
     ·rename_i h5
      split at hq
      ·rename_i h6
       obtain⟨es,hq,hK⟩:=rz H hq
       split at hq
       ·rename_i h7
        refine⟨_,_,_,hq.2,fun K' h=>?_⟩
        simp only[aY,ax,h0,h1,h2,h3,h4,h5,h6]
        refine hK _ ?_
        simp only[h7]
        exact⟨hq.1,h⟩
       ·rename_i h7
        split at hq
        ·rename_i h8
         split at hq
         ·rename_i h9
          refine⟨_,_,_,hq.2,fun K' h=>?_⟩
          simp only[aY,ax,h0,h1,h2,h3,h4,h5,h6]
          refine hK _ ?_
          simp only[h7,H.row h8,h9]
          exact⟨hq.1,h⟩
         exact hq.elim
        ·rename_i h8
         split at hq
         ·rename_i h9
          refine⟨_,_,_,hq.2,fun K' h=>?_⟩
          simp only[aY,ax,h0,h1,h2,h3,h4,h5,h6]
          refine hK _ ?_
          simp only[h7,H.an h8,h9]
          exact⟨hq.1,h⟩
         exact hq.elim
        exact hq.elim
       exact hq.elim
      exact hq.elim
     exact hq.elim
    exact hq.elim
   exact hq.elim
  ·rename_i h0
   split at hq
   ·rename_i h1
    split at hq
    ·rename_i h2
     obtain⟨v,e,n,hq,hK⟩:=B2 H hq
     exact⟨_,_,_,hq,fun K' h=>by simp only[aY,ax,h0,h1,h2];exact hK _ h⟩
    rename_i h2
    obtain⟨v,e,n,hq,hK⟩:=B3 H hq
    exact⟨_,_,_,hq,fun K' h=>by simp only[aY,ax,h0,h1,h2];exact hK _ h⟩
   exact hq.elim
  exact hq.elim
 all_goals exact hq.elim
theorem Ds (A:bE) (o:Oper):eX A o:=by
 cases ax:o.op
 case move x=>exact Fb x ax
 case assign x=>exact BC x ax
 case pick c x y=>exact Fc c x y ax
 case alloc e=>exact C7 e ax
 case box e x=>exact HT e x ax
 case build t ps=>exact Df t ps ax
 case buildSlice t n ps=>exact sZ t n ps ax
 case load t x=>exact Fi t x ax
 case store t x y=>exact C_ t x y ax
 case nilCheck x=>exact wz x ax
 case binOp op t x y t'=>exact C1 op t x y t' ax
 case unOp op t x=>exact Fg op t x ax
 case convert s d x=>exact yu s d x ax
 case makeFunc fn first cap=>
  cases fn with
  | func f=>exact wA f first cap ax
  | _=>intro V L S rho s a w K next Q hC sim hV hd hq;simp only[aY,ax] at hq
 case makeSlice t n c=>exact uJ t n c ax
 case makeMap t r=>
  cases r with
  | none=>exact yE t ax
  | some r=>intro V L S rho s a w K next Q hC sim hV hd hq;simp only[aY,ax] at hq
 case lookup t x i ck=>exact BO t x i ck ax
 case mapUpdate t x i y=>exact uN t x i y ax
 case slice t x lo hi mx=>
  cases mx with
  | none=>exact ok_slice t x lo hi ax
  | some m=>intro V L S rho s a w K next Q hC sim hV hd hq;simp only[aY,ax] at hq
 case fieldAddr t x f=>exact uC t x f ax
 case field t x f=>exact C3 t x f ax
 case indexAddr t x ix=>exact uE t x ix ax
 case index t x ix=>exact C4 t x ix ax
 case extract x i=>exact yr x i ax
 case call c=>
  cases hc:c.callee with
  | value g=>exact FD c g ax hc
  | invoke r m=>intro V L S rho s a w K next Q hC sim hV hd hq;simp only[aY,ax,hc,cM,dm] at hq
  | builtin b=>
   cases b
   case len=>exact HZ c ax hc
   case min=>exact H0 c ax hc
   case max=>exact H3 c ax hc
   case append=>exact BK c ax hc
   case clear=>exact Dk c ax hc
   all_goals (intro V L S rho s a w K next Q hC sim hV hd hq;simp only[aY,ax,hc,cM,dm] at hq)
 all_goals (intro V L S rho s a w K next Q hC sim hV hd hq;simp only[aY,ax] at hq)
end Go.AM
namespace Go.AM
open Go.RowKit
def bw (a b:Nat):Bool:=Nat.beq a b
theorem aL {a b:Nat}:bw a b=true↔a=b:=by unfold bw;exact⟨Nat.eq_of_beq_eq_true,fun h=>by subst h;simp⟩
mutual
def mE (d:Nat):AV->Bool
 | .ow i=>bw i d
 | .rp i _ _=>bw i d
 | .bx i _=>bw i d
 | .vw i _ _=>bw i d
 | .fn _ cap=>dX d cap
 | .tu xs=>dX d xs
 | .st xs=>dX d xs
 | _=>false
def dX (d:Nat):List AV->Bool
 | []=>false
 | x::r=>mE d x || dX d r
end
def rn (i d:Nat):AV->AV
 | .ow k=>match bw k i with
  | true=>.ow d
  | false=>match bw k d with
   | true=>.junk
   | false=>.ow k
 | .rp k a b=>match bw k i with
  | true=>.rp d a b
  | false=>match bw k d with
   | true=>.junk
   | false=>.rp k a b
 | .bx k a=>match bw k i with
  | true=>.bx d a
  | false=>match bw k d with
   | true=>.junk
   | false=>.bx k a
 | .vw k a b=>match bw k i with
  | true=>.vw d a b
  | false=>match bw k d with
   | true=>.junk
   | false=>.vw k a b
 | .fn f cap=>match dX i cap || dX d cap with
  | true=>.junk
  | false=>.fn f cap
 | .tu xs=>match dX i xs || dX d xs with
  | true=>.junk
  | false=>.tu xs
 | .st xs=>match dX i xs || dX d xs with
  | true=>.junk
  | false=>.st xs
 | x=>x
def HX.eO (f:AV->AV):HX->HX
 | .av x=>.av (f x)
 | .row e es=>.row e es
def Dt (i d:Nat):AB->AB
 | .an e es=>.an e (es.map fun r=>r.map (HX.eO (rn i d)))
 | .box cs=>.box (cs.map (rn i d))
 | .fv ty cs=>.fv ty (cs.map (rn i d))
 | b=>b
def iJ (i d:Nat) (s:AS):AS:=⟨fun j=>rn i d (s.t j),fun j=>match bw j d with
 | true=>Dt i d (s.h i)
 | false=>match bw j i with
  | true=>.none
  | false=>Dt i d (s.h j)⟩
def sc (d:Nat):AV->AV
 | .p x=>.p x
 | .nl=>.nl
 | .ow i=>match bw i d with
  | true=>.junk
  | false=>.ow i
 | .rp i a b=>match bw i d with
  | true=>.junk
  | false=>.rp i a b
 | .bx i a=>match bw i d with
  | true=>.junk
  | false=>.bx i a
 | .vw i a b=>match bw i d with
  | true=>.junk
  | false=>.vw i a b
 | .fn f cap=>match dX d cap with
  | true=>.junk
  | false=>.fn f cap
 | .tu xs=>match dX d xs with
  | true=>.junk
  | false=>.tu xs
 | .st xs=>match dX d xs with
  | true=>.junk
  | false=>.st xs
 | .junk=>.junk
theorem Du (d:Nat) (x:AV):sc d x=match mE d x with
  | true=>.junk
  | false=>x:=by cases x <;> rfl
def qM (d:Nat):AB->AB
 | .an e es=>.an e (es.map fun r=>r.map (HX.eO (sc d)))
 | .box cs=>.box (cs.map (sc d))
 | .fv ty cs=>.fv ty (cs.map (sc d))
 | b=>b
def fw (d:Nat) (s:AS):AS:=⟨fun j=>sc d (s.t j),aA (fun k=>qM d (s.h k)) d .none⟩
def bA:Nat->Prop:=fun _=>True
theorem oZ (i d:Nat) (b:AB):(Dt i d b).there↔b.there:=by cases b <;> rfl
theorem wH (i d:Nat) (b:AB):(Dt i d b).live↔b.live:=by cases b <;> rfl
structure wI (L L':Nat->Prop) (rho rho':Nat->Value) (h h':Nat->AB) (i d:Nat):Prop where
 old:∀k,k≠i->k≠d->((h' k).there->(h k).there)/\(L k->L' k)/\rho' k=rho k/\(∀e,(h' k).jB=some e->(h k).jB=some e)
 new:i≠d->((h' d).there->(h i).there)/\(L i->L' d)/\rho' d=rho i/\(∀e,(h' d).jB=some e->(h i).jB=some e)
theorem bI {d:Nat}:∀{xs:List AV},dX d xs=false->∀x∈xs,mE d x=false:=by
 intro xs
 induction xs with
 | nil=>intro _ x hx;cases hx
 | cons y xs ih=>
  intro h x hx
  simp only[dX,Bool.or_eq_false_iff] at h
  rcases List.mem_cons.1 hx with e | e
  ·rw[e];exact h.1
  exact ih h.2 x e
theorem aI.kL {S:Nat->Prop} {w:World} {P:Program} {L L':Nat->Prop} {rho rho':Nat->Value} {h h':Nat->AB} {i d:Nat} (T:wI L L' rho rho' h h' i d) {x:AV} {v:Value} (hx:aI S w P L rho h x v) (h1:mE i x=false) (h2:mE d x=false):aI S w P L' rho' h' x v:=by
 induction hx with
 | p x v hx=>exact .p x v hx
 | nl=>exact .nl
 | ow k v hv=>
  have e1:k≠i:=fun e=>by rw[mE,aL.2 e] at h1;cases h1
  have e2:k≠d:=fun e=>by rw[mE,aL.2 e] at h2;cases h2
  obtain⟨t1,t2,t3,t4⟩:=T.old k e1 e2
  exact .ow k v fun ht=>⟨t2 (hv (t1 ht)).1,by rw[t3];exact (hv (t1 ht)).2⟩
 | rp k a b v hv=>
  have e1:k≠i:=fun e=>by rw[mE,aL.2 e] at h1;cases h1
  have e2:k≠d:=fun e=>by rw[mE,aL.2 e] at h2;cases h2
  obtain⟨t1,t2,t3,t4⟩:=T.old k e1 e2
  exact .rp k a b v fun e he=>by obtain⟨q1,q2⟩:=hv e (t4 e he);exact⟨t2 q1,by rw[t3];exact q2⟩
 | bx k a v hv=>
  have e1:k≠i:=fun e=>by rw[mE,aL.2 e] at h1;cases h1
  have e2:k≠d:=fun e=>by rw[mE,aL.2 e] at h2;cases h2
  obtain⟨t1,t2,t3,t4⟩:=T.old k e1 e2
  exact .bx k a v fun ht=>⟨t2 (hv (t1 ht)).1,by rw[t3];exact (hv (t1 ht)).2⟩
 | vw k a b v hv=>
  have e1:k≠i:=fun e=>by rw[mE,aL.2 e] at h1;cases h1
  have e2:k≠d:=fun e=>by rw[mE,aL.2 e] at h2;cases h2
  obtain⟨t1,t2,t3,t4⟩:=T.old k e1 e2
  exact .vw k a b v fun e he=>by obtain⟨q1,q2⟩:=hv e (t4 e he);exact⟨t2 q1,by rw[t3];exact q2⟩
 | fn f cap vs hl hc ih=>exact .fn f cap vs hl fun j c u hj hu=>ih j c u hj hu (bI h1 c (List.mem_of_getElem? hj)) (bI h2 c (List.mem_of_getElem? hj))
 | tu xs vs hl hc ih=>exact .tu xs vs hl fun j c u hj hu=>ih j c u hj hu (bI h1 c (List.mem_of_getElem? hj)) (bI h2 c (List.mem_of_getElem? hj))
 | st xs vs hl h0 hc ih=>exact .st xs vs hl h0 fun j c u hj hu=>ih j c u hj hu (bI h1 c (List.mem_of_getElem? hj)) (bI h2 c (List.mem_of_getElem? hj))
 | junk v=>exact .junk v
theorem aI.rn {S:Nat->Prop} {w:World} {P:Program} {L L':Nat->Prop} {rho rho':Nat->Value} {h h':Nat->AB} {i d:Nat} (T:wI L L' rho rho' h h' i d) (hid:i≠d\/∀k,k=d->¬(h' k).there ) {x:AV} {v:Value} (hx:aI S w P L rho h x v):aI S w P L' rho' h' (rn i d x) v:=by
 have dead:i=d->¬(h' d).there:=fun e=>hid.resolve_left (fun h=>h e) d rfl
 cases hx with
 | p x v hx=>exact .p x v hx
 | nl=>exact .nl
 | ow k v hv=>
  unfold AM.rn
  simp only
  split
  ·rename_i hk
   have hk:=aL.1 hk
   subst hk
   refine .ow d v fun ht=>?_
   by_cases e:k=d
   ·exact absurd ht (dead e)
   obtain⟨t1,t2,t3,t4⟩:=T.new e
   exact⟨t2 (hv (t1 ht)).1,by rw[t3];exact (hv (t1 ht)).2⟩
  rename_i hk
  split
  ·exact .junk v
  rename_i kC
  exact aI.kL T (.ow k v hv) (by simpa [mE] using hk) (by simpa [mE] using kC)
 | rp k a b v hv=>
  unfold AM.rn
  simp only
  split
  ·rename_i hk
   have hk:=aL.1 hk
   subst hk
   refine .rp d a b v fun e he=>?_
   by_cases e':k=d
   ·exact absurd (jE he) (dead e')
   obtain⟨t1,t2,t3,t4⟩:=T.new e'
   obtain⟨q1,q2⟩:=hv e (t4 e he)
   exact⟨t2 q1,by rw[t3];exact q2⟩
  rename_i hk
  split
  ·exact .junk v
  rename_i kC
  exact aI.kL T (.rp k a b v hv) (by simpa [mE] using hk) (by simpa [mE] using kC)
 | vw k a b v hv=>
  unfold AM.rn
  simp only
  split
  ·rename_i hk
   have hk:=aL.1 hk
   subst hk
   refine .vw d a b v fun e he=>?_
   by_cases e':k=d
   ·exact absurd (jE he) (dead e')
   obtain⟨t1,t2,t3,t4⟩:=T.new e'
   obtain⟨q1,q2⟩:=hv e (t4 e he)
   exact⟨t2 q1,by rw[t3];exact q2⟩
  rename_i hk
  split
  ·exact .junk v
  rename_i kC
  exact aI.kL T (.vw k a b v hv) (by simpa [mE] using hk) (by simpa [mE] using kC)
 | bx k a v hv=>
  unfold AM.rn
  simp only
  split
  ·rename_i hk
   have hk:=aL.1 hk
   subst hk
   refine .bx d a v fun ht=>?_
   by_cases e:k=d
   ·exact absurd ht (dead e)
   obtain⟨t1,t2,t3,t4⟩:=T.new e
   exact⟨t2 (hv (t1 ht)).1,by rw[t3];exact (hv (t1 ht)).2⟩
  rename_i hk
  split
  ·exact .junk v
  rename_i kC
  exact aI.kL T (.bx k a v hv) (by simpa [mE] using hk) (by simpa [mE] using kC)
 | fn f cap vs hl hc=>
  unfold AM.rn
  simp only
  split
  ·exact .junk _
  rename_i hm
  simp only[Bool.or_eq_false_iff] at hm
  exact .fn f cap vs hl fun j c u hj hu=>(hc j c u hj hu).kL T (bI hm.1 c (List.mem_of_getElem? hj)) (bI hm.2 c (List.mem_of_getElem? hj))
 | tu xs vs hl hc=>
  unfold AM.rn
  simp only
  split
  ·exact .junk _
  rename_i hm
  simp only[Bool.or_eq_false_iff] at hm
  exact .tu xs vs hl fun j c u hj hu=>(hc j c u hj hu).kL T (bI hm.1 c (List.mem_of_getElem? hj)) (bI hm.2 c (List.mem_of_getElem? hj))
 | st xs vs hl h0 hc=>
  unfold AM.rn
  simp only
  split
  ·exact .junk _
  rename_i hm
  simp only[Bool.or_eq_false_iff] at hm
  exact .st xs vs hl h0 fun j c u hj hu=>(hc j c u hj hu).kL T (bI hm.1 c (List.mem_of_getElem? hj)) (bI hm.2 c (List.mem_of_getElem? hj))
 | junk v=>exact .junk v
theorem jJ {w:World} {f:AV->AV} {es:List (List HX)} {g a j:Nat} {u:Value}:b_ w (es.map fun r=>r.map (HX.eO f)) g a j u↔b_ w es g a j u:=by
 constructor
 ·rintro⟨r,e,xs,c,ty,m,h1,h2,h3,h4⟩
  rw[List.getElem?_map] at h1
  obtain⟨q,hq,rfl⟩:=Option.map_eq_some_iff.1 h1
  rw[List.getElem?_map] at h2
  obtain⟨z,hz,Qq⟩:=Option.map_eq_some_iff.1 h2
  rw[List.length_map] at h4
  cases z with
  | av x=>cases Qq
  | row e' mA=>exact⟨q,e',mA,c,ty,m,hq,hz,h3,h4⟩
 rintro⟨r,e,xs,c,ty,m,h1,h2,h3,h4⟩
 exact⟨r.map (HX.eO f),e,xs,c,ty,m,by rw[List.getElem?_map,h1];rfl,by rw[List.getElem?_map,h2];rfl,h3,by rw[List.length_map];exact h4⟩
theorem oR.map {w:World} {f:AV->AV} {es:List (List HX)} {v:Value} (h:oR w es v):oR w (es.map fun r=>r.map (HX.eO f)) v:=
 ⟨fun g a j u b h1 h2 h3=>h.top g a j u b h1 (jJ.1 h2) h3,fun g a j a' j' u u' b h1 h2 h3 h4 h5=>h.dis g a j a' j' u u' b h1 (jJ.1 h2) (jJ.1 h3) h4 h5⟩
theorem aw.map {P:Program} {w:World} {R R':HX->Value->Prop} {f:AV->AV} {e:TypeId} {es:List (List HX)} {v:Value} (h:aw P w R e es v) (hR:∀x u,R x u->R' (HX.eO f x) u):aw P w R' e (es.map fun r=>r.map (HX.eO f)) v:=by
 obtain⟨i,xs,h1,h2,h3,h4,h5,h6⟩:=h
 refine⟨i,xs,h1,h2,by rw[List.length_map];exact h3,fun r hr=>?_,h5,fun a r j x ha hj=>?_⟩
 ·obtain⟨q,hq,rfl⟩:=List.mem_map.1 hr
  rw[List.length_map];exact h4 q hq
 rw[List.getElem?_map] at ha
 obtain⟨q,hq,rfl⟩:=Option.map_eq_some_iff.1 ha
 rw[List.getElem?_map] at hj
 obtain⟨z,hz,rfl⟩:=Option.map_eq_some_iff.1 hj
 obtain⟨u,hu,hr⟩:=h6 a q j z hq hz
 exact⟨u,hu,hR _ _ hr⟩
theorem cd {w:World} {e:TypeId} {es:List (List HX)} {v:Value} {k:Nat}:hasB w (.an e es) v k↔br v=some k\/∃g a j u,br v=some g/\b_ w es g a j u/\br u=some k:=by
 constructor
 ·rintro (h | ⟨cs,g,h,_⟩ | ⟨e',bW,g,a,j,u,h,h1,h2,h3⟩)
  ·exact .inl h
  ·cases h
  injection h with h4 h5
  subst h4 h5
  exact .inr ⟨g,a,j,u,h1,h2,h3⟩
 rintro (h | ⟨g,a,j,u,h1,h2,h3⟩)
 ·exact .inl h
 exact .inr (.inr ⟨_,_,_,_,_,_,rfl,h1,h2,h3⟩)
theorem tP {w:World} {f:AV->AV} {e:TypeId} {es:List (List HX)} {v:Value} {k:Nat}:hasB w (.an e (es.map fun r=>r.map (HX.eO f))) v k↔hasB w (.an e es) v k:=by
 rw[cd,cd]
 simp only[jJ]
theorem AK {w:World} (i d:Nat) (b:AB) (v:Value) (g:Nat):hasB w (Dt i d b) v g↔hasB w b v g:=by
 cases b with
 | an e es=>exact tP
 | box cs=>exact⟨fun h=>.inl (aq rfl h),fun h=>.inl (aq rfl h)⟩
 | fv ty cs=>exact⟨fun h=>.inl (aq rfl h),fun h=>.inl (aq rfl h)⟩
 | _=>exact Iff.rfl
theorem bd.rename {A:bE} {S:Nat->Prop} {rho:Nat->Value} {s:AS} {a:Act} {w:World} (sim:bd A bA bA S rho s a w) (i d:Nat) (hid:i≠d) (hdb:d < 100000):bd A bA bA S (fun j=>if j=d then rho i else rho j) (iJ i d s) a w:=by
 have hd:(iJ i d s).h d=Dt i d (s.h i):=by simp[iJ,bw]
 have hi:(iJ i d s).h i=.none:=by
  have:bw i d=false:=by rw[Bool.eq_false_iff];intro e;exact hid (aL.1 e)
  simp only[iJ,this,aL.2 rfl]
 have ho:∀k,k≠i->k≠d->(iJ i d s).h k=Dt i d (s.h k):=fun k h1 h2=>by
  have e1:bw k d=false:=by rw[Bool.eq_false_iff];intro e;exact h2 (aL.1 e)
  have e2:bw k i=false:=by rw[Bool.eq_false_iff];intro e;exact h1 (aL.1 e)
  simp[iJ,e1,e2]
 have row:∀b e,(Dt i d b).jB=some e->b.jB=some e:=fun b e h=>by cases b <;> exact h
 have T:wI bA bA rho (fun j=>if j=d then rho i else rho j) s.h (iJ i d s).h i d:=
  ⟨fun k h1 h2=>by rw[ho k h1 h2];exact⟨(oZ _ _ _).1,fun h=>h,if_neg h2,row _⟩,fun _=>by rw[hd];exact⟨(oZ _ _ _).1,fun h=>h,if_pos rfl,row _⟩⟩
 have Nt:∀k,((iJ i d s).h k).live->∃k',(s.h k').live/\(if k=d then rho i else rho k)=rho k'/\(k'=if k=d then i else k)/\∀v g,hasB w ((iJ i d s).h k) v g↔hasB w (s.h k') v g:=by
  intro k hl
  by_cases e:k=d
  ·subst e
   rw[hd,wH] at hl
   exact⟨i,hl,if_pos rfl,(if_pos rfl).symm,fun v g=>by rw[hd,AK]⟩
  by_cases e':k=i
  ·subst e';rw[hi] at hl;exact hl.elim
  rw[ho k e' e,wH] at hl
  exact⟨k,hl,if_neg e,(if_neg e).symm,fun v g=>by rw[ho k e' e,AK]⟩
 have hrep:∀k b,cZ S w A.C.P bA rho s.h k b->∀k',(if k'=d then rho i else rho k')=rho k->cZ S w A.C.P bA (fun j=>if j=d then rho i else rho j) (iJ i d s).h k' (Dt i d b):=by
  intro k b hb k' hk
  cases b with
  | none=>trivial
  | row e es=>show aw _ _ _ _ _ (if k'=d then rho i else rho k');rw[hk];exact hb
  | fK es=>show az _ _ _ (if k'=d then rho i else rho k');rw[hk];exact hb
  | gC es=>show az _ _ _ (if k'=d then rho i else rho k');rw[hk];exact hb
  | map mk es=>
   obtain⟨g,ms,clock,h1,h2⟩:=hb
   exact⟨g,ms,clock,by simp only;rw[hk];exact h1,h2⟩
  | box cs=>
   obtain⟨g,ty,c,h1,h2,h3,h4⟩:=hb
   refine⟨g,ty,c,by simp only;rw[hk];exact h1,h2,by simpa using h3,fun j x u hj hu=>?_⟩
   rw[List.getElem?_map] at hj
   obtain⟨z,hz,rfl⟩:=Option.map_eq_some_iff.1 hj
   exact⟨(h4 j z u hz hu).1,(h4 j z u hz hu).2.rn T (.inl hid)⟩
  | fv ty cs=>
   obtain⟨g,c,h1,h2,h3,h4⟩:=hb
   refine⟨g,c,by simp only;rw[hk];exact h1,h2,by simpa using h3,fun j x u hj hu=>?_⟩
   rw[List.getElem?_map] at hj
   obtain⟨z,hz,rfl⟩:=Option.map_eq_some_iff.1 hj
   exact⟨(h4 j z u hz hu).1,(h4 j z u hz hu).2.rn T (.inl hid)⟩
  | aC cs=>
   obtain⟨g,ty,c,h1,h2⟩:=hb
   exact⟨g,ty,c,by simp only;rw[hk];exact h1,h2⟩
  | an e es=>
   obtain⟨h1,h2⟩:=hb
   show aw _ _ _ _ _ (if k'=d then rho i else rho k')/\oR _ _ (if k'=d then rho i else rho k')
   rw[hk]
   refine⟨aw.map h1 fun x u hx=>?_,h2.map⟩
   cases x with
   | av x=>exact aI.rn T (.inl hid) hx
   | row e' bW=>exact hx
 exact
 {tm:=fun j hj=>(sim.tm j hj).rn T (.inl hid)
  sz:=sim.sz,df:=sim.df,nb:=sim.nb,pn:=fun id h=>by show (if id=d then rho i else rho id)=_;rw[if_neg (by omega)];exact sim.pn id h,ev:=sim.ev,s0:=sim.s0,st:=sim.st,sb:=sim.sb
  hp:=fun k _=>by
   by_cases e:k=d
   ·subst e;rw[hd];exact hrep i _ (sim.hp i trivial) k (if_pos rfl)
   by_cases e':k=i
   ·subst e';rw[hi];trivial
   rw[ho k e' e];exact hrep k _ (sim.hp k trivial) k (if_neg e)
  dj:=fun a b g _ _ la lb ha hb=>by
   obtain⟨a',h1,h2,h3,h7⟩:=Nt a la
   obtain⟨b',h4,h5,h6,h8⟩:=Nt b lb
   have:=sim.dj a' b' g trivial trivial h1 h4 (by rw[<-h7,<-h2];exact ha) (by rw[<-h8,<-h5];exact hb)
   rw[h3,h6] at this
   by_cases ea:a=d <;> by_cases eb:b=d
   ·rw[ea,eb]
   ·rw[if_pos ea,if_neg eb] at this
    rw[<-this] at lb
    rw[hi] at lb;exact lb.elim
   ·rw[if_neg ea,if_pos eb] at this
    rw[this] at la
    rw[hi] at la;exact la.elim
   rwa [if_neg ea,if_neg eb] at this
  lv:=fun k g _ lk hk=>by
   obtain⟨k',h1,h2,_,h3⟩:=Nt k lk
   exact sim.lv k' g trivial h1 (by rw[<-h3,<-h2];exact hk)
  fr:=sim.fr }
theorem aI.sc {S:Nat->Prop} {w:World} {P:Program} {L L':Nat->Prop} {rho:Nat->Value} {h h':Nat->AB} {d:Nat} (T:wI L L' rho rho h h' d d) {x:AV} {v:Value} (hx:aI S w P L rho h x v):aI S w P L' rho h' (sc d x) v:=by
 rw[Du]
 split
 ·exact .junk v
 rename_i hm;exact hx.kL T hm hm
theorem B5 (d:Nat) (b:AB):(qM d b).there↔b.there:=by cases b <;> rfl
theorem rB (d:Nat) (b:AB):(qM d b).live↔b.live:=by cases b <;> rfl
theorem uR {w:World} (d:Nat) (b:AB) (v:Value) (g:Nat):hasB w (qM d b) v g↔hasB w b v g:=by
 cases b with
 | an e es=>exact tP
 | box cs=>exact⟨fun h=>.inl (aq rfl h),fun h=>.inl (aq rfl h)⟩
 | fv ty cs=>exact⟨fun h=>.inl (aq rfl h),fun h=>.inl (aq rfl h)⟩
 | _=>exact Iff.rfl
theorem bd.GY {A:bE} {L S:Nat->Prop} {rho:Nat->Value} {s:AS} {a:Act} {w:World} (sim:bd A bA L S rho s a w) (d:Nat) (b:AB):bd A bA (fun k=>L k/\k≠d) S rho ⟨(fw d s).t,aA (fw d s).h d b⟩ a w:=by
 have ho:∀k,k≠d->aA (fw d s).h d b k=qM d (s.h k):=fun k hk=>by rw[aE _ _ hk];show aA (fun k=>qM d (s.h k)) d AB.none k=_;rw[aE _ _ hk]
 have row:∀x e,(qM d x).jB=some e->x.jB=some e:=fun x e h=>by cases x <;> exact h
 have T:wI L (fun k=>L k/\k≠d) rho rho s.h (aA (fw d s).h d b) d d:=
  ⟨fun k h1 _=>by rw[ho k h1];exact⟨(B5 _ _).1,fun h=>⟨h,h1⟩,rfl,row _⟩,fun h=>absurd rfl h⟩
 exact
 {tm:=fun j hj=>(sim.tm j hj).sc T
  sz:=sim.sz,df:=sim.df,nb:=sim.nb,pn:=sim.pn,ev:=sim.ev,s0:=sim.s0,st:=sim.st,sb:=sim.sb
  hp:=fun k hk=>by
   show cZ _ _ _ _ _ _ _ (aA (fw d s).h d b k)
   rw[ho k hk.2]
   have hh:=sim.hp k hk.1
   cases hb:s.h k with
   | none=>trivial
   | row e es=>rw[hb] at hh;exact hh
   | fK es=>rw[hb] at hh;exact hh
   | gC es=>rw[hb] at hh;exact hh
   | map mk es=>rw[hb] at hh;exact hh
   | box cs=>
    rw[hb] at hh
    obtain⟨g,ty,c,h1,h2,h3,h4⟩:=hh
    refine⟨g,ty,c,h1,h2,by simpa using h3,fun j x u hj hu=>?_⟩
    rw[List.getElem?_map] at hj
    obtain⟨z,hz,rfl⟩:=Option.map_eq_some_iff.1 hj
    exact⟨(h4 j z u hz hu).1,(h4 j z u hz hu).2.sc T⟩
   | fv ty cs=>
    rw[hb] at hh
    obtain⟨g,c,h1,h2,h3,h4⟩:=hh
    refine⟨g,c,h1,h2,by simpa using h3,fun j x u hj hu=>?_⟩
    rw[List.getElem?_map] at hj
    obtain⟨z,hz,rfl⟩:=Option.map_eq_some_iff.1 hj
    exact⟨(h4 j z u hz hu).1,(h4 j z u hz hu).2.sc T⟩
   | aC cs=>rw[hb] at hh;exact hh
   | an e es=>
    rw[hb] at hh
    obtain⟨h1,h2⟩:=hh
    refine⟨aw.map h1 fun x u hx=>?_,h2.map⟩
    cases x with
    | av x=>exact aI.sc T hx
    | row e' bW=>exact hx
  dj:=fun i j g hi hj li lj dk fQ=>by
   have jf:(aA (fw d s).h d b i).live:=li
   have Ks:(aA (fw d s).h d b j).live:=lj
   have dk:hasB w (aA (fw d s).h d b i) (rho i) g:=dk
   have fQ:hasB w (aA (fw d s).h d b j) (rho j) g:=fQ
   rw[ho i hi.2,rB] at jf
   rw[ho j hj.2,rB] at Ks
   rw[ho i hi.2,uR] at dk
   rw[ho j hj.2,uR] at fQ
   exact sim.dj i j g hi.1 hj.1 jf Ks dk fQ
  lv:=fun i g hi li hg=>by
   have jf:(aA (fw d s).h d b i).live:=li
   have hg:hasB w (aA (fw d s).h d b i) (rho i) g:=hg
   rw[ho i hi.2,rB] at jf
   rw[ho i hi.2,uR] at hg
   exact sim.lv i g hi.1 jf hg
  fr:=sim.fr }
theorem bd.mq {A:bE} {V V' L L' S:Nat->Prop} {rho:Nat->Value} {s:AS} {a:Act} {w:World} (sim:bd A V L S rho s a w) (hV:∀j,V' j->V j) (hL:∀i,L' i↔L i):bd A V' L' S rho s a w:=by
 have e:L'=L:=funext fun i=>propext (hL i)
 subst e
 exact { sim with tm:=fun j hj=>sim.tm j (hV j hj) }
theorem bd.AL {A:bE} {V S:Nat->Prop} {rho:Nat->Value} {s:AS} {a:Act} {w:World} (d:Nat) (sim:bd A V (fun k=>k≠d) S rho s a w) (hn:s.h d=.none):bd A V bA S rho s a w:=by
 have T:g_ S S w w (fun k=>k≠d) bA rho rho s.h s.h:=⟨fun b h=>h,fun _ _=>rfl,fun k hk=>⟨hk,fun _=>⟨trivial,rfl⟩⟩,fun k e h=>h⟩
 have nl:∀k,(s.h k).live->k≠d:=fun k hk e=>by rw[e,hn] at hk;exact hk
 exact
 {tm:=fun j hj=>(sim.tm j hj).bP T
  sz:=sim.sz,df:=sim.df,nb:=sim.nb,pn:=sim.pn,ev:=sim.ev,s0:=sim.s0,st:=sim.st,sb:=sim.sb
  hp:=fun k _=>by
   by_cases e:k=d
   ·subst e;rw[hn];trivial
   exact (sim.hp k e).bP T (fun _ _ _=>rfl) (fun _=>rfl)
  dj:=fun i j g _ _ li lj=>sim.dj i j g (nl i li) (nl j lj) li lj
  lv:=fun i g _ li=>sim.lv i g (nl i li) li
  fr:=sim.fr }
theorem bd.free {A:bE} {S:Nat->Prop} {rho:Nat->Value} {s:AS} {a:Act} {w:World} (sim:bd A bA bA S rho s a w) (d:Nat) (b:AB):bd A bA (fun k=>k≠d) S rho ⟨(fw d s).t,aA (fw d s).h d b⟩ a w:=
 (sim.GY d b).mq (fun _ _=>trivial) (fun _=>⟨fun h=>⟨trivial,h⟩,fun h=>h.2⟩)
def ia:Op->Bool
 | .box _ _ | .alloc _ | .buildSlice _ _ _ | .makeSlice _ _ _ | .makeMap _ _=>true
 | .call c=>match c.callee with
  | .builtin .append=>true
  | .value _=>true
  | _=>false
 | _=>false
def kG (h:Nat->AB) (d:Nat):Option AB->Nat->AB
 | none=>h
 | some b=>aA h d b
def rC:AV->Bool
 | .p (.sl [])=>true
 | _=>false
def Ib:AV->Bool
 | .nl=>true
 | _=>false
def Nu:BinOp->Bool
 | .eql=>true
 | .neq=>true
 | _=>false
def wJ (C:Ctx) (o:Oper) (t:Nat->AV):Bool:=match o.op with
 | .binOp op ty x y _=>Nu op && Ib (ev t y) && rC (ev t x) && (match C.T ty with
  | some { ud:=.sl _,.. }=>true
  | _=>false)
 | _=>false
def p7 (C:Ctx) (o:Oper) (K:AS->Prop) (s:AS):Prop:=
 match ia o.op with
 | true=>aY C o (ev (fw (o.dst.getD 0) s).t) (fw (o.dst.getD 0) s).h fun v eff new=>K ⟨cQ (fw (o.dst.getD 0) s).t o.dst v,match new with
   | none=>aA (app (fw (o.dst.getD 0) s).h eff) (o.dst.getD 0) .none
   | some b=>app (aA (fw (o.dst.getD 0) s).h (o.dst.getD 0) b) eff⟩
 | false=>match o.op,o.dst with
  | .assign x,some d=>match ev s.t x with
   | .ow i=>match s.h i with
    | .row _ _=>match bw i d with
     | true=>K ⟨aA s.t d (.ow i),s.h⟩
     | false=>K ⟨aA (iJ i d s).t d (.ow d),(iJ i d s).h⟩
    | .an _ _=>match bw i d with
     | true=>K ⟨aA s.t d (.ow i),s.h⟩
     | false=>K ⟨aA (iJ i d s).t d (.ow d),(iJ i d s).h⟩
    | _=>K ⟨aA s.t d (.ow i),s.h⟩
   | v=>K ⟨aA s.t d v,s.h⟩
  | _,_=>aY C o (ev s.t) s.h fun v eff new=>match new with
   | none=>K ⟨cQ s.t o.dst v,app s.h eff⟩
   | some _=>False
def step (C:Ctx) (o:Oper) (K:AS->Prop) (s:AS):Prop:=match wJ C o s.t with
 | true=>K ⟨cQ s.t o.dst (.p (.im (.bool true))),s.h⟩/\K ⟨cQ s.t o.dst (.p (.im (.bool false))),s.h⟩
 | false=>p7 C o K s
def gw (o:Oper) (n:Nat):Prop:=∀d,o.dst=some d->d < n
theorem wK {A:bE} (hC:a8 A.C) {o:Oper} {S:Nat->Prop} {rho:Nat->Value} {s:AS} {a:Act} {w:World} {K:AS->Prop} {next:Act->World->Prop} {Q:Exit->Act->World->Prop} (hd:gw o A.n) (sim:bd A bA bA S rho s a w) (hq:p7 A.C o K s)
  (hnext:∀s' S' rho' a' w',K s'->bd A bA bA S' rho' s' a' w'->next a' w'):o.wp A.C.P a w next Q:=by
 have plain:∀K':KK,aY A.C o (ev s.t) s.h K'->(∀v eff b,¬K' v eff (some b))->(∀v eff,K' v eff none->K ⟨cQ s.t o.dst v,app s.h eff⟩)->o.wp A.C.P a w next Q:=by
  intro K' hq h1 h2
  refine Ds A o _ _ _ _ _ _ _ K' next Q hC sim (fun _ _=>trivial) hd hq (fun v eff b h=>absurd h (h1 v eff b)) fun v eff new S' rho' a' w' hk bc=>?_
  cases new with
  | some b=>exact absurd hk (h1 v eff b)
  | none=>exact hnext _ _ _ _ _ (h2 v eff hk) (bc.mq (fun _ _=>.inl trivial) (fun _=>Iff.rfl))
 unfold p7 at hq
 split at hq
 ·have Nv:∀n,Ext (fw (o.dst.getD 0) s).h (kG (fw (o.dst.getD 0) s).h (o.dst.getD 0) n):=fun n k=>by
   cases n with
   | none=>exact .inr rfl
   | some b=>
    by_cases e:k=o.dst.getD 0
    ·subst e;exact .inl (by show aA (fun k=>qM (o.dst.getD 0) (s.h k)) _ AB.none _=_;rw[ar])
    exact .inr (aE _ _ e)
  obtain⟨v,eff,new,hk,HI⟩:=lJ (fun _=>.inr rfl) hq
  obtain⟨v2,e2,n2,⟨rfl,rfl,rfl⟩,yj⟩:=lJ (Nv new) (HI (fun v' e' n'=>v'=v/\e'=eff/\n'=new) ⟨rfl,rfl,rfl⟩)
  have oW:=yj (fun v' e' n'=>v'=v2/\e'=e2/\n'=n2) ⟨rfl,rfl,rfl⟩
  have o5:bd A bA (fun k=>k≠o.dst.getD 0) S rho ⟨(fw (o.dst.getD 0) s).t,kG (fw (o.dst.getD 0) s).h (o.dst.getD 0) n2⟩ a w:=by
   have:=sim.free (o.dst.getD 0) (match n2 with | none=>.none | some b=>b)
   cases n2 with
   | some b=>exact this
   | none=>
    have e:aA (fw (o.dst.getD 0) s).h (o.dst.getD 0) .none=(fw (o.dst.getD 0) s).h:=dp _ _ _ (by show aA (fun k=>qM (o.dst.getD 0) (s.h k)) _ AB.none _=_;rw[ar])
    simp only at this
    rw[e] at this
    exact this
  refine Ds A o _ _ _ _ _ _ _ _ next Q hC o5 (fun _ _=>trivial) hd oW (fun v eff b h=>?_) fun v eff new S' rho' a' w' BD bc=>?_
  ·obtain⟨_,_,rfl⟩:=h
   exact⟨fun h=>h rfl,ar _ _ _⟩
  obtain⟨rfl,rfl,rfl⟩:=BD
  refine hnext _ S' rho' _ _ hk ?_
  cases new with
  | some b=>exact bc.mq (V':=bA) (L':=bA) (fun _ _=>.inl trivial) (fun k=>⟨fun _=>by by_cases e:k=o.dst.getD 0;exact .inr e;exact .inl e,fun _=>trivial⟩)
  | none=>exact ((bc.kill (o.dst.getD 0)).AL _ (ar _ _ _)).mq (fun _ _=>.inl trivial) (fun _=>Iff.rfl)
 split at hq
 ·rename_i x d ax gH
  have run:(execOp a.eval o).run A.C.P w=.ok (.value (a.eval x)) w:=by simp[execOp,ax]
  have hx:=aM sim x (fun _ _=>trivial)
  have same:∀v,ev s.t x=v->K ⟨aA s.t d v,s.h⟩->o.wp A.C.P a w next Q:=fun v hv hk=>by
   refine cq run (hnext _ S rho _ _ hk ?_)
   have:=(sim.value o.dst hd v _ (by rw[<-hv];exact hx)).mq (V':=bA) (L':=bA) (fun _ _=>.inl trivial) (fun _=>Iff.rfl)
   rw[gH] at this ⊢
   exact this
  have JI:∀i,ev s.t x=.ow i->bw i d=false->K ⟨aA (iJ i d s).t d (.ow d),(iJ i d s).h⟩->o.wp A.C.P a w next Q:=fun i hi bG hq=>by
     have hid:i≠d:=fun e=>by rw[aL.2 e] at bG;cases bG
     refine cq run (hnext _ S (fun j=>if j=d then rho i else rho j) _ _ hq ?_)
     have o5:=sim.rename i d hid (Nat.lt_of_lt_of_le (hd d gH) sim.nb)
     have Qr:aI S w A.C.P bA (fun j=>if j=d then rho i else rho j) (iJ i d s).h (.ow d) (a.eval x):=by
      rw[hi] at hx
      refine .ow d _ fun ht=>⟨trivial,?_⟩
      have:(s.h i).there:=by simpa [iJ,aL.2 rfl,oZ] using ht
      rw[(hx.bF this).2]
      simp
     have:=(o5.value o.dst hd (.ow d) _ Qr).mq (V':=bA) (L':=bA) (fun _ _=>.inl trivial) (fun _=>Iff.rfl)
     rw[gH] at this ⊢
     exact this
  split at hq
  ·rename_i i hi
   split at hq
   ·split at hq
    ·exact same _ hi hq
    rename_i bG
    exact JI i hi bG hq
   ·split at hq
    ·exact same _ hi hq
    rename_i bG
    exact JI i hi bG hq
   exact same _ hi hq
  exact same _ rfl hq
 refine plain _ hq (fun v eff b h=>h) (fun v eff h=>h)
theorem uS {x:AV} (h:rC x=true):x=.p (.sl []):=by
 unfold rC at h
 split at h
 ·rfl
 cases h
theorem Dv {x:AV} (h:Ib x=true):x=.nl:=by unfold Ib at h;split at h;rfl;cases h
theorem yR {A:bE} (hC:a8 A.C) {o:Oper} {S:Nat->Prop} {rho:Nat->Value} {s:AS} {a:Act} {w:World} {K:AS->Prop} {next:Act->World->Prop} {Q:Exit->Act->World->Prop} (hd:gw o A.n) (sim:bd A bA bA S rho s a w) (hq:step A.C o K s)
  (hnext:∀s' S' rho' a' w',K s'->bd A bA bA S' rho' s' a' w'->next a' w'):o.wp A.C.P a w next Q:=by
 unfold step at hq
 split at hq
 ·rename_i hn
  unfold wJ at hn
  split at hn
  ·rename_i op ty x y RJ ax
   simp only[Bool.and_eq_true] at hn
   obtain⟨⟨⟨h1,h3⟩,h2⟩,h4⟩:=hn
   split at h4
   case h_2=>cases h4
   rename_i e size bytes zero eq hT
   have dv:=(hC.eK ty _ hT).under
   simp only at dv
   have hx:=aM sim x (fun _ _=>trivial)
   have hy:=aM sim y (fun _ _=>trivial)
   rw[uS h2] at hx
   rw[Dv h3] at hy
   obtain⟨ad,c,hv,_⟩:=hx.dE.jF
   have lE:a.eval y=.slice none 0 0:=by generalize a.eval y=v at hy;cases hy;rfl
   have fin:∀b:Bool,(execOp a.eval o).run A.C.P w=.ok (.value (.bool b)) w->o.wp A.C.P a w next Q:=fun b hrun=>by
    refine cq hrun (hnext ⟨cQ s.t o.dst (.p (.im (.bool b))),s.h⟩ S rho _ _ ?_ ?_)
    ·cases b
     ·exact hq.2
     exact hq.1
    exact (sim.value o.dst hd (.p (.im (.bool b))) _ (.p _ _ (.im _))).mq (V':=bA) (L':=bA) (fun _ _=>.inl trivial) (fun _=>Iff.rfl)
   cases op <;> first | (cases h1;done) | skip
   ·refine fin ad.isNone ?_
    simp[execOp,ax,hv,lE,eqGuard,binOp,dn _ _ _ _ _ _ dv]
   refine fin (!ad.isNone) ?_
   simp[execOp,ax,hv,lE,eqGuard,binOp,dn _ _ _ _ _ _ dv]
  cases hn
 exact wK hC hd sim hq hnext
end Go.AM
namespace Go.AM
open Go.RowKit
def eE (b:Bool) (p q:Prop):Prop:=match b with
 | true=>p
 | false=>q
def cR (b:Bool):AV:=.p (.im (.bool b))
def gI:AV:=.p (.im undef)
def Dw:Value->Option Bool
 | .bool b=>some b
 | _=>none
def Kt (v:Value) (want:Bool):Bool:=Dw v == some want
def cy (C:Ctx) (all:List Oper):List Oper->(AS->Prop)->AS->Prop
 | [],K,s=>K s
 | o::r,K,s=>match o.guard with
  | none=>step C o (cy C all r K) s
  | some (g,want)=>match all[g]? with
   | none=>False
   | some og=>match og.dst with
    | none=>False
    | some tg=>match s.t tg with
     | .p (.im (.bool b))=>eE b
       (match want with
        | true=>step C o (cy C all r K) ⟨aA s.t tg (cR true),s.h⟩
        | false=>cy C all r K ⟨cQ (aA s.t tg (cR true)) o.dst gI,s.h⟩)
       (match want with
        | false=>step C o (cy C all r K) ⟨aA s.t tg (cR false),s.h⟩
        | true=>cy C all r K ⟨cQ (aA s.t tg (cR false)) o.dst gI,s.h⟩)
     | .p (.im (.tuple _))=>cy C all r K ⟨cQ s.t o.dst gI,s.h⟩
     | _=>False
theorem jK {A:bE} {V L S:Nat->Prop} {rho:Nat->Value} {s:AS} {a:Act} {w:World} (sim:bd A V L S rho s a w) {ops:Array Oper} {g tg:Nat} {og:Oper} {v:Value} (h1:ops[g]?=some og) (h2:og.dst=some tg) (hv:V tg) (h3:s.t tg=.p (.im v)):yielded ops a.tmps g=Dw v:=by
 have h4:=sim.tm tg hv
 rw[h3] at h4
 have h5:a.tmps.getD tg undef=v:=h4.aZ
 rw[Array.getD_eq_getD_getElem?] at h5
 subst h5
 unfold yielded Dw
 rw[h1]
 simp only[Option.bind_some,h2]
 cases h:a.tmps[tg]? with
 | none=>rfl
 | some v=>simp only[Option.getD_some];split <;> simp_all
theorem yS {A:bE} (hC:a8 A.C) {ops:Array Oper} {Q:Exit->Act->World->Prop} {K:AS->Prop} (dK:∀s S rho a w,K s->bd A bA bA S rho s a w->Q .normal a w):
  ∀(l:List Oper) (k:Nat) (s:AS) (S:Nat->Prop) (rho:Nat->Value) (a:Act) (w:World),(∀j,l[j]?=ops[k+j]?)->(∀o∈l,gw o A.n)->cy A.C ops.toList l K s->bd A bA bA S rho s a w->wpOps A.C.P ops Q (List.range' k l.length) a w:=by
 intro l
 induction l with
 | nil=>intro k s S rho a w _ _ hq sim;exact dK s S rho a w hq sim
 | cons o l ih=>
  intro k s S rho a w hl hd hq sim
  have h0:ops[k]?=some o:=by simpa using (hl 0).symm
  have Ku:∀j,l[j]?=ops[k+1+j]?:=fun j=>by have:=hl (j+1);simpa [Nat.add_assoc,Nat.add_comm 1 j] using this
  have qz:∀o∈l,gw o A.n:=fun o ho=>hd o (by simp[ho])
  have Kv:=hd o (by simp)
  rw[List.length_cons,List.range'_succ]
  simp only[wpOps,h0]
  have run:∀(s:AS),step A.C o (cy A.C ops.toList l K) s->bd A bA bA S rho s a w->o.wp A.C.P a w (wpOps A.C.P ops Q (List.range' (k+1) l.length)) Q:=fun s hs sim=>
   yR hC Kv sim hs fun s' S' rho' a' w' hk bc=>ih (k+1) s' S' rho' a' w' Ku qz hk bc
  have skip:∀(t:Nat->AV),cy A.C ops.toList l K ⟨cQ t o.dst gI,s.h⟩->bd A bA bA S rho ⟨t,s.h⟩ a w->wpOps A.C.P ops Q (List.range' (k+1) l.length) (a.put o.dst undef) w:=fun t hs sim=>by
   have:=(sim.value o.dst Kv gI undef (.p _ _ (.im _))).mq (V':=bA) (L':=bA) (fun _ _=>.inl trivial) (fun _=>Iff.rfl)
   exact ih (k+1) _ S rho _ w Ku qz hs this
  unfold cy at hq
  split at hq
  ·rename_i hg
   rw[if_pos (by simp[Region.wanted,hg])]
   exact .inl (run s hq sim)
  rename_i g want hg
  split at hq
  ·exact hq.elim
  rename_i og Ic
  split at hq
  ·exact hq.elim
  rename_i tg Ie
  split at hq
  ·rename_i b hb
   have hy:=jK sim (ops:=ops) (g:=g) (by simpa using Ic) Ie trivial hb
   have nN:∀b',b=b'->aA s.t tg (cR b')=s.t:=fun b' e=>dp _ _ _ (by rw[hb,e];rfl)
   have rD:Region.wanted o (yielded ops a.tmps)=(some b == some want):=by simp[Region.wanted,hg,hy,Dw]
   rw[rD]
   cases b <;> cases want <;> simp only[eE] at hq
   ·rw[nN false rfl] at hq
    rw[if_pos (by decide)]
    exact .inl (run s hq sim)
   ·rw[nN false rfl] at hq
    rw[if_neg (by decide)]
    exact skip s.t hq sim
   ·rw[nN true rfl] at hq
    rw[if_neg (by decide)]
    exact skip s.t hq sim
   rw[nN true rfl] at hq
   rw[if_pos (by decide)]
   exact .inl (run s hq sim)
  ·rename_i q hb
   have hy:=jK sim (ops:=ops) (g:=g) (by simpa using Ic) Ie trivial hb
   have rD:Region.wanted o (yielded ops a.tmps)=false:=by simp[Region.wanted,hg,hy,Dw]
   rw[rD,if_neg (by decide)]
   exact skip s.t hq sim
  exact hq.elim
def W (A:bE) (c:Code) (K:Exit->AS->Prop) (s:AS):Prop:=
 ∀S rho a w,bd A bA bA S rho s a w->c.wp A.C.P (fun e a' w'=>∃S' rho' s',bd A bA bA S' rho' s' a' w'/\K e s') a w
theorem Kw {A:bE} {x y:Code} {K:Exit->AS->Prop} {s:AS} (h:W A x (fun e s'=>match e with | .normal=>W A y K s' | e=>K e s') s):W A (.seq x y) K s:=by
 intro S rho a w sim
 refine wp_seq (wp_mono (h S rho a w sim) fun e a' w' hq=>?_)
 obtain⟨S',rho',s',bc,hk⟩:=hq
 cases e with
 | normal=>exact hk S' rho' a' w' bc
 | exit id=>exact⟨S',rho',s',bc,hk⟩
 | goto l=>exact⟨S',rho',s',bc,hk⟩
 | ret=>exact⟨S',rho',s',bc,hk⟩
 | panic c=>exact⟨S',rho',s',bc,hk⟩
 | outgrown=>exact⟨S',rho',s',bc,hk⟩
theorem yT {A:bE} {c:Code} {K K':Exit->AS->Prop} {s:AS} (h:W A c K s) (hk:∀e s,K e s->K' e s):W A c K' s:=
 fun S rho a w sim=>wp_mono (h S rho a w sim) fun _ _ _ ⟨S',rho',s',bc,k⟩=>⟨S',rho',s',bc,hk _ _ k⟩
theorem Ig {A:bE} {c:Operand} {x y:Code} {K:Exit->AS->Prop} {s:AS} {b:Bool} (hb:ev s.t c=.p (.im (.bool b))) (h1:b=true->W A x K s) (h2:b=false->W A y K s):W A (.cond c x y) K s:=by
 intro S rho a w sim
 have hc:=aM sim c (fun _ _=>trivial)
 rw[hb] at hc
 refine wp_cond_split hc.aZ (fun h=>h1 h S rho a w sim) (fun h=>h2 h S rho a w sim)
theorem FE {A:bE} {id:Nat} {c:Code} {K:Exit->AS->Prop} {s:AS} (h:W A c (fun e s'=>match e with | .exit i=>eE (bw i id) (K .normal s') (K (.exit i) s') | e=>K e s') s):W A (.block id c) K s:=by
 intro S rho a w sim
 refine wp_block (wp_mono (h S rho a w sim) fun e a' w' hq=>?_)
 obtain⟨S',rho',s',bc,hk⟩:=hq
 cases e with
 | exit i=>
  simp only[Exit.inBlock]
  simp only at hk
  by_cases e:i=id
  ·rw[if_pos e]
   rw[aL.2 e] at hk
   exact⟨S',rho',s',bc,hk⟩
  rw[if_neg e]
  have:bw i id=false:=by rw[Bool.eq_false_iff];intro h;exact e (aL.1 h)
  rw[this] at hk
  exact⟨S',rho',s',bc,hk⟩
 | normal=>exact⟨S',rho',s',bc,hk⟩
 | goto l=>exact⟨S',rho',s',bc,hk⟩
 | ret=>exact⟨S',rho',s',bc,hk⟩
 | panic c=>exact⟨S',rho',s',bc,hk⟩
 | outgrown=>exact⟨S',rho',s',bc,hk⟩
def aD (A:bE) (s s':AS):Prop:=∀S rho a w,bd A bA bA S rho s a w->∃S' rho',bd A bA bA S' rho' s' a w
theorem aD.refl (A:bE) (s:AS):aD A s s:=fun S rho _ _ h=>⟨S,rho,h⟩
theorem aD.trans {A:bE} {s s' ja:AS} (h:aD A s s') (k:aD A s' ja):aD A s ja:=fun S rho a w sim=>by
 obtain⟨S',rho',bc⟩:=h S rho a w sim
 exact k S' rho' a w bc
theorem least {P:Nat->Prop} (h:∃n,P n):∃n,P n/\∀k,P k->n<=k:=by
 obtain⟨n,hn⟩:=h
 induction n using Nat.strongRecOn with
 | _ n ih=>
  by_cases hk:∃k,k < n/\P k
  ·obtain⟨k,h1,h2⟩:=hk
   exact ih k h1 h2
  exact⟨n,hn,fun k h=>Nat.le_of_not_lt fun dS=>hk ⟨k,dS,h⟩⟩
theorem Ih {A:bE} {c:Code} {K:Exit->AS->Prop} {s:AS} {α:Type} (I:α->AS->Prop) (m:α->Nat) (h0:∃x s',aD A s s'/\I x s')
  (round:∀x s,I x s->W A c (fun e s'=>match e with | .normal=>∃y ja,aD A s' ja/\I y ja/\m y < m x | e=>K e s') s):W A (.loop c) K s:=by
 intro S rho a w sim
 let J:Act->World->Nat->Prop:=fun a w n=>∃x S rho s,bd A bA bA S rho s a w/\I x s/\m x=n
 have dec:∀a w,Decidable (∃n,J a w n):=fun a w=>Classical.propDecidable _
 let mu:Act->World->Nat:=fun a w=>@dite _ (∃n,J a w n) (dec a w) (fun h=>Classical.choose (least h)) (fun _=>0)
 have Mh:∀a w (h:∃n,J a w n),mu a w=Classical.choose (least h):=fun a w h=>by
  show @dite _ _ (dec a w) _ _=_
  rw[dif_pos h]
 refine wp_loop (fun a w=>∃n,J a w n) mu ?_ ?_
 ·obtain⟨x,s',hle,hi⟩:=h0
  obtain⟨S',rho',bc⟩:=hle S rho a w sim
  exact⟨m x,x,S',rho',s',bc,hi,rfl⟩
 intro a w hJ
 obtain⟨⟨x,S1,Nw,s1,o5,hi,hm⟩,_⟩:=Classical.choose_spec (least hJ)
 refine wp_mono (round x s1 hi S1 Nw a w o5) fun e a' w' hq=>?_
 obtain⟨S',rho',s',bc,hk⟩:=hq
 cases e with
 | normal=>
  obtain⟨y,ja,hle,tE,dS⟩:=hk
  obtain⟨Pf,GZ,G0⟩:=hle S' rho' a' w' bc
  have Nx:∃n,J a' w' n:=⟨m y,y,Pf,GZ,ja,G0,tE,rfl⟩
  refine⟨Nx,?_⟩
  rw[Mh a w hJ,Mh a' w' Nx,<-hm]
  exact Nat.lt_of_le_of_lt ((Classical.choose_spec (least Nx)).2 (m y) ⟨y,Pf,GZ,ja,G0,tE,rfl⟩) dS
 | exit id=>exact⟨S',rho',s',bc,hk⟩
 | goto l=>exact⟨S',rho',s',bc,hk⟩
 | ret=>exact⟨S',rho',s',bc,hk⟩
 | panic c=>exact⟨S',rho',s',bc,hk⟩
 | outgrown=>exact⟨S',rho',s',bc,hk⟩
theorem Dx {A:bE} (hC:a8 A.C) {id:Nat} {ops:Array Oper} {K:Exit->AS->Prop} {s:AS} (hd:∀o∈ops.toList,gw o A.n) (h:cy A.C ops.toList ops.toList (K .normal) s):W A (.region id ops false) K s:=by
 intro S rho a w sim
 refine wp_region ?_
 have:=yS hC (ops:=ops) (Q:=fun e a' w'=>∃S' rho' s',bd A bA bA S' rho' s' a' w'/\K e s') (K:=K .normal) (fun s S rho a w hk sim=>⟨S,rho,s,sim,hk⟩) ops.toList 0 s S rho a w (fun j=>by simp) hd h sim
 rw[List.range_eq_range']
 simpa using this
end Go.AM
namespace Go.AM
open Go.RowKit
def Kx (j:Nat):Arg->AV
 | .pv x=>.p x
 | .row _ _=>.ow (100000+j)
 | .map _ _=>.ow (100000+j)
 | .box _=>.bx (100000+j) 0
 | .aC _=>.bx (100000+j) 0
def G1:Arg->AB
 | .pv _=>.none
 | .row e es=>.row e es
 | .map mk es=>.map mk es
 | .box cs=>.box (cs.map .p)
 | .aC cs=>.aC cs
def bR:List AV->List Nat
 | []=>[]
 | .ow n::r=>n::bR r
 | _::r=>bR r
def wL (n:Nat):List Nat->Bool
 | []=>false
 | m::r=>match Nat.beq m n with
  | true=>true
  | false=>wL n r
def cE:List Nat->Bool
 | []=>true
 | n::r=>!wL n r && (Nat.blt n 100000 && cE r)
def Dy:List Arg->Bool
 | []=>true
 | .aC _::_=>false
 | _::r=>Dy r
def rE (h:Nat->AB):List AV->List HC->Prop
 | [],[]=>True
 | .p x::r,.p y::s=>x=y/\rE h r s
 | .ow n::r,.row e es::s=>h n=.row e es/\rE h r s
 | _,_=>False
theorem ib {n:Nat} {l:List Nat}:wL n l=true↔n∈l:=by
 induction l with
 | nil=>simp[wL]
 | cons m l ih=>
  unfold wL
  split
  ·rename_i h
   have:=Nat.eq_of_beq_eq_true h
   simp[this]
  rename_i h
  rw[ih]
  have:¬n=m:=fun e=>by rw[e] at h;simp at h
  simp[this]
theorem eP {n:Nat}:∀{l:List AV},n∈bR l↔(AV.ow n:AV)∈l
 | []=>by simp[bR]
 | x::l=>by cases x <;> simp[bR,eP (l:=l)]
theorem jL:∀{l:List AV} {i j n:Nat},cE (bR l)=true->l[i]?=some (.ow n)->l[j]?=some (.ow n)->i=j
 | [],i,j,n,_,h,_=>by simp at h
 | x::l,i,j,n,hg,h1,h2=>by
  have tail:cE (bR l)=true:=by
   cases x <;> first | exact hg | (simp[bR,cE] at hg ⊢;exact hg.2.2)
  have km:∀k:Nat,x=AV.ow n->l[k]?=some (AV.ow n)->False:=fun k hx hk=>by
   subst hx
   simp[bR,cE] at hg
   have:wL n (bR l)=true:=ib.2 (eP.2 (List.mem_of_getElem? hk))
   rw[hg.1] at this
   cases this
  cases i with
  | zero=>
   cases j with
   | zero=>rfl
   | succ j=>simp at h1 h2;exact (km j h1 h2).elim
  | succ i=>
   cases j with
   | zero=>simp at h1 h2;exact (km i h2 h1).elim
   | succ j=>simp at h1 h2;rw[jL tail h1 h2]
theorem jM:∀{l:List Nat} {n:Nat},cE l=true->n∈l->n < 100000
 | [],n,_,h=>by cases h
 | m::l,n,hg,h=>by
  simp[cE] at hg
  rcases List.mem_cons.1 h with h | h
  ·subst h
   have:=hg.2.1
   first | omega | (have:=Nat.le_of_ble_eq_true (show Nat.ble (n+1) 100000=true from this);omega) | (simp[Nat.blt] at this;omega)
  exact jM hg.2.2 h
theorem tQ {h:Nat->AB}:∀{bs:List AV} {cs:List HC},rE h bs cs->bs.length=cs.length
 | [],[],_=>rfl
 | [],_::_,hp=>hp.elim
 | b::bs,[],hp=>by cases b <;> exact hp.elim
 | b::bs,c::cs,hp=>by
  cases b <;> cases c <;> first | exact hp.elim | (have:=tQ hp.2;simp[this])
theorem wM {h:Nat->AB}:∀{bs:List AV} {cs:List HC} {j:Nat} {x:AV} {y:HC},rE h bs cs->bs[j]?=some x->cs[j]?=some y->(∃z,x=.p z/\y=.p z)\/∃n e es,x=.ow n/\y=.row e es/\h n=.row e es
 | [],_,j,x,y,_,h1,_=>by simp at h1
 | b::bs,[],j,x,y,_,_,h2=>by simp at h2
 | b::bs,c::cs,0,x,y,hp,h1,h2=>by
  simp at h1 h2
  subst h1 h2
  cases b <;> cases c <;> first | exact hp.elim | exact .inl ⟨_,rfl,by rw[hp.1]⟩ | exact .inr ⟨_,_,_,rfl,rfl,hp.1⟩
 | b::bs,c::cs,j+1,x,y,hp,h1,h2=>by
  simp at h1 h2
  have Ny:rE h bs cs:=by cases b <;> cases c <;> first | exact hp.elim | exact hp.2
  exact wM Ny h1 h2
theorem wN {A:bE} {V L S:Nat->Prop} {rho:Nat->Value} {s:AS} {a:Act} {w:World} (sim:bd A V L S rho s a w) {id:Nat} (hL:L id) {bs:List AV} {cs:List HC} (hb:s.h id=.box bs) (hg:cE (bR bs)=true) (hp:rE s.h bs cs):
  ∃g ty c,rho id=.pointer (some ⟨g,0,none⟩)/\Bx S w A.C.P cs g ty c/\∀k,hasB w (.aC cs) (rho id) k->br (rho id)=some k\/∃n,n∈bR bs/\L n/\(s.h n).live/\br (rho n)=some k:=by
 have hh:=sim.hp id hL
 rw[hb] at hh
 obtain⟨g,ty,c,k1,k2,k3,k4⟩:=hh
 have hl:=tQ hp
 have ba:(s.h id).live:=by rw[hb];trivial
 have hx:∀{j:Nat} {y:HC} {u:Value},cs[j]?=some y->c[j]?=some u->u.oneCell'=true/\GK S w A.C.P y u/\(y.isRow->∃n,bs[j]?=some (.ow n)/\L n/\u=rho n/\(s.h n).live/\n≠id):=by
  intro j y u hj hu
  obtain⟨x,hx⟩:∃x,bs[j]?=some x:=⟨_,List.getElem?_eq_getElem (by rw[hl];exact ao hj)⟩
  obtain⟨o1,o2⟩:=k4 j x u hx hu
  rcases wM hp hx hj with⟨z,rfl,rfl⟩ | ⟨n,e,es,rfl,rfl,hn⟩
  ·exact⟨o1,o2.dE,fun h=>h.elim⟩
  obtain⟨AN,rfl⟩:=o2.bF (by rw[hn];trivial)
  have hr:=sim.hp n AN
  rw[hn] at hr
  exact⟨o1,hr,fun _=>⟨n,hx,AN,rfl,by rw[hn];trivial,fun e=>by rw[e,hb] at hn;cases hn⟩⟩
 have B6:br (rho id)=some g:=by rw[k1];rfl
 refine⟨g,ty,c,k1,⟨k2,by rw[k3,hl],fun j y u hj hu=>⟨(hx hj hu).1,(hx hj hu).2.1⟩,fun j y u b hj hu hy jG e=>?_,fun i j x y u v b hi hj hu hv Qt Qu e1 e2=>?_⟩,fun k hk=>?_⟩
 ·obtain⟨n,_,AN,rfl,FF,bG⟩:=(hx hj hu).2.2 hy
  subst e
  exact bG (sim.LX n id b AN hL FF ba jG B6)
 ·obtain⟨n,hn,AN,rfl,FF,_⟩:=(hx hi hu).2.2 Qt
  obtain⟨m,hm,Qv,rfl,JJ,_⟩:=(hx hj hv).2.2 Qu
  have:=sim.LX n m b AN Qv FF JJ e1 e2
  subst this
  exact jL hg hn hm
 rcases hk with hk | ⟨iH,g',je,kg,c',O5,m,j,y,u,q1,q2,q3,q4,q5⟩ | ⟨_,_,_,_,_,_,je,_⟩
 ·exact .inl hk
 ·injection je with je
  subst je
  rw[B6] at kg
  injection kg with kg
  subst kg
  rw[k2] at q1
  injection q1 with q1
  injection q1 with q1 _ _
  subst q1
  obtain⟨n,hn,AN,rfl,FF,_⟩:=(hx q2 q4).2.2 q3
  exact .inr ⟨n,eP.2 (List.mem_of_getElem? hn),AN,FF,q5⟩
 cases je
def tR (args:List Arg) (j:Nat):AV:=match args[j]? with
 | some x=>Kx j x
 | none=>.junk
def kM (args:List Arg) (j:Nat):AB:=match Nat.ble 100000 j with
 | true=>match args[j - 100000]? with
  | some x=>G1 x
  | none=>.none
 | false=>.none
def Dz (a : Tmp) (t : TypeId) : Oper := { dst := none, op := .load t (.tmp a), type := t, pos := "", after := #[], guard := none }
def G2 (C:Ctx) (s:AS):ResultVar->(AV->Prop)->Prop
 | .tmp t,K=>K (s.t t)
 | .cell a t,K=>aY C (Dz a t) (ev s.t) s.h fun v _ _=>match v with
  | .p x=>K (.p x)
  | _=>False
def yU (C:Ctx) (s:AS):List ResultVar->(List AV->Prop)->Prop
 | [],K=>K []
 | r::rs,K=>G2 C s r fun a=>yU C s rs fun as=>K (a::as)
def yV (h:Nat->AB):List AV->(List PV->(Nat->AB)->Prop)->Prop
 | [],K=>K [] h
 | a::r,K=>eh h a fun x fz=>yV (app h fz) r fun xs h'=>K (x::xs) h'
def iO:AB->Nat->Bool
 | .box bs,i=>wL i (bR bs)
 | _,_=>false
def ic (h:Nat->AB):Nat->List Arg->List Fin->Nat->Bool
 | j,.pv _::xs,fs,i=>ic h (j+1) xs fs i
 | j,_::xs,f::fs,i=>(f.kept && (bw j i || iO (h j) i)) || ic h (j+1) xs fs i
 | _,_,_,_=>false
def gJ (h:Nat->AB):Nat->List Arg->List Fin->Prop
 | _,[],[]=>True
 | j,.pv _::xs,fs=>gJ h (j+1) xs fs
 | j,.row _ _::xs,.gone::fs=>gJ h (j+1) xs fs
 | j,.map _ _::xs,.gone::fs=>gJ h (j+1) xs fs
 | j,.box _::xs,.gone::fs=>gJ h (j+1) xs fs
 | j,.aC _::xs,.gone::fs=>gJ h (j+1) xs fs
 | j,.row e _::xs,.row es::fs=>h j=.row e es/\gJ h (j+1) xs fs
 | j,.map mk _::xs,.map es::fs=>h j=.map mk es/\gJ h (j+1) xs fs
 | j,.box _::xs,.box cs::fs=>(match h j with
  | .box bs=>cv bs=some cs
  | _=>False)/\gJ h (j+1) xs fs
 | j,.aC _::xs,.aC cs::fs=>(match h j with
  | .aC bs=>bs=cs
  | .box bs=>(cE (bR bs) && Dy xs)=true/\rE h bs cs
  | _=>False)/\gJ h (j+1) xs fs
 | _,_,_=>False
def FG (C:Ctx) (rs:List ResultVar) (args:List Arg) (r:AR) (fin:List Fin) (s:AS):Prop:=
 yU C s rs fun fL=>match r with
  | .own e es=>match fL with
   | [a]=>match a with
    | .ow i=>s.h i=.row e es/\ic s.h 100000 args fin i=false/\gJ s.h 100000 args fin
    | .vw i lo hi=>match lo with
     | 0=>match s.h i with
      | .row e' xs=>match bw e' e with
       | true=>es=xs.take hi/\ic s.h 100000 args fin i=false/\gJ s.h 100000 args fin
       | false=>False
      | _=>False
     | _+1=>False
    | .nl=>match C.T e with
     | some ti=>match Nat.blt 0 ti.size with
      | true=>es=[]/\gJ s.h 100000 args fin
      | false=>False
     | none=>False
    | _=>False
   | _=>False
  | .hown cs=>match fL with
   | [a]=>match a with
    | .bx i off=>match off with
     | 0=>s.h i=.aC cs/\ic s.h 100000 args fin i=false/\gJ s.h 100000 args fin
     | _+1=>False
    | _=>False
   | _=>False
  | .p x=>match fL with
   | [a]=>eh s.h a fun y fz=>y=x/\gJ (app s.h fz) 100000 args fin
   | _=>False
  | .tu xs=>match fL with
   | [_]=>False
   | _=>yV s.h fL fun ys h'=>ys=xs/\gJ h' 100000 args fin
def FH (C:Ctx) (rs:List ResultVar) (args:List Arg) (r:AR) (fin:List Fin) (e:Exit) (s:AS):Prop:=match e with
 | .normal=>FG C rs args r fin s
 | .ret=>FG C rs args r fin s
 | _=>False
def wO (tmps:Array Value):ResultVar->Sem Value
 | .tmp t=>pure (tmps.getD t undef)
 | .cell b t=>do loadVar t (<-asAddr (tmps.getD b undef))
theorem B7 {A:bE} (hC:a8 A.C) {S:Nat->Prop} {rho:Nat->Value} {s:AS} {a:Act} {w:World} (sim:bd A bA bA S rho s a w) (r:ResultVar) {K:AV->Prop} (hq:G2 A.C s r K):
  ∃av v,K av/\(wO a.tmps r).run A.C.P w=.ok v w /\
   (∀(S2:Nat->Prop) (h2:Nat->AB),(∀b,S b->S2 b)->bd A bA bA S2 rho ⟨s.t,h2⟩ a w->aI S2 w A.C.P bA rho h2 av v):=by
 cases r with
 | tmp t=>exact⟨s.t t,a.tmps.getD t undef,hq,rfl,fun S2 h2 _ aP=>aP.tm t trivial⟩
 | cell b t=>
  obtain⟨av,v,h1,h2,h3⟩:=wy (o:=Dz b t) (K:=fun v _ _=>match v with | .p x=>K (.p x) | _=>False) t (.tmp b) rfl hC sim (fun _ _=>trivial) hq
  split at h1
  ·rename_i x
   refine⟨_,v,h1,?_,fun S2 pY hS aP=>.p _ _ (h2.dE.mono hS (fun _ _=>rfl))⟩
   have h4:(Instr.loadAt t (a.tmps.getD b undef)).run A.C.P w=.ok v w:=h3
   cases hv:a.tmps.getD b undef with
   | pointer p=>
    rw[hv] at h4
    cases p with
    | none=>simp[Instr.loadAt,Instr.sureAddr,stuck,Sem.run] at h4
    | some ad=>
     have h5:(loadVar t ad).run A.C.P w=.ok v w:=by simpa [Instr.loadAt,Instr.sureAddr] using h4
     show (wO a.tmps (.cell b t)).run _ _=_
     unfold wO
     simp only[hv]
     exact h5
   | _=>rw[hv] at h4;simp[Instr.loadAt,Instr.sureAddr,stuck,Sem.run] at h4
  exact h1.elim
theorem yW {A:bE} (hC:a8 A.C) {S:Nat->Prop} {rho:Nat->Value} {s:AS} {a:Act} {w:World} (sim:bd A bA bA S rho s a w):∀(rs:List ResultVar) {K:List AV->Prop},yU A.C s rs K ->
  ∃fL vs,K fL/\fL.length=vs.length/\(rs.mapM (wO a.tmps)).run A.C.P w=.ok vs w/\vs.length=rs.length /\
   (∀(S2:Nat->Prop) (h2:Nat->AB),(∀b,S b->S2 b)->bd A bA bA S2 rho ⟨s.t,h2⟩ a w->∀(i:Nat) av v,fL[i]?=some av->vs[i]?=some v->aI S2 w A.C.P bA rho h2 av v):=by
 intro rs
 induction rs with
 | nil=>intro K hq;exact⟨[],[],hq,rfl,rfl,rfl,by simp⟩
 | cons r rs ih=>
  intro K hq
  obtain⟨av,v,hq,h1,h2⟩:=B7 hC sim r hq
  obtain⟨fL,vs,hq,h3,h4,h5,h6⟩:=ih hq
  refine⟨av::fL,v::vs,hq,by simp[h3],?_,by simp[h5],fun S2 pY hS aP i x u hx hu=>?_⟩
  ·rw[List.mapM_cons,Sem.run_bind,h1,Result.andThen_ok,Sem.run_bind,h4]
   rfl
  cases i with
  | zero=>simp at hx hu;subst hx hu;exact h2 S2 pY hS aP
  | succ i=>exact h6 S2 pY hS aP i x u (by simpa using hx) (by simpa using hu)
theorem yX {A:bE} (hC:a8 A.C) {rho:Nat->Value} {t:Nat->AV} {a:Act} {w:World}:∀(fL:List AV) (vs:List Value) (S:Nat->Prop) (h:Nat->AB) {K:List PV->(Nat->AB)->Prop},fL.length=vs.length->bd A bA bA S rho ⟨t,h⟩ a w ->
  (∀(S2:Nat->Prop) (h2:Nat->AB),(∀b,S b->S2 b)->bd A bA bA S2 rho ⟨t,h2⟩ a w->∀(i:Nat) av v,fL[i]?=some av->vs[i]?=some v->aI S2 w A.C.P bA rho h2 av v)->yV h fL K ->
  ∃ys h' S',K ys h'/\bd A bA bA S' rho ⟨t,h'⟩ a w/\(∀b,S b->S' b)/\ys.length=vs.length/\∀(i:Nat) y v,ys[i]?=some y->vs[i]?=some v->az S' w y v:=by
 intro fL
 induction fL with
 | nil=>
  intro vs S h K hl sim _ hq
  have:vs=[]:=List.eq_nil_of_length_eq_zero hl.symm
  subst this
  exact⟨[],h,S,hq,sim,fun _ h=>h,rfl,by simp⟩
 | cons av fL ih=>
  intro vs S h K hl sim hrep hq
  cases vs with
  | nil=>simp at hl
  | cons v vs=>
   obtain⟨y,fz,S2,hq,aP,hp,uF,_,_⟩:=eM hC sim (kv.refl h) (hrep S h (fun _ h=>h) sim 0 av v rfl rfl) hq
   obtain⟨ys,h',S',k1,k2,k3,k4,k5⟩:=ih vs S2 (app h fz) (by simpa using hl) aP (fun S3 h3 hS dR i x u hx hu=>hrep S3 h3 (fun b hb=>hS b (uF b hb)) dR (i+1) x u (by simpa using hx) (by simpa using hu)) hq
   refine⟨y::ys,h',S',k1,k2,fun b hb=>k3 b (uF b hb),by simp[k4],fun i z u hz hu=>?_⟩
   cases i with
   | zero=>simp at hz hu;subst hz hu;exact hp.mono k3 (fun _ _=>rfl)
   | succ i=>exact k5 i z u (by simpa using hz) (by simpa using hu)
theorem lO {h:Nat->AB} {j:Nat} {x:Arg} {xs:List Arg} {f:Fin} {fs:List Fin} (hx:x.handed=true) (hq:gJ h j (x::xs) (f::fs)):gJ h (j+1) xs fs:=by
 cases x <;> cases f <;> first | (cases hx;done) | exact hq.elim | exact hq.2 | exact hq
def tS (h:Nat->AB) (j id:Nat):Prop:=id=j\/iO (h j) id=true
theorem DA {A:bE} {S:Nat->Prop} {rho:Nat->Value} {t:Nat->AV} {h:Nat->AB} {a:Act} {w:World} (sim:bd A bA bA S rho ⟨t,h⟩ a w):∀(args:List Arg) (fin:List Fin) (vs:List Value) (j:Nat),args.length=vs.length->(∀i v,vs[i]?=some v->(∃x,args[i]?=some x/\x.handed=true)->v=rho (j+i))->gJ h j args fin ->
  dT S w A.C.P args fin vs/\∀i g,bU w args fin vs i g->∃id,tS h (j+i) id/\(h id).live/\hasB w (h id) (rho id) g/\ic h j args fin id=true:=by
 intro args
 induction args with
 | nil=>intro fin vs j hl _ hq;have:vs=[]:=List.eq_nil_of_length_eq_zero hl.symm;subst this;cases fin with | nil=>exact⟨trivial,fun i g h=>h.elim⟩ | cons f fin=>exact hq.elim
 | cons x args ih=>
  intro fin vs j hl hv hq
  cases vs with
  | nil=>simp at hl
  | cons v vs=>
   have Ku:args.length=vs.length:=by simpa using hl
   have wv:∀i v,vs[i]?=some v->(∃x,args[i]?=some x/\x.handed=true)->v=rho (j+1+i):=fun i u h1 ⟨y,h2,h3⟩=>by
    have:=hv (i+1) u (by simpa using h1) ⟨y,by simpa using h2,h3⟩
    rw[this];congr 1;omega
   cases hx:x.handed with
   | false=>
    cases x with
    | pv y=>
     obtain⟨r1,r2⟩:=ih fin vs (j+1) Ku wv hq
     refine⟨r1,fun i g hg=>?_⟩
     cases i with
     | zero=>exact hg.elim
     | succ i=>
      obtain⟨id,q1,q2,q3,q4⟩:=r2 i g hg
      exact⟨id,by rw[show j+(i+1)=j+1+i by omega];exact q1,q2,q3,q4⟩
    | row=>cases hx
    | map=>cases hx
    | box=>cases hx
    | aC=>cases hx
   | true=>
    have Pg:v=rho j:=hv 0 v rfl ⟨_,rfl,hx⟩
    cases fin with
    | nil=>cases x <;> first | (cases hx;done) | exact hq.elim
    | cons f fin=>
     obtain⟨r1,r2⟩:=ih fin vs (j+1) Ku wv (lO hx hq)
     have mk:mT S w A.C.P x f v->(∀g,f.kept=true->hasB w (HB f) v g->∃id,tS h j id/\(h id).live/\hasB w (h id) (rho id) g)->dT S w A.C.P (x::args) (f::fin) (v::vs)/\∀i g,bU w (x::args) (f::fin) (v::vs) i g->∃id,tS h (j+i) id/\(h id).live/\hasB w (h id) (rho id) g/\ic h j (x::args) (f::fin) id=true:=by
      intro m1 m2
      refine⟨by cases x <;> first | (cases hx;done) | exact⟨m1,r1⟩,fun i g hg=>?_⟩
      cases i with
      | zero=>
       obtain⟨g1,g2⟩:f.kept=true/\hasB w (HB f) v g:=by cases x <;> first | (cases hx;done) | exact hg
       obtain⟨id,q1,q2,q3⟩:=m2 g g1 g2
       refine⟨id,q1,q2,q3,?_⟩
       have:(bw j id || iO (h j) id)=true:=by
        rcases q1 with q1 | q1
        ·rw[q1,aL.2 rfl];rfl
        rw[q1];simp
       cases x <;> first | (cases hx;done) | (simp only[ic,g1,this,Bool.true_and,Bool.true_or])
      | succ i=>
       have kg:bU w args fin vs i g:=by cases x <;> first | (cases hx;done) | exact hg
       obtain⟨id,q1,q2,q3,q4⟩:=r2 i g kg
       refine⟨id,by rw[show j+(i+1)=j+1+i by omega];exact q1,q2,q3,?_⟩
       cases x <;> first | (cases hx;done) | (simp only[ic,q4,Bool.or_true])
     refine mk ?_ ?_
     ·rw[Pg]
      cases x with
      | pv y=>cases hx
      | row e es=>
       cases f with
       | gone=>trivial
       | row bW=>
        have hh:=sim.hp j trivial
        have hh:cZ S w A.C.P bA rho h j (h j):=hh
        rw[hq.1] at hh
        exact⟨hh,fun g hg=>(sim.kE j g trivial (by show (h j).live;rw[hq.1];trivial) hg).2.1⟩
       | map bW=>exact hq.elim
       | box cs=>exact hq.elim
       | aC cs=>exact hq.elim
      | map mk es=>
       cases f with
       | gone=>trivial
       | map bW=>
        have hh:=sim.hp j trivial
        have hh:cZ S w A.C.P bA rho h j (h j):=hh
        rw[hq.1] at hh
        exact⟨hh,fun g hg=>(sim.kE j g trivial (by show (h j).live;rw[hq.1];trivial) hg).2.1⟩
       | row bW=>exact hq.elim
       | box cs=>exact hq.elim
       | aC cs=>exact hq.elim
      | box ys=>
       cases f with
       | gone=>trivial
       | row bW=>exact hq.elim
       | map bW=>exact hq.elim
       | aC bW=>exact hq.elim
       | box cs=>
        obtain⟨jN,oW⟩:=hq
        split at jN
        ·rename_i bs hb
         have hh:=sim.hp j trivial
         have hh:cZ S w A.C.P bA rho h j (h j):=hh
         rw[hb] at hh
         obtain⟨g,ty,c,k1,k2,k3,k4⟩:=hh
         obtain⟨k5,k6⟩:=en jN
         refine⟨g,ty,c,k1,k2,by rw[k3,k5],(sim.kE j g trivial (by show (h j).live;rw[hb];trivial) (by rw[k1];rfl)).2.1,fun i x u hi hu=>?_⟩
         obtain⟨y,hy⟩:∃y,bs[i]?=some y:=⟨_,List.getElem?_eq_getElem (by rw[k5];exact ao hi)⟩
         obtain⟨k7,k8⟩:=k4 i y u hy hu
         exact⟨k7,k8.qK (k6 i y x hy hi)⟩
        exact jN.elim
      | aC ys=>
       cases f with
       | gone=>trivial
       | row bW=>exact hq.elim
       | map bW=>exact hq.elim
       | box bW=>exact hq.elim
       | aC cs=>
        obtain⟨jN,oW⟩:=hq
        split at jN
        ·rename_i bs hb
         subst jN
         have hh:=sim.hp j trivial
         have hh:cZ S w A.C.P bA rho h j (h j):=hh
         rw[hb] at hh
         obtain⟨g,ty,c,k1,k2⟩:=hh
         exact⟨g,ty,c,k1,k2,fun k hk=>(sim.lv j k trivial (by show (h j).live;rw[hb];trivial) (by show hasB w (h j) _ _;rw[hb];exact hk)).2.1⟩
        ·rename_i bs hb
         simp only[Bool.and_eq_true] at jN
         obtain⟨g,ty,c,k1,k2,k3⟩:=wN sim (id:=j) trivial hb jN.1.1 jN.2
         refine⟨g,ty,c,k1,k2,fun k hk=>?_⟩
         rcases k3 k hk with hk | ⟨n,_,hn,FF,hk⟩
         ·exact (sim.kE j k trivial (by show (h j).live;rw[hb];trivial) hk).2.1
         exact (sim.kE n k hn FF hk).2.1
        exact jN.elim
     intro g hf hg
     rw[Pg] at hg
     cases x with
     | pv y=>cases hx
     | row e es=>
      cases f with
      | gone=>cases hf
      | row bW=>exact⟨j,.inl rfl,by rw[hq.1];trivial,.inl (aq rfl hg)⟩
      | map bW=>exact hq.elim
      | box cs=>exact hq.elim
      | aC cs=>exact hq.elim
     | map mk es=>
      cases f with
      | gone=>cases hf
      | map bW=>exact⟨j,.inl rfl,by rw[hq.1];trivial,.inl (aq rfl hg)⟩
      | row bW=>exact hq.elim
      | box cs=>exact hq.elim
      | aC cs=>exact hq.elim
     | box ys=>
      cases f with
      | gone=>cases hf
      | row bW=>exact hq.elim
      | map bW=>exact hq.elim
      | aC bW=>exact hq.elim
      | box cs=>
       obtain⟨jN,oW⟩:=hq
       split at jN
       ·rename_i bs hb
        exact⟨j,.inl rfl,by rw[hb];trivial,.inl (aq rfl hg)⟩
       exact jN.elim
     | aC ys=>
      cases f with
      | gone=>cases hf
      | row bW=>exact hq.elim
      | map bW=>exact hq.elim
      | box bW=>exact hq.elim
      | aC cs=>
       obtain⟨jN,oW⟩:=hq
       split at jN
       ·rename_i bs hb
        subst jN
        exact⟨j,.inl rfl,by rw[hb];trivial,by rw[hb];exact hg⟩
       ·rename_i bs hb
        simp only[Bool.and_eq_true] at jN
        obtain⟨g',ty,c,k1,k2,k3⟩:=wN sim (id:=j) trivial hb jN.1.1 jN.2
        rcases k3 g hg with hk | ⟨n,hm,hn,FF,hk⟩
        ·exact⟨j,.inl rfl,by rw[hb];trivial,.inl hk⟩
        exact⟨n,.inr (by rw[hb];exact ib.2 hm),FF,.inl hk⟩
       exact jN.elim
theorem B8 {h:Nat->AB}:∀(args:List Arg) (fin:List Fin) (w:World) (vs:List Value) (j0:Nat),100000<=j0->gJ h j0 args fin->∀i k id g,bU w args fin vs i g->bU w args fin vs k g->tS h (j0+i) id->tS h (j0+k) id->i=k:=by
 have small:∀(args:List Arg) (fin:List Fin) (w:World) (vs:List Value) (j0:Nat),gJ h j0 args fin->∀i g id,bU w args fin vs i g->iO (h (j0+i)) id=true->id < 100000/\Dy args=false/\(∀m,i=m+1->∀x xs,args=x::xs->Dy xs=false):=by
  intro args
  induction args with
  | nil=>intro fin w vs j0 _ i g id hg;exact hg.elim
  | cons x args ih=>
   intro fin w vs j0 hq i g id hg hi
   cases vs with
   | nil=>cases fin <;> exact hg.elim
   | cons v vs=>
    cases hx:x.handed with
    | false=>
     cases x with
     | pv y=>
      cases i with
      | zero=>exact hg.elim
      | succ i=>
       obtain⟨h1,h2,_⟩:=ih fin w vs (j0+1) hq i g id hg (by rw[show j0+1+i=j0+(i+1) by omega];exact hi)
       exact⟨h1,h2,fun m hm x xs he=>by injection he with _ he;rw[<-he];exact h2⟩
     | row=>cases hx
     | map=>cases hx
     | box=>cases hx
     | aC=>cases hx
    | true=>
     cases fin with
     | nil=>cases x <;> first | (cases hx;done) | exact hg.elim
     | cons f fin=>
      cases i with
      | succ i=>
       have kg:bU w args fin vs i g:=by cases x <;> first | (cases hx;done) | exact hg
       obtain⟨h1,h2,_⟩:=ih fin w vs (j0+1) (lO hx hq) i g id kg (by rw[show j0+1+i=j0+(i+1) by omega];exact hi)
       exact⟨h1,by cases x <;> first | exact h2 | rfl,fun m hm x xs he=>by injection he with _ he;rw[<-he];exact h2⟩
      | zero=>
       have hf:f.kept=true:=by cases x <;> first | (cases hx;done) | exact hg.1
       have hi:iO (h j0) id=true:=hi
       cases x with
       | pv y=>cases hx
       | row e es=>cases f <;> first | (cases hf;done) | exact hq.elim | (rw[hq.1] at hi;cases hi)
       | map mk es=>cases f <;> first | (cases hf;done) | exact hq.elim | (rw[hq.1] at hi;cases hi)
       | box ys=>
        cases f with
        | gone=>cases hf
        | row bW=>exact hq.elim
        | map bW=>exact hq.elim
        | aC bW=>exact hq.elim
        | box cs=>
         obtain⟨jN,oW⟩:=hq
         split at jN
         ·rename_i bs hb
          rw[hb] at hi
          obtain⟨k5,k6⟩:=en jN
          obtain⟨n,hn⟩:=List.mem_iff_getElem?.1 (eP.1 (ib.1 hi))
          obtain⟨y,hy⟩:∃y,cs[n]?=some y:=⟨_,List.getElem?_eq_getElem (by rw[<-k5];exact ao hn)⟩
          have:=k6 n _ y hn hy
          rcases this with h | h
          ·cases h
          cases h.1
         exact jN.elim
       | aC ys=>
        cases f with
        | gone=>cases hf
        | row bW=>exact hq.elim
        | map bW=>exact hq.elim
        | box bW=>exact hq.elim
        | aC cs=>
         obtain⟨jN,oW⟩:=hq
         split at jN
         ·rename_i bs hb
          rw[hb] at hi;cases hi
         ·rename_i bs hb
          rw[hb] at hi
          simp only[Bool.and_eq_true] at jN
          exact⟨jM jN.1.1 (ib.1 hi),rfl,fun m hm=>by omega⟩
         exact jN.elim
 have later:∀(args:List Arg) (fin:List Fin) (w:World) (vs:List Value) (j0:Nat),gJ h j0 args fin->∀i k g g' id,bU w args fin vs i g->bU w args fin vs k g'->iO (h (j0+i)) id=true->iO (h (j0+k)) id=true->i < k->False:=by
  intro args
  induction args with
  | nil=>intro fin w vs j0 _ i k g g' id hg;exact hg.elim
  | cons x args ih=>
   intro fin w vs j0 hq i k g g' id hg kg hi hk dS
   cases vs with
   | nil=>cases fin <;> exact hg.elim
   | cons v vs=>
    obtain⟨k,rfl⟩:∃m,k=m+1:=⟨k - 1,by omega⟩
    cases hx:x.handed with
    | false=>
     cases x with
     | pv y=>
      cases i with
      | zero=>exact hg.elim
      | succ i=>exact ih fin w vs (j0+1) hq i k g g' id hg kg (by rw[show j0+1+i=j0+(i+1) by omega];exact hi) (by rw[show j0+1+k=j0+(k+1) by omega];exact hk) (by omega)
     | row=>cases hx
     | map=>cases hx
     | box=>cases hx
     | aC=>cases hx
    | true=>
     cases fin with
     | nil=>cases x <;> first | (cases hx;done) | exact hg.elim
     | cons f fin=>
      have Mf:bU w args fin vs k g':=by cases x <;> first | (cases hx;done) | exact kg
      cases i with
      | succ i=>
       have Qw:bU w args fin vs i g:=by cases x <;> first | (cases hx;done) | exact hg
       exact ih fin w vs (j0+1) (lO hx hq) i k g g' id Qw Mf (by rw[show j0+1+i=j0+(i+1) by omega];exact hi) (by rw[show j0+1+k=j0+(k+1) by omega];exact hk) (by omega)
      | zero=>
       have h2:=(small args fin w vs (j0+1) (lO hx hq) k g' id Mf (by rw[show j0+1+k=j0+(k+1) by omega];exact hk)).2.1
       have hf:f.kept=true:=by cases x <;> first | (cases hx;done) | exact hg.1
       have hi:iO (h j0) id=true:=hi
       have h3:=small (x::args) (f::fin) w (v::vs) j0 hq 0 g id hg hi
       cases x with
       | pv y=>cases hx
       | row e es=>cases f <;> first | (cases hf;done) | exact hq.elim | (rw[hq.1] at hi;cases hi)
       | map mk es=>cases f <;> first | (cases hf;done) | exact hq.elim | (rw[hq.1] at hi;cases hi)
       | box ys=>exact (by
         have:Dy (.box ys::args)=false:=h3.2.1
         cases f with
         | gone=>cases hf
         | row bW=>exact hq.elim
         | map bW=>exact hq.elim
         | aC bW=>exact hq.elim
         | box cs=>
          obtain⟨jN,oW⟩:=hq
          split at jN
          ·rename_i bs hb
           rw[hb] at hi
           obtain⟨k5,k6⟩:=en jN
           obtain⟨n,hn⟩:=List.mem_iff_getElem?.1 (eP.1 (ib.1 hi))
           obtain⟨y,hy⟩:∃y,cs[n]?=some y:=⟨_,List.getElem?_eq_getElem (by rw[<-k5];exact ao hn)⟩
           rcases k6 n _ y hn hy with h | h
           ·cases h
           cases h.1
          exact jN.elim)
       | aC ys=>
        cases f with
        | gone=>cases hf
        | row bW=>exact hq.elim
        | map bW=>exact hq.elim
        | box bW=>exact hq.elim
        | aC cs=>
         obtain⟨jN,oW⟩:=hq
         split at jN
         ·rename_i bs hb
          rw[hb] at hi;cases hi
         ·rename_i bs hb
          simp only[Bool.and_eq_true] at jN
          rw[jN.1.2] at h2
          cases h2
         exact jN.elim
 intro args fin w vs j0 hj hq i k id g hi hk ki kk
 rcases ki with ki | ki <;> rcases kk with kk | kk
 ·omega
 ·have:=(small args fin w vs j0 hq k g id hk kk).1;omega
 ·have:=(small args fin w vs j0 hq i g id hi ki).1;omega
 rcases Nat.lt_trichotomy i k with h | h | h
 ·exact (later args fin w vs j0 hq i k g g id hi hk ki kk h).elim
 ·exact h
 exact (later args fin w vs j0 hq k i g g id hk hi kk ki h).elim
theorem aw.front {P:Program} {S:Nat->Prop} {w:World} {e:TypeId} {xs:List (List PV)} {v u:Value} {a:Option Addr} {n c hi:Nat} (h:aw P w (az S w) e xs v) (hv:v=.slice a n c) (hn:hi<=n) (hu:u=.slice a hi c):aw P w (az S w) e (xs.take hi) u:=by
 obtain⟨i,ys,h1,h2,h3,h4,h5,h6⟩:=h
 have hF:Flat S w i.size xs ys:=⟨h3.1,h4,h5,h6⟩
 have Mi:n=xs.length:=by
  rcases h3.2 with⟨g1,g2⟩ | ⟨g,cap,cur,g1,_⟩
  ·rw[hv] at g1;injection g1 with _ g1 _;omega
  rw[hv] at g1;injection g1
 subst Mi
 have CQ:=hF.take hi hn
 have hl:(xs.take hi).length=hi:=by rw[List.length_take];omega
 refine aw.of_flat h1 h2 ?_ CQ
 refine⟨CQ.len,?_⟩
 rw[hl,hu]
 rcases h3.2 with⟨g1,g2⟩ | ⟨g,cap,cur,g1,g2,g3,g4,g5,g6,g7⟩
 ·rw[hv] at g1
  injection g1 with g1 _ g3
  exact .inl ⟨by rw[g1,g3];congr 1;omega,by omega⟩
 rw[hv] at g1
 injection g1 with g1 _ g8
 refine .inr ⟨g,cap,cur,by rw[g1,g8],g2,g3,by omega,g5,g6,?_⟩
 rw[<-g7,List.take_take,Nat.min_eq_left (Nat.mul_le_mul_right _ hn)]
theorem rF (args:List Arg) (j:Nat):kM args (100000+j)=match args[j]? with
  | some x=>G1 x
  | none=>.none:=by
 have h1:Nat.ble 100000 (100000+j)=true:=Nat.ble_eq_true_of_le (by omega)
 have h2:100000+j - 100000=j:=by omega
 simp only[kM,h1,h2]
theorem wP (args:List Arg) (k:Nat) (h:k < 100000):kM args k=.none:=by
 have h1:Nat.ble 100000 k=false:=by
  rw[Bool.eq_false_iff]
  intro h2
  have:=Nat.le_of_ble_eq_true h2
  omega
 simp only[kM,h1]
theorem DB {C:Ctx} {S:Nat->Prop} {w:World} {args:List Arg} {vs:Array Value} (m:Nat) (hm:vs.size+m<=100000) (hE:C.E S w) (hS:∀b,S b->b < w.heap.size) (hl:args.length=vs.size) (hrep:∀(j:Nat) x v,args[j]?=some x->vs[j]?=some v->yp S w C.P x v)
  (hdis:∀(i j:Nat) x y v u g,args[i]?=some x->args[j]?=some y->vs[i]?=some v->vs[j]?=some u->x.handed=true->y.handed=true->hasB w (uz x) v g->hasB w (uz y) u g->i=j):
  bd ⟨C,w,Mv w args vs,S,vs.size+m,fun k=>vs.getD (k - 100000) undef⟩ bA bA S (fun k=>vs.getD (k - 100000) undef) ⟨tR args,kM args⟩ { tmps:=vs++Array.replicate m undef,defers:=[] } w:=by
 have uH:∀j v,vs[j]?=some v->vs.getD j undef=v:=fun j v h=>by rw[Array.getD_eq_getD_getElem?,h];rfl
 have gG:∀j,vs.getD (100000+j - 100000) undef=vs.getD j undef:=fun j=>by rw[Nat.add_sub_cancel_left]
 have at_:∀j x,args[j]?=some x->∃v,vs[j]?=some v/\vs.getD j undef=v:=fun j x h=>by
  obtain⟨v,hv⟩:=fP hl (ao h)
  exact⟨v,hv,uH j v hv⟩
 have live:∀k,(kM args k).live->∃j x v,k=100000+j/\args[j]?=some x/\vs[j]?=some v/\vs.getD (k - 100000) undef=v/\x.handed=true:=by
  intro k hk
  by_cases dS:k < 100000
  ·rw[wP _ _ dS] at hk;exact hk.elim
  obtain⟨j,rfl⟩:∃j,k=100000+j:=⟨k - 100000,by omega⟩
  rw[rF] at hk
  cases h:args[j]? with
  | none=>rw[h] at hk;exact hk.elim
  | some x=>
   rw[h] at hk
   obtain⟨v,h1,h2⟩:=at_ j x h
   refine⟨j,x,v,rfl,h,h1,by rw[gG];exact h2,?_⟩
   cases x with
   | pv y=>exact hk.elim
   | row=>rfl
   | map=>rfl
   | box=>rfl
   | aC=>rfl
 have Nz:∀(j:Nat) (x:Arg) (v:Value) (g:Nat),args[j]?=some x->vs[j]?=some v->x.handed=true->hasB w (uz x) v g->g < w.heap.size/\¬S g:=by
  intro j x v g h1 h2 h3 h4
  have:=hrep j x v h1 h2
  cases x with
  | pv y=>cases h3
  | map mk es=>
   have h4:=aq rfl h4
   obtain⟨⟨g',ms,cl,rfl,k2,_⟩,hn⟩:=this
   have wh:=h4
   injection h4 with h4
   subst h4
   exact⟨(Array.getElem?_eq_some_iff.1 k2).1,hn _ wh⟩
  | row e es=>
   have h4:=aq rfl h4
   obtain⟨⟨i,xs,_,_,ho,_⟩,hn⟩:=this
   exact⟨(ho.lt g (by rw[cU (cC ho).choose_spec.choose_spec];exact h4)).2,hn g h4⟩
  | box cs=>
   have h4:=aq rfl h4
   obtain⟨g',ty,c,rfl,k2,_,k4,_⟩:=this
   injection h4 with h4
   subst h4
   exact⟨(Array.getElem?_eq_some_iff.1 k2).1,k4⟩
  | aC cs=>
   obtain⟨g',ty,c,_,_,k⟩:=this
   exact⟨(k g h4).2,(k g h4).1⟩
 have o6:∀(j:Nat) (x:Arg) (v:Value) (g:Nat),args[j]?=some x->x.handed=true->(hasB w (kM args (100000+j)) v g↔hasB w (uz x) v g):=by
  intro j x v g h1 h2
  rw[rF,h1]
  cases x with
  | pv y=>cases h2
  | row e es=>exact⟨fun h=>.inl (aq rfl h),fun h=>.inl (aq rfl h)⟩
  | map mk es=>exact⟨fun h=>.inl (aq rfl h),fun h=>.inl (aq rfl h)⟩
  | box cs=>exact⟨fun h=>.inl (aq rfl h),fun h=>.inl (aq rfl h)⟩
  | aC cs=>exact Iff.rfl
 exact
 {tm:=fun j _=>by
   show aI _ _ _ _ _ _ (tR args j) ((vs++Array.replicate m undef).getD j undef)
   unfold tR
   cases h:args[j]? with
   | none=>exact .junk _
   | some x=>
    obtain⟨v,h1,h2⟩:=at_ j x h
    have hj:j < vs.size:=by rw[<-hl];exact ao h
    have h3:(vs++Array.replicate m undef).getD j undef=v:=by
     rw[Array.getD_eq_getD_getElem?,Array.getElem?_append_left hj,h1];rfl
    rw[h3]
    have hr:=hrep j x v h h1
    cases x with
    | pv y=>exact .p _ _ hr
    | row e es=>exact .ow _ v fun _=>⟨trivial,by rw[gG];exact h2.symm⟩
    | map mk es=>exact .ow _ v fun _=>⟨trivial,by rw[gG];exact h2.symm⟩
    | box cs=>
     obtain⟨g,ty,c,e1,_⟩:=hr
     exact .bx _ 0 v fun _=>⟨trivial,g,by rw[gG,h2];exact e1,e1⟩
    | aC cs=>
     obtain⟨g,ty,c,e1,_⟩:=hr
     exact .bx _ 0 v fun _=>⟨trivial,g,by rw[gG,h2];exact e1,e1⟩
  sz:=by simp
  df:=rfl,nb:=hm,pn:=fun _ _=>rfl,ev:=hE,s0:=fun _ h=>h,st:=hS,sb:=fun b h=>.inl h
  hp:=fun k _=>by
   show cZ _ _ _ _ _ _ k (kM args k)
   by_cases dS:k < 100000
   ·rw[wP _ _ dS];trivial
   obtain⟨j,rfl⟩:∃j,k=100000+j:=⟨k - 100000,by omega⟩
   rw[rF]
   cases h:args[j]? with
   | none=>trivial
   | some x=>
    obtain⟨v,h1,h2⟩:=at_ j x h
    have hr:=hrep j x v h h1
    cases x with
    | pv y=>trivial
    | row e es=>show aw _ _ _ _ _ (vs.getD (100000+j - 100000) undef);rw[gG,h2];exact hr.1
    | map mk es=>show uy _ _ _ _ (vs.getD (100000+j - 100000) undef);rw[gG,h2];exact hr.1
    | box cs=>
     obtain⟨g,ty,c,e1,e2,e3,e4,e5⟩:=hr
     refine⟨g,ty,c,by simp only;rw[gG,h2];exact e1,e2,by simpa using e3,fun i x u hi hu=>?_⟩
     rw[List.getElem?_map] at hi
     obtain⟨z,hz,rfl⟩:=Option.map_eq_some_iff.1 hi
     exact⟨(e5 i z u hz hu).1,.p _ _ (e5 i z u hz hu).2⟩
    | aC cs=>
     obtain⟨g,ty,c,e1,e2,_⟩:=hr
     exact⟨g,ty,c,by simp only;rw[gG,h2];exact e1,e2⟩
  dj:=fun i j g _ _ li lj hi hj=>by
   obtain⟨i',x,v,e1,h1,h2,h3,h4⟩:=live i li
   obtain⟨j',y,u,e2,k1,k2,k3,k4⟩:=live j lj
   have:=hdis i' j' x y v u g h1 k1 h2 k2 h4 k4 (by rw[<-o6 i' x v g h1 h4,<-e1,<-h3];exact hi) (by rw[<-o6 j' y u g k1 k4,<-e2,<-k3];exact hj)
   omega
  lv:=fun k g _ lk hk=>by
   obtain⟨j,x,v,e1,h1,h2,h3,h4⟩:=live k lk
   have BD:hasB w (uz x) v g:=by rw[<-o6 j x v g h1 h4,<-e1,<-h3];exact hk
   obtain⟨h5,h6⟩:=Nz j x v g h1 h2 h4 BD
   exact⟨h5,h6,.inl ⟨j,x,v,h1,h2,h4,BD⟩⟩
  fr:=Fr.refl _ _ }
theorem wQ {P:Program} {fn:Func} {tmps:Array Value} {w:World} {vs:List Value} (h:(fn.results.toList.mapM (wO tmps)).run P w=.ok vs w):
  (results fn tmps).run P w=.ok (if h:vs.toArray.size=1 then vs.toArray[0] else .tuple vs.toArray) w:=by
 have e:results fn tmps=(do let vs <-fn.results.mapM (wO tmps);pure (if h:vs.size=1 then vs[0] else .tuple vs)):=by
  unfold results wO
  rfl
 rw[e,<-Array.toArray_toList (xs:=fn.results),List.mapM_toArray,Sem.run_bind]
 have:(Functor.map List.toArray (fn.results.toList.mapM (wO tmps))).run P w=.ok vs.toArray w:=by
  rw[map_eq_pure_bind,Sem.run_bind,h]
  rfl
 rw[this]
 rfl
theorem Ii {C : Ctx} (hC : a8 C) {f : FuncId} {fn : Func} {c : Code} (hf : C.P.funcs[f]? = some fn) (hb : fn.body = some c) (ko : (fn.name == "runtime.NumGoroutine") = false) {args : List Arg} {r : AR} {fin : List Fin} (hn : args.length + (fn.ntmps - args.length) ≤ 100000)
  (h:∀A:bE,A.C=C->A.n=args.length+(fn.ntmps - args.length)->W A c (FH C fn.results.toList args r fin) ⟨tR args,kM args⟩):af C f args r fin:=by
 refine⟨⟨fn,hf,ko,by rw[hb];rfl⟩,fun S w vs hE hS hl hrep hdis=>?_⟩
 have sim:=DB (fn.ntmps - vs.size) (by rw[<-hl];exact hn) hE hS hl hrep hdis
 refine calls_of_wp hf hb ?_
 have hw:=h ⟨C,w,Mv w args vs,S,vs.size+(fn.ntmps - vs.size),fun k=>vs.getD (k - 100000) undef⟩ rfl (by rw[hl])
 refine wp_mono (hw S _ _ w sim) fun e a' w' hq=>?_
 obtain⟨S',rho',s',bc,hk⟩:=hq
 have Dm:FG C fn.results.toList args r fin s'->a'.defers=[]/\∃v,(results fn a'.tmps).run C.P w'=.ok v w'/\∃v0 S',Ending.returned v=.returned v0/\Fr (Mv w args vs) w w'/\(∀b,S b->S' b)/\(∀b,S' b->b < w'.heap.size)/\(∀b,S' b->S b\/w.heap.size<=b\/Mv w args vs b)/\
   CV S' w' C.P r v0/\dT S' w' C.P args fin vs.toList/\nA w w' args fin vs/\(∀g,r.owns=true->hasB w' r.ab v0 g->g < w'.heap.size/\(w.heap.size<=g\/Mv w args vs g)/\∀i,¬bU w' args fin vs.toList i g):=by
  intro hk
  refine⟨bc.df,?_⟩
  obtain⟨fL,us,hk,h1,h2,h3,h4⟩:=yW (A:=⟨C,w,Mv w args vs,S,vs.size+(fn.ntmps - vs.size),fun k=>vs.getD (k - 100000) undef⟩) hC bc fn.results.toList hk
  have hrun:=wQ h2
  have yj:args.length=vs.toList.length:=by simpa using hl
  have NA:∀(S2:Nat->Prop) (h2:Nat->AB),bd ⟨C,w,Mv w args vs,S,vs.size+(fn.ntmps - vs.size),fun k=>vs.getD (k - 100000) undef⟩ bA bA S2 rho' ⟨s'.t,h2⟩ a' w'->∀i u,vs.toList[i]?=some u->(∃x,args[i]?=some x/\x.handed=true)->u=rho' (100000+i):=fun S2 h2 aP i u hu _=>by
   rw[aP.pn (100000+i) (by omega)]
   have mV:vs[i]?=some u:=by simpa using hu
   show u=vs.getD (100000+i - 100000) undef
   rw[Nat.add_sub_cancel_left,Array.getD_eq_getD_getElem?,mV]
   rfl
  have fk:∀(S2:Nat->Prop) (h2:Nat->AB),bd ⟨C,w,Mv w args vs,S,vs.size+(fn.ntmps - vs.size),fun k=>vs.getD (k - 100000) undef⟩ bA bA S2 rho' ⟨s'.t,h2⟩ a' w'->gJ h2 100000 args fin->dT S2 w' C.P args fin vs.toList/\(∀i g,bU w' args fin vs.toList i g->∃id,tS h2 (100000+i) id/\(h2 id).live/\hasB w' (h2 id) (rho' id) g/\ic h2 100000 args fin id=true)/\nA w w' args fin vs:=by
   intro S2 h2 aP dK
   obtain⟨r1,r2⟩:=DA aP args fin vs.toList 100000 yj (NA S2 h2 aP) dK
   refine⟨r1,r2,fun i g hg=>?_,fun i j g hi hj=>?_⟩
   ·obtain⟨id,_,q2,q3,_⟩:=r2 i g hg
    obtain⟨p1,_,p3⟩:=aP.lv id g trivial q2 q3
    exact⟨p1,p3.symm⟩
   obtain⟨id,q1,q2,q3,_⟩:=r2 i g hi
   obtain⟨s5,p1,p2,p3,_⟩:=r2 j g hj
   have:=aP.dj id s5 g trivial trivial q2 p2 q3 p3
   subst this
   exact B8 args fin w' vs.toList 100000 (Nat.le_refl _) dK i j id g hi hj q1 p1
  have outer:∀(S2:Nat->Prop) (h2:Nat->AB) (v:Value),bd ⟨C,w,Mv w args vs,S,vs.size+(fn.ntmps - vs.size),fun k=>vs.getD (k - 100000) undef⟩ bA bA S2 rho' ⟨s'.t,h2⟩ a' w'->(results fn a'.tmps).run C.P w'=.ok v w'->CV S2 w' C.P r v->gJ h2 100000 args fin->(∀g,r.owns=true->hasB w' r.ab v g->g < w'.heap.size/\(w.heap.size<=g\/Mv w args vs g)/\∀i,¬bU w' args fin vs.toList i g)->
    ∃v,(results fn a'.tmps).run C.P w'=.ok v w'/\∃v0 S',Ending.returned v=.returned v0/\Fr (Mv w args vs) w w'/\(∀b,S b->S' b)/\(∀b,S' b->b < w'.heap.size)/\(∀b,S' b->S b\/w.heap.size<=b\/Mv w args vs b)/\
   CV S' w' C.P r v0/\dT S' w' C.P args fin vs.toList/\nA w w' args fin vs/\(∀g,r.owns=true->hasB w' r.ab v0 g->g < w'.heap.size/\(w.heap.size<=g\/Mv w args vs g)/\∀i,¬bU w' args fin vs.toList i g):=by
   intro S2 h2 v aP hr Ky dK hown
   refine⟨v,hr,v,S2,rfl,aP.fr,aP.s0,aP.st,fun b hb=>?_,Ky,(fk S2 h2 aP dK).1,(fk S2 h2 aP dK).2.2,hown⟩
   rcases aP.sb b hb with h | h | h
   ·exact .inl h
   ·exact .inr (.inr h)
   exact .inr (.inl h)
  cases r with
  | own e es=>
   simp only at hk
   split at hk
   ·rename_i av
    obtain⟨u,rfl⟩:∃u,us=[u]:=by
     match us,h1 with
     | [u],_=>exact⟨u,rfl⟩
    have rG:(results fn a'.tmps).run C.P w'=.ok u w':=hrun
    split at hk
    ·rename_i i
     obtain⟨k1,k2,k3⟩:=hk
     have hu:=h4 S' s'.h (fun _ h=>h) bc 0 _ u rfl rfl
     obtain⟨_,hv⟩:=hu.bF (by rw[k1];trivial)
     have hh:=bc.hp i trivial
     rw[k1] at hh
     have ba:(s'.h i).live:=by rw[k1];trivial
     refine outer S' s'.h u bc rG ⟨by rw[hv];exact hh,fun g hg=>(bc.kE i g trivial ba (by rw[<-hv];exact hg)).2.1⟩ k3 fun g _ Kz=>?_
     have hg:br u=some g:=aq rfl Kz
     have kg:br (rho' i)=some g:=by rw[<-hv];exact hg
     obtain⟨l1,l2,l3⟩:=bc.kE i g trivial ba kg
     refine⟨l1,l3.symm,fun n KA=>?_⟩
     obtain⟨i',_,m1,m2,m3⟩:=(fk S' s'.h bc k3).2.1 n g KA
     have:=bc.dj i i' g trivial trivial ba m1 (.inl kg) m2
     subst this
     rw[k2] at m3
     cases m3
    ·rename_i i lo hi
     have Qx:lo=0/\∃xs,s'.h i=.row e xs/\es=xs.take hi/\ic s'.h 100000 args fin i=false/\gJ s'.h 100000 args fin:=by
      cases lo with
      | succ n=>exact hk.elim
      | zero=>
       cases hr:s'.h i with
       | row e' xs=>
        rw[hr] at hk
        simp only at hk
        split at hk
        ·rename_i qy
         rw[aL.1 qy]
         exact⟨rfl,xs,rfl,hk⟩
        exact hk.elim
       | _=>rw[hr] at hk;exact hk.elim
     obtain⟨rfl,xs,an,k1,k2,k3⟩:=Qx
     have hu:=h4 S' s'.h (fun _ h=>h) bc 0 _ u rfl rfl
     obtain⟨_,n,cp,ad,ti,q1,q2,_,q3,q4,hv⟩:=hu.uD an
     have hh:=bc.hp i trivial
     rw[an] at hh
     have hh:aw C.P w' (az S' w') e xs (rho' i):=hh
     have ba:(s'.h i).live:=by rw[an];trivial
     have hblk:∀g,br u=some g->br (rho' i)=some g:=by
      intro g hg
      rw[hv] at hg
      rw[q1]
      split at hg
      ·cases ad <;> exact hg
      cases ad with
      | none=>cases hg
      | some a0=>
       simp only[Option.map_some,Nat.zero_mul,Addr.add,if_pos] at hg
       exact hg
     refine outer S' s'.h u bc rG ⟨?_,fun g hg=>(bc.kE i g trivial ba (hblk g hg)).2.1⟩ k3 fun g _ Kz=>?_
     ·rw[k1]
      exact aw.front hh q1 q3 (by rw[hv];simp[Addr.add])
     have hg:br u=some g:=aq rfl Kz
     obtain⟨l1,l2,l3⟩:=bc.kE i g trivial ba (hblk g hg)
     refine⟨l1,l3.symm,fun n KA=>?_⟩
     obtain⟨i',_,m1,m2,m3⟩:=(fk S' s'.h bc k3).2.1 n g KA
     have:=bc.dj i i' g trivial trivial ba m1 (.inl (hblk g hg)) m2
     subst this
     rw[k2] at m3
     cases m3
    ·split at hk
     case h_2=>exact hk.elim
     rename_i ti hT
     split at hk
     case h_2=>exact hk.elim
     rename_i hpos
     obtain⟨k1,k3⟩:=hk
     subst k1
     obtain⟨info,z,g1,g2,_⟩:=hC.eK e ti hT
     have hu:=h4 S' s'.h (fun _ h=>h) bc 0 _ u rfl rfl
     have mV:u=.slice none 0 0:=by cases hu;rfl
     subst mV
     exact outer S' s'.h _ bc rG ⟨⟨info,[],g1,by have:=Nat.le_of_ble_eq_true hpos;omega,World.ownsRow_nil _ _ _ _,by simp,by simp,by simp⟩,fun g hg=>by cases hg⟩ k3 fun g _ hg=>by cases aq rfl hg
    exact hk.elim
   exact hk.elim
  | hown cs=>
   simp only at hk
   split at hk
   ·rename_i av
    obtain⟨u,rfl⟩:∃u,us=[u]:=by
     match us,h1 with
     | [u],_=>exact⟨u,rfl⟩
    have rG:(results fn a'.tmps).run C.P w'=.ok u w':=hrun
    split at hk
    ·rename_i i off
     cases off with
     | succ n=>exact hk.elim
     | zero=>
      obtain⟨k1,k2,k3⟩:=hk
      have hu:=h4 S' s'.h (fun _ h=>h) bc 0 _ u rfl rfl
      obtain⟨_,g0,Kz,hv⟩:=hu.eY (by rw[k1];trivial)
      have Ph:u=rho' i:=by rw[hv,Kz]
      have hh:=bc.hp i trivial
      rw[k1] at hh
      obtain⟨g1,ty,c,e1,e2⟩:=hh
      have ba:(s'.h i).live:=by rw[k1];trivial
      have Ij:∀k,hasB w' (.aC cs) u k->hasB w' (s'.h i) (rho' i) k:=fun k hk=>by rw[k1,<-Ph];exact hk
      refine outer S' s'.h u bc rG ⟨g1,ty,c,by rw[Ph];exact e1,e2,fun k hk=>(bc.lv i k trivial ba (Ij k hk)).2.1⟩ k3 fun g _ hg=>?_
      have kg:=Ij g hg
      obtain⟨l1,l2,l3⟩:=bc.lv i g trivial ba kg
      refine⟨l1,l3.symm,fun n KA=>?_⟩
      obtain⟨i',_,m1,m2,m3⟩:=(fk S' s'.h bc k3).2.1 n g KA
      have:=bc.dj i i' g trivial trivial ba m1 kg m2
      subst this
      rw[k2] at m3
      cases m3
    exact hk.elim
   exact hk.elim
  | p x=>
   simp only at hk
   split at hk
   ·rename_i av
    obtain⟨u,rfl⟩:∃u,us=[u]:=by
     match us,h1 with
     | [u],_=>exact⟨u,rfl⟩
    have rG:(results fn a'.tmps).run C.P w'=.ok u w':=hrun
    obtain⟨y,fz,S2,⟨rfl,dK⟩,aP,hp,uF,_,_⟩:=eM hC (s:=⟨s'.t,s'.h⟩) bc (kv.refl s'.h) (h4 S' s'.h (fun _ h=>h) bc 0 _ u rfl rfl) hk
    exact outer S2 _ u aP rG hp dK (fun g h=>by cases h)
   exact hk.elim
  | tu xs=>
   simp only at hk
   split at hk
   ·exact hk.elim
   rename_i bG
   obtain⟨ys,h',S2,⟨rfl,dK⟩,aP,uF,hlen,hp⟩:=yX hC fL us S' s'.h h1 bc (fun S2 h2 hS aP=>h4 S2 h2 hS aP) hk
   have Qy:us.toArray.size≠1:=by
    intro e
    have e1:us.length=1:=by simpa using e
    obtain⟨q,hq⟩:=List.length_eq_one_iff.1 (h1.trans e1)
    exact bG q hq
   rw[dif_neg Qy] at hrun
   refine outer S2 h' _ aP hrun ⟨us.toArray,rfl,by simpa using hlen,fun i x u hx hu=>hp i x u hx (by simpa using hu)⟩ dK (fun g h=>by cases h)
 cases e with
 | normal=>exact Dm hk
 | ret=>exact Dm hk
 | exit id=>exact hk.elim
 | goto l=>exact hk.elim
 | panic c=>exact hk.elim
 | outgrown=>exact hk.elim
end Go.AM
