/- Part 2 of 14 of the proof of RulesHarderBreakMore (the names are shortened by a program: the size of a claim is limited). -/
import Derived.Test.YtpbkimanfahbgaaGreatDoorH01
set_option linter.unusedVariables false
set_option linter.unusedSimpArgs false
set_option maxRecDepth 100000
set_option maxHeartbeats 8000000
namespace Go.AM
open Go.RowKit
theorem oF {S S':Nat->Prop} {w w':World} {x:PV} {v:Value} (h:Gj x=true) (hx:bu S w x v):bu S' w' x v:=by
 cases hx with
 | im=>exact .im _
 | ag cs vs hl h1 hc=>
  refine .ag cs vs hl h1 fun i c v hi hv=>?_
  have hm:=List.mem_of_getElem? hi
  have:=List.all_eq_true.1 h c hm
  have T_:=hc i c v hi hv
  cases c with
  | im y=>cases T_;exact .im _
  | _=>cases this
 | nil=>cases h
 | sl=>cases h
 | ip=>cases h
 | fn=>cases h
theorem cu.grow {A:cV} {V L S:Nat->Prop} {rho:Nat->Value} {s:AS} {a:Act} {w:World} (sim:cu A V L S rho s a w) (hC:bV A.C) (w':World) (hf:Fr (fun _=>False) w w'):cu A V L S rho s a w':=by
 have iW:∀b,S b->w'.heap[b]?=w.heap[b]?:=fun k hk=>hf.block k (sim.st k hk) (fun h=>h)
 have T:jx S S w w' L L rho rho s.h s.h:=⟨fun b h=>h,iW,fun j hj=>⟨hj,fun hl=>⟨hl,rfl⟩⟩,fun j e' hj=>hj⟩
 exact
 {tm:=fun j hj=>(sim.tm j hj).lz T
  sz:=sim.sz,df:=sim.df,nb:=sim.nb,pn:=sim.pn
  ev:=hC.env _ _ _ _ sim.ev (fun b h=>h) iW hf.size
  s0:=sim.s0
  st:=fun b hb=>Nat.lt_of_lt_of_le (sim.st b hb) hf.size
  sb:=sim.sb
  hp:=fun j hj=>(sim.hp j hj).lz T (fun li g hg=>hf.block g (sim.lv j g hj li hg).1 (fun h=>h)) (fun _=>rfl)
  dj:=fun i j g hi hj li lj eR iC=>sim.dj i j g hi hj li lj (dC (fun k hk=>hf.block k (sim.nG i k hi li hk).1 (fun h=>h)) eR) (dC (fun k hk=>hf.block k (sim.nG j k hj lj hk).1 (fun h=>h)) iC)
  lv:=fun i g hi li hg=>by obtain⟨h1,h2⟩:=sim.lv i g hi li (dC (fun k hk=>hf.block k (sim.nG i k hi li hk).1 (fun h=>h)) hg);exact⟨Nat.lt_of_lt_of_le h1 hf.size,h2⟩
  fr:=sim.fr.next hf.os hf.tape hf.output hf.size fun k hk _=>hf.block k (Nat.lt_of_lt_of_le hk sim.fr.size) (fun h=>h) }
inductive fJ (L:Nat->Prop) (rho:Nat->Value) (h:Nat->AB):List Arg->List Value->List (Nat×AB)->Prop
 | nil:fJ L rho h [] [] []
 | pv (x:PV) (v:Value) {xs:List Arg} {vs:List Value} {ids:List (Nat×AB)} (hr:fJ L rho h xs vs ids):fJ L rho h (.pv x::xs) (v::vs) ids
 | row (id:Nat) (e:TypeId) (es:List (List PV)) {xs:List Arg} {vs:List Value} {ids:List (Nat×AB)} (hL:L id) (hid:h id=.row e es) (hr:fJ L rho h xs vs ids):fJ L rho h (.row e es::xs) (rho id::vs) ((id,.row e es)::ids)
 | box (id:Nat) (cs:List AV) (ys:List PV) {xs:List Arg} {vs:List Value} {ids:List (Nat×AB)} (hL:L id) (hid:h id=.box cs) (hy:dT cs=some ys) (hr:fJ L rho h xs vs ids):fJ L rho h (.box ys::xs) (rho id::vs) ((id,.box cs)::ids)
 | bb (id:Nat) (cs:List HC) {xs:List Arg} {vs:List Value} {ids:List (Nat×AB)} (hL:L id) (hid:h id=.bb cs) (hr:fJ L rho h xs vs ids):fJ L rho h (.bb cs::xs) (rho id::vs) ((id,.bb cs)::ids)
theorem EU {A:cV} (hC:bV A.C) {V L:Nat->Prop} {rho:Nat->Value} {t:Nat->AV} {a:Act} {w:World} {h:Nat->AB} {md:Nat->Bool}:
  ∀(iw:List AV) (vs:List Value) (j:Nat) (h':Nat->AB) (S:Nat->Prop) (K:List Arg->List (Nat×AB)->List (Nat×AB)->Prop),iw.length=vs.length->cu A V L S rho ⟨t,h'⟩ a w->Xd h h' ->
   (∀(S2:Nat->Prop) (h2:Nat->AB),cu A V L S2 rho ⟨t,h2⟩ a w->∀(i:Nat) x v,iw[i]?=some x->vs[i]?=some v->bF S2 w A.C.P L rho h2 x v)->
   (∀id,(h' id).there->(h id).there)->gj md h j iw K ->
  ∃xs ids fz S',K xs ids fz/\cu A V L S' rho ⟨t,app h' fz⟩ a w/\(∀b,S b->S' b)/\Xd h (app h' fz)/\(∀p∈fz,L p.1)/\xs.length=vs.length/\fJ L rho h xs vs ids/\(∀(i:Nat) x v,xs[i]?=some (.pv x)->vs[i]?=some v->bu S' w x v):=by
 intro iw
 induction iw with
 | nil=>
  intro vs j h' S K hl sim hF hrep _ hq
  have:vs=[]:=List.eq_nil_of_length_eq_zero hl.symm
  subst this
  exact⟨[],[],[],S,hq,sim,fun _ h=>h,hF,by simp,rfl,.nil,by simp⟩
 | cons x iw ih=>
  intro vs j h' S K hl sim hF hrep hth hq
  cases vs with
  | nil=>simp at hl
  | cons v vs=>
   simp only[List.length_cons,Nat.add_right_cancel_iff] at hl
   have hx:bF S w A.C.P L rho h' x v:=hrep S h' sim 0 x v rfl rfl
   have w9:∀(S2:Nat->Prop) (h2:Nat->AB),cu A V L S2 rho ⟨t,h2⟩ a w->∀(i:Nat) x v,iw[i]?=some x->vs[i]?=some v->bF S2 w A.C.P L rho h2 x v:=fun S2 h2 s2 i x v h3 h4=>hrep S2 h2 s2 (i+1) x v (by simpa using h3) (by simpa using h4)
   unfold gj at hq
   split at hq
   ·obtain⟨y,fz,S2,hq,bI,hp,xZ,F_,zK⟩:=gm hC sim hF hx hq
    have QH:∀id,(app h' fz id).there->(h id).there:=fun id ht=>by
     rcases F_ id with h1 | ⟨e',xs,h1,h2⟩ | ⟨cs,xs,h1,_,h2⟩
     ·rw[h1] at ht;exact ht
     ·rw[h1];trivial
     rw[h1];trivial
    obtain⟨xs,ids,W0,S',k1,k2,k3,k4,k5,k6,k7,k8⟩:=ih vs (j+1) (app h' fz) S2 _ hl bI F_ w9 QH hq
    refine⟨.pv y::xs,ids,fz++W0,S',k1,by rw[cJ];exact k2,fun b hb=>k3 b (xZ b hb),by rw[cJ];exact k4,fun p hp=>(List.mem_append.1 hp).elim (zK p) (k5 p),by simp[k6],.pv y v k7,fun i x u h3 h4=>?_⟩
    cases i with
    | zero=>simp at h3 h4;subst h3 h4;exact hp.mono k3 (fun _ _=>rfl)
    | succ i=>exact k8 i x u (by simpa using h3) (by simpa using h4)
   split at hq
   ·rename_i id
    split at hq
    ·rename_i e es aL
     obtain⟨xs,ids,W0,S',k1,k2,k3,k4,k5,k6,k7,k8⟩:=ih vs (j+1) h' S _ hl sim hF w9 hth hq
     have ht:(h' id).there:=by
      rcases hF id with h1 | ⟨e',xs,h1,h2⟩ | ⟨cs,xs,h1,_,h2⟩
      ·rw[h1,aL];trivial
      ·rw[h2];trivial
      rw[h2];trivial
     obtain⟨hL,rfl⟩:=hx.de ht
     refine⟨.row e es::xs,(id,.row e es)::ids,W0,S',k1,k2,k3,k4,k5,by simp[k6],.row id e es hL aL k7,fun i x u h3 h4=>?_⟩
     cases i with
     | zero=>simp at h3
     | succ i=>exact k8 i x u (by simpa using h3) (by simpa using h4)
    ·rename_i es KF
     obtain⟨xs,ids,W0,S',k1,k2,k3,k4,k5,k6,k7,k8⟩:=ih vs (j+1) h' S _ hl sim hF w9 hth hq
     have he:h' id=.iv es:=by
      rcases hF id with h1 | ⟨e',xs,h1,h2⟩ | ⟨cs,xs,h1,_,h2⟩
      ·rw[h1,KF]
      ·rw[KF] at h1;cases h1
      rw[KF] at h1;cases h1
     obtain⟨hL,rfl⟩:=hx.de (by rw[he];trivial)
     have hh:=sim.hp id hL
     have hh:eC S w A.C.P L rho h' id (h' id):=hh
     rw[he] at hh
     refine⟨.pv (.sl es)::xs,ids,W0,S',k1,k2,k3,k4,k5,by simp[k6],.pv _ _ k7,fun i x u h3 h4=>?_⟩
     cases i with
     | zero=>simp at h3 h4;subst h3 h4;exact bu.mono hh k3 (fun _ _=>rfl)
     | succ i=>exact k8 i x u (by simpa using h3) (by simpa using h4)
    exact hq.elim
   ·obtain⟨xs,ids,W0,S',k1,k2,k3,k4,k5,k6,k7,k8⟩:=ih vs (j+1) h' S _ hl sim hF w9 hth hq
    refine⟨.pv _::xs,ids,W0,S',k1,k2,k3,k4,k5,by simp[k6],.pv _ _ k7,fun i x u h3 h4=>?_⟩
    cases i with
    | zero=>simp at h3 h4;subst h3 h4;exact hx.fI.mono k3 (fun _ _=>rfl)
    | succ i=>exact k8 i x u (by simpa using h3) (by simpa using h4)
   ·rename_i id
    split at hq
    ·rename_i cs bb
     split at hq
     ·rename_i ys LJ
      obtain⟨xs,ids,W0,S',k1,k2,k3,k4,k5,k6,k7,k8⟩:=ih vs (j+1) h' S _ hl sim hF w9 hth hq
      have ht:(h' id).there:=by
       rcases hF id with h1 | ⟨e',xs,h1,h2⟩ | ⟨cs,xs,h1,_,h2⟩
       ·rw[h1,bb];trivial
       ·rw[h2];trivial
       rw[h2];trivial
      obtain⟨hL,g,hg,hv⟩:=hx.gH ht
      have B4:v=rho id:=by rw[hv,hg]
      subst B4
      refine⟨.box ys::xs,(id,.box cs)::ids,W0,S',k1,k2,k3,k4,k5,by simp[k6],.box id cs ys hL bb LJ k7,fun i x u h3 h4=>?_⟩
      cases i with
      | zero=>simp at h3
      | succ i=>exact k8 i x u (by simpa using h3) (by simpa using h4)
     exact hq.elim
    ·rename_i cs bb
     obtain⟨xs,ids,W0,S',k1,k2,k3,k4,k5,k6,k7,k8⟩:=ih vs (j+1) h' S _ hl sim hF w9 hth hq
     have ht:(h' id).there:=by
      rcases hF id with h1 | ⟨e',xs,h1,h2⟩ | ⟨cs,xs,h1,_,h2⟩
      ·rw[h1,bb];trivial
      ·rw[h2];trivial
      rw[h2];trivial
     obtain⟨hL,g,hg,hv⟩:=hx.gH ht
     have B4:v=rho id:=by rw[hv,hg]
     subst B4
     refine⟨.bb cs::xs,(id,.bb cs)::ids,W0,S',k1,k2,k3,k4,k5,by simp[k6],.bb id cs hL bb k7,fun i x u h3 h4=>?_⟩
     cases i with
     | zero=>simp at h3
     | succ i=>exact k8 i x u (by simpa using h3) (by simpa using h4)
    exact hq.elim
   exact hq.elim
theorem fJ.at {L:Nat->Prop} {rho:Nat->Value} {h:Nat->AB} {xs:List Arg} {vs:List Value} {ids:List (Nat×AB)} (H:fJ L rho h xs vs ids):∀(j:Nat) x v,xs[j]?=some x->vs[j]?=some v->x.handed=true->∃id b,(id,b)∈ids/\L id/\h id=b/\v=rho id/\((∃e es,x=.row e es/\b=.row e es)\/(∃cs ys,x=.box ys/\b=.box cs/\dT cs=some ys)\/∃cs,x=.bb cs/\b=.bb cs):=by
 induction H with
 | nil=>intro j x v h1;simp at h1
 | pv y u hr ih=>
  intro j x v h1 h2 h3
  cases j with
  | zero=>simp at h1;subst h1;cases h3
  | succ j=>exact ih j x v (by simpa using h1) (by simpa using h2) h3
 | row id e es hL hid hr ih=>
  intro j x v h1 h2 h3
  cases j with
  | zero=>simp at h1 h2;subst h1 h2;exact⟨id,_,by simp,hL,hid,rfl,.inl ⟨e,es,rfl,rfl⟩⟩
  | succ j=>obtain⟨i,b,m,r⟩:=ih j x v (by simpa using h1) (by simpa using h2) h3;exact⟨i,b,by simp[m],r⟩
 | box id cs ys hL hid hy hr ih=>
  intro j x v h1 h2 h3
  cases j with
  | zero=>simp at h1 h2;subst h1 h2;exact⟨id,_,by simp,hL,hid,rfl,.inr (.inl ⟨cs,ys,rfl,rfl,hy⟩)⟩
  | succ j=>obtain⟨i,b,m,r⟩:=ih j x v (by simpa using h1) (by simpa using h2) h3;exact⟨i,b,by simp[m],r⟩
 | bb id cs hL hid hr ih=>
  intro j x v h1 h2 h3
  cases j with
  | zero=>simp at h1 h2;subst h1 h2;exact⟨id,_,by simp,hL,hid,rfl,.inr (.inr ⟨cs,rfl,rfl⟩)⟩
  | succ j=>obtain⟨i,b,m,r⟩:=ih j x v (by simpa using h1) (by simpa using h2) h3;exact⟨i,b,by simp[m],r⟩
theorem fJ.back {L:Nat->Prop} {rho:Nat->Value} {h:Nat->AB} {xs:List Arg} {vs:List Value} {ids:List (Nat×AB)} (H:fJ L rho h xs vs ids):∀id b,(id,b)∈ids->L id/\h id=b/\b.live/\∃(j:Nat) (x:Arg),xs[j]?=some x/\vs[j]?=some (rho id)/\x.handed=true:=by
 induction H with
 | nil=>intro id b h;cases h
 | pv y u hr ih=>intro id b h;obtain⟨h1,h2,h3,j,x,h4⟩:=ih id b h;exact⟨h1,h2,h3,j+1,x,by simpa using h4⟩
 | row i e es hL hid hr ih=>
  intro id b h
  rcases List.mem_cons.1 h with h | h
  ·injection h with h1 h2;subst h1 h2;exact⟨hL,hid,trivial,0,_,rfl,rfl,rfl⟩
  obtain⟨h1,h2,h3,j,x,h4⟩:=ih id b h;exact⟨h1,h2,h3,j+1,x,by simpa using h4⟩
 | box i cs ys hL hid hy hr ih=>
  intro id b h
  rcases List.mem_cons.1 h with h | h
  ·injection h with h1 h2;subst h1 h2;exact⟨hL,hid,trivial,0,_,rfl,rfl,rfl⟩
  obtain⟨h1,h2,h3,j,x,h4⟩:=ih id b h;exact⟨h1,h2,h3,j+1,x,by simpa using h4⟩
 | bb i cs hL hid hr ih=>
  intro id b h
  rcases List.mem_cons.1 h with h | h
  ·injection h with h1 h2;subst h1 h2;exact⟨hL,hid,trivial,0,_,rfl,rfl,rfl⟩
  obtain⟨h1,h2,h3,j,x,h4⟩:=ih id b h;exact⟨h1,h2,h3,j+1,x,by simpa using h4⟩
theorem fJ.inj {L:Nat->Prop} {rho:Nat->Value} {h:Nat->AB} {xs:List Arg} {vs:List Value} {ids:List (Nat×AB)} (H:fJ L rho h xs vs ids) (hn:(ids.map (·.1)).Nodup):∀(i j:Nat) x y v u,xs[i]?=some x->xs[j]?=some y->vs[i]?=some v->vs[j]?=some u->x.handed=true->y.handed=true->i≠j ->
  ∃EV tx b1 b2,EV≠tx/\(EV,b1)∈ids/\(tx,b2)∈ids/\v=rho EV/\u=rho tx/\((∃e es,x=.row e es/\b1=.row e es)\/(∃cs ys,x=.box ys/\b1=.box cs/\dT cs=some ys)\/∃cs,x=.bb cs/\b1=.bb cs)/\((∃e es,y=.row e es/\b2=.row e es)\/(∃cs ys,y=.box ys/\b2=.box cs/\dT cs=some ys)\/∃cs,y=.bb cs/\b2=.bb cs):=by
 have step:∀(i0:Nat) (b0:AB) {xs:List Arg} {vs:List Value} {ids:List (Nat×AB)} (H:fJ L rho h xs vs ids) (hn:(((i0,b0)::ids).map (·.1)).Nodup) (j:Nat) (y:Arg) (u:Value),xs[j]?=some y->vs[j]?=some u->y.handed=true->∃id b,id≠i0/\(id,b)∈ids/\u=rho id/\((∃e es,y=.row e es/\b=.row e es)\/(∃cs ys,y=.box ys/\b=.box cs/\dT cs=some ys)\/∃cs,y=.bb cs/\b=.bb cs):=by
  intro i0 b0 xs vs ids H hn j y u h1 h2 h3
  obtain⟨id,b,h4,_,_,h5,hf⟩:=H.at j y u h1 h2 h3
  simp only[List.map_cons,List.nodup_cons] at hn
  exact⟨id,b,fun e=>hn.1 (List.mem_map.2 ⟨(id,b),h4,e⟩),h4,h5,hf⟩
 induction H with
 | nil=>intro i j x y v u h1;simp at h1
 | pv z v0 hr ih=>
  intro i j x y v u h1 h2 h3 h4 h5 h6 h7
  cases i with
  | zero=>simp at h1;subst h1;cases h5
  | succ i=>
   cases j with
   | zero=>simp at h2;subst h2;cases h6
   | succ j=>exact ih hn i j x y v u (by simpa using h1) (by simpa using h2) (by simpa using h3) (by simpa using h4) h5 h6 (by omega)
 | row id e es hL hid hr ih=>
  intro i j x y v u h1 h2 h3 h4 h5 h6 h7
  have w_:=hn
  simp only[List.map_cons,List.nodup_cons] at w_
  cases i with
  | zero=>
   cases j with
   | zero=>exact absurd rfl h7
   | succ j=>
    obtain⟨tx,b2,k1,k2,k3,hf⟩:=step id (.row e es) hr hn j y u (by simpa using h2) (by simpa using h4) h6
    simp at h1 h3
    exact⟨id,tx,.row e es,b2,k1.symm,by simp,by simp[k2],h3.symm,k3,h1 ▸ .inl ⟨e,es,rfl,rfl⟩,hf⟩
  | succ i=>
   cases j with
   | zero=>
    obtain⟨tx,b2,k1,k2,k3,hf⟩:=step id (.row e es) hr hn i x v (by simpa using h1) (by simpa using h3) h5
    simp at h2 h4
    exact⟨tx,id,b2,.row e es,k1,by simp[k2],by simp,k3,h4.symm,hf,h2 ▸ .inl ⟨e,es,rfl,rfl⟩⟩
   | succ j=>
    obtain⟨EV,tx,b1,b2,k1,k2,k3,k4,k5⟩:=ih w_.2 i j x y v u (by simpa using h1) (by simpa using h2) (by simpa using h3) (by simpa using h4) h5 h6 (by omega)
    exact⟨EV,tx,b1,b2,k1,by simp[k2],by simp[k3],k4,k5⟩
 | box id cs ys hL hid hy hr ih=>
  intro i j x y v u h1 h2 h3 h4 h5 h6 h7
  have w_:=hn
  simp only[List.map_cons,List.nodup_cons] at w_
  cases i with
  | zero=>
   cases j with
   | zero=>exact absurd rfl h7
   | succ j=>
    obtain⟨tx,b2,k1,k2,k3,hf⟩:=step id (.box cs) hr hn j y u (by simpa using h2) (by simpa using h4) h6
    simp at h1 h3
    exact⟨id,tx,.box cs,b2,k1.symm,by simp,by simp[k2],h3.symm,k3,h1 ▸ .inr (.inl ⟨cs,ys,rfl,rfl,hy⟩),hf⟩
  | succ i=>
   cases j with
   | zero=>
    obtain⟨tx,b2,k1,k2,k3,hf⟩:=step id (.box cs) hr hn i x v (by simpa using h1) (by simpa using h3) h5
    simp at h2 h4
    exact⟨tx,id,b2,.box cs,k1,by simp[k2],by simp,k3,h4.symm,hf,h2 ▸ .inr (.inl ⟨cs,ys,rfl,rfl,hy⟩)⟩
   | succ j=>
    obtain⟨EV,tx,b1,b2,k1,k2,k3,k4,k5⟩:=ih w_.2 i j x y v u (by simpa using h1) (by simpa using h2) (by simpa using h3) (by simpa using h4) h5 h6 (by omega)
    exact⟨EV,tx,b1,b2,k1,by simp[k2],by simp[k3],k4,k5⟩
 | bb id cs hL hid hr ih=>
  intro i j x y v u h1 h2 h3 h4 h5 h6 h7
  have w_:=hn
  simp only[List.map_cons,List.nodup_cons] at w_
  cases i with
  | zero=>
   cases j with
   | zero=>exact absurd rfl h7
   | succ j=>
    obtain⟨tx,b2,k1,k2,k3,hf⟩:=step id (.bb cs) hr hn j y u (by simpa using h2) (by simpa using h4) h6
    simp at h1 h3
    exact⟨id,tx,.bb cs,b2,k1.symm,by simp,by simp[k2],h3.symm,k3,h1 ▸ .inr (.inr ⟨cs,rfl,rfl⟩),hf⟩
  | succ i=>
   cases j with
   | zero=>
    obtain⟨tx,b2,k1,k2,k3,hf⟩:=step id (.bb cs) hr hn i x v (by simpa using h1) (by simpa using h3) h5
    simp at h2 h4
    exact⟨tx,id,b2,.bb cs,k1,by simp[k2],by simp,k3,h4.symm,hf,h2 ▸ .inr (.inr ⟨cs,rfl,rfl⟩)⟩
   | succ j=>
    obtain⟨EV,tx,b1,b2,k1,k2,k3,k4,k5⟩:=ih w_.2 i j x y v u (by simpa using h1) (by simpa using h2) (by simpa using h3) (by simpa using h4) h5 h6 (by omega)
    exact⟨EV,tx,b1,b2,k1,by simp[k2],by simp[k3],k4,k5⟩
theorem GQ {id:Nat}:∀{fz:List (Nat×AB)},p8 id fz=true->∀p∈fz,p.1≠id:=by
 intro fz
 induction fz with
 | nil=>intro _ p hp;cases hp
 | cons x fz ih=>
  intro hn p hp
  unfold p8 at hn
  split at hn
  ·cases hn
  rename_i b8
  rcases List.mem_cons.1 hp with h | h
  ·subst h;intro e;rw[e] at b8;simp at b8
  exact ih hn p h
theorem Cf:∀{ids fz:List (Nat×AB)},DL ids fz=true->(∀p∈ids,p8 p.1 fz=true)/\(ids.map (·.1)).Nodup:=by
 intro ids
 induction ids with
 | nil=>intro fz _;simp
 | cons x ids ih=>
  intro fz h
  obtain⟨i,b⟩:=x
  simp only[DL,Bool.and_eq_true] at h
  obtain⟨⟨h1,h2⟩,h3⟩:=h
  obtain⟨h4,h5⟩:=ih h3
  refine⟨fun p hp=>?_,?_⟩
  ·rcases List.mem_cons.1 hp with h | h
   ·subst h;exact h1
   exact h4 p h
  simp only[List.map_cons,List.nodup_cons]
  refine⟨fun hm=>?_,h5⟩
  obtain⟨p,hp,he⟩:=List.mem_map.1 hm
  exact GQ h2 p hp he
def wi:List Arg->List (Nat×AB)->Nat->Nat->Prop
 | x::xs,ids,i,id=>match x.handed with
  | false=>match i with
   | 0=>False
   | i+1=>wi xs ids i id
  | true=>match ids with
   | (id0,_)::ids=>match i with
    | 0=>id=id0
    | i+1=>wi xs ids i id
   | []=>False
 | _,_,_,_=>False
theorem wi.uniq:∀{xs:List Arg} {ids:List (Nat×AB)} {i a b:Nat},wi xs ids i a->wi xs ids i b->a=b
 | [],_,_,_,_,h,_=>h.elim
 | x::xs,ids,i,a,b,h,k=>by
  unfold wi at h k
  split at h
  ·rename_i hx
   simp only[hx] at k
   cases i with
   | zero=>exact h.elim
   | succ i=>exact wi.uniq h k
  rename_i hx
  simp only[hx] at k
  cases ids with
  | nil=>exact h.elim
  | cons p ids=>
   cases i with
   | zero=>exact h.trans k.symm
   | succ i=>exact wi.uniq (xs:=xs) (ids:=ids) h k
def Jq (S:Nat->Prop) (w:World) (P:Program) (args:List Arg) (fin:List Fin) (vs:List Value) (i:Nat) (v:Value) (gU new:AB):Prop:=
 new=.none\/((∃e es wk,gU=.row e es/\new=.row e wk/\aR P w (bu S w) e wk v)\/(∃(cs:List AV) (xs:List PV) (g:Nat) (ty:TypeId) (c:Array Value),gU=.box cs/\new=.box (xs.map .p)/\v=.pointer (some ⟨g,0,none⟩)/\w.heap[g]?=some (.cells c ty (0,0))/\c.size=xs.length/\∀(j:Nat) x u,xs[j]?=some x->c[j]?=some u->u.oneCell'=true/\bu S w x u)\/
  (∃(cs kI:List HC) (g:Nat) (ty:TypeId) (c:Array Value),gU=.bb cs/\new=.bb kI/\v=.pointer (some ⟨g,0,none⟩)/\EC S w P kI g ty c))/\
  (∀g,hasB w new v g->¬S g/\dw w args fin vs i g)
theorem Jq.lift {S:Nat->Prop} {w:World} {P:Program} {xs:List Arg} {fin:List Fin} {vs:List Value} {i:Nat} {v:Value} {gU new:AB} {o9:List Arg} {GR:List Fin} {kA:List Value} {i':Nat} (h:∀g,dw w xs fin vs i g->dw w o9 GR kA i' g) (hb:Jq S w P xs fin vs i v gU new):Jq S w P o9 GR kA i' v gU new:=
 hb.imp id fun hb=>⟨hb.1,fun g hg=>⟨(hb.2 g hg).1,h g (hb.2 g hg).2⟩⟩
theorem jR {S:Nat->Prop} {w:World} {P:Program} {L:Nat->Prop} {rho:Nat->Value} {h:Nat->AB} {xs:List Arg} {vs:List Value} {ids:List (Nat×AB)} (H:fJ L rho h xs vs ids):
  ∀(fin:List Fin) fe,eK S w P xs fin vs->gD ids fin=some fe->fe.map (·.1)=ids.map (·.1)/\∀id new,(id,new)∈fe->∃gU i,(id,gU)∈ids/\wi xs ids i id/\Jq S w P xs fin vs i (rho id) gU new:=by
 induction H with
 | nil=>
  intro fin fe fU p7
  cases fin with
  | nil=>simp[gD] at p7;subst p7;exact⟨rfl,by simp⟩
  | cons f fin=>simp[gD] at p7
 | pv x v hr ih=>
  intro fin fe fU p7
  obtain⟨h2,h3⟩:=ih fin fe fU p7
  refine⟨h2,fun id new hm=>?_⟩
  obtain⟨gU,i,h4,h6,h5⟩:=h3 id new hm
  exact⟨gU,i+1,h4,h6,h5.lift fun g h=>h⟩
 | @row i e es xs vs ids hL hid hr ih=>
  intro fin fe fU p7
  cases fin with
  | nil=>exact fU.elim
  | cons f fin=>
   obtain⟨hf,sP⟩:=(show rA S w P (.row e es) f (rho i)/\eK S w P xs fin vs from fU)
   cases f with
   | gone=>
    simp only[gD] at p7
    obtain⟨GS,h1,rfl⟩:=Option.map_eq_some_iff.1 p7
    obtain⟨h2,h3⟩:=ih fin GS sP h1
    refine⟨by simp[h2],fun id new hm=>?_⟩
    rcases List.mem_cons.1 hm with e' | e'
    ·injection e' with e1 e2;subst e1 e2;exact⟨.row e es,0,by simp,rfl,.inl rfl⟩
    obtain⟨gU,k,h4,h6,h5⟩:=h3 id new e';exact⟨gU,k+1,by simp[h4],h6,h5.lift fun g h=>h⟩
   | row wk=>
    simp only[gD] at p7
    obtain⟨GS,h1,rfl⟩:=Option.map_eq_some_iff.1 p7
    obtain⟨h2,h3⟩:=ih fin GS sP h1
    refine⟨by simp[h2],fun id new hm=>?_⟩
    rcases List.mem_cons.1 hm with e' | e'
    ·injection e' with e1 e2
     subst e1 e2
     exact⟨_,0,by simp,rfl,.inr ⟨.inl ⟨e,es,wk,rfl,rfl,hf.1⟩,fun g hg=>⟨hf.2 g (a6 rfl hg),rfl,.inl (a6 rfl hg)⟩⟩⟩
    obtain⟨gU,k,h4,h6,h5⟩:=h3 id new e';exact⟨gU,k+1,by simp[h4],h6,h5.lift fun g h=>h⟩
   | box cs=>exact hf.elim
   | bb cs=>exact hf.elim
 | @box i cs ys xs vs ids hL hid hy hr ih=>
  intro fin fe fU p7
  cases fin with
  | nil=>exact fU.elim
  | cons f fin=>
   obtain⟨hf,sP⟩:=(show rA S w P (.box ys) f (rho i)/\eK S w P xs fin vs from fU)
   cases f with
   | gone=>
    simp only[gD] at p7
    obtain⟨GS,h1,rfl⟩:=Option.map_eq_some_iff.1 p7
    obtain⟨h2,h3⟩:=ih fin GS sP h1
    refine⟨by simp[h2],fun id new hm=>?_⟩
    rcases List.mem_cons.1 hm with e' | e'
    ·injection e' with e1 e2;subst e1 e2;exact⟨.box cs,0,by simp,rfl,.inl rfl⟩
    obtain⟨gU,k,h4,h6,h5⟩:=h3 id new e';exact⟨gU,k+1,by simp[h4],h6,h5.lift fun g h=>h⟩
   | row es=>exact hf.elim
   | bb es=>exact hf.elim
   | box o9=>
    simp only[gD] at p7
    obtain⟨GS,h1,rfl⟩:=Option.map_eq_some_iff.1 p7
    obtain⟨h2,h3⟩:=ih fin GS sP h1
    refine⟨by simp[h2],fun id new hm=>?_⟩
    rcases List.mem_cons.1 hm with e' | e'
    ·injection e' with e1 e2
     subst e1 e2
     obtain⟨g,ty,c,m1,m2,m3,m4,m5⟩:=hf
     refine⟨_,0,by simp,rfl,.inr ⟨.inr (.inl ⟨cs,o9,g,ty,c,rfl,rfl,m1,m2,m3,m5⟩),fun g' hg=>?_⟩⟩
     have hg:=a6 rfl hg
     refine⟨?_,rfl,.inl hg⟩
     rw[m1] at hg
     injection hg with hg
     exact hg ▸ m4
    obtain⟨gU,k,h4,h6,h5⟩:=h3 id new e';exact⟨gU,k+1,by simp[h4],h6,h5.lift fun g h=>h⟩
 | @bb i cs xs vs ids hL hid hr ih=>
  intro fin fe fU p7
  cases fin with
  | nil=>exact fU.elim
  | cons f fin=>
   obtain⟨hf,sP⟩:=(show rA S w P (.bb cs) f (rho i)/\eK S w P xs fin vs from fU)
   cases f with
   | gone=>
    simp only[gD] at p7
    obtain⟨GS,h1,rfl⟩:=Option.map_eq_some_iff.1 p7
    obtain⟨h2,h3⟩:=ih fin GS sP h1
    refine⟨by simp[h2],fun id new hm=>?_⟩
    rcases List.mem_cons.1 hm with e' | e'
    ·injection e' with e1 e2;subst e1 e2;exact⟨.bb cs,0,by simp,rfl,.inl rfl⟩
    obtain⟨gU,k,h4,h6,h5⟩:=h3 id new e';exact⟨gU,k+1,by simp[h4],h6,h5.lift fun g h=>h⟩
   | row es=>exact hf.elim
   | box es=>exact hf.elim
   | bb kI=>
    simp only[gD] at p7
    obtain⟨GS,h1,rfl⟩:=Option.map_eq_some_iff.1 p7
    obtain⟨h2,h3⟩:=ih fin GS sP h1
    refine⟨by simp[h2],fun id new hm=>?_⟩
    rcases List.mem_cons.1 hm with e' | e'
    ·injection e' with e1 e2
     subst e1 e2
     obtain⟨g,ty,c,m1,m2,m3⟩:=hf
     exact⟨_,0,by simp,rfl,.inr ⟨.inr (.inr ⟨cs,kI,g,ty,c,rfl,rfl,m1,m2⟩),fun g' hg=>⟨m3 g' hg,rfl,hg⟩⟩⟩
    obtain⟨gU,k,h4,h6,h5⟩:=h3 id new e';exact⟨gU,k+1,by simp[h4],h6,h5.lift fun g h=>h⟩
theorem ez (fe:List (Nat×AB)) (h:Nat->AB) (id:Nat):(∃b,(id,b)∈fe/\app h fe id=b)\/((∀p∈fe,p.1≠id)/\app h fe id=h id):=by
 induction fe generalizing h with
 | nil=>exact .inr ⟨by simp,rfl⟩
 | cons x fe ih=>
  rcases ih (br h x.1 x.2) with⟨b,h1,h2⟩ | ⟨h1,h2⟩
  ·exact .inl ⟨b,by simp[h1],h2⟩
  by_cases e:x.1=id
  ·refine .inl ⟨x.2,by rw[<-e];simp,?_⟩
   show app (br h x.1 x.2) fe id=x.2
   rw[h2,e,aO]
  refine .inr ⟨fun p hp=>?_,?_⟩
  ·rcases List.mem_cons.1 hp with h | h
   ·rw[h];exact e
   exact h1 p h
  show app (br h x.1 x.2) fe id=h id
  rw[h2,bw _ _ (fun e'=>e e'.symm)]
theorem qj {w:World} {b:AB} {v:Value} {g:Nat} {x:Arg} (h:(∃e es,x=.row e es/\b=.row e es)\/(∃cs ys,x=.box ys/\b=.box cs/\dT cs=some ys)\/∃cs,x=.bb cs/\b=.bb cs):hasB w (xT x) v g↔hasB w b v g:=by
 rcases h with⟨e,es,rfl,rfl⟩ | ⟨cs,ys,rfl,rfl,_⟩ | ⟨cs,rfl,rfl⟩
 ·exact⟨fun h=>.inl (a6 rfl h),fun h=>.inl (a6 rfl h)⟩
 ·exact⟨fun h=>.inl (a6 rfl h),fun h=>.inl (a6 rfl h)⟩
 exact Iff.rfl
theorem fJ.form {L:Nat->Prop} {rho:Nat->Value} {h:Nat->AB} {xs:List Arg} {vs:List Value} {ids:List (Nat×AB)} (H:fJ L rho h xs vs ids):∀id b,(id,b)∈ids->∃(j:Nat) (x:Arg),xs[j]?=some x/\vs[j]?=some (rho id)/\x.handed=true/\((∃e es,x=.row e es/\b=.row e es)\/(∃cs ys,x=.box ys/\b=.box cs/\dT cs=some ys)\/∃cs,x=.bb cs/\b=.bb cs):=by
 induction H with
 | nil=>intro id b h;cases h
 | pv y u hr ih=>intro id b h;obtain⟨j,x,h4⟩:=ih id b h;exact⟨j+1,x,by simpa using h4⟩
 | row i e es hL hid hr ih=>
  intro id b h
  rcases List.mem_cons.1 h with h | h
  ·injection h with h1 h2;subst h1 h2;exact⟨0,_,rfl,rfl,rfl,.inl ⟨e,es,rfl,rfl⟩⟩
  obtain⟨j,x,h4⟩:=ih id b h;exact⟨j+1,x,by simpa using h4⟩
 | box i cs ys hL hid hy hr ih=>
  intro id b h
  rcases List.mem_cons.1 h with h | h
  ·injection h with h1 h2;subst h1 h2;exact⟨0,_,rfl,rfl,rfl,.inr (.inl ⟨cs,ys,rfl,rfl,hy⟩)⟩
  obtain⟨j,x,h4⟩:=ih id b h;exact⟨j+1,x,by simpa using h4⟩
 | bb i cs hL hid hr ih=>
  intro id b h
  rcases List.mem_cons.1 h with h | h
  ·injection h with h1 h2;subst h1 h2;exact⟨0,_,rfl,rfl,rfl,.inr (.inr ⟨cs,rfl,rfl⟩)⟩
  obtain⟨j,x,h4⟩:=ih id b h;exact⟨j+1,x,by simpa using h4⟩
theorem fJ.mv {L:Nat->Prop} {rho:Nat->Value} {h:Nat->AB} {w:World} {xs:List Arg} {vs:Array Value} {ids:List (Nat×AB)} (H:fJ L rho h xs vs.toList ids) (g:Nat):Mv w xs vs g↔∃id b,(id,b)∈ids/\hasB w b (rho id) g:=by
 constructor
 ·rintro⟨j,x,v,h1,h2,h3,h4⟩
  obtain⟨id,b,h5,_,_,h6,h7⟩:=H.at j x v h1 (by simpa using h2) h3
  exact⟨id,b,h5,by rw[<-h6];exact (qj h7).1 h4⟩
 rintro⟨id,b,h1,h2⟩
 obtain⟨j,x,h3,h4,h5,h6⟩:=H.form id b h1
 exact⟨j,x,_,h3,by simpa using h4,h5,(qj h6).2 h2⟩
theorem cu.handed {A:cV} {V L S2 S':Nat->Prop} {rho:Nat->Value} {t:Nat->AV} {a:Act} {w w':World} {h h2:Nat->AB} (hC:bV A.C) (sim:cu A V L S2 rho ⟨t,h2⟩ a w) {xs:List Arg} {vs:Array Value} {ids fe:List (Nat×AB)} {fin:List Fin} (H:fJ L rho h xs vs.toList ids) (hh:∀id b,(id,b)∈ids->h2 id=h id)
  (hf:Fr (Mv w xs vs) w w') (hS:∀b,S2 b->S' b) (zL:∀b,S' b->b < w'.heap.size) (NN:∀b,S' b->S2 b\/w.heap.size<=b\/Mv w xs vs b) (fU:eK S' w' A.C.P xs fin vs.toList) (hok:p9 w w' xs fin vs) (p7:gD ids fin=some fe):
  cu A V L S' rho ⟨t,app h2 fe⟩ a w':=by
 obtain⟨hk,hb⟩:=jR H fin fe fU p7
 have GU:∀id,(∃b,(id,b)∈ids)↔∃b,(id,b)∈fe:=by
  intro id
  have:id∈ids.map (·.1)↔id∈fe.map (·.1):=by rw[hk]
  simpa using this
 have own:∀id b,(id,b)∈ids->L id/\(h2 id).live/\h2 id=b:=fun id b hm=>by
  obtain⟨h1,h3,h4,_⟩:=H.back id b hm
  have:=hh id b hm
  exact⟨h1,by rw[this,h3];exact h4,by rw[this,h3]⟩
 have Py:∀g,Mv w xs vs g->¬S2 g/\(A.mv g\/A.w0.heap.size<=g):=fun g hg=>by
  obtain⟨id,b,h1,h3⟩:=H.mv g |>.1 hg
  obtain⟨h4,h5,h6⟩:=own id b h1
  exact (sim.lv id g h4 h5 (by show hasB w (h2 id) _ _;rw[h6];exact h3)).2
 have iW:∀b,S2 b->w'.heap[b]?=w.heap[b]?:=fun k hk=>hf.block k (sim.st k hk) fun hm=>(Py k hm).1 hk
 have T:jx S2 S' w w' L L rho rho h2 (app h2 fe):=by
  refine⟨hS,iW,fun id ht=>⟨?_,fun hl=>⟨hl,rfl⟩⟩,fun id e he=>?_⟩
  ·rcases ez fe h2 id with⟨b,h1,h3⟩ | ⟨_,h3⟩
   ·obtain⟨b',hb'⟩:=(GU id).2 ⟨b,h1⟩
    obtain⟨_,h4,_⟩:=own id b' hb'
    cases hx:h2 id <;> rw[hx] at h4 <;> first | trivial | exact h4.elim
   rw[h3] at ht;exact ht
  rcases ez fe h2 id with⟨b,h1,h3⟩ | ⟨_,h3⟩
  ·rw[h3] at he
   obtain⟨gU,i,h4,_,h5⟩:=hb id b h1
   obtain⟨_,_,h6⟩:=own id gU h4
   rcases h5 with h5 | ⟨h5 | h5 | h5,_⟩
   ·rw[h5] at he;cases he
   ·obtain⟨e',SJ,me,h7,h8,_⟩:=h5
    rw[h8] at he
    injection he with he
    rw[h6,h7,he];rfl
   ·obtain⟨cs,ys,g,ty,c,h7,h8,_⟩:=h5
    rw[h8] at he;cases he
   obtain⟨cs,ys,g,ty,c,h7,h8,_⟩:=h5
   rw[h8] at he;cases he
  rw[h3] at he;exact he
 have eQ:∀id,(app h2 fe id).live->(h2 id).live:=by
  intro id hl
  rcases ez fe h2 id with⟨b,h1,h3⟩ | ⟨_,h3⟩
  ·obtain⟨b',hb'⟩:=(GU id).2 ⟨b,h1⟩
   exact (own id b' hb').2.1
  rw[h3] at hl;exact hl
 have same:∀id g,L id->(h2 id).live->(∀p∈fe,p.1≠id)->hasB w (h2 id) (rho id) g->¬Mv w xs vs g:=fun id g hl li h1 hg hm=>by
  obtain⟨wj,b',h4,h5⟩:=H.mv g |>.1 hm
  obtain⟨h6,h7,h8⟩:=own wj b' h4
  have:=sim.dj id wj g hl h6 li h7 hg (by show hasB w (h2 wj) _ _;rw[h8];exact h5)
  subst this
  obtain⟨b2,oD⟩:=(GU id).1 ⟨b',h4⟩
  exact h1 _ oD rfl
 have old:∀id g,L id->(h2 id).live->(∀p∈fe,p.1≠id)->hasB w' (h2 id) (rho id) g->hasB w (h2 id) (rho id) g:=fun id g hl li h1 hg=>
  dC (fun k hk=>hf.block k (sim.nG id k hl li hk).1 (same id k hl li h1 (.inl hk))) hg
 have back:∀id b,(id,b)∈fe->(app h2 fe id).live->app h2 fe id=b->∃i,wi xs ids i id/\∀g,hasB w' b (rho id) g->¬S' g/\dw w' xs fin vs.toList i g:=fun id b hm hl he=>by
  obtain⟨gU,i,_,DR,h3⟩:=hb id b hm
  rcases h3 with h3 | ⟨_,h3⟩
  ·rw[he,h3] at hl;exact hl.elim
  exact⟨i,DR,h3⟩
 exact
 {tm:=fun j hj=>(sim.tm j hj).lz T
  sz:=sim.sz,df:=sim.df,nb:=sim.nb,pn:=sim.pn
  ev:=hC.env _ _ _ _ sim.ev hS iW hf.size
  s0:=fun b hb=>hS b (sim.s0 b hb)
  st:=zL
  sb:=fun b hb=>by
   rcases NN b hb with h | h | h
   ·exact sim.sb b h
   ·exact .inr (.inr (Nat.le_trans sim.fr.size h))
   exact .inr (Py b h).2
  hp:=fun id hl=>by
   show eC _ _ _ _ _ _ _ (app h2 fe id)
   rcases ez fe h2 id with⟨b,h1,h3⟩ | ⟨h1,h3⟩
   ·rw[h3]
    obtain⟨gU,i,h4,_,h5⟩:=hb id b h1
    rcases h5 with h5 | ⟨h5 | h5 | h5,_⟩
    ·rw[h5];trivial
    ·obtain⟨e',SJ,me,h7,h8,h9⟩:=h5
     rw[h8];exact h9
    ·obtain⟨cs,ys,g,ty,c,h7,h8,h9,NO,Ua,SK⟩:=h5
     rw[h8]
     refine⟨g,ty,c,h9,NO,by simpa using Ua,fun j x u hj hu=>?_⟩
     rw[List.getElem?_map] at hj
     obtain⟨z,hz,rfl⟩:=Option.map_eq_some_iff.1 hj
     exact⟨(SK j z u hz hu).1,.p _ _ (SK j z u hz hu).2⟩
    obtain⟨cs,kI,g,ty,c,h7,h8,h9,NO⟩:=h5
    rw[h8]
    exact⟨g,ty,c,h9,NO⟩
   rw[h3]
   exact (sim.hp id hl).lz T (fun li g hg=>hf.block g (sim.lv id g hl li hg).1 (same id g hl li h1 hg)) (fun _=>rfl)
  dj:=fun i j g hi hj li lj eR iC=>by
   have one:∀i j,L i->L j->(app h2 fe i).live->(app h2 fe j).live->hasB w' (app h2 fe i) (rho i) g->hasB w' (app h2 fe j) (rho j) g->(∃b,(i,b)∈fe/\app h2 fe i=b)->((∀p∈fe,p.1≠j)/\app h2 fe j=h2 j)->False:=by
    rintro i j hi hj li lj eR iC ⟨b,m1,m2⟩ ⟨n1,n2⟩
    rw[n2] at iC lj
    have iC:=old j g hj lj n1 iC
    obtain⟨k,_,Xe⟩:=back i b m1 li m2
    rw[m2] at eR
    rcases (hok.1 k g (Xe g eR).2).2 with h | h
    ·have:=(sim.lv j g hj lj iC).1
     exact absurd this (by omega)
    exact same j g hj lj n1 iC h
   rcases ez fe h2 i with ci | ci
   ·rcases ez fe h2 j with cj | cj
    ·obtain⟨b,m1,m2⟩:=ci
     obtain⟨c,n1,n2⟩:=cj
     obtain⟨k1,p1,q1⟩:=back i b m1 li m2
     obtain⟨k2,p2,q2⟩:=back j c n1 lj n2
     have eR:hasB w' (app h2 fe i) (rho i) g:=eR
     have iC:hasB w' (app h2 fe j) (rho j) g:=iC
     rw[m2] at eR
     rw[n2] at iC
     have:=hok.2 k1 k2 g (q1 g eR).2 (q2 g iC).2
     subst this
     exact p1.uniq p2
    exact (one i j hi hj li lj eR iC ci cj).elim
   rcases ez fe h2 j with cj | cj
   ·exact (one j i hj hi lj li iC eR cj ci).elim
   have eR:hasB w' (app h2 fe i) (rho i) g:=eR
   have iC:hasB w' (app h2 fe j) (rho j) g:=iC
   have li:(app h2 fe i).live:=li
   have lj:(app h2 fe j).live:=lj
   rw[ci.2] at eR li
   rw[cj.2] at iC lj
   exact sim.dj i j g hi hj li lj (old i g hi li ci.1 eR) (old j g hj lj cj.1 iC)
  lv:=fun id g hl li hg=>by
   have hg:hasB w' (app h2 fe id) (rho id) g:=hg
   have li:(app h2 fe id).live:=li
   rcases ez fe h2 id with⟨b,h1,h3⟩ | ⟨h1,h3⟩
   ·obtain⟨k,_,q⟩:=back id b h1 li h3
    rw[h3] at hg
    obtain⟨q1,q2⟩:=q g hg
    obtain⟨r1,r2⟩:=hok.1 k g q2
    refine⟨r1,q1,?_⟩
    rcases r2 with h | h
    ·exact .inr (Nat.le_trans sim.fr.size h)
    exact (Py g h).2
   rw[h3] at hg li
   have hg:=old id g hl li h1 hg
   obtain⟨h4,h5,h6⟩:=sim.lv id g hl li hg
   refine⟨Nat.lt_of_lt_of_le h4 hf.size,fun hs=>?_,h6⟩
   rcases NN g hs with h | h | h
   ·exact h5 h
   ·omega
   exact same id g hl li h1 hg h
  fr:=sim.fr.next hf.os hf.tape hf.output hf.size fun k hk hn=>hf.block k (Nat.lt_of_lt_of_le hk sim.fr.size) fun hm=>by
   rcases (Py k hm).2 with h | h
   ·exact hn h
   omega }
theorem uo {P:Program} {o:Oper} {a:Act} {w:World} {f:FuncId} {vs:Array Value} {next:Act->World->Prop} {Q:Exit->Act->World->Prop} {R:Ending->World->Prop} (h:(execOp a.eval o).run P w=.ok (.enter f vs) w) (hc:Calls P f vs w R)
  (hn:∀e w',R e w'->∃v,e=.returned v/\next (a.put o.dst v) w'):o.wp P a w next Q:=by
 unfold Oper.wp
 rw[h]
 refine hc.mono fun e w' hr=>?_
 obtain⟨v,rfl,h2⟩:=hn e w' hr
 exact h2
theorem Cg {A:cV} (hC:bV A.C) {o:Oper} {V L S:Nat->Prop} {rho:Nat->Value} {s:AS} {a:Act} {w:World} {K:KK} {next:Act->World->Prop} {Q:Exit->Act->World->Prop} (sim:cu A V L S rho s a w) (hd:∀d,o.dst=some d->d < A.n)
  (hn:∀v eff b,K v eff (some b)->¬L (o.dst.getD 0)/\s.h (o.dst.getD 0)=b)
  (hnext:∀v eff new S' rho' a' w',K v eff new->cu A (wc V o.dst) (zO L new (o.dst.getD 0)) S' rho' ⟨eu s.t o.dst v,app s.h eff⟩ a' w'->next a' w')
  (f:FuncId) (iw:List AV) (vs:Array Value) (hl:iw.length=vs.size)
  (hrep:∀(S2:Nat->Prop) (h2:Nat->AB),cu A V L S2 rho ⟨s.t,h2⟩ a w->∀(i:Nat) x v,iw[i]?=some x->vs.toList[i]?=some v->bF S2 w A.C.P L rho h2 x v)
  (hrun : (∃ fn : Func, A.C.P.funcs[f]? = some fn ∧ (fn.name == "runtime.NumGoroutine") = false ∧ fn.body.isNone = false) → (execOp a.eval o).run A.C.P w = .ok (.enter f vs) w) (hq : mg A.C s.h (o.dst.getD 0) f iw K) : o.wp A.C.P a w next Q := by
 unfold mg at hq
 obtain⟨xs,ids,fz,S2,⟨r,fin,sQ,hq⟩,bI,xZ,hF,zK,hlen,H,hpv⟩:=EU hC iw vs.toList 0 s.h S _ (by simpa using hl) sim (Xd.refl _) hrep (fun _ h=>h) hq
 split at hq
 ·rename_i fe p7
  split at hq
  ·rename_i hok
   obtain⟨Ub,IY⟩:=Cf hok
   have hh:∀id b,(id,b)∈ids->(app s.h fz) id=s.h id:=fun id b hm=>jP (Ub (id,b) hm)
   have own:∀id b,(id,b)∈ids->L id/\(app s.h fz id).live/\app s.h fz id=b:=fun id b hm=>by
    obtain⟨h1,h3,h4,_⟩:=H.back id b hm
    have:=hh id b hm
    exact⟨h1,by rw[this,h3];exact h4,by rw[this,h3]⟩
   have key:=sQ.2 S2 w vs bI.ev bI.st (by simpa using hlen) (fun j x v hj hv=>by
     have B4:vs.toList[j]?=some v:=by simpa using hv
     cases hx:x.handed with
     | false=>
      cases x with
      | pv y=>exact hpv j y v hj B4
      | row=>cases hx
      | box=>cases hx
      | bb=>cases hx
     | true=>
      obtain⟨id,b,h1,h2,h3,h4,h5⟩:=H.at j x v hj B4 hx
      obtain⟨h6,h7,h8⟩:=own id b h1
      have hp:=bI.hp id h6
      have hp:eC S2 w A.C.P L rho (app s.h fz) id (app s.h fz id):=hp
      rw[h8] at hp
      rcases h5 with⟨e,es,rfl,rfl⟩ | ⟨cs,ys,rfl,rfl,hy⟩ | ⟨cs,rfl,rfl⟩
      ·rw[h4]
       exact⟨hp,fun g hg=>(bI.nG id g h6 h7 hg).2.1⟩
      ·obtain⟨g,ty,c,k1,k2,k3,k4⟩:=hp
       obtain⟨k5,k6⟩:=fT hy
       rw[h4]
       refine⟨g,ty,c,k1,k2,by rw[k3,k5],(bI.nG id g h6 h7 (by rw[k1];rfl)).2.1,fun i x u hi hu=>?_⟩
       obtain⟨y,hy⟩:∃y,cs[i]?=some y:=⟨_,List.getElem?_eq_getElem (by rw[k5];exact aP hi)⟩
       obtain⟨k7,k8⟩:=k4 i y u hy hu
       exact⟨k7,k8.tH (k6 i y x hy hi)⟩
      obtain⟨g,ty,c,k1,k2⟩:=hp
      rw[h4]
      exact⟨g,ty,c,k1,k2,fun k hk=>by obtain⟨q1,q2,_⟩:=bI.lv id k h6 h7 (by show hasB w (app s.h fz id) _ _;rw[h8];exact hk);exact⟨q2,q1⟩⟩)
    (fun i j x y v u g hi hj hv hu hx hy hg mc=>by
     by_cases zZ:i=j
     ·exact zZ
     obtain⟨EV,tx,b1,b2,k1,k2,k3,k4,k5,f1,f2⟩:=H.inj IY i j x y v u hi hj (by simpa using hv) (by simpa using hu) hx hy zZ
     obtain⟨l1,v1,o1⟩:=own EV b1 k2
     obtain⟨l2,v2,o2⟩:=own tx b2 k3
     exact absurd (bI.dj EV tx g l1 l2 v1 v2 (by show hasB w (app s.h fz EV) _ _;rw[<-k4,o1];exact (qj f1).1 hg) (by show hasB w (app s.h fz tx) _ _;rw[<-k5,o2];exact (qj f2).1 mc)) k1)
   refine uo (hrun sQ.1) key fun e w' uq=>?_
   obtain⟨v,S',rfl,hf,SL,zL,NN,hr,fU,NP,hown⟩:=uq
   refine⟨v,rfl,?_⟩
   split at hq
   ·rename_i kJ
    simp only[Bool.and_eq_true] at kJ
    have QI:ids=[]:=by cases ids with | nil=>rfl | cons p ids=>cases kJ.2
    subst QI
    have QJ:Fr (fun _=>False) w w':=⟨hf.os,hf.tape,hf.output,hf.size,fun k hk _=>hf.block k hk fun hm=>by
     obtain⟨id,b,h1,_⟩:=(H.mv k).1 hm
     cases h1⟩
    have eE:=sim.grow hC w' QJ
    refine hnext _ _ _ S rho _ _ hq (eE.value o.dst hd _ _ ?_)
    cases r with
    | p x=>exact .p _ _ (oF kJ.1 hr)
    | own e es=>cases kJ.1
    | hown cs=>cases kJ.1
    | tu ys=>
     obtain⟨us,rfl,h1,h2⟩:=hr
     refine .tu _ us (by simpa using h1) fun i c u hi hu=>?_
     rw[List.getElem?_map] at hi
     obtain⟨z,hz,rfl⟩:=Option.map_eq_some_iff.1 hi
     exact .p _ _ (oF (List.all_eq_true.1 kJ.1 z (List.mem_of_getElem? hz)) (h2 i z u hz hu))
   have eE:=cu.handed hC bI H hh hf SL zL NN fU NP p7
   have eE:cu A V L S' rho ⟨s.t,app s.h (fz++fe)⟩ a w':=by rw[cJ];exact eE
   cases r with
   | p x=>exact hnext _ _ _ S' rho _ _ hq (eE.value o.dst hd _ _ (.p _ _ hr))
   | tu ys=>
    refine hnext _ _ _ S' rho _ _ hq (eE.value o.dst hd _ _ ?_)
    obtain⟨us,rfl,h1,h2⟩:=hr
    refine .tu _ us (by simpa using h1) fun i c u hi hu=>?_
    rw[List.getElem?_map] at hi
    obtain⟨z,hz,rfl⟩:=Option.map_eq_some_iff.1 hi
    exact .p _ _ (h2 i z u hz hu)
   | own e es=>
    obtain⟨hL,hb⟩:=hn _ _ _ hq
    have LX:app s.h (fz++fe) (o.dst.getD 0)=.row e es:=by
     rw[gy (fun p hp (e:p.1=_)=>?_),hb]
     rcases List.mem_append.1 hp with h | h
     ·exact hL (by rw[<-e];exact zK p h)
     obtain⟨hk,_⟩:=jR H fin fe fU p7
     have:p.1∈ids.map (·.1):=by rw[<-hk];exact List.mem_map.2 ⟨p,h,rfl⟩
     obtain⟨q,hq',QK⟩:=List.mem_map.1 this
     obtain⟨QL,_⟩:=own q.1 q.2 hq'
     exact hL (by rw[<-e,<-QK];exact QL)
    have wm:=eE.qg hC (o.dst.getD 0) (AB.row e es) (eE.nd hd) hL LX w' rfl rfl rfl (Nat.le_refl _) (fun k=>hasB w' (AB.row e es) v k) (fun _ _ _=>rfl) (fun k hk=>by
      have DW:=a6 rfl hk
      obtain⟨h1,h2,h3⟩:=hown k rfl (.inl DW)
      refine⟨hr.2 k DW,fun i hi li eR=>?_,?_⟩
      ·have lh:(app s.h (fz++fe) i).live:=li
       rw[cJ] at lh
       have eR:hasB w' (app s.h (fz++fe) i) (rho i) k:=eR
       rw[cJ] at eR
       rcases ez fe (app s.h fz) i with⟨b,m1,m2⟩ | ⟨m1,m2⟩
       ·obtain⟨Xe,oD⟩:=jR H fin fe fU p7
        obtain⟨gU,n,m3,_,m4⟩:=oD i b m1
        rcases m4 with m4 | ⟨_,m4⟩
        ·rw[m2,m4] at lh;exact lh
        rw[m2] at eR;exact h3 n (m4 k eR).2
       rw[m2] at lh eR
       have NQ:∀g,hasB w (app s.h fz i) (rho i) g->¬Mv w xs vs g:=fun g hg hm=>by
        obtain⟨wj,b',m3,m4⟩:=(H.mv g).1 hm
        obtain⟨m5,m6,m7⟩:=own wj b' m3
        have:=bI.dj i wj g hi m5 lh m6 hg (by show hasB w (app s.h fz wj) _ _;rw[m7];exact m4)
        subst this
        obtain⟨Xe,_⟩:=jR H fin fe fU p7
        have:i∈fe.map (·.1):=by rw[Xe];exact List.mem_map.2 ⟨_,m3,rfl⟩
        obtain⟨p,hp,QM⟩:=List.mem_map.1 this
        exact m1 p hp QM
       have eR:=dC (fun g hg=>hf.block g (bI.nG i g hi lh hg).1 (NQ g (.inl hg))) eR
       obtain⟨q1,q2,q3⟩:=bI.lv i k hi lh eR
       rcases h2 with h2 | h2
       ·omega
       exact NQ k eR h2
      ·rcases h2 with h2 | h2
       ·exact .inr (Nat.le_trans bI.fr.size h2)
       obtain⟨wj,b',m3,m4⟩:=(H.mv k).1 h2
       obtain⟨m5,m6,m7⟩:=own wj b' m3
       exact (bI.lv wj k m5 m6 (by show hasB w (app s.h fz wj) _ _;rw[m7];exact m4)).2.2) v (fun g hg=>⟨(hown g rfl (.inl (a6 rfl hg))).1,.inr hg⟩) (fun T=>by
      show aR _ _ _ e es (br rho (o.dst.getD 0) v (o.dst.getD 0))
      rw[aO]
      exact hr.1)
    exact hnext _ _ _ S' _ _ _ hq (wm.value o.dst hd _ _ (.ow _ _ fun _=>⟨.inr rfl,(aO _ _ _).symm⟩))
   | hown cs=>
    obtain⟨hL,hb⟩:=hn _ _ _ hq
    obtain⟨g0,Uc,c0,Ni,NR,iD⟩:=hr
    have LX:app s.h (fz++fe) (o.dst.getD 0)=.bb cs:=by
     rw[gy (fun p hp (e:p.1=_)=>?_),hb]
     rcases List.mem_append.1 hp with h | h
     ·exact hL (by rw[<-e];exact zK p h)
     obtain⟨hk,_⟩:=jR H fin fe fU p7
     have:p.1∈ids.map (·.1):=by rw[<-hk];exact List.mem_map.2 ⟨p,h,rfl⟩
     obtain⟨q,hq',QK⟩:=List.mem_map.1 this
     obtain⟨QL,_⟩:=own q.1 q.2 hq'
     exact hL (by rw[<-e,<-QK];exact QL)
    have wm:=eE.qg hC (o.dst.getD 0) (AB.bb cs) (eE.nd hd) hL LX w' rfl rfl rfl (Nat.le_refl _) (fun k=>hasB w' (AB.bb cs) v k) (fun _ _ _=>rfl) (fun k hk=>by
      obtain⟨h1,h2,h3⟩:=hown k rfl hk
      refine⟨iD k hk,fun i hi li eR=>?_,?_⟩
      ·have lh:(app s.h (fz++fe) i).live:=li
       rw[cJ] at lh
       have eR:hasB w' (app s.h (fz++fe) i) (rho i) k:=eR
       rw[cJ] at eR
       rcases ez fe (app s.h fz) i with⟨b,m1,m2⟩ | ⟨m1,m2⟩
       ·obtain⟨Xe,oD⟩:=jR H fin fe fU p7
        obtain⟨gU,n,m3,_,m4⟩:=oD i b m1
        rcases m4 with m4 | ⟨_,m4⟩
        ·rw[m2,m4] at lh;exact lh
        rw[m2] at eR;exact h3 n (m4 k eR).2
       rw[m2] at lh eR
       have NQ:∀g,hasB w (app s.h fz i) (rho i) g->¬Mv w xs vs g:=fun g hg hm=>by
        obtain⟨wj,b',m3,m4⟩:=(H.mv g).1 hm
        obtain⟨m5,m6,m7⟩:=own wj b' m3
        have:=bI.dj i wj g hi m5 lh m6 hg (by show hasB w (app s.h fz wj) _ _;rw[m7];exact m4)
        subst this
        obtain⟨Xe,_⟩:=jR H fin fe fU p7
        have:i∈fe.map (·.1):=by rw[Xe];exact List.mem_map.2 ⟨_,m3,rfl⟩
        obtain⟨p,hp,QM⟩:=List.mem_map.1 this
        exact m1 p hp QM
       have eR:=dC (fun g hg=>hf.block g (bI.nG i g hi lh hg).1 (NQ g (.inl hg))) eR
       obtain⟨q1,q2,q3⟩:=bI.lv i k hi lh eR
       rcases h2 with h2 | h2
       ·omega
       exact NQ k eR h2
      ·rcases h2 with h2 | h2
       ·exact .inr (Nat.le_trans bI.fr.size h2)
       obtain⟨wj,b',m3,m4⟩:=(H.mv k).1 h2
       obtain⟨m5,m6,m7⟩:=own wj b' m3
       exact (bI.lv wj k m5 m6 (by show hasB w (app s.h fz wj) _ _;rw[m7];exact m4)).2.2) v (fun g hg=>⟨(hown g rfl hg).1,.inr hg⟩) (fun T=>by
      exact⟨g0,Uc,c0,by rw[aO];exact Ni,NR⟩)
    exact hnext _ _ _ S' _ _ _ hq (wm.value o.dst hd _ _ (.bx _ _ _ fun _=>⟨.inr rfl,g0,by rw[aO];exact Ni,Ni⟩))
  exact hq.elim
 exact hq.elim
theorem ly.rep {A:cV} (hC:bV A.C) {V L S:Nat->Prop} {rho:Nat->Value} {s:AS} {a:Act} {w:World} (sim:cu A V L S rho s a w) {x:AV} {y:PV} {v:Value} (hv:ly s.h x y) (hx:bF S w A.C.P L rho s.h x v):
  bu (fun b=>S b\/∃id,L id/\(s.h id).live/\hasB w (s.h id) (rho id) b) w y v:=by
 have hS:∀b,S b->S b\/∃id,L id/\(s.h id).live/\hasB w (s.h id) (rho id) b:=fun b h=>.inl h
 cases hv with
 | p=>exact hx.fI.mono hS (fun _ _=>rfl)
 | nl=>cases hx;exact .nil _ _
 | row id e es hr=>
  obtain⟨hL,rfl⟩:=hx.de (by rw[hr];trivial)
  have hh:=sim.hp id hL
  rw[hr] at hh
  exact aR.zT hh hS fun g hg=>.inr ⟨id,hL,by rw[hr];trivial,.inl hg⟩
 | iv id es hr=>
  obtain⟨hL,rfl⟩:=hx.de (by rw[hr];trivial)
  have hh:=sim.hp id hL
  rw[hr] at hh
  exact bu.mono hh hS (fun _ _=>rfl)
 | aL id e es ps hr hp=>
  obtain⟨hL,rfl⟩:=hx.de (by rw[hr];trivial)
  have hh:=sim.hp id hL
  rw[hr] at hh
  obtain⟨hR,_⟩:=hh
  have bZ:(s.h id).live:=by rw[hr];trivial
  have Qv:aR A.C.P w (bu (fun b=>S b\/∃id,L id/\(s.h id).live/\hasB w (s.h id) (rho id) b) w) e ps (rho id):=by
   have Ud:=hR
   obtain⟨i,ws,h1,h2,h3,h4,h5,h6⟩:=Ud
   have old:∀{a:Nat} {q:List PV},ps[a]?=some q->∃r,es[a]?=some r:=fun {a q} ha=>⟨_,List.getElem?_eq_getElem (by rw[<-hp.len];exact aP ha)⟩
   refine⟨i,ws,h1,h2,by rw[hp.len];exact h3,fun q hq=>?_,h5,fun k q j y ha hj=>?_⟩
   ·obtain⟨k,hk⟩:=List.mem_iff_getElem?.1 hq
    obtain⟨r,hr⟩:=old hk
    rw[(hp.row k r q hr hk).1]
    exact h4 r (List.mem_of_getElem? hr)
   obtain⟨r,QN⟩:=old ha
   obtain⟨hlen,hcell⟩:=hp.row k r q QN ha
   obtain⟨x,hx⟩:∃x,r[j]?=some x:=⟨_,List.getElem?_eq_getElem (by rw[<-hlen];exact aP hj)⟩
   obtain⟨u,hu,wb⟩:=h6 k r j x QN hx
   refine⟨u,hu,?_⟩
   have:=hcell j x y hx hj
   cases this with
   | p x=>exact (bF.fI wb).mono hS (fun _ _=>rfl)
   | nl=>
    have wb:bF S w A.C.P L rho s.h .nl u:=wb
    cases wb
    exact .nil _ _
   | row e' xs=>
    have wb:aR A.C.P w (bu S w) e' xs u:=wb
    refine aR.zT wb hS fun b hb=>.inr ⟨id,hL,bZ,?_⟩
    obtain⟨g,u2,g1,g2,_⟩:=hR.zM QN hx
    have:u2=u:=by
     obtain⟨_,_,_,_,_,q3⟩:=(oE h3 h4 g1).1 g2
     rw[hu] at q3
     injection q3 with q3
     exact q3.symm
    subst this
    rw[hr]
    exact .inr (.inr ⟨_,_,_,_,_,_,rfl,g1,g2,hb⟩)
  exact aR.zT Qv (fun _ h=>h) fun g hg=>.inr ⟨id,hL,bZ,.inl hg⟩
theorem mh.at {h:Nat->AB} {as:List AV} {xs:List PV} (hv:mh h as xs):as.length=xs.length/\∀(i:Nat) a x,as[i]?=some a->xs[i]?=some x->ly h a x:=by
 induction hv with
 | nil=>exact⟨rfl,fun i a x h=>by simp at h⟩
 | cons h1 h2 ih=>
  refine⟨by simp[ih.1],fun i a x ha hx=>?_⟩
  cases i with
  | zero=>simp at ha hx;subst ha hx;exact h1
  | succ i=>exact ih.2 i a x (by simpa using ha) (by simpa using hx)
theorem View.rep {A:cV} (hC:bV A.C) {V L S:Nat->Prop} {rho:Nat->Value} {s:AS} {a:Act} {w:World} (sim:cu A V L S rho s a w) {x:AV} {y:PV} {v:Value} (hv:View s.h x y) (hx:bF S w A.C.P L rho s.h x v):
  bu (fun b=>S b\/∃id,L id/\(s.h id).live/\hasB w (s.h id) (rho id) b) w y v:=by
 have hS:∀b,S b->S b\/∃id,L id/\(s.h id).live/\hasB w (s.h id) (rho id) b:=fun b h=>.inl h
 cases hv with
 | one h1=>exact h1.rep hC sim hx
 | box id off cs xs hb qb=>
  obtain⟨hL,g,hg,hv⟩:=hx.gH (by rw[hb];trivial)
  have hh:=sim.hp id hL
  rw[hb] at hh
  obtain⟨g',ty,c,k1,k2,k3,k4⟩:=hh
  rw[hg] at k1
  injection k1 with k1
  injection k1 with k1
  injection k1 with k1
  subst k1
  obtain⟨hl,EH⟩:=qb.at
  have hU:∀(i:Nat) x,xs[i]?=some x->∃u,c[i]?=some u/\u.oneCell'=true/\bu (fun b=>S b\/∃id,L id/\(s.h id).live/\hasB w (s.h id) (rho id) b) w x u:=by
   intro i x hi
   obtain⟨y,hy⟩:∃y,cs[i]?=some y:=⟨_,List.getElem?_eq_getElem (by rw[hl];exact aP hi)⟩
   obtain⟨u,hu⟩:=jg k3.symm (aP hy)
   obtain⟨h5,h6⟩:=k4 _ _ _ hy hu
   exact⟨u,hu,h5,(EH i y x hy hi).rep hC sim h6⟩
  have:bu (fun b=>S b\/∃id,L id/\(s.h id).live/\hasB w (s.h id) (rho id) b) w (.ip xs) (.pointer (some ⟨g,0,none⟩)):=by
   refine .ip xs g 0 (fun i=>(c[i]?).getD undef) (.inr ⟨id,hL,by rw[hb];trivial,.inl (by rw[hg];rfl)⟩) (fun i x hi=>?_) fun i x hi=>?_
   ·obtain⟨u,h5,h6,h7⟩:=hU i x hi
    rw[Nat.zero_add,cell_of_row w g i c ty (0,0) k2,h5]
    exact⟨rfl,h6⟩
   obtain⟨u,h5,h6,h7⟩:=hU i x hi
   rw[h5]
   exact h7
  rw[hv]
  exact this.qf rfl
 | iP id off xs hb=>
  obtain⟨hL,g,hg,hv⟩:=hx.gH (by rw[hb];trivial)
  have hh:=sim.hp id hL
  rw[hb] at hh
  have LA:bu _ w (.ip xs) (rho id):=hh
  rw[hv]
  exact (LA.qf hg).mono hS (fun _ _=>rfl)
theorem p_.at {h:Nat->AB} {as:List AV} {xs:List PV} (hv:p_ h as xs):as.length=xs.length/\∀(i:Nat) a x,as[i]?=some a->xs[i]?=some x->View h a x:=by
 induction hv with
 | nil=>exact⟨rfl,fun i a x h=>by simp at h⟩
 | cons h1 h2 ih=>
  refine⟨by simp[ih.1],fun i a x ha hx=>?_⟩
  cases i with
  | zero=>simp at ha hx;subst ha hx;exact h1
  | succ i=>exact ih.2 i a x (by simpa using ha) (by simpa using hx)
theorem EW {A:cV} (hC:bV A.C) {o:Oper} {V L S:Nat->Prop} {rho:Nat->Value} {s:AS} {a:Act} {w:World} {K:KK} {next:Act->World->Prop} {Q:Exit->Act->World->Prop} (sim:cu A V L S rho s a w) (hd:∀d,o.dst=some d->d < A.n)
  (hn:∀v eff b,K v eff (some b)->¬L (o.dst.getD 0)/\s.h (o.dst.getD 0)=b)
  (hnext:∀v eff new S' rho' a' w',K v eff new->cu A (wc V o.dst) (zO L new (o.dst.getD 0)) S' rho' ⟨eu s.t o.dst v,app s.h eff⟩ a' w'->next a' w')
  (f:FuncId) (iw:List AV) (vs:Array Value) (hl:iw.length=vs.size)
  (hrep:∀(S2:Nat->Prop) (h2:Nat->AB),cu A V L S2 rho ⟨s.t,h2⟩ a w->∀(i:Nat) x v,iw[i]?=some x->vs.toList[i]?=some v->bF S2 w A.C.P L rho h2 x v)
  (hrun : (∃ fn : Func, A.C.P.funcs[f]? = some fn ∧ (fn.name == "runtime.NumGoroutine") = false ∧ fn.body.isNone = false) → (execOp a.eval o).run A.C.P w = .ok (.enter f vs) w) (hq : sG A.C s.h (o.dst.getD 0) f iw K) : o.wp A.C.P a w next Q := by
 unfold sG at hq
 split at hq
 ·exact Cg hC sim hd hn hnext f iw vs hl hrep hrun hq
 obtain⟨xs,r,GF,sQ,kJ,hq⟩:=hq
 obtain⟨NH,QP⟩:=GF.at
 have key:=sQ.2 (fun b=>S b\/∃id,L id/\(s.h id).live/\hasB w (s.h id) (rho id) b) w vs (hC.env _ _ _ _ sim.ev (fun b h=>.inl h) (fun _ _=>rfl) (Nat.le_refl _)) (fun b h=>h.elim (sim.st b) fun ⟨id,h1,h2,h3⟩=>(sim.lv id b h1 h2 h3).1) (by simp[<-NH,hl]) (fun j x v hj hv=>by
   rw[List.getElem?_map] at hj
   obtain⟨y,hy,rfl⟩:=Option.map_eq_some_iff.1 hj
   obtain⟨av,SM⟩:∃av,iw[j]?=some av:=⟨_,List.getElem?_eq_getElem (by rw[NH];exact aP hy)⟩
   exact (QP j av y SM hy).rep hC sim (hrep S s.h sim j av v SM (by simpa using hv))) (fun i j x y v u g hi hj hv hu hx=>by
   rw[List.getElem?_map] at hi
   obtain⟨z,_,rfl⟩:=Option.map_eq_some_iff.1 hi
   cases hx)
 refine uo (hrun sQ.1) key fun e w' uq=>?_
 obtain⟨v,S',rfl,hf,SL,zL,NN,hr,fU,NP,hown⟩:=uq
 refine⟨v,rfl,?_⟩
 have QJ:Fr (fun _=>False) w w':=⟨hf.os,hf.tape,hf.output,hf.size,fun k hk _=>hf.block k hk fun ⟨j,x,v,hj,_,hx,_⟩=>by
  rw[List.getElem?_map] at hj
  obtain⟨z,_,rfl⟩:=Option.map_eq_some_iff.1 hj
  cases hx⟩
 have eE:=sim.grow hC w' QJ
 refine hnext _ _ _ S rho _ _ hq (eE.value o.dst hd _ _ ?_)
 cases r with
 | p x=>exact .p _ _ (oF kJ hr)
 | own e es=>cases kJ
 | hown cs=>cases kJ
 | tu ys=>
  obtain⟨us,rfl,h1,h2⟩:=hr
  refine .tu _ us (by simpa using h1) fun i c u hi hu=>?_
  rw[List.getElem?_map] at hi
  obtain⟨z,hz,rfl⟩:=Option.map_eq_some_iff.1 hi
  exact .p _ _ (oF (List.all_eq_true.1 kJ z (List.mem_of_getElem? hz)) (h2 i z u hz hu))
theorem yc {P : Program} {w : World} {f : FuncId} {vs : Array Value} (h : ∃ fn : Func, P.funcs[f]? = some fn ∧ (fn.name == "runtime.NumGoroutine") = false ∧ fn.body.isNone = false) : (callFunc f vs).run P w = .ok (.enter f vs) w := by
 obtain⟨fn,h1,h2,h3⟩:=h
 have DR : ¬ fn.name = "runtime.NumGoroutine" := by simpa using h2
 cases hb:fn.body with
 | none=>rw[hb] at h3;cases h3
 | some b=>simp[callFunc,Sem.run,program,h1,DR,hb]
theorem z7 {α:Type} {a:Array α} (h:isNil a.toList=true):a=#[]:=by
 obtain⟨l⟩:=a
 cases l with
 | nil=>rfl
 | cons y l=>cases h
theorem pd {S:Nat->Prop} {w:World} {P:Program} {L:Nat->Prop} {rho:Nat->Value} {h:Nat->AB} {x:AV} {v:Value} {f:FuncId} {cap:List AV} (hc:tZ x=some (f,cap)) (hx:bF S w P L rho h x v):∃us:Array Value,v=.func (.func f) #[] us/\cap.length=us.size/\∀(i:Nat) c u,cap[i]?=some c->us[i]?=some u->bF S w P L rho h c u:=by
 cases x <;> simp only[tZ] at hc <;> try (cases hc;done)
 ·rename_i y
  have hx:=hx.fI
  cases y <;> simp only[DO] at hc <;> try (cases hc;done)
  ·rename_i z
   obtain rfl:=hx.ca
   unfold DN at hc
   split at hc
   ·rename_i fn first cp
    split at hc
    ·rename_i hn
     simp only[Bool.and_eq_true] at hn
     have e1:=z7 hn.1
     have e2:=z7 hn.2
     subst e1 e2
     cases fn <;> simp only[DM] at hc <;> try (cases hc;done)
     injection hc with hc
     injection hc with h1 h2
     subst h1 h2
     exact⟨#[],rfl,rfl,by simp⟩
    cases hc
   cases hc
  rename_i g cp
  injection hc with hc
  injection hc with h1 h2
  subst h1 h2
  cases hx
  rename_i us hl hr
  refine⟨us,rfl,by simpa using hl,fun i c u hc hu=>?_⟩
  rw[List.getElem?_map] at hc
  obtain⟨z,hz,rfl⟩:=Option.map_eq_some_iff.1 hc
  exact .p _ _ (hr i z u hz hu)
 injection hc with hc
 injection hc with h1 h2
 subst h1 h2
 cases hx
 exact⟨_,rfl,by assumption,by assumption⟩
theorem cu.loose {A:cV} {V L S:Nat->Prop} {rho:Nat->Value} {s:AS} {a:Act} {w:World} (sim:cu A V L S rho s a w) (hC:bV A.C) (w':World) (R:Nat->Prop) (hf:Fr R w w') (hR:∀k,R k->¬S k/\(∀i,L i->(s.h i).live->¬hasB w (s.h i) (rho i) k)/\(A.mv k\/A.w0.heap.size<=k)):cu A V L S rho s a w':=by
 have iW:∀b,S b->w'.heap[b]?=w.heap[b]?:=fun k hk=>hf.block k (sim.st k hk) (fun h=>(hR k h).1 hk)
 have T:jx S S w w' L L rho rho s.h s.h:=⟨fun b h=>h,iW,fun j hj=>⟨hj,fun hl=>⟨hl,rfl⟩⟩,fun j e' hj=>hj⟩
 exact
 {tm:=fun j hj=>(sim.tm j hj).lz T
  sz:=sim.sz,df:=sim.df,nb:=sim.nb,pn:=sim.pn
  ev:=hC.env _ _ _ _ sim.ev (fun b h=>h) iW hf.size
  s0:=sim.s0
  st:=fun b hb=>Nat.lt_of_lt_of_le (sim.st b hb) hf.size
  sb:=sim.sb
  hp:=fun j hj=>(sim.hp j hj).lz T (fun li g hg=>hf.block g (sim.lv j g hj li hg).1 (fun h=>(hR g h).2.1 j hj li hg)) (fun _=>rfl)
  dj:=fun i j g hi hj li lj eR iC=>sim.dj i j g hi hj li lj (dC (fun k hk=>hf.block k (sim.nG i k hi li hk).1 (fun h=>(hR k h).2.1 i hi li (.inl hk))) eR) (dC (fun k hk=>hf.block k (sim.nG j k hj lj hk).1 (fun h=>(hR k h).2.1 j hj lj (.inl hk))) iC)
  lv:=fun i g hi li hg=>by obtain⟨h1,h2⟩:=sim.lv i g hi li (dC (fun k hk=>hf.block k (sim.nG i k hi li hk).1 (fun h=>(hR k h).2.1 i hi li (.inl hk))) hg);exact⟨Nat.lt_of_lt_of_le h1 hf.size,h2⟩
  fr:=sim.fr.next hf.os hf.tape hf.output hf.size fun k hk hn=>hf.block k (Nat.lt_of_lt_of_le hk sim.fr.size) fun h=>by
   rcases (hR k h).2.2 with h | h
   ·exact hn h
   omega }
theorem nM:∀{l:List AV} {as:List AV} {z:AV},oA l=some (as,z)->l=as++[z]
 | [],_,_,h=>by cases h
 | [x],_,_,h=>by cases h;rfl
 | x::y::r,as,z,h=>by
  rw[oA] at h
  split at h
  ·rename_i l z' h2
   cases h
   rw[nM h2]
   rfl
  cases h
theorem Jr {h:Nat->AB} {d:Nat}:∀{fz:List (Nat×AB)},(∀p∈fz,p.1≠d)->app h fz d=h d:=by
 intro fz
 induction fz generalizing h with
 | nil=>intro _;rfl
 | cons p fz ih=>
  intro hp
  obtain⟨i,b⟩:=p
  show app (br h i b) fz d=h d
  rw[ih fun q hq=>hp q (by simp[hq]),bw _ _ (fun e=>hp (i,b) (by simp) e.symm)]
theorem EX {A:cV} (hC:bV A.C) {o:Oper} {V L S:Nat->Prop} {rho:Nat->Value} {s:AS} {a:Act} {w:World} {K:KK} {next:Act->World->Prop} {Q:Exit->Act->World->Prop} (sim:cu A V L S rho s a w) (hd:∀d,o.dst=some d->d < A.n)
  (hn:∀v eff b,K v eff (some b)->¬L (o.dst.getD 0)/\s.h (o.dst.getD 0)=b)
  (hnext:∀v eff new S' rho' a' w',K v eff new->cu A (wc V o.dst) (zO L new (o.dst.getD 0)) S' rho' ⟨eu s.t o.dst v,app s.h eff⟩ a' w'->next a' w')
  (f:FuncId) (iw:List AV) (vs:Array Value) (hl:iw.length=vs.size)
  (hrep:∀(S2:Nat->Prop) (h2:Nat->AB),cu A V L S2 rho ⟨s.t,h2⟩ a w->∀(i:Nat) x v,iw[i]?=some x->vs.toList[i]?=some v->bF S2 w A.C.P L rho h2 x v)
  (hrun : (∃ fn : Func, A.C.P.funcs[f]? = some fn ∧ (fn.name == "runtime.NumGoroutine") = false ∧ fn.body.isNone = false) → (execOp a.eval o).run A.C.P w = .ok (.enter f vs) w) (hq : sJ A.C s.h (o.dst.getD 0) f iw K) : o.wp A.C.P a w next Q := by
 unfold sJ at hq
 split at hq
 case h_2=>exact hq.elim
 rename_i as id EH
 have Js:=nM EH
 split at hq
 case h_2=>exact hq.elim
 rename_i ty c jO bb
 split at hq
 case h_2=>exact hq.elim
 rename_i ng
 split at hq
 case h_2=>exact hq.elim
 rename_i e es aL
 obtain⟨ws,vb,GF,NB⟩:∃ws vb,vs.toList=ws++[vb]/\as.length=ws.length:=by
  have b8:vs.toList≠[]:=fun e=>by
   have:vs.size=0:=by simpa using congrArg List.length e
   rw[Js] at hl;simp at hl;omega
  refine⟨vs.toList.dropLast,vs.toList.getLast b8,(List.dropLast_concat_getLast b8).symm,?_⟩
  rw[Js] at hl
  simp at hl ⊢
  omega
 have z8:=hrep S s.h sim as.length (.bx id 0) vb (by rw[Js];simp) (by rw[GF,NB];simp)
 have QQ:∀(i:Nat) c v,as[i]?=some c->ws[i]?=some v->bF S w A.C.P L rho s.h c v:=fun i c v h1 h2=>hrep S s.h sim i c v (by rw[Js,List.getElem?_append_left (List.getElem?_eq_some_iff.1 h1).1];exact h1) (by rw[GF,List.getElem?_append_left (List.getElem?_eq_some_iff.1 h2).1];exact h2)
 obtain⟨jQ,g0,mq,Ue⟩:L id/\∃g,rho id=.pointer (some ⟨g,0,none⟩)/\vb=.pointer (some ⟨g,0,none⟩):=by
  cases z8 with
  | bx _ _ _ hv=>exact hv (by rw[bb];trivial)
 obtain⟨xs,fz,S2,⟨r,ch,wk,sQ,hq⟩,bI,hpv,xZ,hF,zK,hlen⟩:=wY (t:=s.t) hC as ws S s.h NB sim (Xd.refl _) QQ hq
 split at hq
 case h_2=>exact hq.elim
 rename_i hok
 simp only[Bool.and_eq_true,Bool.not_eq_true'] at hok
 obtain⟨kJ,SO,SP,b8⟩:=hok
 have b8:id≠jO:=fun e=>by rw[e] at b8;simp at b8
 have GV:(app s.h fz) id=.fF ty [c,.ow jO]:=by rw[jP SO,bb]
 have GW:(app s.h fz) jO=.row e es:=by rw[jP SP,aL]
 have Pz:=bI.hp id jQ
 have Pz:eC S2 w A.C.P L rho (app s.h fz) id (app s.h fz id):=Pz
 rw[GV] at Pz
 obtain⟨g,cells,k1,k2,k3,k4⟩:=Pz
 rw[mq] at k1
 obtain rfl:g0=g:=by injection k1 with k1;injection k1 with k1;injection k1
 obtain⟨u0,u1,hcells⟩:∃u0 u1,cells=#[u0,u1]:=by
  obtain⟨cl⟩:=cells
  match cl,k3 with
  | [x,y],_=>exact⟨x,y,rfl⟩
 subst hcells
 obtain⟨o0,l0⟩:=k4 0 c u0 rfl rfl
 obtain⟨o1,l1⟩:=k4 1 (.ow jO) u1 rfl rfl
 obtain⟨xc,NS⟩:L jO/\u1=rho jO:=by
  cases l1 with
  | ow _ _ hv=>exact hv (by rw[GW];trivial)
 have Uf:u0=.pointer none\/u0=.pointer (some ⟨g0,0,none⟩):=by
  unfold Kz at ng
  split at ng
  ·cases l0 with
   | p _ _ hx=>cases hx;exact .inl rfl
  ·have hi:=Nat.eq_of_beq_eq_true ng
   subst hi
   cases l0 with
   | bx _ _ _ hv=>
    obtain⟨_,g',e1,e2⟩:=hv (by rw[GV];trivial)
    rw[mq] at e1
    injection e1 with e1;injection e1 with e1;injection e1 with e1
    subst e1
    exact .inr e2
  cases ng
 have GM:=bI.hp jO xc
 have GM:eC S2 w A.C.P L rho (app s.h fz) jO (app s.h fz jO):=GM
 rw[GW] at GM
 have GM:aR A.C.P w (bu S2 w) e es (rho jO):=GM
 rw[<-NS] at GM
 have Ch:(app s.h fz id).live:=by rw[GV];trivial
 have tK:(app s.h fz jO).live:=by rw[GW];trivial
 have Ci:=bI.nG id g0 jQ Ch (by rw[mq];rfl)
 have qk:∀k,cU u1=some k->k < w.heap.size/\¬S2 k/\(A.mv k\/A.w0.heap.size<=k)/\k≠g0:=fun k hk=>by
  obtain⟨a1,a2,a3⟩:=bI.nG jO k xc tK (by rw[<-NS];exact hk)
  refine⟨a1,a2,a3,fun e=>b8 ?_⟩
  subst e
  exact bI.Pp id jO k jQ xc Ch tK (by rw[mq];rfl) (by rw[<-NS];exact hk)
 have QP:vs=(ws++[Value.pointer (some ⟨g0,0,none⟩)]).toArray:=by
  rw[<-Ue,<-GF]
 have key:=sQ.2 S2 w ws g0 u0 u1 bI.ev bI.st hlen hpv k2 Uf GM Ci.2.1 (fun k hk=>⟨(qk k hk).2.1,(qk k hk).2.2.2,(qk k hk).1⟩)
 rw[<-QP] at key
 refine uo (hrun sQ.1) key fun e' w' uq=>?_
 obtain⟨v,rfl,hf,hr,uq⟩:=uq
 refine⟨v,rfl,?_⟩
 have hval:∀{L':Nat->Prop} {rho':Nat->Value} {h':Nat->AB},bF S2 w' A.C.P L' rho' h' (Na (o.dst.getD 0) r) v:=by
  intro L' rho' h'
  cases r with
  | p x=>exact .p _ _ hr
  | own e es=>cases kJ
  | hown cs=>cases kJ
  | tu ys=>
   obtain⟨us,rfl,q1,q2⟩:=hr
   refine .tu _ us (by simpa using q1) fun i c u hi hu=>?_
   rw[List.getElem?_map] at hi
   obtain⟨z,hz,rfl⟩:=Option.map_eq_some_iff.1 hi
   exact .p _ _ (q2 i z u hz hu)
 split at hq
 case h_2=>
  have eE:=(bI.kill jO).kill id
  have wm:=eE.loose hC w' (fun k=>k=g0\/cU u1=some k) hf (fun k hk=>by
   have dead:∀i,(br (br (app s.h fz) jO .none) id .none i).live->i≠id/\i≠jO/\(app s.h fz i).live:=fun i li=>by
    rcases bD (br (app s.h fz) jO .none) id .none i with⟨rfl,h⟩ | ⟨h1,h⟩
    ·rw[h] at li;exact li.elim
    rw[h] at li
    rcases bD (app s.h fz) jO .none i with⟨rfl,h3⟩ | ⟨h2,h3⟩
    ·rw[h3] at li;exact li.elim
    rw[h3] at li;exact⟨h1,h2,li⟩
   have KI:∀i,(br (br (app s.h fz) jO .none) id .none i).live->hasB w (br (br (app s.h fz) jO .none) id .none i) (rho i) k->hasB w (app s.h fz i) (rho i) k:=fun i li hg=>eD (dead i li).2.1 (eD (dead i li).1 hg)
   rcases hk with rfl | hk
   ·exact⟨Ci.2.1,fun i hi li eR=>(dead i li).1 (bI.dj i id k hi jQ (dead i li).2.2 Ch (KI i li eR) (.inl (by rw[mq];rfl))),Ci.2.2⟩
   exact⟨(qk k hk).2.1,fun i hi li eR=>(dead i li).2.1 (bI.dj i jO k hi xc (dead i li).2.2 tK (KI i li eR) (.inl (by rw[<-NS];exact hk))),(qk k hk).2.2.1⟩)
  have e6:br (br (app s.h fz) jO .none) id .none=app s.h (fz++[(jO,.none),(id,.none)]):=by rw[cJ];rfl
  have wm:cu A V L S2 rho ⟨s.t,br (br (app s.h fz) jO .none) id .none⟩ a w':=wm
  rw[e6] at wm
  exact hnext _ _ _ S2 rho _ w' hq (wm.value o.dst hd _ _ hval)
 rename_i wk
 obtain⟨u1',sR,KJ,GI⟩:=uq
 obtain⟨hL,hb⟩:=hn _ _ _ hq
 have NT:o.dst.getD 0≠id:=fun e=>hL (e ▸ jQ)
 have NU:o.dst.getD 0≠jO:=fun e=>hL (e ▸ xc)
 have Ug:g0 < w'.heap.size:=Nat.lt_of_lt_of_le Ci.1 hf.size
 obtain⟨w1,Jt⟩:∃w1:World,w1={ w' with heap:=w'.heap.setIfInBounds g0 (.cells #[u0,u1] ty (0,0)) }:=⟨_,rfl⟩
 have Uh:w1.heap[g0]?=some (.cells #[u0,u1] ty (0,0)):=by rw[Jt];simp[Ug]
 have PA:∀k,k≠g0->w1.heap[k]?=w'.heap[k]?:=fun k hk=>by rw[Jt];simp[Array.getElem?_setIfInBounds,hk.symm]
 have QR:w1.heap.size=w'.heap.size:=by rw[Jt];simp
 have Ui:∀k,cU u1'=some k->k≠g0:=fun k hk=>by
  rcases (GI k hk).2 with h | h
  ·exact (qk k h).2.2.2
  have:=Ci.1;omega
 have eE:=bI.kill jO
 have wm:=eE.new hC (o.dst.getD 0) (.row e wk) (bI.nd hd) hL (by
   show br (app s.h fz) jO .none (o.dst.getD 0)=_
   rw[bw _ _ NU,Jr fun p hp e=>hL (by rw[<-e];exact zK p hp),hb]) w1 (by rw[Jt];exact hf.os) (by rw[Jt];exact hf.tape) (by rw[Jt];exact hf.output) (by rw[QR];exact hf.size) (fun k=>cU u1=some k)
  (fun k hk NF=>by
   by_cases e:k=g0
   ·subst e;rw[Uh,k2]
   rw[PA k e];exact hf.block k hk (fun h=>h.elim e NF))
  (fun k hk=>by
   refine⟨(qk k hk).2.1,fun i hi li eR=>?_,(qk k hk).2.2.1⟩
   have lh:(br (app s.h fz) jO .none i).live:=li
   rcases bD (app s.h fz) jO .none i with⟨rfl,h⟩ | ⟨LZ,h⟩
   ·rw[h] at lh;exact lh.elim
   rw[h] at lh
   exact LZ (bI.dj i jO k hi xc lh tK (eD LZ eR) (.inl (by rw[<-NS];exact hk))))
  u1' (fun k hk=>by rw[QR];exact⟨(GI k hk).1,(GI k hk).2.symm⟩)
  (fun T=>by
   show aR A.C.P w1 (bu S2 w1) e wk (br rho (o.dst.getD 0) u1' (o.dst.getD 0))
   rw[aO]
   exact KJ.lz (fun k hk=>PA k (Ui k hk)) (fun x u hx=>hx.mono (fun _ h=>h) fun k hk=>PA k fun e=>Ci.2.1 (e ▸ hk)))
 have QS:(br (app s.h fz) jO .none) id=.fF ty [c,.ow jO]:=by rw[bw _ _ b8,GV]
 have L0:br rho (o.dst.getD 0) u1' id=.pointer (some ⟨g0,0,none⟩):=by rw[bw _ _ NT.symm,mq]
 have EY:=wm.write hC id (.inl jQ) (by show ((br (app s.h fz) jO .none) id).live;rw[QS];trivial) (.fF ty [sH ch id c,.ow (o.dst.getD 0)]) (fun _ h=>by cases h) w' (by rw[Jt]) (by rw[Jt]) (by rw[Jt]) QR.symm
  (fun k hk=>(PA k fun e=>hk (by rw[L0,e];rfl)).symm)
  (fun T=>by
   refine⟨g0,_,L0,sR,rfl,fun j x u hj hu=>?_⟩
   match j,hj,hu with
   | 0,hj,hu=>
    cases hj
    cases ch with
    | true=>
     cases hu
     exact⟨rfl,.bx id 0 _ fun _=>⟨.inl jQ,g0,L0,rfl⟩⟩
    | false=>
     cases hu
     exact⟨o0,(l0.lz (S':=S2) (w':=w') (L':=fun i=>L i\/i=o.dst.getD 0) (rho':=br rho (o.dst.getD 0) u1') (h':=br (br (app s.h fz) jO .none) id (.fF ty [sH false id c,.ow (o.dst.getD 0)])) ⟨fun _ h=>h,fun k hk=>hf.block k (bI.st k hk) (fun h=>h.elim (fun e=>Ci.2.1 (e ▸ hk)) (fun h=>(qk k h).2.1 hk)),fun j hj=>by
       rcases bD (br (app s.h fz) jO .none) id (.fF ty [sH false id c,.ow (o.dst.getD 0)]) j with⟨rfl,h⟩ | ⟨QT,h⟩
       ·exact⟨by rw[GV];trivial,fun hl=>⟨.inl hl,bw _ _ NT.symm⟩⟩
       ·rw[h] at hj
        rcases bD (app s.h fz) jO .none j with⟨rfl,h3⟩ | ⟨Nc,h3⟩
        ·rw[h3] at hj;exact hj.elim
        rw[h3] at hj
        exact⟨hj,fun hl=>⟨.inl hl,bw _ _ fun e=>hL (e ▸ hl)⟩⟩,fun j e2 hj=>by
       rcases bD (br (app s.h fz) jO .none) id (.fF ty [sH false id c,.ow (o.dst.getD 0)]) j with⟨rfl,h⟩ | ⟨QT,h⟩
       ·rw[h] at hj;cases hj
       rw[h] at hj
       rcases bD (app s.h fz) jO .none j with⟨rfl,h3⟩ | ⟨Nc,h3⟩
       ·rw[h3] at hj;cases hj
       rw[h3] at hj;exact hj⟩)⟩
   | 1,hj,hu=>
    cases hj
    cases hu
    obtain⟨i0,VU,Nh,_,hown,_⟩:=KJ
    refine⟨?_,.ow _ _ fun _=>⟨.inr rfl,(aO _ _ _).symm⟩⟩
    obtain⟨a0,c0,ND⟩:=cP hown
    rw[ND]
    rfl
   | n+2,hj,hu=>cases hj)
 have e6:br (br (app s.h fz) jO .none) id (.fF ty [sH ch id c,.ow (o.dst.getD 0)])=app s.h (fz++[(jO,.none),(id,.fF ty [sH ch id c,.ow (o.dst.getD 0)])]):=by rw[cJ];rfl
 have EY:cu A V (fun i=>L i\/i=o.dst.getD 0) S2 (br rho (o.dst.getD 0) u1') ⟨s.t,br (br (app s.h fz) jO .none) id (.fF ty [sH ch id c,.ow (o.dst.getD 0)])⟩ a w':=EY
 rw[e6] at EY
 exact hnext _ _ _ S2 (br rho (o.dst.getD 0) u1') _ w' hq (EY.value o.dst hd _ _ hval)
theorem Ju {A:cV} {o:Oper} (c:Call) (g:Operand) (aU:o.op=.call c) (hc:c.callee=.value g):gF A o:=by
 intro V L S rho s a w K next Q hC sim hV hd hq hn hnext
 obtain⟨callee,args,argTypes⟩:=c
 simp only at hc
 subst hc
 simp only[bY,aU,ef] at hq
 have hg:=bH sim g fun j hj=>hV j (by simp[aU,Op.operands,Call.operands,hj])
 have hargs:∀(S2:Nat->Prop) (h2:Nat->AB),cu A V L S2 rho ⟨s.t,h2⟩ a w->∀x∈args.toList,bF S2 w A.C.P L rho h2 (ev s.t x) (a.eval x):=fun S2 h2 bI x hx=>bH bI x fun j hj=>hV j (by simp[aU,Op.operands,Call.operands];rw[<-hj];exact .inr (Array.mem_toList_iff.1 hx))
 have Cd:∀(S2:Nat->Prop) (h2:Nat->AB),cu A V L S2 rho ⟨s.t,h2⟩ a w->∀(i:Nat) x v,(args.toList.map (ev s.t))[i]?=some x->(args.map a.eval).toList[i]?=some v->bF S2 w A.C.P L rho h2 x v:=by
  intro S2 h2 bI i x v hx hv
  rw[List.getElem?_map] at hx
  obtain⟨y,hy,rfl⟩:=Option.map_eq_some_iff.1 hx
  rw[Array.toList_map,List.getElem?_map,hy] at hv
  simp at hv
  rw[<-hv]
  exact hargs S2 h2 bI y (List.mem_of_getElem? hy)
 split at hq
 case h_2=>exact hq.elim
 rename_i f cap SQ
 obtain⟨us,he,hl,_⟩:=pd SQ hg
 have D2 : (∀ (S2 : Nat → Prop) (h2 : Nat → AB), cu A V L S2 rho ⟨s.t, h2⟩ a w → ∀ (i : Nat) x v, (args.toList.map (ev s.t) ++ cap)[i]? = some x → (args.map a.eval ++ us).toList[i]? = some v → bF S2 w A.C.P L rho h2 x v) ∧ ((∃ fn : Func, A.C.P.funcs[f]? = some fn ∧ (fn.name == "runtime.NumGoroutine") = false ∧ fn.body.isNone = false) → (execOp a.eval o).run A.C.P w = .ok (.enter f (args.map a.eval ++ us)) w) := by
  refine⟨fun S2 h2 bI i x v hx hv=>?_,fun QU=>?_⟩
  ·rw[Array.toList_append] at hv
   by_cases hi:i < args.size
   ·rw[List.getElem?_append_left (by simpa using hi)] at hx
    rw[List.getElem?_append_left (by simpa using hi)] at hv
    exact Cd S2 h2 bI i x v hx hv
   rw[List.getElem?_append_right (by simp;omega)] at hx
   rw[List.getElem?_append_right (by simp;omega)] at hv
   simp only[List.length_map,Array.length_toList,Array.toList_map] at hx hv
   have PB:=bH bI g fun j hj=>hV j (by simp[aU,Op.operands,Call.operands,hj])
   obtain⟨VV,qe,_,iD⟩:=pd SQ PB
   rw[he] at qe
   injection qe with _ _ qe
   subst qe
   exact iD _ x v hx (by simpa using hv)
  simp[execOp,aU,resolve,he,Deferred.ofValue,invoke,yc QU]
 split at hq
 ·exact EW hC sim hd hn hnext f _ (args.map a.eval++us) (by simp[hl]) D2.1 D2.2 hq
 exact EX hC sim hd hn hnext f _ (args.map a.eval++us) (by simp[hl]) D2.1 D2.2 hq
end Go.AM
namespace Go.AM
open Go.RowKit
def Ext (h h':Nat->AB):Prop:=∀id,h id=.none\/h' id=h id
theorem Ext.row {h h':Nat->AB} (H:Ext h h') {id:Nat} {e:TypeId} {es:List (List PV)} (hr:h id=.row e es):h' id=.row e es:=by
 rcases H id with h1 | h1
 ·rw[h1] at hr;cases hr
 rw[h1,hr]
theorem Ext.iv {h h':Nat->AB} (H:Ext h h') {id:Nat} {es:List (List PV)} (hr:h id=.iv es):h' id=.iv es:=by
 rcases H id with h1 | h1
 ·rw[h1] at hr;cases hr
 rw[h1,hr]
theorem Ext.box {h h':Nat->AB} (H:Ext h h') {id:Nat} {cs:List AV} (hr:h id=.box cs):h' id=.box cs:=by
 rcases H id with h1 | h1
 ·rw[h1] at hr;cases hr
 rw[h1,hr]
theorem Ext.bb {h h':Nat->AB} (H:Ext h h') {id:Nat} {cs:List HC} (hr:h id=.bb cs):h' id=.bb cs:=by
 rcases H id with h1 | h1
 ·rw[h1] at hr;cases hr
 rw[h1,hr]
theorem Ext.fF {h h':Nat->AB} (H:Ext h h') {id:Nat} {ty:TypeId} {cs:List AV} (hr:h id=.fF ty cs):h' id=.fF ty cs:=by
 rcases H id with h1 | h1
 ·rw[h1] at hr;cases hr
 rw[h1,hr]
theorem Ext.iP {h h':Nat->AB} (H:Ext h h') {id:Nat} {cs:List PV} (hr:h id=.iP cs):h' id=.iP cs:=by
 rcases H id with h1 | h1
 ·rw[h1] at hr;cases hr
 rw[h1,hr]
theorem Ext.map {h h':Nat->AB} (H:Ext h h') {id:Nat} {mk:MK} {es:List (Value×PV)} (hr:h id=.map mk es):h' id=.map mk es:=by
 rcases H id with h1 | h1
 ·rw[h1] at hr;cases hr
 rw[h1,hr]
theorem Ext.aL {h h':Nat->AB} (H:Ext h h') {id:Nat} {e:TypeId} {es:List (List HX)} (hr:h id=.aL e es):h' id=.aL e es:=by
 rcases H id with h1 | h1
 ·rw[h1] at hr;cases hr
 rw[h1,hr]
theorem EZ {h h':Nat->AB} (H:Ext h h') {a:AV} {n:Nat} (hq:hlen h a=some n):hlen h' a=some n:=by
 unfold hlen at hq ⊢
 split at hq
 ·rename_i id
  split at hq
  ·rename_i e es hr
   rw[H.aL hr]
   exact hq
  cases hq
 cases hq
theorem E0 {h h':Nat->AB} (H:Ext h h') {a:AV} {K:List (List PV)->Prop} (hq:fH h a K):hlen h' a=none:=by
 unfold fH at hq
 unfold hlen
 split at hq
 ·rfl
 ·rfl
 ·rename_i id
  simp only
  split at hq
  ·rename_i hr;rw[H.row hr]
  ·rename_i hr;rw[H.iv hr]
  exact hq.elim
 exact hq.elim
theorem qm {h h':Nat->AB} (H:Ext h h') {a:AV} (h2:ry h a=true):ry h' a=true:=by
 cases a with
 | p x=>cases x <;> exact h2
 | nl=>rfl
 | ow id=>
  unfold ry at h2 ⊢
  simp only at h2 ⊢
  split at h2
  ·rename_i hr;rw[H.row hr]
  ·rename_i hr;rw[H.aL hr]
  ·rename_i hr;rw[H.iv hr]
  cases h2
 | bx id off=>
  unfold ry at h2 ⊢
  simp only at h2 ⊢
  split at h2
  ·cases h2
  rename_i b8
  rcases H id with h4 | h4
  ·exact absurd h4 (by simpa using b8)
  rw[h4]
  split
  ·rename_i h5;exact absurd h5 (by simpa using b8)
  rfl
 | vw id lo hi=>exact h2
 | rp id i off=>
  unfold ry at h2 ⊢
  simp only at h2 ⊢
  split at h2
  ·rename_i hr;rw[H.row hr]
  ·rename_i hr;rw[H.aL hr]
  cases h2
 | fn f cap=>rfl
 | tu xs=>exact h2
 | st xs=>exact h2
 | junk=>exact h2
theorem xd {h h':Nat->AB} (H:Ext h h') {a:AV} {K:PV->List (Nat×AB)->Prop} (hq:jN h a K):∃x fz,K x fz/\∀K':PV->List (Nat×AB)->Prop,K' x fz->jN h' a K':=by
 unfold jN at hq
 split at hq
 ·exact⟨_,_,hq,fun K' h=>h⟩
 ·exact⟨_,_,hq,fun K' h=>h⟩
 ·split at hq
  ·rename_i hr
   exact⟨_,_,hq,fun K' h=>by simp only[jN,H.row hr];exact h⟩
  ·rename_i hr
   exact⟨_,_,hq,fun K' h=>by simp only[jN,H.iv hr];exact h⟩
  exact hq.elim
 ·split at hq
  ·rename_i hr
   split at hq
   ·rename_i hx
    exact⟨_,_,hq,fun K' h=>by simp only[jN,H.box hr,hx];exact h⟩
   exact hq.elim
  ·rename_i hr
   exact⟨_,_,hq,fun K' h=>by simp only[jN,H.iP hr];exact h⟩
  exact hq.elim
 exact hq.elim
theorem xe {h h':Nat->AB} (H:Ext h h'):∀{as:List AV} {K:List PV->List (Nat×AB)->Prop},sF h as K->∃xs fz,K xs fz/\∀K':List PV->List (Nat×AB)->Prop,K' xs fz->sF h' as K':=by
 intro as
 induction as with
 | nil=>intro K hq;exact⟨_,_,hq,fun K' h=>h⟩
 | cons a as ih=>
  intro K hq
  unfold sF at hq
  obtain⟨x,fz,hq,hK⟩:=xd H hq
  obtain⟨xs,W0,hq,z_⟩:=ih hq
  refine⟨_,_,hq,fun K' h=>?_⟩
  unfold sF
  exact hK _ (z_ _ h)
theorem gn {h h':Nat->AB} (H:Ext h h') {a:AV} {K:PV->List (Nat×AB)->Prop} (hq:gC h a K):∃x fz,K x fz/\∀K':PV->List (Nat×AB)->Prop,K' x fz->gC h' a K':=by
 unfold gC at hq
 split at hq
 ·obtain⟨xs,fz,hq,hK⟩:=xe H hq
  exact⟨_,_,hq,fun K' h=>hK _ h⟩
 rename_i b8
 obtain⟨x,fz,hq,hK⟩:=xd H hq
 refine⟨x,fz,hq,fun K' h=>?_⟩
 unfold gC
 split
 ·exact absurd rfl (b8 _ _)
 exact hK _ h
theorem ur {h h':Nat->AB} (H:Ext h h') {a:AV} {K:List (List PV)->Prop} (hq:fH h a K):∃es,K es/\∀K':List (List PV)->Prop,K' es->fH h' a K':=by
 unfold fH at hq
 split at hq
 ·exact⟨_,hq,fun K' h=>h⟩
 ·exact⟨_,hq,fun K' h=>h⟩
 ·split at hq
  ·rename_i hr
   exact⟨_,hq,fun K' h=>by simp only[fH,H.row hr];exact h⟩
  ·rename_i hr
   exact⟨_,hq,fun K' h=>by simp only[fH,H.iv hr];exact h⟩
  exact hq.elim
 exact hq.elim
theorem E1 {h h':Nat->AB} (H:Ext h h') {fs:List (Nat×Nat×Bool)} {rho:Operand->AV}:∀{ps:List (Nat×Operand)} {cs:List PV} {K:List PV->List (Nat×AB)->Prop},iy h fs rho ps cs K->∃x fz,K x fz/\∀K':List PV->List (Nat×AB)->Prop,K' x fz->iy h' fs rho ps cs K':=by
 intro ps
 induction ps with
 | nil=>intro cs K hq;exact⟨_,_,hq,fun K' h=>h⟩
 | cons p ps ih=>
  intro cs K hq
  obtain⟨i,x⟩:=p
  unfold iy at hq
  split at hq
  ·rename_i h1
   obtain⟨y,fz,hq,hK⟩:=gn H hq
   split at hq
   ·rename_i ys h2
    split at hq
    ·rename_i h3
     obtain⟨z,W0,hq,z_⟩:=ih hq
     refine⟨z,fz++W0,hq,fun K' h=>?_⟩
     simp only[iy,h1]
     refine hK _ ?_
     simp only[h2,h3]
     exact z_ _ h
    exact hq.elim
   exact hq.elim
  exact hq.elim
theorem xf {h h':Nat->AB} (H:Ext h h') {fs:List (Nat×Nat×Bool)} {rho:Operand->AV}:∀{ps:List (Nat×Operand)} {cs:List AV} {K:List AV->Prop},js h fs rho ps cs K->∃z,K z/\∀K':List AV->Prop,K' z->js h' fs rho ps cs K':=by
 intro ps
 induction ps with
 | nil=>intro cs K hq;exact⟨cs,hq,fun K' h=>h⟩
 | cons p ps ih=>
  intro cs K hq
  obtain⟨i,x⟩:=p
  unfold js at hq
  split at hq
  ·rename_i h1
   split at hq
   ·rename_i h2
    obtain⟨z,h3,h4⟩:=ih hq
    refine⟨z,h3,fun K' hk=>?_⟩
    unfold js
    simp only[Bool.and_eq_true] at h2
    simp only[h1,h2.1.1,h2.1.2,qm H h2.2,Bool.and_self]
    exact h4 K' hk
   exact hq.elim
  exact hq.elim
theorem E2 {h h':Nat->AB} (H:Ext h h') {b:Bool} {a:AV} {K:PV->List (Nat×AB)->Prop} (hq:sK b h a K):∃x fz,K x fz/\∀K':PV->List (Nat×AB)->Prop,K' x fz->sK b h' a K':=by
 unfold sK at hq
 split at hq
 ·exact⟨_,_,hq,fun K' h=>h⟩
 rename_i b8
 obtain⟨x,fz,h1,h2⟩:=gn H hq
 refine⟨x,fz,h1,fun K' h=>?_⟩
 unfold sK
 split
 ·exact (b8 rfl rfl).elim
 exact h2 K' h
theorem uu {h h':Nat->AB} (H:Ext h h') {b:Bool} {size:Nat} {rho:Operand->AV}:∀{ps:List (Nat×Operand)} {cs:List (List PV)} {K:List (List PV)->List (Nat×AB)->Prop},fG b h size rho ps cs K->∃x fz,K x fz/\∀K':List (List PV)->List (Nat×AB)->Prop,K' x fz->fG b h' size rho ps cs K':=by
 intro ps
 induction ps with
 | nil=>intro cs K hq;exact⟨_,_,hq,fun K' h=>h⟩
 | cons p ps ih=>
  intro cs K hq
  obtain⟨i,x⟩:=p
  unfold fG at hq
  obtain⟨y,fz,hq,hK⟩:=E2 H hq
  split at hq
  ·rename_i ys h2
   split at hq
   ·rename_i h3
    obtain⟨z,W0,hq,z_⟩:=ih hq
    refine⟨z,fz++W0,hq,fun K' h=>?_⟩
    simp only[fG]
    refine hK _ ?_
    simp only[h2,h3]
    exact z_ _ h
   exact hq.elim
  exact hq.elim
theorem E3 {h h':Nat->AB} (H:Ext h h') {md:Nat->Bool}:∀{as:List AV} {j:Nat} {K:List Arg->List (Nat×AB)->List (Nat×AB)->Prop},gj md h j as K->∃xs ids fz,K xs ids fz/\∀K':List Arg->List (Nat×AB)->List (Nat×AB)->Prop,K' xs ids fz->gj md h' j as K':=by
 intro as
 induction as with
 | nil=>intro j K hq;exact⟨_,_,_,hq,fun K' h=>h⟩
 | cons a as ih=>
  intro j K hq
  unfold gj at hq
  split at hq
  ·rename_i hm
   obtain⟨y,fz,hq,hK⟩:=gn H hq
   obtain⟨xs,ids,W0,hq,z_⟩:=ih hq
   refine⟨_,_,_,hq,fun K' h=>?_⟩
   simp only[gj,hm]
   exact hK _ (z_ _ h)
  rename_i hm
  split at hq
  ·split at hq
   ·rename_i hr
    obtain⟨xs,ids,W0,hq,z_⟩:=ih hq
    refine⟨_,_,_,hq,fun K' h=>?_⟩
    simp only[gj,hm,H.row hr]
    exact z_ _ h
   ·rename_i hr
    obtain⟨xs,ids,W0,hq,z_⟩:=ih hq
    refine⟨_,_,_,hq,fun K' h=>?_⟩
    simp only[gj,hm,H.iv hr]
    exact z_ _ h
   exact hq.elim
  ·obtain⟨xs,ids,W0,hq,z_⟩:=ih hq
   refine⟨_,_,_,hq,fun K' h=>?_⟩
   simp only[gj,hm]
   exact z_ _ h
  ·split at hq
   ·rename_i hr
    split at hq
    ·rename_i hx
     obtain⟨xs,ids,W0,hq,z_⟩:=ih hq
     refine⟨_,_,_,hq,fun K' h=>?_⟩
     simp only[gj,hm,H.box hr,hx]
     exact z_ _ h
    exact hq.elim
   ·rename_i hr
    obtain⟨xs,ids,W0,hq,z_⟩:=ih hq
    refine⟨_,_,_,hq,fun K' h=>?_⟩
    simp only[gj,hm,H.bb hr]
    exact z_ _ h
   exact hq.elim
  exact hq.elim
theorem Cj {C:Ctx} {h h':Nat->AB} (H:Ext h h') {d:Nat} {f:FuncId} {as:List AV} {K:KK} (hq:mg C h d f as K):∃v e n,K v e n/\∀K':KK,K' v e n->mg C h' d f as K':=by
 unfold mg at hq
 obtain⟨xs,ids,fz,⟨r,fin,hc,hq⟩,hK⟩:=E3 H hq
 split at hq
 ·rename_i h1
  split at hq
  ·rename_i h2
   split at hq
   ·rename_i h3
    refine⟨_,_,_,hq,fun K' h=>?_⟩
    unfold mg
    refine hK _ ⟨r,fin,hc,?_⟩
    simp only[h1,h2,h3]
    exact h
   rename_i h3
   refine⟨_,_,_,hq,fun K' h=>?_⟩
   unfold mg
   refine hK _ ⟨r,fin,hc,?_⟩
   simp only[h1,h2,h3]
   exact h
  exact hq.elim
 exact hq.elim
theorem ly.ext {h h':Nat->AB} (H:Ext h h') {a:AV} {x:PV} (hv:ly h a x):ly h' a x:=by
 cases hv with
 | p=>exact .p _
 | nl=>exact .nl
 | row id e es hr=>exact .row id e es (H.row hr)
 | iv id es hr=>exact .iv id es (H.iv hr)
 | aL id e es ps hr hp=>exact .aL id e es ps (H.aL hr) hp
theorem mh.ext {h h':Nat->AB} (H:Ext h h') {as:List AV} {xs:List PV} (hv:mh h as xs):mh h' as xs:=by
 induction hv with
 | nil=>exact .nil
 | cons h1 _ ih=>exact .cons (h1.ext H) ih
theorem View.ext {h h':Nat->AB} (H:Ext h h') {a:AV} {x:PV} (hv:View h a x):View h' a x:=by
 cases hv with
 | one h1=>exact .one (h1.ext H)
 | box id off cs xs hb hx=>exact .box id off cs xs (H.box hb) (hx.ext H)
 | iP id off xs hb=>exact .iP id off xs (H.iP hb)
theorem p_.ext {h h':Nat->AB} (H:Ext h h') {as:List AV} {xs:List PV} (hv:p_ h as xs):p_ h' as xs:=by
 induction hv with
 | nil=>exact .nil
 | cons h1 _ ih=>exact .cons (h1.ext H) ih
theorem Ck {h h':Nat->AB} (H:Ext h h'):∀{as:List AV},wa (ee h) as=true->wa (ee h') as=true:=by
 intro as
 induction as with
 | nil=>intro h;cases h
 | cons a as ih=>
  intro hq
  unfold wa at hq ⊢
  split at hq
  ·rename_i h1
   have:ee h' a=true:=by
    unfold ee at h1 ⊢
    split at h1
    ·split at h1
     ·rename_i hb;simp only[H.box hb];exact h1
     cases h1
    ·split at h1
     ·rename_i hb;simp only[H.aL hb]
     cases h1
    cases h1
   rw[this]
  cases ee h' a with
  | true=>rfl
  | false=>exact ih hq
theorem E4 {h h':Nat->AB} (H:Ext h h') {a:AV} {K:PV->List (Nat×AB)->Prop} (h1:ee h a=false) (hq:gC h a K):ee h' a=false:=by
 cases a with
 | ow id=>
  simp only[gC,jN] at hq
  simp only[ee] at h1 ⊢
  split at hq
  ·rename_i hr;rw[H.row hr]
  ·rename_i hr;rw[H.iv hr]
  exact hq.elim
 | bx id off=>
  simp only[gC,jN] at hq
  simp only[ee] at h1 ⊢
  split at hq
  ·rename_i hr;rw[hr] at h1;rw[H.box hr];exact h1
  ·rename_i hr;rw[H.iP hr]
  exact hq.elim
 | _=>rfl
theorem Cl {h h':Nat->AB} (H:Ext h h') {md:Nat->Bool}:∀{as:List AV} {j:Nat} {K:List Arg->List (Nat×AB)->List (Nat×AB)->Prop},gj md h j as K->wa (ee h) as=false->wa (ee h') as=false:=by
 intro as
 induction as with
 | nil=>intro _ _ _ _;rfl
 | cons a as ih=>
  intro j K hq hn
  unfold wa at hn ⊢
  split at hn
  ·cases hn
  rename_i h1
  have:ee h' a=false/\∃(j:Nat) (K:List Arg->List (Nat×AB)->List (Nat×AB)->Prop),gj md h j as K:=by
   unfold gj at hq
   split at hq
   ·obtain⟨x,fz,rD,_⟩:=gn (fun _=>.inr rfl) hq
    exact⟨E4 H h1 hq,_,_,rD⟩
   split at hq
   ·rename_i id
    split at hq
    ·rename_i hr;exact⟨by simp only[ee];rw[H.row hr],_,_,hq⟩
    ·rename_i hr;exact⟨by simp only[ee];rw[H.iv hr],_,_,hq⟩
    exact hq.elim
   ·exact⟨rfl,_,_,hq⟩
   ·rename_i id
    split at hq
    ·rename_i hr
     split at hq
     ·refine⟨?_,_,_,hq⟩
      simp only[ee] at h1 ⊢
      rw[hr] at h1
      rw[H.box hr]
      exact h1
     exact hq.elim
    ·rename_i hr;exact⟨by simp only[ee];rw[H.bb hr],_,_,hq⟩
    exact hq.elim
   exact hq.elim
  obtain⟨h2,j',K',h3⟩:=this
  rw[h2]
  exact ih h3 hn
theorem E5 {C:Ctx} {h h':Nat->AB} (H:Ext h h') {d:Nat} {f:FuncId} {as:List AV} {K:KK} (hq:sG C h d f as K):∃v e n,K v e n/\∀K':KK,K' v e n->sG C h' d f as K':=by
 unfold sG at hq
 split at hq
 ·rename_i hn
  have w_:wa (ee h') as=false:=Cl H (by unfold mg at hq;exact hq) hn
  obtain⟨v,e,n,h1,h2⟩:=Cj H hq
  exact⟨v,e,n,h1,fun K' hk=>by unfold sG;rw[w_];exact h2 K' hk⟩
 rename_i hn
 have w_:=Ck H hn
 obtain⟨xs,r,h1,h2,h3,h4⟩:=hq
 exact⟨_,_,_,h4,fun K' hk=>by unfold sG;rw[w_];exact⟨xs,r,h1.ext H,h2,h3,hk⟩⟩
theorem E6 {C:Ctx} {h h':Nat->AB} (H:Ext h h') {d:Nat} {f:FuncId} {as:List AV} {K:KK} (hq:sJ C h d f as K):∃v e n,K v e n/\∀K':KK,K' v e n->sJ C h' d f as K':=by
 unfold sJ at hq
 split at hq
 case h_2=>exact hq.elim
 rename_i h0
 split at hq
 case h_2=>exact hq.elim
 rename_i h1
 split at hq
 case h_2=>exact hq.elim
 rename_i h2
 split at hq
 case h_2=>exact hq.elim
 rename_i h3
 obtain⟨xs,fz,⟨r,ch,wk,hc,hq⟩,hK⟩:=xe H hq
 split at hq
 case h_2=>exact hq.elim
 rename_i h4
 split at hq
 ·refine⟨_,_,_,hq,fun K' h=>?_⟩
  unfold sJ
  simp only[h0,H.fF h1,h2,H.row h3]
  refine hK _ ⟨r,ch,_,hc,?_⟩
  simp only[h4]
  exact h
 refine⟨_,_,_,hq,fun K' h=>?_⟩
 unfold sJ
 simp only[h0,H.fF h1,h2,H.row h3]
 refine hK _ ⟨r,ch,_,hc,?_⟩
 simp only[h4]
 exact h
theorem lE {k:IntKind} {n:Int} {K:Value->Prop} (hq:rz k n K):∃v,K v/\∀K':Value->Prop,K' v->rz k n K':=by
 unfold rz at hq
 split at hq
 ·rename_i h
  exact⟨_,hq.2,fun K' hk=>by simp only[rz,h];exact⟨hq.1,hk⟩⟩
 rename_i h
 exact⟨_,hq,fun K' hk=>by simp only[rz,h];exact hk⟩
theorem Aa {T:TypeId->Option TI} {op:BinOp} {t:TypeId} {x:PV} {K:Value->Prop} (hq:EE T op t x K):∃v,K v/\∀K':Value->Prop,K' v->EE T op t x K':=by
 unfold EE at hq
 split at hq
 case h_2=>exact hq.elim
 split at hq
 case h_1=>exact hq.elim
 rename_i h1
 split at hq
 case h_2=>exact hq.elim
 rename_i h2
 split at hq <;> first
  | exact hq.elim
  | exact⟨_,hq,fun K' h=>by simp only[EE,h1,h2];exact h⟩
theorem Ab {T:TypeId->Option TI} {op:BinOp} {t:TypeId} {x y:PV} {K:Value->Prop} (hq:pD T op t x y K):∃v,K v/\∀K':Value->Prop,K' v->pD T op t x y K':=by
 unfold pD at hq
 split at hq
 ·split at hq
  ·rename_i hs
   exact⟨_,hq.2,fun K' h=>by simp only[pD,hs];exact⟨hq.1,h⟩⟩
  rename_i hs
  split at hq
  ·exact hq.elim
  rename_i hk
  split at hq <;> first
   | exact hq.elim
   | (obtain⟨v,h1,h2⟩:=lE hq;exact⟨v,h1,fun K' h=>by simp only[pD,hk,hs];exact h2 K' h⟩)
   | (obtain⟨v,h1,h2⟩:=lE hq.2;exact⟨v,h1,fun K' h=>by simp only[pD,hk,hs];exact⟨hq.1,h2 K' h⟩⟩)
   | exact⟨_,hq,fun K' h=>by simp only[pD,hk,hs];exact h⟩
   | exact⟨_,hq.2,fun K' h=>by simp only[pD,hk,hs];exact⟨hq.1,h⟩⟩
 ·split at hq <;> first
   | exact hq.elim
   | exact⟨_,hq,fun K' h=>by simp only[pD];exact h⟩
   | exact⟨_,hq.2,fun K' h=>by simp only[pD];exact⟨hq.1,h⟩⟩
 ·split at hq
  ·rename_i hT
   split at hq <;> first
    | exact hq.elim
    | exact⟨_,hq,fun K' h=>by simp only[pD,hT];exact h⟩
  exact hq.elim
 ·split at hq
  ·rename_i hT
   split at hq
   ·exact hq.elim
   rename_i hn
   split at hq
   ·split at hq
    ·rename_i he
     exact⟨_,hq,fun K' h=>by simp only[pD,hT,hn,he];exact h⟩
    exact hq.elim
   ·split at hq
    ·rename_i he
     exact⟨_,hq,fun K' h=>by simp only[pD,hT,hn,he];exact h⟩
    exact hq.elim
   exact hq.elim
  exact hq.elim
 exact hq.elim
theorem pF {h h':Nat->AB} (H:Ext h h') {C:Ctx} {rho:Operand->AV} {t:TypeId} {x:Operand} {lo hi:Option Operand} {K:KK} (hq:fx C rho h t x lo hi K):∃v e n,K v e n/\∀K':KK,K' v e n->fx C rho h' t x lo hi K':=by
 simp only[fx] at hq
 split at hq
 ·rename_i h0
  split at hq
  ·rename_i h1
   split at hq
   ·rename_i h2 h3;exact⟨_,_,_,hq.2,fun K' h=>by simp only[fx,h0,h1,h2,h3];exact⟨hq.1,h⟩⟩
   exact hq.elim
  exact hq.elim
 ·rename_i h0
  split at hq
  ·exact hq.elim
  rename_i h1
  obtain⟨z,fz,hq,hK⟩:=gn H hq
  split at hq
  ·split at hq
   ·rename_i h2 h3
    refine⟨_,_,_,hq.2,fun K' h=>?_⟩
    simp only[fx,h0,h1]
    refine hK _ ?_
    simp only[h2,h3]
    exact⟨hq.1,h⟩
   exact hq.elim
  exact hq.elim
 exact hq.elim
theorem E7 {C:Ctx} {rho:Operand->AV} {t:TypeId} {lo hi:Option Operand} {id:Nat} {e':TypeId} {es:List (List PV)} {K:KK} (hq:qa C rho t lo hi id e' es K):∃v e n,K v e n/\∀K':KK,K' v e n->qa C rho t lo hi id e' es K':=by
 unfold qa at hq
 split at hq
 ·rename_i h0
  split at hq
  ·rename_i h1
   split at hq
   ·rename_i h2 h3;exact⟨_,_,_,hq.2,fun K' h=>by simp only[qa,h0,h1,h2,h3];exact⟨hq.1,h⟩⟩
   exact hq.elim
  exact hq.elim
 exact hq.elim
theorem oG {C:Ctx} {o:Oper} {rho:Operand->AV} {h h':Nat->AB} (H:Ext h h') {K:KK} (hq:bY C o rho h K):∃v e n,K v e n/\∀K':KK,K' v e n->bY C o rho h' K':=by
 cases aU:o.op <;> simp only[bY,aU] at hq
 case move x=>exact⟨_,_,_,hq,fun K' h=>by simp only[bY,aU];exact h⟩
 case assign x=>exact⟨_,_,_,hq,fun K' h=>by simp only[bY,aU];exact h⟩
 case pick c a b=>
  split at hq
  ·rename_i h1
   split at hq
   ·exact⟨_,_,_,hq,fun K' h=>by simp only[bY,aU,h1];exact h⟩
   exact⟨_,_,_,hq,fun K' h=>by simp only[bY,aU,h1];exact h⟩
  exact hq.elim
 case alloc e=>
  split at hq
  ·rename_i h1
   split at hq
   ·rename_i h2
    exact⟨_,_,_,hq,fun K' h=>by simp only[bY,aU,h1,h2];exact h⟩
   rename_i h2
   exact⟨_,_,_,hq,fun K' h=>by simp only[bY,aU,h1,h2];exact h⟩
  exact hq.elim
 case box e x=>
  split at hq
  ·rename_i h1
   exact⟨_,_,_,hq,fun K' h=>by simp only[bY,aU,h1];exact h⟩
  ·rename_i h1
   exact⟨_,_,_,hq,fun K' h=>by simp only[bY,aU,h1];exact h⟩
  rename_i h1 Jc
  split at hq
  ·rename_i h2
   have h3:=qm H h2
   refine⟨_,_,_,hq,fun K' h=>?_⟩
   simp only[bY,aU]
   cases L1:rho x with
   | p y=>
    cases y with
    | ag cs=>exact (h1 cs L1).elim
    | _=>rw[L1] at h3 h;simp only[h3];exact h
   | st xs=>exact (Jc xs L1).elim
   | _=>rw[L1] at h3 h;simp only[h3];exact h
  exact hq.elim
 case binOp op t x y t'=>
  split at hq
  ·rename_i h1 h2
   obtain⟨v,h3,h4⟩:=Ab hq
   exact⟨_,_,_,h3,fun K' h=>by simp only[bY,aU,h1,h2];exact h4 _ h⟩
  ·rename_i h1 h2
   obtain⟨v,h3,h4⟩:=Aa hq
   exact⟨_,_,_,h3,fun K' h=>by simp only[bY,aU,h1,h2];exact h4 _ h⟩
  exact hq.elim
 case unOp op t x=>
  split at hq
  ·rename_i h1
   exact⟨_,_,_,hq,fun K' h=>by simp only[bY,aU,h1];exact h⟩
  ·rename_i h1
   obtain⟨v,h3,h4⟩:=lE hq
   exact⟨_,_,_,h3,fun K' h=>by simp only[bY,aU,h1];exact h4 _ h⟩
  exact hq.elim
 case convert src dst x=>
  split at hq
  ·rename_i h1 h2 h3
   obtain⟨v,h5,h4⟩:=lE hq
   exact⟨_,_,_,h5,fun K' h=>by simp only[bY,aU,h1,h2,h3];exact h4 _ h⟩
  ·rename_i h1 h2 h3
   exact⟨_,_,_,hq,fun K' h=>by simp only[bY,aU,h1,h2,h3];exact h⟩
  exact hq.elim
 case nilCheck x=>
  split at hq
  ·rename_i h1
   exact⟨_,_,_,hq,fun K' h=>by simp only[bY,aU,h1];exact h⟩
  ·rename_i h1
   split at hq
   ·rename_i h2;exact⟨_,_,_,hq,fun K' h=>by simp only[bY,aU,h1,H.box h2];exact h⟩
   ·rename_i h2;exact⟨_,_,_,hq,fun K' h=>by simp only[bY,aU,h1,H.iP h2];exact h⟩
   exact hq.elim
  ·rename_i h1
   split at hq
   ·rename_i h2;exact⟨_,_,_,hq,fun K' h=>by simp only[bY,aU,h1,H.row h2];exact h⟩
   ·rename_i h2;exact⟨_,_,_,hq,fun K' h=>by simp only[bY,aU,h1,H.aL h2];exact h⟩
   exact hq.elim
  exact hq.elim
 case extract x i=>
  split at hq
  ·rename_i h1
   split at hq
   ·rename_i h2;exact⟨_,_,_,hq,fun K' h=>by simp only[bY,aU,h1,h2];exact h⟩
   exact hq.elim
  exact hq.elim
 case load t x=>
  split at hq
  ·exact hq.elim
  rename_i h0
  split at hq
  ·rename_i h1
   split at hq
   ·rename_i h2
    split at hq
    ·rename_i h3;exact⟨_,_,_,hq,fun K' h=>by simp only[bY,aU,h0,h1,h2,h3];exact h⟩
    exact hq.elim
   rename_i h2
   split at hq
   ·exact⟨_,_,_,hq,fun K' h=>by simp only[bY,aU,h0,h1,h2];exact h⟩
   exact hq.elim
  ·rename_i h1
   split at hq
   ·rename_i h2
    split at hq
    ·rename_i h3
     split at hq
     ·rename_i h4 h5;exact⟨_,_,_,hq,fun K' h=>by simp only[bY,aU,h0,h1,H.box h2,h3,h4,h5];exact h⟩
     exact hq.elim
    rename_i h3
    split at hq
    ·rename_i h4;exact⟨_,_,_,hq,fun K' h=>by simp only[bY,aU,h0,h1,H.box h2,h3,h4];exact h⟩
    exact hq.elim
   ·rename_i h2
    split at hq
    ·rename_i h3
     split at hq
     ·rename_i h4;exact⟨_,_,_,hq,fun K' h=>by simp only[bY,aU,h0,h1,H.iP h2,h3,h4];exact h⟩
     exact hq.elim
    rename_i h3
    split at hq
    ·rename_i h4;exact⟨_,_,_,hq,fun K' h=>by simp only[bY,aU,h0,h1,H.iP h2,h3,h4];exact h⟩
    exact hq.elim
   exact hq.elim
  ·rename_i h1
   split at hq
   ·rename_i h2
    obtain⟨r,hr,hq⟩:=hq
    split at hq
    ·rename_i h3
     split at hq
     ·rename_i h4;exact⟨_,_,_,hq,fun K' h=>by simp only[bY,aU,h0,h1,H.row h2];refine⟨r,hr,?_⟩;simp only[h3,h4];exact h⟩
     exact hq.elim
    rename_i h3
    split at hq
    ·rename_i h4;exact⟨_,_,_,hq,fun K' h=>by simp only[bY,aU,h0,h1,H.row h2];refine⟨r,hr,?_⟩;simp only[h3,h4];exact h⟩
    exact hq.elim
   ·rename_i h2
    obtain⟨r,hr,hq⟩:=hq
    split at hq
    ·exact hq.elim
    rename_i h3
    split at hq
    ·rename_i h4;exact⟨_,_,_,hq,fun K' h=>by simp only[bY,aU,h0,h1,H.aL h2];refine⟨r,hr,?_⟩;simp only[h3,h4];exact h⟩
    exact hq.elim
   exact hq.elim
  exact hq.elim
 case store t x y=>
  split at hq
  ·exact hq.elim
  rename_i h0
  split at hq
  ·rename_i h1
   split at hq
   ·rename_i h2
    split at hq
    ·rename_i h3
     obtain⟨z,fz,hq,hK⟩:=gn H hq
     split at hq
     ·split at hq
      ·rename_i h4
       refine⟨_,_,_,hq,fun K' h=>?_⟩
       simp only[bY,aU,h0,h1,H.box h2,h3]
       refine hK _ ?_
       simp only[h4]
       exact h
      exact hq.elim
     exact hq.elim
    rename_i h3
    split at hq
    ·rename_i h4
     simp only[Bool.and_eq_true] at h4
     have h5:=qm H h4.2
     refine⟨_,_,_,hq,fun K' h=>?_⟩
     simp only[bY,aU,h0,h1,H.box h2,h3,h4.1.1,h4.1.2,h5,Bool.and_self]
     exact h
    exact hq.elim
   exact hq.elim
  ·rename_i h1
   split at hq
   ·rename_i h2
    obtain⟨r,hr,hq⟩:=hq
    obtain⟨z,fz,hq,hK⟩:=gn H hq
    split at hq
    ·rename_i h3
     split at hq
     ·rename_i h4
      refine⟨_,_,_,hq,fun K' h=>?_⟩
      simp only[bY,aU,h0,h1,H.row h2]
      refine⟨r,hr,hK _ ?_⟩
      simp only[h3,h4]
      exact h
     exact hq.elim
    exact hq.elim
   ·rename_i h2
    obtain⟨r,hr,hq⟩:=hq
    split at hq
    ·exact hq.elim
    rename_i h3
    split at hq
    ·rename_i h4
     simp only[Bool.and_eq_true] at h4
     have h5:=qm H h4.2
     refine⟨_,_,_,hq,fun K' h=>?_⟩
     simp only[bY,aU,h0,h1,H.aL h2]
     refine⟨r,hr,?_⟩
     simp only[h3,h4.1.1,h4.1.2,h5,Bool.and_self]
     exact h
    exact hq.elim
   exact hq.elim
  exact hq.elim
 case fieldAddr t x f=>
  split at hq
  ·rename_i h0
   split at hq
   ·rename_i h1
    split at hq
    ·rename_i h2;exact⟨_,_,_,hq,fun K' h=>by simp only[bY,aU,h0,h1,h2];exact h⟩
    ·rename_i id o' h2
     split at hq
     ·exact hq.elim
     rename_i b8
     refine⟨_,_,_,hq,fun K' h=>?_⟩
     simp only[bY,aU,h0,h1,h2]
     rcases H id with h4 | h4
     ·exact absurd h4 (by simpa using b8)
     rw[h4]
     split
     ·rename_i h5;exact absurd h5 (by simpa using b8)
     exact h
    ·rename_i h2
     split at hq
     ·rename_i h3;exact⟨_,_,_,hq,fun K' h=>by simp only[bY,aU,h0,h1,h2,H.row h3];exact h⟩
     ·rename_i h3;exact⟨_,_,_,hq,fun K' h=>by simp only[bY,aU,h0,h1,h2,H.aL h3];exact h⟩
     exact hq.elim
    exact hq.elim
   exact hq.elim
  exact hq.elim
 case field t x f=>
  split at hq
  ·rename_i h0 L2
   split at hq
   ·rename_i h1
    split at hq
    ·split at hq
     ·rename_i h3;exact⟨_,_,_,hq,fun K' h=>by simp only[bY,aU,h0,L2,h1,h3];exact h⟩
     exact hq.elim
    split at hq
    ·rename_i h3;exact⟨_,_,_,hq,fun K' h=>by simp only[bY,aU,h0,L2,h1,h3];exact h⟩
    exact hq.elim
   exact hq.elim
  exact hq.elim
 case indexAddr t x ix=>
  split at hq
  ·rename_i h0 L2
   split at hq
   ·exact hq.elim
   rename_i h1
   split at hq
   ·rename_i h2
    obtain⟨r,hr,hq⟩:=hq
    split at hq
    ·rename_i h3;exact⟨_,_,_,hq,fun K' h=>by simp only[bY,aU,h0,L2,h1,h2];refine⟨r,hr,?_⟩;simp only[h3];exact h⟩
    exact hq.elim
   ·rename_i h2
    split at hq
    ·rename_i h3
     split at hq
     ·rename_i h4;exact⟨_,_,_,hq.2,fun K' h=>by simp only[bY,aU,h0,L2,h1,h2,H.row h3,h4];exact⟨hq.1,h⟩⟩
     exact hq.elim
    ·rename_i h3
     split at hq
     ·rename_i h4;exact⟨_,_,_,hq.2,fun K' h=>by simp only[bY,aU,h0,L2,h1,h2,H.aL h3,h4];exact⟨hq.1,h⟩⟩
     exact hq.elim
    ·rename_i h3
     obtain⟨r,hr,hq⟩:=hq
     split at hq
     ·rename_i h4;exact⟨_,_,_,hq,fun K' h=>by simp only[bY,aU,h0,L2,h1,h2,H.iv h3];refine⟨r,hr,?_⟩;simp only[h4];exact h⟩
     exact hq.elim
    exact hq.elim
   exact hq.elim
  exact hq.elim
 case index t x ix=>
  split at hq
  ·rename_i h0 h1 h2
   obtain⟨b,hb,hq⟩:=hq
   exact⟨_,_,_,hq,fun K' h=>by simp only[bY,aU,h0,h1,h2];exact⟨b,hb,h⟩⟩
  exact hq.elim
 case slice t x lo hi mx=>
  cases mx with
  | some m=>exact hq.elim
  | none=>
   simp only at hq
   split at hq
   ·rename_i id hid
    split at hq
    ·rename_i e' es hr
     rcases hq with hq | hq
     ·obtain⟨v,e,n,hq,hK⟩:=E7 hq
      exact⟨v,e,n,hq,fun K' h=>by simp only[bY,aU,hid,H.row hr];exact .inl (hK _ h)⟩
     obtain⟨v,e,n,hq,hK⟩:=pF H hq
     exact⟨v,e,n,hq,fun K' h=>by simp only[bY,aU,hid,H.row hr];exact .inr (hK _ h)⟩
    rename_i b8
    obtain⟨v,e,n,hq,hK⟩:=pF H hq
    refine⟨v,e,n,hq,fun K' h=>?_⟩
    simp only[bY,aU,hid]
    split
    ·exact .inr (hK _ h)
    exact hK _ h
   rename_i b8
   obtain⟨v,e,n,hq,hK⟩:=pF H hq
   refine⟨v,e,n,hq,fun K' h=>?_⟩
   simp only[bY,aU]
   first
    | exact hK _ h
    | (
      split
      ·rename_i id hid;exact absurd hid (b8 id)
      exact hK _ h)
 case makeMap t r=>
  cases r with
  | some _=>exact hq.elim
  | none=>
   simp only at hq
   split at hq
   ·rename_i h0
    split at hq
    ·rename_i h1
     split at hq
     ·rename_i h2;exact⟨_,_,_,hq,fun K' h=>by simp only[bY,aU,h0,h1,h2];exact h⟩
     exact hq.elim
    exact hq.elim
   exact hq.elim
 case lookup t x i ck=>
  split at hq
  case h_2=>exact hq.elim
  rename_i h0
  split at hq
  case h_2=>exact hq.elim
  rename_i h1 h2
  split at hq
  case h_2=>exact hq.elim
  rename_i h3
  split at hq
  case h_2=>exact hq.elim
  rename_i h4
  split at hq
  case h_2=>exact hq.elim
  rename_i h5
  split at hq
  case h_2=>exact hq.elim
  rename_i h6
  split at hq
  case h_2=>exact hq.elim
  rename_i h7
  obtain⟨r,hr,hq⟩:=hq
  cases ck with
  | true=>exact⟨_,_,_,hq,fun K' h=>by simp only[bY,aU,h0,h1,h2,h3,h4,H.map h5,h6,h7];exact⟨r,hr,h⟩⟩
  | false=>exact⟨_,_,_,hq,fun K' h=>by simp only[bY,aU,h0,h1,h2,h3,h4,H.map h5,h6,h7];exact⟨r,hr,h⟩⟩
 case mapUpdate t x i y=>
  split at hq
  case h_2=>exact hq.elim
  rename_i h0
  split at hq
  case h_2=>exact hq.elim
  rename_i h1
  split at hq
  case h_2=>exact hq.elim
  rename_i h3
  split at hq
  case h_2=>exact hq.elim
  rename_i h4
  split at hq
  case h_2=>exact hq.elim
  rename_i h5
  split at hq
  case h_2=>exact hq.elim
  rename_i h6
  split at hq
  case h_2=>exact hq.elim
  rename_i h7
  obtain⟨z,fz,hq,hK⟩:=gn H hq
  split at hq
  case h_2=>exact hq.elim
  rename_i h8
  refine⟨_,_,_,hq,fun K' h=>?_⟩
  simp only[bY,aU,h0,h1,h3,h4,H.map h5,h6,h7]
  refine hK _ ?_
  simp only[h8]
  exact h
 case build t ps=>
  split at hq
  ·rename_i h0
   split at hq
   ·rename_i h1
    obtain⟨z,fz,hq,hK⟩:=E1 H hq
    exact⟨_,_,_,hq,fun K' h=>by simp only[bY,aU,h0,h1];exact hK _ h⟩
   rename_i h1
   obtain⟨z,hq,hK⟩:=xf H hq
   exact⟨_,_,_,hq,fun K' h=>by simp only[bY,aU,h0,h1];exact hK _ h⟩
  exact hq.elim
 case buildSlice t len ps=>
  split at hq
  ·rename_i h0
   split at hq
   ·rename_i h1
    split at hq
    ·rename_i h2
     split at hq
     ·rename_i h3
      obtain⟨z,fz,hq,hK⟩:=uu H hq
      exact⟨_,_,_,hq,fun K' h=>by simp only[bY,aU,h0,h1,h2,h3];exact hK _ h⟩
     rename_i h3
     obtain⟨z,fz,hq,hK⟩:=uu H hq
     exact⟨_,_,_,hq,fun K' h=>by simp only[bY,aU,h0,h1,h2,h3];exact hK _ h⟩
    exact hq.elim
   exact hq.elim
  exact hq.elim
 case makeSlice t n c=>
  split at hq
  ·rename_i h0 h1 h2
   split at hq
   ·rename_i h3
    split at hq
    ·rename_i h4;exact⟨_,_,_,hq.2,fun K' h=>by simp only[bY,aU,h0,h1,h2,h3,h4];exact⟨hq.1,h⟩⟩
    exact hq.elim
   exact hq.elim
  exact hq.elim
 case makeFunc fn first cap=>
  cases fn with
  | func f=>
   simp only at hq
   split at hq
   ·rename_i h1;exact⟨_,_,_,hq,fun K' h=>by simp only[bY,aU,h1];exact h⟩
   exact hq.elim
  | _=>exact hq.elim
 case call c=>
  split at hq
  ·rename_i h0
   split at hq
   ·rename_i h1 h2
    split at hq
    ·rename_i h3
     split at hq
     ·rename_i h4;exact⟨_,_,_,hq,fun K' h=>by simp only[bY,aU,h0,h1,h2,h3,h4];exact h⟩
     exact hq.elim
    ·rename_i h3
     split at hq
     ·rename_i m hm
      exact⟨_,_,_,hq,fun K' h=>by simp only[bY,aU,h0,h1,h2,h3,EZ H hm];exact h⟩
     have hn:=E0 H hq
     obtain⟨es,hq,hK⟩:=ur H hq
     exact⟨_,_,_,hq,fun K' h=>by simp only[bY,aU,h0,h1,h2,h3,hn];exact hK _ h⟩
    ·rename_i h3
     split at hq
     ·rename_i h4
      split at hq
      ·rename_i h5;exact⟨_,_,_,hq,fun K' h=>by simp only[bY,aU,h0,h1,h2,h3,h4,H.map h5];exact h⟩
      exact hq.elim
     exact hq.elim
    exact hq.elim
   exact hq.elim
  ·rename_i h0
   split at hq
   case h_2=>exact hq.elim
   rename_i h1 h2
   split at hq
   case h_2=>exact hq.elim
   rename_i h3
   split at hq
   case h_2=>exact hq.elim
   rename_i h4
   split at hq
   case h_2=>exact hq.elim
   rename_i h5
   split at hq
   case h_2=>exact hq.elim
   rename_i h6
   split at hq
   case h_2=>exact hq.elim
   rename_i h7
   exact⟨_,_,_,hq.2,fun K' h=>by simp only[bY,aU,h0,h1,h2,h3,h4,h5,H.row h6,h7];exact⟨hq.1,h⟩⟩
  ·rename_i h0
   split at hq
   ·rename_i h1
    split at hq
    ·rename_i h2 h3;exact⟨_,_,_,hq,fun K' h=>by simp only[bY,aU,h0,h1,h2,h3];exact h⟩
    exact hq.elim
   exact hq.elim
  ·rename_i h0
   split at hq
   ·rename_i h1
    split at hq
    ·rename_i h2 h3;exact⟨_,_,_,hq,fun K' h=>by simp only[bY,aU,h0,h1,h2,h3];exact h⟩
    exact hq.elim
   ·rename_i h1
    split at hq
    ·rename_i h2 h3 h4;exact⟨_,_,_,hq,fun K' h=>by simp only[bY,aU,h0,h1,h2,h3,h4];exact h⟩
    exact hq.elim
   ·rename_i h1
    split at hq
    ·rename_i h2 h3 h4 h5 h6;exact⟨_,_,_,hq,fun K' h=>by simp only[bY,aU,h0,h1,h2,h3,h4,h5,h6];exact h⟩
    exact hq.elim
   exact hq.elim
  ·rename_i h0
   split at hq
   ·rename_i h1 h2
    split at hq
    ·rename_i h3 h4
     split at hq
     ·rename_i h5
      split at hq
      ·rename_i h6
       obtain⟨es,hq,hK⟩:=ur H hq
       split at hq
       ·rename_i h7
        refine⟨_,_,_,hq.2,fun K' h=>?_⟩
        simp only[bY,aU,h0,h1,h2,h3,h4,h5,h6]
        refine hK _ ?_
        simp only[h7]
        exact⟨hq.1,h⟩
       ·rename_i h7
        split at hq
        ·rename_i h8
         split at hq
         ·rename_i h9
          refine⟨_,_,_,hq.2,fun K' h=>?_⟩
          simp only[bY,aU,h0,h1,h2,h3,h4,h5,h6]
          refine hK _ ?_
          simp only[h7,H.row h8,h9]
          exact⟨hq.1,h⟩
         exact hq.elim
        ·rename_i h8
         split at hq
         ·rename_i h9
          refine⟨_,_,_,hq.2,fun K' h=>?_⟩
          simp only[bY,aU,h0,h1,h2,h3,h4,h5,h6]
          refine hK _ ?_
          simp only[h7,H.aL h8,h9]
          exact⟨hq.1,h⟩
         exact hq.elim
        exact hq.elim
       exact hq.elim
      exact hq.elim
     exact hq.elim
    exact hq.elim
   exact hq.elim
  ·rename_i h0
   split at hq
   ·rename_i h1
    split at hq
    ·rename_i h2
     obtain⟨v,e,n,hq,hK⟩:=E5 H hq
     exact⟨_,_,_,hq,fun K' h=>by simp only[bY,aU,h0,h1,h2];exact hK _ h⟩
    rename_i h2
    obtain⟨v,e,n,hq,hK⟩:=E6 H hq
    exact⟨_,_,_,hq,fun K' h=>by simp only[bY,aU,h0,h1,h2];exact hK _ h⟩
   exact hq.elim
  exact hq.elim
 all_goals exact hq.elim
theorem GX (A:cV) (o:Oper):gF A o:=by
 cases aU:o.op
 case move x=>exact I9 x aU
 case assign x=>exact EG x aU
 case pick c x y=>exact I_ c x y aU
 case alloc e=>exact Gy e aU
 case box e x=>exact LF e x aU
 case build t ps=>exact GL t ps aU
 case buildSlice t n ps=>exact wh t n ps aU
 case load t x=>exact Je t x aU
 case store t x y=>exact GC t x y aU
 case nilCheck x=>exact zR x aU
 case binOp op t x y t'=>exact Gn op t x y t' aU
 case unOp op t x=>exact Jd op t x aU
 case convert s d x=>exact B7 s d x aU
 case makeFunc fn first cap=>
  cases fn with
  | func f=>exact zS f first cap aU
  | _=>intro V L S rho s a w K next Q hC sim hV hd hq;simp only[bY,aU] at hq
 case makeSlice t n c=>exact x_ t n c aU
 case makeMap t r=>
  cases r with
  | none=>exact Cb t aU
  | some r=>intro V L S rho s a w K next Q hC sim hV hd hq;simp only[bY,aU] at hq
 case lookup t x i ck=>exact ES t x i ck aU
 case mapUpdate t x i y=>exact yb t x i y aU
 case slice t x lo hi mx=>
  cases mx with
  | none=>exact ok_slice t x lo hi aU
  | some m=>intro V L S rho s a w K next Q hC sim hV hd hq;simp only[bY,aU] at hq
 case fieldAddr t x f=>exact xX t x f aU
 case field t x f=>exact Gu t x f aU
 case indexAddr t x ix=>exact xY t x ix aU
 case index t x ix=>exact Gv t x ix aU
 case extract x i=>exact B5 x i aU
 case call c=>
  cases hc:c.callee with
  | value g=>exact Ju c g aU hc
  | invoke r m=>intro V L S rho s a w K next Q hC sim hV hd hq;simp only[bY,aU,hc,ef,eS] at hq
  | builtin b=>
   cases b
   case len=>exact LK c aU hc
   case min=>exact LM c aU hc
   case max=>exact LN c aU hc
   case append=>exact EN c aU hc
   case clear=>exact GP c aU hc
   all_goals (intro V L S rho s a w K next Q hC sim hV hd hq;simp only[bY,aU,hc,ef,eS] at hq)
 all_goals (intro V L S rho s a w K next Q hC sim hV hd hq;simp only[bY,aU] at hq)
end Go.AM
namespace Go.AM
open Go.RowKit
def cW (a b:Nat):Bool:=Nat.beq a b
theorem bG {a b:Nat}:cW a b=true↔a=b:=by unfold cW;exact⟨Nat.eq_of_beq_eq_true,fun h=>by subst h;simp⟩
mutual
def pe (d:Nat):AV->Bool
 | .ow i=>cW i d
 | .rp i _ _=>cW i d
 | .bx i _=>cW i d
 | .vw i _ _=>cW i d
 | .fn _ cap=>fK d cap
 | .tu xs=>fK d xs
 | .st xs=>fK d xs
 | _=>false
def fK (d:Nat):List AV->Bool
 | []=>false
 | x::r=>pe d x || fK d r
end
def rn (i d:Nat):AV->AV
 | .ow k=>match cW k i with
  | true=>.ow d
  | false=>match cW k d with
   | true=>.junk
   | false=>.ow k
 | .rp k a b=>match cW k i with
  | true=>.rp d a b
  | false=>match cW k d with
   | true=>.junk
   | false=>.rp k a b
 | .bx k a=>match cW k i with
  | true=>.bx d a
  | false=>match cW k d with
   | true=>.junk
   | false=>.bx k a
 | .vw k a b=>match cW k i with
  | true=>.vw d a b
  | false=>match cW k d with
   | true=>.junk
   | false=>.vw k a b
 | .fn f cap=>match fK i cap || fK d cap with
  | true=>.junk
  | false=>.fn f cap
 | .tu xs=>match fK i xs || fK d xs with
  | true=>.junk
  | false=>.tu xs
 | .st xs=>match fK i xs || fK d xs with
  | true=>.junk
  | false=>.st xs
 | x=>x
def HX.dm (f:AV->AV):HX->HX
 | .av x=>.av (f x)
 | .row e es=>.row e es
def GY (i d:Nat):AB->AB
 | .aL e es=>.aL e (es.map fun r=>r.map (HX.dm (rn i d)))
 | .box cs=>.box (cs.map (rn i d))
 | .fF ty cs=>.fF ty (cs.map (rn i d))
 | b=>b
def kC (i d:Nat) (s:AS):AS:=⟨fun j=>rn i d (s.t j),fun j=>match cW j d with
 | true=>GY i d (s.h i)
 | false=>match cW j i with
  | true=>.none
  | false=>GY i d (s.h j)⟩
def sc (d:Nat):AV->AV
 | .p x=>.p x
 | .nl=>.nl
 | .ow i=>match cW i d with
  | true=>.junk
  | false=>.ow i
 | .rp i a b=>match cW i d with
  | true=>.junk
  | false=>.rp i a b
 | .bx i a=>match cW i d with
  | true=>.junk
  | false=>.bx i a
 | .vw i a b=>match cW i d with
  | true=>.junk
  | false=>.vw i a b
 | .fn f cap=>match fK d cap with
  | true=>.junk
  | false=>.fn f cap
 | .tu xs=>match fK d xs with
  | true=>.junk
  | false=>.tu xs
 | .st xs=>match fK d xs with
  | true=>.junk
  | false=>.st xs
 | .junk=>.junk
theorem GZ (d:Nat) (x:AV):sc d x=match pe d x with
  | true=>.junk
  | false=>x:=by cases x <;> rfl
def rH (d:Nat):AB->AB
 | .aL e es=>.aL e (es.map fun r=>r.map (HX.dm (sc d)))
 | .box cs=>.box (cs.map (sc d))
 | .fF ty cs=>.fF ty (cs.map (sc d))
 | b=>b
def WB (d:Nat) (s:AS):AS:=⟨fun j=>sc d (s.t j),br (fun k=>rH d (s.h k)) d .none⟩
def cN:Nat->Prop:=fun _=>True
theorem rI (i d:Nat) (b:AB):(GY i d b).there↔b.there:=by cases b <;> rfl
theorem Ac (i d:Nat) (b:AB):(GY i d b).live↔b.live:=by cases b <;> rfl
structure Ad (L L':Nat->Prop) (rho rho':Nat->Value) (h h':Nat->AB) (i d:Nat):Prop where
 old:∀k,k≠i->k≠d->((h' k).there->(h k).there)/\(L k->L' k)/\rho' k=rho k/\(∀e,(h' k).mf=some e->(h k).mf=some e)
 new:i≠d->((h' d).there->(h i).there)/\(L i->L' d)/\rho' d=rho i/\(∀e,(h' d).mf=some e->(h i).mf=some e)
theorem c9 {d:Nat}:∀{xs:List AV},fK d xs=false->∀x∈xs,pe d x=false:=by
 intro xs
 induction xs with
 | nil=>intro _ x hx;cases hx
 | cons y xs ih=>
  intro h x hx
  simp only[fK,Bool.or_eq_false_iff] at h
  rcases List.mem_cons.1 hx with e | e
  ·rw[e];exact h.1
  exact ih h.2 x e
theorem bF.nN {S:Nat->Prop} {w:World} {P:Program} {L L':Nat->Prop} {rho rho':Nat->Value} {h h':Nat->AB} {i d:Nat} (T:Ad L L' rho rho' h h' i d) {x:AV} {v:Value} (hx:bF S w P L rho h x v) (h1:pe i x=false) (h2:pe d x=false):bF S w P L' rho' h' x v:=by
 induction hx with
 | p x v hx=>exact .p x v hx
 | nl=>exact .nl
 | ow k v hv=>
  have e1:k≠i:=fun e=>by rw[pe,bG.2 e] at h1;cases h1
  have e2:k≠d:=fun e=>by rw[pe,bG.2 e] at h2;cases h2
  obtain⟨t1,t2,t3,t4⟩:=T.old k e1 e2
  exact .ow k v fun ht=>⟨t2 (hv (t1 ht)).1,by rw[t3];exact (hv (t1 ht)).2⟩
 | rp k a b v hv=>
  have e1:k≠i:=fun e=>by rw[pe,bG.2 e] at h1;cases h1
  have e2:k≠d:=fun e=>by rw[pe,bG.2 e] at h2;cases h2
  obtain⟨t1,t2,t3,t4⟩:=T.old k e1 e2
  exact .rp k a b v fun e he=>by obtain⟨q1,q2⟩:=hv e (t4 e he);exact⟨t2 q1,by rw[t3];exact q2⟩
 | bx k a v hv=>
  have e1:k≠i:=fun e=>by rw[pe,bG.2 e] at h1;cases h1
  have e2:k≠d:=fun e=>by rw[pe,bG.2 e] at h2;cases h2
  obtain⟨t1,t2,t3,t4⟩:=T.old k e1 e2
  exact .bx k a v fun ht=>⟨t2 (hv (t1 ht)).1,by rw[t3];exact (hv (t1 ht)).2⟩
 | vw k a b v hv=>
  have e1:k≠i:=fun e=>by rw[pe,bG.2 e] at h1;cases h1
  have e2:k≠d:=fun e=>by rw[pe,bG.2 e] at h2;cases h2
  obtain⟨t1,t2,t3,t4⟩:=T.old k e1 e2
  exact .vw k a b v fun e he=>by obtain⟨q1,q2⟩:=hv e (t4 e he);exact⟨t2 q1,by rw[t3];exact q2⟩
 | fn f cap vs hl hc ih=>exact .fn f cap vs hl fun j c u hj hu=>ih j c u hj hu (c9 h1 c (List.mem_of_getElem? hj)) (c9 h2 c (List.mem_of_getElem? hj))
 | tu xs vs hl hc ih=>exact .tu xs vs hl fun j c u hj hu=>ih j c u hj hu (c9 h1 c (List.mem_of_getElem? hj)) (c9 h2 c (List.mem_of_getElem? hj))
 | st xs vs hl h0 hc ih=>exact .st xs vs hl h0 fun j c u hj hu=>ih j c u hj hu (c9 h1 c (List.mem_of_getElem? hj)) (c9 h2 c (List.mem_of_getElem? hj))
 | junk v=>exact .junk v
theorem bF.rn {S:Nat->Prop} {w:World} {P:Program} {L L':Nat->Prop} {rho rho':Nat->Value} {h h':Nat->AB} {i d:Nat} (T:Ad L L' rho rho' h h' i d) (hid:i≠d\/∀k,k=d->¬(h' k).there ) {x:AV} {v:Value} (hx:bF S w P L rho h x v):bF S w P L' rho' h' (rn i d x) v:=by
 have dead:i=d->¬(h' d).there:=fun e=>hid.resolve_left (fun h=>h e) d rfl
 cases hx with
 | p x v hx=>exact .p x v hx
 | nl=>exact .nl
 | ow k v hv=>
  unfold AM.rn
  simp only
  split
  ·rename_i hk
   have hk:=bG.1 hk
   subst hk
   refine .ow d v fun ht=>?_
   by_cases e:k=d
   ·exact absurd ht (dead e)
   obtain⟨t1,t2,t3,t4⟩:=T.new e
   exact⟨t2 (hv (t1 ht)).1,by rw[t3];exact (hv (t1 ht)).2⟩
  rename_i hk
  split
  ·exact .junk v
  rename_i Xe
  exact bF.nN T (.ow k v hv) (by simpa [pe] using hk) (by simpa [pe] using Xe)
 | rp k a b v hv=>
  unfold AM.rn
  simp only
  split
  ·rename_i hk
   have hk:=bG.1 hk
   subst hk
   refine .rp d a b v fun e he=>?_
   by_cases e':k=d
   ·exact absurd (mi he) (dead e')
   obtain⟨t1,t2,t3,t4⟩:=T.new e'
   obtain⟨q1,q2⟩:=hv e (t4 e he)
   exact⟨t2 q1,by rw[t3];exact q2⟩
  rename_i hk
  split
  ·exact .junk v
  rename_i Xe
  exact bF.nN T (.rp k a b v hv) (by simpa [pe] using hk) (by simpa [pe] using Xe)
 | vw k a b v hv=>
  unfold AM.rn
  simp only
  split
  ·rename_i hk
   have hk:=bG.1 hk
   subst hk
   refine .vw d a b v fun e he=>?_
   by_cases e':k=d
   ·exact absurd (mi he) (dead e')
   obtain⟨t1,t2,t3,t4⟩:=T.new e'
   obtain⟨q1,q2⟩:=hv e (t4 e he)
   exact⟨t2 q1,by rw[t3];exact q2⟩
  rename_i hk
  split
  ·exact .junk v
  rename_i Xe
  exact bF.nN T (.vw k a b v hv) (by simpa [pe] using hk) (by simpa [pe] using Xe)
 | bx k a v hv=>
  unfold AM.rn
  simp only
  split
  ·rename_i hk
   have hk:=bG.1 hk
   subst hk
   refine .bx d a v fun ht=>?_
   by_cases e:k=d
   ·exact absurd ht (dead e)
   obtain⟨t1,t2,t3,t4⟩:=T.new e
   exact⟨t2 (hv (t1 ht)).1,by rw[t3];exact (hv (t1 ht)).2⟩
  rename_i hk
  split
  ·exact .junk v
  rename_i Xe
  exact bF.nN T (.bx k a v hv) (by simpa [pe] using hk) (by simpa [pe] using Xe)
 | fn f cap vs hl hc=>
  unfold AM.rn
  simp only
  split
  ·exact .junk _
  rename_i hm
  simp only[Bool.or_eq_false_iff] at hm
  exact .fn f cap vs hl fun j c u hj hu=>(hc j c u hj hu).nN T (c9 hm.1 c (List.mem_of_getElem? hj)) (c9 hm.2 c (List.mem_of_getElem? hj))
 | tu xs vs hl hc=>
  unfold AM.rn
  simp only
  split
  ·exact .junk _
  rename_i hm
  simp only[Bool.or_eq_false_iff] at hm
  exact .tu xs vs hl fun j c u hj hu=>(hc j c u hj hu).nN T (c9 hm.1 c (List.mem_of_getElem? hj)) (c9 hm.2 c (List.mem_of_getElem? hj))
 | st xs vs hl h0 hc=>
  unfold AM.rn
  simp only
  split
  ·exact .junk _
  rename_i hm
  simp only[Bool.or_eq_false_iff] at hm
  exact .st xs vs hl h0 fun j c u hj hu=>(hc j c u hj hu).nN T (c9 hm.1 c (List.mem_of_getElem? hj)) (c9 hm.2 c (List.mem_of_getElem? hj))
 | junk v=>exact .junk v
theorem mr {w:World} {f:AV->AV} {es:List (List HX)} {g a j:Nat} {u:Value}:dG w (es.map fun r=>r.map (HX.dm f)) g a j u↔dG w es g a j u:=by
 constructor
 ·rintro⟨r,e,xs,c,ty,m,h1,h2,h3,h4⟩
  rw[List.getElem?_map] at h1
  obtain⟨q,hq,rfl⟩:=Option.map_eq_some_iff.1 h1
  rw[List.getElem?_map] at h2
  obtain⟨z,hz,Uj⟩:=Option.map_eq_some_iff.1 h2
  rw[List.length_map] at h4
  cases z with
  | av x=>cases Uj
  | row e' o9=>exact⟨q,e',o9,c,ty,m,hq,hz,h3,h4⟩
 rintro⟨r,e,xs,c,ty,m,h1,h2,h3,h4⟩
 exact⟨r.map (HX.dm f),e,xs,c,ty,m,by rw[List.getElem?_map,h1];rfl,by rw[List.getElem?_map,h2];rfl,h3,by rw[List.length_map];exact h4⟩
theorem rv.map {w:World} {f:AV->AV} {es:List (List HX)} {v:Value} (h:rv w es v):rv w (es.map fun r=>r.map (HX.dm f)) v:=
 ⟨fun g a j u b h1 h2 h3=>h.top g a j u b h1 (mr.1 h2) h3,fun g a j a' j' u u' b h1 h2 h3 h4 h5=>h.dis g a j a' j' u u' b h1 (mr.1 h2) (mr.1 h3) h4 h5⟩
theorem aR.map {P:Program} {w:World} {R R':HX->Value->Prop} {f:AV->AV} {e:TypeId} {es:List (List HX)} {v:Value} (h:aR P w R e es v) (hR:∀x u,R x u->R' (HX.dm f x) u):aR P w R' e (es.map fun r=>r.map (HX.dm f)) v:=by
 obtain⟨i,xs,h1,h2,h3,h4,h5,h6⟩:=h
 refine⟨i,xs,h1,h2,by rw[List.length_map];exact h3,fun r hr=>?_,h5,fun a r j x ha hj=>?_⟩
 ·obtain⟨q,hq,rfl⟩:=List.mem_map.1 hr
  rw[List.length_map];exact h4 q hq
 rw[List.getElem?_map] at ha
 obtain⟨q,hq,rfl⟩:=Option.map_eq_some_iff.1 ha
 rw[List.getElem?_map] at hj
 obtain⟨z,hz,rfl⟩:=Option.map_eq_some_iff.1 hj
 obtain⟨u,hu,hr⟩:=h6 a q j z hq hz
 exact⟨u,hu,hR _ _ hr⟩
theorem dL {w:World} {e:TypeId} {es:List (List HX)} {v:Value} {k:Nat}:hasB w (.aL e es) v k↔cU v=some k\/∃g a j u,cU v=some g/\dG w es g a j u/\cU u=some k:=by
 constructor
 ·rintro (h | ⟨cs,g,h,_⟩ | ⟨e',wk,g,a,j,u,h,h1,h2,h3⟩)
  ·exact .inl h
  ·cases h
  injection h with h4 h5
  subst h4 h5
  exact .inr ⟨g,a,j,u,h1,h2,h3⟩
 rintro (h | ⟨g,a,j,u,h1,h2,h3⟩)
 ·exact .inl h
 exact .inr (.inr ⟨_,_,_,_,_,_,rfl,h1,h2,h3⟩)
theorem xg {w:World} {f:AV->AV} {e:TypeId} {es:List (List HX)} {v:Value} {k:Nat}:hasB w (.aL e (es.map fun r=>r.map (HX.dm f))) v k↔hasB w (.aL e es) v k:=by
 rw[dL,dL]
 simp only[mr]
theorem D3 {w:World} (i d:Nat) (b:AB) (v:Value) (g:Nat):hasB w (GY i d b) v g↔hasB w b v g:=by
 cases b with
 | aL e es=>exact xg
 | box cs=>exact⟨fun h=>.inl (a6 rfl h),fun h=>.inl (a6 rfl h)⟩
 | fF ty cs=>exact⟨fun h=>.inl (a6 rfl h),fun h=>.inl (a6 rfl h)⟩
 | _=>exact Iff.rfl
theorem cu.rename {A:cV} {S:Nat->Prop} {rho:Nat->Value} {s:AS} {a:Act} {w:World} (sim:cu A cN cN S rho s a w) (i d:Nat) (hid:i≠d) (hdb:d < 100000):cu A cN cN S (fun j=>if j=d then rho i else rho j) (kC i d s) a w:=by
 have hd:(kC i d s).h d=GY i d (s.h i):=by simp[kC,cW]
 have hi:(kC i d s).h i=.none:=by
  have:cW i d=false:=by rw[Bool.eq_false_iff];intro e;exact hid (bG.1 e)
  simp only[kC,this,bG.2 rfl]
 have ho:∀k,k≠i->k≠d->(kC i d s).h k=GY i d (s.h k):=fun k h1 h2=>by
  have e1:cW k d=false:=by rw[Bool.eq_false_iff];intro e;exact h2 (bG.1 e)
  have e2:cW k i=false:=by rw[Bool.eq_false_iff];intro e;exact h1 (bG.1 e)
  simp[kC,e1,e2]
 have row:∀b e,(GY i d b).mf=some e->b.mf=some e:=fun b e h=>by cases b <;> exact h
 have T:Ad cN cN rho (fun j=>if j=d then rho i else rho j) s.h (kC i d s).h i d:=
  ⟨fun k h1 h2=>by rw[ho k h1 h2];exact⟨(rI _ _ _).1,fun h=>h,if_neg h2,row _⟩,fun _=>by rw[hd];exact⟨(rI _ _ _).1,fun h=>h,if_pos rfl,row _⟩⟩
 have QV:∀k,((kC i d s).h k).live->∃k',(s.h k').live/\(if k=d then rho i else rho k)=rho k'/\(k'=if k=d then i else k)/\∀v g,hasB w ((kC i d s).h k) v g↔hasB w (s.h k') v g:=by
  intro k hl
  by_cases e:k=d
  ·subst e
   rw[hd,Ac] at hl
   exact⟨i,hl,if_pos rfl,(if_pos rfl).symm,fun v g=>by rw[hd,D3]⟩
  by_cases e':k=i
  ·subst e';rw[hi] at hl;exact hl.elim
  rw[ho k e' e,Ac] at hl
  exact⟨k,hl,if_neg e,(if_neg e).symm,fun v g=>by rw[ho k e' e,D3]⟩
 have hrep:∀k b,eC S w A.C.P cN rho s.h k b->∀k',(if k'=d then rho i else rho k')=rho k->eC S w A.C.P cN (fun j=>if j=d then rho i else rho j) (kC i d s).h k' (GY i d b):=by
  intro k b hb k' hk
  cases b with
  | none=>trivial
  | row e es=>show aR _ _ _ _ _ (if k'=d then rho i else rho k');rw[hk];exact hb
  | iv es=>show bu _ _ _ (if k'=d then rho i else rho k');rw[hk];exact hb
  | iP es=>show bu _ _ _ (if k'=d then rho i else rho k');rw[hk];exact hb
  | map mk es=>
   obtain⟨g,ms,clock,h1,h2⟩:=hb
   exact⟨g,ms,clock,by simp only;rw[hk];exact h1,h2⟩
  | box cs=>
   obtain⟨g,ty,c,h1,h2,h3,h4⟩:=hb
   refine⟨g,ty,c,by simp only;rw[hk];exact h1,h2,by simpa using h3,fun j x u hj hu=>?_⟩
   rw[List.getElem?_map] at hj
   obtain⟨z,hz,rfl⟩:=Option.map_eq_some_iff.1 hj
   exact⟨(h4 j z u hz hu).1,(h4 j z u hz hu).2.rn T (.inl hid)⟩
  | fF ty cs=>
   obtain⟨g,c,h1,h2,h3,h4⟩:=hb
   refine⟨g,c,by simp only;rw[hk];exact h1,h2,by simpa using h3,fun j x u hj hu=>?_⟩
   rw[List.getElem?_map] at hj
   obtain⟨z,hz,rfl⟩:=Option.map_eq_some_iff.1 hj
   exact⟨(h4 j z u hz hu).1,(h4 j z u hz hu).2.rn T (.inl hid)⟩
  | bb cs=>
   obtain⟨g,ty,c,h1,h2⟩:=hb
   exact⟨g,ty,c,by simp only;rw[hk];exact h1,h2⟩
  | aL e es=>
   obtain⟨h1,h2⟩:=hb
   show aR _ _ _ _ _ (if k'=d then rho i else rho k')/\rv _ _ (if k'=d then rho i else rho k')
   rw[hk]
   refine⟨aR.map h1 fun x u hx=>?_,h2.map⟩
   cases x with
   | av x=>exact bF.rn T (.inl hid) hx
   | row e' wk=>exact hx
 exact
 {tm:=fun j hj=>(sim.tm j hj).rn T (.inl hid)
  sz:=sim.sz,df:=sim.df,nb:=sim.nb,pn:=fun id h=>by show (if id=d then rho i else rho id)=_;rw[if_neg (by omega)];exact sim.pn id h,ev:=sim.ev,s0:=sim.s0,st:=sim.st,sb:=sim.sb
  hp:=fun k _=>by
   by_cases e:k=d
   ·subst e;rw[hd];exact hrep i _ (sim.hp i trivial) k (if_pos rfl)
   by_cases e':k=i
   ·subst e';rw[hi];trivial
   rw[ho k e' e];exact hrep k _ (sim.hp k trivial) k (if_neg e)
  dj:=fun a b g _ _ la lb ha hb=>by
   obtain⟨a',h1,h2,h3,h7⟩:=QV a la
   obtain⟨b',h4,h5,h6,h8⟩:=QV b lb
   have:=sim.dj a' b' g trivial trivial h1 h4 (by rw[<-h7,<-h2];exact ha) (by rw[<-h8,<-h5];exact hb)
   rw[h3,h6] at this
   by_cases ea:a=d <;> by_cases eb:b=d
   ·rw[ea,eb]
   ·rw[if_pos ea,if_neg eb] at this
    rw[<-this] at lb
    rw[hi] at lb;exact lb.elim
   ·rw[if_neg ea,if_pos eb] at this
    rw[this] at la
    rw[hi] at la;exact la.elim
   rwa [if_neg ea,if_neg eb] at this
  lv:=fun k g _ lk hk=>by
   obtain⟨k',h1,h2,_,h3⟩:=QV k lk
   exact sim.lv k' g trivial h1 (by rw[<-h3,<-h2];exact hk)
  fr:=sim.fr }
theorem bF.sc {S:Nat->Prop} {w:World} {P:Program} {L L':Nat->Prop} {rho:Nat->Value} {h h':Nat->AB} {d:Nat} (T:Ad L L' rho rho h h' d d) {x:AV} {v:Value} (hx:bF S w P L rho h x v):bF S w P L' rho h' (sc d x) v:=by
 rw[GZ]
 split
 ·exact .junk v
 rename_i hm;exact hx.nN T hm hm
theorem E8 (d:Nat) (b:AB):(rH d b).there↔b.there:=by cases b <;> rfl
theorem qn (d:Nat) (b:AB):(rH d b).live↔b.live:=by cases b <;> rfl
theorem tL {w:World} (d:Nat) (b:AB) (v:Value) (g:Nat):hasB w (rH d b) v g↔hasB w b v g:=by
 cases b with
 | aL e es=>exact xg
 | box cs=>exact⟨fun h=>.inl (a6 rfl h),fun h=>.inl (a6 rfl h)⟩
 | fF ty cs=>exact⟨fun h=>.inl (a6 rfl h),fun h=>.inl (a6 rfl h)⟩
 | _=>exact Iff.rfl
theorem cu.KL {A:cV} {L S:Nat->Prop} {rho:Nat->Value} {s:AS} {a:Act} {w:World} (sim:cu A cN L S rho s a w) (d:Nat) (b:AB):cu A cN (fun k=>L k/\k≠d) S rho ⟨(WB d s).t,br (WB d s).h d b⟩ a w:=by
 have ho:∀k,k≠d->br (WB d s).h d b k=rH d (s.h k):=fun k hk=>by rw[bw _ _ hk];show br (fun k=>rH d (s.h k)) d AB.none k=_;rw[bw _ _ hk]
 have row:∀x e,(rH d x).mf=some e->x.mf=some e:=fun x e h=>by cases x <;> exact h
 have T:Ad L (fun k=>L k/\k≠d) rho rho s.h (br (WB d s).h d b) d d:=
  ⟨fun k h1 _=>by rw[ho k h1];exact⟨(E8 _ _).1,fun h=>⟨h,h1⟩,rfl,row _⟩,fun h=>absurd rfl h⟩
 exact
 {tm:=fun j hj=>(sim.tm j hj).sc T
  sz:=sim.sz,df:=sim.df,nb:=sim.nb,pn:=sim.pn,ev:=sim.ev,s0:=sim.s0,st:=sim.st,sb:=sim.sb
  hp:=fun k hk=>by
   show eC _ _ _ _ _ _ _ (br (WB d s).h d b k)
   rw[ho k hk.2]
   have hh:=sim.hp k hk.1
   cases hb:s.h k with
   | none=>trivial
   | row e es=>rw[hb] at hh;exact hh
   | iv es=>rw[hb] at hh;exact hh
   | iP es=>rw[hb] at hh;exact hh
   | map mk es=>rw[hb] at hh;exact hh
   | box cs=>
    rw[hb] at hh
    obtain⟨g,ty,c,h1,h2,h3,h4⟩:=hh
    refine⟨g,ty,c,h1,h2,by simpa using h3,fun j x u hj hu=>?_⟩
    rw[List.getElem?_map] at hj
    obtain⟨z,hz,rfl⟩:=Option.map_eq_some_iff.1 hj
    exact⟨(h4 j z u hz hu).1,(h4 j z u hz hu).2.sc T⟩
   | fF ty cs=>
    rw[hb] at hh
    obtain⟨g,c,h1,h2,h3,h4⟩:=hh
    refine⟨g,c,h1,h2,by simpa using h3,fun j x u hj hu=>?_⟩
    rw[List.getElem?_map] at hj
    obtain⟨z,hz,rfl⟩:=Option.map_eq_some_iff.1 hj
    exact⟨(h4 j z u hz hu).1,(h4 j z u hz hu).2.sc T⟩
   | bb cs=>rw[hb] at hh;exact hh
   | aL e es=>
    rw[hb] at hh
    obtain⟨h1,h2⟩:=hh
    refine⟨aR.map h1 fun x u hx=>?_,h2.map⟩
    cases x with
    | av x=>exact bF.sc T hx
    | row e' wk=>exact hx
  dj:=fun i j g hi hj li lj eR iC=>by
   have lh:(br (WB d s).h d b i).live:=li
   have NV:(br (WB d s).h d b j).live:=lj
   have eR:hasB w (br (WB d s).h d b i) (rho i) g:=eR
   have iC:hasB w (br (WB d s).h d b j) (rho j) g:=iC
   rw[ho i hi.2,qn] at lh
   rw[ho j hj.2,qn] at NV
   rw[ho i hi.2,tL] at eR
   rw[ho j hj.2,tL] at iC
   exact sim.dj i j g hi.1 hj.1 lh NV eR iC
  lv:=fun i g hi li hg=>by
   have lh:(br (WB d s).h d b i).live:=li
   have hg:hasB w (br (WB d s).h d b i) (rho i) g:=hg
   rw[ho i hi.2,qn] at lh
   rw[ho i hi.2,tL] at hg
   exact sim.lv i g hi.1 lh hg
  fr:=sim.fr }
theorem cu.nA {A:cV} {V V' L L' S:Nat->Prop} {rho:Nat->Value} {s:AS} {a:Act} {w:World} (sim:cu A V L S rho s a w) (hV:∀j,V' j->V j) (hL:∀i,L' i↔L i):cu A V' L' S rho s a w:=by
 have e:L'=L:=funext fun i=>propext (hL i)
 subst e
 exact { sim with tm:=fun j hj=>sim.tm j (hV j hj) }
theorem cu.D4 {A:cV} {V S:Nat->Prop} {rho:Nat->Value} {s:AS} {a:Act} {w:World} (d:Nat) (sim:cu A V (fun k=>k≠d) S rho s a w) (hn:s.h d=.none):cu A V cN S rho s a w:=by
 have T:jx S S w w (fun k=>k≠d) cN rho rho s.h s.h:=⟨fun b h=>h,fun _ _=>rfl,fun k hk=>⟨hk,fun _=>⟨trivial,rfl⟩⟩,fun k e h=>h⟩
 have nl:∀k,(s.h k).live->k≠d:=fun k hk e=>by rw[e,hn] at hk;exact hk
 exact
 {tm:=fun j hj=>(sim.tm j hj).lz T
  sz:=sim.sz,df:=sim.df,nb:=sim.nb,pn:=sim.pn,ev:=sim.ev,s0:=sim.s0,st:=sim.st,sb:=sim.sb
  hp:=fun k _=>by
   by_cases e:k=d
   ·subst e;rw[hn];trivial
   exact (sim.hp k e).lz T (fun _ _ _=>rfl) (fun _=>rfl)
  dj:=fun i j g _ _ li lj=>sim.dj i j g (nl i li) (nl j lj) li lj
  lv:=fun i g _ li=>sim.lv i g (nl i li) li
  fr:=sim.fr }
theorem cu.free {A:cV} {S:Nat->Prop} {rho:Nat->Value} {s:AS} {a:Act} {w:World} (sim:cu A cN cN S rho s a w) (d:Nat) (b:AB):cu A cN (fun k=>k≠d) S rho ⟨(WB d s).t,br (WB d s).h d b⟩ a w:=
 (sim.KL d b).nA (fun _ _=>trivial) (fun _=>⟨fun h=>⟨trivial,h⟩,fun h=>h.2⟩)
def gV:Op->Bool
 | .box _ _ | .alloc _ | .buildSlice _ _ _ | .makeSlice _ _ _ | .makeMap _ _=>true
 | .call c=>match c.callee with
  | .builtin .append=>true
  | .value _=>true
  | _=>false
 | _=>false
def qg (h:Nat->AB) (d:Nat):Option AB->Nat->AB
 | none=>h
 | some b=>br h d b
def uv:AV->Bool
 | .p (.sl [])=>true
 | _=>false
def L3:AV->Bool
 | .nl=>true
 | _=>false
def QW:BinOp->Bool
 | .eql=>true
 | .neq=>true
 | _=>false
def qo (C:Ctx) (o:Oper) (t:Nat->AV):Bool:=match o.op with
 | .binOp op ty x y _=>QW op && L3 (ev t y) && uv (ev t x) && (match C.T ty with
  | some { ud:=.sl _,.. }=>true
  | _=>false)
 | _=>false
def pg (C:Ctx) (o:Oper) (K:AS->Prop) (s:AS):Prop:=
 match gV o.op with
 | true=>bY C o (ev (WB (o.dst.getD 0) s).t) (WB (o.dst.getD 0) s).h fun v eff new=>K ⟨eu (WB (o.dst.getD 0) s).t o.dst v,match new with
   | none=>br (app (WB (o.dst.getD 0) s).h eff) (o.dst.getD 0) .none
   | some b=>app (br (WB (o.dst.getD 0) s).h (o.dst.getD 0) b) eff⟩
 | false=>match o.op,o.dst with
  | .assign x,some d=>match ev s.t x with
   | .ow i=>match s.h i with
    | .row _ _=>match cW i d with
     | true=>K ⟨br s.t d (.ow i),s.h⟩
     | false=>K ⟨br (kC i d s).t d (.ow d),(kC i d s).h⟩
    | .aL _ _=>match cW i d with
     | true=>K ⟨br s.t d (.ow i),s.h⟩
     | false=>K ⟨br (kC i d s).t d (.ow d),(kC i d s).h⟩
    | _=>K ⟨br s.t d (.ow i),s.h⟩
   | v=>K ⟨br s.t d v,s.h⟩
  | _,_=>bY C o (ev s.t) s.h fun v eff new=>match new with
   | none=>K ⟨eu s.t o.dst v,app s.h eff⟩
   | some _=>False
def step (C:Ctx) (o:Oper) (K:AS->Prop) (s:AS):Prop:=match qo C o s.t with
 | true=>K ⟨eu s.t o.dst (.p (.im (.bool true))),s.h⟩/\K ⟨eu s.t o.dst (.p (.im (.bool false))),s.h⟩
 | false=>pg C o K s
def ji (o:Oper) (n:Nat):Prop:=∀d,o.dst=some d->d < n
theorem Ae {A:cV} (hC:bV A.C) {o:Oper} {S:Nat->Prop} {rho:Nat->Value} {s:AS} {a:Act} {w:World} {K:AS->Prop} {next:Act->World->Prop} {Q:Exit->Act->World->Prop} (hd:ji o A.n) (sim:cu A cN cN S rho s a w) (hq:pg A.C o K s)
  (hnext:∀s' S' rho' a' w',K s'->cu A cN cN S' rho' s' a' w'->next a' w'):o.wp A.C.P a w next Q:=by
 have plain:∀K':KK,bY A.C o (ev s.t) s.h K'->(∀v eff b,¬K' v eff (some b))->(∀v eff,K' v eff none->K ⟨eu s.t o.dst v,app s.h eff⟩)->o.wp A.C.P a w next Q:=by
  intro K' hq h1 h2
  refine GX A o _ _ _ _ _ _ _ K' next Q hC sim (fun _ _=>trivial) hd hq (fun v eff b h=>absurd h (h1 v eff b)) fun v eff new S' rho' a' w' hk cc=>?_
  cases new with
  | some b=>exact absurd hk (h1 v eff b)
  | none=>exact hnext _ _ _ _ _ (h2 v eff hk) (cc.nA (fun _ _=>.inl trivial) (fun _=>Iff.rfl))
 unfold pg at hq
 split at hq
 ·have QX:∀n,Ext (WB (o.dst.getD 0) s).h (qg (WB (o.dst.getD 0) s).h (o.dst.getD 0) n):=fun n k=>by
   cases n with
   | none=>exact .inr rfl
   | some b=>
    by_cases e:k=o.dst.getD 0
    ·subst e;exact .inl (by show br (fun k=>rH (o.dst.getD 0) (s.h k)) _ AB.none _=_;rw[aO])
    exact .inr (bw _ _ e)
  obtain⟨v,eff,new,hk,Gp⟩:=oG (fun _=>.inr rfl) hq
  obtain⟨v2,e2,n2,⟨rfl,rfl,rfl⟩,xW⟩:=oG (QX new) (Gp (fun v' e' n'=>v'=v/\e'=eff/\n'=new) ⟨rfl,rfl,rfl⟩)
  have rD:=xW (fun v' e' n'=>v'=v2/\e'=e2/\n'=n2) ⟨rfl,rfl,rfl⟩
  have nO:cu A cN (fun k=>k≠o.dst.getD 0) S rho ⟨(WB (o.dst.getD 0) s).t,qg (WB (o.dst.getD 0) s).h (o.dst.getD 0) n2⟩ a w:=by
   have:=sim.free (o.dst.getD 0) (match n2 with | none=>.none | some b=>b)
   cases n2 with
   | some b=>exact this
   | none=>
    have e:br (WB (o.dst.getD 0) s).h (o.dst.getD 0) .none=(WB (o.dst.getD 0) s).h:=eU _ _ _ (by show br (fun k=>rH (o.dst.getD 0) (s.h k)) _ AB.none _=_;rw[aO])
    simp only at this
    rw[e] at this
    exact this
  refine GX A o _ _ _ _ _ _ _ _ next Q hC nO (fun _ _=>trivial) hd rD (fun v eff b h=>?_) fun v eff new S' rho' a' w' tI cc=>?_
  ·obtain⟨_,_,rfl⟩:=h
   exact⟨fun h=>h rfl,aO _ _ _⟩
  obtain⟨rfl,rfl,rfl⟩:=tI
  refine hnext _ S' rho' _ _ hk ?_
  cases new with
  | some b=>exact cc.nA (V':=cN) (L':=cN) (fun _ _=>.inl trivial) (fun k=>⟨fun _=>by by_cases e:k=o.dst.getD 0;exact .inr e;exact .inl e,fun _=>trivial⟩)
  | none=>exact ((cc.kill (o.dst.getD 0)).D4 _ (aO _ _ _)).nA (fun _ _=>.inl trivial) (fun _=>Iff.rfl)
 split at hq
 ·rename_i x d aU jz
  have run:(execOp a.eval o).run A.C.P w=.ok (.value (a.eval x)) w:=by simp[execOp,aU]
  have hx:=bH sim x (fun _ _=>trivial)
  have same:∀v,ev s.t x=v->K ⟨br s.t d v,s.h⟩->o.wp A.C.P a w next Q:=fun v hv hk=>by
   refine dP run (hnext _ S rho _ _ hk ?_)
   have:=(sim.value o.dst hd v _ (by rw[<-hv];exact hx)).nA (V':=cN) (L':=cN) (fun _ _=>.inl trivial) (fun _=>Iff.rfl)
   rw[jz] at this ⊢
   exact this
  have E9:∀i,ev s.t x=.ow i->cW i d=false->K ⟨br (kC i d s).t d (.ow d),(kC i d s).h⟩->o.wp A.C.P a w next Q:=fun i hi b8 hq=>by
     have hid:i≠d:=fun e=>by rw[bG.2 e] at b8;cases b8
     refine dP run (hnext _ S (fun j=>if j=d then rho i else rho j) _ _ hq ?_)
     have nO:=sim.rename i d hid (Nat.lt_of_lt_of_le (hd d jz) sim.nb)
     have Uk:bF S w A.C.P cN (fun j=>if j=d then rho i else rho j) (kC i d s).h (.ow d) (a.eval x):=by
      rw[hi] at hx
      refine .ow d _ fun ht=>⟨trivial,?_⟩
      have:(s.h i).there:=by simpa [kC,bG.2 rfl,rI] using ht
      rw[(hx.de this).2]
      simp
     have:=(nO.value o.dst hd (.ow d) _ Uk).nA (V':=cN) (L':=cN) (fun _ _=>.inl trivial) (fun _=>Iff.rfl)
     rw[jz] at this ⊢
     exact this
  split at hq
  ·rename_i i hi
   split at hq
   ·split at hq
    ·exact same _ hi hq
    rename_i b8
    exact E9 i hi b8 hq
   ·split at hq
    ·exact same _ hi hq
    rename_i b8
    exact E9 i hi b8 hq
   exact same _ hi hq
  exact same _ rfl hq
 refine plain _ hq (fun v eff b h=>h) (fun v eff h=>h)
theorem yd {x:AV} (h:uv x=true):x=.p (.sl []):=by
 unfold uv at h
 split at h
 ·rfl
 cases h
theorem G1 {x:AV} (h:L3 x=true):x=.nl:=by unfold L3 at h;split at h;rfl;cases h
theorem Cm {A:cV} (hC:bV A.C) {o:Oper} {S:Nat->Prop} {rho:Nat->Value} {s:AS} {a:Act} {w:World} {K:AS->Prop} {next:Act->World->Prop} {Q:Exit->Act->World->Prop} (hd:ji o A.n) (sim:cu A cN cN S rho s a w) (hq:step A.C o K s)
  (hnext:∀s' S' rho' a' w',K s'->cu A cN cN S' rho' s' a' w'->next a' w'):o.wp A.C.P a w next Q:=by
 unfold step at hq
 split at hq
 ·rename_i hn
  unfold qo at hn
  split at hn
  ·rename_i op ty x y VW aU
   simp only[Bool.and_eq_true] at hn
   obtain⟨⟨⟨h1,h3⟩,h2⟩,h4⟩:=hn
   split at h4
   case h_2=>cases h4
   rename_i e size bytes zero eq hT
   have e_:=(hC.gE ty _ hT).under
   simp only at e_
   have hx:=bH sim x (fun _ _=>trivial)
   have hy:=bH sim y (fun _ _=>trivial)
   rw[yd h2] at hx
   rw[G1 h3] at hy
   obtain⟨ad,c,hv,_⟩:=hx.fI.mj
   have lC:a.eval y=.slice none 0 0:=by generalize a.eval y=v at hy;cases hy;rfl
   have fin:∀b:Bool,(execOp a.eval o).run A.C.P w=.ok (.value (.bool b)) w->o.wp A.C.P a w next Q:=fun b hrun=>by
    refine dP hrun (hnext ⟨eu s.t o.dst (.p (.im (.bool b))),s.h⟩ S rho _ _ ?_ ?_)
    ·cases b
     ·exact hq.2
     exact hq.1
    exact (sim.value o.dst hd (.p (.im (.bool b))) _ (.p _ _ (.im _))).nA (V':=cN) (L':=cN) (fun _ _=>.inl trivial) (fun _=>Iff.rfl)
   cases op <;> first | (cases h1;done) | skip
   ·refine fin ad.isNone ?_
    simp[execOp,aU,hv,lC,eqGuard,binOp,run_equal_slice_nil _ _ _ _ _ _ e_]
   refine fin (!ad.isNone) ?_
   simp[execOp,aU,hv,lC,eqGuard,binOp,run_equal_slice_nil _ _ _ _ _ _ e_]
  cases hn
 exact Ae hC hd sim hq hnext
end Go.AM
namespace Go.AM
open Go.RowKit
def fj (b:Bool) (p q:Prop):Prop:=match b with
 | true=>p
 | false=>q
theorem aa {b:Bool} {p q:Prop} (h1:b=true->p) (h2:b=false->q):fj b p q:=by
 cases b
 ·exact h2 rfl
 exact h1 rfl
def ew (b:Bool):AV:=.p (.im (.bool b))
def kD:AV:=.p (.im undef)
def G2:Value->Option Bool
 | .bool b=>some b
 | _=>none
def NW (v:Value) (want:Bool):Bool:=G2 v == some want
def cX (C:Ctx) (all:List Oper):List Oper->(AS->Prop)->AS->Prop
 | [],K,s=>K s
 | o::r,K,s=>match o.guard with
  | none=>step C o (cX C all r K) s
  | some (g,want)=>match all[g]? with
   | none=>False
   | some og=>match og.dst with
    | none=>False
    | some tg=>match s.t tg with
     | .p (.im (.bool b))=>fj b
       (match want with
        | true=>step C o (cX C all r K) ⟨br s.t tg (ew true),s.h⟩
        | false=>cX C all r K ⟨eu (br s.t tg (ew true)) o.dst kD,s.h⟩)
       (match want with
        | false=>step C o (cX C all r K) ⟨br s.t tg (ew false),s.h⟩
        | true=>cX C all r K ⟨eu (br s.t tg (ew false)) o.dst kD,s.h⟩)
     | .p (.im (.tuple _))=>cX C all r K ⟨eu s.t o.dst kD,s.h⟩
     | _=>False
theorem mw {A:cV} {V L S:Nat->Prop} {rho:Nat->Value} {s:AS} {a:Act} {w:World} (sim:cu A V L S rho s a w) {ops:Array Oper} {g tg:Nat} {og:Oper} {v:Value} (h1:ops[g]?=some og) (h2:og.dst=some tg) (hv:V tg) (h3:s.t tg=.p (.im v)):yielded ops a.tmps g=G2 v:=by
 have h4:=sim.tm tg hv
 rw[h3] at h4
 have h5:a.tmps.getD tg undef=v:=h4.ca
 rw[Array.getD_eq_getD_getElem?] at h5
 subst h5
 unfold yielded G2
 rw[h1]
 simp only[Option.bind_some,h2]
 cases h:a.tmps[tg]? with
 | none=>rfl
 | some v=>simp only[Option.getD_some];split <;> simp_all
theorem Cn {A:cV} (hC:bV A.C) {ops:Array Oper} {Q:Exit->Act->World->Prop} {K:AS->Prop} (fU:∀s S rho a w,K s->cu A cN cN S rho s a w->Q .normal a w):
  ∀(l:List Oper) (k:Nat) (s:AS) (S:Nat->Prop) (rho:Nat->Value) (a:Act) (w:World),(∀j,l[j]?=ops[k+j]?)->(∀o∈l,ji o A.n)->cX A.C ops.toList l K s->cu A cN cN S rho s a w->wpOps A.C.P ops Q (List.range' k l.length) a w:=by
 intro l
 induction l with
 | nil=>intro k s S rho a w _ _ hq sim;exact fU s S rho a w hq sim
 | cons o l ih=>
  intro k s S rho a w hl hd hq sim
  have h0:ops[k]?=some o:=by simpa using (hl 0).symm
  have E_:∀j,l[j]?=ops[k+1+j]?:=fun j=>by have:=hl (j+1);simpa [Nat.add_assoc,Nat.add_comm 1 j] using this
  have tz:∀o∈l,ji o A.n:=fun o ho=>hd o (by simp[ho])
  have NX:=hd o (by simp)
  rw[List.length_cons,List.range'_succ]
  simp only[wpOps,h0]
  have run:∀(s:AS),step A.C o (cX A.C ops.toList l K) s->cu A cN cN S rho s a w->o.wp A.C.P a w (wpOps A.C.P ops Q (List.range' (k+1) l.length)) Q:=fun s hs sim=>
   Cm hC NX sim hs fun s' S' rho' a' w' hk cc=>ih (k+1) s' S' rho' a' w' E_ tz hk cc
  have skip:∀(t:Nat->AV),cX A.C ops.toList l K ⟨eu t o.dst kD,s.h⟩->cu A cN cN S rho ⟨t,s.h⟩ a w->wpOps A.C.P ops Q (List.range' (k+1) l.length) (a.put o.dst undef) w:=fun t hs sim=>by
   have:=(sim.value o.dst NX kD undef (.p _ _ (.im _))).nA (V':=cN) (L':=cN) (fun _ _=>.inl trivial) (fun _=>Iff.rfl)
   exact ih (k+1) _ S rho _ w E_ tz hs this
  unfold cX at hq
  split at hq
  ·rename_i hg
   rw[if_pos (by simp[Region.wanted,hg])]
   exact .inl (run s hq sim)
  rename_i g want hg
  split at hq
  ·exact hq.elim
  rename_i og L4
  split at hq
  ·exact hq.elim
  rename_i tg L5
  split at hq
  ·rename_i b hb
   have hy:=mw sim (ops:=ops) (g:=g) (by simpa using L4) L5 trivial hb
   have qp:∀b',b=b'->br s.t tg (ew b')=s.t:=fun b' e=>eU _ _ _ (by rw[hb,e];rfl)
   have uw:Region.wanted o (yielded ops a.tmps)=(some b == some want):=by simp[Region.wanted,hg,hy,G2]
   rw[uw]
   cases b <;> cases want <;> simp only[fj] at hq
   ·rw[qp false rfl] at hq
    rw[if_pos (by decide)]
    exact .inl (run s hq sim)
   ·rw[qp false rfl] at hq
    rw[if_neg (by decide)]
    exact skip s.t hq sim
   ·rw[qp true rfl] at hq
    rw[if_neg (by decide)]
    exact skip s.t hq sim
   rw[qp true rfl] at hq
   rw[if_pos (by decide)]
   exact .inl (run s hq sim)
  ·rename_i q hb
   have hy:=mw sim (ops:=ops) (g:=g) (by simpa using L4) L5 trivial hb
   have uw:Region.wanted o (yielded ops a.tmps)=false:=by simp[Region.wanted,hg,hy,G2]
   rw[uw,if_neg (by decide)]
   exact skip s.t hq sim
  exact hq.elim
def W (A:cV) (c:Code) (K:Exit->AS->Prop) (s:AS):Prop:=
 ∀S rho a w,cu A cN cN S rho s a w->c.wp A.C.P (fun e a' w'=>∃S' rho' s',cu A cN cN S' rho' s' a' w'/\K e s') a w
theorem NY {A:cV} {x y:Code} {K:Exit->AS->Prop} {s:AS} (h:W A x (fun e s'=>match e with | .normal=>W A y K s' | e=>K e s') s):W A (.seq x y) K s:=by
 intro S rho a w sim
 refine wp_seq (wp_mono (h S rho a w sim) fun e a' w' hq=>?_)
 obtain⟨S',rho',s',cc,hk⟩:=hq
 cases e with
 | normal=>exact hk S' rho' a' w' cc
 | exit id=>exact⟨S',rho',s',cc,hk⟩
 | goto l=>exact⟨S',rho',s',cc,hk⟩
 | ret=>exact⟨S',rho',s',cc,hk⟩
 | panic c=>exact⟨S',rho',s',cc,hk⟩
 | outgrown=>exact⟨S',rho',s',cc,hk⟩
theorem Co {A:cV} {c:Code} {K K':Exit->AS->Prop} {s:AS} (h:W A c K s) (hk:∀e s,K e s->K' e s):W A c K' s:=
 fun S rho a w sim=>wp_mono (h S rho a w sim) fun _ _ _ ⟨S',rho',s',cc,k⟩=>⟨S',rho',s',cc,hk _ _ k⟩
theorem L6 {A:cV} {c:Operand} {x y:Code} {K:Exit->AS->Prop} {s:AS} {b:Bool} (hb:ev s.t c=.p (.im (.bool b))) (h1:b=true->W A x K s) (h2:b=false->W A y K s):W A (.cond c x y) K s:=by
 intro S rho a w sim
 have hc:=bH sim c (fun _ _=>trivial)
 rw[hb] at hc
 refine wp_cond_split hc.ca (fun h=>h1 h S rho a w sim) (fun h=>h2 h S rho a w sim)
theorem Jv {A:cV} {id:Nat} {c:Code} {K:Exit->AS->Prop} {s:AS} (h:W A c (fun e s'=>match e with | .exit i=>fj (cW i id) (K .normal s') (K (.exit i) s') | e=>K e s') s):W A (.block id c) K s:=by
 intro S rho a w sim
 refine wp_block (wp_mono (h S rho a w sim) fun e a' w' hq=>?_)
 obtain⟨S',rho',s',cc,hk⟩:=hq
 cases e with
 | exit i=>
  simp only[Exit.inBlock]
  simp only at hk
  by_cases e:i=id
  ·rw[if_pos e]
   rw[bG.2 e] at hk
   exact⟨S',rho',s',cc,hk⟩
  rw[if_neg e]
  have:cW i id=false:=by rw[Bool.eq_false_iff];intro h;exact e (bG.1 h)
  rw[this] at hk
  exact⟨S',rho',s',cc,hk⟩
 | normal=>exact⟨S',rho',s',cc,hk⟩
 | goto l=>exact⟨S',rho',s',cc,hk⟩
 | ret=>exact⟨S',rho',s',cc,hk⟩
 | panic c=>exact⟨S',rho',s',cc,hk⟩
 | outgrown=>exact⟨S',rho',s',cc,hk⟩
def aW (A:cV) (s s':AS):Prop:=∀S rho a w,cu A cN cN S rho s a w->∃S' rho',cu A cN cN S' rho' s' a w
theorem aW.refl (A:cV) (s:AS):aW A s s:=fun S rho _ _ h=>⟨S,rho,h⟩
theorem aW.trans {A:cV} {s s' kU:AS} (h:aW A s s') (k:aW A s' kU):aW A s kU:=fun S rho a w sim=>by
 obtain⟨S',rho',cc⟩:=h S rho a w sim
 exact k S' rho' a w cc
theorem least {P:Nat->Prop} (h:∃n,P n):∃n,P n/\∀k,P k->n<=k:=by
 obtain⟨n,hn⟩:=h
 induction n using Nat.strongRecOn with
 | _ n ih=>
  by_cases hk:∃k,k < n/\P k
  ·obtain⟨k,h1,h2⟩:=hk
   exact ih k h1 h2
  exact⟨n,hn,fun k h=>Nat.le_of_not_lt fun eL=>hk ⟨k,eL,h⟩⟩
theorem L7 {A:cV} {c:Code} {K:Exit->AS->Prop} {s:AS} {α:Type} (I:α->AS->Prop) (m:α->Nat) (h0:∃x s',aW A s s'/\I x s')
  (round:∀x s,I x s->W A c (fun e s'=>match e with | .normal=>∃y kU,aW A s' kU/\I y kU/\m y < m x | e=>K e s') s):W A (.loop c) K s:=by
 intro S rho a w sim
 let J:Act->World->Nat->Prop:=fun a w n=>∃x S rho s,cu A cN cN S rho s a w/\I x s/\m x=n
 have dec:∀a w,Decidable (∃n,J a w n):=fun a w=>Classical.propDecidable _
 let mu:Act->World->Nat:=fun a w=>@dite _ (∃n,J a w n) (dec a w) (fun h=>Classical.choose (least h)) (fun _=>0)
 have SR:∀a w (h:∃n,J a w n),mu a w=Classical.choose (least h):=fun a w h=>by
  show @dite _ _ (dec a w) _ _=_
  rw[dif_pos h]
 refine wp_loop (fun a w=>∃n,J a w n) mu ?_ ?_
 ·obtain⟨x,s',hle,hi⟩:=h0
  obtain⟨S',rho',cc⟩:=hle S rho a w sim
  exact⟨m x,x,S',rho',s',cc,hi,rfl⟩
 intro a w hJ
 obtain⟨⟨x,S1,QY,s1,nO,hi,hm⟩,_⟩:=Classical.choose_spec (least hJ)
 refine wp_mono (round x s1 hi S1 QY a w nO) fun e a' w' hq=>?_
 obtain⟨S',rho',s',cc,hk⟩:=hq
 cases e with
 | normal=>
  obtain⟨y,kU,hle,D1,eL⟩:=hk
  obtain⟨SS,KM,KO⟩:=hle S' rho' a' w' cc
  have QZ:∃n,J a' w' n:=⟨m y,y,SS,KM,kU,KO,D1,rfl⟩
  refine⟨QZ,?_⟩
  rw[SR a w hJ,SR a' w' QZ,<-hm]
  exact Nat.lt_of_le_of_lt ((Classical.choose_spec (least QZ)).2 (m y) ⟨y,SS,KM,kU,KO,D1,rfl⟩) eL
 | exit id=>exact⟨S',rho',s',cc,hk⟩
 | goto l=>exact⟨S',rho',s',cc,hk⟩
 | ret=>exact⟨S',rho',s',cc,hk⟩
 | panic c=>exact⟨S',rho',s',cc,hk⟩
 | outgrown=>exact⟨S',rho',s',cc,hk⟩
theorem G3 {A:cV} (hC:bV A.C) {id:Nat} {ops:Array Oper} {K:Exit->AS->Prop} {s:AS} (hd:∀o∈ops.toList,ji o A.n) (h:cX A.C ops.toList ops.toList (K .normal) s):W A (.region id ops false) K s:=by
 intro S rho a w sim
 refine wp_region ?_
 have:=Cn hC (ops:=ops) (Q:=fun e a' w'=>∃S' rho' s',cu A cN cN S' rho' s' a' w'/\K e s') (K:=K .normal) (fun s S rho a w hk sim=>⟨S,rho,s,sim,hk⟩) ops.toList 0 s S rho a w (fun j=>by simp) hd h sim
 rw[List.range_eq_range']
 simpa using this
end Go.AM
namespace Go.AM
open Go.RowKit
def NZ (j:Nat):Arg->AV
 | .pv x=>.p x
 | .row _ _=>.ow (100000+j)
 | .box _=>.bx (100000+j) 0
 | .bb _=>.bx (100000+j) 0
def KP:Arg->AB
 | .pv _=>.none
 | .row e es=>.row e es
 | .box cs=>.box (cs.map .p)
 | .bb cs=>.bb cs
def bM:List AV->List Nat
 | []=>[]
 | .ow n::r=>n::bM r
 | _::r=>bM r
def Af (n:Nat):List Nat->Bool
 | []=>false
 | m::r=>match Nat.beq m n with
  | true=>true
  | false=>Af n r
def dJ:List Nat->Bool
 | []=>true
 | n::r=>!Af n r && (Nat.blt n 100000 && dJ r)
def G4:List Arg->Bool
 | []=>true
 | .bb _::_=>false
 | _::r=>G4 r
def sS (h:Nat->AB):List AV->List HC->Prop
 | [],[]=>True
 | .p x::r,.p y::s=>x=y/\sS h r s
 | .ow n::r,.row e es::s=>h n=.row e es/\sS h r s
 | _,_=>False
theorem jS {n:Nat} {l:List Nat}:Af n l=true↔n∈l:=by
 induction l with
 | nil=>simp[Af]
 | cons m l ih=>
  unfold Af
  split
  ·rename_i h
   have:=Nat.eq_of_beq_eq_true h
   simp[this]
  rename_i h
  rw[ih]
  have:¬n=m:=fun e=>by rw[e] at h;simp at h
  simp[this]
theorem WE {n:Nat}:∀{l:List AV},n∈bM l↔(AV.ow n:AV)∈l
 | []=>by simp[bM]
 | x::l=>by cases x <;> simp[bM,WE (l:=l)]
theorem mz:∀{l:List AV} {i j n:Nat},dJ (bM l)=true->l[i]?=some (.ow n)->l[j]?=some (.ow n)->i=j
 | [],i,j,n,_,h,_=>by simp at h
 | x::l,i,j,n,hg,h1,h2=>by
  have tail:dJ (bM l)=true:=by
   cases x <;> first | exact hg | (simp[bM,dJ] at hg ⊢;exact hg.2.2)
  have KR:∀k:Nat,x=AV.ow n->l[k]?=some (AV.ow n)->False:=fun k hx hk=>by
   subst hx
   simp[bM,dJ] at hg
   have:Af n (bM l)=true:=jS.2 (WE.2 (List.mem_of_getElem? hk))
   rw[hg.1] at this
   cases this
  cases i with
  | zero=>
   cases j with
   | zero=>rfl
   | succ j=>simp at h1 h2;exact (KR j h1 h2).elim
  | succ i=>
   cases j with
   | zero=>simp at h1 h2;exact (KR i h2 h1).elim
   | succ j=>simp at h1 h2;rw[mz tail h1 h2]
theorem mA:∀{l:List Nat} {n:Nat},dJ l=true->n∈l->n < 100000
 | [],n,_,h=>by cases h
 | m::l,n,hg,h=>by
  simp[dJ] at hg
  rcases List.mem_cons.1 h with h | h
  ·subst h
   have:=hg.2.1
   first | omega | (have:=Nat.le_of_ble_eq_true (show Nat.ble (n+1) 100000=true from this);omega) | (simp[Nat.blt] at this;omega)
  exact mA hg.2.2 h
theorem xi {h:Nat->AB}:∀{bs:List AV} {cs:List HC},sS h bs cs->bs.length=cs.length
 | [],[],_=>rfl
 | [],_::_,hp=>hp.elim
 | b::bs,[],hp=>by cases b <;> exact hp.elim
 | b::bs,c::cs,hp=>by
  cases b <;> cases c <;> first | exact hp.elim | (have:=xi hp.2;simp[this])
theorem Ag {h:Nat->AB}:∀{bs:List AV} {cs:List HC} {j:Nat} {x:AV} {y:HC},sS h bs cs->bs[j]?=some x->cs[j]?=some y->(∃z,x=.p z/\y=.p z)\/∃n e es,x=.ow n/\y=.row e es/\h n=.row e es
 | [],_,j,x,y,_,h1,_=>by simp at h1
 | b::bs,[],j,x,y,_,_,h2=>by simp at h2
 | b::bs,c::cs,0,x,y,hp,h1,h2=>by
  simp at h1 h2
  subst h1 h2
  cases b <;> cases c <;> first | exact hp.elim | exact .inl ⟨_,rfl,by rw[hp.1]⟩ | exact .inr ⟨_,_,_,rfl,rfl,hp.1⟩
 | b::bs,c::cs,j+1,x,y,hp,h1,h2=>by
  simp at h1 h2
  have hp':sS h bs cs:=by cases b <;> cases c <;> first | exact hp.elim | exact hp.2
  exact Ag hp' h1 h2
theorem ux {A:cV} {V L S:Nat->Prop} {rho:Nat->Value} {s:AS} {a:Act} {w:World} (sim:cu A V L S rho s a w) {id:Nat} (hL:L id) {bs:List AV} {cs:List HC} (hb:s.h id=.box bs) (hg:dJ (bM bs)=true) (hp:sS s.h bs cs):
  ∃g ty c,rho id=.pointer (some ⟨g,0,none⟩)/\EC S w A.C.P cs g ty c/\∀k,hasB w (.bb cs) (rho id) k->cU (rho id)=some k\/∃n,n∈bM bs/\L n/\(s.h n).live/\cU (rho n)=some k:=by
 have hh:=sim.hp id hL
 rw[hb] at hh
 obtain⟨g,ty,c,k1,k2,k3,k4⟩:=hh
 have hl:=xi hp
 have bZ:(s.h id).live:=by rw[hb];trivial
 have hx:∀{j:Nat} {y:HC} {u:Value},cs[j]?=some y->c[j]?=some u->u.oneCell'=true/\Kx S w A.C.P y u/\(y.isRow->∃n,bs[j]?=some (.ow n)/\L n/\u=rho n/\(s.h n).live/\n≠id):=by
  intro j y u hj hu
  obtain⟨x,hx⟩:∃x,bs[j]?=some x:=⟨_,List.getElem?_eq_getElem (by rw[hl];exact aP hj)⟩
  obtain⟨o1,o2⟩:=k4 j x u hx hu
  rcases Ag hp hx hj with⟨z,rfl,rfl⟩ | ⟨n,e,es,rfl,rfl,hn⟩
  ·exact⟨o1,o2.fI,fun h=>h.elim⟩
  obtain⟨Cp,rfl⟩:=o2.de (by rw[hn];trivial)
  have hr:=sim.hp n Cp
  rw[hn] at hr
  exact⟨o1,hr,fun _=>⟨n,hx,Cp,rfl,by rw[hn];trivial,fun e=>by rw[e,hb] at hn;cases hn⟩⟩
 have Fa:cU (rho id)=some g:=by rw[k1];rfl
 refine⟨g,ty,c,k1,⟨k2,by rw[k3,hl],fun j y u hj hu=>⟨(hx hj hu).1,(hx hj hu).2.1⟩,fun j y u b hj hu hy hb' e=>?_,fun i j x y u v b hi hj hu hv Ul Um e1 e2=>?_⟩,fun k hk=>?_⟩
 ·obtain⟨n,_,Cp,rfl,IZ,b8⟩:=(hx hj hu).2.2 hy
  subst e
  exact b8 (sim.Pp n id b Cp hL IZ bZ hb' Fa)
 ·obtain⟨n,hn,Cp,rfl,IZ,_⟩:=(hx hi hu).2.2 Ul
  obtain⟨m,hm,Un,rfl,PC,_⟩:=(hx hj hv).2.2 Um
  have:=sim.Pp n m b Cp Un IZ PC e1 e2
  subst this
  exact mz hg hn hm
 rcases hk with hk | ⟨kI,g',m_,mc,c',SF,m,j,y,u,q1,q2,q3,q4,q5⟩ | ⟨_,_,_,_,_,_,m_,_⟩
 ·exact .inl hk
 ·injection m_ with m_
  subst m_
  rw[Fa] at mc
  injection mc with mc
  subst mc
  rw[k2] at q1
  injection q1 with q1
  injection q1 with q1 _ _
  subst q1
  obtain⟨n,hn,Cp,rfl,IZ,_⟩:=(hx q2 q4).2.2 q3
  exact .inr ⟨n,WE.2 (List.mem_of_getElem? hn),Cp,IZ,q5⟩
 cases m_
def sT (args:List Arg) (j:Nat):AV:=match args[j]? with
 | some x=>NZ j x
 | none=>.junk
def lF (args:List Arg) (j:Nat):AB:=match Nat.ble 100000 j with
 | true=>match args[j - 100000]? with
  | some x=>KP x
  | none=>.none
 | false=>.none
def G5 (a : Tmp) (t : TypeId) : Oper := { dst := none, op := .load t (.tmp a), type := t, pos := "", after := #[], guard := none }
def KS (C:Ctx) (s:AS):ResultVar->(AV->Prop)->Prop
 | .tmp t,K=>K (s.t t)
 | .cell a t,K=>bY C (G5 a t) (ev s.t) s.h fun v _ _=>match v with
  | .p x=>K (.p x)
  | _=>False
def Cq (C:Ctx) (s:AS):List ResultVar->(List AV->Prop)->Prop
 | [],K=>K []
 | r::rs,K=>KS C s r fun a=>Cq C s rs fun as=>K (a::as)
def Cr (h:Nat->AB):List AV->(List PV->(Nat->AB)->Prop)->Prop
 | [],K=>K [] h
 | a::r,K=>gC h a fun x fz=>Cr (app h fz) r fun xs h'=>K (x::xs) h'
def kK:AB->Nat->Bool
 | .box bs,i=>Af i (bM bs)
 | _,_=>false
def jT (h:Nat->AB):Nat->List Arg->List Fin->Nat->Bool
 | j,.pv _::xs,fs,i=>jT h (j+1) xs fs i
 | j,_::xs,f::fs,i=>(f.kept && (cW j i || kK (h j) i)) || jT h (j+1) xs fs i
 | _,_,_,_=>false
def kE (h:Nat->AB):Nat->List Arg->List Fin->Prop
 | _,[],[]=>True
 | j,.pv _::xs,fs=>kE h (j+1) xs fs
 | j,.row _ _::xs,.gone::fs=>kE h (j+1) xs fs
 | j,.box _::xs,.gone::fs=>kE h (j+1) xs fs
 | j,.bb _::xs,.gone::fs=>kE h (j+1) xs fs
 | j,.row e _::xs,.row es::fs=>h j=.row e es/\kE h (j+1) xs fs
 | j,.box _::xs,.box cs::fs=>(match h j with
  | .box bs=>dT bs=some cs
  | _=>False)/\kE h (j+1) xs fs
 | j,.bb _::xs,.bb cs::fs=>(match h j with
  | .bb bs=>bs=cs
  | .box bs=>(dJ (bM bs) && G4 xs)=true/\sS h bs cs
  | _=>False)/\kE h (j+1) xs fs
 | _,_,_=>False
def Fb (C:Ctx) (rs:List ResultVar) (args:List Arg) (r:AR) (fin:List Fin) (s:AS):Prop:=
 Cq C s rs fun iw=>match r with
  | .own e es=>match iw with
   | [a]=>match a with
    | .ow i=>s.h i=.row e es/\jT s.h 100000 args fin i=false/\kE s.h 100000 args fin
    | .vw i lo hi=>match lo with
     | 0=>match s.h i with
      | .row e' xs=>match cW e' e with
       | true=>es=xs.take hi/\jT s.h 100000 args fin i=false/\kE s.h 100000 args fin
       | false=>False
      | _=>False
     | _+1=>False
    | .nl=>match C.T e with
     | some ti=>match Nat.blt 0 ti.size with
      | true=>es=[]/\kE s.h 100000 args fin
      | false=>False
     | none=>False
    | _=>False
   | _=>False
  | .hown cs=>match iw with
   | [a]=>match a with
    | .bx i off=>match off with
     | 0=>s.h i=.bb cs/\jT s.h 100000 args fin i=false/\kE s.h 100000 args fin
     | _+1=>False
    | _=>False
   | _=>False
  | .p x=>match iw with
   | [a]=>gC s.h a fun y fz=>y=x/\kE (app s.h fz) 100000 args fin
   | _=>False
  | .tu xs=>match iw with
   | [_]=>False
   | _=>Cr s.h iw fun ys h'=>ys=xs/\kE h' 100000 args fin
def ye (C:Ctx) (rs:List ResultVar) (args:List Arg) (r:AR) (fin:List Fin) (e:Exit) (s:AS):Prop:=match e with
 | .normal=>Fb C rs args r fin s
 | .ret=>Fb C rs args r fin s
 | _=>False
def Ah (tmps:Array Value):ResultVar->Sem Value
 | .tmp t=>pure (tmps.getD t undef)
 | .cell b t=>do loadVar t (<-asAddr (tmps.getD b undef))
theorem Fc {A:cV} (hC:bV A.C) {S:Nat->Prop} {rho:Nat->Value} {s:AS} {a:Act} {w:World} (sim:cu A cN cN S rho s a w) (r:ResultVar) {K:AV->Prop} (hq:KS A.C s r K):
  ∃av v,K av/\(Ah a.tmps r).run A.C.P w=.ok v w /\
   (∀(S2:Nat->Prop) (h2:Nat->AB),(∀b,S b->S2 b)->cu A cN cN S2 rho ⟨s.t,h2⟩ a w->bF S2 w A.C.P cN rho h2 av v):=by
 cases r with
 | tmp t=>exact⟨s.t t,a.tmps.getD t undef,hq,rfl,fun S2 h2 _ bI=>bI.tm t trivial⟩
 | cell b t=>
  obtain⟨av,v,h1,h2,h3⟩:=zQ (o:=G5 b t) (K:=fun v _ _=>match v with | .p x=>K (.p x) | _=>False) t (.tmp b) rfl hC sim (fun _ _=>trivial) hq
  split at h1
  ·rename_i x
   refine⟨_,v,h1,?_,fun S2 DR hS bI=>.p _ _ (h2.fI.mono hS (fun _ _=>rfl))⟩
   have h4:(Instr.loadAt t (a.tmps.getD b undef)).run A.C.P w=.ok v w:=h3
   cases hv:a.tmps.getD b undef with
   | pointer p=>
    rw[hv] at h4
    cases p with
    | none=>simp[Instr.loadAt,Instr.sureAddr,stuck,Sem.run] at h4
    | some ad=>
     have h5:(loadVar t ad).run A.C.P w=.ok v w:=by simpa [Instr.loadAt,Instr.sureAddr] using h4
     show (Ah a.tmps (.cell b t)).run _ _=_
     unfold Ah
     simp only[hv]
     exact h5
   | _=>rw[hv] at h4;simp[Instr.loadAt,Instr.sureAddr,stuck,Sem.run] at h4
  exact h1.elim
theorem Cs {A:cV} (hC:bV A.C) {S:Nat->Prop} {rho:Nat->Value} {s:AS} {a:Act} {w:World} (sim:cu A cN cN S rho s a w):∀(rs:List ResultVar) {K:List AV->Prop},Cq A.C s rs K ->
  ∃iw vs,K iw/\iw.length=vs.length/\(rs.mapM (Ah a.tmps)).run A.C.P w=.ok vs w/\vs.length=rs.length /\
   (∀(S2:Nat->Prop) (h2:Nat->AB),(∀b,S b->S2 b)->cu A cN cN S2 rho ⟨s.t,h2⟩ a w->∀(i:Nat) av v,iw[i]?=some av->vs[i]?=some v->bF S2 w A.C.P cN rho h2 av v):=by
 intro rs
 induction rs with
 | nil=>intro K hq;exact⟨[],[],hq,rfl,rfl,rfl,by simp⟩
 | cons r rs ih=>
  intro K hq
  obtain⟨av,v,hq,h1,h2⟩:=Fc hC sim r hq
  obtain⟨iw,vs,hq,h3,h4,h5,h6⟩:=ih hq
  refine⟨av::iw,v::vs,hq,by simp[h3],?_,by simp[h5],fun S2 DR hS bI i x u hx hu=>?_⟩
  ·rw[List.mapM_cons,Sem.run_bind,h1,Result.andThen_ok,Sem.run_bind,h4]
   rfl
  cases i with
  | zero=>simp at hx hu;subst hx hu;exact h2 S2 DR hS bI
  | succ i=>exact h6 S2 DR hS bI i x u (by simpa using hx) (by simpa using hu)
theorem Ct {A:cV} (hC:bV A.C) {rho:Nat->Value} {t:Nat->AV} {a:Act} {w:World}:∀(iw:List AV) (vs:List Value) (S:Nat->Prop) (h:Nat->AB) {K:List PV->(Nat->AB)->Prop},iw.length=vs.length->cu A cN cN S rho ⟨t,h⟩ a w ->
  (∀(S2:Nat->Prop) (h2:Nat->AB),(∀b,S b->S2 b)->cu A cN cN S2 rho ⟨t,h2⟩ a w->∀(i:Nat) av v,iw[i]?=some av->vs[i]?=some v->bF S2 w A.C.P cN rho h2 av v)->Cr h iw K ->
  ∃ys h' S',K ys h'/\cu A cN cN S' rho ⟨t,h'⟩ a w/\(∀b,S b->S' b)/\ys.length=vs.length/\∀(i:Nat) y v,ys[i]?=some y->vs[i]?=some v->bu S' w y v:=by
 intro iw
 induction iw with
 | nil=>
  intro vs S h K hl sim _ hq
  have:vs=[]:=List.eq_nil_of_length_eq_zero hl.symm
  subst this
  exact⟨[],h,S,hq,sim,fun _ h=>h,rfl,by simp⟩
 | cons av iw ih=>
  intro vs S h K hl sim hrep hq
  cases vs with
  | nil=>simp at hl
  | cons v vs=>
   obtain⟨y,fz,S2,hq,bI,hp,xZ,_,_⟩:=gm hC sim (Xd.refl h) (hrep S h (fun _ h=>h) sim 0 av v rfl rfl) hq
   obtain⟨ys,h',S',k1,k2,k3,k4,k5⟩:=ih vs S2 (app h fz) (by simpa using hl) bI (fun S3 h3 hS eE i x u hx hu=>hrep S3 h3 (fun b hb=>hS b (xZ b hb)) eE (i+1) x u (by simpa using hx) (by simpa using hu)) hq
   refine⟨y::ys,h',S',k1,k2,fun b hb=>k3 b (xZ b hb),by simp[k4],fun i z u hz hu=>?_⟩
   cases i with
   | zero=>simp at hz hu;subst hz hu;exact hp.mono k3 (fun _ _=>rfl)
   | succ i=>exact k5 i z u (by simpa using hz) (by simpa using hu)
theorem oH {h:Nat->AB} {j:Nat} {x:Arg} {xs:List Arg} {f:Fin} {fs:List Fin} (hx:x.handed=true) (hq:kE h j (x::xs) (f::fs)):kE h (j+1) xs fs:=by
 cases x <;> cases f <;> first | (cases hx;done) | exact hq.elim | exact hq.2 | exact hq
def xj (h:Nat->AB) (j id:Nat):Prop:=id=j\/kK (h j) id=true
theorem G6 {A:cV} {S:Nat->Prop} {rho:Nat->Value} {t:Nat->AV} {h:Nat->AB} {a:Act} {w:World} (sim:cu A cN cN S rho ⟨t,h⟩ a w):∀(args:List Arg) (fin:List Fin) (vs:List Value) (j:Nat),args.length=vs.length->(∀i v,vs[i]?=some v->(∃x,args[i]?=some x/\x.handed=true)->v=rho (j+i))->kE h j args fin ->
  eK S w A.C.P args fin vs/\∀i g,dw w args fin vs i g->∃id,xj h (j+i) id/\(h id).live/\hasB w (h id) (rho id) g/\jT h j args fin id=true:=by
 intro args
 induction args with
 | nil=>intro fin vs j hl _ hq;have:vs=[]:=List.eq_nil_of_length_eq_zero hl.symm;subst this;cases fin with | nil=>exact⟨trivial,fun i g h=>h.elim⟩ | cons f fin=>exact hq.elim
 | cons x args ih=>
  intro fin vs j hl hv hq
  cases vs with
  | nil=>simp at hl
  | cons v vs=>
   have E_:args.length=vs.length:=by simpa using hl
   have B4:∀i v,vs[i]?=some v->(∃x,args[i]?=some x/\x.handed=true)->v=rho (j+1+i):=fun i u h1 ⟨y,h2,h3⟩=>by
    have:=hv (i+1) u (by simpa using h1) ⟨y,by simpa using h2,h3⟩
    rw[this];congr 1;omega
   cases hx:x.handed with
   | false=>
    cases x with
    | pv y=>
     obtain⟨r1,r2⟩:=ih fin vs (j+1) E_ B4 hq
     refine⟨r1,fun i g hg=>?_⟩
     cases i with
     | zero=>exact hg.elim
     | succ i=>
      obtain⟨id,q1,q2,q3,q4⟩:=r2 i g hg
      exact⟨id,by rw[show j+(i+1)=j+1+i by omega];exact q1,q2,q3,q4⟩
    | row=>cases hx
    | box=>cases hx
    | bb=>cases hx
   | true=>
    have SU:v=rho j:=hv 0 v rfl ⟨_,rfl,hx⟩
    cases fin with
    | nil=>cases x <;> first | (cases hx;done) | exact hq.elim
    | cons f fin=>
     obtain⟨r1,r2⟩:=ih fin vs (j+1) E_ B4 (oH hx hq)
     have mk:rA S w A.C.P x f v->(∀g,f.kept=true->hasB w (Lt f) v g->∃id,xj h j id/\(h id).live/\hasB w (h id) (rho id) g)->eK S w A.C.P (x::args) (f::fin) (v::vs)/\∀i g,dw w (x::args) (f::fin) (v::vs) i g->∃id,xj h (j+i) id/\(h id).live/\hasB w (h id) (rho id) g/\jT h j (x::args) (f::fin) id=true:=by
      intro m1 m2
      refine⟨by cases x <;> first | (cases hx;done) | exact⟨m1,r1⟩,fun i g hg=>?_⟩
      cases i with
      | zero=>
       obtain⟨g1,g2⟩:f.kept=true/\hasB w (Lt f) v g:=by cases x <;> first | (cases hx;done) | exact hg
       obtain⟨id,q1,q2,q3⟩:=m2 g g1 g2
       refine⟨id,q1,q2,q3,?_⟩
       have:(cW j id || kK (h j) id)=true:=by
        rcases q1 with q1 | q1
        ·rw[q1,bG.2 rfl];rfl
        rw[q1];simp
       cases x <;> first | (cases hx;done) | (simp only[jT,g1,this,Bool.true_and,Bool.true_or])
      | succ i=>
       have mc:dw w args fin vs i g:=by cases x <;> first | (cases hx;done) | exact hg
       obtain⟨id,q1,q2,q3,q4⟩:=r2 i g mc
       refine⟨id,by rw[show j+(i+1)=j+1+i by omega];exact q1,q2,q3,?_⟩
       cases x <;> first | (cases hx;done) | (simp only[jT,q4,Bool.or_true])
     refine mk ?_ ?_
     ·rw[SU]
      cases x with
      | pv y=>cases hx
      | row e es=>
       cases f with
       | gone=>trivial
       | row wk=>
        have hh:=sim.hp j trivial
        have hh:eC S w A.C.P cN rho h j (h j):=hh
        rw[hq.1] at hh
        exact⟨hh,fun g hg=>(sim.nG j g trivial (by show (h j).live;rw[hq.1];trivial) hg).2.1⟩
       | box cs=>exact hq.elim
       | bb cs=>exact hq.elim
      | box ys=>
       cases f with
       | gone=>trivial
       | row wk=>exact hq.elim
       | bb wk=>exact hq.elim
       | box cs=>
        obtain⟨mB,rD⟩:=hq
        split at mB
        ·rename_i bs hb
         have hh:=sim.hp j trivial
         have hh:eC S w A.C.P cN rho h j (h j):=hh
         rw[hb] at hh
         obtain⟨g,ty,c,k1,k2,k3,k4⟩:=hh
         obtain⟨k5,k6⟩:=fT mB
         refine⟨g,ty,c,k1,k2,by rw[k3,k5],(sim.nG j g trivial (by show (h j).live;rw[hb];trivial) (by rw[k1];rfl)).2.1,fun i x u hi hu=>?_⟩
         obtain⟨y,hy⟩:∃y,bs[i]?=some y:=⟨_,List.getElem?_eq_getElem (by rw[k5];exact aP hi)⟩
         obtain⟨k7,k8⟩:=k4 i y u hy hu
         exact⟨k7,k8.tH (k6 i y x hy hi)⟩
        exact mB.elim
      | bb ys=>
       cases f with
       | gone=>trivial
       | row wk=>exact hq.elim
       | box wk=>exact hq.elim
       | bb cs=>
        obtain⟨mB,rD⟩:=hq
        split at mB
        ·rename_i bs hb
         subst mB
         have hh:=sim.hp j trivial
         have hh:eC S w A.C.P cN rho h j (h j):=hh
         rw[hb] at hh
         obtain⟨g,ty,c,k1,k2⟩:=hh
         exact⟨g,ty,c,k1,k2,fun k hk=>(sim.lv j k trivial (by show (h j).live;rw[hb];trivial) (by show hasB w (h j) _ _;rw[hb];exact hk)).2.1⟩
        ·rename_i bs hb
         simp only[Bool.and_eq_true] at mB
         obtain⟨g,ty,c,k1,k2,k3⟩:=ux sim (id:=j) trivial hb mB.1.1 mB.2
         refine⟨g,ty,c,k1,k2,fun k hk=>?_⟩
         rcases k3 k hk with hk | ⟨n,_,hn,IZ,hk⟩
         ·exact (sim.nG j k trivial (by show (h j).live;rw[hb];trivial) hk).2.1
         exact (sim.nG n k hn IZ hk).2.1
        exact mB.elim
     intro g hf hg
     rw[SU] at hg
     cases x with
     | pv y=>cases hx
     | row e es=>
      cases f with
      | gone=>cases hf
      | row wk=>exact⟨j,.inl rfl,by rw[hq.1];trivial,.inl (a6 rfl hg)⟩
      | box cs=>exact hq.elim
      | bb cs=>exact hq.elim
     | box ys=>
      cases f with
      | gone=>cases hf
      | row wk=>exact hq.elim
      | bb wk=>exact hq.elim
      | box cs=>
       obtain⟨mB,rD⟩:=hq
       split at mB
       ·rename_i bs hb
        exact⟨j,.inl rfl,by rw[hb];trivial,.inl (a6 rfl hg)⟩
       exact mB.elim
     | bb ys=>
      cases f with
      | gone=>cases hf
      | row wk=>exact hq.elim
      | box wk=>exact hq.elim
      | bb cs=>
       obtain⟨mB,rD⟩:=hq
       split at mB
       ·rename_i bs hb
        subst mB
        exact⟨j,.inl rfl,by rw[hb];trivial,by rw[hb];exact hg⟩
       ·rename_i bs hb
        simp only[Bool.and_eq_true] at mB
        obtain⟨g',ty,c,k1,k2,k3⟩:=ux sim (id:=j) trivial hb mB.1.1 mB.2
        rcases k3 g hg with hk | ⟨n,hm,hn,IZ,hk⟩
        ·exact⟨j,.inl rfl,by rw[hb];trivial,.inl hk⟩
        exact⟨n,.inr (by rw[hb];exact jS.2 hm),IZ,.inl hk⟩
       exact mB.elim
theorem Fe {h:Nat->AB}:∀(args:List Arg) (fin:List Fin) (w:World) (vs:List Value) (j0:Nat),100000<=j0->kE h j0 args fin->∀i k id g,dw w args fin vs i g->dw w args fin vs k g->xj h (j0+i) id->xj h (j0+k) id->i=k:=by
 have small:∀(args:List Arg) (fin:List Fin) (w:World) (vs:List Value) (j0:Nat),kE h j0 args fin->∀i g id,dw w args fin vs i g->kK (h (j0+i)) id=true->id < 100000/\G4 args=false/\(∀m,i=m+1->∀x xs,args=x::xs->G4 xs=false):=by
  intro args
  induction args with
  | nil=>intro fin w vs j0 _ i g id hg;exact hg.elim
  | cons x args ih=>
   intro fin w vs j0 hq i g id hg hi
   cases vs with
   | nil=>cases fin <;> exact hg.elim
   | cons v vs=>
    cases hx:x.handed with
    | false=>
     cases x with
     | pv y=>
      cases i with
      | zero=>exact hg.elim
      | succ i=>
       obtain⟨h1,h2,_⟩:=ih fin w vs (j0+1) hq i g id hg (by rw[show j0+1+i=j0+(i+1) by omega];exact hi)
       exact⟨h1,h2,fun m hm x xs he=>by injection he with _ he;rw[<-he];exact h2⟩
     | row=>cases hx
     | box=>cases hx
     | bb=>cases hx
    | true=>
     cases fin with
     | nil=>cases x <;> first | (cases hx;done) | exact hg.elim
     | cons f fin=>
      cases i with
      | succ i=>
       have mc:dw w args fin vs i g:=by cases x <;> first | (cases hx;done) | exact hg
       obtain⟨h1,h2,_⟩:=ih fin w vs (j0+1) (oH hx hq) i g id mc (by rw[show j0+1+i=j0+(i+1) by omega];exact hi)
       exact⟨h1,by cases x <;> first | exact h2 | rfl,fun m hm x xs he=>by injection he with _ he;rw[<-he];exact h2⟩
      | zero=>
       have hf:f.kept=true:=by cases x <;> first | (cases hx;done) | exact hg.1
       have hi:kK (h j0) id=true:=hi
       cases x with
       | pv y=>cases hx
       | row e es=>cases f <;> first | (cases hf;done) | exact hq.elim | (rw[hq.1] at hi;cases hi)
       | box ys=>
        cases f with
        | gone=>cases hf
        | row wk=>exact hq.elim
        | bb wk=>exact hq.elim
        | box cs=>
         obtain⟨mB,rD⟩:=hq
         split at mB
         ·rename_i bs hb
          rw[hb] at hi
          obtain⟨k5,k6⟩:=fT mB
          obtain⟨n,hn⟩:=List.mem_iff_getElem?.1 (WE.1 (jS.1 hi))
          obtain⟨y,hy⟩:∃y,cs[n]?=some y:=⟨_,List.getElem?_eq_getElem (by rw[<-k5];exact aP hn)⟩
          have:=k6 n _ y hn hy
          rcases this with h | h
          ·cases h
          cases h.1
         exact mB.elim
       | bb ys=>
        cases f with
        | gone=>cases hf
        | row wk=>exact hq.elim
        | box wk=>exact hq.elim
        | bb cs=>
         obtain⟨mB,rD⟩:=hq
         split at mB
         ·rename_i bs hb
          rw[hb] at hi;cases hi
         ·rename_i bs hb
          rw[hb] at hi
          simp only[Bool.and_eq_true] at mB
          exact⟨mA mB.1.1 (jS.1 hi),rfl,fun m hm=>by omega⟩
         exact mB.elim
 have later:∀(args:List Arg) (fin:List Fin) (w:World) (vs:List Value) (j0:Nat),kE h j0 args fin->∀i k g g' id,dw w args fin vs i g->dw w args fin vs k g'->kK (h (j0+i)) id=true->kK (h (j0+k)) id=true->i < k->False:=by
  intro args
  induction args with
  | nil=>intro fin w vs j0 _ i k g g' id hg;exact hg.elim
  | cons x args ih=>
   intro fin w vs j0 hq i k g g' id hg mc hi hk eL
   cases vs with
   | nil=>cases fin <;> exact hg.elim
   | cons v vs=>
    obtain⟨k,rfl⟩:∃m,k=m+1:=⟨k - 1,by omega⟩
    cases hx:x.handed with
    | false=>
     cases x with
     | pv y=>
      cases i with
      | zero=>exact hg.elim
      | succ i=>exact ih fin w vs (j0+1) hq i k g g' id hg mc (by rw[show j0+1+i=j0+(i+1) by omega];exact hi) (by rw[show j0+1+k=j0+(k+1) by omega];exact hk) (by omega)
     | row=>cases hx
     | box=>cases hx
     | bb=>cases hx
    | true=>
     cases fin with
     | nil=>cases x <;> first | (cases hx;done) | exact hg.elim
     | cons f fin=>
      have PB:dw w args fin vs k g':=by cases x <;> first | (cases hx;done) | exact mc
      cases i with
      | succ i=>
       have Uo:dw w args fin vs i g:=by cases x <;> first | (cases hx;done) | exact hg
       exact ih fin w vs (j0+1) (oH hx hq) i k g g' id Uo PB (by rw[show j0+1+i=j0+(i+1) by omega];exact hi) (by rw[show j0+1+k=j0+(k+1) by omega];exact hk) (by omega)
      | zero=>
       have h2:=(small args fin w vs (j0+1) (oH hx hq) k g' id PB (by rw[show j0+1+k=j0+(k+1) by omega];exact hk)).2.1
       have hf:f.kept=true:=by cases x <;> first | (cases hx;done) | exact hg.1
       have hi:kK (h j0) id=true:=hi
       have h3:=small (x::args) (f::fin) w (v::vs) j0 hq 0 g id hg hi
       cases x with
       | pv y=>cases hx
       | row e es=>cases f <;> first | (cases hf;done) | exact hq.elim | (rw[hq.1] at hi;cases hi)
       | box ys=>exact (by
         have:G4 (.box ys::args)=false:=h3.2.1
         cases f with
         | gone=>cases hf
         | row wk=>exact hq.elim
         | bb wk=>exact hq.elim
         | box cs=>
          obtain⟨mB,rD⟩:=hq
          split at mB
          ·rename_i bs hb
           rw[hb] at hi
           obtain⟨k5,k6⟩:=fT mB
           obtain⟨n,hn⟩:=List.mem_iff_getElem?.1 (WE.1 (jS.1 hi))
           obtain⟨y,hy⟩:∃y,cs[n]?=some y:=⟨_,List.getElem?_eq_getElem (by rw[<-k5];exact aP hn)⟩
           rcases k6 n _ y hn hy with h | h
           ·cases h
           cases h.1
          exact mB.elim)
       | bb ys=>
        cases f with
        | gone=>cases hf
        | row wk=>exact hq.elim
        | box wk=>exact hq.elim
        | bb cs=>
         obtain⟨mB,rD⟩:=hq
         split at mB
         ·rename_i bs hb
          rw[hb] at hi;cases hi
         ·rename_i bs hb
          simp only[Bool.and_eq_true] at mB
          rw[mB.1.2] at h2
          cases h2
         exact mB.elim
 intro args fin w vs j0 hj hq i k id g hi hk ki kk
 rcases ki with ki | ki <;> rcases kk with kk | kk
 ·omega
 ·have:=(small args fin w vs j0 hq k g id hk kk).1;omega
 ·have:=(small args fin w vs j0 hq i g id hi ki).1;omega
 rcases Nat.lt_trichotomy i k with h | h | h
 ·exact (later args fin w vs j0 hq i k g g id hi hk ki kk h).elim
 ·exact h
 exact (later args fin w vs j0 hq k i g g id hk hi kk ki h).elim
theorem aR.front {P:Program} {S:Nat->Prop} {w:World} {e:TypeId} {xs:List (List PV)} {v u:Value} {a:Option Addr} {n c hi:Nat} (h:aR P w (bu S w) e xs v) (hv:v=.slice a n c) (hn:hi<=n) (hu:u=.slice a hi c):aR P w (bu S w) e (xs.take hi) u:=by
 obtain⟨i,ys,h1,h2,h3,h4,h5,h6⟩:=h
 have hF:Flat S w i.size xs ys:=⟨h3.1,h4,h5,h6⟩
 have wo:n=xs.length:=by
  rcases h3.2 with⟨g1,g2⟩ | ⟨g,cap,cur,g1,_⟩
  ·rw[hv] at g1;injection g1 with _ g1 _;omega
  rw[hv] at g1;injection g1
 subst wo
 have F_:=hF.take hi hn
 have hl:(xs.take hi).length=hi:=by rw[List.length_take];omega
 refine aR.of_flat h1 h2 ?_ F_
 refine⟨F_.len,?_⟩
 rw[hl,hu]
 rcases h3.2 with⟨g1,g2⟩ | ⟨g,cap,cur,g1,g2,g3,g4,g5,g6,g7⟩
 ·rw[hv] at g1
  injection g1 with g1 _ g3
  exact .inl ⟨by rw[g1,g3];congr 1;omega,by omega⟩
 rw[hv] at g1
 injection g1 with g1 _ g8
 refine .inr ⟨g,cap,cur,by rw[g1,g8],g2,g3,by omega,g5,g6,?_⟩
 rw[<-g7,List.take_take,Nat.min_eq_left (Nat.mul_le_mul_right _ hn)]
theorem uy (args:List Arg) (j:Nat):lF args (100000+j)=match args[j]? with
  | some x=>KP x
  | none=>.none:=by
 have h1:Nat.ble 100000 (100000+j)=true:=Nat.ble_eq_true_of_le (by omega)
 have h2:100000+j - 100000=j:=by omega
 simp only[lF,h1,h2]
theorem Ai (args:List Arg) (k:Nat) (h:k < 100000):lF args k=.none:=by
 have h1:Nat.ble 100000 k=false:=by
  rw[Bool.eq_false_iff]
  intro h2
  have:=Nat.le_of_ble_eq_true h2
  omega
 simp only[lF,h1]
theorem G7 {C:Ctx} {S:Nat->Prop} {w:World} {args:List Arg} {vs:Array Value} (m:Nat) (hm:vs.size+m<=100000) (hE:C.E S w) (hS:∀b,S b->b < w.heap.size) (hl:args.length=vs.size) (hrep:∀(j:Nat) x v,args[j]?=some x->vs[j]?=some v->B2 S w C.P x v)
  (hdis:∀(i j:Nat) x y v u g,args[i]?=some x->args[j]?=some y->vs[i]?=some v->vs[j]?=some u->x.handed=true->y.handed=true->hasB w (xT x) v g->hasB w (xT y) u g->i=j):
  cu ⟨C,w,Mv w args vs,S,vs.size+m,fun k=>vs.getD (k - 100000) undef⟩ cN cN S (fun k=>vs.getD (k - 100000) undef) ⟨sT args,lF args⟩ { tmps:=vs++Array.replicate m undef,defers:=[] } w:=by
 have rE:∀j v,vs[j]?=some v->vs.getD j undef=v:=fun j v h=>by rw[Array.getD_eq_getD_getElem?,h];rfl
 have mq:∀j,vs.getD (100000+j - 100000) undef=vs.getD j undef:=fun j=>by rw[Nat.add_sub_cancel_left]
 have at_:∀j x,args[j]?=some x->∃v,vs[j]?=some v/\vs.getD j undef=v:=fun j x h=>by
  obtain⟨v,hv⟩:=jg hl (aP h)
  exact⟨v,hv,rE j v hv⟩
 have live:∀k,(lF args k).live->∃j x v,k=100000+j/\args[j]?=some x/\vs[j]?=some v/\vs.getD (k - 100000) undef=v/\x.handed=true:=by
  intro k hk
  by_cases eL:k < 100000
  ·rw[Ai _ _ eL] at hk;exact hk.elim
  obtain⟨j,rfl⟩:∃j,k=100000+j:=⟨k - 100000,by omega⟩
  rw[uy] at hk
  cases h:args[j]? with
  | none=>rw[h] at hk;exact hk.elim
  | some x=>
   rw[h] at hk
   obtain⟨v,h1,h2⟩:=at_ j x h
   refine⟨j,x,v,rfl,h,h1,by rw[mq];exact h2,?_⟩
   cases x with
   | pv y=>exact hk.elim
   | row=>rfl
   | box=>rfl
   | bb=>rfl
 have Q0:∀(j:Nat) (x:Arg) (v:Value) (g:Nat),args[j]?=some x->vs[j]?=some v->x.handed=true->hasB w (xT x) v g->g < w.heap.size/\¬S g:=by
  intro j x v g h1 h2 h3 h4
  have:=hrep j x v h1 h2
  cases x with
  | pv y=>cases h3
  | row e es=>
   have h4:=a6 rfl h4
   obtain⟨⟨i,xs,_,_,ho,_⟩,hn⟩:=this
   exact⟨(ho.lt g (by rw[cS (cP ho).choose_spec.choose_spec];exact h4)).2,hn g h4⟩
  | box cs=>
   have h4:=a6 rfl h4
   obtain⟨g',ty,c,rfl,k2,_,k4,_⟩:=this
   injection h4 with h4
   subst h4
   exact⟨(Array.getElem?_eq_some_iff.1 k2).1,k4⟩
  | bb cs=>
   obtain⟨g',ty,c,_,_,k⟩:=this
   exact⟨(k g h4).2,(k g h4).1⟩
 have rJ:∀(j:Nat) (x:Arg) (v:Value) (g:Nat),args[j]?=some x->x.handed=true->(hasB w (lF args (100000+j)) v g↔hasB w (xT x) v g):=by
  intro j x v g h1 h2
  rw[uy,h1]
  cases x with
  | pv y=>cases h2
  | row e es=>exact⟨fun h=>.inl (a6 rfl h),fun h=>.inl (a6 rfl h)⟩
  | box cs=>exact⟨fun h=>.inl (a6 rfl h),fun h=>.inl (a6 rfl h)⟩
  | bb cs=>exact Iff.rfl
 exact
 {tm:=fun j _=>by
   show bF _ _ _ _ _ _ (sT args j) ((vs++Array.replicate m undef).getD j undef)
   unfold sT
   cases h:args[j]? with
   | none=>exact .junk _
   | some x=>
    obtain⟨v,h1,h2⟩:=at_ j x h
    have hj:j < vs.size:=by rw[<-hl];exact aP h
    have h3:(vs++Array.replicate m undef).getD j undef=v:=by
     rw[Array.getD_eq_getD_getElem?,Array.getElem?_append_left hj,h1];rfl
    rw[h3]
    have hr:=hrep j x v h h1
    cases x with
    | pv y=>exact .p _ _ hr
    | row e es=>exact .ow _ v fun _=>⟨trivial,by rw[mq];exact h2.symm⟩
    | box cs=>
     obtain⟨g,ty,c,e1,_⟩:=hr
     exact .bx _ 0 v fun _=>⟨trivial,g,by rw[mq,h2];exact e1,e1⟩
    | bb cs=>
     obtain⟨g,ty,c,e1,_⟩:=hr
     exact .bx _ 0 v fun _=>⟨trivial,g,by rw[mq,h2];exact e1,e1⟩
  sz:=by simp
  df:=rfl,nb:=hm,pn:=fun _ _=>rfl,ev:=hE,s0:=fun _ h=>h,st:=hS,sb:=fun b h=>.inl h
  hp:=fun k _=>by
   show eC _ _ _ _ _ _ k (lF args k)
   by_cases eL:k < 100000
   ·rw[Ai _ _ eL];trivial
   obtain⟨j,rfl⟩:∃j,k=100000+j:=⟨k - 100000,by omega⟩
   rw[uy]
   cases h:args[j]? with
   | none=>trivial
   | some x=>
    obtain⟨v,h1,h2⟩:=at_ j x h
    have hr:=hrep j x v h h1
    cases x with
    | pv y=>trivial
    | row e es=>show aR _ _ _ _ _ (vs.getD (100000+j - 100000) undef);rw[mq,h2];exact hr.1
    | box cs=>
     obtain⟨g,ty,c,e1,e2,e3,e4,e5⟩:=hr
     refine⟨g,ty,c,by simp only;rw[mq,h2];exact e1,e2,by simpa using e3,fun i x u hi hu=>?_⟩
     rw[List.getElem?_map] at hi
     obtain⟨z,hz,rfl⟩:=Option.map_eq_some_iff.1 hi
     exact⟨(e5 i z u hz hu).1,.p _ _ (e5 i z u hz hu).2⟩
    | bb cs=>
     obtain⟨g,ty,c,e1,e2,_⟩:=hr
     exact⟨g,ty,c,by simp only;rw[mq,h2];exact e1,e2⟩
  dj:=fun i j g _ _ li lj hi hj=>by
   obtain⟨i',x,v,e1,h1,h2,h3,h4⟩:=live i li
   obtain⟨j',y,u,e2,k1,k2,k3,k4⟩:=live j lj
   have:=hdis i' j' x y v u g h1 k1 h2 k2 h4 k4 (by rw[<-rJ i' x v g h1 h4,<-e1,<-h3];exact hi) (by rw[<-rJ j' y u g k1 k4,<-e2,<-k3];exact hj)
   omega
  lv:=fun k g _ lk hk=>by
   obtain⟨j,x,v,e1,h1,h2,h3,h4⟩:=live k lk
   have tI:hasB w (xT x) v g:=by rw[<-rJ j x v g h1 h4,<-e1,<-h3];exact hk
   obtain⟨h5,h6⟩:=Q0 j x v g h1 h2 h4 tI
   exact⟨h5,h6,.inl ⟨j,x,v,h1,h2,h4,tI⟩⟩
  fr:=Fr.refl _ _ }
theorem Aj {P:Program} {fn:Func} {tmps:Array Value} {w:World} {vs:List Value} (h:(fn.results.toList.mapM (Ah tmps)).run P w=.ok vs w):
  (results fn tmps).run P w=.ok (if h:vs.toArray.size=1 then vs.toArray[0] else .tuple vs.toArray) w:=by
 have e:results fn tmps=(do let vs <-fn.results.mapM (Ah tmps);pure (if h:vs.size=1 then vs[0] else .tuple vs)):=by
  unfold results Ah
  rfl
 rw[e,<-Array.toArray_toList (xs:=fn.results),List.mapM_toArray,Sem.run_bind]
 have:(Functor.map List.toArray (fn.results.toList.mapM (Ah tmps))).run P w=.ok vs.toArray w:=by
  rw[map_eq_pure_bind,Sem.run_bind,h]
  rfl
 rw[this]
 rfl
theorem Cu {C : Ctx} (hC : bV C) {f : FuncId} {fn : Func} {c : Code} (hf : C.P.funcs[f]? = some fn) (hb : fn.body = some c) (nP : (fn.name == "runtime.NumGoroutine") = false) {args : List Arg} {r : AR} {fin : List Fin} (hn : args.length + (fn.ntmps - args.length) ≤ 100000)
  (h:∀A:cV,A.C=C->A.n=args.length+(fn.ntmps - args.length)->W A c (ye C fn.results.toList args r fin) ⟨sT args,lF args⟩):aD C f args r fin:=by
 refine⟨⟨fn,hf,nP,by rw[hb];rfl⟩,fun S w vs hE hS hl hrep hdis=>?_⟩
 have sim:=G7 (fn.ntmps - vs.size) (by rw[<-hl];exact hn) hE hS hl hrep hdis
 refine calls_of_wp hf hb ?_
 have hw:=h ⟨C,w,Mv w args vs,S,vs.size+(fn.ntmps - vs.size),fun k=>vs.getD (k - 100000) undef⟩ rfl (by rw[hl])
 refine wp_mono (hw S _ _ w sim) fun e a' w' hq=>?_
 obtain⟨S',rho',s',cc,hk⟩:=hq
 have GR:Fb C fn.results.toList args r fin s'->a'.defers=[]/\∃v,(results fn a'.tmps).run C.P w'=.ok v w'/\∃v0 S',Ending.returned v=.returned v0/\Fr (Mv w args vs) w w'/\(∀b,S b->S' b)/\(∀b,S' b->b < w'.heap.size)/\(∀b,S' b->S b\/w.heap.size<=b\/Mv w args vs b)/\
   Gi S' w' C.P r v0/\eK S' w' C.P args fin vs.toList/\p9 w w' args fin vs/\(∀g,r.owns=true->hasB w' r.ab v0 g->g < w'.heap.size/\(w.heap.size<=g\/Mv w args vs g)/\∀i,¬dw w' args fin vs.toList i g):=by
  intro hk
  refine⟨cc.df,?_⟩
  obtain⟨iw,us,hk,h1,h2,h3,h4⟩:=Cs (A:=⟨C,w,Mv w args vs,S,vs.size+(fn.ntmps - vs.size),fun k=>vs.getD (k - 100000) undef⟩) hC cc fn.results.toList hk
  have hrun:=Aj h2
  have xW:args.length=vs.toList.length:=by simpa using hl
  have Q1:∀(S2:Nat->Prop) (h2:Nat->AB),cu ⟨C,w,Mv w args vs,S,vs.size+(fn.ntmps - vs.size),fun k=>vs.getD (k - 100000) undef⟩ cN cN S2 rho' ⟨s'.t,h2⟩ a' w'->∀i u,vs.toList[i]?=some u->(∃x,args[i]?=some x/\x.handed=true)->u=rho' (100000+i):=fun S2 h2 bI i u hu _=>by
   rw[bI.pn (100000+i) (by omega)]
   have oC:vs[i]?=some u:=by simpa using hu
   show u=vs.getD (100000+i - 100000) undef
   rw[Nat.add_sub_cancel_left,Array.getD_eq_getD_getElem?,oC]
   rfl
  have fk:∀(S2:Nat->Prop) (h2:Nat->AB),cu ⟨C,w,Mv w args vs,S,vs.size+(fn.ntmps - vs.size),fun k=>vs.getD (k - 100000) undef⟩ cN cN S2 rho' ⟨s'.t,h2⟩ a' w'->kE h2 100000 args fin->eK S2 w' C.P args fin vs.toList/\(∀i g,dw w' args fin vs.toList i g->∃id,xj h2 (100000+i) id/\(h2 id).live/\hasB w' (h2 id) (rho' id) g/\jT h2 100000 args fin id=true)/\p9 w w' args fin vs:=by
   intro S2 h2 bI fU
   obtain⟨r1,r2⟩:=G6 bI args fin vs.toList 100000 xW (Q1 S2 h2 bI) fU
   refine⟨r1,r2,fun i g hg=>?_,fun i j g hi hj=>?_⟩
   ·obtain⟨id,_,q2,q3,_⟩:=r2 i g hg
    obtain⟨p1,_,p3⟩:=bI.lv id g trivial q2 q3
    exact⟨p1,p3.symm⟩
   obtain⟨id,q1,q2,q3,_⟩:=r2 i g hi
   obtain⟨wj,p1,p2,p3,_⟩:=r2 j g hj
   have:=bI.dj id wj g trivial trivial q2 p2 q3 p3
   subst this
   exact Fe args fin w' vs.toList 100000 (Nat.le_refl _) fU i j id g hi hj q1 p1
  have outer:∀(S2:Nat->Prop) (h2:Nat->AB) (v:Value),cu ⟨C,w,Mv w args vs,S,vs.size+(fn.ntmps - vs.size),fun k=>vs.getD (k - 100000) undef⟩ cN cN S2 rho' ⟨s'.t,h2⟩ a' w'->(results fn a'.tmps).run C.P w'=.ok v w'->Gi S2 w' C.P r v->kE h2 100000 args fin->(∀g,r.owns=true->hasB w' r.ab v g->g < w'.heap.size/\(w.heap.size<=g\/Mv w args vs g)/\∀i,¬dw w' args fin vs.toList i g)->
    ∃v,(results fn a'.tmps).run C.P w'=.ok v w'/\∃v0 S',Ending.returned v=.returned v0/\Fr (Mv w args vs) w w'/\(∀b,S b->S' b)/\(∀b,S' b->b < w'.heap.size)/\(∀b,S' b->S b\/w.heap.size<=b\/Mv w args vs b)/\
   Gi S' w' C.P r v0/\eK S' w' C.P args fin vs.toList/\p9 w w' args fin vs/\(∀g,r.owns=true->hasB w' r.ab v0 g->g < w'.heap.size/\(w.heap.size<=g\/Mv w args vs g)/\∀i,¬dw w' args fin vs.toList i g):=by
   intro S2 h2 v bI hr N0 fU hown
   refine⟨v,hr,v,S2,rfl,bI.fr,bI.s0,bI.st,fun b hb=>?_,N0,(fk S2 h2 bI fU).1,(fk S2 h2 bI fU).2.2,hown⟩
   rcases bI.sb b hb with h | h | h
   ·exact .inl h
   ·exact .inr (.inr h)
   exact .inr (.inl h)
  cases r with
  | own e es=>
   simp only at hk
   split at hk
   ·rename_i av
    obtain⟨u,rfl⟩:∃u,us=[u]:=by
     match us,h1 with
     | [u],_=>exact⟨u,rfl⟩
    have uz:(results fn a'.tmps).run C.P w'=.ok u w':=hrun
    split at hk
    ·rename_i i
     obtain⟨k1,k2,k3⟩:=hk
     have hu:=h4 S' s'.h (fun _ h=>h) cc 0 _ u rfl rfl
     obtain⟨_,hv⟩:=hu.de (by rw[k1];trivial)
     have hh:=cc.hp i trivial
     rw[k1] at hh
     have bZ:(s'.h i).live:=by rw[k1];trivial
     refine outer S' s'.h u cc uz ⟨by rw[hv];exact hh,fun g hg=>(cc.nG i g trivial bZ (by rw[<-hv];exact hg)).2.1⟩ k3 fun g _ N1=>?_
     have hg:cU u=some g:=a6 rfl N1
     have mc:cU (rho' i)=some g:=by rw[<-hv];exact hg
     obtain⟨l1,l2,l3⟩:=cc.nG i g trivial bZ mc
     refine⟨l1,l3.symm,fun n N2=>?_⟩
     obtain⟨i',_,m1,m2,m3⟩:=(fk S' s'.h cc k3).2.1 n g N2
     have:=cc.dj i i' g trivial trivial bZ m1 (.inl mc) m2
     subst this
     rw[k2] at m3
     cases m3
    ·rename_i i lo hi
     have Up:lo=0/\∃xs,s'.h i=.row e xs/\es=xs.take hi/\jT s'.h 100000 args fin i=false/\kE s'.h 100000 args fin:=by
      cases lo with
      | succ n=>exact hk.elim
      | zero=>
       cases hr:s'.h i with
       | row e' xs=>
        rw[hr] at hk
        simp only at hk
        split at hk
        ·rename_i wg
         rw[bG.1 wg]
         exact⟨rfl,xs,rfl,hk⟩
        exact hk.elim
       | _=>rw[hr] at hk;exact hk.elim
     obtain⟨rfl,xs,aL,k1,k2,k3⟩:=Up
     have hu:=h4 S' s'.h (fun _ h=>h) cc 0 _ u rfl rfl
     obtain⟨_,n,cp,ad,ti,q1,q2,_,q3,q4,hv⟩:=hu.GO aL
     have hh:=cc.hp i trivial
     rw[aL] at hh
     have hh:aR C.P w' (bu S' w') e xs (rho' i):=hh
     have bZ:(s'.h i).live:=by rw[aL];trivial
     have hblk:∀g,cU u=some g->cU (rho' i)=some g:=by
      intro g hg
      rw[hv] at hg
      rw[q1]
      split at hg
      ·cases ad <;> exact hg
      cases ad with
      | none=>cases hg
      | some a0=>
       simp only[Option.map_some,Nat.zero_mul,Addr.add,if_pos] at hg
       exact hg
     refine outer S' s'.h u cc uz ⟨?_,fun g hg=>(cc.nG i g trivial bZ (hblk g hg)).2.1⟩ k3 fun g _ N1=>?_
     ·rw[k1]
      exact aR.front hh q1 q3 (by rw[hv];simp[Addr.add])
     have hg:cU u=some g:=a6 rfl N1
     obtain⟨l1,l2,l3⟩:=cc.nG i g trivial bZ (hblk g hg)
     refine⟨l1,l3.symm,fun n N2=>?_⟩
     obtain⟨i',_,m1,m2,m3⟩:=(fk S' s'.h cc k3).2.1 n g N2
     have:=cc.dj i i' g trivial trivial bZ m1 (.inl (hblk g hg)) m2
     subst this
     rw[k2] at m3
     cases m3
    ·split at hk
     case h_2=>exact hk.elim
     rename_i ti hT
     split at hk
     case h_2=>exact hk.elim
     rename_i hpos
     obtain⟨k1,k3⟩:=hk
     subst k1
     obtain⟨info,z,g1,g2,_⟩:=hC.gE e ti hT
     have hu:=h4 S' s'.h (fun _ h=>h) cc 0 _ u rfl rfl
     have oC:u=.slice none 0 0:=by cases hu;rfl
     subst oC
     exact outer S' s'.h _ cc uz ⟨⟨info,[],g1,by have:=Nat.le_of_ble_eq_true hpos;omega,World.ownsRow_nil _ _ _ _,by simp,by simp,by simp⟩,fun g hg=>by cases hg⟩ k3 fun g _ hg=>by cases a6 rfl hg
    exact hk.elim
   exact hk.elim
  | hown cs=>
   simp only at hk
   split at hk
   ·rename_i av
    obtain⟨u,rfl⟩:∃u,us=[u]:=by
     match us,h1 with
     | [u],_=>exact⟨u,rfl⟩
    have uz:(results fn a'.tmps).run C.P w'=.ok u w':=hrun
    split at hk
    ·rename_i i off
     cases off with
     | succ n=>exact hk.elim
     | zero=>
      obtain⟨k1,k2,k3⟩:=hk
      have hu:=h4 S' s'.h (fun _ h=>h) cc 0 _ u rfl rfl
      obtain⟨_,g0,N1,hv⟩:=hu.gH (by rw[k1];trivial)
      have SV:u=rho' i:=by rw[hv,N1]
      have hh:=cc.hp i trivial
      rw[k1] at hh
      obtain⟨g1,ty,c,e1,e2⟩:=hh
      have bZ:(s'.h i).live:=by rw[k1];trivial
      have tM:∀k,hasB w' (.bb cs) u k->hasB w' (s'.h i) (rho' i) k:=fun k hk=>by rw[k1,<-SV];exact hk
      refine outer S' s'.h u cc uz ⟨g1,ty,c,by rw[SV];exact e1,e2,fun k hk=>(cc.lv i k trivial bZ (tM k hk)).2.1⟩ k3 fun g _ hg=>?_
      have mc:=tM g hg
      obtain⟨l1,l2,l3⟩:=cc.lv i g trivial bZ mc
      refine⟨l1,l3.symm,fun n N2=>?_⟩
      obtain⟨i',_,m1,m2,m3⟩:=(fk S' s'.h cc k3).2.1 n g N2
      have:=cc.dj i i' g trivial trivial bZ m1 mc m2
      subst this
      rw[k2] at m3
      cases m3
    exact hk.elim
   exact hk.elim
  | p x=>
   simp only at hk
   split at hk
   ·rename_i av
    obtain⟨u,rfl⟩:∃u,us=[u]:=by
     match us,h1 with
     | [u],_=>exact⟨u,rfl⟩
    have uz:(results fn a'.tmps).run C.P w'=.ok u w':=hrun
    obtain⟨y,fz,S2,⟨rfl,fU⟩,bI,hp,xZ,_,_⟩:=gm hC (s:=⟨s'.t,s'.h⟩) cc (Xd.refl s'.h) (h4 S' s'.h (fun _ h=>h) cc 0 _ u rfl rfl) hk
    exact outer S2 _ u bI uz hp fU (fun g h=>by cases h)
   exact hk.elim
  | tu xs=>
   simp only at hk
   split at hk
   ·exact hk.elim
   rename_i b8
   obtain⟨ys,h',S2,⟨rfl,fU⟩,bI,xZ,hlen,hp⟩:=Ct hC iw us S' s'.h h1 cc (fun S2 h2 hS bI=>h4 S2 h2 hS bI) hk
   have Uq:us.toArray.size≠1:=by
    intro e
    have e1:us.length=1:=by simpa using e
    obtain⟨q,hq⟩:=List.length_eq_one_iff.1 (h1.trans e1)
    exact b8 q hq
   rw[dif_neg Uq] at hrun
   refine outer S2 h' _ bI hrun ⟨us.toArray,rfl,by simpa using hlen,fun i x u hx hu=>hp i x u hx (by simpa using hu)⟩ fU (fun g h=>by cases h)
 cases e with
 | normal=>exact GR hk
 | ret=>exact GR hk
 | exit id=>exact hk.elim
 | goto l=>exact hk.elim
 | panic c=>exact hk.elim
 | outgrown=>exact hk.elim
end Go.AM
