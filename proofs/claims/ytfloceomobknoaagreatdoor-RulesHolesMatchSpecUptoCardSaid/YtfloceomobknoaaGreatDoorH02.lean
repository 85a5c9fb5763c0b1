/- Part 2 of the proof of RulesHolesMatchSpec. -/
import Derived.Test.YtfloceomobknoaaGreatDoorH01
set_option linter.unusedVariables false
set_option linter.unusedSimpArgs false
set_option maxRecDepth 100000
set_option maxHeartbeats 8000000
namespace Go
abbrev aaQ:=@Nat.add_right_cancel_iff
abbrev adq:=@List.mem_cons
abbrev aai:=@List.nodup_cons
abbrev ab9:=@Array.getElem?_eq_some_iff
abbrev aa9:=@List.getElem?_cons_zero
abbrev ab_:=@List.mem_singleton
abbrev aar:=@List.dropLast_concat_getLast
abbrev ael:=@Bool.not_eq_true'
abbrev abX:=@Array.toList_append
abbrev ac_:=@Bool.and_self
abbrev adX:=@Bool.or_eq_false_iff
abbrev acy:=@Option.getD_some
abbrev acD:=@Classical.choose_spec
abbrev adY:=@Nat.lt_of_le_of_lt
abbrev adr:=@Bool.true_and
abbrev abn:=@Bool.true_or
abbrev ads:=@Bool.or_true
abbrev ada:=@Nat.lt_trichotomy
abbrev abG:=@Nat.add_sub_cancel_left
abbrev acN:=@Array.getElem?_append_left
abbrev aem:=@Go.World.ownsRow_nil
end Go
namespace Go.AM
open Go.RowKit
variable {S':Nat->Prop} {w:World}
theorem nY{S:Nat->Prop}{w':World}{x:PV}{v:Value}(h:AY x=true)(hx:aO S w x v):aO S' w' x v:=by
 cases hx with
 | im=>exact .im _
 | ag cs vs hl h1 hc=>
  refine .ag cs vs hl h1 fun i c v hi hv=>?_;have hm:=aad hi;have:=abh.1 h c hm;have gq:=hc i c v hi hv;cases c with
  | im y=>cases gq;exact .im _
  | _=>cases this
 | nil=>cases h
 | sl=>cases h
 | ip=>cases h
 | fn=>cases h
variable {A:cD} {V L:Nat->Prop} {rho:Nat->Value} {s:AS}
theorem b7.grow{S:Nat->Prop}{a:Act}(sim:b7 A V L S rho s a w)(hC:bI A.C)(w':World)(hf:Fr (fun _=>False) w w'):b7 A V L S rho s a w':=by
 have ae1:∀b,S b->w'.heap[b]?=w.heap[b]?:=fun k hk=>hf.block k (sim.st k hk) (fun h=>h);have T:lB S S w w' L L rho rho s.h s.h:=⟨fun b h=>h,ae1,fun j hj=>⟨hj,fun hl=>⟨hl,rfl⟩⟩,fun j e' hj=>hj⟩;exact
 {tm:=fun j hj=>(sim.tm j hj).cK T
  sz:=sim.sz,df:=sim.df,nb:=sim.nb,pn:=sim.pn
  ev:=hC.env _ _ _ _ sim.ev (fun b h=>h) ae1 hf.size
  s0:=sim.s0
  st:=fun b hb=>aaW (sim.st b hb) hf.size
  sb:=sim.sb
  hp:=fun j hj=>(sim.hp j hj).cK T (fun li g hg=>hf.block g (sim.lv j g hj li hg).1 (fun h=>h)) (fun _=>rfl)
  dj:=fun i j g hi hj li lj eM jH=>sim.dj i j g hi hj li lj (dA (fun k hk=>hf.block k (sim.pM i k hi li hk).1 (fun h=>h)) eM) (dA (fun k hk=>hf.block k (sim.pM j k hj lj hk).1 (fun h=>h)) jH)
  lv:=fun i g hi li hg=>by obtain⟨h1,h2⟩:=sim.lv i g hi li (dA (fun k hk=>hf.block k (sim.pM i k hi li hk).1 (fun h=>h)) hg);exact⟨aaW h1 hf.size,h2⟩
  fr:=sim.fr.next hf.os hf.tape hf.output hf.size fun k hk _=>hf.block k (aaW hk sim.fr.size) (fun h=>h) }
inductive fL(L:Nat->Prop)(rho:Nat->Value)(h:Nat->AB):List Arg->List Value->List (Nat×AB)->Prop
 | nil:fL L rho h [] [] []
 | pv (x:PV) (v:Value) {xs:List Arg} {vs:List Value} {ids:List (Nat×AB)} (hr:fL L rho h xs vs ids):fL L rho h (.pv x::xs) (v::vs) ids
 | row (id:Nat) (e:TypeId) (es:List (List PV)) {xs:List Arg} {vs:List Value} {ids:List (Nat×AB)} (hL:L id) (hid:h id=.row e es) (hr:fL L rho h xs vs ids):fL L rho h (.row e es::xs) (rho id::vs) ((id,.row e es)::ids)
 | map (id:Nat) (mk:MK) (es:List (Value×PV)) {xs:List Arg} {vs:List Value} {ids:List (Nat×AB)} (hL:L id) (hid:h id=.map mk es) (hr:fL L rho h xs vs ids):fL L rho h (.map mk es::xs) (rho id::vs) ((id,.map mk es)::ids)
 | box (id:Nat) (cs:List AV) (ys:List PV) {xs:List Arg} {vs:List Value} {ids:List (Nat×AB)} (hL:L id) (hid:h id=.box cs) (hy:dY cs=some ys) (hr:fL L rho h xs vs ids):fL L rho h (.box ys::xs) (rho id::vs) ((id,.box cs)::ids)
 | aN (id:Nat) (cs:List HC) {xs:List Arg} {vs:List Value} {ids:List (Nat×AB)} (hL:L id) (hid:h id=.aN cs) (hr:fL L rho h xs vs ids):fL L rho h (.aN cs::xs) (rho id::vs) ((id,.aN cs)::ids)
theorem JL(hC:bI A.C){t:Nat->AV}{a:Act}{h:Nat->AB}{md:Nat->Bool}:
  ∀(iQ:List AV) (vs:List Value) (j:Nat) (h':Nat->AB) (S:Nat->Prop) (K:List Arg->List (Nat×AB)->List (Nat×AB)->Prop),iQ.length=vs.length->b7 A V L S rho ⟨t,h'⟩ a w->pY h h' ->
   (∀(S2:Nat->Prop) (h2:Nat->AB),b7 A V L S2 rho ⟨t,h2⟩ a w->∀(i:Nat) x v,iQ[i]?=some x->vs[i]?=some v->aY S2 w A.C.P L rho h2 x v)->
   (∀id,(h' id).there->(h id).there)->gF md h j iQ K ->
  ∃xs ids fz S',K xs ids fz/\b7 A V L S' rho ⟨t,app h' fz⟩ a w/\(∀b,S b->S' b)/\pY h (app h' fz)/\(∀p∈fz,L p.1)/\xs.length=vs.length/\fL L rho h xs vs ids/\(∀(i:Nat) x v,xs[i]?=some (.pv x)->vs[i]?=some v->aO S' w x v):=by
 intro iQ
 induction iQ with
 | nil=>
  intro vs j h' S K hl sim hF hrep _ hq;have:vs=[]:=adl hl.symm;subst this;exact⟨[],[],[],S,hq,sim,fun _ h=>h,hF,by simp,rfl,.nil,by simp⟩
 | cons x iQ ih=>
  intro vs j h' S K hl sim hF hrep hth hq;cases vs with
  | nil=>simp at hl
  | cons v vs=>
   simp only[aaB,aaQ]at hl;have hx:aY S w A.C.P L rho h' x v:=hrep S h' sim 0 x v rfl rfl;have ye:∀(S2:Nat->Prop) (h2:Nat->AB),b7 A V L S2 rho ⟨t,h2⟩ a w->∀(i:Nat) x v,iQ[i]?=some x->vs[i]?=some v->aY S2 w A.C.P L rho h2 x v:=fun S2 h2 s2 i x v h3 h4=>hrep S2 h2 s2 (i+1) x v (by simpa using h3) (by simpa using h4);unfold gF at hq;split at hq
   ·obtain⟨y,fz,S2,hq,bu,hp,xC,Lh,DI⟩:=ir hC sim hF hx hq;have W2:∀id,(app h' fz id).there->(h id).there:=fun id ht=>by
     rcases Lh id with h1 | ⟨e',xs,h1,h2⟩ | ⟨cs,xs,h1,_,h2⟩
     ·rw[h1]at ht;exact ht
     ·rw[h1];trivial
     rw[h1];trivial
    obtain⟨xs,ids,mY,S',k1,k2,k3,k4,k5,k6,k7,k8⟩:=ih vs (j+1) (app h' fz) S2 _ hl bu Lh ye W2 hq;refine⟨.pv y::xs,ids,fz++mY,S',k1,by rw[cy];exact k2,fun b hb=>k3 b (xC b hb),by rw[cy];exact k4,fun p hp=>(abi.1 hp).elim (DI p) (k5 p),by simp[k6],.pv y v k7,fun i x u h3 h4=>?_⟩;cases i with
    | zero=>simp at h3 h4;subst h3 h4;exact hp.mono k3 (fun _ _=>rfl)
    | succ i=>exact k8 i x u (by simpa using h3) (by simpa using h4)
   split at hq
   ·rename_i id;split at hq
    ·rename_i e es az;obtain⟨xs,ids,mY,S',k1,k2,k3,k4,k5,k6,k7,k8⟩:=ih vs (j+1) h' S _ hl sim hF ye hth hq;have ht:(h' id).there:=by
      rcases hF id with h1 | ⟨e',xs,h1,h2⟩ | ⟨cs,xs,h1,_,h2⟩
      ·rw[h1,az];trivial
      ·rw[h2];trivial
      rw[h2];trivial
     obtain⟨hL,rfl⟩:=hx.cH ht;refine⟨.row e es::xs,(id,.row e es)::ids,mY,S',k1,k2,k3,k4,k5,by simp[k6],.row id e es hL az k7,fun i x u h3 h4=>?_⟩;cases i with
     | zero=>simp at h3
     | succ i=>exact k8 i x u (by simpa using h3) (by simpa using h4)
    ·rename_i es Iq;obtain⟨xs,ids,mY,S',k1,k2,k3,k4,k5,k6,k7,k8⟩:=ih vs (j+1) h' S _ hl sim hF ye hth hq;have he:h' id=.jA es:=by
      rcases hF id with h1 | ⟨e',xs,h1,h2⟩ | ⟨cs,xs,h1,_,h2⟩
      ·rw[h1,Iq]
      ·rw[Iq]at h1;cases h1
      rw[Iq]at h1;cases h1
     obtain⟨hL,rfl⟩:=hx.cH (by rw[he];trivial);have hh:=sim.hp id hL;have hh:eK S w A.C.P L rho h' id (h' id):=hh;rw[he]at hh;refine⟨.pv (.sl es)::xs,ids,mY,S',k1,k2,k3,k4,k5,by simp[k6],.pv _ _ k7,fun i x u h3 h4=>?_⟩;cases i with
     | zero=>simp at h3 h4;subst h3 h4;exact aO.mono hh k3 (fun _ _=>rfl)
     | succ i=>exact k8 i x u (by simpa using h3) (by simpa using h4)
    ·rename_i mk es az;obtain⟨xs,ids,mY,S',k1,k2,k3,k4,k5,k6,k7,k8⟩:=ih vs (j+1) h' S _ hl sim hF ye hth hq;have ht:(h' id).there:=by
      rcases hF id with h1 | ⟨e',xs,h1,h2⟩ | ⟨cs,xs,h1,_,h2⟩
      ·rw[h1,az];trivial
      ·rw[h2];trivial
      rw[h2];trivial
     obtain⟨hL,rfl⟩:=hx.cH ht;refine⟨.map mk es::xs,(id,.map mk es)::ids,mY,S',k1,k2,k3,k4,k5,by simp[k6],.map id mk es hL az k7,fun i x u h3 h4=>?_⟩;cases i with
     | zero=>simp at h3
     | succ i=>exact k8 i x u (by simpa using h3) (by simpa using h4)
    exact hq.elim
   ·obtain⟨xs,ids,mY,S',k1,k2,k3,k4,k5,k6,k7,k8⟩:=ih vs (j+1) h' S _ hl sim hF ye hth hq;refine⟨.pv _::xs,ids,mY,S',k1,k2,k3,k4,k5,by simp[k6],.pv _ _ k7,fun i x u h3 h4=>?_⟩;cases i with
    | zero=>simp at h3 h4;subst h3 h4;exact hx.eR.mono k3 (fun _ _=>rfl)
    | succ i=>exact k8 i x u (by simpa using h3) (by simpa using h4)
   ·rename_i id;split at hq
    ·rename_i cs aN;split at hq
     ·rename_i ys Ij;obtain⟨xs,ids,mY,S',k1,k2,k3,k4,k5,k6,k7,k8⟩:=ih vs (j+1) h' S _ hl sim hF ye hth hq;have ht:(h' id).there:=by
       rcases hF id with h1 | ⟨e',xs,h1,h2⟩ | ⟨cs,xs,h1,_,h2⟩
       ·rw[h1,aN];trivial
       ·rw[h2];trivial
       rw[h2];trivial
      obtain⟨hL,g,hg,hv⟩:=hx.h_ ht;have F9:v=rho id:=by rw[hv,hg]
      subst F9;refine⟨.box ys::xs,(id,.box cs)::ids,mY,S',k1,k2,k3,k4,k5,by simp[k6],.box id cs ys hL aN Ij k7,fun i x u h3 h4=>?_⟩;cases i with
      | zero=>simp at h3
      | succ i=>exact k8 i x u (by simpa using h3) (by simpa using h4)
     exact hq.elim
    ·rename_i cs aN;obtain⟨xs,ids,mY,S',k1,k2,k3,k4,k5,k6,k7,k8⟩:=ih vs (j+1) h' S _ hl sim hF ye hth hq;have ht:(h' id).there:=by
      rcases hF id with h1 | ⟨e',xs,h1,h2⟩ | ⟨cs,xs,h1,_,h2⟩
      ·rw[h1,aN];trivial
      ·rw[h2];trivial
      rw[h2];trivial
     obtain⟨hL,g,hg,hv⟩:=hx.h_ ht;have F9:v=rho id:=by rw[hv,hg]
     subst F9;refine⟨.aN cs::xs,(id,.aN cs)::ids,mY,S',k1,k2,k3,k4,k5,by simp[k6],.aN id cs hL aN k7,fun i x u h3 h4=>?_⟩;cases i with
     | zero=>simp at h3
     | succ i=>exact k8 i x u (by simpa using h3) (by simpa using h4)
    exact hq.elim
   exact hq.elim
variable {vs:List Value}
theorem fL.at{h:Nat->AB}{xs:List Arg}{ids:List (Nat×AB)}(H:fL L rho h xs vs ids):∀(j:Nat) x v,xs[j]?=some x->vs[j]?=some v->x.handed=true->∃id b,(id,b)∈ids/\L id/\h id=b/\v=rho id/\(((∃e es,x=.row e es/\b=.row e es)\/∃mk es,x=.map mk es/\b=.map mk es)\/(∃cs ys,x=.box ys/\b=.box cs/\dY cs=some ys)\/∃cs,x=.aN cs/\b=.aN cs):=by
 induction H with
 | nil=>intro j x v h1;simp at h1
 | pv y u hr ih=>
  intro j x v h1 h2 h3;cases j with
  | zero=>simp at h1;subst h1;cases h3
  | succ j=>exact ih j x v (by simpa using h1) (by simpa using h2) h3
 | row id e es hL hid hr ih=>
  intro j x v h1 h2 h3;cases j with
  | zero=>simp at h1 h2;subst h1 h2;exact⟨id,_,by simp,hL,hid,rfl,.inl (.inl ⟨e,es,rfl,rfl⟩)⟩
  | succ j=>obtain⟨i,b,m,r⟩:=ih j x v (by simpa using h1) (by simpa using h2) h3;exact⟨i,b,by simp[m],r⟩
 | map id mk es hL hid hr ih=>
  intro j x v h1 h2 h3;cases j with
  | zero=>simp at h1 h2;subst h1 h2;exact⟨id,_,by simp,hL,hid,rfl,.inl (.inr ⟨mk,es,rfl,rfl⟩)⟩
  | succ j=>obtain⟨i,b,m,r⟩:=ih j x v (by simpa using h1) (by simpa using h2) h3;exact⟨i,b,by simp[m],r⟩
 | box id cs ys hL hid hy hr ih=>
  intro j x v h1 h2 h3;cases j with
  | zero=>simp at h1 h2;subst h1 h2;exact⟨id,_,by simp,hL,hid,rfl,.inr (.inl ⟨cs,ys,rfl,rfl,hy⟩)⟩
  | succ j=>obtain⟨i,b,m,r⟩:=ih j x v (by simpa using h1) (by simpa using h2) h3;exact⟨i,b,by simp[m],r⟩
 | aN id cs hL hid hr ih=>
  intro j x v h1 h2 h3;cases j with
  | zero=>simp at h1 h2;subst h1 h2;exact⟨id,_,by simp,hL,hid,rfl,.inr (.inr ⟨cs,rfl,rfl⟩)⟩
  | succ j=>obtain⟨i,b,m,r⟩:=ih j x v (by simpa using h1) (by simpa using h2) h3;exact⟨i,b,by simp[m],r⟩
theorem fL.back{h:Nat->AB}{xs:List Arg}{ids:List (Nat×AB)}(H:fL L rho h xs vs ids):∀id b,(id,b)∈ids->L id/\h id=b/\b.live/\∃(j:Nat) (x:Arg),xs[j]?=some x/\vs[j]?=some (rho id)/\x.handed=true:=by
 induction H with
 | nil=>intro id b h;cases h
 | pv y u hr ih=>intro id b h;obtain⟨h1,h2,h3,j,x,h4⟩:=ih id b h;exact⟨h1,h2,h3,j+1,x,by simpa using h4⟩
 | row i e es hL hid hr ih=>
  intro id b h;rcases adq.1 h with h | h
  ·injection h with h1 h2;subst h1 h2;exact⟨hL,hid,trivial,0,_,rfl,rfl,rfl⟩
  obtain⟨h1,h2,h3,j,x,h4⟩:=ih id b h;exact⟨h1,h2,h3,j+1,x,by simpa using h4⟩
 | map i mk es hL hid hr ih=>
  intro id b h;rcases adq.1 h with h | h
  ·injection h with h1 h2;subst h1 h2;exact⟨hL,hid,trivial,0,_,rfl,rfl,rfl⟩
  obtain⟨h1,h2,h3,j,x,h4⟩:=ih id b h;exact⟨h1,h2,h3,j+1,x,by simpa using h4⟩
 | box i cs ys hL hid hy hr ih=>
  intro id b h;rcases adq.1 h with h | h
  ·injection h with h1 h2;subst h1 h2;exact⟨hL,hid,trivial,0,_,rfl,rfl,rfl⟩
  obtain⟨h1,h2,h3,j,x,h4⟩:=ih id b h;exact⟨h1,h2,h3,j+1,x,by simpa using h4⟩
 | aN i cs hL hid hr ih=>
  intro id b h;rcases adq.1 h with h | h
  ·injection h with h1 h2;subst h1 h2;exact⟨hL,hid,trivial,0,_,rfl,rfl,rfl⟩
  obtain⟨h1,h2,h3,j,x,h4⟩:=ih id b h;exact⟨h1,h2,h3,j+1,x,by simpa using h4⟩
theorem fL.inj{h:Nat->AB}{xs:List Arg}{ids:List (Nat×AB)}(H:fL L rho h xs vs ids)(hn:(ids.map (·.1)).Nodup):∀(i j:Nat) x y v u,xs[i]?=some x->xs[j]?=some y->vs[i]?=some v->vs[j]?=some u->x.handed=true->y.handed=true->i≠j ->
  ∃Gk sB b1 b2,Gk≠sB/\(Gk,b1)∈ids/\(sB,b2)∈ids/\v=rho Gk/\u=rho sB/\(((∃e es,x=.row e es/\b1=.row e es)\/∃mk es,x=.map mk es/\b1=.map mk es)\/(∃cs ys,x=.box ys/\b1=.box cs/\dY cs=some ys)\/∃cs,x=.aN cs/\b1=.aN cs)/\(((∃e es,y=.row e es/\b2=.row e es)\/∃mk es,y=.map mk es/\b2=.map mk es)\/(∃cs ys,y=.box ys/\b2=.box cs/\dY cs=some ys)\/∃cs,y=.aN cs/\b2=.aN cs):=by
 have step:∀(i0:Nat) (b0:AB) {xs:List Arg} {vs:List Value} {ids:List (Nat×AB)} (H:fL L rho h xs vs ids) (hn:(((i0,b0)::ids).map (·.1)).Nodup) (j:Nat) (y:Arg) (u:Value),xs[j]?=some y->vs[j]?=some u->y.handed=true->∃id b,id≠i0/\(id,b)∈ids/\u=rho id/\(((∃e es,y=.row e es/\b=.row e es)\/∃mk es,y=.map mk es/\b=.map mk es)\/(∃cs ys,y=.box ys/\b=.box cs/\dY cs=some ys)\/∃cs,y=.aN cs/\b=.aN cs):=by
  intro i0 b0 xs vs ids H hn j y u h1 h2 h3;obtain⟨id,b,h4,_,_,h5,hf⟩:=H.at j y u h1 h2 h3;simp only[aa8,aai]at hn;exact⟨id,b,fun e=>hn.1 (adS.2 ⟨(id,b),h4,e⟩),h4,h5,hf⟩
 induction H with
 | nil=>intro i j x y v u h1;simp at h1
 | pv z v0 hr ih=>
  intro i j x y v u h1 h2 h3 h4 h5 h6 h7;cases i with
  | zero=>simp at h1;subst h1;cases h5
  | succ i=>
   cases j with
   | zero=>simp at h2;subst h2;cases h6
   | succ j=>exact ih hn i j x y v u (by simpa using h1) (by simpa using h2) (by simpa using h3) (by simpa using h4) h5 h6 (by omega)
 | row id e es hL hid hr ih=>
  intro i j x y v u h1 h2 h3 h4 h5 h6 h7;have Ct:=hn;simp only[aa8,aai]at Ct;cases i with
  | zero=>
   cases j with
   | zero=>exact absurd rfl h7
   | succ j=>
    obtain⟨sB,b2,k1,k2,k3,hf⟩:=step id (.row e es) hr hn j y u (by simpa using h2) (by simpa using h4) h6;simp at h1 h3;exact⟨id,sB,.row e es,b2,k1.symm,by simp,by simp[k2],h3.symm,k3,h1▸.inl (.inl ⟨e,es,rfl,rfl⟩),hf⟩
  | succ i=>
   cases j with
   | zero=>
    obtain⟨sB,b2,k1,k2,k3,hf⟩:=step id (.row e es) hr hn i x v (by simpa using h1) (by simpa using h3) h5;simp at h2 h4;exact⟨sB,id,b2,.row e es,k1,by simp[k2],by simp,k3,h4.symm,hf,h2▸.inl (.inl ⟨e,es,rfl,rfl⟩)⟩
   | succ j=>
    obtain⟨Gk,sB,b1,b2,k1,k2,k3,k4,k5⟩:=ih Ct.2 i j x y v u (by simpa using h1) (by simpa using h2) (by simpa using h3) (by simpa using h4) h5 h6 (by omega);exact⟨Gk,sB,b1,b2,k1,by simp[k2],by simp[k3],k4,k5⟩
 | map id mk es hL hid hr ih=>
  intro i j x y v u h1 h2 h3 h4 h5 h6 h7;have Ct:=hn;simp only[aa8,aai]at Ct;cases i with
  | zero=>
   cases j with
   | zero=>exact absurd rfl h7
   | succ j=>
    obtain⟨sB,b2,k1,k2,k3,hf⟩:=step id (.map mk es) hr hn j y u (by simpa using h2) (by simpa using h4) h6;simp at h1 h3;exact⟨id,sB,.map mk es,b2,k1.symm,by simp,by simp[k2],h3.symm,k3,h1▸.inl (.inr ⟨mk,es,rfl,rfl⟩),hf⟩
  | succ i=>
   cases j with
   | zero=>
    obtain⟨sB,b2,k1,k2,k3,hf⟩:=step id (.map mk es) hr hn i x v (by simpa using h1) (by simpa using h3) h5;simp at h2 h4;exact⟨sB,id,b2,.map mk es,k1,by simp[k2],by simp,k3,h4.symm,hf,h2▸.inl (.inr ⟨mk,es,rfl,rfl⟩)⟩
   | succ j=>
    obtain⟨Gk,sB,b1,b2,k1,k2,k3,k4,k5⟩:=ih Ct.2 i j x y v u (by simpa using h1) (by simpa using h2) (by simpa using h3) (by simpa using h4) h5 h6 (by omega);exact⟨Gk,sB,b1,b2,k1,by simp[k2],by simp[k3],k4,k5⟩
 | box id cs ys hL hid hy hr ih=>
  intro i j x y v u h1 h2 h3 h4 h5 h6 h7;have Ct:=hn;simp only[aa8,aai]at Ct;cases i with
  | zero=>
   cases j with
   | zero=>exact absurd rfl h7
   | succ j=>
    obtain⟨sB,b2,k1,k2,k3,hf⟩:=step id (.box cs) hr hn j y u (by simpa using h2) (by simpa using h4) h6;simp at h1 h3;exact⟨id,sB,.box cs,b2,k1.symm,by simp,by simp[k2],h3.symm,k3,h1▸.inr (.inl ⟨cs,ys,rfl,rfl,hy⟩),hf⟩
  | succ i=>
   cases j with
   | zero=>
    obtain⟨sB,b2,k1,k2,k3,hf⟩:=step id (.box cs) hr hn i x v (by simpa using h1) (by simpa using h3) h5;simp at h2 h4;exact⟨sB,id,b2,.box cs,k1,by simp[k2],by simp,k3,h4.symm,hf,h2▸.inr (.inl ⟨cs,ys,rfl,rfl,hy⟩)⟩
   | succ j=>
    obtain⟨Gk,sB,b1,b2,k1,k2,k3,k4,k5⟩:=ih Ct.2 i j x y v u (by simpa using h1) (by simpa using h2) (by simpa using h3) (by simpa using h4) h5 h6 (by omega);exact⟨Gk,sB,b1,b2,k1,by simp[k2],by simp[k3],k4,k5⟩
 | aN id cs hL hid hr ih=>
  intro i j x y v u h1 h2 h3 h4 h5 h6 h7;have Ct:=hn;simp only[aa8,aai]at Ct;cases i with
  | zero=>
   cases j with
   | zero=>exact absurd rfl h7
   | succ j=>
    obtain⟨sB,b2,k1,k2,k3,hf⟩:=step id (.aN cs) hr hn j y u (by simpa using h2) (by simpa using h4) h6;simp at h1 h3;exact⟨id,sB,.aN cs,b2,k1.symm,by simp,by simp[k2],h3.symm,k3,h1▸.inr (.inr ⟨cs,rfl,rfl⟩),hf⟩
  | succ i=>
   cases j with
   | zero=>
    obtain⟨sB,b2,k1,k2,k3,hf⟩:=step id (.aN cs) hr hn i x v (by simpa using h1) (by simpa using h3) h5;simp at h2 h4;exact⟨sB,id,b2,.aN cs,k1,by simp[k2],by simp,k3,h4.symm,hf,h2▸.inr (.inr ⟨cs,rfl,rfl⟩)⟩
   | succ j=>
    obtain⟨Gk,sB,b1,b2,k1,k2,k3,k4,k5⟩:=ih Ct.2 i j x y v u (by simpa using h1) (by simpa using h2) (by simpa using h3) (by simpa using h4) h5 h6 (by omega);exact⟨Gk,sB,b1,b2,k1,by simp[k2],by simp[k3],k4,k5⟩
theorem LX{id:Nat}:∀{fz:List (Nat×AB)},afu id fz=true->∀p∈fz,p.1≠id:=by
 intro fz
 induction fz with
 | nil=>intro _ p hp;cases hp
 | cons x fz ih=>
  intro hn p hp;unfold afu at hn;split at hn
  ·cases hn
  rename_i b8;rcases adq.1 hp with h | h
  ·subst h;intro e;rw[e]at b8;simp at b8
  exact ih hn p h
theorem Gl:∀{ids fz:List (Nat×AB)},H_ ids fz=true->(∀p∈ids,afu p.1 fz=true)/\(ids.map (·.1)).Nodup:=by
 intro ids
 induction ids with
 | nil=>intro fz _;simp
 | cons x ids ih=>
  intro fz h;obtain⟨i,b⟩:=x;simp only[H_,aaZ]at h;obtain⟨⟨h1,h2⟩,h3⟩:=h;obtain⟨h4,h5⟩:=ih h3;refine⟨fun p hp=>?_,?_⟩
  ·rcases adq.1 hp with h | h
   ·subst h;exact h1
   exact h4 p h
  simp only[aa8,aai];refine⟨fun hm=>?_,h5⟩;obtain⟨p,hp,he⟩:=adS.1 hm;exact LX h2 p hp he
def Ar:List Arg->List (Nat×AB)->Nat->Nat->Prop
 | x::xs,ids,i,id=>match x.handed with
  | false=>match i with
   | 0=>False
   | i+1=>Ar xs ids i id
  | true=>match ids with
   | (id0,_)::ids=>match i with
    | 0=>id=id0
    | i+1=>Ar xs ids i id
   | []=>False
 | _,_,_,_=>False
theorem Ar.uniq:∀{xs:List Arg} {ids:List (Nat×AB)} {i a b:Nat},Ar xs ids i a->Ar xs ids i b->a=b
 | [],_,_,_,_,h,_=>h.elim
 | x::xs,ids,i,a,b,h,k=>by
  unfold Ar at h k;split at h
  ·rename_i hx;simp only[hx]at k;cases i with
   | zero=>exact h.elim
   | succ i=>exact Ar.uniq h k
  rename_i hx;simp only[hx]at k;cases ids with
  | nil=>exact h.elim
  | cons p ids=>
   cases i with
   | zero=>exact h.trans k.symm
   | succ i=>exact Ar.uniq (xs:=xs) (ids:=ids) h k
def OT(S:Nat->Prop)(w:World)(P:Program)(args:List Arg)(fin:List Fin)(vs:List Value)(i:Nat)(v:Value)(gW new:AB):Prop:=
 new=.none\/(((∃e es de,gW=.row e es/\new=.row e de/\aG P w (aO S w) e de v)\/∃mk es de,gW=.map mk es/\new=.map mk de/\Cd S w mk de v)\/(∃(cs:List AV) (xs:List PV) (g:Nat) (ty:TypeId) (c:Array Value),gW=.box cs/\new=.box (xs.map .p)/\v=.pointer (some ⟨g,0,none⟩)/\w.heap[g]?=some (.cells c ty (0,0))/\c.size=xs.length/\∀(j:Nat) x u,xs[j]?=some x->c[j]?=some u->u.oneCell'=true/\aO S w x u)\/
  (∃(cs mZ:List HC) (g:Nat) (ty:TypeId) (c:Array Value),gW=.aN cs/\new=.aN mZ/\v=.pointer (some ⟨g,0,none⟩)/\Jp S w P mZ g ty c))/\
  (∀g,hasB w new v g->¬S g/\du w args fin vs i g)
theorem OT.lift{S:Nat->Prop}{P:Program}{xs:List Arg}{fin:List Fin}{i:Nat}{v:Value}{gW new:AB}{rN:List Arg}{LY:List Fin}{mQ:List Value}{i':Nat}(h:∀g,du w xs fin vs i g->du w rN LY mQ i' g)(hb:OT S w P xs fin vs i v gW new):OT S w P rN LY mQ i' v gW new:=
 hb.imp id fun hb=>⟨hb.1,fun g hg=>⟨(hb.2 g hg).1,h g (hb.2 g hg).2⟩⟩
theorem me{S:Nat->Prop}{P:Program}{h:Nat->AB}{xs:List Arg}{ids:List (Nat×AB)}(H:fL L rho h xs vs ids):
  ∀(fin:List Fin) fe,eL S w P xs fin vs->aeQ ids fin=some fe->fe.map (·.1)=ids.map (·.1)/\∀id new,(id,new)∈fe->∃gW i,(id,gW)∈ids/\Ar xs ids i id/\OT S w P xs fin vs i (rho id) gW new:=by
 induction H with
 | nil=>
  intro fin fe fO qh;cases fin with
  | nil=>simp[aeQ]at qh;subst qh;exact⟨rfl,by simp⟩
  | cons f fin=>simp[aeQ]at qh
 | pv x v hr ih=>
  intro fin fe fO qh;obtain⟨h2,h3⟩:=ih fin fe fO qh;refine⟨h2,fun id new hm=>?_⟩;obtain⟨gW,i,h4,h6,h5⟩:=h3 id new hm;exact⟨gW,i+1,h4,h6,h5.lift fun g h=>h⟩
 | @row i e es xs vs ids hL hid hr ih=>
  intro fin fe fO qh;cases fin with
  | nil=>exact fO.elim
  | cons f fin=>
   obtain⟨hf,qi⟩:=(show oH S w P (.row e es) f (rho i)/\eL S w P xs fin vs from fO);cases f with
   | gone=>
    simp only[aeQ]at qh;obtain⟨Gm,h1,rfl⟩:=acq.1 qh;obtain⟨h2,h3⟩:=ih fin Gm qi h1;refine⟨by simp[h2],fun id new hm=>?_⟩;rcases adq.1 hm with e' | e'
    ·injection e' with e1 e2;subst e1 e2;exact⟨.row e es,0,by simp,rfl,.inl rfl⟩
    obtain⟨gW,k,h4,h6,h5⟩:=h3 id new e';exact⟨gW,k+1,by simp[h4],h6,h5.lift fun g h=>h⟩
   | row de=>
    simp only[aeQ]at qh;obtain⟨Gm,h1,rfl⟩:=acq.1 qh;obtain⟨h2,h3⟩:=ih fin Gm qi h1;refine⟨by simp[h2],fun id new hm=>?_⟩;rcases adq.1 hm with e' | e'
    ·injection e' with e1 e2;subst e1 e2;exact⟨_,0,by simp,rfl,.inr ⟨.inl (.inl ⟨e,es,de,rfl,rfl,hf.1⟩),fun g hg=>⟨hf.2 g (aI rfl hg),rfl,.inl (aI rfl hg)⟩⟩⟩
    obtain⟨gW,k,h4,h6,h5⟩:=h3 id new e';exact⟨gW,k+1,by simp[h4],h6,h5.lift fun g h=>h⟩
   | map de=>exact hf.elim
   | box cs=>exact hf.elim
   | aN cs=>exact hf.elim
 | @map i mk es xs vs ids hL hid hr ih=>
  intro fin fe fO qh;cases fin with
  | nil=>exact fO.elim
  | cons f fin=>
   obtain⟨hf,qi⟩:=(show oH S w P (.map mk es) f (rho i)/\eL S w P xs fin vs from fO);cases f with
   | gone=>
    simp only[aeQ]at qh;obtain⟨Gm,h1,rfl⟩:=acq.1 qh;obtain⟨h2,h3⟩:=ih fin Gm qi h1;refine⟨by simp[h2],fun id new hm=>?_⟩;rcases adq.1 hm with e' | e'
    ·injection e' with e1 e2;subst e1 e2;exact⟨.map mk es,0,by simp,rfl,.inl rfl⟩
    obtain⟨gW,k,h4,h6,h5⟩:=h3 id new e';exact⟨gW,k+1,by simp[h4],h6,h5.lift fun g h=>h⟩
   | map de=>
    simp only[aeQ]at qh;obtain⟨Gm,h1,rfl⟩:=acq.1 qh;obtain⟨h2,h3⟩:=ih fin Gm qi h1;refine⟨by simp[h2],fun id new hm=>?_⟩;rcases adq.1 hm with e' | e'
    ·injection e' with e1 e2;subst e1 e2;exact⟨_,0,by simp,rfl,.inr ⟨.inl (.inr ⟨mk,es,de,rfl,rfl,hf.1⟩),fun g hg=>⟨hf.2 g (aI rfl hg),rfl,.inl (aI rfl hg)⟩⟩⟩
    obtain⟨gW,k,h4,h6,h5⟩:=h3 id new e';exact⟨gW,k+1,by simp[h4],h6,h5.lift fun g h=>h⟩
   | row de=>exact hf.elim
   | box cs=>exact hf.elim
   | aN cs=>exact hf.elim
 | @box i cs ys xs vs ids hL hid hy hr ih=>
  intro fin fe fO qh;cases fin with
  | nil=>exact fO.elim
  | cons f fin=>
   obtain⟨hf,qi⟩:=(show oH S w P (.box ys) f (rho i)/\eL S w P xs fin vs from fO);cases f with
   | gone=>
    simp only[aeQ]at qh;obtain⟨Gm,h1,rfl⟩:=acq.1 qh;obtain⟨h2,h3⟩:=ih fin Gm qi h1;refine⟨by simp[h2],fun id new hm=>?_⟩;rcases adq.1 hm with e' | e'
    ·injection e' with e1 e2;subst e1 e2;exact⟨.box cs,0,by simp,rfl,.inl rfl⟩
    obtain⟨gW,k,h4,h6,h5⟩:=h3 id new e';exact⟨gW,k+1,by simp[h4],h6,h5.lift fun g h=>h⟩
   | row es=>exact hf.elim
   | map es=>exact hf.elim
   | aN es=>exact hf.elim
   | box rN=>
    simp only[aeQ]at qh;obtain⟨Gm,h1,rfl⟩:=acq.1 qh;obtain⟨h2,h3⟩:=ih fin Gm qi h1;refine⟨by simp[h2],fun id new hm=>?_⟩;rcases adq.1 hm with e' | e'
    ·injection e' with e1 e2;subst e1 e2;obtain⟨g,ty,c,m1,m2,m3,m4,m5⟩:=hf;refine⟨_,0,by simp,rfl,.inr ⟨.inr (.inl ⟨cs,rN,g,ty,c,rfl,rfl,m1,m2,m3,m5⟩),fun g' hg=>?_⟩⟩;have hg:=aI rfl hg;refine⟨?_,rfl,.inl hg⟩;rw[m1]at hg;injection hg with hg;exact hg▸m4
    obtain⟨gW,k,h4,h6,h5⟩:=h3 id new e';exact⟨gW,k+1,by simp[h4],h6,h5.lift fun g h=>h⟩
 | @aN i cs xs vs ids hL hid hr ih=>
  intro fin fe fO qh;cases fin with
  | nil=>exact fO.elim
  | cons f fin=>
   obtain⟨hf,qi⟩:=(show oH S w P (.aN cs) f (rho i)/\eL S w P xs fin vs from fO);cases f with
   | gone=>
    simp only[aeQ]at qh;obtain⟨Gm,h1,rfl⟩:=acq.1 qh;obtain⟨h2,h3⟩:=ih fin Gm qi h1;refine⟨by simp[h2],fun id new hm=>?_⟩;rcases adq.1 hm with e' | e'
    ·injection e' with e1 e2;subst e1 e2;exact⟨.aN cs,0,by simp,rfl,.inl rfl⟩
    obtain⟨gW,k,h4,h6,h5⟩:=h3 id new e';exact⟨gW,k+1,by simp[h4],h6,h5.lift fun g h=>h⟩
   | row es=>exact hf.elim
   | map es=>exact hf.elim
   | box es=>exact hf.elim
   | aN mZ=>
    simp only[aeQ]at qh;obtain⟨Gm,h1,rfl⟩:=acq.1 qh;obtain⟨h2,h3⟩:=ih fin Gm qi h1;refine⟨by simp[h2],fun id new hm=>?_⟩;rcases adq.1 hm with e' | e'
    ·injection e' with e1 e2;subst e1 e2;obtain⟨g,ty,c,m1,m2,m3⟩:=hf;exact⟨_,0,by simp,rfl,.inr ⟨.inr (.inr ⟨cs,mZ,g,ty,c,rfl,rfl,m1,m2⟩),fun g' hg=>⟨m3 g' hg,rfl,hg⟩⟩⟩
    obtain⟨gW,k,h4,h6,h5⟩:=h3 id new e';exact⟨gW,k+1,by simp[h4],h6,h5.lift fun g h=>h⟩
theorem aeF(fe:List (Nat×AB))(h:Nat->AB)(id:Nat):(∃b,(id,b)∈fe/\app h fe id=b)\/((∀p∈fe,p.1≠id)/\app h fe id=h id):=by
 induction fe generalizing h with
 | nil=>exact .inr ⟨by simp,rfl⟩
 | cons x fe ih=>
  rcases ih (aT h x.1 x.2) with⟨b,h1,h2⟩ | ⟨h1,h2⟩
  ·exact .inl ⟨b,by simp[h1],h2⟩
  by_cases e:x.1=id
  ·refine .inl ⟨x.2,by rw[<-e];simp,?_⟩;show app (aT h x.1 x.2) fe id=x.2;rw[h2,e,aH]
  refine .inr ⟨fun p hp=>?_,?_⟩
  ·rcases adq.1 hp with h | h
   ·rw[h];exact e
   exact h1 p h
  show app (aT h x.1 x.2) fe id=h id;rw[h2,aV _ _ (fun e'=>e e'.symm)]
theorem tz{b:AB}{v:Value}{g:Nat}{x:Arg}(h:((∃e es,x=.row e es/\b=.row e es)\/∃mk es,x=.map mk es/\b=.map mk es)\/(∃cs ys,x=.box ys/\b=.box cs/\dY cs=some ys)\/∃cs,x=.aN cs/\b=.aN cs):hasB w (Ce x) v g↔hasB w b v g:=by
 rcases h with (⟨e,es,rfl,rfl⟩ | ⟨mk,es,rfl,rfl⟩) | ⟨cs,ys,rfl,rfl,_⟩ | ⟨cs,rfl,rfl⟩
 ·exact⟨fun h=>.inl (aI rfl h),fun h=>.inl (aI rfl h)⟩
 ·exact⟨fun h=>.inl (aI rfl h),fun h=>.inl (aI rfl h)⟩
 ·exact⟨fun h=>.inl (aI rfl h),fun h=>.inl (aI rfl h)⟩
 exact aaT
theorem fL.form{h:Nat->AB}{xs:List Arg}{ids:List (Nat×AB)}(H:fL L rho h xs vs ids):∀id b,(id,b)∈ids->∃(j:Nat) (x:Arg),xs[j]?=some x/\vs[j]?=some (rho id)/\x.handed=true/\(((∃e es,x=.row e es/\b=.row e es)\/∃mk es,x=.map mk es/\b=.map mk es)\/(∃cs ys,x=.box ys/\b=.box cs/\dY cs=some ys)\/∃cs,x=.aN cs/\b=.aN cs):=by
 induction H with
 | nil=>intro id b h;cases h
 | pv y u hr ih=>intro id b h;obtain⟨j,x,h4⟩:=ih id b h;exact⟨j+1,x,by simpa using h4⟩
 | row i e es hL hid hr ih=>
  intro id b h;rcases adq.1 h with h | h
  ·injection h with h1 h2;subst h1 h2;exact⟨0,_,rfl,rfl,rfl,.inl (.inl ⟨e,es,rfl,rfl⟩)⟩
  obtain⟨j,x,h4⟩:=ih id b h;exact⟨j+1,x,by simpa using h4⟩
 | map i mk es hL hid hr ih=>
  intro id b h;rcases adq.1 h with h | h
  ·injection h with h1 h2;subst h1 h2;exact⟨0,_,rfl,rfl,rfl,.inl (.inr ⟨mk,es,rfl,rfl⟩)⟩
  obtain⟨j,x,h4⟩:=ih id b h;exact⟨j+1,x,by simpa using h4⟩
 | box i cs ys hL hid hy hr ih=>
  intro id b h;rcases adq.1 h with h | h
  ·injection h with h1 h2;subst h1 h2;exact⟨0,_,rfl,rfl,rfl,.inr (.inl ⟨cs,ys,rfl,rfl,hy⟩)⟩
  obtain⟨j,x,h4⟩:=ih id b h;exact⟨j+1,x,by simpa using h4⟩
 | aN i cs hL hid hr ih=>
  intro id b h;rcases adq.1 h with h | h
  ·injection h with h1 h2;subst h1 h2;exact⟨0,_,rfl,rfl,rfl,.inr (.inr ⟨cs,rfl,rfl⟩)⟩
  obtain⟨j,x,h4⟩:=ih id b h;exact⟨j+1,x,by simpa using h4⟩
theorem fL.mv{h:Nat->AB}{xs:List Arg}{vs:Array Value}{ids:List (Nat×AB)}(H:fL L rho h xs vs.toList ids)(g:Nat):Mv w xs vs g↔∃id b,(id,b)∈ids/\hasB w b (rho id) g:=by
 constructor
 ·rintro⟨j,x,v,h1,h2,h3,h4⟩;obtain⟨id,b,h5,_,_,h6,h7⟩:=H.at j x v h1 (by simpa using h2) h3;exact⟨id,b,h5,by rw[<-h6];exact (tz h7).1 h4⟩
 rintro⟨id,b,h1,h2⟩;obtain⟨j,x,h3,h4,h5,h6⟩:=H.form id b h1;exact⟨j,x,_,h3,by simpa using h4,h5,(tz h6).2 h2⟩
theorem b7.handed{S2:Nat->Prop}{t:Nat->AV}{a:Act}{w':World}{h h2:Nat->AB}(hC:bI A.C)(sim:b7 A V L S2 rho ⟨t,h2⟩ a w){xs:List Arg}{vs:Array Value}{ids fe:List (Nat×AB)}{fin:List Fin}(H:fL L rho h xs vs.toList ids)(hh:∀id b,(id,b)∈ids->h2 id=h id)
  (hf:Fr (Mv w xs vs) w w') (hS:∀b,S2 b->S' b) (xl:∀b,S' b->b<w'.heap.size) (RN:∀b,S' b->S2 b\/w.heap.size<=b\/Mv w xs vs b) (fO:eL S' w' A.C.P xs fin vs.toList) (hok:ta w w' xs fin vs) (qh:aeQ ids fin=some fe):
  b7 A V L S' rho ⟨t,app h2 fe⟩ a w':=by
 obtain⟨hk,hb⟩:=me H fin fe fO qh;have LZ:∀id,(∃b,(id,b)∈ids)↔∃b,(id,b)∈fe:=by
  intro id;have:id∈ids.map (·.1)↔id∈fe.map (·.1):=by rw[hk]
  simpa using this
 have own:∀id b,(id,b)∈ids->L id/\(h2 id).live/\h2 id=b:=fun id b hm=>by
  obtain⟨h1,h3,h4,_⟩:=H.back id b hm;have:=hh id b hm;exact⟨h1,by rw[this,h3];exact h4,by rw[this,h3]⟩
 have V5:∀g,Mv w xs vs g->¬S2 g/\(A.mv g\/A.w0.heap.size<=g):=fun g hg=>by
  obtain⟨id,b,h1,h3⟩:=H.mv g |>.1 hg;obtain⟨h4,h5,h6⟩:=own id b h1;exact (sim.lv id g h4 h5 (by show hasB w (h2 id) _ _;rw[h6];exact h3)).2
 have ae1:∀b,S2 b->w'.heap[b]?=w.heap[b]?:=fun k hk=>hf.block k (sim.st k hk) fun hm=>(V5 k hm).1 hk;have T:lB S2 S' w w' L L rho rho h2 (app h2 fe):=by
  refine⟨hS,ae1,fun id ht=>⟨?_,fun hl=>⟨hl,rfl⟩⟩,fun id e he=>?_⟩
  ·rcases aeF fe h2 id with⟨b,h1,h3⟩ | ⟨_,h3⟩
   ·obtain⟨b',hb'⟩:=(LZ id).2 ⟨b,h1⟩;obtain⟨_,h4,_⟩:=own id b' hb';cases hx:h2 id<;>rw[hx]at h4<;>first | trivial | exact h4.elim
   rw[h3]at ht;exact ht
  rcases aeF fe h2 id with⟨b,h1,h3⟩ | ⟨_,h3⟩
  ·rw[h3]at he;obtain⟨gW,i,h4,_,h5⟩:=hb id b h1;obtain⟨_,_,h6⟩:=own id gW h4;rcases h5 with h5 | ⟨h5 | h5 | h5,_⟩
   ·rw[h5]at he;cases he
   ·rcases h5 with h5 | h5
    ·obtain⟨e',V6,nH,h7,h8,_⟩:=h5;rw[h8]at he;injection he with he;rw[h6,h7,he];rfl
    obtain⟨mk,V6,nH,h7,h8,_⟩:=h5;rw[h8]at he;cases he
   ·obtain⟨cs,ys,g,ty,c,h7,h8,_⟩:=h5;rw[h8]at he;cases he
   obtain⟨cs,ys,g,ty,c,h7,h8,_⟩:=h5;rw[h8]at he;cases he
  rw[h3]at he;exact he
 have fw:∀id,(app h2 fe id).live->(h2 id).live:=by
  intro id hl;rcases aeF fe h2 id with⟨b,h1,h3⟩ | ⟨_,h3⟩
  ·obtain⟨b',hb'⟩:=(LZ id).2 ⟨b,h1⟩;exact (own id b' hb').2.1
  rw[h3]at hl;exact hl
 have same:∀id g,L id->(h2 id).live->(∀p∈fe,p.1≠id)->hasB w (h2 id) (rho id) g->¬Mv w xs vs g:=fun id g hl li h1 hg hm=>by
  obtain⟨Ah,b',h4,h5⟩:=H.mv g |>.1 hm;obtain⟨h6,h7,h8⟩:=own Ah b' h4;have:=sim.dj id Ah g hl h6 li h7 hg (by show hasB w (h2 Ah) _ _;rw[h8];exact h5);subst this;obtain⟨b2,oE⟩:=(LZ id).1 ⟨b',h4⟩;exact h1 _ oE rfl
 have old:∀id g,L id->(h2 id).live->(∀p∈fe,p.1≠id)->hasB w' (h2 id) (rho id) g->hasB w (h2 id) (rho id) g:=fun id g hl li h1 hg=>
  dA (fun k hk=>hf.block k (sim.pM id k hl li hk).1 (same id k hl li h1 (.inl hk))) hg
 have back:∀id b,(id,b)∈fe->(app h2 fe id).live->app h2 fe id=b->∃i,Ar xs ids i id/\∀g,hasB w' b (rho id) g->¬S' g/\du w' xs fin vs.toList i g:=fun id b hm hl he=>by
  obtain⟨gW,i,_,we,h3⟩:=hb id b hm;rcases h3 with h3 | ⟨_,h3⟩
  ·rw[he,h3]at hl;exact hl.elim
  exact⟨i,we,h3⟩
 exact
 {tm:=fun j hj=>(sim.tm j hj).cK T
  sz:=sim.sz,df:=sim.df,nb:=sim.nb,pn:=sim.pn
  ev:=hC.env _ _ _ _ sim.ev hS ae1 hf.size
  s0:=fun b hb=>hS b (sim.s0 b hb)
  st:=xl
  sb:=fun b hb=>by
   rcases RN b hb with h | h | h
   ·exact sim.sb b h
   ·exact .inr (.inr (aaF sim.fr.size h))
   exact .inr (V5 b h).2
  hp:=fun id hl=>by
   show eK _ _ _ _ _ _ _ (app h2 fe id);rcases aeF fe h2 id with⟨b,h1,h3⟩ | ⟨h1,h3⟩
   ·rw[h3];obtain⟨gW,i,h4,_,h5⟩:=hb id b h1;rcases h5 with h5 | ⟨h5 | h5 | h5,_⟩
    ·rw[h5];trivial
    ·rcases h5 with h5 | h5
     ·obtain⟨e',V6,nH,h7,h8,h9⟩:=h5;rw[h8];exact h9
     obtain⟨mk,V6,nH,h7,h8,h9⟩:=h5;rw[h8];exact h9
    ·obtain⟨cs,ys,g,ty,c,h7,h8,h9,T8,kA,YV⟩:=h5;rw[h8];refine⟨g,ty,c,h9,T8,by simpa using kA,fun j x u hj hu=>?_⟩;rw[aak]at hj;obtain⟨z,hz,rfl⟩:=acq.1 hj;exact⟨(YV j z u hz hu).1,.p _ _ (YV j z u hz hu).2⟩
    obtain⟨cs,mZ,g,ty,c,h7,h8,h9,T8⟩:=h5;rw[h8];exact⟨g,ty,c,h9,T8⟩
   rw[h3];exact (sim.hp id hl).cK T (fun li g hg=>hf.block g (sim.lv id g hl li hg).1 (same id g hl li h1 hg)) (fun _=>rfl)
  dj:=fun i j g hi hj li lj eM jH=>by
   have one:∀i j,L i->L j->(app h2 fe i).live->(app h2 fe j).live->hasB w' (app h2 fe i) (rho i) g->hasB w' (app h2 fe j) (rho j) g->(∃b,(i,b)∈fe/\app h2 fe i=b)->((∀p∈fe,p.1≠j)/\app h2 fe j=h2 j)->False:=by
    rintro i j hi hj li lj eM jH ⟨b,m1,m2⟩ ⟨n1,n2⟩;rw[n2]at jH lj;have jH:=old j g hj lj n1 jH;obtain⟨k,_,l_⟩:=back i b m1 li m2;rw[m2]at eM;rcases (hok.1 k g (l_ g eM).2).2 with h | h
    ·have:=(sim.lv j g hj lj jH).1;exact absurd this (by omega)
    exact same j g hj lj n1 jH h
   rcases aeF fe h2 i with ci | ci
   ·rcases aeF fe h2 j with cj | cj
    ·obtain⟨b,m1,m2⟩:=ci;obtain⟨c,n1,n2⟩:=cj;obtain⟨k1,p1,q1⟩:=back i b m1 li m2;obtain⟨k2,p2,q2⟩:=back j c n1 lj n2;have eM:hasB w' (app h2 fe i) (rho i) g:=eM;have jH:hasB w' (app h2 fe j) (rho j) g:=jH;rw[m2]at eM;rw[n2]at jH;have:=hok.2 k1 k2 g (q1 g eM).2 (q2 g jH).2;subst this;exact p1.uniq p2
    exact (one i j hi hj li lj eM jH ci cj).elim
   rcases aeF fe h2 j with cj | cj
   ·exact (one j i hj hi lj li jH eM cj ci).elim
   have eM:hasB w' (app h2 fe i) (rho i) g:=eM;have jH:hasB w' (app h2 fe j) (rho j) g:=jH;have li:(app h2 fe i).live:=li;have lj:(app h2 fe j).live:=lj;rw[ci.2]at eM li;rw[cj.2]at jH lj;exact sim.dj i j g hi hj li lj (old i g hi li ci.1 eM) (old j g hj lj cj.1 jH)
  lv:=fun id g hl li hg=>by
   have hg:hasB w' (app h2 fe id) (rho id) g:=hg;have li:(app h2 fe id).live:=li;rcases aeF fe h2 id with⟨b,h1,h3⟩ | ⟨h1,h3⟩
   ·obtain⟨k,_,q⟩:=back id b h1 li h3;rw[h3]at hg;obtain⟨q1,q2⟩:=q g hg;obtain⟨r1,r2⟩:=hok.1 k g q2;refine⟨r1,q1,?_⟩;rcases r2 with h | h
    ·exact .inr (aaF sim.fr.size h)
    exact (V5 g h).2
   rw[h3]at hg li;have hg:=old id g hl li h1 hg;obtain⟨h4,h5,h6⟩:=sim.lv id g hl li hg;refine⟨aaW h4 hf.size,fun hs=>?_,h6⟩;rcases RN g hs with h | h | h
   ·exact h5 h
   ·omega
   exact same id g hl li h1 hg h
  fr:=sim.fr.next hf.os hf.tape hf.output hf.size fun k hk hn=>hf.block k (aaW hk sim.fr.size) fun hm=>by
   rcases (V5 k hm).2 with h | h
   ·exact hn h
   omega }
variable {Q:Exit->Act->World->Prop}
theorem tA{P:Program}{o:Oper}{a:Act}{f:FuncId}{vs:Array Value}{next:Act->World->Prop}{R:Ending->World->Prop}(h:(execOp a.eval o).run P w=.ok (.enter f vs) w)(hc:Calls P f vs w R)
  (hn:∀e w',R e w'->∃v,e=.returned v/\next (a.put o.dst v) w'):o.wp P a w next Q:=by
 unfold Oper.wp;rw[h];refine hc.mono fun e w' hr=>?_;obtain⟨v,rfl,h2⟩:=hn e w' hr;exact h2
theorem Gn(hC:bI A.C){o:Oper}{S:Nat->Prop}{a:Act}{K:KK}{next:Act->World->Prop}(sim:b7 A V L S rho s a w)(hd:∀d,o.dst=some d->d<A.n)
  (hn:∀v eff b,K v eff (some b)->¬L (o.dst.getD 0)/\s.h (o.dst.getD 0)=b)
  (hnext:∀v eff new S' rho' a' w',K v eff new->b7 A (xY V o.dst) (Cg L new (o.dst.getD 0)) S' rho' ⟨fx s.t o.dst v,app s.h eff⟩ a' w'->next a' w')
  (f:FuncId) (iQ:List AV) (vs:Array Value) (hl:iQ.length=vs.size)
  (hrep:∀(S2:Nat->Prop) (h2:Nat->AB),b7 A V L S2 rho ⟨s.t,h2⟩ a w->∀(i:Nat) x v,iQ[i]?=some x->vs.toList[i]?=some v->aY S2 w A.C.P L rho h2 x v)
  (hrun : (∃ fn : Func, A.C.P.funcs[f]? = some fn ∧ (fn.name == "runtime.NumGoroutine") = false ∧ fn.body.isNone = false) → (execOp a.eval o).run A.C.P w = .ok (.enter f vs) w) (hq : oI A.C s.h (o.dst.getD 0) f iQ K) : o.wp A.C.P a w next Q := by
 unfold oI at hq;obtain⟨xs,ids,fz,S2,⟨r,fin,nZ,hq⟩,bu,xC,hF,DI,hlen,H,hpv⟩:=JL hC iQ vs.toList 0 s.h S _ (by simpa using hl) sim (pY.refl _) hrep (fun _ h=>h) hq;split at hq
 ·rename_i fe qh;split at hq
  ·rename_i hok;obtain⟨kC,Oo⟩:=Gl hok;have hh:∀id b,(id,b)∈ids->(app s.h fz) id=s.h id:=fun id b hm=>l9 (kC (id,b) hm);have own:∀id b,(id,b)∈ids->L id/\(app s.h fz id).live/\app s.h fz id=b:=fun id b hm=>by
    obtain⟨h1,h3,h4,_⟩:=H.back id b hm;have:=hh id b hm;exact⟨h1,by rw[this,h3];exact h4,by rw[this,h3]⟩
   have key:=nZ.2 S2 w vs bu.ev bu.st (by simpa using hlen) (fun j x v hj hv=>by
     have F9:vs.toList[j]?=some v:=by simpa using hv
     cases hx:x.handed with
     | false=>
      cases x with
      | pv y=>exact hpv j y v hj F9
      | row=>cases hx
      | map=>cases hx
      | box=>cases hx
      | aN=>cases hx
     | true=>
      obtain⟨id,b,h1,h2,h3,h4,h5⟩:=H.at j x v hj F9 hx;obtain⟨h6,h7,h8⟩:=own id b h1;have hp:=bu.hp id h6;have hp:eK S2 w A.C.P L rho (app s.h fz) id (app s.h fz id):=hp;rw[h8]at hp;rcases h5 with (⟨e,es,rfl,rfl⟩ | ⟨mk,es,rfl,rfl⟩) | ⟨cs,ys,rfl,rfl,hy⟩ | ⟨cs,rfl,rfl⟩
      ·rw[h4];exact⟨hp,fun g hg=>(bu.pM id g h6 h7 hg).2.1⟩
      ·rw[h4];exact⟨hp,fun g hg=>(bu.pM id g h6 h7 hg).2.1⟩
      ·obtain⟨g,ty,c,k1,k2,k3,k4⟩:=hp;obtain⟨k5,k6⟩:=gV hy;rw[h4];refine⟨g,ty,c,k1,k2,by rw[k3,k5],(bu.pM id g h6 h7 (by rw[k1];rfl)).2.1,fun i x u hi hu=>?_⟩;obtain⟨y,hy⟩:∃y,cs[i]?=some y:=⟨_,acg (by rw[k5];exact aD hi)⟩;obtain⟨k7,k8⟩:=k4 i y u hy hu;exact⟨k7,k8.xz (k6 i y x hy hi)⟩
      obtain⟨g,ty,c,k1,k2⟩:=hp;rw[h4];exact⟨g,ty,c,k1,k2,fun k hk=>by obtain⟨q1,q2,_⟩:=bu.lv id k h6 h7 (by show hasB w (app s.h fz id) _ _;rw[h8];exact hk);exact⟨q2,q1⟩⟩)
    (fun i j x y v u g hi hj hv hu hx hy hg nS=>by
     by_cases DX:i=j
     ·exact DX
     obtain⟨Gk,sB,b1,b2,k1,k2,k3,k4,k5,f1,f2⟩:=H.inj Oo i j x y v u hi hj (by simpa using hv) (by simpa using hu) hx hy DX;obtain⟨l1,v1,o1⟩:=own Gk b1 k2;obtain⟨l2,v2,o2⟩:=own sB b2 k3;exact absurd (bu.dj Gk sB g l1 l2 v1 v2 (by show hasB w (app s.h fz Gk) _ _;rw[<-k4,o1];exact (tz f1).1 hg) (by show hasB w (app s.h fz sB) _ _;rw[<-k5,o2];exact (tz f2).1 nS)) k1)
   refine tA (hrun nZ.1) key fun e w' tB=>?_;obtain⟨v,S',rfl,hf,W3,xl,RN,hr,fO,OU,hown⟩:=tB;refine⟨v,rfl,?_⟩;split at hq
   ·rename_i nh;simp only[aaZ]at nh;have W4:ids=[]:=by cases ids with | nil=>rfl | cons p ids=>cases nh.2
    subst W4;have W5:Fr (fun _=>False) w w':=⟨hf.os,hf.tape,hf.output,hf.size,fun k hk _=>hf.block k hk fun hm=>by
     obtain⟨id,b,h1,_⟩:=(H.mv k).1 hm;cases h1⟩
    have aeI:=sim.grow hC w' W5;refine hnext _ _ _ S rho _ _ hq (aeI.value o.dst hd _ _ ?_);cases r with
    | p x=>exact .p _ _ (nY nh.1 hr)
    | own e es=>cases nh.1
    | hown cs=>cases nh.1
    | tu ys=>
     obtain⟨us,rfl,h1,h2⟩:=hr;refine .tu _ us (by simpa using h1) fun i c u hi hu=>?_;rw[aak]at hi;obtain⟨z,hz,rfl⟩:=acq.1 hi;exact .p _ _ (nY (abh.1 nh.1 z (aad hz)) (h2 i z u hz hu))
   have aeI:=b7.handed hC bu H hh hf W3 xl RN fO OU qh;have aeI:b7 A V L S' rho ⟨s.t,app s.h (fz++fe)⟩ a w':=by rw[cy];exact aeI
   cases r with
   | p x=>exact hnext _ _ _ S' rho _ _ hq (aeI.value o.dst hd _ _ (.p _ _ hr))
   | tu ys=>
    refine hnext _ _ _ S' rho _ _ hq (aeI.value o.dst hd _ _ ?_);obtain⟨us,rfl,h1,h2⟩:=hr;refine .tu _ us (by simpa using h1) fun i c u hi hu=>?_;rw[aak]at hi;obtain⟨z,hz,rfl⟩:=acq.1 hi;exact .p _ _ (h2 i z u hz hu)
   | own e es=>
    obtain⟨hL,hb⟩:=hn _ _ _ hq;have RL:app s.h (fz++fe) (o.dst.getD 0)=.row e es:=by
     rw[iA (fun p hp (e:p.1=_)=>?_),hb];rcases abi.1 hp with h | h
     ·exact hL (by rw[<-e];exact DI p h)
     obtain⟨hk,_⟩:=me H fin fe fO qh;have:p.1∈ids.map (·.1):=by rw[<-hk];exact adS.2 ⟨p,h,rfl⟩
     obtain⟨q,hq',W6⟩:=adS.1 this;obtain⟨W7,_⟩:=own q.1 q.2 hq';exact hL (by rw[<-e,<-W6];exact W7)
    have As:=aeI.qd hC (o.dst.getD 0) (AB.row e es) (aeI.pP hd) hL RL w' rfl rfl rfl (aam _) (fun k=>hasB w' (AB.row e es) v k) (fun _ _ _=>rfl) (fun k hk=>by
      have Im:=aI rfl hk;obtain⟨h1,h2,h3⟩:=hown k rfl (.inl Im);refine⟨hr.2 k Im,fun i hi li eM=>?_,?_⟩
      ·have nT:(app s.h (fz++fe) i).live:=li;rw[cy]at nT;have eM:hasB w' (app s.h (fz++fe) i) (rho i) k:=eM;rw[cy]at eM;rcases aeF fe (app s.h fz) i with⟨b,m1,m2⟩ | ⟨m1,m2⟩
       ·obtain⟨l_,oE⟩:=me H fin fe fO qh;obtain⟨gW,n,m3,_,m4⟩:=oE i b m1;rcases m4 with m4 | ⟨_,m4⟩
        ·rw[m2,m4]at nT;exact nT
        rw[m2]at eM;exact h3 n (m4 k eM).2
       rw[m2]at nT eM;have T9:∀g,hasB w (app s.h fz i) (rho i) g->¬Mv w xs vs g:=fun g hg hm=>by
        obtain⟨Ah,b',m3,m4⟩:=(H.mv g).1 hm;obtain⟨m5,m6,m7⟩:=own Ah b' m3;have:=bu.dj i Ah g hi m5 nT m6 hg (by show hasB w (app s.h fz Ah) _ _;rw[m7];exact m4);subst this;obtain⟨l_,_⟩:=me H fin fe fO qh;have:i∈fe.map (·.1):=by rw[l_];exact adS.2 ⟨_,m3,rfl⟩
        obtain⟨p,hp,W8⟩:=adS.1 this;exact m1 p hp W8
       have eM:=dA (fun g hg=>hf.block g (bu.pM i g hi nT hg).1 (T9 g (.inl hg))) eM;obtain⟨q1,q2,q3⟩:=bu.lv i k hi nT eM;rcases h2 with h2 | h2
       ·omega
       exact T9 k eM h2
      ·rcases h2 with h2 | h2
       ·exact .inr (aaF bu.fr.size h2)
       obtain⟨Ah,b',m3,m4⟩:=(H.mv k).1 h2;obtain⟨m5,m6,m7⟩:=own Ah b' m3;exact (bu.lv Ah k m5 m6 (by show hasB w (app s.h fz Ah) _ _;rw[m7];exact m4)).2.2) v (fun g hg=>⟨(hown g rfl (.inl (aI rfl hg))).1,.inr hg⟩) (fun T=>by
      show aG _ _ _ e es (aT rho (o.dst.getD 0) v (o.dst.getD 0));rw[aH];exact hr.1)
    exact hnext _ _ _ S' _ _ _ hq (As.value o.dst hd _ _ (.ow _ _ fun _=>⟨.inr rfl,(aH _ _ _).symm⟩))
   | hown cs=>
    obtain⟨hL,hb⟩:=hn _ _ _ hq;obtain⟨g0,kN,c0,Qy,RO,iO⟩:=hr;have RL:app s.h (fz++fe) (o.dst.getD 0)=.aN cs:=by
     rw[iA (fun p hp (e:p.1=_)=>?_),hb];rcases abi.1 hp with h | h
     ·exact hL (by rw[<-e];exact DI p h)
     obtain⟨hk,_⟩:=me H fin fe fO qh;have:p.1∈ids.map (·.1):=by rw[<-hk];exact adS.2 ⟨p,h,rfl⟩
     obtain⟨q,hq',W6⟩:=adS.1 this;obtain⟨W7,_⟩:=own q.1 q.2 hq';exact hL (by rw[<-e,<-W6];exact W7)
    have As:=aeI.qd hC (o.dst.getD 0) (AB.aN cs) (aeI.pP hd) hL RL w' rfl rfl rfl (aam _) (fun k=>hasB w' (AB.aN cs) v k) (fun _ _ _=>rfl) (fun k hk=>by
      obtain⟨h1,h2,h3⟩:=hown k rfl hk;refine⟨iO k hk,fun i hi li eM=>?_,?_⟩
      ·have nT:(app s.h (fz++fe) i).live:=li;rw[cy]at nT;have eM:hasB w' (app s.h (fz++fe) i) (rho i) k:=eM;rw[cy]at eM;rcases aeF fe (app s.h fz) i with⟨b,m1,m2⟩ | ⟨m1,m2⟩
       ·obtain⟨l_,oE⟩:=me H fin fe fO qh;obtain⟨gW,n,m3,_,m4⟩:=oE i b m1;rcases m4 with m4 | ⟨_,m4⟩
        ·rw[m2,m4]at nT;exact nT
        rw[m2]at eM;exact h3 n (m4 k eM).2
       rw[m2]at nT eM;have T9:∀g,hasB w (app s.h fz i) (rho i) g->¬Mv w xs vs g:=fun g hg hm=>by
        obtain⟨Ah,b',m3,m4⟩:=(H.mv g).1 hm;obtain⟨m5,m6,m7⟩:=own Ah b' m3;have:=bu.dj i Ah g hi m5 nT m6 hg (by show hasB w (app s.h fz Ah) _ _;rw[m7];exact m4);subst this;obtain⟨l_,_⟩:=me H fin fe fO qh;have:i∈fe.map (·.1):=by rw[l_];exact adS.2 ⟨_,m3,rfl⟩
        obtain⟨p,hp,W8⟩:=adS.1 this;exact m1 p hp W8
       have eM:=dA (fun g hg=>hf.block g (bu.pM i g hi nT hg).1 (T9 g (.inl hg))) eM;obtain⟨q1,q2,q3⟩:=bu.lv i k hi nT eM;rcases h2 with h2 | h2
       ·omega
       exact T9 k eM h2
      ·rcases h2 with h2 | h2
       ·exact .inr (aaF bu.fr.size h2)
       obtain⟨Ah,b',m3,m4⟩:=(H.mv k).1 h2;obtain⟨m5,m6,m7⟩:=own Ah b' m3;exact (bu.lv Ah k m5 m6 (by show hasB w (app s.h fz Ah) _ _;rw[m7];exact m4)).2.2) v (fun g hg=>⟨(hown g rfl hg).1,.inr hg⟩) (fun T=>by
      exact⟨g0,kN,c0,by rw[aH];exact Qy,RO⟩)
    exact hnext _ _ _ S' _ _ _ hq (As.value o.dst hd _ _ (.bx _ _ _ fun _=>⟨.inr rfl,g0,by rw[aH];exact Qy,Qy⟩))
  exact hq.elim
 exact hq.elim
theorem nU.rep(hC:bI A.C){S:Nat->Prop}{a:Act}(sim:b7 A V L S rho s a w){x:AV}{y:PV}{v:Value}(hv:nU s.h x y)(hx:aY S w A.C.P L rho s.h x v):
  aO (fun b=>S b\/∃id,L id/\(s.h id).live/\hasB w (s.h id) (rho id) b) w y v:=by
 have hS:∀b,S b->S b\/∃id,L id/\(s.h id).live/\hasB w (s.h id) (rho id) b:=fun b h=>.inl h;cases hv with
 | p=>exact hx.eR.mono hS (fun _ _=>rfl)
 | nl=>cases hx;exact .nil _ _
 | row id e es hr=>
  obtain⟨hL,rfl⟩:=hx.cH (by rw[hr];trivial);have hh:=sim.hp id hL;rw[hr]at hh;exact aG.DT hh hS fun g hg=>.inr ⟨id,hL,by rw[hr];trivial,.inl hg⟩
 | jA id es hr=>
  obtain⟨hL,rfl⟩:=hx.cH (by rw[hr];trivial);have hh:=sim.hp id hL;rw[hr]at hh;exact aO.mono hh hS (fun _ _=>rfl)
 | az id e es ps hr hp=>
  obtain⟨hL,rfl⟩:=hx.cH (by rw[hr];trivial);have hh:=sim.hp id hL;rw[hr]at hh;obtain⟨hR,_⟩:=hh;have bY:(s.h id).live:=by rw[hr];trivial
  have Tt:aG A.C.P w (aO (fun b=>S b\/∃id,L id/\(s.h id).live/\hasB w (s.h id) (rho id) b) w) e ps (rho id):=by
   have kV:=hR;obtain⟨i,ws,h1,h2,h3,h4,h5,h6⟩:=kV;have old:∀{a:Nat} {q:List PV},ps[a]?=some q->∃r,es[a]?=some r:=fun {a q} ha=>⟨_,acg (by rw[<-hp.len];exact aD ha)⟩;refine⟨i,ws,h1,h2,by rw[hp.len];exact h3,fun q hq=>?_,h5,fun k q j y ha hj=>?_⟩
   ·obtain⟨k,hk⟩:=ab8.1 hq;obtain⟨r,hr⟩:=old hk;rw[(hp.row k r q hr hk).1];exact h4 r (aad hr)
   obtain⟨r,Tv⟩:=old ha;obtain⟨hlen,hcell⟩:=hp.row k r q Tv ha;obtain⟨x,hx⟩:∃x,r[j]?=some x:=⟨_,acg (by rw[<-hlen];exact aD hj)⟩;obtain⟨u,hu,An⟩:=h6 k r j x Tv hx;refine⟨u,hu,?_⟩;have:=hcell j x y hx hj;cases this with
   | p x=>exact (aY.eR An).mono hS (fun _ _=>rfl)
   | nl=>
    have An:aY S w A.C.P L rho s.h .nl u:=An;cases An;exact .nil _ _
   | row e' xs=>
    have An:aG A.C.P w (aO S w) e' xs u:=An;refine aG.DT An hS fun b hb=>.inr ⟨id,hL,bY,?_⟩;obtain⟨g,u2,g1,g2,_⟩:=hR.DO Tv hx;have:u2=u:=by
     obtain⟨_,_,_,_,_,q3⟩:=(q9 h3 h4 g1).1 g2;rw[hu]at q3;injection q3 with q3;exact q3.symm
    subst this;rw[hr];exact .inr (.inr ⟨_,_,_,_,_,_,rfl,g1,g2,hb⟩)
  exact aG.DT Tt (fun _ h=>h) fun g hg=>.inr ⟨id,hL,bY,.inl hg⟩
theorem oJ.at{h:Nat->AB}{as:List AV}{xs:List PV}(hv:oJ h as xs):as.length=xs.length/\∀(i:Nat) a x,as[i]?=some a->xs[i]?=some x->nU h a x:=by
 induction hv with
 | nil=>exact⟨rfl,fun i a x h=>by simp at h⟩
 | cons h1 h2 ih=>
  refine⟨by simp[ih.1],fun i a x ha hx=>?_⟩;cases i with
  | zero=>simp at ha hx;subst ha hx;exact h1
  | succ i=>exact ih.2 i a x (by simpa using ha) (by simpa using hx)
theorem View.rep(hC:bI A.C){S:Nat->Prop}{a:Act}(sim:b7 A V L S rho s a w){x:AV}{y:PV}{v:Value}(hv:View s.h x y)(hx:aY S w A.C.P L rho s.h x v):
  aO (fun b=>S b\/∃id,L id/\(s.h id).live/\hasB w (s.h id) (rho id) b) w y v:=by
 have hS:∀b,S b->S b\/∃id,L id/\(s.h id).live/\hasB w (s.h id) (rho id) b:=fun b h=>.inl h;cases hv with
 | one h1=>exact h1.rep hC sim hx
 | box id off cs xs hb s9=>
  obtain⟨hL,g,hg,hv⟩:=hx.h_ (by rw[hb];trivial);have hh:=sim.hp id hL;rw[hb]at hh;obtain⟨g',ty,c,k1,k2,k3,k4⟩:=hh;rw[hg]at k1;injection k1 with k1;injection k1 with k1;injection k1 with k1;subst k1;obtain⟨hl,Jv⟩:=s9.at;have hU:∀(i:Nat) x,xs[i]?=some x->∃u,c[i]?=some u/\u.oneCell'=true/\aO (fun b=>S b\/∃id,L id/\(s.h id).live/\hasB w (s.h id) (rho id) b) w x u:=by
   intro i x hi;obtain⟨y,hy⟩:∃y,cs[i]?=some y:=⟨_,acg (by rw[hl];exact aD hi)⟩;obtain⟨u,hu⟩:=jG k3.symm (aD hy);obtain⟨h5,h6⟩:=k4 _ _ _ hy hu;exact⟨u,hu,h5,(Jv i y x hy hi).rep hC sim h6⟩
  have:aO (fun b=>S b\/∃id,L id/\(s.h id).live/\hasB w (s.h id) (rho id) b) w (.ip xs) (.pointer (some ⟨g,0,none⟩)):=by
   refine .ip xs g 0 (fun i=>(c[i]?).getD undef) (.inr ⟨id,hL,by rw[hb];trivial,.inl (by rw[hg];rfl)⟩) (fun i x hi=>?_) fun i x hi=>?_
   ·obtain⟨u,h5,h6,h7⟩:=hU i x hi;rw[abC,cell_of_row w g i c ty (0,0) k2,h5];exact⟨rfl,h6⟩
   obtain⟨u,h5,h6,h7⟩:=hU i x hi;rw[h5];exact h7
  rw[hv];exact this.tw rfl
 | jd id off xs hb=>
  obtain⟨hL,g,hg,hv⟩:=hx.h_ (by rw[hb];trivial);have hh:=sim.hp id hL;rw[hb]at hh;have Rs:aO _ w (.ip xs) (rho id):=hh;rw[hv];exact (Rs.tw hg).mono hS (fun _ _=>rfl)
theorem tb.at{h:Nat->AB}{as:List AV}{xs:List PV}(hv:tb h as xs):as.length=xs.length/\∀(i:Nat) a x,as[i]?=some a->xs[i]?=some x->View h a x:=by
 induction hv with
 | nil=>exact⟨rfl,fun i a x h=>by simp at h⟩
 | cons h1 h2 ih=>
  refine⟨by simp[ih.1],fun i a x ha hx=>?_⟩;cases i with
  | zero=>simp at ha hx;subst ha hx;exact h1
  | succ i=>exact ih.2 i a x (by simpa using ha) (by simpa using hx)
theorem DY{h:Nat->AB}{c:AV}(hc:u7 h c=true):(∃es,c=.p (.sl es))\/(∃a m n,c=.p (.im (.slice a m n)))\/(∃i e es,c=.ow i/\h i=.row e es)\/c=.nl:=by
 unfold u7 at hc;split at hc
 ·exact .inl ⟨_,rfl⟩
 ·exact .inr (.inl ⟨_,_,_,rfl⟩)
 ·split at hc
  ·rename_i hr;exact .inr (.inr (.inl ⟨_,_,_,rfl,hr⟩))
  cases hc
 ·exact .inr (.inr (.inr rfl))
 cases hc
def L0(a:AV)(u:Value):PV:=match a with
 | .p x=>x
 | _=>.im u
theorem yg{S:Nat->Prop}{g:Nat}{c:Array Value}{ty:TypeId}(hg:w.heap[g]?=some (.cells c ty (0,0)))(hc:∀(j:Nat) u,c[j]?=some u->∀k n,u≠.int k n)(hS:∀b,S b->S' b\/b=g){x:PV}{v:Value}(hi:Rj x)(h:aO S w x v):aO S' w x v:=by
 cases h with
 | im=>exact .im _
 | nil a c=>exact .nil a c
 | ag cs vs hl h1 h=>exact hi.elim
 | ip cs b off U hS hcell h=>exact hi.elim
 | fn f cap vs hl h=>exact hi.elim
 | sl es k b off cp U lA hb hk hcell h=>
  have elem:∀(i:Nat) e (j:Nat) x,es[i]?=some e->e[j]?=some x->∃kk n,x=.im (.int kk n):=fun i e j x h1 h2=>by
   obtain⟨kk,n,he⟩:=hi e (aad h1);subst he;cases j with
   | zero=>simp at h2;exact⟨kk,n,h2.symm⟩
   | succ j=>simp at h2
  cases es with
  | nil=>exact .nil _ _
  | cons e es=>
   rcases hS b hb with hb | hb
   ·refine .sl _ k b off cp U lA hb hk hcell fun i e j x h1 h2=>?_;obtain⟨kk,n,hx⟩:=elem i e j x h1 h2;have h3:=h i e j x h1 h2;subst hx;generalize U i j=u at h3 ⊢;cases h3;exact .im _
   subst hb;obtain⟨kk,n,he⟩:=hi e adU;subst he;have h1:=(hcell 0 _ 0 _ rfl rfl).1;have h2:=h 0 _ 0 _ rfl rfl;generalize U 0 0=u0 at h1 h2;cases h2;rw[cell_of_row w b _ c ty (0,0) hg]at h1;exact absurd rfl (hc _ _ h1 kk n)
theorem L1{S:Nat->Prop}{g:Nat}{c:Array Value}{ty:TypeId}(hg:w.heap[g]?=some (.cells c ty (0,0)))(hc:∀(j:Nat) u,c[j]?=some u->∀k n,u≠.int k n)(hS:∀b,S b->S' b\/b=g){x:PV}{v:Value}(hi:Rk x)(h:aO S w x v):aO S' w x v:=by
 cases x with
 | ag cs=>
  cases h with
  | ag cs vs hl h1 h=>exact .ag cs vs hl h1 fun i a u ha hu=>yg hg hc hS (hi a (aad ha)) (h i a u ha hu)
 | im x=>exact yg hg hc hS hi h
 | sl es=>exact yg hg hc hS hi h
 | ip cs=>exact hi.elim
 | fn f cap=>exact hi.elim
theorem L2{S:Nat->Prop}{P:Program}{e:TypeId}{es:List (List PV)}{v:Value}(h:aG P w (aO S w) e es v)(hS:∀b,S b->S' b):aG P w (aO S' w) e es v:=by
 obtain⟨i,xs,h1,h2,h3,h4,h5,h6⟩:=h;exact⟨i,xs,h1,h2,h3,h4,h5,fun a r j x ha hj=>by obtain⟨u,hu,hr⟩:=h6 a r j x ha hj;exact⟨u,hu,hr.mono hS fun _ _=>rfl⟩⟩
theorem L3{S:Nat->Prop}{P:Program}{e:TypeId}{es:List (List PV)}{v:Value}(h:aG P w (aO S w) e es v)(hf:∀r∈es,∀z∈r,AY z=true):aG P w (aO S' w) e es v:=by
 obtain⟨i,xs,h1,h2,h3,h4,h5,h6⟩:=h;exact⟨i,xs,h1,h2,h3,h4,h5,fun a r j x ha hj=>by obtain⟨u,hu,hr⟩:=h6 a r j x ha hj;exact⟨u,hu,nY (hf r (aad ha) x (aad hj)) hr⟩⟩
theorem JM(hC:bI A.C){o:Oper}{S:Nat->Prop}{a:Act}{K:KK}{next:Act->World->Prop}(sim:b7 A V L S rho s a w)(hd:∀d,o.dst=some d->d<A.n)
  (hnext:∀v eff new S' rho' a' w',K v eff new->b7 A (xY V o.dst) (Cg L new (o.dst.getD 0)) S' rho' ⟨fx s.t o.dst v,app s.h eff⟩ a' w'->next a' w')
  (f:FuncId) (iQ:List AV) (vs:Array Value) (hl:iQ.length=vs.size)
  (hrep:∀(S2:Nat->Prop) (h2:Nat->AB),b7 A V L S2 rho ⟨s.t,h2⟩ a w->∀(i:Nat) x v,iQ[i]?=some x->vs.toList[i]?=some v->aY S2 w A.C.P L rho h2 x v)
  (hrun : (∃ fn : Func, A.C.P.funcs[f]? = some fn ∧ (fn.name == "runtime.NumGoroutine") = false ∧ fn.body.isNone = false) → (execOp a.eval o).run A.C.P w = .ok (.enter f vs) w) (hq : xV A.C s.h f iQ K) : o.wp A.C.P a w next Q := by
 unfold xV at hq;split at hq
 ·rename_i id y gU;split at hq
  ·rename_i cs e es hb hr;obtain⟨x,de,nZ,W9,hint,YW,hk⟩:=hq;obtain⟨v0,v1,v2,rfl⟩:∃v0 v1 v2,vs=#[v0,v1,v2]:=by
    obtain⟨l⟩:=vs
    match l,hl with
    | [v0,v1,v2],_=>exact⟨v0,v1,v2,rfl⟩
   have r0:=hrep S s.h sim 0 _ v0 rfl rfl;have r1:=(hrep S s.h sim 1 _ v1 rfl rfl).eR;obtain⟨OV,rfl⟩:=(hrep S s.h sim 2 _ v2 rfl rfl).cH (by rw[hr];trivial);obtain⟨hL,g,hg,rfl⟩:=r0.h_ (by rw[hb];trivial);have hh:=sim.hp id hL;rw[hb]at hh;obtain⟨g',ty,c,k1,k2,k3,k4⟩:=hh;rw[hg]at k1;injection k1 with k1;injection k1 with k1;injection k1 with k1;subst k1;have az:=sim.hp gU OV;rw[hr]at az;have az:aG A.C.P w (aO S w) e es (rho gU):=az;have b8:id≠gU:=fun e=>by rw[e,hr]at hb;cases hb
   have YX:(s.h id).live:=by rw[hb];trivial
   have RP:(s.h gU).live:=by rw[hr];trivial
   have Oq:∀b,cC (rho gU)=some b->b≠g:=fun b hb' e=>b8 (sim.TJ id gU g hL OV YX RP (by rw[hg];rfl) (by rw[<-e];exact hb'));obtain⟨tv,hgS,_⟩:=sim.pM id g hL YX (by rw[hg];rfl);have T_:∀(j:Nat) u,c[j]?=some u->∀k n,u≠.int k n:=fun j u hu k n hn=>by
    obtain⟨av,Ua⟩:∃av,cs[j]?=some av:=⟨_,acg (by rw[<-k3];exact (ab9.1 hu).1)⟩;have h1:=W9 av (aad Ua);have h2:=(k4 j av u Ua hu).2;subst hn;rcases DY h1 with⟨zs,rfl⟩ | ⟨_,_,_,rfl⟩ | ⟨i,e2,nH,rfl,iO⟩ | rfl
    ·have:=h2.eR;cases this
    ·have:=h2.eR;cases this
    ·obtain⟨V7,h3⟩:=h2.cH (by rw[iO];trivial);have h4:=sim.hp i V7;rw[iO]at h4;obtain⟨_,_,_,_,h5,_⟩:=h4;obtain⟨_,_,h6⟩:=cr h5;rw[<-h3]at h6;cases h6
    cases h2
   have Gp:∀(j:Nat) z,(List.zipWith L0 cs c.toList)[j]?=some z->∃u,c[j]?=some u/\u.oneCell'=true/\aO S w z u:=fun j z hz=>by
    rw[List.getElem?_zipWith]at hz;cases h1:cs[j]? with
    | none=>rw[h1]at hz;cases hz
    | some av=>
     cases h2:c.toList[j]? with
     | none=>rw[h1,h2]at hz;cases hz
     | some u=>
      rw[h1,h2]at hz;simp only[Option.some.injEq]at hz;have hu:c[j]?=some u:=by rw[<-aek];exact h2
      obtain⟨q1,q2⟩:=k4 j av u h1 hu;refine⟨u,hu,q1,?_⟩;rw[<-hz];unfold L0;split
      ·exact q2.eR
      exact .im _
   have W_:Lq cs (List.zipWith L0 cs c.toList):=⟨by simp[List.length_zipWith,k3],fun j z hz=>by
    obtain⟨u,hu⟩:∃u,c.toList[j]?=some u:=⟨_,acg (by have:=aD hz;simp[k3];exact this)⟩;rw[List.getElem?_zipWith,hz,hu];rfl⟩
   obtain⟨S1,Ub⟩:∃S1:Nat->Prop,S1=fun b=>S b\/b=g:=⟨_,rfl⟩;have xC:∀b,S b->S1 b:=fun b h=>by rw[Ub];exact .inl h
   have nZ:=nZ _ W_;have key:=nZ.2 S1 w #[.pointer (some ⟨g,0,none⟩),v1,rho gU] (hC.env _ _ _ _ sim.ev xC (fun _ _=>rfl) (aam _)) (fun b h=>by
     rw[Ub]at h;rcases h with h | h
     ·exact sim.st b h
     ·rw[h];exact tv) rfl (fun j z v hj hv=>by
     match j with
     | 0=>
      simp only[aa9,Option.some.injEq]at hj;have hv:Value.pointer (some ⟨g,0,none⟩)=v:=by simpa using hv
      subst hj;subst hv;refine .ip _ g 0 (fun i=>(c[i]?).getD undef) (by rw[Ub];exact .inr rfl) (fun i z hi=>?_) fun i z hi=>?_
      ·obtain⟨u,h5,h6,h7⟩:=Gp i z hi;rw[abC,cell_of_row w g i c ty (0,0) k2,h5];exact⟨rfl,h6⟩
      obtain⟨u,h5,h6,h7⟩:=Gp i z hi;rw[h5];exact h7.mono xC fun _ _=>rfl
     | 1=>
      simp only[abc,aa9,Option.some.injEq]at hj;have hv:v1=v:=by simpa using hv
      subst hj;subst hv;exact r1.mono xC fun _ _=>rfl
     | 2=>
      simp only[abc,aa9,Option.some.injEq]at hj;have hv:rho gU=v:=by simpa using hv
      subst hj;subst hv;refine⟨L2 az xC,fun b hb' h=>?_⟩;rw[Ub]at h;rcases h with h | h
      ·exact (sim.pM gU b OV RP hb').2.1 h
      exact Oq b hb' h
     | j+3=>simp at hj) (fun i j z z' v u b hi hj hv hu hx hy _ _=>by
     match i,j with
     | 2,2=>rfl
     | 0,_=>simp at hi;subst hi;cases hx
     | 1,_=>simp at hi;subst hi;cases hx
     | i+3,_=>simp at hi
     | _,0=>simp at hj;subst hj;cases hy
     | _,1=>simp at hj;subst hj;cases hy
     | _,j+3=>simp at hj)
   have H:fL L rho s.h [.pv (.ip (List.zipWith L0 cs c.toList)),.pv y,.row e es] [.pointer (some ⟨g,0,none⟩),v1,rho gU] [(gU,.row e es)]:=.pv _ _ (.pv _ _ (.row gU e es OV hr .nil));refine tA (hrun nZ.1) key fun e' w' tB=>?_;obtain⟨v,S',rfl,hf,W3,xl,RN,m_,fO,OU,hown⟩:=tB;refine⟨v,rfl,?_⟩;have YY:∀b,Mv w [.pv (.ip (List.zipWith L0 cs c.toList)),.pv y,.row e es] #[.pointer (some ⟨g,0,none⟩),v1,rho gU] b->cC (rho gU)=some b:=fun b hm=>by
    obtain⟨Ah,b',h1,h2⟩:=(H.mv b).1 hm;simp only[ab_,Prod.mk.injEq]at h1;obtain⟨rfl,rfl⟩:=h1;exact aI rfl h2
   have nS:w'.heap[g]?=some (.cells c ty (0,0)):=by
    rw[hf.block g tv fun hm=>Oq g (YY g hm) rfl];exact k2
   have Iq:oH S' w' A.C.P (.row e es) (.row de) (rho gU):=fO.1;obtain⟨S2,Uc⟩:∃S2:Nat->Prop,S2=fun b=>S b\/(S' b/\w.heap.size<=b):=⟨_,rfl⟩;have Ud:∀b,S b->S2 b:=fun b h=>by rw[Uc];exact .inl h
   have hx:aO S2 w' x v:=L1 nS T_ (fun b h=>by
    rcases RN b h with h1 | h1 | h1
    ·rw[Ub]at h1;rcases h1 with h1 | h1
     ·exact .inl (Ud b h1)
     exact .inr h1
    ·rw[Uc];exact .inl (.inr ⟨h,h1⟩)
    exact absurd h (Iq.2 b (YY b h1))) hint m_
   have aeI:=b7.handed (S':=S2) hC sim H (fun _ _ _=>rfl) hf Ud (fun b h=>by
    rw[Uc]at h;rcases h with h | h
    ·exact aaW (sim.st b h) hf.size
    ·exact xl b h.1) (fun b h=>by
    rw[Uc]at h;rcases h with h | h
    ·exact .inl h
    ·exact .inr (.inl h.2)) (fin:=[.row de]) (show oH S2 w' A.C.P (.row e es) (.row de) (rho gU)/\True from ⟨⟨L3 Iq.1 YW,fun b hb' h=>by
    rw[Uc]at h;rcases h with h | h
    ·exact (sim.pM gU b OV RP hb').2.1 h
    exact Iq.2 b hb' h.1⟩,trivial⟩) OU (fe:=[(gU,.row e de)]) rfl
   exact hnext _ _ _ S2 rho _ _ hk (aeI.value o.dst hd _ _ (.p _ _ hx))
  exact hq.elim
 exact hq.elim
theorem JN(hC:bI A.C){o:Oper}{S:Nat->Prop}{a:Act}{K:KK}{next:Act->World->Prop}(sim:b7 A V L S rho s a w)(hd:∀d,o.dst=some d->d<A.n)
  (hn:∀v eff b,K v eff (some b)->¬L (o.dst.getD 0)/\s.h (o.dst.getD 0)=b)
  (hnext:∀v eff new S' rho' a' w',K v eff new->b7 A (xY V o.dst) (Cg L new (o.dst.getD 0)) S' rho' ⟨fx s.t o.dst v,app s.h eff⟩ a' w'->next a' w')
  (f:FuncId) (iQ:List AV) (vs:Array Value) (hl:iQ.length=vs.size)
  (hrep:∀(S2:Nat->Prop) (h2:Nat->AB),b7 A V L S2 rho ⟨s.t,h2⟩ a w->∀(i:Nat) x v,iQ[i]?=some x->vs.toList[i]?=some v->aY S2 w A.C.P L rho h2 x v)
  (hrun : (∃ fn : Func, A.C.P.funcs[f]? = some fn ∧ (fn.name == "runtime.NumGoroutine") = false ∧ fn.body.isNone = false) → (execOp a.eval o).run A.C.P w = .ok (.enter f vs) w) (hq : tc A.C s.h (o.dst.getD 0) f iQ K) : o.wp A.C.P a w next Q := by
 unfold tc at hq;split at hq
 ·exact Gn hC sim hd hn hnext f iQ vs hl hrep hrun hq
 split at hq;rotate_left
 ·exact JM hC sim hd hnext f iQ vs hl hrep hrun hq
 obtain⟨xs,r,LI,nZ,nh,hq⟩:=hq;obtain⟨T3,Xa⟩:=LI.at;have key:=nZ.2 (fun b=>S b\/∃id,L id/\(s.h id).live/\hasB w (s.h id) (rho id) b) w vs (hC.env _ _ _ _ sim.ev (fun b h=>.inl h) (fun _ _=>rfl) (aam _)) (fun b h=>h.elim (sim.st b) fun ⟨id,h1,h2,h3⟩=>(sim.lv id b h1 h2 h3).1) (by simp[<-T3,hl]) (fun j x v hj hv=>by
   rw[aak]at hj;obtain⟨y,hy,rfl⟩:=acq.1 hj;obtain⟨av,Ua⟩:∃av,iQ[j]?=some av:=⟨_,acg (by rw[T3];exact aD hy)⟩;exact (Xa j av y Ua hy).rep hC sim (hrep S s.h sim j av v Ua (by simpa using hv))) (fun i j x y v u g hi hj hv hu hx=>by
   rw[aak]at hi;obtain⟨z,_,rfl⟩:=acq.1 hi;cases hx)
 refine tA (hrun nZ.1) key fun e w' tB=>?_;obtain⟨v,S',rfl,hf,W3,xl,RN,hr,fO,OU,hown⟩:=tB;refine⟨v,rfl,?_⟩;have W5:Fr (fun _=>False) w w':=⟨hf.os,hf.tape,hf.output,hf.size,fun k hk _=>hf.block k hk fun ⟨j,x,v,hj,_,hx,_⟩=>by
  rw[aak]at hj;obtain⟨z,_,rfl⟩:=acq.1 hj;cases hx⟩
 have aeI:=sim.grow hC w' W5;refine hnext _ _ _ S rho _ _ hq (aeI.value o.dst hd _ _ ?_);cases r with
 | p x=>exact .p _ _ (nY nh hr)
 | own e es=>cases nh
 | hown cs=>cases nh
 | tu ys=>
  obtain⟨us,rfl,h1,h2⟩:=hr;refine .tu _ us (by simpa using h1) fun i c u hi hu=>?_;rw[aak]at hi;obtain⟨z,hz,rfl⟩:=acq.1 hi;exact .p _ _ (nY (abh.1 nh z (aad hz)) (h2 i z u hz hu))
theorem Cu {P : Program} {f : FuncId} {vs : Array Value} (h : ∃ fn : Func, P.funcs[f]? = some fn ∧ (fn.name == "runtime.NumGoroutine") = false ∧ fn.body.isNone = false) : (callFunc f vs).run P w = .ok (.enter f vs) w := by
 obtain⟨fn,h1,h2,h3⟩:=h
 have we : ¬ fn.name = "runtime.NumGoroutine" := by simpa using h2
 cases hb:fn.body with
 | none=>rw[hb]at h3;cases h3
 | some b=>simp[callFunc,Sem.run,program,h1,we,hb]
theorem DZ{α:Type}{a:Array α}(h:isNil a.toList=true):a=#[]:=by
 obtain⟨l⟩:=a;cases l with
 | nil=>rfl
 | cons y l=>cases h
theorem rP{S:Nat->Prop}{P:Program}{h:Nat->AB}{x:AV}{v:Value}{f:FuncId}{cap:List AV}(hc:xW x=some (f,cap))(hx:aY S w P L rho h x v):∃us:Array Value,v=.func (.func f) #[] us/\cap.length=us.size/\∀(i:Nat) c u,cap[i]?=some c->us[i]?=some u->aY S w P L rho h c u:=by
 cases x<;>simp only[xW]at hc<;>try (cases hc;done)
 ·rename_i y;have hx:=hx.eR;cases y<;>simp only[Ic]at hc<;>try (cases hc;done)
  ·rename_i z;obtain rfl:=hx.bS;unfold Ib at hc;split at hc
   ·rename_i fn first cp
    split at hc
    ·rename_i hn;simp only[aaZ]at hn;have e1:=DZ hn.1;have e2:=DZ hn.2;subst e1 e2;cases fn<;>simp only[Ia]at hc<;>try (cases hc;done)
     injection hc with hc;injection hc with h1 h2;subst h1 h2;exact⟨#[],rfl,rfl,by simp⟩
    cases hc
   cases hc
  rename_i g cp;injection hc with hc;injection hc with h1 h2;subst h1 h2;cases hx;rename_i us hl hr;refine⟨us,rfl,by simpa using hl,fun i c u hc hu=>?_⟩;rw[aak]at hc;obtain⟨z,hz,rfl⟩:=acq.1 hc;exact .p _ _ (hr i z u hz hu)
 injection hc with hc;injection hc with h1 h2;subst h1 h2;cases hx;exact⟨_,rfl,by assumption,by assumption⟩
theorem b7.loose{S:Nat->Prop}{a:Act}(sim:b7 A V L S rho s a w)(hC:bI A.C)(w':World)(R:Nat->Prop)(hf:Fr R w w')(hR:∀k,R k->¬S k/\(∀i,L i->(s.h i).live->¬hasB w (s.h i) (rho i) k)/\(A.mv k\/A.w0.heap.size<=k)):b7 A V L S rho s a w':=by
 have ae1:∀b,S b->w'.heap[b]?=w.heap[b]?:=fun k hk=>hf.block k (sim.st k hk) (fun h=>(hR k h).1 hk);have T:lB S S w w' L L rho rho s.h s.h:=⟨fun b h=>h,ae1,fun j hj=>⟨hj,fun hl=>⟨hl,rfl⟩⟩,fun j e' hj=>hj⟩;exact
 {tm:=fun j hj=>(sim.tm j hj).cK T
  sz:=sim.sz,df:=sim.df,nb:=sim.nb,pn:=sim.pn
  ev:=hC.env _ _ _ _ sim.ev (fun b h=>h) ae1 hf.size
  s0:=sim.s0
  st:=fun b hb=>aaW (sim.st b hb) hf.size
  sb:=sim.sb
  hp:=fun j hj=>(sim.hp j hj).cK T (fun li g hg=>hf.block g (sim.lv j g hj li hg).1 (fun h=>(hR g h).2.1 j hj li hg)) (fun _=>rfl)
  dj:=fun i j g hi hj li lj eM jH=>sim.dj i j g hi hj li lj (dA (fun k hk=>hf.block k (sim.pM i k hi li hk).1 (fun h=>(hR k h).2.1 i hi li (.inl hk))) eM) (dA (fun k hk=>hf.block k (sim.pM j k hj lj hk).1 (fun h=>(hR k h).2.1 j hj lj (.inl hk))) jH)
  lv:=fun i g hi li hg=>by obtain⟨h1,h2⟩:=sim.lv i g hi li (dA (fun k hk=>hf.block k (sim.pM i k hi li hk).1 (fun h=>(hR k h).2.1 i hi li (.inl hk))) hg);exact⟨aaW h1 hf.size,h2⟩
  fr:=sim.fr.next hf.os hf.tape hf.output hf.size fun k hk hn=>hf.block k (aaW hk sim.fr.size) fun h=>by
   rcases (hR k h).2.2 with h | h
   ·exact hn h
   omega }
theorem qj:∀{l:List AV} {as:List AV} {z:AV},qY l=some (as,z)->l=as++[z]
 | [],_,_,h=>by cases h
 | [x],_,_,h=>by cases h;rfl
 | x::y::r,as,z,h=>by
  rw[qY]at h;split at h
  ·rename_i l z' h2;cases h;rw[qj h2];rfl
  cases h
theorem OW{h:Nat->AB}{d:Nat}:∀{fz:List (Nat×AB)},(∀p∈fz,p.1≠d)->app h fz d=h d:=by
 intro fz
 induction fz generalizing h with
 | nil=>intro _;rfl
 | cons p fz ih=>
  intro hp;obtain⟨i,b⟩:=p;show app (aT h i b) fz d=h d;rw[ih fun q hq=>hp q (by simp[hq]),aV _ _ (fun e=>hp (i,b) (by simp) e.symm)]
theorem JO(hC:bI A.C){o:Oper}{S:Nat->Prop}{a:Act}{K:KK}{next:Act->World->Prop}(sim:b7 A V L S rho s a w)(hd:∀d,o.dst=some d->d<A.n)
  (hn:∀v eff b,K v eff (some b)->¬L (o.dst.getD 0)/\s.h (o.dst.getD 0)=b)
  (hnext:∀v eff new S' rho' a' w',K v eff new->b7 A (xY V o.dst) (Cg L new (o.dst.getD 0)) S' rho' ⟨fx s.t o.dst v,app s.h eff⟩ a' w'->next a' w')
  (f:FuncId) (iQ:List AV) (vs:Array Value) (hl:iQ.length=vs.size)
  (hrep:∀(S2:Nat->Prop) (h2:Nat->AB),b7 A V L S2 rho ⟨s.t,h2⟩ a w->∀(i:Nat) x v,iQ[i]?=some x->vs.toList[i]?=some v->aY S2 w A.C.P L rho h2 x v)
  (hrun : (∃ fn : Func, A.C.P.funcs[f]? = some fn ∧ (fn.name == "runtime.NumGoroutine") = false ∧ fn.body.isNone = false) → (execOp a.eval o).run A.C.P w = .ok (.enter f vs) w) (hq : v_ A.C s.h (o.dst.getD 0) f iQ K) : o.wp A.C.P a w next Q := by
 unfold v_ at hq;split at hq
 case h_2=>exact hq.elim
 rename_i as id Jv;have OX:=qj Jv;split at hq
 case h_2=>exact hq.elim
 rename_i ty c gU aN;split at hq
 case h_2=>exact hq.elim
 rename_i pQ;split at hq
 case h_2=>exact hq.elim
 rename_i e es az;obtain⟨ws,vb,LI,TX⟩:∃ws vb,vs.toList=ws++[vb]/\as.length=ws.length:=by
  have b8:vs.toList≠[]:=fun e=>by
   have:vs.size=0:=by simpa using adV List.length e
   rw[OX]at hl;simp at hl;omega
  refine⟨vs.toList.dropLast,vs.toList.getLast b8,(aar b8).symm,?_⟩;rw[OX]at hl;simp at hl ⊢;omega
 have L4:=hrep S s.h sim as.length (.bx id 0) vb (by rw[OX];simp) (by rw[LI,TX];simp);have Xb:∀(i:Nat) c v,as[i]?=some c->ws[i]?=some v->aY S w A.C.P L rho s.h c v:=fun i c v h1 h2=>hrep S s.h sim i c v (by rw[OX,aaE (aao.1 h1).1];exact h1) (by rw[LI,aaE (aao.1 h2).1];exact h2);obtain⟨mc,g0,lF,lC⟩:L id/\∃g,rho id=.pointer (some ⟨g,0,none⟩)/\vb=.pointer (some ⟨g,0,none⟩):=by
  cases L4 with
  | bx _ _ _ hv=>exact hv (by rw[aN];trivial)
 obtain⟨xs,fz,S2,⟨r,ch,de,nZ,hq⟩,bu,hpv,xC,hF,DI,hlen⟩:=A2 (t:=s.t) hC as ws S s.h TX sim (pY.refl _) Xb hq;split at hq
 case h_2=>exact hq.elim
 rename_i hok;simp only[aaZ,ael]at hok;obtain⟨nh,lN,Ue,b8⟩:=hok;have b8:id≠gU:=fun e=>by rw[e]at b8;simp at b8
 have ahx:(app s.h fz) id=.gC ty [c,.ow gU]:=by rw[l9 lN,aN]
 have L6:(app s.h fz) gU=.row e es:=by rw[l9 Ue,az]
 have V8:=bu.hp id mc;have V8:eK S2 w A.C.P L rho (app s.h fz) id (app s.h fz id):=V8;rw[ahx]at V8;obtain⟨g,cells,k1,k2,k3,k4⟩:=V8;rw[lF]at k1;obtain rfl:g0=g:=by injection k1 with k1;injection k1 with k1;injection k1
 obtain⟨u0,u1,hcells⟩:∃u0 u1,cells=#[u0,u1]:=by
  obtain⟨cl⟩:=cells
  match cl,k3 with
  | [x,y],_=>exact⟨x,y,rfl⟩
 subst hcells;obtain⟨o0,l0⟩:=k4 0 c u0 rfl rfl;obtain⟨o1,l1⟩:=k4 1 (.ow gU) u1 rfl rfl;obtain⟨A6,Uf⟩:L gU/\u1=rho gU:=by
  cases l1 with
  | ow _ _ hv=>exact hv (by rw[L6];trivial)
 have lV:u0=.pointer none\/u0=.pointer (some ⟨g0,0,none⟩):=by
  unfold Qn at pQ;split at pQ
  ·cases l0 with
   | p _ _ hx=>cases hx;exact .inl rfl
  ·have hi:=aa2 pQ;subst hi;cases l0 with
   | bx _ _ _ hv=>
    obtain⟨_,g',e1,e2⟩:=hv (by rw[ahx];trivial);rw[lF]at e1;injection e1 with e1;injection e1 with e1;injection e1 with e1;subst e1;exact .inr e2
  cases pQ
 have OQ:=bu.hp gU A6;have OQ:eK S2 w A.C.P L rho (app s.h fz) gU (app s.h fz gU):=OQ;rw[L6]at OQ;have OQ:aG A.C.P w (aO S2 w) e es (rho gU):=OQ;rw[<-Uf]at OQ;have Gq:(app s.h fz id).live:=by rw[ahx];trivial
 have xE:(app s.h fz gU).live:=by rw[L6];trivial
 have Gr:=bu.pM id g0 mc Gq (by rw[lF];rfl);have tC:∀k,cC u1=some k->k<w.heap.size/\¬S2 k/\(A.mv k\/A.w0.heap.size<=k)/\k≠g0:=fun k hk=>by
  obtain⟨a1,a2,a3⟩:=bu.pM gU k A6 xE (by rw[<-Uf];exact hk);refine⟨a1,a2,a3,fun e=>b8 ?_⟩;subst e;exact bu.TJ id gU k mc A6 Gq xE (by rw[lF];rfl) (by rw[<-Uf];exact hk)
 have Xa:vs=(ws++[Value.pointer (some ⟨g0,0,none⟩)]).toArray:=by
  rw[<-lC,<-LI]
 have key:=nZ.2 S2 w ws g0 u0 u1 bu.ev bu.st hlen hpv k2 lV OQ Gr.2.1 (fun k hk=>⟨(tC k hk).2.1,(tC k hk).2.2.2,(tC k hk).1⟩);rw[<-Xa]at key;refine tA (hrun nZ.1) key fun e' w' tB=>?_;obtain⟨v,rfl,hf,hr,tB⟩:=tB;refine⟨v,rfl,?_⟩;have hval:∀{L':Nat->Prop} {rho':Nat->Value} {h':Nat->AB},aY S2 w' A.C.P L' rho' h' (Tq (o.dst.getD 0) r) v:=by
  intro L' rho' h';cases r with
  | p x=>exact .p _ _ hr
  | own e es=>cases nh
  | hown cs=>cases nh
  | tu ys=>
   obtain⟨us,rfl,q1,q2⟩:=hr;refine .tu _ us (by simpa using q1) fun i c u hi hu=>?_;rw[aak]at hi;obtain⟨z,hz,rfl⟩:=acq.1 hi;exact .p _ _ (q2 i z u hz hu)
 split at hq
 case h_2=>
  have aeI:=(bu.kill gU).kill id;have As:=aeI.loose hC w' (fun k=>k=g0\/cC u1=some k) hf (fun k hk=>by
   have dead:∀i,(aT (aT (app s.h fz) gU .none) id .none i).live->i≠id/\i≠gU/\(app s.h fz i).live:=fun i li=>by
    rcases aW (aT (app s.h fz) gU .none) id .none i with⟨rfl,h⟩ | ⟨h1,h⟩
    ·rw[h]at li;exact li.elim
    rw[h]at li;rcases aW (app s.h fz) gU .none i with⟨rfl,h3⟩ | ⟨h2,h3⟩
    ·rw[h3]at li;exact li.elim
    rw[h3]at li;exact⟨h1,h2,li⟩
   have Qz:∀i,(aT (aT (app s.h fz) gU .none) id .none i).live->hasB w (aT (aT (app s.h fz) gU .none) id .none i) (rho i) k->hasB w (app s.h fz i) (rho i) k:=fun i li hg=>aeG (dead i li).2.1 (aeG (dead i li).1 hg);rcases hk with rfl | hk
   ·exact⟨Gr.2.1,fun i hi li eM=>(dead i li).1 (bu.dj i id k hi mc (dead i li).2.2 Gq (Qz i li eM) (.inl (by rw[lF];rfl))),Gr.2.2⟩
   exact⟨(tC k hk).2.1,fun i hi li eM=>(dead i li).2.1 (bu.dj i gU k hi A6 (dead i li).2.2 xE (Qz i li eM) (.inl (by rw[<-Uf];exact hk))),(tC k hk).2.2.1⟩)
  have e6:aT (aT (app s.h fz) gU .none) id .none=app s.h (fz++[(gU,.none),(id,.none)]):=by rw[cy];rfl
  have As:b7 A V L S2 rho ⟨s.t,aT (aT (app s.h fz) gU .none) id .none⟩ a w':=As;rw[e6]at As;exact hnext _ _ _ S2 rho _ w' hq (As.value o.dst hd _ _ hval)
 rename_i de;obtain⟨u1',wh,QA,JC⟩:=tB;obtain⟨hL,hb⟩:=hn _ _ _ hq;have Ug:o.dst.getD 0≠id:=fun e=>hL (e▸mc);have Uh:o.dst.getD 0≠gU:=fun e=>hL (e▸A6);have ni:g0<w'.heap.size:=aaW Gr.1 hf.size;obtain⟨w1,OY⟩:∃w1:World,w1={ w' with heap:=w'.heap.setIfInBounds g0 (.cells #[u0,u1] ty (0,0)) }:=⟨_,rfl⟩;have py:w1.heap[g0]?=some (.cells #[u0,u1] ty (0,0)):=by rw[OY];simp[ni]
 have V9:∀k,k≠g0->w1.heap[k]?=w'.heap[k]?:=fun k hk=>by rw[OY];simp[aei,hk.symm]
 have Xc:w1.heap.size=w'.heap.size:=by rw[OY];simp
 have rA:∀k,cC u1'=some k->k≠g0:=fun k hk=>by
  rcases (JC k hk).2 with h | h
  ·exact (tC k h).2.2.2
  have:=Gr.1;omega
 have aeI:=bu.kill gU;have As:=aeI.new hC (o.dst.getD 0) (.row e de) (bu.pP hd) hL (by
   show aT (app s.h fz) gU .none (o.dst.getD 0)=_;rw[aV _ _ Uh,OW fun p hp e=>hL (by rw[<-e];exact DI p hp),hb]) w1 (by rw[OY];exact hf.os) (by rw[OY];exact hf.tape) (by rw[OY];exact hf.output) (by rw[Xc];exact hf.size) (fun k=>cC u1=some k)
  (fun k hk T1=>by
   by_cases e:k=g0
   ·subst e;rw[py,k2]
   rw[V9 k e];exact hf.block k hk (fun h=>h.elim e T1))
  (fun k hk=>by
   refine⟨(tC k hk).2.1,fun i hi li eM=>?_,(tC k hk).2.2.1⟩;have nT:(aT (app s.h fz) gU .none i).live:=li;rcases aW (app s.h fz) gU .none i with⟨rfl,h⟩ | ⟨RQ,h⟩
   ·rw[h]at nT;exact nT.elim
   rw[h]at nT;exact RQ (bu.dj i gU k hi A6 nT xE (aeG RQ eM) (.inl (by rw[<-Uf];exact hk))))
  u1' (fun k hk=>by rw[Xc];exact⟨(JC k hk).1,(JC k hk).2.symm⟩)
  (fun T=>by
   show aG A.C.P w1 (aO S2 w1) e de (aT rho (o.dst.getD 0) u1' (o.dst.getD 0));rw[aH];exact QA.cK (fun k hk=>V9 k (rA k hk)) (fun x u hx=>hx.mono (fun _ h=>h) fun k hk=>V9 k fun e=>Gr.2.1 (e▸hk)))
 have Xd:(aT (app s.h fz) gU .none) id=.gC ty [c,.ow gU]:=by rw[aV _ _ b8,ahx]
 have RS:aT rho (o.dst.getD 0) u1' id=.pointer (some ⟨g0,0,none⟩):=by rw[aV _ _ Ug.symm,lF]
 have JP:=As.write hC id (.inl mc) (by show ((aT (app s.h fz) gU .none) id).live;rw[Xd];trivial) (.gC ty [v8 ch id c,.ow (o.dst.getD 0)]) (fun _ h=>by cases h) w' (by rw[OY]) (by rw[OY]) (by rw[OY]) Xc.symm
  (fun k hk=>(V9 k fun e=>hk (by rw[RS,e];rfl)).symm)
  (fun T=>by
   refine⟨g0,_,RS,wh,rfl,fun j x u hj hu=>?_⟩
   match j,hj,hu with
   | 0,hj,hu=>
    cases hj;cases ch with
    | true=>
     cases hu;exact⟨rfl,.bx id 0 _ fun _=>⟨.inl mc,g0,RS,rfl⟩⟩
    | false=>
     cases hu;exact⟨o0,(l0.cK (S':=S2) (w':=w') (L':=fun i=>L i\/i=o.dst.getD 0) (rho':=aT rho (o.dst.getD 0) u1') (h':=aT (aT (app s.h fz) gU .none) id (.gC ty [v8 false id c,.ow (o.dst.getD 0)])) ⟨fun _ h=>h,fun k hk=>hf.block k (bu.st k hk) (fun h=>h.elim (fun e=>Gr.2.1 (e▸hk)) (fun h=>(tC k h).2.1 hk)),fun j hj=>by
       rcases aW (aT (app s.h fz) gU .none) id (.gC ty [v8 false id c,.ow (o.dst.getD 0)]) j with⟨rfl,h⟩ | ⟨Xe,h⟩
       ·exact⟨by rw[ahx];trivial,fun hl=>⟨.inl hl,aV _ _ Ug.symm⟩⟩
       ·rw[h]at hj;rcases aW (app s.h fz) gU .none j with⟨rfl,h3⟩ | ⟨Ro,h3⟩
        ·rw[h3]at hj;exact hj.elim
        rw[h3]at hj;exact⟨hj,fun hl=>⟨.inl hl,aV _ _ fun e=>hL (e▸hl)⟩⟩,fun j e2 hj=>by
       rcases aW (aT (app s.h fz) gU .none) id (.gC ty [v8 false id c,.ow (o.dst.getD 0)]) j with⟨rfl,h⟩ | ⟨Xe,h⟩
       ·rw[h]at hj;cases hj
       rw[h]at hj;rcases aW (app s.h fz) gU .none j with⟨rfl,h3⟩ | ⟨Ro,h3⟩
       ·rw[h3]at hj;cases hj
       rw[h3]at hj;exact hj⟩)⟩
   | 1,hj,hu=>
    cases hj;cases hu;obtain⟨i0,xs0,Tu,_,hown,_⟩:=QA;refine⟨?_,.ow _ _ fun _=>⟨.inr rfl,(aH _ _ _).symm⟩⟩;obtain⟨a0,c0,TZ⟩:=cr hown;rw[TZ];rfl
   | n+2,hj,hu=>cases hj)
 have e6:aT (aT (app s.h fz) gU .none) id (.gC ty [v8 ch id c,.ow (o.dst.getD 0)])=app s.h (fz++[(gU,.none),(id,.gC ty [v8 ch id c,.ow (o.dst.getD 0)])]):=by rw[cy];rfl
 have JP:b7 A V (fun i=>L i\/i=o.dst.getD 0) S2 (aT rho (o.dst.getD 0) u1') ⟨s.t,aT (aT (app s.h fz) gU .none) id (.gC ty [v8 ch id c,.ow (o.dst.getD 0)])⟩ a w':=JP;rw[e6]at JP;exact hnext _ _ _ S2 (aT rho (o.dst.getD 0) u1') _ w' hq (JP.value o.dst hd _ _ hval)
theorem OZ{o:Oper}(c:Call)(g:Operand)(aK:o.op=.call c)(hc:c.callee=.value g):iE A o:=by
 intro V L S rho s a w K next Q hC sim hV hd hq hn hnext
 obtain⟨callee,args,argTypes⟩:=c;simp only at hc;subst hc;simp only[bV,aK,aeC]at hq;have hg:=bp sim g fun j hj=>hV j (by simp[aK,Op.operands,Call.operands,hj]);have hargs:∀(S2:Nat->Prop) (h2:Nat->AB),b7 A V L S2 rho ⟨s.t,h2⟩ a w->∀x∈args.toList,aY S2 w A.C.P L rho h2 (ev s.t x) (a.eval x):=fun S2 h2 bu x hx=>bp bu x fun j hj=>hV j (by simp[aK,Op.operands,Call.operands];rw[<-hj];exact .inr (aal.1 hx));have Gj:∀(S2:Nat->Prop) (h2:Nat->AB),b7 A V L S2 rho ⟨s.t,h2⟩ a w->∀(i:Nat) x v,(args.toList.map (ev s.t))[i]?=some x->(args.map a.eval).toList[i]?=some v->aY S2 w A.C.P L rho h2 x v:=by
  intro S2 h2 bu i x v hx hv;rw[aak]at hx;obtain⟨y,hy,rfl⟩:=acq.1 hx;rw[adT,aak,hy]at hv;simp at hv;rw[<-hv];exact hargs S2 h2 bu y (aad hy)
 split at hq
 case h_2=>exact hq.elim
 rename_i f cap YZ;obtain⟨us,he,hl,_⟩:=rP YZ hg
 have It : (∀ (S2 : Nat → Prop) (h2 : Nat → AB), b7 A V L S2 rho ⟨s.t, h2⟩ a w → ∀ (i : Nat) x v, (args.toList.map (ev s.t) ++ cap)[i]? = some x → (args.map a.eval ++ us).toList[i]? = some v → aY S2 w A.C.P L rho h2 x v) ∧ ((∃ fn : Func, A.C.P.funcs[f]? = some fn ∧ (fn.name == "runtime.NumGoroutine") = false ∧ fn.body.isNone = false) → (execOp a.eval o).run A.C.P w = .ok (.enter f (args.map a.eval ++ us)) w) := by
  refine⟨fun S2 h2 bu i x v hx hv=>?_,fun Xf=>?_⟩
  ·rw[abX]at hv;by_cases hi:i<args.size
   ·rw[aaE (by simpa using hi)]at hx;rw[aaE (by simpa using hi)]at hv;exact Gj S2 h2 bu i x v hx hv
   rw[acu (by simp;omega)]at hx;rw[acu (by simp;omega)]at hv;simp only[aej,abj,adT]at hx hv;have V_:=bp bu g fun j hj=>hV j (by simp[aK,Op.operands,Call.operands,hj]);obtain⟨us2,qZ,_,iO⟩:=rP YZ V_;rw[he]at qZ;injection qZ with _ _ qZ;subst qZ;exact iO _ x v hx (by simpa using hv)
  simp[execOp,aK,resolve,he,Deferred.ofValue,invoke,Cu Xf]
 split at hq
 ·exact JN hC sim hd hn hnext f _ (args.map a.eval++us) (by simp[hl]) It.1 It.2 hq
 exact JO hC sim hd hn hnext f _ (args.map a.eval++us) (by simp[hl]) It.1 It.2 hq
end Go.AM
namespace Go.AM
open Go.RowKit
def Ext(h h':Nat->AB):Prop:=∀id,h id=.none\/h' id=h id
variable {h':Nat->AB} {id:Nat} {es:List (List PV)}
theorem Ext.row{h:Nat->AB}(H:Ext h h'){e:TypeId}(hr:h id=.row e es):h' id=.row e es:=by
 rcases H id with h1 | h1
 ·rw[h1]at hr;cases hr
 rw[h1,hr]
theorem Ext.jA{h:Nat->AB}(H:Ext h h')(hr:h id=.jA es):h' id=.jA es:=by
 rcases H id with h1 | h1
 ·rw[h1]at hr;cases hr
 rw[h1,hr]
theorem Ext.box{h:Nat->AB}(H:Ext h h'){cs:List AV}(hr:h id=.box cs):h' id=.box cs:=by
 rcases H id with h1 | h1
 ·rw[h1]at hr;cases hr
 rw[h1,hr]
theorem Ext.aN{h:Nat->AB}(H:Ext h h'){cs:List HC}(hr:h id=.aN cs):h' id=.aN cs:=by
 rcases H id with h1 | h1
 ·rw[h1]at hr;cases hr
 rw[h1,hr]
theorem Ext.gC{h:Nat->AB}(H:Ext h h'){ty:TypeId}{cs:List AV}(hr:h id=.gC ty cs):h' id=.gC ty cs:=by
 rcases H id with h1 | h1
 ·rw[h1]at hr;cases hr
 rw[h1,hr]
theorem Ext.jd{h:Nat->AB}(H:Ext h h'){cs:List PV}(hr:h id=.jd cs):h' id=.jd cs:=by
 rcases H id with h1 | h1
 ·rw[h1]at hr;cases hr
 rw[h1,hr]
theorem Ext.map{h:Nat->AB}(H:Ext h h'){mk:MK}{es:List (Value×PV)}(hr:h id=.map mk es):h' id=.map mk es:=by
 rcases H id with h1 | h1
 ·rw[h1]at hr;cases hr
 rw[h1,hr]
theorem Ext.az{h:Nat->AB}(H:Ext h h'){e:TypeId}{es:List (List HX)}(hr:h id=.az e es):h' id=.az e es:=by
 rcases H id with h1 | h1
 ·rw[h1]at hr;cases hr
 rw[h1,hr]
theorem JQ{h:Nat->AB}(H:Ext h h'){a:AV}{n:Nat}(hq:hlen h a=some n):hlen h' a=some n:=by
 unfold hlen at hq ⊢;split at hq
 ·rename_i id;split at hq
  ·rename_i e es hr;rw[H.az hr];exact hq
  cases hq
 ·rename_i id lo hi;split at hq
  ·rename_i e es hr;rw[H.row hr];exact hq
  cases hq
 cases hq
theorem JR{h:Nat->AB}(H:Ext h h'){a:AV}{K:List (List PV)->Prop}(hq:gH h a K):hlen h' a=none:=by
 unfold gH at hq;unfold hlen;split at hq
 ·rfl
 ·rfl
 ·rename_i id;simp only;split at hq
  ·rename_i hr;rw[H.row hr]
  ·rename_i hr;rw[H.jA hr]
  exact hq.elim
 exact hq.elim
theorem tD{h:Nat->AB}(H:Ext h h'){a:AV}(h2:u5 h a=true):u5 h' a=true:=by
 cases a with
 | p x=>cases x<;>exact h2
 | nl=>rfl
 | ow id=>
  unfold u5 at h2 ⊢;simp only at h2 ⊢;split at h2
  ·rename_i hr;rw[H.row hr]
  ·rename_i hr;rw[H.az hr]
  ·rename_i hr;rw[H.jA hr]
  cases h2
 | bx id off=>
  unfold u5 at h2 ⊢;simp only at h2 ⊢;split at h2
  ·cases h2
  rename_i b8;rcases H id with h4 | h4
  ·exact absurd h4 (by simpa using b8)
  rw[h4];split
  ·rename_i h5;exact absurd h5 (by simpa using b8)
  rfl
 | vw id lo hi=>exact h2
 | rp id i off=>
  unfold u5 at h2 ⊢;simp only at h2 ⊢;split at h2
  ·rename_i hr;rw[H.row hr]
  ·rename_i hr;rw[H.az hr]
  cases h2
 | fn f cap=>rfl
 | tu xs=>exact h2
 | st xs=>exact h2
 | junk=>exact h2
theorem A7{h:Nat->AB}(H:Ext h h'){a:AV}{K:PV->List (Nat×AB)->Prop}(hq:l8 h a K):∃x fz,K x fz/\∀K':PV->List (Nat×AB)->Prop,K' x fz->l8 h' a K':=by
 unfold l8 at hq;split at hq
 ·exact⟨_,_,hq,fun K' h=>h⟩
 ·exact⟨_,_,hq,fun K' h=>h⟩
 ·split at hq
  ·rename_i hr;exact⟨_,_,hq,fun K' h=>by simp only[l8,H.row hr];exact h⟩
  ·rename_i hr;exact⟨_,_,hq,fun K' h=>by simp only[l8,H.jA hr];exact h⟩
  exact hq.elim
 ·split at hq
  ·rename_i hr;split at hq
   ·rename_i hx;exact⟨_,_,hq,fun K' h=>by simp only[l8,H.box hr,hx];exact h⟩
   exact hq.elim
  ·rename_i hr;exact⟨_,_,hq,fun K' h=>by simp only[l8,H.jd hr];exact h⟩
  exact hq.elim
 exact hq.elim
theorem A8{h:Nat->AB}(H:Ext h h'):∀{as:List AV} {K:List PV->List (Nat×AB)->Prop},v7 h as K->∃xs fz,K xs fz/\∀K':List PV->List (Nat×AB)->Prop,K' xs fz->v7 h' as K':=by
 intro as
 induction as with
 | nil=>intro K hq;exact⟨_,_,hq,fun K' h=>h⟩
 | cons a as ih=>
  intro K hq;unfold v7 at hq;obtain⟨x,fz,hq,hK⟩:=A7 H hq;obtain⟨xs,mY,hq,Cv⟩:=ih hq;refine⟨_,_,hq,fun K' h=>?_⟩;unfold v7;exact hK _ (Cv _ h)
theorem iu{h:Nat->AB}(H:Ext h h'){a:AV}{K:PV->List (Nat×AB)->Prop}(hq:gD h a K):∃x fz,K x fz/\∀K':PV->List (Nat×AB)->Prop,K' x fz->gD h' a K':=by
 unfold gD at hq;split at hq
 ·obtain⟨xs,fz,hq,hK⟩:=A8 H hq;exact⟨_,_,hq,fun K' h=>hK _ h⟩
 rename_i b8;obtain⟨x,fz,hq,hK⟩:=A7 H hq;refine⟨x,fz,hq,fun K' h=>?_⟩;unfold gD;split
 ·exact absurd rfl (b8 _ _)
 exact hK _ h
theorem yi{h:Nat->AB}(H:Ext h h'){a:AV}{K:List (List PV)->Prop}(hq:gH h a K):∃es,K es/\∀K':List (List PV)->Prop,K' es->gH h' a K':=by
 unfold gH at hq;split at hq
 ·exact⟨_,hq,fun K' h=>h⟩
 ·exact⟨_,hq,fun K' h=>h⟩
 ·split at hq
  ·rename_i hr;exact⟨_,hq,fun K' h=>by simp only[gH,H.row hr];exact h⟩
  ·rename_i hr;exact⟨_,hq,fun K' h=>by simp only[gH,H.jA hr];exact h⟩
  exact hq.elim
 exact hq.elim
variable {rho:Operand->AV}
theorem JS{h:Nat->AB}(H:Ext h h'){fs:List (Nat×Nat×Bool)}:∀{ps:List (Nat×Operand)} {cs:List PV} {K:List PV->List (Nat×AB)->Prop},jC h fs rho ps cs K->∃x fz,K x fz/\∀K':List PV->List (Nat×AB)->Prop,K' x fz->jC h' fs rho ps cs K':=by
 intro ps
 induction ps with
 | nil=>intro cs K hq;exact⟨_,_,hq,fun K' h=>h⟩
 | cons p ps ih=>
  intro cs K hq;obtain⟨i,x⟩:=p;unfold jC at hq;split at hq
  ·rename_i h1;obtain⟨y,fz,hq,hK⟩:=iu H hq;split at hq
   ·rename_i ys h2;split at hq
    ·rename_i h3;obtain⟨z,mY,hq,Cv⟩:=ih hq;refine⟨z,fz++mY,hq,fun K' h=>?_⟩;simp only[jC,h1];refine hK _ ?_;simp only[h2,h3];exact Cv _ h
    exact hq.elim
   exact hq.elim
  exact hq.elim
theorem A9{h:Nat->AB}(H:Ext h h'){fs:List (Nat×Nat×Bool)}:∀{ps:List (Nat×Operand)} {cs:List AV} {K:List AV->Prop},k_ h fs rho ps cs K->∃z,K z/\∀K':List AV->Prop,K' z->k_ h' fs rho ps cs K':=by
 intro ps
 induction ps with
 | nil=>intro cs K hq;exact⟨cs,hq,fun K' h=>h⟩
 | cons p ps ih=>
  intro cs K hq;obtain⟨i,x⟩:=p;unfold k_ at hq;split at hq
  ·rename_i h1;split at hq
   ·rename_i h2;obtain⟨z,h3,h4⟩:=ih hq;refine⟨z,h3,fun K' hk=>?_⟩;unfold k_;simp only[aaZ]at h2;simp only[h1,h2.1.1,h2.1.2,tD H h2.2,ac_];exact h4 K' hk
   exact hq.elim
  exact hq.elim
theorem JT{h:Nat->AB}(H:Ext h h'){b:Bool}{a:AV}{K:PV->List (Nat×AB)->Prop}(hq:wa b h a K):∃x fz,K x fz/\∀K':PV->List (Nat×AB)->Prop,K' x fz->wa b h' a K':=by
 unfold wa at hq;split at hq
 ·exact⟨_,_,hq,fun K' h=>h⟩
 rename_i b8;obtain⟨x,fz,h1,h2⟩:=iu H hq;refine⟨x,fz,h1,fun K' h=>?_⟩;unfold wa;split
 ·exact (b8 rfl rfl).elim
 exact h2 K' h
theorem yj{h:Nat->AB}(H:Ext h h'){b:Bool}{size:Nat}:∀{ps:List (Nat×Operand)} {cs:List (List PV)} {K:List (List PV)->List (Nat×AB)->Prop},gG b h size rho ps cs K->∃x fz,K x fz/\∀K':List (List PV)->List (Nat×AB)->Prop,K' x fz->gG b h' size rho ps cs K':=by
 intro ps
 induction ps with
 | nil=>intro cs K hq;exact⟨_,_,hq,fun K' h=>h⟩
 | cons p ps ih=>
  intro cs K hq;obtain⟨i,x⟩:=p;unfold gG at hq;obtain⟨y,fz,hq,hK⟩:=JT H hq;split at hq
  ·rename_i ys h2;split at hq
   ·rename_i h3;obtain⟨z,mY,hq,Cv⟩:=ih hq;refine⟨z,fz++mY,hq,fun K' h=>?_⟩;simp only[gG];refine hK _ ?_;simp only[h2,h3];exact Cv _ h
   exact hq.elim
  exact hq.elim
theorem JU{h:Nat->AB}(H:Ext h h'){md:Nat->Bool}:∀{as:List AV} {j:Nat} {K:List Arg->List (Nat×AB)->List (Nat×AB)->Prop},gF md h j as K->∃xs ids fz,K xs ids fz/\∀K':List Arg->List (Nat×AB)->List (Nat×AB)->Prop,K' xs ids fz->gF md h' j as K':=by
 intro as
 induction as with
 | nil=>intro j K hq;exact⟨_,_,_,hq,fun K' h=>h⟩
 | cons a as ih=>
  intro j K hq;unfold gF at hq;split at hq
  ·rename_i hm;obtain⟨y,fz,hq,hK⟩:=iu H hq;obtain⟨xs,ids,mY,hq,Cv⟩:=ih hq;refine⟨_,_,_,hq,fun K' h=>?_⟩;simp only[gF,hm];exact hK _ (Cv _ h)
  rename_i hm;split at hq
  ·split at hq
   ·rename_i hr;obtain⟨xs,ids,mY,hq,Cv⟩:=ih hq;refine⟨_,_,_,hq,fun K' h=>?_⟩;simp only[gF,hm,H.row hr];exact Cv _ h
   ·rename_i hr;obtain⟨xs,ids,mY,hq,Cv⟩:=ih hq;refine⟨_,_,_,hq,fun K' h=>?_⟩;simp only[gF,hm,H.jA hr];exact Cv _ h
   ·rename_i hr;obtain⟨xs,ids,mY,hq,Cv⟩:=ih hq;refine⟨_,_,_,hq,fun K' h=>?_⟩;simp only[gF,hm,H.map hr];exact Cv _ h
   exact hq.elim
  ·obtain⟨xs,ids,mY,hq,Cv⟩:=ih hq;refine⟨_,_,_,hq,fun K' h=>?_⟩;simp only[gF,hm];exact Cv _ h
  ·split at hq
   ·rename_i hr;split at hq
    ·rename_i hx;obtain⟨xs,ids,mY,hq,Cv⟩:=ih hq;refine⟨_,_,_,hq,fun K' h=>?_⟩;simp only[gF,hm,H.box hr,hx];exact Cv _ h
    exact hq.elim
   ·rename_i hr;obtain⟨xs,ids,mY,hq,Cv⟩:=ih hq;refine⟨_,_,_,hq,fun K' h=>?_⟩;simp only[gF,hm,H.aN hr];exact Cv _ h
   exact hq.elim
  exact hq.elim
variable {as:List AV}
theorem Gs{C:Ctx}{h:Nat->AB}(H:Ext h h'){d:Nat}{f:FuncId}{K:KK}(hq:oI C h d f as K):∃v e n,K v e n/\∀K':KK,K' v e n->oI C h' d f as K':=by
 unfold oI at hq;obtain⟨xs,ids,fz,⟨r,fin,hc,hq⟩,hK⟩:=JU H hq;split at hq
 ·rename_i h1;split at hq
  ·rename_i h2;split at hq
   ·rename_i h3;refine⟨_,_,_,hq,fun K' h=>?_⟩;unfold oI;refine hK _ ⟨r,fin,hc,?_⟩;simp only[h1,h2,h3];exact h
   rename_i h3;refine⟨_,_,_,hq,fun K' h=>?_⟩;unfold oI;refine hK _ ⟨r,fin,hc,?_⟩;simp only[h1,h2,h3];exact h
  exact hq.elim
 exact hq.elim
theorem nU.ext{h:Nat->AB}(H:Ext h h'){a:AV}{x:PV}(hv:nU h a x):nU h' a x:=by
 cases hv with
 | p=>exact .p _
 | nl=>exact .nl
 | row id e es hr=>exact .row id e es (H.row hr)
 | jA id es hr=>exact .jA id es (H.jA hr)
 | az id e es ps hr hp=>exact .az id e es ps (H.az hr) hp
theorem oJ.ext{h:Nat->AB}(H:Ext h h'){xs:List PV}(hv:oJ h as xs):oJ h' as xs:=by
 induction hv with
 | nil=>exact .nil
 | cons h1 _ ih=>exact .cons (h1.ext H) ih
theorem View.ext{h:Nat->AB}(H:Ext h h'){a:AV}{x:PV}(hv:View h a x):View h' a x:=by
 cases hv with
 | one h1=>exact .one (h1.ext H)
 | box id off cs xs hb hx=>exact .box id off cs xs (H.box hb) (hx.ext H)
 | jd id off xs hb=>exact .jd id off xs (H.jd hb)
theorem tb.ext{h:Nat->AB}(H:Ext h h'){xs:List PV}(hv:tb h as xs):tb h' as xs:=by
 induction hv with
 | nil=>exact .nil
 | cons h1 _ ih=>exact .cons (h1.ext H) ih
theorem Gt{h:Nat->AB}(H:Ext h h'):∀{as:List AV},Am (dZ h) as=true->Am (dZ h') as=true:=by
 intro as
 induction as with
 | nil=>intro h;cases h
 | cons a as ih=>
  intro hq;unfold Am at hq ⊢;split at hq
  ·rename_i h1;have:dZ h' a=true:=by
    unfold dZ at h1 ⊢;split at h1
    ·split at h1
     ·rename_i hb;simp only[H.box hb];exact h1
     cases h1
    ·split at h1
     ·rename_i hb;simp only[H.az hb]
     cases h1
    cases h1
   rw[this]
  cases dZ h' a with
  | true=>rfl
  | false=>exact ih hq
theorem JV{h:Nat->AB}(H:Ext h h'){a:AV}{K:PV->List (Nat×AB)->Prop}(h1:dZ h a=false)(hq:gD h a K):dZ h' a=false:=by
 cases a with
 | ow id=>
  simp only[gD,l8]at hq;simp only[dZ]at h1 ⊢;split at hq
  ·rename_i hr;rw[H.row hr]
  ·rename_i hr;rw[H.jA hr]
  exact hq.elim
 | bx id off=>
  simp only[gD,l8]at hq;simp only[dZ]at h1 ⊢;split at hq
  ·rename_i hr;rw[hr]at h1;rw[H.box hr];exact h1
  ·rename_i hr;rw[H.jd hr]
  exact hq.elim
 | _=>rfl
theorem Gu{h:Nat->AB}(H:Ext h h'){md:Nat->Bool}:∀{as:List AV} {j:Nat} {K:List Arg->List (Nat×AB)->List (Nat×AB)->Prop},gF md h j as K->Am (dZ h) as=false->Am (dZ h') as=false:=by
 intro as
 induction as with
 | nil=>intro _ _ _ _;rfl
 | cons a as ih=>
  intro j K hq hn;unfold Am at hn ⊢;split at hn
  ·cases hn
  rename_i h1;have:dZ h' a=false/\∃(j:Nat) (K:List Arg->List (Nat×AB)->List (Nat×AB)->Prop),gF md h j as K:=by
   unfold gF at hq;split at hq
   ·obtain⟨x,fz,va,_⟩:=iu (fun _=>.inr rfl) hq;exact⟨JV H h1 hq,_,_,va⟩
   split at hq
   ·rename_i id;split at hq
    ·rename_i hr;exact⟨by simp only[dZ];rw[H.row hr],_,_,hq⟩
    ·rename_i hr;exact⟨by simp only[dZ];rw[H.jA hr],_,_,hq⟩
    ·rename_i hr;exact⟨by simp only[dZ];rw[H.map hr],_,_,hq⟩
    exact hq.elim
   ·exact⟨rfl,_,_,hq⟩
   ·rename_i id;split at hq
    ·rename_i hr;split at hq
     ·refine⟨?_,_,_,hq⟩;simp only[dZ]at h1 ⊢;rw[hr]at h1;rw[H.box hr];exact h1
     exact hq.elim
    ·rename_i hr;exact⟨by simp only[dZ];rw[H.aN hr],_,_,hq⟩
    exact hq.elim
   exact hq.elim
  obtain⟨h2,j',K',h3⟩:=this;rw[h2];exact ih h3 hn
theorem Gv{h:Nat->AB}(H:Ext h h'){c:AV}(hc:u7 h c=true):u7 h' c=true:=by
 unfold u7 at hc ⊢;split at hc
 ·rfl
 ·rfl
 ·split at hc
  ·rename_i hr;rw[H.row hr]
  cases hc
 ·rfl
 cases hc
theorem JW{C:Ctx}{h:Nat->AB}(H:Ext h h'){f:FuncId}{K:KK}(hq:xV C h f as K):∃v e n,K v e n/\∀K':KK,K' v e n->xV C h' f as K':=by
 unfold xV at hq;split at hq
 ·split at hq
  ·rename_i hb hr;obtain⟨x,de,h1,h2,h3,h4,h5⟩:=hq;refine⟨_,_,_,h5,fun K' hk=>?_⟩;unfold xV;simp only[H.box hb,H.row hr];exact⟨x,de,h1,fun c hc=>Gv H (h2 c hc),h3,h4,hk⟩
  exact hq.elim
 exact hq.elim
theorem JX{C:Ctx}{h:Nat->AB}(H:Ext h h'){d:Nat}{f:FuncId}{K:KK}(hq:tc C h d f as K):∃v e n,K v e n/\∀K':KK,K' v e n->tc C h' d f as K':=by
 unfold tc at hq;split at hq
 ·rename_i hn;have Ct:Am (dZ h') as=false:=Gu H (by unfold oI at hq;exact hq) hn;obtain⟨v,e,n,h1,h2⟩:=Gs H hq;exact⟨v,e,n,h1,fun K' hk=>by unfold tc;rw[Ct];exact h2 K' hk⟩
 rename_i hn;have Ct:=Gt H hn;split at hq
 ·rename_i hm;obtain⟨xs,r,h1,h2,h3,h4⟩:=hq;exact⟨_,_,_,h4,fun K' hk=>by unfold tc;rw[Ct,hm];exact⟨xs,r,h1.ext H,h2,h3,hk⟩⟩
 rename_i hm;obtain⟨v,e,n,h1,h2⟩:=JW H hq;exact⟨v,e,n,h1,fun K' hk=>by unfold tc;rw[Ct,hm];exact h2 K' hk⟩
theorem JY{C:Ctx}{h:Nat->AB}(H:Ext h h'){d:Nat}{f:FuncId}{K:KK}(hq:v_ C h d f as K):∃v e n,K v e n/\∀K':KK,K' v e n->v_ C h' d f as K':=by
 unfold v_ at hq;split at hq
 case h_2=>exact hq.elim
 rename_i h0;split at hq
 case h_2=>exact hq.elim
 rename_i h1;split at hq
 case h_2=>exact hq.elim
 rename_i h2;split at hq
 case h_2=>exact hq.elim
 rename_i h3;obtain⟨xs,fz,⟨r,ch,de,hc,hq⟩,hK⟩:=A8 H hq;split at hq
 case h_2=>exact hq.elim
 rename_i h4;split at hq
 ·refine⟨_,_,_,hq,fun K' h=>?_⟩;unfold v_;simp only[h0,H.gC h1,h2,H.row h3];refine hK _ ⟨r,ch,_,hc,?_⟩;simp only[h4];exact h
 refine⟨_,_,_,hq,fun K' h=>?_⟩;unfold v_;simp only[h0,H.gC h1,h2,H.row h3];refine hK _ ⟨r,ch,_,hc,?_⟩;simp only[h4];exact h
theorem n9{k:IntKind}{n:Int}{K:Value->Prop}(hq:u6 k n K):∃v,K v/\∀K':Value->Prop,K' v->u6 k n K':=by
 unfold u6 at hq;split at hq
 ·rename_i h;exact⟨_,hq.2,fun K' hk=>by simp only[u6,h];exact⟨hq.1,hk⟩⟩
 rename_i h;exact⟨_,hq,fun K' hk=>by simp only[u6,h];exact hk⟩
theorem D1{T:TypeId->Option TI}{op:BinOp}{t:TypeId}{x:PV}{K:Value->Prop}(hq:Js T op t x K):∃v,K v/\∀K':Value->Prop,K' v->Js T op t x K':=by
 unfold Js at hq;split at hq
 case h_2=>exact hq.elim
 split at hq
 case h_1=>exact hq.elim
 rename_i h1;split at hq
 case h_2=>exact hq.elim
 rename_i h2;split at hq<;>first
  | exact hq.elim
  | exact⟨_,hq,fun K' h=>by simp only[Js,h1,h2];exact h⟩
theorem D2{T:TypeId->Option TI}{op:BinOp}{t:TypeId}{x y:PV}{K:Value->Prop}(hq:sj T op t x y K):∃v,K v/\∀K':Value->Prop,K' v->sj T op t x y K':=by
 unfold sj at hq;split at hq
 ·split at hq
  ·rename_i hs;exact⟨_,hq.2,fun K' h=>by simp only[sj,hs];exact⟨hq.1,h⟩⟩
  rename_i hs;split at hq
  ·exact hq.elim
  rename_i hk;split at hq<;>first
   | exact hq.elim
   | (obtain⟨v,h1,h2⟩:=n9 hq;exact⟨v,h1,fun K' h=>by simp only[sj,hk,hs];exact h2 K' h⟩)
   | (obtain⟨v,h1,h2⟩:=n9 hq.2;exact⟨v,h1,fun K' h=>by simp only[sj,hk,hs];exact⟨hq.1,h2 K' h⟩⟩)
   | exact⟨_,hq,fun K' h=>by simp only[sj,hk,hs];exact h⟩
   | exact⟨_,hq.2,fun K' h=>by simp only[sj,hk,hs];exact⟨hq.1,h⟩⟩
 ·split at hq<;>first
   | exact hq.elim
   | exact⟨_,hq,fun K' h=>by simp only[sj];exact h⟩
   | exact⟨_,hq.2,fun K' h=>by simp only[sj];exact⟨hq.1,h⟩⟩
 ·split at hq
  ·rename_i hT;split at hq<;>first
    | exact hq.elim
    | exact⟨_,hq,fun K' h=>by simp only[sj,hT];exact h⟩
  exact hq.elim
 ·split at hq
  ·rename_i hT;split at hq
   ·exact hq.elim
   rename_i hn;split at hq
   ·split at hq
    ·rename_i he;exact⟨_,hq,fun K' h=>by simp only[sj,hT,hn,he];exact h⟩
    exact hq.elim
   ·split at hq
    ·rename_i he;exact⟨_,hq,fun K' h=>by simp only[sj,hT,hn,he];exact h⟩
    exact hq.elim
   exact hq.elim
  exact hq.elim
 exact hq.elim
theorem afw{h:Nat->AB}(H:Ext h h'){C:Ctx}{t:TypeId}{x:Operand}{lo hi:Option Operand}{K:KK}(hq:gm C rho h t x lo hi K):∃v e n,K v e n/\∀K':KK,K' v e n->gm C rho h' t x lo hi K':=by
 simp only[gm]at hq;split at hq
 ·rename_i h0;split at hq
  ·rename_i h1;split at hq
   ·rename_i h2 h3;exact⟨_,_,_,hq.2,fun K' h=>by simp only[gm,h0,h1,h2,h3];exact⟨hq.1,h⟩⟩
   exact hq.elim
  exact hq.elim
 ·rename_i h0;split at hq
  ·exact hq.elim
  rename_i h1;obtain⟨z,fz,hq,hK⟩:=iu H hq;split at hq
  ·split at hq
   ·rename_i h2 h3;refine⟨_,_,_,hq.2,fun K' h=>?_⟩;simp only[gm,h0,h1];refine hK _ ?_;simp only[h2,h3];exact⟨hq.1,h⟩
   exact hq.elim
  exact hq.elim
 exact hq.elim
theorem JZ{C:Ctx}{t:TypeId}{lo hi:Option Operand}{e':TypeId}{K:KK}(hq:td C rho t lo hi id e' es K):∃v e n,K v e n/\∀K':KK,K' v e n->td C rho t lo hi id e' es K':=by
 unfold td at hq;split at hq
 ·rename_i h0;split at hq
  ·rename_i h1;split at hq
   ·rename_i h2 h3;exact⟨_,_,_,hq.2,fun K' h=>by simp only[td,h0,h1,h2,h3];exact⟨hq.1,h⟩⟩
   exact hq.elim
  exact hq.elim
 exact hq.elim
theorem q_{C:Ctx}{o:Oper}{h:Nat->AB}(H:Ext h h'){K:KK}(hq:bV C o rho h K):∃v e n,K v e n/\∀K':KK,K' v e n->bV C o rho h' K':=by
 cases aK:o.op<;>simp only[bV,aK]at hq
 case move x=>exact⟨_,_,_,hq,fun K' h=>by simp only[bV,aK];exact h⟩
 case assign x=>exact⟨_,_,_,hq,fun K' h=>by simp only[bV,aK];exact h⟩
 case pick c a b=>
  split at hq
  ·rename_i h1;split at hq
   ·exact⟨_,_,_,hq,fun K' h=>by simp only[bV,aK,h1];exact h⟩
   exact⟨_,_,_,hq,fun K' h=>by simp only[bV,aK,h1];exact h⟩
  exact hq.elim
 case alloc e=>
  split at hq
  ·rename_i h1;split at hq
   ·rename_i h2;exact⟨_,_,_,hq,fun K' h=>by simp only[bV,aK,h1,h2];exact h⟩
   rename_i h2;exact⟨_,_,_,hq,fun K' h=>by simp only[bV,aK,h1,h2];exact h⟩
  exact hq.elim
 case box e x=>
  split at hq
  ·rename_i h1;exact⟨_,_,_,hq,fun K' h=>by simp only[bV,aK,h1];exact h⟩
  ·rename_i h1;exact⟨_,_,_,hq,fun K' h=>by simp only[bV,aK,h1];exact h⟩
  rename_i h1 tq;split at hq
  ·rename_i h2;have h3:=tD H h2;refine⟨_,_,_,hq,fun K' h=>?_⟩;simp only[bV,aK];cases RT:rho x with
   | p y=>
    cases y with
    | ag cs=>exact (h1 cs RT).elim
    | _=>rw[RT]at h3 h;simp only[h3];exact h
   | st xs=>exact (tq xs RT).elim
   | _=>rw[RT]at h3 h;simp only[h3];exact h
  exact hq.elim
 case binOp op t x y t'=>
  split at hq
  ·rename_i h1 h2;obtain⟨v,h3,h4⟩:=D2 hq;exact⟨_,_,_,h3,fun K' h=>by simp only[bV,aK,h1,h2];exact h4 _ h⟩
  ·rename_i h1 h2;obtain⟨v,h3,h4⟩:=D1 hq;exact⟨_,_,_,h3,fun K' h=>by simp only[bV,aK,h1,h2];exact h4 _ h⟩
  exact hq.elim
 case unOp op t x=>
  split at hq
  ·rename_i h1;exact⟨_,_,_,hq,fun K' h=>by simp only[bV,aK,h1];exact h⟩
  ·rename_i h1;obtain⟨v,h3,h4⟩:=n9 hq;exact⟨_,_,_,h3,fun K' h=>by simp only[bV,aK,h1];exact h4 _ h⟩
  exact hq.elim
 case convert src dst x=>
  split at hq
  ·rename_i h1 h2 h3;obtain⟨v,h5,h4⟩:=n9 hq;exact⟨_,_,_,h5,fun K' h=>by simp only[bV,aK,h1,h2,h3];exact h4 _ h⟩
  ·rename_i h1 h2 h3;exact⟨_,_,_,hq,fun K' h=>by simp only[bV,aK,h1,h2,h3];exact h⟩
  ·rename_i h1 h2 h3;exact⟨_,_,_,hq,fun K' h=>by simp only[bV,aK,h1,h2,h3];exact h⟩
  exact hq.elim
 case nilCheck x=>
  split at hq
  ·rename_i h1;exact⟨_,_,_,hq,fun K' h=>by simp only[bV,aK,h1];exact h⟩
  ·rename_i h1;split at hq
   ·rename_i h2;exact⟨_,_,_,hq,fun K' h=>by simp only[bV,aK,h1,H.box h2];exact h⟩
   ·rename_i h2;exact⟨_,_,_,hq,fun K' h=>by simp only[bV,aK,h1,H.jd h2];exact h⟩
   exact hq.elim
  ·rename_i h1;split at hq
   ·rename_i h2;exact⟨_,_,_,hq,fun K' h=>by simp only[bV,aK,h1,H.row h2];exact h⟩
   ·rename_i h2;exact⟨_,_,_,hq,fun K' h=>by simp only[bV,aK,h1,H.az h2];exact h⟩
   exact hq.elim
  exact hq.elim
 case extract x i=>
  split at hq
  ·rename_i h1;split at hq
   ·rename_i h2;exact⟨_,_,_,hq,fun K' h=>by simp only[bV,aK,h1,h2];exact h⟩
   exact hq.elim
  exact hq.elim
 case load t x=>
  split at hq
  ·exact hq.elim
  rename_i h0;split at hq
  ·rename_i h1;split at hq
   ·rename_i h2;split at hq
    ·rename_i h3;exact⟨_,_,_,hq,fun K' h=>by simp only[bV,aK,h0,h1,h2,h3];exact h⟩
    exact hq.elim
   rename_i h2;split at hq
   ·exact⟨_,_,_,hq,fun K' h=>by simp only[bV,aK,h0,h1,h2];exact h⟩
   exact hq.elim
  ·rename_i h1;split at hq
   ·rename_i h2;split at hq
    ·rename_i h3;split at hq
     ·rename_i h4 h5;exact⟨_,_,_,hq,fun K' h=>by simp only[bV,aK,h0,h1,H.box h2,h3,h4,h5];exact h⟩
     exact hq.elim
    rename_i h3;split at hq
    ·rename_i h4;exact⟨_,_,_,hq,fun K' h=>by simp only[bV,aK,h0,h1,H.box h2,h3,h4];exact h⟩
    exact hq.elim
   ·rename_i h2;split at hq
    ·rename_i h3;split at hq
     ·rename_i h4;exact⟨_,_,_,hq,fun K' h=>by simp only[bV,aK,h0,h1,H.jd h2,h3,h4];exact h⟩
     exact hq.elim
    rename_i h3;split at hq
    ·rename_i h4;exact⟨_,_,_,hq,fun K' h=>by simp only[bV,aK,h0,h1,H.jd h2,h3,h4];exact h⟩
    exact hq.elim
   exact hq.elim
  ·rename_i h1;split at hq
   ·rename_i h2;obtain⟨r,hr,hq⟩:=hq;split at hq
    ·rename_i h3;split at hq
     ·rename_i h4;exact⟨_,_,_,hq,fun K' h=>by simp only[bV,aK,h0,h1,H.row h2];refine⟨r,hr,?_⟩;simp only[h3,h4];exact h⟩
     exact hq.elim
    rename_i h3;split at hq
    ·rename_i h4;exact⟨_,_,_,hq,fun K' h=>by simp only[bV,aK,h0,h1,H.row h2];refine⟨r,hr,?_⟩;simp only[h3,h4];exact h⟩
    exact hq.elim
   ·rename_i h2;obtain⟨r,hr,hq⟩:=hq;split at hq
    ·exact hq.elim
    rename_i h3;split at hq
    ·rename_i h4;exact⟨_,_,_,hq,fun K' h=>by simp only[bV,aK,h0,h1,H.az h2];refine⟨r,hr,?_⟩;simp only[h3,h4];exact h⟩
    exact hq.elim
   exact hq.elim
  exact hq.elim
 case store t x y=>
  split at hq
  ·exact hq.elim
  rename_i h0;split at hq
  ·rename_i h1;split at hq
   ·rename_i h2;split at hq
    ·rename_i h3;obtain⟨z,fz,hq,hK⟩:=iu H hq;split at hq
     ·split at hq
      ·rename_i h4;refine⟨_,_,_,hq,fun K' h=>?_⟩;simp only[bV,aK,h0,h1,H.box h2,h3];refine hK _ ?_;simp only[h4];exact h
      exact hq.elim
     exact hq.elim
    rename_i h3;split at hq
    ·rename_i h4;simp only[aaZ]at h4;have h5:=tD H h4.2;refine⟨_,_,_,hq,fun K' h=>?_⟩;simp only[bV,aK,h0,h1,H.box h2,h3,h4.1.1,h4.1.2,h5,ac_];exact h
    exact hq.elim
   exact hq.elim
  ·rename_i h1;split at hq
   ·rename_i h2;obtain⟨r,hr,hq⟩:=hq;obtain⟨z,fz,hq,hK⟩:=iu H hq;split at hq
    ·rename_i h3;split at hq
     ·rename_i h4;refine⟨_,_,_,hq,fun K' h=>?_⟩;simp only[bV,aK,h0,h1,H.row h2];refine⟨r,hr,hK _ ?_⟩;simp only[h3,h4];exact h
     exact hq.elim
    exact hq.elim
   ·rename_i h2;obtain⟨r,hr,hq⟩:=hq;split at hq
    ·exact hq.elim
    rename_i h3;split at hq
    ·rename_i h4;simp only[aaZ]at h4;have h5:=tD H h4.2;refine⟨_,_,_,hq,fun K' h=>?_⟩;simp only[bV,aK,h0,h1,H.az h2];refine⟨r,hr,?_⟩;simp only[h3,h4.1.1,h4.1.2,h5,ac_];exact h
    exact hq.elim
   exact hq.elim
  exact hq.elim
 case fieldAddr t x f=>
  split at hq
  ·rename_i h0;split at hq
   ·rename_i h1;split at hq
    ·rename_i h2;exact⟨_,_,_,hq,fun K' h=>by simp only[bV,aK,h0,h1,h2];exact h⟩
    ·rename_i id o' h2;split at hq
     ·exact hq.elim
     rename_i b8;refine⟨_,_,_,hq,fun K' h=>?_⟩;simp only[bV,aK,h0,h1,h2];rcases H id with h4 | h4
     ·exact absurd h4 (by simpa using b8)
     rw[h4];split
     ·rename_i h5;exact absurd h5 (by simpa using b8)
     exact h
    ·rename_i h2;split at hq
     ·rename_i h3;exact⟨_,_,_,hq,fun K' h=>by simp only[bV,aK,h0,h1,h2,H.row h3];exact h⟩
     ·rename_i h3;exact⟨_,_,_,hq,fun K' h=>by simp only[bV,aK,h0,h1,h2,H.az h3];exact h⟩
     exact hq.elim
    exact hq.elim
   exact hq.elim
  exact hq.elim
 case field t x f=>
  split at hq
  ·rename_i h0 QB;split at hq
   ·rename_i h1;split at hq
    ·split at hq
     ·rename_i h3;exact⟨_,_,_,hq,fun K' h=>by simp only[bV,aK,h0,QB,h1,h3];exact h⟩
     exact hq.elim
    split at hq
    ·rename_i h3;exact⟨_,_,_,hq,fun K' h=>by simp only[bV,aK,h0,QB,h1,h3];exact h⟩
    exact hq.elim
   exact hq.elim
  exact hq.elim
 case indexAddr t x ix=>
  split at hq
  ·rename_i h0 QB;split at hq
   ·exact hq.elim
   rename_i h1;split at hq
   ·rename_i h2;obtain⟨r,hr,hq⟩:=hq;split at hq
    ·rename_i h3;exact⟨_,_,_,hq,fun K' h=>by simp only[bV,aK,h0,QB,h1,h2];refine⟨r,hr,?_⟩;simp only[h3];exact h⟩
    exact hq.elim
   ·rename_i h2;split at hq
    ·rename_i h3;split at hq
     ·rename_i h4;exact⟨_,_,_,hq.2,fun K' h=>by simp only[bV,aK,h0,QB,h1,h2,H.row h3,h4];exact⟨hq.1,h⟩⟩
     exact hq.elim
    ·rename_i h3;split at hq
     ·rename_i h4;exact⟨_,_,_,hq.2,fun K' h=>by simp only[bV,aK,h0,QB,h1,h2,H.az h3,h4];exact⟨hq.1,h⟩⟩
     exact hq.elim
    ·rename_i h3;obtain⟨r,hr,hq⟩:=hq;split at hq
     ·rename_i h4;exact⟨_,_,_,hq,fun K' h=>by simp only[bV,aK,h0,QB,h1,h2,H.jA h3];refine⟨r,hr,?_⟩;simp only[h4];exact h⟩
     exact hq.elim
    exact hq.elim
   ·rename_i h2;split at hq
    ·rename_i h3;split at hq
     ·rename_i h4;exact⟨_,_,_,hq.2,fun K' h=>by simp only[bV,aK,h0,QB,h1,h2,H.row h3,h4];exact⟨hq.1,h⟩⟩
     exact hq.elim
    exact hq.elim
   exact hq.elim
  exact hq.elim
 case index t x ix=>
  split at hq
  ·rename_i h0 h1 h2;obtain⟨b,hb,hq⟩:=hq;exact⟨_,_,_,hq,fun K' h=>by simp only[bV,aK,h0,h1,h2];exact⟨b,hb,h⟩⟩
  exact hq.elim
 case slice t x lo hi mx=>
  cases mx with
  | some m=>exact hq.elim
  | none=>
   simp only at hq;split at hq
   ·rename_i id hid;split at hq
    ·rename_i e' es hr;rcases hq with hq | hq
     ·obtain⟨v,e,n,hq,hK⟩:=JZ hq;exact⟨v,e,n,hq,fun K' h=>by simp only[bV,aK,hid,H.row hr];exact .inl (hK _ h)⟩
     obtain⟨v,e,n,hq,hK⟩:=afw H hq;exact⟨v,e,n,hq,fun K' h=>by simp only[bV,aK,hid,H.row hr];exact .inr (hK _ h)⟩
    rename_i b8;obtain⟨v,e,n,hq,hK⟩:=afw H hq;refine⟨v,e,n,hq,fun K' h=>?_⟩;simp only[bV,aK,hid];split
    ·exact .inr (hK _ h)
    exact hK _ h
   rename_i b8;obtain⟨v,e,n,hq,hK⟩:=afw H hq;refine⟨v,e,n,hq,fun K' h=>?_⟩;simp only[bV,aK]
   first
    | exact hK _ h
    | (
      split
      ·rename_i id hid;exact absurd hid (b8 id)
      exact hK _ h)
 case makeMap t r=>
  cases r with
  | some _=>exact hq.elim
  | none=>
   simp only at hq;split at hq
   ·rename_i h0;split at hq
    ·rename_i h1;split at hq
     ·rename_i h2;exact⟨_,_,_,hq,fun K' h=>by simp only[bV,aK,h0,h1,h2];exact h⟩
     exact hq.elim
    exact hq.elim
   exact hq.elim
 case lookup t x i ck=>
  split at hq
  case h_2=>exact hq.elim
  rename_i h0;split at hq
  case h_2=>exact hq.elim
  rename_i h1 h2;split at hq
  case h_2=>exact hq.elim
  rename_i h3;split at hq
  case h_2=>exact hq.elim
  rename_i h4;split at hq
  case h_2=>exact hq.elim
  rename_i h5;split at hq
  case h_2=>exact hq.elim
  rename_i h6;split at hq
  case h_2=>exact hq.elim
  rename_i h7;obtain⟨r,hr,hq⟩:=hq;cases ck with
  | true=>exact⟨_,_,_,hq,fun K' h=>by simp only[bV,aK,h0,h1,h2,h3,h4,H.map h5,h6,h7];exact⟨r,hr,h⟩⟩
  | false=>exact⟨_,_,_,hq,fun K' h=>by simp only[bV,aK,h0,h1,h2,h3,h4,H.map h5,h6,h7];exact⟨r,hr,h⟩⟩
 case mapUpdate t x i y=>
  split at hq
  case h_2=>exact hq.elim
  rename_i h0;split at hq
  case h_2=>exact hq.elim
  rename_i h1;split at hq
  case h_2=>exact hq.elim
  rename_i h3;split at hq
  case h_2=>exact hq.elim
  rename_i h4;split at hq
  case h_2=>exact hq.elim
  rename_i h5;split at hq
  case h_2=>exact hq.elim
  rename_i h6;split at hq
  case h_2=>exact hq.elim
  rename_i h7;obtain⟨z,fz,hq,hK⟩:=iu H hq;split at hq
  case h_2=>exact hq.elim
  rename_i h8;refine⟨_,_,_,hq,fun K' h=>?_⟩;simp only[bV,aK,h0,h1,h3,h4,H.map h5,h6,h7];refine hK _ ?_;simp only[h8];exact h
 case build t ps=>
  split at hq
  ·rename_i h0;split at hq
   ·rename_i h1;obtain⟨z,fz,hq,hK⟩:=JS H hq;exact⟨_,_,_,hq,fun K' h=>by simp only[bV,aK,h0,h1];exact hK _ h⟩
   rename_i h1;obtain⟨z,hq,hK⟩:=A9 H hq;exact⟨_,_,_,hq,fun K' h=>by simp only[bV,aK,h0,h1];exact hK _ h⟩
  exact hq.elim
 case buildSlice t len ps=>
  split at hq
  ·rename_i h0;split at hq
   ·rename_i h1;split at hq
    ·rename_i h2;split at hq
     ·rename_i h3;obtain⟨z,fz,hq,hK⟩:=yj H hq;exact⟨_,_,_,hq,fun K' h=>by simp only[bV,aK,h0,h1,h2,h3];exact hK _ h⟩
     rename_i h3;obtain⟨z,fz,hq,hK⟩:=yj H hq;exact⟨_,_,_,hq,fun K' h=>by simp only[bV,aK,h0,h1,h2,h3];exact hK _ h⟩
    exact hq.elim
   exact hq.elim
  exact hq.elim
 case makeSlice t n c=>
  split at hq
  ·rename_i h0 h1 h2;split at hq
   ·rename_i h3;split at hq
    ·rename_i h4;exact⟨_,_,_,hq.2,fun K' h=>by simp only[bV,aK,h0,h1,h2,h3,h4];exact⟨hq.1,h⟩⟩
    exact hq.elim
   exact hq.elim
  exact hq.elim
 case makeFunc fn first cap=>
  cases fn with
  | func f=>
   simp only at hq;split at hq
   ·rename_i h1;exact⟨_,_,_,hq,fun K' h=>by simp only[bV,aK,h1];exact h⟩
   exact hq.elim
  | _=>exact hq.elim
 case call c=>
  split at hq
  ·rename_i h0;split at hq
   ·rename_i h1 h2;split at hq
    ·rename_i h3;split at hq
     ·rename_i h4;exact⟨_,_,_,hq,fun K' h=>by simp only[bV,aK,h0,h1,h2,h3,h4];exact h⟩
     exact hq.elim
    ·rename_i h3;split at hq
     ·rename_i m hm;exact⟨_,_,_,hq,fun K' h=>by simp only[bV,aK,h0,h1,h2,h3,JQ H hm];exact h⟩
     have hn:=JR H hq;obtain⟨es,hq,hK⟩:=yi H hq;exact⟨_,_,_,hq,fun K' h=>by simp only[bV,aK,h0,h1,h2,h3,hn];exact hK _ h⟩
    ·rename_i h3;split at hq
     ·rename_i h4;split at hq
      ·rename_i h5;exact⟨_,_,_,hq,fun K' h=>by simp only[bV,aK,h0,h1,h2,h3,h4,H.map h5];exact h⟩
      exact hq.elim
     exact hq.elim
    exact hq.elim
   exact hq.elim
  ·rename_i h0;split at hq
   case h_2=>exact hq.elim
   rename_i h1 h2;split at hq
   case h_2=>exact hq.elim
   rename_i h3;split at hq
   case h_2=>exact hq.elim
   rename_i h4;split at hq
   case h_2=>exact hq.elim
   rename_i h5;split at hq
   case h_2=>exact hq.elim
   rename_i h6;split at hq
   case h_2=>exact hq.elim
   rename_i h7;exact⟨_,_,_,hq.2,fun K' h=>by simp only[bV,aK,h0,h1,h2,h3,h4,h5,H.row h6,h7];exact⟨hq.1,h⟩⟩
  ·rename_i h0;split at hq
   ·rename_i h1;split at hq
    ·rename_i h2 h3;exact⟨_,_,_,hq,fun K' h=>by simp only[bV,aK,h0,h1,h2,h3];exact h⟩
    exact hq.elim
   exact hq.elim
  ·rename_i h0;split at hq
   ·rename_i h1;split at hq
    ·rename_i h2 h3;exact⟨_,_,_,hq,fun K' h=>by simp only[bV,aK,h0,h1,h2,h3];exact h⟩
    exact hq.elim
   ·rename_i h1;split at hq
    ·rename_i h2 h3 h4;exact⟨_,_,_,hq,fun K' h=>by simp only[bV,aK,h0,h1,h2,h3,h4];exact h⟩
    exact hq.elim
   ·rename_i h1;split at hq
    ·rename_i h2 h3 h4 h5 h6;exact⟨_,_,_,hq,fun K' h=>by simp only[bV,aK,h0,h1,h2,h3,h4,h5,h6];exact h⟩
    exact hq.elim
   exact hq.elim
  ·rename_i h0;split at hq
   ·rename_i h1 h2;split at hq
    ·rename_i h3 h4;split at hq
     ·rename_i h5;split at hq
      ·rename_i h6;obtain⟨es,hq,hK⟩:=yi H hq;split at hq
       ·rename_i h7;refine⟨_,_,_,hq.2,fun K' h=>?_⟩;simp only[bV,aK,h0,h1,h2,h3,h4,h5,h6];refine hK _ ?_;simp only[h7];exact⟨hq.1,h⟩
       ·rename_i h7;split at hq
        ·rename_i h8;split at hq
         ·rename_i h9;refine⟨_,_,_,hq.2,fun K' h=>?_⟩;simp only[bV,aK,h0,h1,h2,h3,h4,h5,h6];refine hK _ ?_;simp only[h7,H.row h8,h9];exact⟨hq.1,h⟩
         exact hq.elim
        ·rename_i h8;split at hq
         ·rename_i h9;refine⟨_,_,_,hq.2,fun K' h=>?_⟩;simp only[bV,aK,h0,h1,h2,h3,h4,h5,h6];refine hK _ ?_;simp only[h7,H.az h8,h9];exact⟨hq.1,h⟩
         exact hq.elim
        exact hq.elim
       exact hq.elim
      exact hq.elim
     exact hq.elim
    exact hq.elim
   exact hq.elim
  ·rename_i h0;split at hq
   ·rename_i h1;split at hq
    ·rename_i h2;obtain⟨v,e,n,hq,hK⟩:=JX H hq;exact⟨_,_,_,hq,fun K' h=>by simp only[bV,aK,h0,h1,h2];exact hK _ h⟩
    rename_i h2;obtain⟨v,e,n,hq,hK⟩:=JY H hq;exact⟨_,_,_,hq,fun K' h=>by simp only[bV,aK,h0,h1,h2];exact hK _ h⟩
   exact hq.elim
  exact hq.elim
 all_goals exact hq.elim
theorem L7(A:cD)(o:Oper):iE A o:=by
 cases aK:o.op
 case move x=>exact OA x aK
 case assign x=>exact Ju x aK
 case pick c x y=>exact OB c x y aK
 case alloc e=>exact LC e aK
 case box e x=>exact Rw e x aK
 case build t ps=>exact LO t ps aK
 case buildSlice t n ps=>exact Ap t n ps aK
 case load t x=>exact OF t x aK
 case store t x y=>exact LH t x y aK
 case nilCheck x=>exact DR x aK
 case binOp op t x y t'=>exact Lv op t x y t' aK
 case unOp op t x=>exact OE op t x aK
 case convert s d x=>exact Gb s d x aK
 case makeFunc fn first cap=>
  cases fn with
  | func f=>exact DS f first cap aK
  | _=>intro V L S rho s a w K next Q hC sim hV hd hq;simp only[bV,aK]at hq
 case makeSlice t n c=>exact Co t n c aK
 case makeMap t r=>
  cases r with
  | none=>exact Gh t aK
  | some r=>intro V L S rho s a w K next Q hC sim hV hd hq;simp only[bV,aK]at hq
 case lookup t x i ck=>exact JH t x i ck aK
 case mapUpdate t x i y=>exact Cr t x i y aK
 case slice t x lo hi mx=>
  cases mx with
  | none=>exact ok_slice t x lo hi aK
  | some m=>intro V L S rho s a w K next Q hC sim hV hd hq;simp only[bV,aK]at hq
 case fieldAddr t x f=>exact Ci t x f aK
 case field t x f=>exact Ly t x f aK
 case indexAddr t x ix=>exact Ck t x ix aK
 case index t x ix=>exact Lz t x ix aK
 case extract x i=>exact F_ x i aK
 case call c=>
  cases hc:c.callee with
  | value g=>exact OZ c g aK hc
  | invoke r m=>intro V L S rho s a w K next Q hC sim hV hd hq;simp only[bV,aK,hc,aeC,fy]at hq
  | builtin b=>
   cases b
   case len=>exact RA c aK hc
   case min=>exact RB c aK hc
   case max=>exact RC c aK hc
   case append=>exact JD c aK hc
   case clear=>exact LV c aK hc
   all_goals (intro V L S rho s a w K next Q hC sim hV hd hq;simp only[bV,aK,hc,aeC,fy]at hq)
 all_goals (intro V L S rho s a w K next Q hC sim hV hd hq;simp only[bV,aK]at hq)
end Go.AM
namespace Go.AM
open Go.RowKit
def cq(a b:Nat):Bool:=Nat.beq a b
theorem a7{a b:Nat}:cq a b=true↔a=b:=by unfold cq;exact⟨aa2,fun h=>by subst h;simp⟩
mutual
def rQ(d:Nat):AV->Bool
 | .ow i=>cq i d
 | .rp i _ _=>cq i d
 | .bx i _=>cq i d
 | .vw i _ _=>cq i d
 | .fn _ cap=>gI d cap
 | .tu xs=>gI d xs
 | .st xs=>gI d xs
 | _=>false
def gI(d:Nat):List AV->Bool
 | []=>false
 | x::r=>rQ d x||gI d r
end
def rn(i d:Nat):AV->AV
 | .ow k=>match cq k i with
  | true=>.ow d
  | false=>match cq k d with
   | true=>.junk
   | false=>.ow k
 | .rp k a b=>match cq k i with
  | true=>.rp d a b
  | false=>match cq k d with
   | true=>.junk
   | false=>.rp k a b
 | .bx k a=>match cq k i with
  | true=>.bx d a
  | false=>match cq k d with
   | true=>.junk
   | false=>.bx k a
 | .vw k a b=>match cq k i with
  | true=>.vw d a b
  | false=>match cq k d with
   | true=>.junk
   | false=>.vw k a b
 | .fn f cap=>match gI i cap||gI d cap with
  | true=>.junk
  | false=>.fn f cap
 | .tu xs=>match gI i xs||gI d xs with
  | true=>.junk
  | false=>.tu xs
 | .st xs=>match gI i xs||gI d xs with
  | true=>.junk
  | false=>.st xs
 | x=>x
def HX.cS(f:AV->AV):HX->HX
 | .av x=>.av (f x)
 | .row e es=>.row e es
def L8(i d:Nat):AB->AB
 | .az e es=>.az e (es.map fun r=>r.map (HX.cS (rn i d)))
 | .box cs=>.box (cs.map (rn i d))
 | .gC ty cs=>.gC ty (cs.map (rn i d))
 | b=>b
def mR(i d:Nat)(s:AS):AS:=⟨fun j=>rn i d (s.t j),fun j=>match cq j d with
 | true=>L8 i d (s.h i)
 | false=>match cq j i with
  | true=>.none
  | false=>L8 i d (s.h j)⟩
def sc(d:Nat):AV->AV
 | .p x=>.p x
 | .nl=>.nl
 | .ow i=>match cq i d with
  | true=>.junk
  | false=>.ow i
 | .rp i a b=>match cq i d with
  | true=>.junk
  | false=>.rp i a b
 | .bx i a=>match cq i d with
  | true=>.junk
  | false=>.bx i a
 | .vw i a b=>match cq i d with
  | true=>.junk
  | false=>.vw i a b
 | .fn f cap=>match gI d cap with
  | true=>.junk
  | false=>.fn f cap
 | .tu xs=>match gI d xs with
  | true=>.junk
  | false=>.tu xs
 | .st xs=>match gI d xs with
  | true=>.junk
  | false=>.st xs
 | .junk=>.junk
theorem L9(d:Nat)(x:AV):sc d x=match rQ d x with
  | true=>.junk
  | false=>x:=by cases x<;>rfl
def xm(d:Nat):AB->AB
 | .az e es=>.az e (es.map fun r=>r.map (HX.cS (sc d)))
 | .box cs=>.box (cs.map (sc d))
 | .gC ty cs=>.gC ty (cs.map (sc d))
 | b=>b
def gX(d:Nat)(s:AS):AS:=⟨fun j=>sc d (s.t j),aT (fun k=>xm d (s.h k)) d .none⟩
def cE:Nat->Prop:=fun _=>True
theorem ve(i d:Nat)(b:AB):(L8 i d b).there↔b.there:=by cases b<;>rfl
theorem D3(i d:Nat)(b:AB):(L8 i d b).live↔b.live:=by cases b<;>rfl
structure D4(L L':Nat->Prop)(rho rho':Nat->Value)(h h':Nat->AB)(i d:Nat):Prop where
 old:∀k,k≠i->k≠d->((h' k).there->(h k).there)/\(L k->L' k)/\rho' k=rho k/\(∀e,(h' k).oG=some e->(h k).oG=some e)
 new:i≠d->((h' d).there->(h i).there)/\(L i->L' d)/\rho' d=rho i/\(∀e,(h' d).oG=some e->(h i).oG=some e)
theorem cX{d:Nat}:∀{xs:List AV},gI d xs=false->∀x∈xs,rQ d x=false:=by
 intro xs
 induction xs with
 | nil=>intro _ x hx;cases hx
 | cons y xs ih=>
  intro h x hx;simp only[gI,adX]at h;rcases adq.1 hx with e | e
  ·rw[e];exact h.1
  exact ih h.2 x e
variable {w:World} {L L':Nat->Prop} {rho:Nat->Value} {h':Nat->AB}
theorem aY.qn{S:Nat->Prop}{P:Program}{rho':Nat->Value}{h:Nat->AB}{i d:Nat}(T:D4 L L' rho rho' h h' i d){x:AV}{v:Value}(hx:aY S w P L rho h x v)(h1:rQ i x=false)(h2:rQ d x=false):aY S w P L' rho' h' x v:=by
 induction hx with
 | p x v hx=>exact .p x v hx
 | nl=>exact .nl
 | ow k v hv=>
  have e1:k≠i:=fun e=>by rw[rQ,a7.2 e]at h1;cases h1
  have e2:k≠d:=fun e=>by rw[rQ,a7.2 e]at h2;cases h2
  obtain⟨t1,t2,t3,t4⟩:=T.old k e1 e2;exact .ow k v fun ht=>⟨t2 (hv (t1 ht)).1,by rw[t3];exact (hv (t1 ht)).2⟩
 | rp k a b v hv=>
  have e1:k≠i:=fun e=>by rw[rQ,a7.2 e]at h1;cases h1
  have e2:k≠d:=fun e=>by rw[rQ,a7.2 e]at h2;cases h2
  obtain⟨t1,t2,t3,t4⟩:=T.old k e1 e2;exact .rp k a b v fun e he=>by obtain⟨q1,q2⟩:=hv e (t4 e he);exact⟨t2 q1,by rw[t3];exact q2⟩
 | bx k a v hv=>
  have e1:k≠i:=fun e=>by rw[rQ,a7.2 e]at h1;cases h1
  have e2:k≠d:=fun e=>by rw[rQ,a7.2 e]at h2;cases h2
  obtain⟨t1,t2,t3,t4⟩:=T.old k e1 e2;exact .bx k a v fun ht=>⟨t2 (hv (t1 ht)).1,by rw[t3];exact (hv (t1 ht)).2⟩
 | vw k a b v hv=>
  have e1:k≠i:=fun e=>by rw[rQ,a7.2 e]at h1;cases h1
  have e2:k≠d:=fun e=>by rw[rQ,a7.2 e]at h2;cases h2
  obtain⟨t1,t2,t3,t4⟩:=T.old k e1 e2;exact .vw k a b v fun e he=>by obtain⟨q1,q2⟩:=hv e (t4 e he);exact⟨t2 q1,by rw[t3];exact q2⟩
 | fn f cap vs hl hc ih=>exact .fn f cap vs hl fun j c u hj hu=>ih j c u hj hu (cX h1 c (aad hj)) (cX h2 c (aad hj))
 | tu xs vs hl hc ih=>exact .tu xs vs hl fun j c u hj hu=>ih j c u hj hu (cX h1 c (aad hj)) (cX h2 c (aad hj))
 | st xs vs hl h0 hc ih=>exact .st xs vs hl h0 fun j c u hj hu=>ih j c u hj hu (cX h1 c (aad hj)) (cX h2 c (aad hj))
 | junk v=>exact .junk v
theorem aY.rn{S:Nat->Prop}{P:Program}{rho':Nat->Value}{h:Nat->AB}{i d:Nat}(T:D4 L L' rho rho' h h' i d)(hid:i≠d\/∀k,k=d->¬(h' k).there ){x:AV}{v:Value}(hx:aY S w P L rho h x v):aY S w P L' rho' h' (rn i d x) v:=by
 have dead:i=d->¬(h' d).there:=fun e=>hid.resolve_left (fun h=>h e) d rfl;cases hx with
 | p x v hx=>exact .p x v hx
 | nl=>exact .nl
 | ow k v hv=>
  unfold AM.rn;simp only;split
  ·rename_i hk;have hk:=a7.1 hk;subst hk;refine .ow d v fun ht=>?_;by_cases e:k=d
   ·exact absurd ht (dead e)
   obtain⟨t1,t2,t3,t4⟩:=T.new e;exact⟨t2 (hv (t1 ht)).1,by rw[t3];exact (hv (t1 ht)).2⟩
  rename_i hk;split
  ·exact .junk v
  rename_i l_;exact aY.qn T (.ow k v hv) (by simpa [rQ] using hk) (by simpa [rQ] using l_)
 | rp k a b v hv=>
  unfold AM.rn;simp only;split
  ·rename_i hk;have hk:=a7.1 hk;subst hk;refine .rp d a b v fun e he=>?_;by_cases e':k=d
   ·exact absurd (oK he) (dead e')
   obtain⟨t1,t2,t3,t4⟩:=T.new e';obtain⟨q1,q2⟩:=hv e (t4 e he);exact⟨t2 q1,by rw[t3];exact q2⟩
  rename_i hk;split
  ·exact .junk v
  rename_i l_;exact aY.qn T (.rp k a b v hv) (by simpa [rQ] using hk) (by simpa [rQ] using l_)
 | vw k a b v hv=>
  unfold AM.rn;simp only;split
  ·rename_i hk;have hk:=a7.1 hk;subst hk;refine .vw d a b v fun e he=>?_;by_cases e':k=d
   ·exact absurd (oK he) (dead e')
   obtain⟨t1,t2,t3,t4⟩:=T.new e';obtain⟨q1,q2⟩:=hv e (t4 e he);exact⟨t2 q1,by rw[t3];exact q2⟩
  rename_i hk;split
  ·exact .junk v
  rename_i l_;exact aY.qn T (.vw k a b v hv) (by simpa [rQ] using hk) (by simpa [rQ] using l_)
 | bx k a v hv=>
  unfold AM.rn;simp only;split
  ·rename_i hk;have hk:=a7.1 hk;subst hk;refine .bx d a v fun ht=>?_;by_cases e:k=d
   ·exact absurd ht (dead e)
   obtain⟨t1,t2,t3,t4⟩:=T.new e;exact⟨t2 (hv (t1 ht)).1,by rw[t3];exact (hv (t1 ht)).2⟩
  rename_i hk;split
  ·exact .junk v
  rename_i l_;exact aY.qn T (.bx k a v hv) (by simpa [rQ] using hk) (by simpa [rQ] using l_)
 | fn f cap vs hl hc=>
  unfold AM.rn;simp only;split
  ·exact .junk _
  rename_i hm;simp only[adX]at hm;exact .fn f cap vs hl fun j c u hj hu=>(hc j c u hj hu).qn T (cX hm.1 c (aad hj)) (cX hm.2 c (aad hj))
 | tu xs vs hl hc=>
  unfold AM.rn;simp only;split
  ·exact .junk _
  rename_i hm;simp only[adX]at hm;exact .tu xs vs hl fun j c u hj hu=>(hc j c u hj hu).qn T (cX hm.1 c (aad hj)) (cX hm.2 c (aad hj))
 | st xs vs hl h0 hc=>
  unfold AM.rn;simp only;split
  ·exact .junk _
  rename_i hm;simp only[adX]at hm;exact .st xs vs hl h0 fun j c u hj hu=>(hc j c u hj hu).qn T (cX hm.1 c (aad hj)) (cX hm.2 c (aad hj))
 | junk v=>exact .junk v
variable {es:List (List HX)}
theorem oO{f:AV->AV}{g a j:Nat}{u:Value}:dF w (es.map fun r=>r.map (HX.cS f)) g a j u↔dF w es g a j u:=by
 constructor
 ·rintro⟨r,e,xs,c,ty,m,h1,h2,h3,h4⟩;rw[aak]at h1;obtain⟨q,hq,rfl⟩:=acq.1 h1;rw[aak]at h2;obtain⟨z,hz,rC⟩:=acq.1 h2;rw[aej]at h4;cases z with
  | av x=>cases rC
  | row e' rN=>exact⟨q,e',rN,c,ty,m,hq,hz,h3,h4⟩
 rintro⟨r,e,xs,c,ty,m,h1,h2,h3,h4⟩;exact⟨r.map (HX.cS f),e,xs,c,ty,m,by rw[aak,h1];rfl,by rw[aak,h2];rfl,h3,by rw[aej];exact h4⟩
theorem uZ.map{f:AV->AV}{v:Value}(h:uZ w es v):uZ w (es.map fun r=>r.map (HX.cS f)) v:=
 ⟨fun g a j u b h1 h2 h3=>h.top g a j u b h1 (oO.1 h2) h3,fun g a j a' j' u u' b h1 h2 h3 h4 h5=>h.dis g a j a' j' u u' b h1 (oO.1 h2) (oO.1 h3) h4 h5⟩
variable {e:TypeId}
theorem aG.map{P:Program}{R R':HX->Value->Prop}{f:AV->AV}{v:Value}(h:aG P w R e es v)(hR:∀x u,R x u->R' (HX.cS f x) u):aG P w R' e (es.map fun r=>r.map (HX.cS f)) v:=by
 obtain⟨i,xs,h1,h2,h3,h4,h5,h6⟩:=h;refine⟨i,xs,h1,h2,by rw[aej];exact h3,fun r hr=>?_,h5,fun a r j x ha hj=>?_⟩
 ·obtain⟨q,hq,rfl⟩:=adS.1 hr;rw[aej];exact h4 q hq
 rw[aak]at ha;obtain⟨q,hq,rfl⟩:=acq.1 ha;rw[aak]at hj;obtain⟨z,hz,rfl⟩:=acq.1 hj;obtain⟨u,hu,hr⟩:=h6 a q j z hq hz;exact⟨u,hu,hR _ _ hr⟩
theorem dS{v:Value}{k:Nat}:hasB w (.az e es) v k↔cC v=some k\/∃g a j u,cC v=some g/\dF w es g a j u/\cC u=some k:=by
 constructor
 ·rintro (h | ⟨cs,g,h,_⟩ | ⟨e',de,g,a,j,u,h,h1,h2,h3⟩)
  ·exact .inl h
  ·cases h
  injection h with h4 h5;subst h4 h5;exact .inr ⟨g,a,j,u,h1,h2,h3⟩
 rintro (h | ⟨g,a,j,u,h1,h2,h3⟩)
 ·exact .inl h
 exact .inr (.inr ⟨_,_,_,_,_,_,rfl,h1,h2,h3⟩)
theorem A_{f:AV->AV}{v:Value}{k:Nat}:hasB w (.az e (es.map fun r=>r.map (HX.cS f))) v k↔hasB w (.az e es) v k:=by
 rw[dS,dS];simp only[oO]
theorem Iu(i d:Nat)(b:AB)(v:Value)(g:Nat):hasB w (L8 i d b) v g↔hasB w b v g:=by
 cases b with
 | az e es=>exact A_
 | box cs=>exact⟨fun h=>.inl (aI rfl h),fun h=>.inl (aI rfl h)⟩
 | gC ty cs=>exact⟨fun h=>.inl (aI rfl h),fun h=>.inl (aI rfl h)⟩
 | _=>exact aaT
variable {A:cD} {s:AS}
theorem b7.rename{S:Nat->Prop}{a:Act}(sim:b7 A cE cE S rho s a w)(i d:Nat)(hid:i≠d)(hdb:d<100000):b7 A cE cE S (fun j=>if j=d then rho i else rho j) (mR i d s) a w:=by
 have hd:(mR i d s).h d=L8 i d (s.h i):=by simp[mR,cq]
 have hi:(mR i d s).h i=.none:=by
  have:cq i d=false:=by rw[aaV];intro e;exact hid (a7.1 e)
  simp only[mR,this,a7.2 rfl]
 have ho:∀k,k≠i->k≠d->(mR i d s).h k=L8 i d (s.h k):=fun k h1 h2=>by
  have e1:cq k d=false:=by rw[aaV];intro e;exact h2 (a7.1 e)
  have e2:cq k i=false:=by rw[aaV];intro e;exact h1 (a7.1 e)
  simp[mR,e1,e2]
 have row:∀b e,(L8 i d b).oG=some e->b.oG=some e:=fun b e h=>by cases b<;>exact h
 have T:D4 cE cE rho (fun j=>if j=d then rho i else rho j) s.h (mR i d s).h i d:=
  ⟨fun k h1 h2=>by rw[ho k h1 h2];exact⟨(ve _ _ _).1,fun h=>h,aaa h2,row _⟩,fun _=>by rw[hd];exact⟨(ve _ _ _).1,fun h=>h,aap rfl,row _⟩⟩
 have Xg:∀k,((mR i d s).h k).live->∃k',(s.h k').live/\(if k=d then rho i else rho k)=rho k'/\(k'=if k=d then i else k)/\∀v g,hasB w ((mR i d s).h k) v g↔hasB w (s.h k') v g:=by
  intro k hl;by_cases e:k=d
  ·subst e;rw[hd,D3]at hl;exact⟨i,hl,aap rfl,(aap rfl).symm,fun v g=>by rw[hd,Iu]⟩
  by_cases e':k=i
  ·subst e';rw[hi]at hl;exact hl.elim
  rw[ho k e' e,D3]at hl;exact⟨k,hl,aaa e,(aaa e).symm,fun v g=>by rw[ho k e' e,Iu]⟩
 have hrep:∀k b,eK S w A.C.P cE rho s.h k b->∀k',(if k'=d then rho i else rho k')=rho k->eK S w A.C.P cE (fun j=>if j=d then rho i else rho j) (mR i d s).h k' (L8 i d b):=by
  intro k b hb k' hk;cases b with
  | none=>trivial
  | row e es=>show aG _ _ _ _ _ (if k'=d then rho i else rho k');rw[hk];exact hb
  | jA es=>show aO _ _ _ (if k'=d then rho i else rho k');rw[hk];exact hb
  | jd es=>show aO _ _ _ (if k'=d then rho i else rho k');rw[hk];exact hb
  | map mk es=>
   obtain⟨g,ms,clock,h1,h2⟩:=hb;exact⟨g,ms,clock,by simp only;rw[hk];exact h1,h2⟩
  | box cs=>
   obtain⟨g,ty,c,h1,h2,h3,h4⟩:=hb;refine⟨g,ty,c,by simp only;rw[hk];exact h1,h2,by simpa using h3,fun j x u hj hu=>?_⟩;rw[aak]at hj;obtain⟨z,hz,rfl⟩:=acq.1 hj;exact⟨(h4 j z u hz hu).1,(h4 j z u hz hu).2.rn T (.inl hid)⟩
  | gC ty cs=>
   obtain⟨g,c,h1,h2,h3,h4⟩:=hb;refine⟨g,c,by simp only;rw[hk];exact h1,h2,by simpa using h3,fun j x u hj hu=>?_⟩;rw[aak]at hj;obtain⟨z,hz,rfl⟩:=acq.1 hj;exact⟨(h4 j z u hz hu).1,(h4 j z u hz hu).2.rn T (.inl hid)⟩
  | aN cs=>
   obtain⟨g,ty,c,h1,h2⟩:=hb;exact⟨g,ty,c,by simp only;rw[hk];exact h1,h2⟩
  | az e es=>
   obtain⟨h1,h2⟩:=hb;show aG _ _ _ _ _ (if k'=d then rho i else rho k')/\uZ _ _ (if k'=d then rho i else rho k');rw[hk];refine⟨aG.map h1 fun x u hx=>?_,h2.map⟩;cases x with
   | av x=>exact aY.rn T (.inl hid) hx
   | row e' de=>exact hx
 exact
 {tm:=fun j hj=>(sim.tm j hj).rn T (.inl hid)
  sz:=sim.sz,df:=sim.df,nb:=sim.nb,pn:=fun id h=>by show (if id=d then rho i else rho id)=_;rw[aaa (by omega)];exact sim.pn id h,ev:=sim.ev,s0:=sim.s0,st:=sim.st,sb:=sim.sb
  hp:=fun k _=>by
   by_cases e:k=d
   ·subst e;rw[hd];exact hrep i _ (sim.hp i trivial) k (aap rfl)
   by_cases e':k=i
   ·subst e';rw[hi];trivial
   rw[ho k e' e];exact hrep k _ (sim.hp k trivial) k (aaa e)
  dj:=fun a b g _ _ la lb ha hb=>by
   obtain⟨a',h1,h2,h3,h7⟩:=Xg a la;obtain⟨b',h4,h5,h6,h8⟩:=Xg b lb;have:=sim.dj a' b' g trivial trivial h1 h4 (by rw[<-h7,<-h2];exact ha) (by rw[<-h8,<-h5];exact hb);rw[h3,h6]at this;by_cases ea:a=d<;>by_cases eb:b=d
   ·rw[ea,eb]
   ·rw[aap ea,aaa eb]at this;rw[<-this]at lb;rw[hi]at lb;exact lb.elim
   ·rw[aaa ea,aap eb]at this;rw[this]at la;rw[hi]at la;exact la.elim
   rwa [aaa ea,aaa eb]at this
  lv:=fun k g _ lk hk=>by
   obtain⟨k',h1,h2,_,h3⟩:=Xg k lk;exact sim.lv k' g trivial h1 (by rw[<-h3,<-h2];exact hk)
  fr:=sim.fr }
theorem aY.sc{S:Nat->Prop}{P:Program}{h:Nat->AB}{d:Nat}(T:D4 L L' rho rho h h' d d){x:AV}{v:Value}(hx:aY S w P L rho h x v):aY S w P L' rho h' (sc d x) v:=by
 rw[L9];split
 ·exact .junk v
 rename_i hm;exact hx.qn T hm hm
theorem J0(d:Nat)(b:AB):(xm d b).there↔b.there:=by cases b<;>rfl
theorem yk(d:Nat)(b:AB):(xm d b).live↔b.live:=by cases b<;>rfl
theorem Cw(d:Nat)(b:AB)(v:Value)(g:Nat):hasB w (xm d b) v g↔hasB w b v g:=by
 cases b with
 | az e es=>exact A_
 | box cs=>exact⟨fun h=>.inl (aI rfl h),fun h=>.inl (aI rfl h)⟩
 | gC ty cs=>exact⟨fun h=>.inl (aI rfl h),fun h=>.inl (aI rfl h)⟩
 | _=>exact aaT
theorem b7.QC{S:Nat->Prop}{a:Act}(sim:b7 A cE L S rho s a w)(d:Nat)(b:AB):b7 A cE (fun k=>L k/\k≠d) S rho ⟨(gX d s).t,aT (gX d s).h d b⟩ a w:=by
 have ho:∀k,k≠d->aT (gX d s).h d b k=xm d (s.h k):=fun k hk=>by rw[aV _ _ hk];show aT (fun k=>xm d (s.h k)) d AB.none k=_;rw[aV _ _ hk]
 have row:∀x e,(xm d x).oG=some e->x.oG=some e:=fun x e h=>by cases x<;>exact h
 have T:D4 L (fun k=>L k/\k≠d) rho rho s.h (aT (gX d s).h d b) d d:=
  ⟨fun k h1 _=>by rw[ho k h1];exact⟨(J0 _ _).1,fun h=>⟨h,h1⟩,rfl,row _⟩,fun h=>absurd rfl h⟩
 exact
 {tm:=fun j hj=>(sim.tm j hj).sc T
  sz:=sim.sz,df:=sim.df,nb:=sim.nb,pn:=sim.pn,ev:=sim.ev,s0:=sim.s0,st:=sim.st,sb:=sim.sb
  hp:=fun k hk=>by
   show eK _ _ _ _ _ _ _ (aT (gX d s).h d b k);rw[ho k hk.2];have hh:=sim.hp k hk.1;cases hb:s.h k with
   | none=>trivial
   | row e es=>rw[hb]at hh;exact hh
   | jA es=>rw[hb]at hh;exact hh
   | jd es=>rw[hb]at hh;exact hh
   | map mk es=>rw[hb]at hh;exact hh
   | box cs=>
    rw[hb]at hh;obtain⟨g,ty,c,h1,h2,h3,h4⟩:=hh;refine⟨g,ty,c,h1,h2,by simpa using h3,fun j x u hj hu=>?_⟩;rw[aak]at hj;obtain⟨z,hz,rfl⟩:=acq.1 hj;exact⟨(h4 j z u hz hu).1,(h4 j z u hz hu).2.sc T⟩
   | gC ty cs=>
    rw[hb]at hh;obtain⟨g,c,h1,h2,h3,h4⟩:=hh;refine⟨g,c,h1,h2,by simpa using h3,fun j x u hj hu=>?_⟩;rw[aak]at hj;obtain⟨z,hz,rfl⟩:=acq.1 hj;exact⟨(h4 j z u hz hu).1,(h4 j z u hz hu).2.sc T⟩
   | aN cs=>rw[hb]at hh;exact hh
   | az e es=>
    rw[hb]at hh;obtain⟨h1,h2⟩:=hh;refine⟨aG.map h1 fun x u hx=>?_,h2.map⟩;cases x with
    | av x=>exact aY.sc T hx
    | row e' de=>exact hx
  dj:=fun i j g hi hj li lj eM jH=>by
   have nT:(aT (gX d s).h d b i).live:=li;have Ui:(aT (gX d s).h d b j).live:=lj;have eM:hasB w (aT (gX d s).h d b i) (rho i) g:=eM;have jH:hasB w (aT (gX d s).h d b j) (rho j) g:=jH;rw[ho i hi.2,yk]at nT;rw[ho j hj.2,yk]at Ui;rw[ho i hi.2,Cw]at eM;rw[ho j hj.2,Cw]at jH;exact sim.dj i j g hi.1 hj.1 nT Ui eM jH
  lv:=fun i g hi li hg=>by
   have nT:(aT (gX d s).h d b i).live:=li;have hg:hasB w (aT (gX d s).h d b i) (rho i) g:=hg;rw[ho i hi.2,yk]at nT;rw[ho i hi.2,Cw]at hg;exact sim.lv i g hi.1 nT hg
  fr:=sim.fr }
theorem b7.qo{V V' S:Nat->Prop}{a:Act}(sim:b7 A V L S rho s a w)(hV:∀j,V' j->V j)(hL:∀i,L' i↔L i):b7 A V' L' S rho s a w:=by
 have e:L'=L:=funext fun i=>propext (hL i);subst e;exact { sim with tm:=fun j hj=>sim.tm j (hV j hj) }
theorem b7.Iv{V S:Nat->Prop}{a:Act}(d:Nat)(sim:b7 A V (fun k=>k≠d) S rho s a w)(hn:s.h d=.none):b7 A V cE S rho s a w:=by
 have T:lB S S w w (fun k=>k≠d) cE rho rho s.h s.h:=⟨fun b h=>h,fun _ _=>rfl,fun k hk=>⟨hk,fun _=>⟨trivial,rfl⟩⟩,fun k e h=>h⟩;have nl:∀k,(s.h k).live->k≠d:=fun k hk e=>by rw[e,hn]at hk;exact hk
 exact
 {tm:=fun j hj=>(sim.tm j hj).cK T
  sz:=sim.sz,df:=sim.df,nb:=sim.nb,pn:=sim.pn,ev:=sim.ev,s0:=sim.s0,st:=sim.st,sb:=sim.sb
  hp:=fun k _=>by
   by_cases e:k=d
   ·subst e;rw[hn];trivial
   exact (sim.hp k e).cK T (fun _ _ _=>rfl) (fun _=>rfl)
  dj:=fun i j g _ _ li lj=>sim.dj i j g (nl i li) (nl j lj) li lj
  lv:=fun i g _ li=>sim.lv i g (nl i li) li
  fr:=sim.fr }
theorem b7.free{S:Nat->Prop}{a:Act}(sim:b7 A cE cE S rho s a w)(d:Nat)(b:AB):b7 A cE (fun k=>k≠d) S rho ⟨(gX d s).t,aT (gX d s).h d b⟩ a w:=
 (sim.QC d b).qo (fun _ _=>trivial) (fun _=>⟨fun h=>⟨trivial,h⟩,fun h=>h.2⟩)
def qp:Op->Bool
 | .box _ _ | .alloc _ | .buildSlice _ _ _ | .makeSlice _ _ _ | .makeMap _ _=>true
 | .call c=>match c.callee with
  | .builtin .append=>true
  | .value _=>true
  | _=>false
 | _=>false
def qd(h:Nat->AB)(d:Nat):Option AB->Nat->AB
 | none=>h
 | some b=>aT h d b
def ym:AV->Bool
 | .p (.sl [])=>true
 | _=>false
def RU:AV->Bool
 | .nl=>true
 | _=>false
def Xh:BinOp->Bool
 | .eql=>true
 | .neq=>true
 | _=>false
def O0(C:Ctx)(o:Oper)(t:Nat->AV):Bool:=match o.op with
 | .binOp op ty x y _=>Xh op&&RU (ev t y)&&ym (ev t x)&&(match C.T ty with
  | some { ud:=.sl _,.. }=>true
  | _=>false)
 | _=>false
def yn(C:Ctx)(o:Oper)(K:AS->Prop)(s:AS):Prop:=
 match qp o.op with
 | true=>bV C o (ev (gX (o.dst.getD 0) s).t) (gX (o.dst.getD 0) s).h fun v eff new=>K ⟨fx (gX (o.dst.getD 0) s).t o.dst v,match new with
   | none=>aT (app (gX (o.dst.getD 0) s).h eff) (o.dst.getD 0) .none
   | some b=>app (aT (gX (o.dst.getD 0) s).h (o.dst.getD 0) b) eff⟩
 | false=>match o.op,o.dst with
  | .assign x,some d=>match ev s.t x with
   | .ow i=>match s.h i with
    | .row _ _=>match cq i d with
     | true=>K ⟨aT s.t d (.ow i),s.h⟩
     | false=>K ⟨aT (mR i d s).t d (.ow d),(mR i d s).h⟩
    | .az _ _=>match cq i d with
     | true=>K ⟨aT s.t d (.ow i),s.h⟩
     | false=>K ⟨aT (mR i d s).t d (.ow d),(mR i d s).h⟩
    | _=>K ⟨aT s.t d (.ow i),s.h⟩
   | v=>K ⟨aT s.t d v,s.h⟩
  | _,_=>bV C o (ev s.t) s.h fun v eff new=>match new with
   | none=>K ⟨fx s.t o.dst v,app s.h eff⟩
   | some _=>False
def step(C:Ctx)(o:Oper)(K:AS->Prop)(s:AS):Prop:=match O0 C o s.t with
 | true=>K ⟨fx s.t o.dst (.p (.im (.bool true))),s.h⟩/\K ⟨fx s.t o.dst (.p (.im (.bool false))),s.h⟩
 | false=>yn C o K s
def kP(o:Oper)(n:Nat):Prop:=∀d,o.dst=some d->d<n
theorem D5(hC:bI A.C){o:Oper}{S:Nat->Prop}{a:Act}{K:AS->Prop}{next:Act->World->Prop}{Q:Exit->Act->World->Prop}(hd:kP o A.n)(sim:b7 A cE cE S rho s a w)(hq:yn A.C o K s)
  (hnext:∀s' S' rho' a' w',K s'->b7 A cE cE S' rho' s' a' w'->next a' w'):o.wp A.C.P a w next Q:=by
 have plain:∀K':KK,bV A.C o (ev s.t) s.h K'->(∀v eff b,¬K' v eff (some b))->(∀v eff,K' v eff none->K ⟨fx s.t o.dst v,app s.h eff⟩)->o.wp A.C.P a w next Q:=by
  intro K' hq h1 h2;refine L7 A o _ _ _ _ _ _ _ K' next Q hC sim (fun _ _=>trivial) hd hq (fun v eff b h=>absurd h (h1 v eff b)) fun v eff new S' rho' a' w' hk b9=>?_
  cases new with
  | some b=>exact absurd hk (h1 v eff b)
  | none=>exact hnext _ _ _ _ _ (h2 v eff hk) (b9.qo (fun _ _=>.inl trivial) (fun _=>aaT))
 unfold yn at hq;split at hq
 ·have Xi:∀n,Ext (gX (o.dst.getD 0) s).h (qd (gX (o.dst.getD 0) s).h (o.dst.getD 0) n):=fun n k=>by
   cases n with
   | none=>exact .inr rfl
   | some b=>
    by_cases e:k=o.dst.getD 0
    ·subst e;exact .inl (by show aT (fun k=>xm (o.dst.getD 0) (s.h k)) _ AB.none _=_;rw[aH])
    exact .inr (aV _ _ e)
  obtain⟨v,eff,new,hk,Qo⟩:=q_ (fun _=>.inr rfl) hq;obtain⟨v2,e2,n2,⟨rfl,rfl,rfl⟩,F4⟩:=q_ (Xi new) (Qo (fun v' e' n'=>v'=v/\e'=eff/\n'=new) ⟨rfl,rfl,rfl⟩);have va:=F4 (fun v' e' n'=>v'=v2/\e'=e2/\n'=n2) ⟨rfl,rfl,rfl⟩;have sD:b7 A cE (fun k=>k≠o.dst.getD 0) S rho ⟨(gX (o.dst.getD 0) s).t,qd (gX (o.dst.getD 0) s).h (o.dst.getD 0) n2⟩ a w:=by
   have:=sim.free (o.dst.getD 0) (match n2 with | none=>.none | some b=>b);cases n2 with
   | some b=>exact this
   | none=>
    have e:aT (gX (o.dst.getD 0) s).h (o.dst.getD 0) .none=(gX (o.dst.getD 0) s).h:=jf _ _ _ (by show aT (fun k=>xm (o.dst.getD 0) (s.h k)) _ AB.none _=_;rw[aH]);simp only at this;rw[e]at this;exact this
  refine L7 A o _ _ _ _ _ _ _ _ next Q hC sD (fun _ _=>trivial) hd va (fun v eff b h=>?_) fun v eff new S' rho' a' w' xA b9=>?_
  ·obtain⟨_,_,rfl⟩:=h;exact⟨fun h=>h rfl,aH _ _ _⟩
  obtain⟨rfl,rfl,rfl⟩:=xA;refine hnext _ S' rho' _ _ hk ?_;cases new with
  | some b=>exact b9.qo (V':=cE) (L':=cE) (fun _ _=>.inl trivial) (fun k=>⟨fun _=>by by_cases e:k=o.dst.getD 0;exact .inr e;exact .inl e,fun _=>trivial⟩)
  | none=>exact ((b9.kill (o.dst.getD 0)).Iv _ (aH _ _ _)).qo (fun _ _=>.inl trivial) (fun _=>aaT)
 split at hq
 ·rename_i x d aK lH;have run:(execOp a.eval o).run A.C.P w=.ok (.value (a.eval x)) w:=by simp[execOp,aK]
  have hx:=bp sim x (fun _ _=>trivial);have same:∀v,ev s.t x=v->K ⟨aT s.t d v,s.h⟩->o.wp A.C.P a w next Q:=fun v hv hk=>by
   refine dW run (hnext _ S rho _ _ hk ?_);have:=(sim.value o.dst hd v _ (by rw[<-hv];exact hx)).qo (V':=cE) (L':=cE) (fun _ _=>.inl trivial) (fun _=>aaT);rw[lH]at this ⊢;exact this
  have Cx:∀i,ev s.t x=.ow i->cq i d=false->K ⟨aT (mR i d s).t d (.ow d),(mR i d s).h⟩->o.wp A.C.P a w next Q:=fun i hi b8 hq=>by
     have hid:i≠d:=fun e=>by rw[a7.2 e]at b8;cases b8
     refine dW run (hnext _ S (fun j=>if j=d then rho i else rho j) _ _ hq ?_);have sD:=sim.rename i d hid (aaW (hd d lH) sim.nb);have sA:aY S w A.C.P cE (fun j=>if j=d then rho i else rho j) (mR i d s).h (.ow d) (a.eval x):=by
      rw[hi]at hx;refine .ow d _ fun ht=>⟨trivial,?_⟩;have:(s.h i).there:=by simpa [mR,a7.2 rfl,ve] using ht
      rw[(hx.cH this).2];simp
     have:=(sD.value o.dst hd (.ow d) _ sA).qo (V':=cE) (L':=cE) (fun _ _=>.inl trivial) (fun _=>aaT);rw[lH]at this ⊢;exact this
  split at hq
  ·rename_i i hi;split at hq
   ·split at hq
    ·exact same _ hi hq
    rename_i b8;exact Cx i hi b8 hq
   ·split at hq
    ·exact same _ hi hq
    rename_i b8;exact Cx i hi b8 hq
   exact same _ hi hq
  exact same _ rfl hq
 refine plain _ hq (fun v eff b h=>h) (fun v eff h=>h)
theorem Cy{x:AV}(h:ym x=true):x=.p (.sl []):=by
 unfold ym at h;split at h
 ·rfl
 cases h
theorem L_{x:AV}(h:RU x=true):x=.nl:=by unfold RU at h;split at h;rfl;cases h
theorem Gw(hC:bI A.C){o:Oper}{S:Nat->Prop}{a:Act}{K:AS->Prop}{next:Act->World->Prop}{Q:Exit->Act->World->Prop}(hd:kP o A.n)(sim:b7 A cE cE S rho s a w)(hq:step A.C o K s)
  (hnext:∀s' S' rho' a' w',K s'->b7 A cE cE S' rho' s' a' w'->next a' w'):o.wp A.C.P a w next Q:=by
 unfold step at hq;split at hq
 ·rename_i hn;unfold O0 at hn;split at hn
  ·rename_i op ty x y ty2 aK;simp only[aaZ]at hn;obtain⟨⟨⟨h1,h3⟩,h2⟩,h4⟩:=hn;split at h4
   case h_2=>cases h4
   rename_i e size bytes zero eq hT;have fK:=(hC.iq ty _ hT).under;simp only at fK;have hx:=bp sim x (fun _ _=>trivial);have hy:=bp sim y (fun _ _=>trivial);rw[Cy h2]at hx;rw[L_ h3]at hy;obtain⟨ad,c,hv,_⟩:=hx.eR.oL;have cm:a.eval y=.slice none 0 0:=by generalize a.eval y=v at hy;cases hy;rfl
   have fin:∀b:Bool,(execOp a.eval o).run A.C.P w=.ok (.value (.bool b)) w->o.wp A.C.P a w next Q:=fun b hrun=>by
    refine dW hrun (hnext ⟨fx s.t o.dst (.p (.im (.bool b))),s.h⟩ S rho _ _ ?_ ?_)
    ·cases b
     ·exact hq.2
     exact hq.1
    exact (sim.value o.dst hd (.p (.im (.bool b))) _ (.p _ _ (.im _))).qo (V':=cE) (L':=cE) (fun _ _=>.inl trivial) (fun _=>aaT)
   cases op<;>first | (cases h1;done) | skip
   ·refine fin ad.isNone ?_;simp[execOp,aK,hv,cm,eqGuard,binOp,run_equal_slice_nil _ _ _ _ _ _ fK]
   refine fin (!ad.isNone) ?_;simp[execOp,aK,hv,cm,eqGuard,binOp,run_equal_slice_nil _ _ _ _ _ _ fK]
  cases hn
 exact D5 hC hd sim hq hnext
end Go.AM
namespace Go.AM
open Go.RowKit
def pR(b:Bool)(p q:Prop):Prop:=match b with
 | true=>p
 | false=>q
def jh(b:Bool):AV:=.p (.im (.bool b))
def rH:AV:=.p (.im undef)
def Ma:Value->Option Bool
 | .bool b=>some b
 | _=>none
def Uj(v:Value)(want:Bool):Bool:=Ma v==some want
def pZ(C:Ctx)(all:List Oper):List Oper->(AS->Prop)->AS->Prop
 | [],K,s=>K s
 | o::r,K,s=>match o.guard with
  | none=>step C o (pZ C all r K) s
  | some (g,want)=>match all[g]? with
   | none=>False
   | some og=>match og.dst with
    | none=>False
    | some tg=>match s.t tg with
     | .p (.im (.bool b))=>pR b
       (match want with
        | true=>step C o (pZ C all r K) ⟨aT s.t tg (jh true),s.h⟩
        | false=>pZ C all r K ⟨fx (aT s.t tg (jh true)) o.dst rH,s.h⟩)
       (match want with
        | false=>step C o (pZ C all r K) ⟨aT s.t tg (jh false),s.h⟩
        | true=>pZ C all r K ⟨fx (aT s.t tg (jh false)) o.dst rH,s.h⟩)
     | .p (.im (.tuple _))=>pZ C all r K ⟨fx s.t o.dst rH,s.h⟩
     | _=>False
variable {A:cD} {s:AS} {ops:Array Oper}
theorem oP{V L S:Nat->Prop}{rho:Nat->Value}{a:Act}{w:World}(sim:b7 A V L S rho s a w){g tg:Nat}{og:Oper}{v:Value}(h1:ops[g]?=some og)(h2:og.dst=some tg)(hv:V tg)(h3:s.t tg=.p (.im v)):yielded ops a.tmps g=Ma v:=by
 have h4:=sim.tm tg hv;rw[h3]at h4;have h5:a.tmps.getD tg undef=v:=h4.bS;rw[ac4]at h5;subst h5;unfold yielded Ma;rw[h1];simp only[Option.bind_some,h2];cases h:a.tmps[tg]? with
 | none=>rfl
 | some v=>simp only[acy];split<;>simp_all
theorem Gx(hC:bI A.C){Q:Exit->Act->World->Prop}{K:AS->Prop}(fO:∀s S rho a w,K s->b7 A cE cE S rho s a w->Q .normal a w):
  ∀(l:List Oper) (k:Nat) (s:AS) (S:Nat->Prop) (rho:Nat->Value) (a:Act) (w:World),(∀j,l[j]?=ops[k+j]?)->(∀o∈l,kP o A.n)->pZ A.C ops.toList l K s->b7 A cE cE S rho s a w->wpOps A.C.P ops Q (List.range' k l.length) a w:=by
 intro l
 induction l with
 | nil=>intro k s S rho a w _ _ hq sim;exact fO s S rho a w hq sim
 | cons o l ih=>
  intro k s S rho a w hl hd hq sim;have h0:ops[k]?=some o:=by simpa using (hl 0).symm
  have J1:∀j,l[j]?=ops[k+1+j]?:=fun j=>by have:=hl (j+1);simpa [aaX,Nat.add_comm 1 j] using this
  have Ba:∀o∈l,kP o A.n:=fun o ho=>hd o (by simp[ho]);have O1:=hd o (by simp);rw[aaB,List.range'_succ];simp only[wpOps,h0];have run:∀(s:AS),step A.C o (pZ A.C ops.toList l K) s->b7 A cE cE S rho s a w->o.wp A.C.P a w (wpOps A.C.P ops Q (List.range' (k+1) l.length)) Q:=fun s hs sim=>
   Gw hC O1 sim hs fun s' S' rho' a' w' hk b9=>ih (k+1) s' S' rho' a' w' J1 Ba hk b9
  have skip:∀(t:Nat->AV),pZ A.C ops.toList l K ⟨fx t o.dst rH,s.h⟩->b7 A cE cE S rho ⟨t,s.h⟩ a w->wpOps A.C.P ops Q (List.range' (k+1) l.length) (a.put o.dst undef) w:=fun t hs sim=>by
   have:=(sim.value o.dst O1 rH undef (.p _ _ (.im _))).qo (V':=cE) (L':=cE) (fun _ _=>.inl trivial) (fun _=>aaT);exact ih (k+1) _ S rho _ w J1 Ba hs this
  unfold pZ at hq;split at hq
  ·rename_i hg;rw[aap (by simp[Region.wanted,hg])];exact .inl (run s hq sim)
  rename_i g want hg;split at hq
  ·exact hq.elim
  rename_i og RV;split at hq
  ·exact hq.elim
  rename_i tg RW;split at hq
  ·rename_i b hb;have hy:=oP sim (ops:=ops) (g:=g) (by simpa using RV) RW trivial hb;have tE:∀b',b=b'->aT s.t tg (jh b')=s.t:=fun b' e=>jf _ _ _ (by rw[hb,e];rfl);have yp:Region.wanted o (yielded ops a.tmps)=(some b==some want):=by simp[Region.wanted,hg,hy,Ma]
   rw[yp];cases b<;>cases want<;>simp only[pR]at hq
   ·rw[tE false rfl]at hq;rw[aap (by decide)];exact .inl (run s hq sim)
   ·rw[tE false rfl]at hq;rw[aaa (by decide)];exact skip s.t hq sim
   ·rw[tE true rfl]at hq;rw[aaa (by decide)];exact skip s.t hq sim
   rw[tE true rfl]at hq;rw[aap (by decide)];exact .inl (run s hq sim)
  ·rename_i q hb;have hy:=oP sim (ops:=ops) (g:=g) (by simpa using RV) RW trivial hb;have yp:Region.wanted o (yielded ops a.tmps)=false:=by simp[Region.wanted,hg,hy,Ma]
   rw[yp,aaa (by decide)];exact skip s.t hq sim
  exact hq.elim
def W(A:cD)(c:Code)(K:Exit->AS->Prop)(s:AS):Prop:=
 ∀S rho a w,b7 A cE cE S rho s a w->c.wp A.C.P (fun e a' w'=>∃S' rho' s',b7 A cE cE S' rho' s' a' w'/\K e s') a w
theorem Uk{x y:Code}{K:Exit->AS->Prop}(h:W A x (fun e s'=>match e with | .normal=>W A y K s' | e=>K e s') s):W A (.seq x y) K s:=by
 intro S rho a w sim;refine wp_seq (wp_mono (h S rho a w sim) fun e a' w' hq=>?_);obtain⟨S',rho',s',b9,hk⟩:=hq;cases e with
 | normal=>exact hk S' rho' a' w' b9
 | exit id=>exact⟨S',rho',s',b9,hk⟩
 | goto l=>exact⟨S',rho',s',b9,hk⟩
 | ret=>exact⟨S',rho',s',b9,hk⟩
 | panic c=>exact⟨S',rho',s',b9,hk⟩
 | outgrown=>exact⟨S',rho',s',b9,hk⟩
theorem Gy{c:Code}{K K':Exit->AS->Prop}(h:W A c K s)(hk:∀e s,K e s->K' e s):W A c K' s:=
 fun S rho a w sim=>wp_mono (h S rho a w sim) fun _ _ _ ⟨S',rho',s',b9,k⟩=>⟨S',rho',s',b9,hk _ _ k⟩
theorem RX{c:Operand}{x y:Code}{K:Exit->AS->Prop}{b:Bool}(hb:ev s.t c=.p (.im (.bool b)))(h1:b=true->W A x K s)(h2:b=false->W A y K s):W A (.cond c x y) K s:=by
 intro S rho a w sim;have hc:=bp sim c (fun _ _=>trivial);rw[hb]at hc;refine wp_cond_split hc.bS (fun h=>h1 h S rho a w sim) (fun h=>h2 h S rho a w sim)
theorem O2{id:Nat}{c:Code}{K:Exit->AS->Prop}(h:W A c (fun e s'=>match e with | .exit i=>pR (cq i id) (K .normal s') (K (.exit i) s') | e=>K e s') s):W A (.block id c) K s:=by
 intro S rho a w sim;refine wp_block (wp_mono (h S rho a w sim) fun e a' w' hq=>?_);obtain⟨S',rho',s',b9,hk⟩:=hq;cases e with
 | exit i=>
  simp only[Exit.inBlock];simp only at hk;by_cases e:i=id
  ·rw[aap e];rw[a7.2 e]at hk;exact⟨S',rho',s',b9,hk⟩
  rw[aaa e];have:cq i id=false:=by rw[aaV];intro h;exact e (a7.1 h)
  rw[this]at hk;exact⟨S',rho',s',b9,hk⟩
 | normal=>exact⟨S',rho',s',b9,hk⟩
 | goto l=>exact⟨S',rho',s',b9,hk⟩
 | ret=>exact⟨S',rho',s',b9,hk⟩
 | panic c=>exact⟨S',rho',s',b9,hk⟩
 | outgrown=>exact⟨S',rho',s',b9,hk⟩
def au(A:cD)(s s':AS):Prop:=∀S rho a w,b7 A cE cE S rho s a w->∃S' rho',b7 A cE cE S' rho' s' a w
theorem au.refl(A:cD)(s:AS):au A s s:=fun S rho _ _ h=>⟨S,rho,h⟩
theorem au.trans{s' mN:AS}(h:au A s s')(k:au A s' mN):au A s mN:=fun S rho a w sim=>by
 obtain⟨S',rho',b9⟩:=h S rho a w sim;exact k S' rho' a w b9
theorem least{P:Nat->Prop}(h:∃n,P n):∃n,P n/\∀k,P k->n<=k:=by
 obtain⟨n,hn⟩:=h
 induction n using Nat.strongRecOn with
 | _ n ih=>
  by_cases hk:∃k,k<n/\P k
  ·obtain⟨k,h1,h2⟩:=hk;exact ih k h1 h2
  exact⟨n,hn,fun k h=>Nat.le_of_not_lt fun eF=>hk ⟨k,eF,h⟩⟩
theorem RY{c:Code}{K:Exit->AS->Prop}{α:Type}(I:α->AS->Prop)(m:α->Nat)(h0:∃x s',au A s s'/\I x s')
  (round:∀x s,I x s->W A c (fun e s'=>match e with | .normal=>∃y mN,au A s' mN/\I y mN/\m y<m x | e=>K e s') s):W A (.loop c) K s:=by
 intro S rho a w sim;let J:Act->World->Nat->Prop:=fun a w n=>∃x S rho s,b7 A cE cE S rho s a w/\I x s/\m x=n;have dec:∀a w,Decidable (∃n,J a w n):=fun a w=>Classical.propDecidable _;let mu:Act->World->Nat:=fun a w=>@dite _ (∃n,J a w n) (dec a w) (fun h=>Classical.choose (least h)) (fun _=>0);have Y0:∀a w (h:∃n,J a w n),mu a w=Classical.choose (least h):=fun a w h=>by
  show @dite _ _ (dec a w) _ _=_;rw[dif_pos h]
 refine wp_loop (fun a w=>∃n,J a w n) mu ?_ ?_
 ·obtain⟨x,s',hle,hi⟩:=h0;obtain⟨S',rho',b9⟩:=hle S rho a w sim;exact⟨m x,x,S',rho',s',b9,hi,rfl⟩
 intro a w hJ;obtain⟨⟨x,S1,Xj,s1,sD,hi,hm⟩,_⟩:=acD (least hJ);refine wp_mono (round x s1 hi S1 Xj a w sD) fun e a' w' hq=>?_;obtain⟨S',rho',s',b9,hk⟩:=hq;cases e with
 | normal=>
  obtain⟨y,mN,hle,xB,eF⟩:=hk;obtain⟨Y1,QD,QE⟩:=hle S' rho' a' w' b9;have Xk:∃n,J a' w' n:=⟨m y,y,Y1,QD,mN,QE,xB,rfl⟩;refine⟨Xk,?_⟩;rw[Y0 a w hJ,Y0 a' w' Xk,<-hm];exact adY ((acD (least Xk)).2 (m y) ⟨y,Y1,QD,mN,QE,xB,rfl⟩) eF
 | exit id=>exact⟨S',rho',s',b9,hk⟩
 | goto l=>exact⟨S',rho',s',b9,hk⟩
 | ret=>exact⟨S',rho',s',b9,hk⟩
 | panic c=>exact⟨S',rho',s',b9,hk⟩
 | outgrown=>exact⟨S',rho',s',b9,hk⟩
theorem Mb(hC:bI A.C){id:Nat}{K:Exit->AS->Prop}(hd:∀o∈ops.toList,kP o A.n)(h:pZ A.C ops.toList ops.toList (K .normal) s):W A (.region id ops false) K s:=by
 intro S rho a w sim;refine wp_region ?_;have:=Gx hC (ops:=ops) (Q:=fun e a' w'=>∃S' rho' s',b7 A cE cE S' rho' s' a' w'/\K e s') (K:=K .normal) (fun s S rho a w hk sim=>⟨S,rho,s,sim,hk⟩) ops.toList 0 s S rho a w (fun j=>by simp) hd h sim;rw[List.range_eq_range'];simpa using this
end Go.AM
namespace Go.AM
open Go.RowKit
def Ul(j:Nat):Arg->AV
 | .pv x=>.p x
 | .row _ _=>.ow (100000+j)
 | .map _ _=>.ow (100000+j)
 | .box _=>.bx (100000+j) 0
 | .aN _=>.bx (100000+j) 0
def QF:Arg->AB
 | .pv _=>.none
 | .row e es=>.row e es
 | .map mk es=>.map mk es
 | .box cs=>.box (cs.map .p)
 | .aN cs=>.aN cs
def bH:List AV->List Nat
 | []=>[]
 | .ow n::r=>n::bH r
 | _::r=>bH r
def mS(n:Nat):List Nat->Bool
 | []=>false
 | m::r=>match Nat.beq m n with
  | true=>true
  | false=>mS n r
def dP:List Nat->Bool
 | []=>true
 | n::r=>!mS n r&&(Nat.blt n 100000&&dP r)
def Mc:List Arg->Bool
 | []=>true
 | .aN _::_=>false
 | _::r=>Mc r
def wi(h:Nat->AB):List AV->List HC->Prop
 | [],[]=>True
 | .p x::r,.p y::s=>x=y/\wi h r s
 | .ow n::r,.row e es::s=>h n=.row e es/\wi h r s
 | _,_=>False
theorem mf{n:Nat}{l:List Nat}:mS n l=true↔n∈l:=by
 induction l with
 | nil=>simp[mS]
 | cons m l ih=>
  unfold mS;split
  ·rename_i h;have:=aa2 h;simp[this]
  rename_i h;rw[ih];have:¬n=m:=fun e=>by rw[e]at h;simp at h
  simp[this]
theorem iv{n:Nat}:∀{l:List AV},n∈bH l↔(AV.ow n:AV)∈l
 | []=>by simp[bH]
 | x::l=>by cases x<;>simp[bH,iv (l:=l)]
theorem oQ:∀{l:List AV} {i j n:Nat},dP (bH l)=true->l[i]?=some (.ow n)->l[j]?=some (.ow n)->i=j
 | [],i,j,n,_,h,_=>by simp at h
 | x::l,i,j,n,hg,h1,h2=>by
  have tail:dP (bH l)=true:=by
   cases x<;>first | exact hg | (simp[bH,dP]at hg ⊢;exact hg.2.2)
  have QG:∀k:Nat,x=AV.ow n->l[k]?=some (AV.ow n)->False:=fun k hx hk=>by
   subst hx;simp[bH,dP]at hg;have:mS n (bH l)=true:=mf.2 (iv.2 (aad hk));rw[hg.1]at this;cases this
  cases i with
  | zero=>
   cases j with
   | zero=>rfl
   | succ j=>simp at h1 h2;exact (QG j h1 h2).elim
  | succ i=>
   cases j with
   | zero=>simp at h1 h2;exact (QG i h2 h1).elim
   | succ j=>simp at h1 h2;rw[oQ tail h1 h2]
theorem oR:∀{l:List Nat} {n:Nat},dP l=true->n∈l->n<100000
 | [],n,_,h=>by cases h
 | m::l,n,hg,h=>by
  simp[dP]at hg;rcases adq.1 h with h | h
  ·subst h;have:=hg.2.1
   first | omega | (have:=abA (show Nat.ble (n+1) 100000=true from this);omega) | (simp[Nat.blt]at this;omega)
  exact oR hg.2.2 h
theorem Bb{h:Nat->AB}:∀{bs:List AV} {cs:List HC},wi h bs cs->bs.length=cs.length
 | [],[],_=>rfl
 | [],_::_,hp=>hp.elim
 | b::bs,[],hp=>by cases b<;>exact hp.elim
 | b::bs,c::cs,hp=>by
  cases b<;>cases c<;>first | exact hp.elim | (have:=Bb hp.2;simp[this])
theorem D6{h:Nat->AB}:∀{bs:List AV} {cs:List HC} {j:Nat} {x:AV} {y:HC},wi h bs cs->bs[j]?=some x->cs[j]?=some y->(∃z,x=.p z/\y=.p z)\/∃n e es,x=.ow n/\y=.row e es/\h n=.row e es
 | [],_,j,x,y,_,h1,_=>by simp at h1
 | b::bs,[],j,x,y,_,_,h2=>by simp at h2
 | b::bs,c::cs,0,x,y,hp,h1,h2=>by
  simp at h1 h2;subst h1 h2;cases b<;>cases c<;>first | exact hp.elim | exact .inl ⟨_,rfl,by rw[hp.1]⟩ | exact .inr ⟨_,_,_,rfl,rfl,hp.1⟩
 | b::bs,c::cs,j+1,x,y,hp,h1,h2=>by
  simp at h1 h2;have hp':wi h bs cs:=by cases b<;>cases c<;>first | exact hp.elim | exact hp.2
  exact D6 hp' h1 h2
variable {A:cD} {rho:Nat->Value} {s:AS} {w:World}
theorem yq{V L S:Nat->Prop}{a:Act}(sim:b7 A V L S rho s a w){id:Nat}(hL:L id){bs:List AV}{cs:List HC}(hb:s.h id=.box bs)(hg:dP (bH bs)=true)(hp:wi s.h bs cs):
  ∃g ty c,rho id=.pointer (some ⟨g,0,none⟩)/\Jp S w A.C.P cs g ty c/\∀k,hasB w (.aN cs) (rho id) k->cC (rho id)=some k\/∃n,n∈bH bs/\L n/\(s.h n).live/\cC (rho n)=some k:=by
 have hh:=sim.hp id hL;rw[hb]at hh;obtain⟨g,ty,c,k1,k2,k3,k4⟩:=hh;have hl:=Bb hp;have bY:(s.h id).live:=by rw[hb];trivial
 have hx:∀{j:Nat} {y:HC} {u:Value},cs[j]?=some y->c[j]?=some u->u.oneCell'=true/\Qm S w A.C.P y u/\(y.isRow->∃n,bs[j]?=some (.ow n)/\L n/\u=rho n/\(s.h n).live/\n≠id):=by
  intro j y u hj hu;obtain⟨x,hx⟩:∃x,bs[j]?=some x:=⟨_,acg (by rw[hl];exact aD hj)⟩;obtain⟨o1,o2⟩:=k4 j x u hx hu;rcases D6 hp hx hj with⟨z,rfl,rfl⟩ | ⟨n,e,es,rfl,rfl,hn⟩
  ·exact⟨o1,o2.eR,fun h=>h.elim⟩
  obtain⟨Gz,rfl⟩:=o2.cH (by rw[hn];trivial);have hr:=sim.hp n Gz;rw[hn]at hr;exact⟨o1,hr,fun _=>⟨n,hx,Gz,rfl,by rw[hn];trivial,fun e=>by rw[e,hb]at hn;cases hn⟩⟩
 have J2:cC (rho id)=some g:=by rw[k1];rfl
 refine⟨g,ty,c,k1,⟨k2,by rw[k3,hl],fun j y u hj hu=>⟨(hx hj hu).1,(hx hj hu).2.1⟩,fun j y u b hj hu hy hb' e=>?_,fun i j x y u v b hi hj hu hv sC sN e1 e2=>?_⟩,fun k hk=>?_⟩
 ·obtain⟨n,_,Gz,rfl,O3,b8⟩:=(hx hj hu).2.2 hy;subst e;exact b8 (sim.TJ n id b Gz hL O3 bY hb' J2)
 ·obtain⟨n,hn,Gz,rfl,O3,_⟩:=(hx hi hu).2.2 sC;obtain⟨m,hm,sV,rfl,Wa,_⟩:=(hx hj hv).2.2 sN;have:=sim.TJ n m b Gz sV O3 Wa e1 e2;subst this;exact oQ hg hn hm
 rcases hk with hk | ⟨mZ,g',pN,nS,c',YR,m,j,y,u,q1,q2,q3,q4,q5⟩ | ⟨_,_,_,_,_,_,pN,_⟩
 ·exact .inl hk
 ·injection pN with pN;subst pN;rw[J2]at nS;injection nS with nS;subst nS;rw[k2]at q1;injection q1 with q1;injection q1 with q1 _ _;subst q1;obtain⟨n,hn,Gz,rfl,O3,_⟩:=(hx q2 q4).2.2 q3;exact .inr ⟨n,iv.2 (aad hn),Gz,O3,q5⟩
 cases pN
def tF(args:List Arg)(j:Nat):AV:=match args[j]? with
 | some x=>Ul j x
 | none=>.junk
def afb(args:List Arg)(j:Nat):AB:=match Nat.ble 100000 j with
 | true=>match args[j-100000]? with
  | some x=>QF x
  | none=>.none
 | false=>.none
def Md (a : Tmp) (t : TypeId) : Oper := { dst := none, op := .load t (.tmp a), type := t, pos := "", after := #[], guard := none }
def QH(C:Ctx)(s:AS):ResultVar->(AV->Prop)->Prop
 | .tmp t,K=>K (s.t t)
 | .cell a t,K=>bV C (Md a t) (ev s.t) s.h fun v _ _=>match v with
  | .p x=>K (.p x)
  | _=>False
def GA(C:Ctx)(s:AS):List ResultVar->(List AV->Prop)->Prop
 | [],K=>K []
 | r::rs,K=>QH C s r fun a=>GA C s rs fun as=>K (a::as)
def GB(h:Nat->AB):List AV->(List PV->(Nat->AB)->Prop)->Prop
 | [],K=>K [] h
 | a::r,K=>gD h a fun x fz=>GB (app h fz) r fun xs h'=>K (x::xs) h'
def nj:AB->Nat->Bool
 | .box bs,i=>mS i (bH bs)
 | _,_=>false
def mg(h:Nat->AB):Nat->List Arg->List Fin->Nat->Bool
 | j,.pv _::xs,fs,i=>mg h (j+1) xs fs i
 | j,_::xs,f::fs,i=>(f.kept&&(cq j i||nj (h j) i))||mg h (j+1) xs fs i
 | _,_,_,_=>false
def lI(h:Nat->AB):Nat->List Arg->List Fin->Prop
 | _,[],[]=>True
 | j,.pv _::xs,fs=>lI h (j+1) xs fs
 | j,.row _ _::xs,.gone::fs=>lI h (j+1) xs fs
 | j,.map _ _::xs,.gone::fs=>lI h (j+1) xs fs
 | j,.box _::xs,.gone::fs=>lI h (j+1) xs fs
 | j,.aN _::xs,.gone::fs=>lI h (j+1) xs fs
 | j,.row e _::xs,.row es::fs=>h j=.row e es/\lI h (j+1) xs fs
 | j,.map mk _::xs,.map es::fs=>h j=.map mk es/\lI h (j+1) xs fs
 | j,.box _::xs,.box cs::fs=>(match h j with
  | .box bs=>dY bs=some cs
  | _=>False)/\lI h (j+1) xs fs
 | j,.aN _::xs,.aN cs::fs=>(match h j with
  | .aN bs=>bs=cs
  | .box bs=>(dP (bH bs)&&Mc xs)=true/\wi h bs cs
  | _=>False)/\lI h (j+1) xs fs
 | _,_,_=>False
def RZ(C:Ctx)(rs:List ResultVar)(args:List Arg)(r:AR)(fin:List Fin)(s:AS):Prop:=
 GA C s rs fun iQ=>match r with
  | .own e es=>match iQ with
   | [a]=>match a with
    | .ow i=>s.h i=.row e es/\mg s.h 100000 args fin i=false/\lI s.h 100000 args fin
    | .vw i lo hi=>match lo with
     | 0=>match s.h i with
      | .row e' xs=>match cq e' e with
       | true=>es=xs.take hi/\mg s.h 100000 args fin i=false/\lI s.h 100000 args fin
       | false=>False
      | _=>False
     | _+1=>False
    | .nl=>match C.T e with
     | some ti=>match Nat.blt 0 ti.size with
      | true=>es=[]/\lI s.h 100000 args fin
      | false=>False
     | none=>False
    | _=>False
   | _=>False
  | .hown cs=>match iQ with
   | [a]=>match a with
    | .bx i off=>match off with
     | 0=>s.h i=.aN cs/\mg s.h 100000 args fin i=false/\lI s.h 100000 args fin
     | _+1=>False
    | _=>False
   | _=>False
  | .p x=>match iQ with
   | [a]=>gD s.h a fun y fz=>y=x/\lI (app s.h fz) 100000 args fin
   | _=>False
  | .tu xs=>match iQ with
   | [_]=>False
   | _=>GB s.h iQ fun ys h'=>ys=xs/\lI h' 100000 args fin
def GC(C:Ctx)(rs:List ResultVar)(args:List Arg)(r:AR)(fin:List Fin)(e:Exit)(s:AS):Prop:=match e with
 | .normal=>RZ C rs args r fin s
 | .ret=>RZ C rs args r fin s
 | _=>False
def D7(tmps:Array Value):ResultVar->Sem Value
 | .tmp t=>pure (tmps.getD t undef)
 | .cell b t=>do loadVar t (<-asAddr (tmps.getD b undef))
theorem J3(hC:bI A.C){S:Nat->Prop}{a:Act}(sim:b7 A cE cE S rho s a w)(r:ResultVar){K:AV->Prop}(hq:QH A.C s r K):
  ∃av v,K av/\(D7 a.tmps r).run A.C.P w=.ok v w /\
   (∀(S2:Nat->Prop) (h2:Nat->AB),(∀b,S b->S2 b)->b7 A cE cE S2 rho ⟨s.t,h2⟩ a w->aY S2 w A.C.P cE rho h2 av v):=by
 cases r with
 | tmp t=>exact⟨s.t t,a.tmps.getD t undef,hq,rfl,fun S2 h2 _ bu=>bu.tm t trivial⟩
 | cell b t=>
  obtain⟨av,v,h1,h2,h3⟩:=DQ (o:=Md b t) (K:=fun v _ _=>match v with | .p x=>K (.p x) | _=>False) t (.tmp b) rfl hC sim (fun _ _=>trivial) hq;split at h1
  ·rename_i x;refine⟨_,v,h1,?_,fun S2 we hS bu=>.p _ _ (h2.eR.mono hS (fun _ _=>rfl))⟩;have h4:(Instr.loadAt t (a.tmps.getD b undef)).run A.C.P w=.ok v w:=h3;cases hv:a.tmps.getD b undef with
   | pointer p=>
    rw[hv]at h4;cases p with
    | none=>simp[Instr.loadAt,Instr.sureAddr,stuck,Sem.run]at h4
    | some ad=>
     have h5:(loadVar t ad).run A.C.P w=.ok v w:=by simpa [Instr.loadAt,Instr.sureAddr] using h4
     show (D7 a.tmps (.cell b t)).run _ _=_;unfold D7;simp only[hv];exact h5
   | _=>rw[hv]at h4;simp[Instr.loadAt,Instr.sureAddr,stuck,Sem.run]at h4
  exact h1.elim
theorem GD(hC:bI A.C){S:Nat->Prop}{a:Act}(sim:b7 A cE cE S rho s a w):∀(rs:List ResultVar) {K:List AV->Prop},GA A.C s rs K ->
  ∃iQ vs,K iQ/\iQ.length=vs.length/\(rs.mapM (D7 a.tmps)).run A.C.P w=.ok vs w/\vs.length=rs.length /\
   (∀(S2:Nat->Prop) (h2:Nat->AB),(∀b,S b->S2 b)->b7 A cE cE S2 rho ⟨s.t,h2⟩ a w->∀(i:Nat) av v,iQ[i]?=some av->vs[i]?=some v->aY S2 w A.C.P cE rho h2 av v):=by
 intro rs
 induction rs with
 | nil=>intro K hq;exact⟨[],[],hq,rfl,rfl,rfl,by simp⟩
 | cons r rs ih=>
  intro K hq;obtain⟨av,v,hq,h1,h2⟩:=J3 hC sim r hq;obtain⟨iQ,vs,hq,h3,h4,h5,h6⟩:=ih hq;refine⟨av::iQ,v::vs,hq,by simp[h3],?_,by simp[h5],fun S2 we hS bu i x u hx hu=>?_⟩
  ·rw[aa5,aau,h1,ab5,aau,h4];rfl
  cases i with
  | zero=>simp at hx hu;subst hx hu;exact h2 S2 we hS bu
  | succ i=>exact h6 S2 we hS bu i x u (by simpa using hx) (by simpa using hu)
theorem GF(hC:bI A.C){t:Nat->AV}{a:Act}:∀(iQ:List AV) (vs:List Value) (S:Nat->Prop) (h:Nat->AB) {K:List PV->(Nat->AB)->Prop},iQ.length=vs.length->b7 A cE cE S rho ⟨t,h⟩ a w ->
  (∀(S2:Nat->Prop) (h2:Nat->AB),(∀b,S b->S2 b)->b7 A cE cE S2 rho ⟨t,h2⟩ a w->∀(i:Nat) av v,iQ[i]?=some av->vs[i]?=some v->aY S2 w A.C.P cE rho h2 av v)->GB h iQ K ->
  ∃ys h' S',K ys h'/\b7 A cE cE S' rho ⟨t,h'⟩ a w/\(∀b,S b->S' b)/\ys.length=vs.length/\∀(i:Nat) y v,ys[i]?=some y->vs[i]?=some v->aO S' w y v:=by
 intro iQ
 induction iQ with
 | nil=>
  intro vs S h K hl sim _ hq;have:vs=[]:=adl hl.symm;subst this;exact⟨[],h,S,hq,sim,fun _ h=>h,rfl,by simp⟩
 | cons av iQ ih=>
  intro vs S h K hl sim hrep hq;cases vs with
  | nil=>simp at hl
  | cons v vs=>
   obtain⟨y,fz,S2,hq,bu,hp,xC,_,_⟩:=ir hC sim (pY.refl h) (hrep S h (fun _ h=>h) sim 0 av v rfl rfl) hq;obtain⟨ys,h',S',k1,k2,k3,k4,k5⟩:=ih vs S2 (app h fz) (by simpa using hl) bu (fun S3 h3 hS aeI i x u hx hu=>hrep S3 h3 (fun b hb=>hS b (xC b hb)) aeI (i+1) x u (by simpa using hx) (by simpa using hu)) hq;refine⟨y::ys,h',S',k1,k2,fun b hb=>k3 b (xC b hb),by simp[k4],fun i z u hz hu=>?_⟩;cases i with
   | zero=>simp at hz hu;subst hz hu;exact hp.mono k3 (fun _ _=>rfl)
   | succ i=>exact k5 i z u (by simpa using hz) (by simpa using hu)
theorem rh{h:Nat->AB}{j:Nat}{x:Arg}{xs:List Arg}{f:Fin}{fs:List Fin}(hx:x.handed=true)(hq:lI h j (x::xs) (f::fs)):lI h (j+1) xs fs:=by
 cases x<;>cases f<;>first | (cases hx;done) | exact hq.elim | exact hq.2 | exact hq
def Bc(h:Nat->AB)(j id:Nat):Prop:=id=j\/nj (h j) id=true
theorem Me{S:Nat->Prop}{t:Nat->AV}{h:Nat->AB}{a:Act}(sim:b7 A cE cE S rho ⟨t,h⟩ a w):∀(args:List Arg) (fin:List Fin) (vs:List Value) (j:Nat),args.length=vs.length->(∀i v,vs[i]?=some v->(∃x,args[i]?=some x/\x.handed=true)->v=rho (j+i))->lI h j args fin ->
  eL S w A.C.P args fin vs/\∀i g,du w args fin vs i g->∃id,Bc h (j+i) id/\(h id).live/\hasB w (h id) (rho id) g/\mg h j args fin id=true:=by
 intro args
 induction args with
 | nil=>intro fin vs j hl _ hq;have:vs=[]:=adl hl.symm;subst this;cases fin with | nil=>exact⟨trivial,fun i g h=>h.elim⟩ | cons f fin=>exact hq.elim
 | cons x args ih=>
  intro fin vs j hl hv hq;cases vs with
  | nil=>simp at hl
  | cons v vs=>
   have J1:args.length=vs.length:=by simpa using hl
   have F9:∀i v,vs[i]?=some v->(∃x,args[i]?=some x/\x.handed=true)->v=rho (j+1+i):=fun i u h1 ⟨y,h2,h3⟩=>by
    have:=hv (i+1) u (by simpa using h1) ⟨y,by simpa using h2,h3⟩;rw[this];congr 1;omega
   cases hx:x.handed with
   | false=>
    cases x with
    | pv y=>
     obtain⟨r1,r2⟩:=ih fin vs (j+1) J1 F9 hq;refine⟨r1,fun i g hg=>?_⟩;cases i with
     | zero=>exact hg.elim
     | succ i=>
      obtain⟨id,q1,q2,q3,q4⟩:=r2 i g hg;exact⟨id,by rw[show j+(i+1)=j+1+i by omega];exact q1,q2,q3,q4⟩
    | row=>cases hx
    | map=>cases hx
    | box=>cases hx
    | aN=>cases hx
   | true=>
    have Y2:v=rho j:=hv 0 v rfl ⟨_,rfl,hx⟩;cases fin with
    | nil=>cases x<;>first | (cases hx;done) | exact hq.elim
    | cons f fin=>
     obtain⟨r1,r2⟩:=ih fin vs (j+1) J1 F9 (rh hx hq);have mk:oH S w A.C.P x f v->(∀g,f.kept=true->hasB w (Ri f) v g->∃id,Bc h j id/\(h id).live/\hasB w (h id) (rho id) g)->eL S w A.C.P (x::args) (f::fin) (v::vs)/\∀i g,du w (x::args) (f::fin) (v::vs) i g->∃id,Bc h (j+i) id/\(h id).live/\hasB w (h id) (rho id) g/\mg h j (x::args) (f::fin) id=true:=by
      intro m1 m2;refine⟨by cases x<;>first | (cases hx;done) | exact⟨m1,r1⟩,fun i g hg=>?_⟩;cases i with
      | zero=>
       obtain⟨g1,g2⟩:f.kept=true/\hasB w (Ri f) v g:=by cases x<;>first | (cases hx;done) | exact hg
       obtain⟨id,q1,q2,q3⟩:=m2 g g1 g2;refine⟨id,q1,q2,q3,?_⟩;have:(cq j id||nj (h j) id)=true:=by
        rcases q1 with q1 | q1
        ·rw[q1,a7.2 rfl];rfl
        rw[q1];simp
       cases x<;>first | (cases hx;done) | (simp only[mg,g1,this,adr,abn])
      | succ i=>
       have nS:du w args fin vs i g:=by cases x<;>first | (cases hx;done) | exact hg
       obtain⟨id,q1,q2,q3,q4⟩:=r2 i g nS;refine⟨id,by rw[show j+(i+1)=j+1+i by omega];exact q1,q2,q3,?_⟩;cases x<;>first | (cases hx;done) | (simp only[mg,q4,ads])
     refine mk ?_ ?_
     ·rw[Y2];cases x with
      | pv y=>cases hx
      | row e es=>
       cases f with
       | gone=>trivial
       | row de=>
        have hh:=sim.hp j trivial;have hh:eK S w A.C.P cE rho h j (h j):=hh;rw[hq.1]at hh;exact⟨hh,fun g hg=>(sim.pM j g trivial (by show (h j).live;rw[hq.1];trivial) hg).2.1⟩
       | map de=>exact hq.elim
       | box cs=>exact hq.elim
       | aN cs=>exact hq.elim
      | map mk es=>
       cases f with
       | gone=>trivial
       | map de=>
        have hh:=sim.hp j trivial;have hh:eK S w A.C.P cE rho h j (h j):=hh;rw[hq.1]at hh;exact⟨hh,fun g hg=>(sim.pM j g trivial (by show (h j).live;rw[hq.1];trivial) hg).2.1⟩
       | row de=>exact hq.elim
       | box cs=>exact hq.elim
       | aN cs=>exact hq.elim
      | box ys=>
       cases f with
       | gone=>trivial
       | row de=>exact hq.elim
       | map de=>exact hq.elim
       | aN de=>exact hq.elim
       | box cs=>
        obtain⟨oF,va⟩:=hq;split at oF
        ·rename_i bs hb;have hh:=sim.hp j trivial;have hh:eK S w A.C.P cE rho h j (h j):=hh;rw[hb]at hh;obtain⟨g,ty,c,k1,k2,k3,k4⟩:=hh;obtain⟨k5,k6⟩:=gV oF;refine⟨g,ty,c,k1,k2,by rw[k3,k5],(sim.pM j g trivial (by show (h j).live;rw[hb];trivial) (by rw[k1];rfl)).2.1,fun i x u hi hu=>?_⟩;obtain⟨y,hy⟩:∃y,bs[i]?=some y:=⟨_,acg (by rw[k5];exact aD hi)⟩;obtain⟨k7,k8⟩:=k4 i y u hy hu;exact⟨k7,k8.xz (k6 i y x hy hi)⟩
        exact oF.elim
      | aN ys=>
       cases f with
       | gone=>trivial
       | row de=>exact hq.elim
       | map de=>exact hq.elim
       | box de=>exact hq.elim
       | aN cs=>
        obtain⟨oF,va⟩:=hq;split at oF
        ·rename_i bs hb;subst oF;have hh:=sim.hp j trivial;have hh:eK S w A.C.P cE rho h j (h j):=hh;rw[hb]at hh;obtain⟨g,ty,c,k1,k2⟩:=hh;exact⟨g,ty,c,k1,k2,fun k hk=>(sim.lv j k trivial (by show (h j).live;rw[hb];trivial) (by show hasB w (h j) _ _;rw[hb];exact hk)).2.1⟩
        ·rename_i bs hb;simp only[aaZ]at oF;obtain⟨g,ty,c,k1,k2,k3⟩:=yq sim (id:=j) trivial hb oF.1.1 oF.2;refine⟨g,ty,c,k1,k2,fun k hk=>?_⟩;rcases k3 k hk with hk | ⟨n,_,hn,O3,hk⟩
         ·exact (sim.pM j k trivial (by show (h j).live;rw[hb];trivial) hk).2.1
         exact (sim.pM n k hn O3 hk).2.1
        exact oF.elim
     intro g hf hg;rw[Y2]at hg;cases x with
     | pv y=>cases hx
     | row e es=>
      cases f with
      | gone=>cases hf
      | row de=>exact⟨j,.inl rfl,by rw[hq.1];trivial,.inl (aI rfl hg)⟩
      | map de=>exact hq.elim
      | box cs=>exact hq.elim
      | aN cs=>exact hq.elim
     | map mk es=>
      cases f with
      | gone=>cases hf
      | map de=>exact⟨j,.inl rfl,by rw[hq.1];trivial,.inl (aI rfl hg)⟩
      | row de=>exact hq.elim
      | box cs=>exact hq.elim
      | aN cs=>exact hq.elim
     | box ys=>
      cases f with
      | gone=>cases hf
      | row de=>exact hq.elim
      | map de=>exact hq.elim
      | aN de=>exact hq.elim
      | box cs=>
       obtain⟨oF,va⟩:=hq;split at oF
       ·rename_i bs hb;exact⟨j,.inl rfl,by rw[hb];trivial,.inl (aI rfl hg)⟩
       exact oF.elim
     | aN ys=>
      cases f with
      | gone=>cases hf
      | row de=>exact hq.elim
      | map de=>exact hq.elim
      | box de=>exact hq.elim
      | aN cs=>
       obtain⟨oF,va⟩:=hq;split at oF
       ·rename_i bs hb;subst oF;exact⟨j,.inl rfl,by rw[hb];trivial,by rw[hb];exact hg⟩
       ·rename_i bs hb;simp only[aaZ]at oF;obtain⟨g',ty,c,k1,k2,k3⟩:=yq sim (id:=j) trivial hb oF.1.1 oF.2;rcases k3 g hg with hk | ⟨n,hm,hn,O3,hk⟩
        ·exact⟨j,.inl rfl,by rw[hb];trivial,.inl hk⟩
        exact⟨n,.inr (by rw[hb];exact mf.2 hm),O3,.inl hk⟩
       exact oF.elim
theorem J4{h:Nat->AB}:∀(args:List Arg) (fin:List Fin) (w:World) (vs:List Value) (j0:Nat),100000<=j0->lI h j0 args fin->∀i k id g,du w args fin vs i g->du w args fin vs k g->Bc h (j0+i) id->Bc h (j0+k) id->i=k:=by
 have small:∀(args:List Arg) (fin:List Fin) (w:World) (vs:List Value) (j0:Nat),lI h j0 args fin->∀i g id,du w args fin vs i g->nj (h (j0+i)) id=true->id<100000/\Mc args=false/\(∀m,i=m+1->∀x xs,args=x::xs->Mc xs=false):=by
  intro args
  induction args with
  | nil=>intro fin w vs j0 _ i g id hg;exact hg.elim
  | cons x args ih=>
   intro fin w vs j0 hq i g id hg hi;cases vs with
   | nil=>cases fin<;>exact hg.elim
   | cons v vs=>
    cases hx:x.handed with
    | false=>
     cases x with
     | pv y=>
      cases i with
      | zero=>exact hg.elim
      | succ i=>
       obtain⟨h1,h2,_⟩:=ih fin w vs (j0+1) hq i g id hg (by rw[show j0+1+i=j0+(i+1) by omega];exact hi);exact⟨h1,h2,fun m hm x xs he=>by injection he with _ he;rw[<-he];exact h2⟩
     | row=>cases hx
     | map=>cases hx
     | box=>cases hx
     | aN=>cases hx
    | true=>
     cases fin with
     | nil=>cases x<;>first | (cases hx;done) | exact hg.elim
     | cons f fin=>
      cases i with
      | succ i=>
       have nS:du w args fin vs i g:=by cases x<;>first | (cases hx;done) | exact hg
       obtain⟨h1,h2,_⟩:=ih fin w vs (j0+1) (rh hx hq) i g id nS (by rw[show j0+1+i=j0+(i+1) by omega];exact hi);exact⟨h1,by cases x<;>first | exact h2 | rfl,fun m hm x xs he=>by injection he with _ he;rw[<-he];exact h2⟩
      | zero=>
       have hf:f.kept=true:=by cases x<;>first | (cases hx;done) | exact hg.1
       have hi:nj (h j0) id=true:=hi;cases x with
       | pv y=>cases hx
       | row e es=>cases f<;>first | (cases hf;done) | exact hq.elim | (rw[hq.1]at hi;cases hi)
       | map mk es=>cases f<;>first | (cases hf;done) | exact hq.elim | (rw[hq.1]at hi;cases hi)
       | box ys=>
        cases f with
        | gone=>cases hf
        | row de=>exact hq.elim
        | map de=>exact hq.elim
        | aN de=>exact hq.elim
        | box cs=>
         obtain⟨oF,va⟩:=hq;split at oF
         ·rename_i bs hb;rw[hb]at hi;obtain⟨k5,k6⟩:=gV oF;obtain⟨n,hn⟩:=ab8.1 (iv.1 (mf.1 hi));obtain⟨y,hy⟩:∃y,cs[n]?=some y:=⟨_,acg (by rw[<-k5];exact aD hn)⟩;have:=k6 n _ y hn hy;rcases this with h | h
          ·cases h
          cases h.1
         exact oF.elim
       | aN ys=>
        cases f with
        | gone=>cases hf
        | row de=>exact hq.elim
        | map de=>exact hq.elim
        | box de=>exact hq.elim
        | aN cs=>
         obtain⟨oF,va⟩:=hq;split at oF
         ·rename_i bs hb;rw[hb]at hi;cases hi
         ·rename_i bs hb;rw[hb]at hi;simp only[aaZ]at oF;exact⟨oR oF.1.1 (mf.1 hi),rfl,fun m hm=>by omega⟩
         exact oF.elim
 have later:∀(args:List Arg) (fin:List Fin) (w:World) (vs:List Value) (j0:Nat),lI h j0 args fin->∀i k g g' id,du w args fin vs i g->du w args fin vs k g'->nj (h (j0+i)) id=true->nj (h (j0+k)) id=true->i<k->False:=by
  intro args
  induction args with
  | nil=>intro fin w vs j0 _ i k g g' id hg;exact hg.elim
  | cons x args ih=>
   intro fin w vs j0 hq i k g g' id hg nS hi hk eF;cases vs with
   | nil=>cases fin<;>exact hg.elim
   | cons v vs=>
    obtain⟨k,rfl⟩:∃m,k=m+1:=⟨k-1,by omega⟩;cases hx:x.handed with
    | false=>
     cases x with
     | pv y=>
      cases i with
      | zero=>exact hg.elim
      | succ i=>exact ih fin w vs (j0+1) hq i k g g' id hg nS (by rw[show j0+1+i=j0+(i+1) by omega];exact hi) (by rw[show j0+1+k=j0+(k+1) by omega];exact hk) (by omega)
     | row=>cases hx
     | map=>cases hx
     | box=>cases hx
     | aN=>cases hx
    | true=>
     cases fin with
     | nil=>cases x<;>first | (cases hx;done) | exact hg.elim
     | cons f fin=>
      have V_:du w args fin vs k g':=by cases x<;>first | (cases hx;done) | exact nS
      cases i with
      | succ i=>
       have Cn:du w args fin vs i g:=by cases x<;>first | (cases hx;done) | exact hg
       exact ih fin w vs (j0+1) (rh hx hq) i k g g' id Cn V_ (by rw[show j0+1+i=j0+(i+1) by omega];exact hi) (by rw[show j0+1+k=j0+(k+1) by omega];exact hk) (by omega)
      | zero=>
       have h2:=(small args fin w vs (j0+1) (rh hx hq) k g' id V_ (by rw[show j0+1+k=j0+(k+1) by omega];exact hk)).2.1;have hf:f.kept=true:=by cases x<;>first | (cases hx;done) | exact hg.1
       have hi:nj (h j0) id=true:=hi;have h3:=small (x::args) (f::fin) w (v::vs) j0 hq 0 g id hg hi;cases x with
       | pv y=>cases hx
       | row e es=>cases f<;>first | (cases hf;done) | exact hq.elim | (rw[hq.1]at hi;cases hi)
       | map mk es=>cases f<;>first | (cases hf;done) | exact hq.elim | (rw[hq.1]at hi;cases hi)
       | box ys=>exact (by
         have:Mc (.box ys::args)=false:=h3.2.1;cases f with
         | gone=>cases hf
         | row de=>exact hq.elim
         | map de=>exact hq.elim
         | aN de=>exact hq.elim
         | box cs=>
          obtain⟨oF,va⟩:=hq;split at oF
          ·rename_i bs hb;rw[hb]at hi;obtain⟨k5,k6⟩:=gV oF;obtain⟨n,hn⟩:=ab8.1 (iv.1 (mf.1 hi));obtain⟨y,hy⟩:∃y,cs[n]?=some y:=⟨_,acg (by rw[<-k5];exact aD hn)⟩;rcases k6 n _ y hn hy with h | h
           ·cases h
           cases h.1
          exact oF.elim)
       | aN ys=>
        cases f with
        | gone=>cases hf
        | row de=>exact hq.elim
        | map de=>exact hq.elim
        | box de=>exact hq.elim
        | aN cs=>
         obtain⟨oF,va⟩:=hq;split at oF
         ·rename_i bs hb;rw[hb]at hi;cases hi
         ·rename_i bs hb;simp only[aaZ]at oF;rw[oF.1.2]at h2;cases h2
         exact oF.elim
 intro args fin w vs j0 hj hq i k id g hi hk ki kk;rcases ki with ki | ki<;>rcases kk with kk | kk
 ·omega
 ·have:=(small args fin w vs j0 hq k g id hk kk).1;omega
 ·have:=(small args fin w vs j0 hq i g id hi ki).1;omega
 rcases ada i k with h | h | h
 ·exact (later args fin w vs j0 hq i k g g id hi hk ki kk h).elim
 ·exact h
 exact (later args fin w vs j0 hq k i g g id hk hi kk ki h).elim
theorem aG.front{P:Program}{S:Nat->Prop}{e:TypeId}{xs:List (List PV)}{v u:Value}{a:Option Addr}{n c hi:Nat}(h:aG P w (aO S w) e xs v)(hv:v=.slice a n c)(hn:hi<=n)(hu:u=.slice a hi c):aG P w (aO S w) e (xs.take hi) u:=by
 obtain⟨i,ys,h1,h2,h3,h4,h5,h6⟩:=h;have hF:Flat S w i.size xs ys:=⟨h3.1,h4,h5,h6⟩;have Au:n=xs.length:=by
  rcases h3.2 with⟨g1,g2⟩ | ⟨g,cap,cur,g1,_⟩
  ·rw[hv]at g1;injection g1 with _ g1 _;omega
  rw[hv]at g1;injection g1
 subst Au;have Lh:=hF.take hi hn;have hl:(xs.take hi).length=hi:=by rw[aat];omega
 refine aG.of_flat h1 h2 ?_ Lh;refine⟨Lh.len,?_⟩;rw[hl,hu];rcases h3.2 with⟨g1,g2⟩ | ⟨g,cap,cur,g1,g2,g3,g4,g5,g6,g7⟩
 ·rw[hv]at g1;injection g1 with g1 _ g3;exact .inl ⟨by rw[g1,g3];congr 1;omega,by omega⟩
 rw[hv]at g1;injection g1 with g1 _ g8;refine .inr ⟨g,cap,cur,by rw[g1,g8],g2,g3,by omega,g5,g6,?_⟩;rw[<-g7,acx,ac9 (abf _ hn)]
theorem yr(args:List Arg)(j:Nat):afb args (100000+j)=match args[j]? with
  | some x=>QF x
  | none=>.none:=by
 have h1:Nat.ble 100000 (100000+j)=true:=Nat.ble_eq_true_of_le (by omega);have h2:100000+j-100000=j:=by omega
 simp only[afb,h1,h2]
theorem D8(args:List Arg)(k:Nat)(h:k<100000):afb args k=.none:=by
 have h1:Nat.ble 100000 k=false:=by
  rw[aaV];intro h2;have:=abA h2;omega
 simp only[afb,h1]
theorem Mf{C:Ctx}{S:Nat->Prop}{args:List Arg}{vs:Array Value}(m:Nat)(hm:vs.size+m<=100000)(hE:C.E S w)(hS:∀b,S b->b<w.heap.size)(hl:args.length=vs.size)(hrep:∀(j:Nat) x v,args[j]?=some x->vs[j]?=some v->F7 S w C.P x v)
  (hdis:∀(i j:Nat) x y v u g,args[i]?=some x->args[j]?=some y->vs[i]?=some v->vs[j]?=some u->x.handed=true->y.handed=true->hasB w (Ce x) v g->hasB w (Ce y) u g->i=j):
  b7 ⟨C,w,Mv w args vs,S,vs.size+m,fun k=>vs.getD (k-100000) undef⟩ cE cE S (fun k=>vs.getD (k-100000) undef) ⟨tF args,afb args⟩ { tmps:=vs++Array.replicate m undef,defers:=[] } w:=by
 have Cm:∀j v,vs[j]?=some v->vs.getD j undef=v:=fun j v h=>by rw[ac4,h];rfl
 have lF:∀j,vs.getD (100000+j-100000) undef=vs.getD j undef:=fun j=>by rw[abG]
 have at_:∀j x,args[j]?=some x->∃v,vs[j]?=some v/\vs.getD j undef=v:=fun j x h=>by
  obtain⟨v,hv⟩:=jG hl (aD h);exact⟨v,hv,Cm j v hv⟩
 have live:∀k,(afb args k).live->∃j x v,k=100000+j/\args[j]?=some x/\vs[j]?=some v/\vs.getD (k-100000) undef=v/\x.handed=true:=by
  intro k hk;by_cases eF:k<100000
  ·rw[D8 _ _ eF]at hk;exact hk.elim
  obtain⟨j,rfl⟩:∃j,k=100000+j:=⟨k-100000,by omega⟩;rw[yr]at hk;cases h:args[j]? with
  | none=>rw[h]at hk;exact hk.elim
  | some x=>
   rw[h]at hk;obtain⟨v,h1,h2⟩:=at_ j x h;refine⟨j,x,v,rfl,h,h1,by rw[lF];exact h2,?_⟩;cases x with
   | pv y=>exact hk.elim
   | row=>rfl
   | map=>rfl
   | box=>rfl
   | aN=>rfl
 have Xl:∀(j:Nat) (x:Arg) (v:Value) (g:Nat),args[j]?=some x->vs[j]?=some v->x.handed=true->hasB w (Ce x) v g->g<w.heap.size/\¬S g:=by
  intro j x v g h1 h2 h3 h4;have:=hrep j x v h1 h2;cases x with
  | pv y=>cases h3
  | map mk es=>
   have h4:=aI rfl h4;obtain⟨⟨g',ms,cl,rfl,k2,_⟩,hn⟩:=this;have DG:=h4;injection h4 with h4;subst h4;exact⟨(ab9.1 k2).1,hn _ DG⟩
  | row e es=>
   have h4:=aI rfl h4;obtain⟨⟨i,xs,_,_,ho,_⟩,hn⟩:=this;exact⟨(ho.lt g (by rw[cI (cr ho).choose_spec.choose_spec];exact h4)).2,hn g h4⟩
  | box cs=>
   have h4:=aI rfl h4;obtain⟨g',ty,c,rfl,k2,_,k4,_⟩:=this;injection h4 with h4;subst h4;exact⟨(ab9.1 k2).1,k4⟩
  | aN cs=>
   obtain⟨g',ty,c,_,_,k⟩:=this;exact⟨(k g h4).2,(k g h4).1⟩
 have vf:∀(j:Nat) (x:Arg) (v:Value) (g:Nat),args[j]?=some x->x.handed=true->(hasB w (afb args (100000+j)) v g↔hasB w (Ce x) v g):=by
  intro j x v g h1 h2;rw[yr,h1];cases x with
  | pv y=>cases h2
  | row e es=>exact⟨fun h=>.inl (aI rfl h),fun h=>.inl (aI rfl h)⟩
  | map mk es=>exact⟨fun h=>.inl (aI rfl h),fun h=>.inl (aI rfl h)⟩
  | box cs=>exact⟨fun h=>.inl (aI rfl h),fun h=>.inl (aI rfl h)⟩
  | aN cs=>exact aaT
 exact
 {tm:=fun j _=>by
   show aY _ _ _ _ _ _ (tF args j) ((vs++Array.replicate m undef).getD j undef);unfold tF;cases h:args[j]? with
   | none=>exact .junk _
   | some x=>
    obtain⟨v,h1,h2⟩:=at_ j x h;have hj:j<vs.size:=by rw[<-hl];exact aD h
    have h3:(vs++Array.replicate m undef).getD j undef=v:=by
     rw[ac4,acN hj,h1];rfl
    rw[h3];have hr:=hrep j x v h h1;cases x with
    | pv y=>exact .p _ _ hr
    | row e es=>exact .ow _ v fun _=>⟨trivial,by rw[lF];exact h2.symm⟩
    | map mk es=>exact .ow _ v fun _=>⟨trivial,by rw[lF];exact h2.symm⟩
    | box cs=>
     obtain⟨g,ty,c,e1,_⟩:=hr;exact .bx _ 0 v fun _=>⟨trivial,g,by rw[lF,h2];exact e1,e1⟩
    | aN cs=>
     obtain⟨g,ty,c,e1,_⟩:=hr;exact .bx _ 0 v fun _=>⟨trivial,g,by rw[lF,h2];exact e1,e1⟩
  sz:=by simp
  df:=rfl,nb:=hm,pn:=fun _ _=>rfl,ev:=hE,s0:=fun _ h=>h,st:=hS,sb:=fun b h=>.inl h
  hp:=fun k _=>by
   show eK _ _ _ _ _ _ k (afb args k);by_cases eF:k<100000
   ·rw[D8 _ _ eF];trivial
   obtain⟨j,rfl⟩:∃j,k=100000+j:=⟨k-100000,by omega⟩;rw[yr];cases h:args[j]? with
   | none=>trivial
   | some x=>
    obtain⟨v,h1,h2⟩:=at_ j x h;have hr:=hrep j x v h h1;cases x with
    | pv y=>trivial
    | row e es=>show aG _ _ _ _ _ (vs.getD (100000+j-100000) undef);rw[lF,h2];exact hr.1
    | map mk es=>show Cd _ _ _ _ (vs.getD (100000+j-100000) undef);rw[lF,h2];exact hr.1
    | box cs=>
     obtain⟨g,ty,c,e1,e2,e3,e4,e5⟩:=hr;refine⟨g,ty,c,by simp only;rw[lF,h2];exact e1,e2,by simpa using e3,fun i x u hi hu=>?_⟩;rw[aak]at hi;obtain⟨z,hz,rfl⟩:=acq.1 hi;exact⟨(e5 i z u hz hu).1,.p _ _ (e5 i z u hz hu).2⟩
    | aN cs=>
     obtain⟨g,ty,c,e1,e2,_⟩:=hr;exact⟨g,ty,c,by simp only;rw[lF,h2];exact e1,e2⟩
  dj:=fun i j g _ _ li lj hi hj=>by
   obtain⟨i',x,v,e1,h1,h2,h3,h4⟩:=live i li;obtain⟨j',y,u,e2,k1,k2,k3,k4⟩:=live j lj;have:=hdis i' j' x y v u g h1 k1 h2 k2 h4 k4 (by rw[<-vf i' x v g h1 h4,<-e1,<-h3];exact hi) (by rw[<-vf j' y u g k1 k4,<-e2,<-k3];exact hj);omega
  lv:=fun k g _ lk hk=>by
   obtain⟨j,x,v,e1,h1,h2,h3,h4⟩:=live k lk;have xA:hasB w (Ce x) v g:=by rw[<-vf j x v g h1 h4,<-e1,<-h3];exact hk
   obtain⟨h5,h6⟩:=Xl j x v g h1 h2 h4 xA;exact⟨h5,h6,.inl ⟨j,x,v,h1,h2,h4,xA⟩⟩
  fr:=Fr.refl _ _ }
theorem D9{P:Program}{fn:Func}{tmps:Array Value}{vs:List Value}(h:(fn.results.toList.mapM (D7 tmps)).run P w=.ok vs w):
  (results fn tmps).run P w=.ok (if h:vs.toArray.size=1 then vs.toArray[0] else .tuple vs.toArray) w:=by
 have e:results fn tmps=(do let vs <-fn.results.mapM (D7 tmps);pure (if h:vs.size=1 then vs[0] else .tuple vs)):=by
  unfold results D7;rfl
 rw[e,<-aaY (xs:=fn.results),List.mapM_toArray,aau];have:(Functor.map List.toArray (fn.results.toList.mapM (D7 tmps))).run P w=.ok vs.toArray w:=by
  rw[map_eq_pure_bind,aau,h];rfl
 rw[this];rfl
theorem R3 {C : Ctx} (hC : bI C) {f : FuncId} {fn : Func} {c : Code} (hf : C.P.funcs[f]? = some fn) (hb : fn.body = some c) (wj : (fn.name == "runtime.NumGoroutine") = false) {args : List Arg} {r : AR} {fin : List Fin} (hn : args.length + (fn.ntmps - args.length) ≤ 100000)
  (h:∀A:cD,A.C=C->A.n=args.length+(fn.ntmps-args.length)->W A c (GC C fn.results.toList args r fin) ⟨tF args,afb args⟩):af C f args r fin:=by
 refine⟨⟨fn,hf,wj,by rw[hb];rfl⟩,fun S w vs hE hS hl hrep hdis=>?_⟩;have sim:=Mf (fn.ntmps-vs.size) (by rw[<-hl];exact hn) hE hS hl hrep hdis;refine calls_of_wp hf hb ?_;have hw:=h ⟨C,w,Mv w args vs,S,vs.size+(fn.ntmps-vs.size),fun k=>vs.getD (k-100000) undef⟩ rfl (by rw[hl]);refine wp_mono (hw S _ _ w sim) fun e a' w' hq=>?_;obtain⟨S',rho',s',b9,hk⟩:=hq;have LY:RZ C fn.results.toList args r fin s'->a'.defers=[]/\∃v,(results fn a'.tmps).run C.P w'=.ok v w'/\∃v0 S',Ending.returned v=.returned v0/\Fr (Mv w args vs) w w'/\(∀b,S b->S' b)/\(∀b,S' b->b<w'.heap.size)/\(∀b,S' b->S b\/w.heap.size<=b\/Mv w args vs b)/\
   Lp S' w' C.P r v0/\eL S' w' C.P args fin vs.toList/\ta w w' args fin vs/\(∀g,r.owns=true->hasB w' r.ab v0 g->g<w'.heap.size/\(w.heap.size<=g\/Mv w args vs g)/\∀i,¬du w' args fin vs.toList i g):=by
  intro hk;refine⟨b9.df,?_⟩;obtain⟨iQ,us,hk,h1,h2,h3,h4⟩:=GD (A:=⟨C,w,Mv w args vs,S,vs.size+(fn.ntmps-vs.size),fun k=>vs.getD (k-100000) undef⟩) hC b9 fn.results.toList hk;have hrun:=D9 h2;have F4:args.length=vs.toList.length:=by simpa using hl
  have Xm:∀(S2:Nat->Prop) (h2:Nat->AB),b7 ⟨C,w,Mv w args vs,S,vs.size+(fn.ntmps-vs.size),fun k=>vs.getD (k-100000) undef⟩ cE cE S2 rho' ⟨s'.t,h2⟩ a' w'->∀i u,vs.toList[i]?=some u->(∃x,args[i]?=some x/\x.handed=true)->u=rho' (100000+i):=fun S2 h2 bu i u hu _=>by
   rw[bu.pn (100000+i) (by omega)];have qa:vs[i]?=some u:=by simpa using hu
   show u=vs.getD (100000+i-100000) undef;rw[abG,ac4,qa];rfl
  have fk:∀(S2:Nat->Prop) (h2:Nat->AB),b7 ⟨C,w,Mv w args vs,S,vs.size+(fn.ntmps-vs.size),fun k=>vs.getD (k-100000) undef⟩ cE cE S2 rho' ⟨s'.t,h2⟩ a' w'->lI h2 100000 args fin->eL S2 w' C.P args fin vs.toList/\(∀i g,du w' args fin vs.toList i g->∃id,Bc h2 (100000+i) id/\(h2 id).live/\hasB w' (h2 id) (rho' id) g/\mg h2 100000 args fin id=true)/\ta w w' args fin vs:=by
   intro S2 h2 bu fO;obtain⟨r1,r2⟩:=Me bu args fin vs.toList 100000 F4 (Xm S2 h2 bu) fO;refine⟨r1,r2,fun i g hg=>?_,fun i j g hi hj=>?_⟩
   ·obtain⟨id,_,q2,q3,_⟩:=r2 i g hg;obtain⟨p1,_,p3⟩:=bu.lv id g trivial q2 q3;exact⟨p1,p3.symm⟩
   obtain⟨id,q1,q2,q3,_⟩:=r2 i g hi;obtain⟨Ah,p1,p2,p3,_⟩:=r2 j g hj;have:=bu.dj id Ah g trivial trivial q2 p2 q3 p3;subst this;exact J4 args fin w' vs.toList 100000 (aam _) fO i j id g hi hj q1 p1
  have outer:∀(S2:Nat->Prop) (h2:Nat->AB) (v:Value),b7 ⟨C,w,Mv w args vs,S,vs.size+(fn.ntmps-vs.size),fun k=>vs.getD (k-100000) undef⟩ cE cE S2 rho' ⟨s'.t,h2⟩ a' w'->(results fn a'.tmps).run C.P w'=.ok v w'->Lp S2 w' C.P r v->lI h2 100000 args fin->(∀g,r.owns=true->hasB w' r.ab v g->g<w'.heap.size/\(w.heap.size<=g\/Mv w args vs g)/\∀i,¬du w' args fin vs.toList i g)->
    ∃v,(results fn a'.tmps).run C.P w'=.ok v w'/\∃v0 S',Ending.returned v=.returned v0/\Fr (Mv w args vs) w w'/\(∀b,S b->S' b)/\(∀b,S' b->b<w'.heap.size)/\(∀b,S' b->S b\/w.heap.size<=b\/Mv w args vs b)/\
   Lp S' w' C.P r v0/\eL S' w' C.P args fin vs.toList/\ta w w' args fin vs/\(∀g,r.owns=true->hasB w' r.ab v0 g->g<w'.heap.size/\(w.heap.size<=g\/Mv w args vs g)/\∀i,¬du w' args fin vs.toList i g):=by
   intro S2 h2 v bu hr Um fO hown;refine⟨v,hr,v,S2,rfl,bu.fr,bu.s0,bu.st,fun b hb=>?_,Um,(fk S2 h2 bu fO).1,(fk S2 h2 bu fO).2.2,hown⟩;rcases bu.sb b hb with h | h | h
   ·exact .inl h
   ·exact .inr (.inr h)
   exact .inr (.inl h)
  cases r with
  | own e es=>
   simp only at hk;split at hk
   ·rename_i av;obtain⟨u,rfl⟩:∃u,us=[u]:=by
     match us,h1 with
     | [u],_=>exact⟨u,rfl⟩
    have yu:(results fn a'.tmps).run C.P w'=.ok u w':=hrun;split at hk
    ·rename_i i;obtain⟨k1,k2,k3⟩:=hk;have hu:=h4 S' s'.h (fun _ h=>h) b9 0 _ u rfl rfl;obtain⟨_,hv⟩:=hu.cH (by rw[k1];trivial);have hh:=b9.hp i trivial;rw[k1]at hh;have bY:(s'.h i).live:=by rw[k1];trivial
     refine outer S' s'.h u b9 yu ⟨by rw[hv];exact hh,fun g hg=>(b9.pM i g trivial bY (by rw[<-hv];exact hg)).2.1⟩ k3 fun g _ Un=>?_;have hg:cC u=some g:=aI rfl Un;have nS:cC (rho' i)=some g:=by rw[<-hv];exact hg
     obtain⟨l1,l2,l3⟩:=b9.pM i g trivial bY nS;refine⟨l1,l3.symm,fun n Uo=>?_⟩;obtain⟨i',_,m1,m2,m3⟩:=(fk S' s'.h b9 k3).2.1 n g Uo;have:=b9.dj i i' g trivial trivial bY m1 (.inl nS) m2;subst this;rw[k2]at m3;cases m3
    ·rename_i i lo hi;have eC:lo=0/\∃xs,s'.h i=.row e xs/\es=xs.take hi/\mg s'.h 100000 args fin i=false/\lI s'.h 100000 args fin:=by
      cases lo with
      | succ n=>exact hk.elim
      | zero=>
       cases hr:s'.h i with
       | row e' xs=>
        rw[hr]at hk;simp only at hk;split at hk
        ·rename_i u_;rw[a7.1 u_];exact⟨rfl,xs,rfl,hk⟩
        exact hk.elim
       | _=>rw[hr]at hk;exact hk.elim
     obtain⟨rfl,xs,az,k1,k2,k3⟩:=eC;have hu:=h4 S' s'.h (fun _ h=>h) b9 0 _ u rfl rfl;obtain⟨_,n,cp,ad,ti,q1,q2,_,q3,q4,hv⟩:=hu.Cj az;have hh:=b9.hp i trivial;rw[az]at hh;have hh:aG C.P w' (aO S' w') e xs (rho' i):=hh;have bY:(s'.h i).live:=by rw[az];trivial
     have hblk:∀g,cC u=some g->cC (rho' i)=some g:=by
      intro g hg;rw[hv]at hg;rw[q1];split at hg
      ·cases ad<;>exact hg
      cases ad with
      | none=>cases hg
      | some a0=>
       simp only[ab6,Nat.zero_mul,Addr.add,aap]at hg;exact hg
     refine outer S' s'.h u b9 yu ⟨?_,fun g hg=>(b9.pM i g trivial bY (hblk g hg)).2.1⟩ k3 fun g _ Un=>?_
     ·rw[k1];exact aG.front hh q1 q3 (by rw[hv];simp[Addr.add])
     have hg:cC u=some g:=aI rfl Un;obtain⟨l1,l2,l3⟩:=b9.pM i g trivial bY (hblk g hg);refine⟨l1,l3.symm,fun n Uo=>?_⟩;obtain⟨i',_,m1,m2,m3⟩:=(fk S' s'.h b9 k3).2.1 n g Uo;have:=b9.dj i i' g trivial trivial bY m1 (.inl (hblk g hg)) m2;subst this;rw[k2]at m3;cases m3
    ·split at hk
     case h_2=>exact hk.elim
     rename_i ti hT;split at hk
     case h_2=>exact hk.elim
     rename_i hpos;obtain⟨k1,k3⟩:=hk;subst k1;obtain⟨info,z,g1,g2,_⟩:=hC.iq e ti hT;have hu:=h4 S' s'.h (fun _ h=>h) b9 0 _ u rfl rfl;have qa:u=.slice none 0 0:=by cases hu;rfl
     subst qa;exact outer S' s'.h _ b9 yu ⟨⟨info,[],g1,by have:=abA hpos;omega,aem _ _ _ _,by simp,by simp,by simp⟩,fun g hg=>by cases hg⟩ k3 fun g _ hg=>by cases aI rfl hg
    exact hk.elim
   exact hk.elim
  | hown cs=>
   simp only at hk;split at hk
   ·rename_i av;obtain⟨u,rfl⟩:∃u,us=[u]:=by
     match us,h1 with
     | [u],_=>exact⟨u,rfl⟩
    have yu:(results fn a'.tmps).run C.P w'=.ok u w':=hrun;split at hk
    ·rename_i i off;cases off with
     | succ n=>exact hk.elim
     | zero=>
      obtain⟨k1,k2,k3⟩:=hk;have hu:=h4 S' s'.h (fun _ h=>h) b9 0 _ u rfl rfl;obtain⟨_,g0,Un,hv⟩:=hu.h_ (by rw[k1];trivial);have Y3:u=rho' i:=by rw[hv,Un]
      have hh:=b9.hp i trivial;rw[k1]at hh;obtain⟨g1,ty,c,e1,e2⟩:=hh;have bY:(s'.h i).live:=by rw[k1];trivial
      have uW:∀k,hasB w' (.aN cs) u k->hasB w' (s'.h i) (rho' i) k:=fun k hk=>by rw[k1,<-Y3];exact hk
      refine outer S' s'.h u b9 yu ⟨g1,ty,c,by rw[Y3];exact e1,e2,fun k hk=>(b9.lv i k trivial bY (uW k hk)).2.1⟩ k3 fun g _ hg=>?_;have nS:=uW g hg;obtain⟨l1,l2,l3⟩:=b9.lv i g trivial bY nS;refine⟨l1,l3.symm,fun n Uo=>?_⟩;obtain⟨i',_,m1,m2,m3⟩:=(fk S' s'.h b9 k3).2.1 n g Uo;have:=b9.dj i i' g trivial trivial bY m1 nS m2;subst this;rw[k2]at m3;cases m3
    exact hk.elim
   exact hk.elim
  | p x=>
   simp only at hk;split at hk
   ·rename_i av;obtain⟨u,rfl⟩:∃u,us=[u]:=by
     match us,h1 with
     | [u],_=>exact⟨u,rfl⟩
    have yu:(results fn a'.tmps).run C.P w'=.ok u w':=hrun;obtain⟨y,fz,S2,⟨rfl,fO⟩,bu,hp,xC,_,_⟩:=ir hC (s:=⟨s'.t,s'.h⟩) b9 (pY.refl s'.h) (h4 S' s'.h (fun _ h=>h) b9 0 _ u rfl rfl) hk;exact outer S2 _ u bu yu hp fO (fun g h=>by cases h)
   exact hk.elim
  | tu xs=>
   simp only at hk;split at hk
   ·exact hk.elim
   rename_i b8;obtain⟨ys,h',S2,⟨rfl,fO⟩,bu,xC,hlen,hp⟩:=GF hC iQ us S' s'.h h1 b9 (fun S2 h2 hS bu=>h4 S2 h2 hS bu) hk;have fC:us.toArray.size≠1:=by
    intro e;have e1:us.length=1:=by simpa using e
    obtain⟨q,hq⟩:=List.length_eq_one_iff.1 (h1.trans e1);exact b8 q hq
   rw[dif_neg fC]at hrun;refine outer S2 h' _ bu hrun ⟨us.toArray,rfl,by simpa using hlen,fun i x u hx hu=>hp i x u hx (by simpa using hu)⟩ fO (fun g h=>by cases h)
 cases e with
 | normal=>exact LY hk
 | ret=>exact LY hk
 | exit id=>exact hk.elim
 | goto l=>exact hk.elim
 | panic c=>exact hk.elim
 | outgrown=>exact hk.elim
end Go.AM
