/- Part 2 of the proof of HouseDrillingMatchesSpec. -/
import Derived.Test.YtnpkopkpbgflnaaGreatDoorG01
set_option linter.unusedVariables false
set_option linter.unusedSimpArgs false
set_option maxRecDepth 100000
set_option maxHeartbeats 8000000
namespace Go
abbrev yK:=@Nat.add_right_cancel_iff
abbrev aE:=@List.mem_cons
abbrev nT:=@List.nodup_cons
abbrev dq:=@Array.getElem?_eq_some_iff
abbrev rU:=@List.getElem?_cons_zero
abbrev bM:=@List.mem_singleton
abbrev I1:=@List.dropLast_concat_getLast
abbrev jj:=@Bool.not_eq_true'
abbrev iz:=@Array.toList_append
abbrev Dj:=@Bool.and_self
abbrev gV:=@Bool.or_eq_false_iff
abbrev Dk:=@Nat.le_of_not_lt
abbrev Dl:=@Classical.choose_spec
abbrev yL:=@Nat.lt_of_le_of_lt
abbrev fu:=@Bool.true_and
abbrev pB:=@Bool.or_true
abbrev jP:=@Nat.lt_trichotomy
abbrev yM:=@Nat.add_sub_cancel_left
abbrev I2:=@Array.getElem?_append_left
abbrev Dm:=@Go.World.ownsRow_nil
end Go
namespace Go.AM
open Go.RowKit
variable {S':Nat->Prop}
theorem oN{S:Nat->Prop}{w w':World}{x:PV}{v:Value}(h:E5 x=true)(u:aQ S w x v):aQ S' w' x v:=by
 cases u with
 | im=>exact .im _
 | ag cs vs z h1 hc=>
  refine .ag cs vs z h1 fun i c v hi D=>?_;have I:=an hi;have:=ep.1 h c I;have J:=hc i c v hi D;cases c with
  | im y=>cases J;exact .im _
  | _=>cases this
 | nil=>cases h
 | sl=>cases h
 | ip=>cases h
 | fn=>cases h
variable {A:qB} {V L:Nat->Prop} {rho:Nat->Value} {s:AS}
theorem cc.grow{S:Nat->Prop}{a:Act}{w:World}(u:cc A V L S rho s a w)(hC:bR A.C)(w':World)(z:Fr (fun _=>False) w w'):cc A V L S rho s a w':=by
 have N:∀b,S b->w'.heap[b]?=w.heap[b]?:=fun k hk=>z.block k (u.st k hk) (fun h=>h);have T:mQ S S w w' L L rho rho s.h s.h:=⟨fun b h=>h,N,fun j D=>⟨D,fun R=>⟨R,rfl⟩⟩,fun j e' D=>D⟩;exact
 {tm:=fun j D=>(u.tm j D).dH T
  sz:=u.sz,df:=u.df,nb:=u.nb,pn:=u.pn
  ev:=hC.env _ _ _ _ u.ev (fun b h=>h) N z.size
  s0:=u.s0
  st:=fun b hb=>cG (u.st b hb) z.size
  sb:=u.sb
  hp:=fun j D=>(u.hp j D).dH T (fun I g J=>z.block g (u.lv j g D I J).1 (fun h=>h)) (fun _=>rfl)
  dj:=fun i j g hi D I O U W=>u.dj i j g hi D I O (d_ (fun k hk=>z.block k (u.qk i k hi I hk).1 (fun h=>h)) U) (d_ (fun k hk=>z.block k (u.qk j k D O hk).1 (fun h=>h)) W)
  lv:=fun i g hi I J=>by obtain⟨Y,Z⟩:=u.lv i g hi I (d_ (fun k hk=>z.block k (u.qk i k hi I hk).1 (fun h=>h)) J);exact⟨cG Y z.size,Z⟩
  fr:=u.fr.next z.os z.tape z.output z.size fun k hk _=>z.block k (cG hk u.fr.size) (fun h=>h) }
inductive gr(L:Nat->Prop)(rho:Nat->Value)(h:Nat->AB):List Arg->List Value->List (Nat×AB)->Prop
 | nil:gr L rho h [] [] []
 | pv (x:PV) (v:Value) {xs:List Arg} {vs:List Value} {ids:List (Nat×AB)} (hr:gr L rho h xs vs ids):gr L rho h (.pv x::xs) (v::vs) ids
 | row (id:Nat) (e:TypeId) (es:List (List PV)) {xs:List Arg} {vs:List Value} {ids:List (Nat×AB)} (hL:L id) (hid:h id=.row e es) (hr:gr L rho h xs vs ids):gr L rho h (.row e es::xs) (rho id::vs) ((id,.row e es)::ids)
 | map (id:Nat) (mk:MK) (es:List (Value×PV)) {xs:List Arg} {vs:List Value} {ids:List (Nat×AB)} (hL:L id) (hid:h id=.map mk es) (hr:gr L rho h xs vs ids):gr L rho h (.map mk es::xs) (rho id::vs) ((id,.map mk es)::ids)
 | box (id:Nat) (cs:List AV) (ys:List PV) {xs:List Arg} {vs:List Value} {ids:List (Nat×AB)} (hL:L id) (hid:h id=.box cs) (hy:eV cs=some ys) (hr:gr L rho h xs vs ids):gr L rho h (.box ys::xs) (rho id::vs) ((id,.box cs)::ids)
 | a7 (id:Nat) (cs:List HC) {xs:List Arg} {vs:List Value} {ids:List (Nat×AB)} (hL:L id) (hid:h id=.a7 cs) (hr:gr L rho h xs vs ids):gr L rho h (.a7 cs::xs) (rho id::vs) ((id,.a7 cs)::ids)
theorem Kc(hC:bR A.C){t:Nat->AV}{a:Act}{w:World}{h:Nat->AB}{md:Nat->Bool}:
  ∀(jz:List AV) (vs:List Value) (j:Nat) (h':Nat->AB) (S:Nat->Prop) (K:List Arg->List (Nat×AB)->List (Nat×AB)->Prop),jz.length=vs.length->cc A V L S rho ⟨t,h'⟩ a w->qD h h' ->
   (∀(S2:Nat->Prop) (D:Nat->AB),cc A V L S2 rho ⟨t,D⟩ a w->∀(i:Nat) x v,jz[i]?=some x->vs[i]?=some v->br S2 w A.C.P L rho D x v)->
   (∀id,(h' id).there->(h id).there)->g_ md h j jz K ->
  ∃xs ids fz S',K xs ids fz/\cc A V L S' rho ⟨t,app h' fz⟩ a w/\(∀b,S b->S' b)/\qD h (app h' fz)/\(∀p∈fz,L p.1)/\xs.length=vs.length/\gr L rho h xs vs ids/\(∀(i:Nat) x v,xs[i]?=some (.pv x)->vs[i]?=some v->aQ S' w x v):=by
 intro jz
 induction jz with
 | nil=>
  intro vs j h' S K hl J U hrep _ N;have:vs=[]:=cP hl.symm;subst this;exact⟨[],[],[],S,N,J,fun _ h=>h,U,by simp,rfl,.nil,by simp⟩
 | cons x jz ih=>
  intro vs j h' S K hl J U hrep W N;cases vs with
  | nil=>simp at hl
  | cons v vs=>
   simp only[cH,yK]at hl;have hx:br S w A.C.P L rho h' x v:=hrep S h' J 0 x v rfl rfl;have zw:∀(S2:Nat->Prop) (D:Nat->AB),cc A V L S2 rho ⟨t,D⟩ a w->∀(i:Nat) x v,jz[i]?=some x->vs[i]?=some v->br S2 w A.C.P L rho D x v:=fun S2 D s2 i x v I O=>hrep S2 D s2 (i+1) x v (by simpa using I) (by simpa using O);unfold g_ at N;split at N
   ·obtain⟨y,fz,S2,N,bD,hp,yJ,Lp,Fb⟩:=iR hC J U hx N;have Wk:∀id,(app h' fz id).there->(h id).there:=fun id ht=>by
     rcases Lp id with z | ⟨e',xs,z,D⟩ | ⟨cs,xs,z,_,D⟩
     ·rw[z]at ht;exact ht
     ·rw[z];trivial
     rw[z];trivial
    obtain⟨xs,ids,Y,S',Z,k2,R,k4,k5,k6,k7,k8⟩:=ih vs (j+1) (app h' fz) S2 _ hl bD Lp zw Wk N;refine⟨.pv y::xs,ids,fz++Y,S',Z,by rw[cM];exact k2,fun b hb=>R b (yJ b hb),by rw[cM];exact k4,fun p hp=>(cm.1 hp).elim (Fb p) (k5 p),by simp[k6],.pv y v k7,fun i x u I O=>?_⟩;cases i with
    | zero=>simp at I O;subst I O;exact hp.mono R (fun _ _=>rfl)
    | succ i=>exact k8 i x u (by simpa using I) (by simpa using O)
   split at N
   ·rename_i id;split at N
    ·rename_i e es ay;obtain⟨xs,ids,Y,S',Z,k2,R,k4,k5,k6,k7,k8⟩:=ih vs (j+1) h' S _ hl J U zw W N;have ht:(h' id).there:=by
      rcases U id with z | ⟨e',xs,z,D⟩ | ⟨cs,xs,z,_,D⟩
      ·rw[z,ay];trivial
      ·rw[D];trivial
      rw[D];trivial
     obtain⟨hL,rfl⟩:=hx.cW ht;refine⟨.row e es::xs,(id,.row e es)::ids,Y,S',Z,k2,R,k4,k5,by simp[k6],.row id e es hL ay k7,fun i x u I O=>?_⟩;cases i with
     | zero=>simp at I
     | succ i=>exact k8 i x u (by simpa using I) (by simpa using O)
    ·rename_i es Lr;obtain⟨xs,ids,Y,S',Z,k2,R,k4,k5,k6,k7,k8⟩:=ih vs (j+1) h' S _ hl J U zw W N;have he:h' id=.jr es:=by
      rcases U id with z | ⟨e',xs,z,D⟩ | ⟨cs,xs,z,_,D⟩
      ·rw[z,Lr]
      ·rw[Lr]at z;cases z
      rw[Lr]at z;cases z
     obtain⟨hL,rfl⟩:=hx.cW (by rw[he];trivial);have hh:=J.hp id hL;have hh:fU S w A.C.P L rho h' id (h' id):=hh;rw[he]at hh;refine⟨.pv (.sl es)::xs,ids,Y,S',Z,k2,R,k4,k5,by simp[k6],.pv _ _ k7,fun i x u I O=>?_⟩;cases i with
     | zero=>simp at I O;subst I O;exact aQ.mono hh R (fun _ _=>rfl)
     | succ i=>exact k8 i x u (by simpa using I) (by simpa using O)
    ·rename_i mk es ay;obtain⟨xs,ids,Y,S',Z,k2,R,k4,k5,k6,k7,k8⟩:=ih vs (j+1) h' S _ hl J U zw W N;have ht:(h' id).there:=by
      rcases U id with z | ⟨e',xs,z,D⟩ | ⟨cs,xs,z,_,D⟩
      ·rw[z,ay];trivial
      ·rw[D];trivial
      rw[D];trivial
     obtain⟨hL,rfl⟩:=hx.cW ht;refine⟨.map mk es::xs,(id,.map mk es)::ids,Y,S',Z,k2,R,k4,k5,by simp[k6],.map id mk es hL ay k7,fun i x u I O=>?_⟩;cases i with
     | zero=>simp at I
     | succ i=>exact k8 i x u (by simpa using I) (by simpa using O)
    exact N.elim
   ·obtain⟨xs,ids,Y,S',Z,k2,R,k4,k5,k6,k7,k8⟩:=ih vs (j+1) h' S _ hl J U zw W N;refine⟨.pv _::xs,ids,Y,S',Z,k2,R,k4,k5,by simp[k6],.pv _ _ k7,fun i x u I O=>?_⟩;cases i with
    | zero=>simp at I O;subst I O;exact hx.fK.mono R (fun _ _=>rfl)
    | succ i=>exact k8 i x u (by simpa using I) (by simpa using O)
   ·rename_i id;split at N
    ·rename_i cs a7;split at N
     ·rename_i ys Q7;obtain⟨xs,ids,Y,S',Z,k2,R,k4,k5,k6,k7,k8⟩:=ih vs (j+1) h' S _ hl J U zw W N;have ht:(h' id).there:=by
       rcases U id with z | ⟨e',xs,z,D⟩ | ⟨cs,xs,z,_,D⟩
       ·rw[z,a7];trivial
       ·rw[D];trivial
       rw[D];trivial
      obtain⟨hL,g,hg,hv⟩:=hx.iO ht;have C7:v=rho id:=by rw[hv,hg]
      subst C7;refine⟨.box ys::xs,(id,.box cs)::ids,Y,S',Z,k2,R,k4,k5,by simp[k6],.box id cs ys hL a7 Q7 k7,fun i x u I O=>?_⟩;cases i with
      | zero=>simp at I
      | succ i=>exact k8 i x u (by simpa using I) (by simpa using O)
     exact N.elim
    ·rename_i cs a7;obtain⟨xs,ids,Y,S',Z,k2,R,k4,k5,k6,k7,k8⟩:=ih vs (j+1) h' S _ hl J U zw W N;have ht:(h' id).there:=by
      rcases U id with z | ⟨e',xs,z,D⟩ | ⟨cs,xs,z,_,D⟩
      ·rw[z,a7];trivial
      ·rw[D];trivial
      rw[D];trivial
     obtain⟨hL,g,hg,hv⟩:=hx.iO ht;have C7:v=rho id:=by rw[hv,hg]
     subst C7;refine⟨.a7 cs::xs,(id,.a7 cs)::ids,Y,S',Z,k2,R,k4,k5,by simp[k6],.a7 id cs hL a7 k7,fun i x u I O=>?_⟩;cases i with
     | zero=>simp at I
     | succ i=>exact k8 i x u (by simpa using I) (by simpa using O)
    exact N.elim
   exact N.elim
variable {vs:List Value}
theorem gr.at{h:Nat->AB}{xs:List Arg}{ids:List (Nat×AB)}(H:gr L rho h xs vs ids):∀(j:Nat) x v,xs[j]?=some x->vs[j]?=some v->x.handed=true->∃id b,(id,b)∈ids/\L id/\h id=b/\v=rho id/\(((∃e es,x=.row e es/\b=.row e es)\/∃mk es,x=.map mk es/\b=.map mk es)\/(∃cs ys,x=.box ys/\b=.box cs/\eV cs=some ys)\/∃cs,x=.a7 cs/\b=.a7 cs):=by
 induction H with
 | nil=>intro j x v z;simp at z
 | pv y u hr ih=>
  intro j x v z D I;cases j with
  | zero=>simp at z;subst z;cases I
  | succ j=>exact ih j x v (by simpa using z) (by simpa using D) I
 | row id e es J hid hr ih=>
  intro j x v z D I;cases j with
  | zero=>simp at z D;subst z D;exact⟨id,_,by simp,J,hid,rfl,.inl (.inl ⟨e,es,rfl,rfl⟩)⟩
  | succ j=>obtain⟨i,b,m,r⟩:=ih j x v (by simpa using z) (by simpa using D) I;exact⟨i,b,by simp[m],r⟩
 | map id mk es J hid hr ih=>
  intro j x v z D I;cases j with
  | zero=>simp at z D;subst z D;exact⟨id,_,by simp,J,hid,rfl,.inl (.inr ⟨mk,es,rfl,rfl⟩)⟩
  | succ j=>obtain⟨i,b,m,r⟩:=ih j x v (by simpa using z) (by simpa using D) I;exact⟨i,b,by simp[m],r⟩
 | box id cs ys J hid hy hr ih=>
  intro j x v z D I;cases j with
  | zero=>simp at z D;subst z D;exact⟨id,_,by simp,J,hid,rfl,.inr (.inl ⟨cs,ys,rfl,rfl,hy⟩)⟩
  | succ j=>obtain⟨i,b,m,r⟩:=ih j x v (by simpa using z) (by simpa using D) I;exact⟨i,b,by simp[m],r⟩
 | a7 id cs J hid hr ih=>
  intro j x v z D I;cases j with
  | zero=>simp at z D;subst z D;exact⟨id,_,by simp,J,hid,rfl,.inr (.inr ⟨cs,rfl,rfl⟩)⟩
  | succ j=>obtain⟨i,b,m,r⟩:=ih j x v (by simpa using z) (by simpa using D) I;exact⟨i,b,by simp[m],r⟩
theorem gr.back{h:Nat->AB}{xs:List Arg}{ids:List (Nat×AB)}(H:gr L rho h xs vs ids):∀id b,(id,b)∈ids->L id/\h id=b/\b.live/\∃(j:Nat) (x:Arg),xs[j]?=some x/\vs[j]?=some (rho id)/\x.handed=true:=by
 induction H with
 | nil=>intro id b h;cases h
 | pv y u hr ih=>intro id b h;obtain⟨z,D,I,j,x,J⟩:=ih id b h;exact⟨z,D,I,j+1,x,by simpa using J⟩
 | row i e es N hid hr ih=>
  intro id b h;rcases aE.1 h with h | h
  ·injection h with z D;subst z D;exact⟨N,hid,trivial,0,_,rfl,rfl,rfl⟩
  obtain⟨z,D,I,j,x,J⟩:=ih id b h;exact⟨z,D,I,j+1,x,by simpa using J⟩
 | map i mk es N hid hr ih=>
  intro id b h;rcases aE.1 h with h | h
  ·injection h with z D;subst z D;exact⟨N,hid,trivial,0,_,rfl,rfl,rfl⟩
  obtain⟨z,D,I,j,x,J⟩:=ih id b h;exact⟨z,D,I,j+1,x,by simpa using J⟩
 | box i cs ys N hid hy hr ih=>
  intro id b h;rcases aE.1 h with h | h
  ·injection h with z D;subst z D;exact⟨N,hid,trivial,0,_,rfl,rfl,rfl⟩
  obtain⟨z,D,I,j,x,J⟩:=ih id b h;exact⟨z,D,I,j+1,x,by simpa using J⟩
 | a7 i cs N hid hr ih=>
  intro id b h;rcases aE.1 h with h | h
  ·injection h with z D;subst z D;exact⟨N,hid,trivial,0,_,rfl,rfl,rfl⟩
  obtain⟨z,D,I,j,x,J⟩:=ih id b h;exact⟨z,D,I,j+1,x,by simpa using J⟩
theorem gr.inj{h:Nat->AB}{xs:List Arg}{ids:List (Nat×AB)}(H:gr L rho h xs vs ids)(Z:(ids.map (·.1)).Nodup):∀(i j:Nat) x y v u,xs[i]?=some x->xs[j]?=some y->vs[i]?=some v->vs[j]?=some u->x.handed=true->y.handed=true->i≠j ->
  ∃xt I b1 D,xt≠I/\(xt,b1)∈ids/\(I,D)∈ids/\v=rho xt/\u=rho I/\(((∃e es,x=.row e es/\b1=.row e es)\/∃mk es,x=.map mk es/\b1=.map mk es)\/(∃cs ys,x=.box ys/\b1=.box cs/\eV cs=some ys)\/∃cs,x=.a7 cs/\b1=.a7 cs)/\(((∃e es,y=.row e es/\D=.row e es)\/∃mk es,y=.map mk es/\D=.map mk es)\/(∃cs ys,y=.box ys/\D=.box cs/\eV cs=some ys)\/∃cs,y=.a7 cs/\D=.a7 cs):=by
 have step:∀(i0:Nat) (b0:AB) {xs:List Arg} {vs:List Value} {ids:List (Nat×AB)} (H:gr L rho h xs vs ids) (Z:(((i0,b0)::ids).map (·.1)).Nodup) (j:Nat) (y:Arg) (u:Value),xs[j]?=some y->vs[j]?=some u->y.handed=true->∃id b,id≠i0/\(id,b)∈ids/\u=rho id/\(((∃e es,y=.row e es/\b=.row e es)\/∃mk es,y=.map mk es/\b=.map mk es)\/(∃cs ys,y=.box ys/\b=.box cs/\eV cs=some ys)\/∃cs,y=.a7 cs/\b=.a7 cs):=by
  intro i0 b0 xs vs ids H Z j y u J N R;obtain⟨id,b,O,_,_,h5,hf⟩:=H.at j y u J N R;simp only[fJ,nT]at Z;exact⟨id,b,fun e=>Z.1 (bF.2 ⟨(id,b),O,e⟩),O,h5,hf⟩
 induction H with
 | nil=>intro i j x y v u J;simp at J
 | pv z v0 hr ih=>
  intro i j x y v u J N R O h5 h6 h7;cases i with
  | zero=>simp at J;subst J;cases h5
  | succ i=>
   cases j with
   | zero=>simp at N;subst N;cases h6
   | succ j=>exact ih Z i j x y v u (by simpa using J) (by simpa using N) (by simpa using R) (by simpa using O) h5 h6 (by omega)
 | row id e es hL hid hr ih=>
  intro i j x y v u J N R O h5 h6 h7;have GW:=Z;simp only[fJ,nT]at GW;cases i with
  | zero=>
   cases j with
   | zero=>exact absurd rfl h7
   | succ j=>
    obtain⟨I,D,U,W,Y,hf⟩:=step id (.row e es) hr Z j y u (by simpa using N) (by simpa using O) h6;simp at J R;exact⟨id,I,.row e es,D,U.symm,by simp,by simp[W],R.symm,Y,J▸.inl (.inl ⟨e,es,rfl,rfl⟩),hf⟩
  | succ i=>
   cases j with
   | zero=>
    obtain⟨I,D,U,W,Y,hf⟩:=step id (.row e es) hr Z i x v (by simpa using J) (by simpa using R) h5;simp at N O;exact⟨I,id,D,.row e es,U,by simp[W],by simp,Y,O.symm,hf,N▸.inl (.inl ⟨e,es,rfl,rfl⟩)⟩
   | succ j=>
    obtain⟨xt,I,b1,D,U,W,Y,k4,k5⟩:=ih GW.2 i j x y v u (by simpa using J) (by simpa using N) (by simpa using R) (by simpa using O) h5 h6 (by omega);exact⟨xt,I,b1,D,U,by simp[W],by simp[Y],k4,k5⟩
 | map id mk es hL hid hr ih=>
  intro i j x y v u J N R O h5 h6 h7;have GW:=Z;simp only[fJ,nT]at GW;cases i with
  | zero=>
   cases j with
   | zero=>exact absurd rfl h7
   | succ j=>
    obtain⟨I,D,U,W,Y,hf⟩:=step id (.map mk es) hr Z j y u (by simpa using N) (by simpa using O) h6;simp at J R;exact⟨id,I,.map mk es,D,U.symm,by simp,by simp[W],R.symm,Y,J▸.inl (.inr ⟨mk,es,rfl,rfl⟩),hf⟩
  | succ i=>
   cases j with
   | zero=>
    obtain⟨I,D,U,W,Y,hf⟩:=step id (.map mk es) hr Z i x v (by simpa using J) (by simpa using R) h5;simp at N O;exact⟨I,id,D,.map mk es,U,by simp[W],by simp,Y,O.symm,hf,N▸.inl (.inr ⟨mk,es,rfl,rfl⟩)⟩
   | succ j=>
    obtain⟨xt,I,b1,D,U,W,Y,k4,k5⟩:=ih GW.2 i j x y v u (by simpa using J) (by simpa using N) (by simpa using R) (by simpa using O) h5 h6 (by omega);exact⟨xt,I,b1,D,U,by simp[W],by simp[Y],k4,k5⟩
 | box id cs ys hL hid hy hr ih=>
  intro i j x y v u J N R O h5 h6 h7;have GW:=Z;simp only[fJ,nT]at GW;cases i with
  | zero=>
   cases j with
   | zero=>exact absurd rfl h7
   | succ j=>
    obtain⟨I,D,U,W,Y,hf⟩:=step id (.box cs) hr Z j y u (by simpa using N) (by simpa using O) h6;simp at J R;exact⟨id,I,.box cs,D,U.symm,by simp,by simp[W],R.symm,Y,J▸.inr (.inl ⟨cs,ys,rfl,rfl,hy⟩),hf⟩
  | succ i=>
   cases j with
   | zero=>
    obtain⟨I,D,U,W,Y,hf⟩:=step id (.box cs) hr Z i x v (by simpa using J) (by simpa using R) h5;simp at N O;exact⟨I,id,D,.box cs,U,by simp[W],by simp,Y,O.symm,hf,N▸.inr (.inl ⟨cs,ys,rfl,rfl,hy⟩)⟩
   | succ j=>
    obtain⟨xt,I,b1,D,U,W,Y,k4,k5⟩:=ih GW.2 i j x y v u (by simpa using J) (by simpa using N) (by simpa using R) (by simpa using O) h5 h6 (by omega);exact⟨xt,I,b1,D,U,by simp[W],by simp[Y],k4,k5⟩
 | a7 id cs hL hid hr ih=>
  intro i j x y v u J N R O h5 h6 h7;have GW:=Z;simp only[fJ,nT]at GW;cases i with
  | zero=>
   cases j with
   | zero=>exact absurd rfl h7
   | succ j=>
    obtain⟨I,D,U,W,Y,hf⟩:=step id (.a7 cs) hr Z j y u (by simpa using N) (by simpa using O) h6;simp at J R;exact⟨id,I,.a7 cs,D,U.symm,by simp,by simp[W],R.symm,Y,J▸.inr (.inr ⟨cs,rfl,rfl⟩),hf⟩
  | succ i=>
   cases j with
   | zero=>
    obtain⟨I,D,U,W,Y,hf⟩:=step id (.a7 cs) hr Z i x v (by simpa using J) (by simpa using R) h5;simp at N O;exact⟨I,id,D,.a7 cs,U,by simp[W],by simp,Y,O.symm,hf,N▸.inr (.inr ⟨cs,rfl,rfl⟩)⟩
   | succ j=>
    obtain⟨xt,I,b1,D,U,W,Y,k4,k5⟩:=ih GW.2 i j x y v u (by simpa using J) (by simpa using N) (by simpa using R) (by simpa using O) h5 h6 (by omega);exact⟨xt,I,b1,D,U,by simp[W],by simp[Y],k4,k5⟩
theorem Mc{id:Nat}:∀{fz:List (Nat×AB)},tG id fz=true->∀p∈fz,p.1≠id:=by
 intro fz
 induction fz with
 | nil=>intro _ p hp;cases hp
 | cons x fz ih=>
  intro u p hp;unfold tG at u;split at u
  ·cases u
  rename_i z;rcases aE.1 hp with h | h
  ·subst h;intro e;rw[e]at z;simp at z
  exact ih u p h
theorem He:∀{ids fz:List (Nat×AB)},IL ids fz=true->(∀p∈ids,tG p.1 fz=true)/\(ids.map (·.1)).Nodup:=by
 intro ids
 induction ids with
 | nil=>intro fz _;simp
 | cons x ids ih=>
  intro fz h;obtain⟨i,b⟩:=x;simp only[IL,aK]at h;obtain⟨⟨u,z⟩,D⟩:=h;obtain⟨I,J⟩:=ih D;refine⟨fun p hp=>?_,?_⟩
  ·rcases aE.1 hp with h | h
   ·subst h;exact u
   exact I p h
  simp only[fJ,nT];refine⟨fun N=>?_,J⟩;obtain⟨p,hp,O⟩:=bF.1 N;exact Mc z p hp O
def By:List Arg->List (Nat×AB)->Nat->Nat->Prop
 | x::xs,ids,i,id=>match x.handed with
  | false=>match i with
   | 0=>False
   | i+1=>By xs ids i id
  | true=>match ids with
   | (id0,_)::ids=>match i with
    | 0=>id=id0
    | i+1=>By xs ids i id
   | []=>False
 | _,_,_,_=>False
theorem By.uniq:∀{xs:List Arg} {ids:List (Nat×AB)} {i a b:Nat},By xs ids i a->By xs ids i b->a=b
 | [],_,_,_,_,h,_=>h.elim
 | x::xs,ids,i,a,b,h,k=>by
  unfold By at h k;split at h
  ·rename_i u;simp only[u]at k;cases i with
   | zero=>exact h.elim
   | succ i=>exact By.uniq h k
  rename_i u;simp only[u]at k;cases ids with
  | nil=>exact h.elim
  | cons p ids=>
   cases i with
   | zero=>exact h.trans k.symm
   | succ i=>exact By.uniq (xs:=xs) (ids:=ids) h k
def OQ(S:Nat->Prop)(w:World)(P:Program)(args:List Arg)(fin:List Fin)(vs:List Value)(i:Nat)(v:Value)(iA new:AB):Prop:=
 new=.none\/(((∃e es dA,iA=.row e es/\new=.row e dA/\aC P w (aQ S w) e dA v)\/∃mk es dA,iA=.map mk es/\new=.map mk dA/\C4 S w mk dA v)\/(∃(cs:List AV) (xs:List PV) (g:Nat) (ty:TypeId) (c:Array Value),iA=.box cs/\new=.box (xs.map .p)/\v=.pointer (some ⟨g,0,none⟩)/\w.heap[g]?=some (.cells c ty (0,0))/\c.size=xs.length/\∀(j:Nat) x u,xs[j]?=some x->c[j]?=some u->u.oneCell'=true/\aQ S w x u)\/
  (∃(cs nz:List HC) (g:Nat) (ty:TypeId) (c:Array Value),iA=.a7 cs/\new=.a7 nz/\v=.pointer (some ⟨g,0,none⟩)/\JV S w P nz g ty c))/\
  (∀g,hasB w new v g->¬S g/\dG w args fin vs i g)
theorem OQ.lift{S:Nat->Prop}{w:World}{P:Program}{xs:List Arg}{fin:List Fin}{i:Nat}{v:Value}{u new:AB}{z:List Arg}{D:List Fin}{I:List Value}{J:Nat}(h:∀g,dG w xs fin vs i g->dG w z D I J g)(hb:OQ S w P xs fin vs i v u new):OQ S w P z D I J v u new:=
 hb.imp id fun hb=>⟨hb.1,fun g N=>⟨(hb.2 g N).1,h g (hb.2 g N).2⟩⟩
theorem mU{S:Nat->Prop}{w:World}{P:Program}{h:Nat->AB}{xs:List Arg}{ids:List (Nat×AB)}(H:gr L rho h xs vs ids):
  ∀(fin:List Fin) fe,fx S w P xs fin vs->gO ids fin=some fe->fe.map (·.1)=ids.map (·.1)/\∀id new,(id,new)∈fe->∃D i,(id,D)∈ids/\By xs ids i id/\OQ S w P xs fin vs i (rho id) D new:=by
 induction H with
 | nil=>
  intro fin fe gy u;cases fin with
  | nil=>simp[gO]at u;subst u;exact⟨rfl,by simp⟩
  | cons f fin=>simp[gO]at u
 | pv x v hr ih=>
  intro fin fe gy u;obtain⟨I,J⟩:=ih fin fe gy u;refine⟨I,fun id new N=>?_⟩;obtain⟨D,i,O,R,U⟩:=J id new N;exact⟨D,i+1,O,R,U.lift fun g h=>h⟩
 | @row i e es xs vs ids hL hid hr ih=>
  intro fin fe gy u;cases fin with
  | nil=>exact gy.elim
  | cons f fin=>
   obtain⟨z,qN⟩:=(show pr S w P (.row e es) f (rho i)/\fx S w P xs fin vs from gy);cases f with
   | gone=>
    simp only[gO]at u;obtain⟨Y,Z,rfl⟩:=aT.1 u;obtain⟨I,J⟩:=ih fin Y qN Z;refine⟨by simp[I],fun id new N=>?_⟩;rcases aE.1 N with e' | e'
    ·injection e' with e1 e2;subst e1 e2;exact⟨.row e es,0,by simp,rfl,.inl rfl⟩
    obtain⟨D,k,O,R,U⟩:=J id new e';exact⟨D,k+1,by simp[O],R,U.lift fun g h=>h⟩
   | row dA=>
    simp only[gO]at u;obtain⟨Y,Z,rfl⟩:=aT.1 u;obtain⟨I,J⟩:=ih fin Y qN Z;refine⟨by simp[I],fun id new N=>?_⟩;rcases aE.1 N with e' | e'
    ·injection e' with e1 e2;subst e1 e2;exact⟨_,0,by simp,rfl,.inr ⟨.inl (.inl ⟨e,es,dA,rfl,rfl,z.1⟩),fun g W=>⟨z.2 g (aD rfl W),rfl,.inl (aD rfl W)⟩⟩⟩
    obtain⟨D,k,O,R,U⟩:=J id new e';exact⟨D,k+1,by simp[O],R,U.lift fun g h=>h⟩
   | map dA=>exact z.elim
   | box cs=>exact z.elim
   | a7 cs=>exact z.elim
 | @map i mk es xs vs ids hL hid hr ih=>
  intro fin fe gy u;cases fin with
  | nil=>exact gy.elim
  | cons f fin=>
   obtain⟨z,qN⟩:=(show pr S w P (.map mk es) f (rho i)/\fx S w P xs fin vs from gy);cases f with
   | gone=>
    simp only[gO]at u;obtain⟨Y,Z,rfl⟩:=aT.1 u;obtain⟨I,J⟩:=ih fin Y qN Z;refine⟨by simp[I],fun id new N=>?_⟩;rcases aE.1 N with e' | e'
    ·injection e' with e1 e2;subst e1 e2;exact⟨.map mk es,0,by simp,rfl,.inl rfl⟩
    obtain⟨D,k,O,R,U⟩:=J id new e';exact⟨D,k+1,by simp[O],R,U.lift fun g h=>h⟩
   | map dA=>
    simp only[gO]at u;obtain⟨Y,Z,rfl⟩:=aT.1 u;obtain⟨I,J⟩:=ih fin Y qN Z;refine⟨by simp[I],fun id new N=>?_⟩;rcases aE.1 N with e' | e'
    ·injection e' with e1 e2;subst e1 e2;exact⟨_,0,by simp,rfl,.inr ⟨.inl (.inr ⟨mk,es,dA,rfl,rfl,z.1⟩),fun g W=>⟨z.2 g (aD rfl W),rfl,.inl (aD rfl W)⟩⟩⟩
    obtain⟨D,k,O,R,U⟩:=J id new e';exact⟨D,k+1,by simp[O],R,U.lift fun g h=>h⟩
   | row dA=>exact z.elim
   | box cs=>exact z.elim
   | a7 cs=>exact z.elim
 | @box i cs ys xs vs ids hL hid hy hr ih=>
  intro fin fe gy u;cases fin with
  | nil=>exact gy.elim
  | cons f fin=>
   obtain⟨z,qN⟩:=(show pr S w P (.box ys) f (rho i)/\fx S w P xs fin vs from gy);cases f with
   | gone=>
    simp only[gO]at u;obtain⟨Y,Z,rfl⟩:=aT.1 u;obtain⟨I,J⟩:=ih fin Y qN Z;refine⟨by simp[I],fun id new N=>?_⟩;rcases aE.1 N with e' | e'
    ·injection e' with e1 e2;subst e1 e2;exact⟨.box cs,0,by simp,rfl,.inl rfl⟩
    obtain⟨D,k,O,R,U⟩:=J id new e';exact⟨D,k+1,by simp[O],R,U.lift fun g h=>h⟩
   | row es=>exact z.elim
   | map es=>exact z.elim
   | a7 es=>exact z.elim
   | box tb=>
    simp only[gO]at u;obtain⟨Y,Z,rfl⟩:=aT.1 u;obtain⟨I,J⟩:=ih fin Y qN Z;refine⟨by simp[I],fun id new N=>?_⟩;rcases aE.1 N with e' | e'
    ·injection e' with e1 e2;subst e1 e2;obtain⟨g,ty,c,m1,m2,m3,m4,m5⟩:=z;refine⟨_,0,by simp,rfl,.inr ⟨.inr (.inl ⟨cs,tb,g,ty,c,rfl,rfl,m1,m2,m3,m5⟩),fun g' W=>?_⟩⟩;have W:=aD rfl W;refine⟨?_,rfl,.inl W⟩;rw[m1]at W;injection W with W;exact W▸m4
    obtain⟨D,k,O,R,U⟩:=J id new e';exact⟨D,k+1,by simp[O],R,U.lift fun g h=>h⟩
 | @a7 i cs xs vs ids hL hid hr ih=>
  intro fin fe gy u;cases fin with
  | nil=>exact gy.elim
  | cons f fin=>
   obtain⟨z,qN⟩:=(show pr S w P (.a7 cs) f (rho i)/\fx S w P xs fin vs from gy);cases f with
   | gone=>
    simp only[gO]at u;obtain⟨Y,Z,rfl⟩:=aT.1 u;obtain⟨I,J⟩:=ih fin Y qN Z;refine⟨by simp[I],fun id new N=>?_⟩;rcases aE.1 N with e' | e'
    ·injection e' with e1 e2;subst e1 e2;exact⟨.a7 cs,0,by simp,rfl,.inl rfl⟩
    obtain⟨D,k,O,R,U⟩:=J id new e';exact⟨D,k+1,by simp[O],R,U.lift fun g h=>h⟩
   | row es=>exact z.elim
   | map es=>exact z.elim
   | box es=>exact z.elim
   | a7 nz=>
    simp only[gO]at u;obtain⟨Y,Z,rfl⟩:=aT.1 u;obtain⟨I,J⟩:=ih fin Y qN Z;refine⟨by simp[I],fun id new N=>?_⟩;rcases aE.1 N with e' | e'
    ·injection e' with e1 e2;subst e1 e2;obtain⟨g,ty,c,m1,m2,m3⟩:=z;exact⟨_,0,by simp,rfl,.inr ⟨.inr (.inr ⟨cs,nz,g,ty,c,rfl,rfl,m1,m2⟩),fun g' W=>⟨m3 g' W,rfl,W⟩⟩⟩
    obtain⟨D,k,O,R,U⟩:=J id new e';exact⟨D,k+1,by simp[O],R,U.lift fun g h=>h⟩
theorem fD(fe:List (Nat×AB))(h:Nat->AB)(id:Nat):(∃b,(id,b)∈fe/\app h fe id=b)\/((∀p∈fe,p.1≠id)/\app h fe id=h id):=by
 induction fe generalizing h with
 | nil=>exact .inr ⟨by simp,rfl⟩
 | cons x fe ih=>
  rcases ih (bq h x.1 x.2) with⟨b,z,u⟩ | ⟨z,u⟩
  ·exact .inl ⟨b,by simp[z],u⟩
  by_cases e:x.1=id
  ·refine .inl ⟨x.2,by rw[<-e];simp,?_⟩;show app (bq h x.1 x.2) fe id=x.2;rw[u,e,aH]
  refine .inr ⟨fun p hp=>?_,?_⟩
  ·rcases aE.1 hp with h | h
   ·rw[h];exact e
   exact z p h
  show app (bq h x.1 x.2) fe id=h id;rw[u,a_ _ _ (fun e'=>e e'.symm)]
theorem uI{w:World}{b:AB}{v:Value}{g:Nat}{x:Arg}(h:((∃e es,x=.row e es/\b=.row e es)\/∃mk es,x=.map mk es/\b=.map mk es)\/(∃cs ys,x=.box ys/\b=.box cs/\eV cs=some ys)\/∃cs,x=.a7 cs/\b=.a7 cs):hasB w (C5 x) v g↔hasB w b v g:=by
 rcases h with (⟨e,es,rfl,rfl⟩ | ⟨mk,es,rfl,rfl⟩) | ⟨cs,ys,rfl,rfl,_⟩ | ⟨cs,rfl,rfl⟩
 ·exact⟨fun h=>.inl (aD rfl h),fun h=>.inl (aD rfl h)⟩
 ·exact⟨fun h=>.inl (aD rfl h),fun h=>.inl (aD rfl h)⟩
 ·exact⟨fun h=>.inl (aD rfl h),fun h=>.inl (aD rfl h)⟩
 exact fH
theorem gr.form{h:Nat->AB}{xs:List Arg}{ids:List (Nat×AB)}(H:gr L rho h xs vs ids):∀id b,(id,b)∈ids->∃(j:Nat) (x:Arg),xs[j]?=some x/\vs[j]?=some (rho id)/\x.handed=true/\(((∃e es,x=.row e es/\b=.row e es)\/∃mk es,x=.map mk es/\b=.map mk es)\/(∃cs ys,x=.box ys/\b=.box cs/\eV cs=some ys)\/∃cs,x=.a7 cs/\b=.a7 cs):=by
 induction H with
 | nil=>intro id b h;cases h
 | pv y u hr ih=>intro id b h;obtain⟨j,x,z⟩:=ih id b h;exact⟨j+1,x,by simpa using z⟩
 | row i e es D hid hr ih=>
  intro id b h;rcases aE.1 h with h | h
  ·injection h with h1 h2;subst h1 h2;exact⟨0,_,rfl,rfl,rfl,.inl (.inl ⟨e,es,rfl,rfl⟩)⟩
  obtain⟨j,x,z⟩:=ih id b h;exact⟨j+1,x,by simpa using z⟩
 | map i mk es D hid hr ih=>
  intro id b h;rcases aE.1 h with h | h
  ·injection h with h1 h2;subst h1 h2;exact⟨0,_,rfl,rfl,rfl,.inl (.inr ⟨mk,es,rfl,rfl⟩)⟩
  obtain⟨j,x,z⟩:=ih id b h;exact⟨j+1,x,by simpa using z⟩
 | box i cs ys D hid hy hr ih=>
  intro id b h;rcases aE.1 h with h | h
  ·injection h with h1 h2;subst h1 h2;exact⟨0,_,rfl,rfl,rfl,.inr (.inl ⟨cs,ys,rfl,rfl,hy⟩)⟩
  obtain⟨j,x,z⟩:=ih id b h;exact⟨j+1,x,by simpa using z⟩
 | a7 i cs D hid hr ih=>
  intro id b h;rcases aE.1 h with h | h
  ·injection h with h1 h2;subst h1 h2;exact⟨0,_,rfl,rfl,rfl,.inr (.inr ⟨cs,rfl,rfl⟩)⟩
  obtain⟨j,x,z⟩:=ih id b h;exact⟨j+1,x,by simpa using z⟩
theorem gr.mv{h:Nat->AB}{w:World}{xs:List Arg}{vs:Array Value}{ids:List (Nat×AB)}(H:gr L rho h xs vs.toList ids)(g:Nat):Mv w xs vs g↔∃id b,(id,b)∈ids/\hasB w b (rho id) g:=by
 constructor
 ·rintro⟨j,x,v,u,z,D,I⟩;obtain⟨id,b,J,_,_,N,O⟩:=H.at j x v u (by simpa using z) D;exact⟨id,b,J,by rw[<-N];exact (uI O).1 I⟩
 rintro⟨id,b,u,z⟩;obtain⟨j,x,D,I,J,N⟩:=H.form id b u;exact⟨j,x,_,D,by simpa using I,J,(uI N).2 z⟩
theorem cc.handed{S2:Nat->Prop}{t:Nat->AV}{a:Act}{w w':World}{h D:Nat->AB}(hC:bR A.C)(I:cc A V L S2 rho ⟨t,D⟩ a w){xs:List Arg}{vs:Array Value}{ids fe:List (Nat×AB)}{fin:List Fin}(H:gr L rho h xs vs.toList ids)(hh:∀id b,(id,b)∈ids->D id=h id)
  (hf:Fr (Mv w xs vs) w w') (hS:∀b,S2 b->S' b) (Bk:∀b,S' b->b<w'.heap.size) (Ri:∀b,S' b->S2 b\/w.heap.size<=b\/Mv w xs vs b) (gy:fx S' w' A.C.P xs fin vs.toList) (hok:uy w w' xs fin vs) (qM:gO ids fin=some fe):
  cc A V L S' rho ⟨t,app D fe⟩ a w':=by
 obtain⟨hk,hb⟩:=mU H fin fe gy qM;have Me:∀id,(∃b,(id,b)∈ids)↔∃b,(id,b)∈fe:=by
  intro id;have:id∈ids.map (·.1)↔id∈fe.map (·.1):=by rw[hk]
  simpa using this
 have own:∀id b,(id,b)∈ids->L id/\(D id).live/\D id=b:=fun id b hm=>by
  obtain⟨R,N,h4,_⟩:=H.back id b hm;have:=hh id b hm;exact⟨R,by rw[this,N];exact h4,by rw[this,N]⟩
 have Vw:∀g,Mv w xs vs g->¬S2 g/\(A.mv g\/A.w0.heap.size<=g):=fun g W=>by
  obtain⟨id,b,R,N⟩:=H.mv g |>.1 W;obtain⟨h4,J,h6⟩:=own id b R;exact (I.lv id g h4 J (by show hasB w (D id) _ _;rw[h6];exact N)).2
 have lx:∀b,S2 b->w'.heap[b]?=w.heap[b]?:=fun k hk=>hf.block k (I.st k hk) fun hm=>(Vw k hm).1 hk;have T:mQ S2 S' w w' L L rho rho D (app D fe):=by
  refine⟨hS,lx,fun id ht=>⟨?_,fun U=>⟨U,rfl⟩⟩,fun id e Y=>?_⟩
  ·rcases fD fe D id with⟨b,R,N⟩ | ⟨_,N⟩
   ·obtain⟨b',gZ⟩:=(Me id).2 ⟨b,R⟩;obtain⟨_,h4,_⟩:=own id b' gZ;cases hx:D id<;>rw[hx]at h4<;>first | trivial | exact h4.elim
   rw[N]at ht;exact ht
  rcases fD fe D id with⟨b,R,N⟩ | ⟨_,N⟩
  ·rw[N]at Y;obtain⟨iA,i,h4,_,J⟩:=hb id b R;obtain⟨_,_,h6⟩:=own id iA h4;rcases J with J | ⟨J | J | J,_⟩
   ·rw[J]at Y;cases Y
   ·rcases J with J | J
    ·obtain⟨e',Vx,oz,h7,Z,_⟩:=J;rw[Z]at Y;injection Y with Y;rw[h6,h7,Y];rfl
    obtain⟨mk,Vx,oz,h7,Z,_⟩:=J;rw[Z]at Y;cases Y
   ·obtain⟨cs,ys,g,ty,c,h7,Z,_⟩:=J;rw[Z]at Y;cases Y
   obtain⟨cs,ys,g,ty,c,h7,Z,_⟩:=J;rw[Z]at Y;cases Y
  rw[N]at Y;exact Y
 have fY:∀id,(app D fe id).live->(D id).live:=by
  intro id U;rcases fD fe D id with⟨b,R,N⟩ | ⟨_,N⟩
  ·obtain⟨b',gZ⟩:=(Me id).2 ⟨b,R⟩;exact (own id b' gZ).2.1
  rw[N]at U;exact U
 have same:∀id g,L id->(D id).live->(∀p∈fe,p.1≠id)->hasB w (D id) (rho id) g->¬Mv w xs vs g:=fun id g U O R W hm=>by
  obtain⟨Bl,b',h4,J⟩:=H.mv g |>.1 hm;obtain⟨h6,h7,Z⟩:=own Bl b' h4;have:=I.dj id Bl g U h6 O h7 W (by show hasB w (D Bl) _ _;rw[Z];exact J);subst this;obtain⟨b2,xp⟩:=(Me id).1 ⟨b',h4⟩;exact R _ xp rfl
 have old:∀id g,L id->(D id).live->(∀p∈fe,p.1≠id)->hasB w' (D id) (rho id) g->hasB w (D id) (rho id) g:=fun id g U O R W=>
  d_ (fun k hk=>hf.block k (I.qk id k U O hk).1 (same id k U O R (.inl hk))) W
 have back:∀id b,(id,b)∈fe->(app D fe id).live->app D fe id=b->∃i,By xs ids i id/\∀g,hasB w' b (rho id) g->¬S' g/\dG w' xs fin vs.toList i g:=fun id b hm U Y=>by
  obtain⟨iA,i,_,xo,N⟩:=hb id b hm;rcases N with N | ⟨_,N⟩
  ·rw[Y,N]at U;exact U.elim
  exact⟨i,xo,N⟩
 exact
 {tm:=fun j hj=>(I.tm j hj).dH T
  sz:=I.sz,df:=I.df,nb:=I.nb,pn:=I.pn
  ev:=hC.env _ _ _ _ I.ev hS lx hf.size
  s0:=fun b hb=>hS b (I.s0 b hb)
  st:=Bk
  sb:=fun b hb=>by
   rcases Ri b hb with h | h | h
   ·exact I.sb b h
   ·exact .inr (.inr (aO I.fr.size h))
   exact .inr (Vw b h).2
  hp:=fun id U=>by
   show fU _ _ _ _ _ _ _ (app D fe id);rcases fD fe D id with⟨b,R,N⟩ | ⟨R,N⟩
   ·rw[N];obtain⟨iA,i,h4,_,J⟩:=hb id b R;rcases J with J | ⟨J | J | J,_⟩
    ·rw[J];trivial
    ·rcases J with J | J
     ·obtain⟨e',Vx,oz,h7,Z,h9⟩:=J;rw[Z];exact h9
     obtain⟨mk,Vx,oz,h7,Z,h9⟩:=J;rw[Z];exact h9
    ·obtain⟨cs,ys,g,ty,c,h7,Z,h9,TK,Y7,Yc⟩:=J;rw[Z];refine⟨g,ty,c,h9,TK,by simpa using Y7,fun j x u hj hu=>?_⟩;rw[aB]at hj;obtain⟨z,hz,rfl⟩:=aT.1 hj;exact⟨(Yc j z u hz hu).1,.p _ _ (Yc j z u hz hu).2⟩
    obtain⟨cs,nz,g,ty,c,h7,Z,h9,TK⟩:=J;rw[Z];exact⟨g,ty,c,h9,TK⟩
   rw[N];exact (I.hp id U).dH T (fun O g W=>hf.block g (I.lv id g U O W).1 (same id g U O R W)) (fun _=>rfl)
  dj:=fun i j g hi hj O lj fZ kz=>by
   have one:∀i j,L i->L j->(app D fe i).live->(app D fe j).live->hasB w' (app D fe i) (rho i) g->hasB w' (app D fe j) (rho j) g->(∃b,(i,b)∈fe/\app D fe i=b)->((∀p∈fe,p.1≠j)/\app D fe j=D j)->False:=by
    rintro i j hi hj O lj fZ kz ⟨b,m1,m2⟩ ⟨n1,n2⟩;rw[n2]at kz lj;have kz:=old j g hj lj n1 kz;obtain⟨k,_,qI⟩:=back i b m1 O m2;rw[m2]at fZ;rcases (hok.1 k g (qI g fZ).2).2 with h | h
    ·have:=(I.lv j g hj lj kz).1;exact absurd this (by omega)
    exact same j g hj lj n1 kz h
   rcases fD fe D i with ci | ci
   ·rcases fD fe D j with cj | cj
    ·obtain⟨b,m1,m2⟩:=ci;obtain⟨c,n1,n2⟩:=cj;obtain⟨k1,p1,q1⟩:=back i b m1 O m2;obtain⟨k2,p2,q2⟩:=back j c n1 lj n2;have fZ:hasB w' (app D fe i) (rho i) g:=fZ;have kz:hasB w' (app D fe j) (rho j) g:=kz;rw[m2]at fZ;rw[n2]at kz;have:=hok.2 k1 k2 g (q1 g fZ).2 (q2 g kz).2;subst this;exact p1.uniq p2
    exact (one i j hi hj O lj fZ kz ci cj).elim
   rcases fD fe D j with cj | cj
   ·exact (one j i hj hi lj O kz fZ cj ci).elim
   have fZ:hasB w' (app D fe i) (rho i) g:=fZ;have kz:hasB w' (app D fe j) (rho j) g:=kz;have O:(app D fe i).live:=O;have lj:(app D fe j).live:=lj;rw[ci.2]at fZ O;rw[cj.2]at kz lj;exact I.dj i j g hi hj O lj (old i g hi O ci.1 fZ) (old j g hj lj cj.1 kz)
  lv:=fun id g U O W=>by
   have W:hasB w' (app D fe id) (rho id) g:=W;have O:(app D fe id).live:=O;rcases fD fe D id with⟨b,R,N⟩ | ⟨R,N⟩
   ·obtain⟨k,_,q⟩:=back id b R O N;rw[N]at W;obtain⟨q1,q2⟩:=q g W;obtain⟨r1,r2⟩:=hok.1 k g q2;refine⟨r1,q1,?_⟩;rcases r2 with h | h
    ·exact .inr (aO I.fr.size h)
    exact (Vw g h).2
   rw[N]at W O;have W:=old id g U O R W;obtain⟨h4,J,h6⟩:=I.lv id g U O W;refine⟨cG h4 hf.size,fun hs=>?_,h6⟩;rcases Ri g hs with h | h | h
   ·exact J h
   ·omega
   exact same id g U O R W h
  fr:=I.fr.next hf.os hf.tape hf.output hf.size fun k hk hn=>hf.block k (cG hk I.fr.size) fun hm=>by
   rcases (Vw k hm).2 with h | h
   ·exact hn h
   omega }
variable {Q:Exit->Act->World->Prop}
theorem uJ{P:Program}{o:Oper}{a:Act}{w:World}{f:FuncId}{vs:Array Value}{next:Act->World->Prop}{R:Ending->World->Prop}(h:(execOp a.eval o).run P w=.ok (.enter f vs) w)(u:Calls P f vs w R)
  (z:∀e w',R e w'->∃v,e=.returned v/\next (a.put o.dst v) w'):o.wp P a w next Q:=by
 unfold Oper.wp;rw[h];refine u.mono fun e w' D=>?_;obtain⟨v,rfl,I⟩:=z e w' D;exact I
theorem Hg(hC:bR A.C){o:Oper}{S:Nat->Prop}{a:Act}{w:World}{K:KK}{next:Act->World->Prop}(sim:cc A V L S rho s a w)(hd:∀d,o.dst=some d->d<A.n)
  (hn:∀v eff b,K v eff (some b)->¬L (o.dst.getD 0)/\s.h (o.dst.getD 0)=b)
  (hnext:∀v eff new S' rho' a' w',K v eff new->cc A (zl V o.dst) (C8 L new (o.dst.getD 0)) S' rho' ⟨f_ s.t o.dst v,app s.h eff⟩ a' w'->next a' w')
  (f:FuncId) (jz:List AV) (vs:Array Value) (hl:jz.length=vs.size)
  (hrep:∀(S2:Nat->Prop) (h2:Nat->AB),cc A V L S2 rho ⟨s.t,h2⟩ a w->∀(i:Nat) x v,jz[i]?=some x->vs.toList[i]?=some v->br S2 w A.C.P L rho h2 x v)
  (hrun : (∃ fn : Func, A.C.P.funcs[f]? = some fn ∧ (fn.name == "runtime.NumGoroutine") = false ∧ fn.body.isNone = false) → (execOp a.eval o).run A.C.P w = .ok (.enter f vs) w) (hq : pt A.C s.h (o.dst.getD 0) f jz K) : o.wp A.C.P a w next Q := by
 unfold pt at hq;obtain⟨xs,ids,fz,S2,⟨r,fin,oO,hq⟩,bD,yJ,hF,Fb,hlen,H,hpv⟩:=Kc hC jz vs.toList 0 s.h S _ (by simpa using hl) sim (qD.refl _) hrep (fun _ h=>h) hq;split at hq
 ·rename_i fe qM;split at hq
  ·rename_i hok;obtain⟨Y8,Oj⟩:=He hok;have hh:∀id b,(id,b)∈ids->(app s.h fz) id=s.h id:=fun id b hm=>mR (Y8 (id,b) hm);have own:∀id b,(id,b)∈ids->L id/\(app s.h fz id).live/\app s.h fz id=b:=fun id b hm=>by
    obtain⟨h1,h3,h4,_⟩:=H.back id b hm;have:=hh id b hm;exact⟨h1,by rw[this,h3];exact h4,by rw[this,h3]⟩
   have key:=oO.2 S2 w vs bD.ev bD.st (by simpa using hlen) (fun j x v hj hv=>by
     have C7:vs.toList[j]?=some v:=by simpa using hv
     cases hx:x.handed with
     | false=>
      cases x with
      | pv y=>exact hpv j y v hj C7
      | row=>cases hx
      | map=>cases hx
      | box=>cases hx
      | a7=>cases hx
     | true=>
      obtain⟨id,b,h1,h2,h3,h4,h5⟩:=H.at j x v hj C7 hx;obtain⟨h6,h7,h8⟩:=own id b h1;have hp:=bD.hp id h6;have hp:fU S2 w A.C.P L rho (app s.h fz) id (app s.h fz id):=hp;rw[h8]at hp;rcases h5 with (⟨e,es,rfl,rfl⟩ | ⟨mk,es,rfl,rfl⟩) | ⟨cs,ys,rfl,rfl,hy⟩ | ⟨cs,rfl,rfl⟩
      ·rw[h4];exact⟨hp,fun g hg=>(bD.qk id g h6 h7 hg).2.1⟩
      ·rw[h4];exact⟨hp,fun g hg=>(bD.qk id g h6 h7 hg).2.1⟩
      ·obtain⟨g,ty,c,k1,k2,k3,k4⟩:=hp;obtain⟨k5,k6⟩:=iy hy;rw[h4];refine⟨g,ty,c,k1,k2,by rw[k3,k5],(bD.qk id g h6 h7 (by rw[k1];rfl)).2.1,fun i x u hi hu=>?_⟩;obtain⟨y,hy⟩:∃y,cs[i]?=some y:=⟨_,aX (by rw[k5];exact aA hi)⟩;obtain⟨k7,k8⟩:=k4 i y u hy hu;exact⟨k7,k8.yI (k6 i y x hy hi)⟩
      obtain⟨g,ty,c,k1,k2⟩:=hp;rw[h4];exact⟨g,ty,c,k1,k2,fun k hk=>by obtain⟨q1,q2,_⟩:=bD.lv id k h6 h7 (by show hasB w (app s.h fz id) _ _;rw[h8];exact hk);exact⟨q2,q1⟩⟩)
    (fun i j x y v u g hi hj hv hu hx hy hg lN=>by
     by_cases Bm:i=j
     ·exact Bm
     obtain⟨xt,tL,b1,b2,k1,k2,k3,k4,k5,f1,f2⟩:=H.inj Oj i j x y v u hi hj (by simpa using hv) (by simpa using hu) hx hy Bm;obtain⟨l1,v1,o1⟩:=own xt b1 k2;obtain⟨l2,v2,o2⟩:=own tL b2 k3;exact absurd (bD.dj xt tL g l1 l2 v1 v2 (by show hasB w (app s.h fz xt) _ _;rw[<-k4,o1];exact (uI f1).1 hg) (by show hasB w (app s.h fz tL) _ _;rw[<-k5,o2];exact (uI f2).1 lN)) k1)
   refine uJ (hrun oO.1) key fun e w' uK=>?_;obtain⟨v,S',rfl,hf,Wl,Bk,Ri,hr,gy,OR,hown⟩:=uK;refine⟨v,rfl,?_⟩;split at hq
   ·rename_i nU;simp only[aK]at nU;have Wm:ids=[]:=by cases ids with | nil=>rfl | cons p ids=>cases nU.2
    subst Wm;have Wn:Fr (fun _=>False) w w':=⟨hf.os,hf.tape,hf.output,hf.size,fun k hk _=>hf.block k hk fun hm=>by
     obtain⟨id,b,h1,_⟩:=(H.mv k).1 hm;cases h1⟩
    have gp:=sim.grow hC w' Wn;refine hnext _ _ _ S rho _ _ hq (gp.value o.dst hd _ _ ?_);cases r with
    | p x=>exact .p _ _ (oN nU.1 hr)
    | own e es=>cases nU.1
    | hown cs=>cases nU.1
    | tu ys=>
     obtain⟨us,rfl,h1,h2⟩:=hr;refine .tu _ us (by simpa using h1) fun i c u hi hu=>?_;rw[aB]at hi;obtain⟨z,hz,rfl⟩:=aT.1 hi;exact .p _ _ (oN (ep.1 nU.1 z (an hz)) (h2 i z u hz hu))
   have gp:=cc.handed hC bD H hh hf Wl Bk Ri gy OR qM;have gp:cc A V L S' rho ⟨s.t,app s.h (fz++fe)⟩ a w':=by rw[cM];exact gp
   cases r with
   | p x=>exact hnext _ _ _ S' rho _ _ hq (gp.value o.dst hd _ _ (.p _ _ hr))
   | tu ys=>
    refine hnext _ _ _ S' rho _ _ hq (gp.value o.dst hd _ _ ?_);obtain⟨us,rfl,h1,h2⟩:=hr;refine .tu _ us (by simpa using h1) fun i c u hi hu=>?_;rw[aB]at hi;obtain⟨z,hz,rfl⟩:=aT.1 hi;exact .p _ _ (h2 i z u hz hu)
   | own e es=>
    obtain⟨hL,hb⟩:=hn _ _ _ hq;have Rg:app s.h (fz++fe) (o.dst.getD 0)=.row e es:=by
     rw[ji (fun p hp (e:p.1=_)=>?_),hb];rcases cm.1 hp with h | h
     ·exact hL (by rw[<-e];exact Fb p h)
     obtain⟨hk,_⟩:=mU H fin fe gy qM;have:p.1∈ids.map (·.1):=by rw[<-hk];exact bF.2 ⟨p,h,rfl⟩
     obtain⟨q,Wo,Wp⟩:=bF.1 this;obtain⟨Wq,_⟩:=own q.1 q.2 Wo;exact hL (by rw[<-e,<-Wp];exact Wq)
    have Bz:=gp.qK hC (o.dst.getD 0) (AB.row e es) (gp.qm hd) hL Rg w' rfl rfl rfl (aF _) (fun k=>hasB w' (AB.row e es) v k) (fun _ _ _=>rfl) (fun k hk=>by
      have Lq:=aD rfl hk;obtain⟨h1,h2,h3⟩:=hown k rfl (.inl Lq);refine⟨hr.2 k Lq,fun i hi li fZ=>?_,?_⟩
      ·have oH:(app s.h (fz++fe) i).live:=li;rw[cM]at oH;have fZ:hasB w' (app s.h (fz++fe) i) (rho i) k:=fZ;rw[cM]at fZ;rcases fD fe (app s.h fz) i with⟨b,m1,m2⟩ | ⟨m1,m2⟩
       ·obtain⟨qI,xp⟩:=mU H fin fe gy qM;obtain⟨iA,n,m3,_,m4⟩:=xp i b m1;rcases m4 with m4 | ⟨_,m4⟩
        ·rw[m2,m4]at oH;exact oH
        rw[m2]at fZ;exact h3 n (m4 k fZ).2
       rw[m2]at oH fZ;have TL:∀g,hasB w (app s.h fz i) (rho i) g->¬Mv w xs vs g:=fun g hg hm=>by
        obtain⟨Bl,b',m3,m4⟩:=(H.mv g).1 hm;obtain⟨m5,m6,m7⟩:=own Bl b' m3;have:=bD.dj i Bl g hi m5 oH m6 hg (by show hasB w (app s.h fz Bl) _ _;rw[m7];exact m4);subst this;obtain⟨qI,_⟩:=mU H fin fe gy qM;have:i∈fe.map (·.1):=by rw[qI];exact bF.2 ⟨_,m3,rfl⟩
        obtain⟨p,hp,Wr⟩:=bF.1 this;exact m1 p hp Wr
       have fZ:=d_ (fun g hg=>hf.block g (bD.qk i g hi oH hg).1 (TL g (.inl hg))) fZ;obtain⟨q1,q2,q3⟩:=bD.lv i k hi oH fZ;rcases h2 with h2 | h2
       ·omega
       exact TL k fZ h2
      ·rcases h2 with h2 | h2
       ·exact .inr (aO bD.fr.size h2)
       obtain⟨Bl,b',m3,m4⟩:=(H.mv k).1 h2;obtain⟨m5,m6,m7⟩:=own Bl b' m3;exact (bD.lv Bl k m5 m6 (by show hasB w (app s.h fz Bl) _ _;rw[m7];exact m4)).2.2) v (fun g hg=>⟨(hown g rfl (.inl (aD rfl hg))).1,.inr hg⟩) (fun T=>by
      show aC _ _ _ e es (bq rho (o.dst.getD 0) v (o.dst.getD 0));rw[aH];exact hr.1)
    exact hnext _ _ _ S' _ _ _ hq (Bz.value o.dst hd _ _ (.ow _ _ fun _=>⟨.inr rfl,(aH _ _ _).symm⟩))
   | hown cs=>
    obtain⟨hL,hb⟩:=hn _ _ _ hq;obtain⟨g0,Y9,c0,Ws,Mf,oM⟩:=hr;have Rg:app s.h (fz++fe) (o.dst.getD 0)=.a7 cs:=by
     rw[ji (fun p hp (e:p.1=_)=>?_),hb];rcases cm.1 hp with h | h
     ·exact hL (by rw[<-e];exact Fb p h)
     obtain⟨hk,_⟩:=mU H fin fe gy qM;have:p.1∈ids.map (·.1):=by rw[<-hk];exact bF.2 ⟨p,h,rfl⟩
     obtain⟨q,Wo,Wp⟩:=bF.1 this;obtain⟨Wq,_⟩:=own q.1 q.2 Wo;exact hL (by rw[<-e,<-Wp];exact Wq)
    have Bz:=gp.qK hC (o.dst.getD 0) (AB.a7 cs) (gp.qm hd) hL Rg w' rfl rfl rfl (aF _) (fun k=>hasB w' (AB.a7 cs) v k) (fun _ _ _=>rfl) (fun k hk=>by
      obtain⟨h1,h2,h3⟩:=hown k rfl hk;refine⟨oM k hk,fun i hi li fZ=>?_,?_⟩
      ·have oH:(app s.h (fz++fe) i).live:=li;rw[cM]at oH;have fZ:hasB w' (app s.h (fz++fe) i) (rho i) k:=fZ;rw[cM]at fZ;rcases fD fe (app s.h fz) i with⟨b,m1,m2⟩ | ⟨m1,m2⟩
       ·obtain⟨qI,xp⟩:=mU H fin fe gy qM;obtain⟨iA,n,m3,_,m4⟩:=xp i b m1;rcases m4 with m4 | ⟨_,m4⟩
        ·rw[m2,m4]at oH;exact oH
        rw[m2]at fZ;exact h3 n (m4 k fZ).2
       rw[m2]at oH fZ;have TL:∀g,hasB w (app s.h fz i) (rho i) g->¬Mv w xs vs g:=fun g hg hm=>by
        obtain⟨Bl,b',m3,m4⟩:=(H.mv g).1 hm;obtain⟨m5,m6,m7⟩:=own Bl b' m3;have:=bD.dj i Bl g hi m5 oH m6 hg (by show hasB w (app s.h fz Bl) _ _;rw[m7];exact m4);subst this;obtain⟨qI,_⟩:=mU H fin fe gy qM;have:i∈fe.map (·.1):=by rw[qI];exact bF.2 ⟨_,m3,rfl⟩
        obtain⟨p,hp,Wr⟩:=bF.1 this;exact m1 p hp Wr
       have fZ:=d_ (fun g hg=>hf.block g (bD.qk i g hi oH hg).1 (TL g (.inl hg))) fZ;obtain⟨q1,q2,q3⟩:=bD.lv i k hi oH fZ;rcases h2 with h2 | h2
       ·omega
       exact TL k fZ h2
      ·rcases h2 with h2 | h2
       ·exact .inr (aO bD.fr.size h2)
       obtain⟨Bl,b',m3,m4⟩:=(H.mv k).1 h2;obtain⟨m5,m6,m7⟩:=own Bl b' m3;exact (bD.lv Bl k m5 m6 (by show hasB w (app s.h fz Bl) _ _;rw[m7];exact m4)).2.2) v (fun g hg=>⟨(hown g rfl hg).1,.inr hg⟩) (fun T=>by
      exact⟨g0,Y9,c0,by rw[aH];exact Ws,Mf⟩)
    exact hnext _ _ _ S' _ _ _ hq (Bz.value o.dst hd _ _ (.bx _ _ _ fun _=>⟨.inr rfl,g0,by rw[aH];exact Ws,Ws⟩))
  exact hq.elim
 exact hq.elim
theorem oI.rep(hC:bR A.C){S:Nat->Prop}{a:Act}{w:World}(N:cc A V L S rho s a w){x:AV}{y:PV}{v:Value}(hv:oI s.h x y)(D:br S w A.C.P L rho s.h x v):
  aQ (fun b=>S b\/∃id,L id/\(s.h id).live/\hasB w (s.h id) (rho id) b) w y v:=by
 have hS:∀b,S b->S b\/∃id,L id/\(s.h id).live/\hasB w (s.h id) (rho id) b:=fun b h=>.inl h;cases hv with
 | p=>exact D.fK.mono hS (fun _ _=>rfl)
 | nl=>cases D;exact .nil _ _
 | row id e es z=>
  obtain⟨I,rfl⟩:=D.cW (by rw[z];trivial);have J:=N.hp id I;rw[z]at J;exact aC.Fa J hS fun g Y=>.inr ⟨id,I,by rw[z];trivial,.inl Y⟩
 | jr id es z=>
  obtain⟨I,rfl⟩:=D.cW (by rw[z];trivial);have J:=N.hp id I;rw[z]at J;exact aQ.mono J hS (fun _ _=>rfl)
 | ay id e es ps z hp=>
  obtain⟨I,rfl⟩:=D.cW (by rw[z];trivial);have J:=N.hp id I;rw[z]at J;obtain⟨hR,_⟩:=J;have b_:(s.h id).live:=by rw[z];trivial
  have V_:aC A.C.P w (aQ (fun b=>S b\/∃id,L id/\(s.h id).live/\hasB w (s.h id) (rho id) b) w) e ps (rho id):=by
   have Y_:=hR;obtain⟨i,ws,h1,h2,h3,h4,h5,h6⟩:=Y_;have old:∀{a:Nat} {q:List PV},ps[a]?=some q->∃r,es[a]?=some r:=fun {a q} U=>⟨_,aX (by rw[<-hp.len];exact aA U)⟩;refine⟨i,ws,h1,h2,by rw[hp.len];exact h3,fun q hq=>?_,h5,fun k q j y U hj=>?_⟩
   ·obtain⟨k,hk⟩:=cI.1 hq;obtain⟨r,z⟩:=old hk;rw[(hp.row k r q z hk).1];exact h4 r (an z)
   obtain⟨r,Z⟩:=old U;obtain⟨hlen,O⟩:=hp.row k r q Z U;obtain⟨x,D⟩:∃x,r[j]?=some x:=⟨_,aX (by rw[<-hlen];exact aA hj)⟩;obtain⟨u,hu,R⟩:=h6 k r j x Z D;refine⟨u,hu,?_⟩;have:=O j x y D hj;cases this with
   | p x=>exact (br.fK R).mono hS (fun _ _=>rfl)
   | nl=>
    have R:br S w A.C.P L rho s.h .nl u:=R;cases R;exact .nil _ _
   | row e' xs=>
    have R:aC A.C.P w (aQ S w) e' xs u:=R;refine aC.Fa R hS fun b hb=>.inr ⟨id,I,b_,?_⟩;obtain⟨g,u2,g1,g2,_⟩:=hR.E6 Z D;have:u2=u:=by
     obtain⟨_,_,_,_,_,W⟩:=(rT h3 h4 g1).1 g2;rw[hu]at W;injection W with W;exact W.symm
    subst this;rw[z];exact .inr (.inr ⟨_,_,_,_,_,_,rfl,g1,g2,hb⟩)
  exact aC.Fa V_ (fun _ h=>h) fun g Y=>.inr ⟨id,I,b_,.inl Y⟩
theorem pw.at{h:Nat->AB}{as:List AV}{xs:List PV}(D:pw h as xs):as.length=xs.length/\∀(i:Nat) a x,as[i]?=some a->xs[i]?=some x->oI h a x:=by
 induction D with
 | nil=>exact⟨rfl,fun i a x h=>by simp at h⟩
 | cons h1 h2 ih=>
  refine⟨by simp[ih.1],fun i a x u z=>?_⟩;cases i with
  | zero=>simp at u z;subst u z;exact h1
  | succ i=>exact ih.2 i a x (by simpa using u) (by simpa using z)
theorem View.rep(hC:bR A.C){S:Nat->Prop}{a:Act}{w:World}(z:cc A V L S rho s a w){x:AV}{y:PV}{v:Value}(I:View s.h x y)(W:br S w A.C.P L rho s.h x v):
  aQ (fun b=>S b\/∃id,L id/\(s.h id).live/\hasB w (s.h id) (rho id) b) w y v:=by
 have hS:∀b,S b->S b\/∃id,L id/\(s.h id).live/\hasB w (s.h id) (rho id) b:=fun b h=>.inl h;cases I with
 | one h1=>exact h1.rep hC z W
 | box id off cs xs hb qA=>
  obtain⟨O,g,R,I⟩:=W.iO (by rw[hb];trivial);have J:=z.hp id O;rw[hb]at J;obtain⟨g',ty,c,D,k2,k3,k4⟩:=J;rw[R]at D;injection D with D;injection D with D;injection D with D;subst D;obtain⟨hl,rQ⟩:=qA.at;have Z:∀(i:Nat) x,xs[i]?=some x->∃u,c[i]?=some u/\u.oneCell'=true/\aQ (fun b=>S b\/∃id,L id/\(s.h id).live/\hasB w (s.h id) (rho id) b) w x u:=by
   intro i x hi;obtain⟨y,Y⟩:∃y,cs[i]?=some y:=⟨_,aX (by rw[hl];exact aA hi)⟩;obtain⟨u,hu⟩:=ky k3.symm (aA Y);obtain⟨N,U⟩:=k4 _ _ _ Y hu;exact⟨u,hu,N,(rQ i y x Y hi).rep hC z U⟩
  have:aQ (fun b=>S b\/∃id,L id/\(s.h id).live/\hasB w (s.h id) (rho id) b) w (.ip xs) (.pointer (some ⟨g,0,none⟩)):=by
   refine .ip xs g 0 (fun i=>(c[i]?).getD undef) (.inr ⟨id,O,by rw[hb];trivial,.inl (by rw[R];rfl)⟩) (fun i x hi=>?_) fun i x hi=>?_
   ·obtain⟨u,N,U,h7⟩:=Z i x hi;rw[aY,cell_of_row w g i c ty (0,0) k2,N];exact⟨rfl,U⟩
   obtain⟨u,N,U,h7⟩:=Z i x hi;rw[N];exact h7
  rw[I];exact this.uF rfl
 | ll id off xs hb=>
  obtain⟨O,g,R,I⟩:=W.iO (by rw[hb];trivial);have J:=z.hp id O;rw[hb]at J;have Q0:aQ _ w (.ip xs) (rho id):=J;rw[I];exact (Q0.uF R).mono hS (fun _ _=>rfl)
theorem uz.at{h:Nat->AB}{as:List AV}{xs:List PV}(D:uz h as xs):as.length=xs.length/\∀(i:Nat) a x,as[i]?=some a->xs[i]?=some x->View h a x:=by
 induction D with
 | nil=>exact⟨rfl,fun i a x h=>by simp at h⟩
 | cons h1 h2 ih=>
  refine⟨by simp[ih.1],fun i a x u z=>?_⟩;cases i with
  | zero=>simp at u z;subst u z;exact h1
  | succ i=>exact ih.2 i a x (by simpa using u) (by simpa using z)
theorem Ff{h:Nat->AB}{c:AV}(u:wc h c=true):(∃es,c=.p (.sl es))\/(∃a m n,c=.p (.im (.slice a m n)))\/(∃i e es,c=.ow i/\h i=.row e es)\/c=.nl:=by
 unfold wc at u;split at u
 ·exact .inl ⟨_,rfl⟩
 ·exact .inr (.inl ⟨_,_,_,rfl⟩)
 ·split at u
  ·rename_i z;exact .inr (.inr (.inl ⟨_,_,_,rfl,z⟩))
  cases u
 ·exact .inr (.inr (.inr rfl))
 cases u
def Mg(a:AV)(u:Value):PV:=match a with
 | .p x=>x
 | _=>.im u
theorem zx{S:Nat->Prop}{w:World}{g:Nat}{c:Array Value}{O:TypeId}(W:w.heap[g]?=some (.cells c O (0,0)))(Y:∀(j:Nat) u,c[j]?=some u->∀k n,u≠.int k n)(hS:∀b,S b->S' b\/b=g){x:PV}{v:Value}(hi:QQ x)(h:aQ S w x v):aQ S' w x v:=by
 cases h with
 | im=>exact .im _
 | nil a c=>exact .nil a c
 | ag cs vs Z z h=>exact hi.elim
 | ip cs b off U hS hcell h=>exact hi.elim
 | fn f cap vs Z h=>exact hi.elim
 | sl es k b off cp U Wu hb hk hcell h=>
  have J:∀(i:Nat) e (j:Nat) x,es[i]?=some e->e[j]?=some x->∃I n,x=.im (.int I n):=fun i e j x z D=>by
   obtain⟨I,n,N⟩:=hi e (an z);subst N;cases j with
   | zero=>simp at D;exact⟨I,n,D.symm⟩
   | succ j=>simp at D
  cases es with
  | nil=>exact .nil _ _
  | cons e es=>
   rcases hS b hb with hb | hb
   ·refine .sl _ k b off cp U Wu hb hk hcell fun i e j x z D=>?_;obtain⟨I,n,hx⟩:=J i e j x z D;have R:=h i e j x z D;subst hx;generalize U i j=u at R ⊢;cases R;exact .im _
   subst hb;obtain⟨I,n,N⟩:=hi e bK;subst N;have z:=(hcell 0 _ 0 _ rfl rfl).1;have D:=h 0 _ 0 _ rfl rfl;generalize U 0 0=u0 at z D;cases D;rw[cell_of_row w b _ c O (0,0) W]at z;exact absurd rfl (Y _ _ z I n)
theorem Mh{S:Nat->Prop}{w:World}{g:Nat}{c:Array Value}{J:TypeId}(z:w.heap[g]?=some (.cells c J (0,0)))(D:∀(j:Nat) u,c[j]?=some u->∀k n,u≠.int k n)(hS:∀b,S b->S' b\/b=g){x:PV}{v:Value}(hi:Tl x)(h:aQ S w x v):aQ S' w x v:=by
 cases x with
 | ag cs=>
  cases h with
  | ag cs vs N h1 h=>exact .ag cs vs N h1 fun i a u I O=>zx z D hS (hi a (an I)) (h i a u I O)
 | im x=>exact zx z D hS hi h
 | sl es=>exact zx z D hS hi h
 | ip cs=>exact hi.elim
 | fn f cap=>exact hi.elim
theorem Mi{S:Nat->Prop}{P:Program}{w:World}{e:TypeId}{es:List (List PV)}{v:Value}(h:aC P w (aQ S w) e es v)(hS:∀b,S b->S' b):aC P w (aQ S' w) e es v:=by
 obtain⟨i,xs,z,D,I,J,N,O⟩:=h;exact⟨i,xs,z,D,I,J,N,fun a r j x R U=>by obtain⟨u,W,Y⟩:=O a r j x R U;exact⟨u,W,Y.mono hS fun _ _=>rfl⟩⟩
theorem Mj{S:Nat->Prop}{P:Program}{w:World}{e:TypeId}{es:List (List PV)}{v:Value}(h:aC P w (aQ S w) e es v)(J:∀r∈es,∀z∈r,E5 z=true):aC P w (aQ S' w) e es v:=by
 obtain⟨i,xs,N,O,R,U,W,Y⟩:=h;exact⟨i,xs,N,O,R,U,W,fun a r j x D I=>by obtain⟨u,Z,hr⟩:=Y a r j x D I;exact⟨u,Z,oN (J r (an D) x (an I)) hr⟩⟩
theorem Kd(hC:bR A.C){o:Oper}{S:Nat->Prop}{a:Act}{w:World}{K:KK}{next:Act->World->Prop}(sim:cc A V L S rho s a w)(hd:∀d,o.dst=some d->d<A.n)
  (hnext:∀v eff new S' rho' a' w',K v eff new->cc A (zl V o.dst) (C8 L new (o.dst.getD 0)) S' rho' ⟨f_ s.t o.dst v,app s.h eff⟩ a' w'->next a' w')
  (f:FuncId) (jz:List AV) (vs:Array Value) (hl:jz.length=vs.size)
  (hrep:∀(S2:Nat->Prop) (h2:Nat->AB),cc A V L S2 rho ⟨s.t,h2⟩ a w->∀(i:Nat) x v,jz[i]?=some x->vs.toList[i]?=some v->br S2 w A.C.P L rho h2 x v)
  (hrun : (∃ fn : Func, A.C.P.funcs[f]? = some fn ∧ (fn.name == "runtime.NumGoroutine") = false ∧ fn.body.isNone = false) → (execOp a.eval o).run A.C.P w = .ok (.enter f vs) w) (hq : zi A.C s.h f jz K) : o.wp A.C.P a w next Q := by
 unfold zi at hq;split at hq
 ·rename_i id y iw;split at hq
  ·rename_i cs e es hb hr;obtain⟨x,dA,oO,Ch,hint,Za,hk⟩:=hq;obtain⟨v0,v1,v2,rfl⟩:∃v0 v1 v2,vs=#[v0,v1,v2]:=by
    obtain⟨l⟩:=vs
    match l,hl with
    | [v0,v1,v2],_=>exact⟨v0,v1,v2,rfl⟩
   have r0:=hrep S s.h sim 0 _ v0 rfl rfl;have r1:=(hrep S s.h sim 1 _ v1 rfl rfl).fK;obtain⟨S6,rfl⟩:=(hrep S s.h sim 2 _ v2 rfl rfl).cW (by rw[hr];trivial);obtain⟨hL,g,hg,rfl⟩:=r0.iO (by rw[hb];trivial);have hh:=sim.hp id hL;rw[hb]at hh;obtain⟨g',ty,c,k1,k2,k3,k4⟩:=hh;rw[hg]at k1;injection k1 with k1;injection k1 with k1;injection k1 with k1;subst k1;have ay:=sim.hp iw S6;rw[hr]at ay;have ay:aC A.C.P w (aQ S w) e es (rho iw):=ay;have cU:id≠iw:=fun e=>by rw[e,hr]at hb;cases hb
   have Yd:(s.h id).live:=by rw[hb];trivial
   have Rj:(s.h iw).live:=by rw[hr];trivial
   have Ye:∀b,bY (rho iw)=some b->b≠g:=fun b gZ e=>cU (sim.Tm id iw g hL S6 Yd Rj (by rw[hg];rfl) (by rw[<-e];exact gZ));obtain⟨tJ,hgS,_⟩:=sim.qk id g hL Yd (by rw[hg];rfl);have TM:∀(j:Nat) u,c[j]?=some u->∀k n,u≠.int k n:=fun j u hu k n hn=>by
    obtain⟨av,TN⟩:∃av,cs[j]?=some av:=⟨_,aX (by rw[<-k3];exact (dq.1 hu).1)⟩;have h1:=Ch av (an TN);have h2:=(k4 j av u TN hu).2;subst hn;rcases Ff h1 with⟨zs,rfl⟩ | ⟨_,_,_,rfl⟩ | ⟨i,e2,oz,rfl,oM⟩ | rfl
    ·have:=h2.fK;cases this
    ·have:=h2.fK;cases this
    ·obtain⟨Yf,h3⟩:=h2.cW (by rw[oM];trivial);have h4:=sim.hp i Yf;rw[oM]at h4;obtain⟨_,_,_,_,h5,_⟩:=h4;obtain⟨_,_,h6⟩:=er h5;rw[<-h3]at h6;cases h6
    cases h2
   have pC:∀(j:Nat) z,(List.zipWith Mg cs c.toList)[j]?=some z->∃u,c[j]?=some u/\u.oneCell'=true/\aQ S w z u:=fun j z hz=>by
    rw[List.getElem?_zipWith]at hz;cases h1:cs[j]? with
    | none=>rw[h1]at hz;cases hz
    | some av=>
     cases h2:c.toList[j]? with
     | none=>rw[h1,h2]at hz;cases hz
     | some u=>
      rw[h1,h2]at hz;simp only[Option.some.injEq]at hz;have hu:c[j]?=some u:=by rw[<-jN];exact h2
      obtain⟨q1,q2⟩:=k4 j av u h1 hu;refine⟨u,hu,q1,?_⟩;rw[<-hz];unfold Mg;split
      ·exact q2.fK
      exact .im _
   have Wv:P4 cs (List.zipWith Mg cs c.toList):=⟨by simp[List.length_zipWith,k3],fun j z hz=>by
    obtain⟨u,hu⟩:∃u,c.toList[j]?=some u:=⟨_,aX (by have:=aA hz;simp[k3];exact this)⟩;rw[List.getElem?_zipWith,hz,hu];rfl⟩
   obtain⟨S1,TO⟩:∃S1:Nat->Prop,S1=fun b=>S b\/b=g:=⟨_,rfl⟩;have yJ:∀b,S b->S1 b:=fun b h=>by rw[TO];exact .inl h
   have oO:=oO _ Wv;have key:=oO.2 S1 w #[.pointer (some ⟨g,0,none⟩),v1,rho iw] (hC.env _ _ _ _ sim.ev yJ (fun _ _=>rfl) (aF _)) (fun b h=>by
     rw[TO]at h;rcases h with h | h
     ·exact sim.st b h
     ·rw[h];exact tJ) rfl (fun j z v hj hv=>by
     match j with
     | 0=>
      simp only[rU,Option.some.injEq]at hj;have hv:Value.pointer (some ⟨g,0,none⟩)=v:=by simpa using hv
      subst hj;subst hv;refine .ip _ g 0 (fun i=>(c[i]?).getD undef) (by rw[TO];exact .inr rfl) (fun i z hi=>?_) fun i z hi=>?_
      ·obtain⟨u,h5,h6,h7⟩:=pC i z hi;rw[aY,cell_of_row w g i c ty (0,0) k2,h5];exact⟨rfl,h6⟩
      obtain⟨u,h5,h6,h7⟩:=pC i z hi;rw[h5];exact h7.mono yJ fun _ _=>rfl
     | 1=>
      simp only[yC,rU,Option.some.injEq]at hj;have hv:v1=v:=by simpa using hv
      subst hj;subst hv;exact r1.mono yJ fun _ _=>rfl
     | 2=>
      simp only[yC,rU,Option.some.injEq]at hj;have hv:rho iw=v:=by simpa using hv
      subst hj;subst hv;refine⟨Mi ay yJ,fun b gZ h=>?_⟩;rw[TO]at h;rcases h with h | h
      ·exact (sim.qk iw b S6 Rj gZ).2.1 h
      exact Ye b gZ h
     | j+3=>simp at hj) (fun i j z z' v u b hi hj hv hu hx hy _ _=>by
     match i,j with
     | 2,2=>rfl
     | 0,_=>simp at hi;subst hi;cases hx
     | 1,_=>simp at hi;subst hi;cases hx
     | i+3,_=>simp at hi
     | _,0=>simp at hj;subst hj;cases hy
     | _,1=>simp at hj;subst hj;cases hy
     | _,j+3=>simp at hj)
   have H:gr L rho s.h [.pv (.ip (List.zipWith Mg cs c.toList)),.pv y,.row e es] [.pointer (some ⟨g,0,none⟩),v1,rho iw] [(iw,.row e es)]:=.pv _ _ (.pv _ _ (.row iw e es S6 hr .nil));refine uJ (hrun oO.1) key fun e' w' uK=>?_;obtain⟨v,S',rfl,hf,Wl,Bk,Ri,LI,gy,OR,hown⟩:=uK;refine⟨v,rfl,?_⟩;have Yg:∀b,Mv w [.pv (.ip (List.zipWith Mg cs c.toList)),.pv y,.row e es] #[.pointer (some ⟨g,0,none⟩),v1,rho iw] b->bY (rho iw)=some b:=fun b hm=>by
    obtain⟨Bl,b',h1,h2⟩:=(H.mv b).1 hm;simp only[bM,Prod.mk.injEq]at h1;obtain⟨rfl,rfl⟩:=h1;exact aD rfl h2
   have lN:w'.heap[g]?=some (.cells c ty (0,0)):=by
    rw[hf.block g tJ fun hm=>Ye g (Yg g hm) rfl];exact k2
   have Lr:pr S' w' A.C.P (.row e es) (.row dA) (rho iw):=gy.1;obtain⟨S2,TQ⟩:∃S2:Nat->Prop,S2=fun b=>S b\/(S' b/\w.heap.size<=b):=⟨_,rfl⟩;have TR:∀b,S b->S2 b:=fun b h=>by rw[TQ];exact .inl h
   have hx:aQ S2 w' x v:=Mh lN TM (fun b h=>by
    rcases Ri b h with h1 | h1 | h1
    ·rw[TO]at h1;rcases h1 with h1 | h1
     ·exact .inl (TR b h1)
     exact .inr h1
    ·rw[TQ];exact .inl (.inr ⟨h,h1⟩)
    exact absurd h (Lr.2 b (Yg b h1))) hint LI
   have gp:=cc.handed (S':=S2) hC sim H (fun _ _ _=>rfl) hf TR (fun b h=>by
    rw[TQ]at h;rcases h with h | h
    ·exact cG (sim.st b h) hf.size
    ·exact Bk b h.1) (fun b h=>by
    rw[TQ]at h;rcases h with h | h
    ·exact .inl h
    ·exact .inr (.inl h.2)) (fin:=[.row dA]) (show pr S2 w' A.C.P (.row e es) (.row dA) (rho iw)/\True from ⟨⟨Mj Lr.1 Za,fun b gZ h=>by
    rw[TQ]at h;rcases h with h | h
    ·exact (sim.qk iw b S6 Rj gZ).2.1 h
    exact Lr.2 b gZ h.1⟩,trivial⟩) OR (fe:=[(iw,.row e dA)]) rfl
   exact hnext _ _ _ S2 rho _ _ hk (gp.value o.dst hd _ _ (.p _ _ hx))
  exact hq.elim
 exact hq.elim
theorem Ke(hC:bR A.C){o:Oper}{S:Nat->Prop}{a:Act}{w:World}{K:KK}{next:Act->World->Prop}(sim:cc A V L S rho s a w)(hd:∀d,o.dst=some d->d<A.n)
  (hn:∀v eff b,K v eff (some b)->¬L (o.dst.getD 0)/\s.h (o.dst.getD 0)=b)
  (hnext:∀v eff new S' rho' a' w',K v eff new->cc A (zl V o.dst) (C8 L new (o.dst.getD 0)) S' rho' ⟨f_ s.t o.dst v,app s.h eff⟩ a' w'->next a' w')
  (f:FuncId) (jz:List AV) (vs:Array Value) (hl:jz.length=vs.size)
  (hrep:∀(S2:Nat->Prop) (h2:Nat->AB),cc A V L S2 rho ⟨s.t,h2⟩ a w->∀(i:Nat) x v,jz[i]?=some x->vs.toList[i]?=some v->br S2 w A.C.P L rho h2 x v)
  (hrun : (∃ fn : Func, A.C.P.funcs[f]? = some fn ∧ (fn.name == "runtime.NumGoroutine") = false ∧ fn.body.isNone = false) → (execOp a.eval o).run A.C.P w = .ok (.enter f vs) w) (hq : uA A.C s.h (o.dst.getD 0) f jz K) : o.wp A.C.P a w next Q := by
 unfold uA at hq;split at hq
 ·exact Hg hC sim hd hn hnext f jz vs hl hrep hrun hq
 split at hq;rotate_left
 ·exact Kd hC sim hd hnext f jz vs hl hrep hrun hq
 obtain⟨xs,r,LX,oO,nU,hq⟩:=hq;obtain⟨TG,Ww⟩:=LX.at;have key:=oO.2 (fun b=>S b\/∃id,L id/\(s.h id).live/\hasB w (s.h id) (rho id) b) w vs (hC.env _ _ _ _ sim.ev (fun b h=>.inl h) (fun _ _=>rfl) (aF _)) (fun b h=>h.elim (sim.st b) fun ⟨id,h1,h2,h3⟩=>(sim.lv id b h1 h2 h3).1) (by simp[<-TG,hl]) (fun j x v hj hv=>by
   rw[aB]at hj;obtain⟨y,hy,rfl⟩:=aT.1 hj;obtain⟨av,TN⟩:∃av,jz[j]?=some av:=⟨_,aX (by rw[TG];exact aA hy)⟩;exact (Ww j av y TN hy).rep hC sim (hrep S s.h sim j av v TN (by simpa using hv))) (fun i j x y v u g hi hj hv hu hx=>by
   rw[aB]at hi;obtain⟨z,_,rfl⟩:=aT.1 hi;cases hx)
 refine uJ (hrun oO.1) key fun e w' uK=>?_;obtain⟨v,S',rfl,hf,Wl,Bk,Ri,hr,gy,OR,hown⟩:=uK;refine⟨v,rfl,?_⟩;have Wn:Fr (fun _=>False) w w':=⟨hf.os,hf.tape,hf.output,hf.size,fun k hk _=>hf.block k hk fun ⟨j,x,v,hj,_,hx,_⟩=>by
  rw[aB]at hj;obtain⟨z,_,rfl⟩:=aT.1 hj;cases hx⟩
 have gp:=sim.grow hC w' Wn;refine hnext _ _ _ S rho _ _ hq (gp.value o.dst hd _ _ ?_);cases r with
 | p x=>exact .p _ _ (oN nU hr)
 | own e es=>cases nU
 | hown cs=>cases nU
 | tu ys=>
  obtain⟨us,rfl,h1,h2⟩:=hr;refine .tu _ us (by simpa using h1) fun i c u hi hu=>?_;rw[aB]at hi;obtain⟨z,hz,rfl⟩:=aT.1 hi;exact .p _ _ (oN (ep.1 nU z (an hz)) (h2 i z u hz hu))
theorem Dn {P : Program} {w : World} {f : FuncId} {vs : Array Value} (h : ∃ fn : Func, P.funcs[f]? = some fn ∧ (fn.name == "runtime.NumGoroutine") = false ∧ fn.body.isNone = false) : (callFunc f vs).run P w = .ok (.enter f vs) w := by
 obtain⟨fn,h1,h2,h3⟩:=h
 have xo : ¬ fn.name = "runtime.NumGoroutine" := by simpa using h2
 cases hb:fn.body with
 | none=>rw[hb]at h3;cases h3
 | some b=>simp[callFunc,Sem.run,program,h1,xo,hb]
theorem Fg{α:Type}{a:Array α}(h:isNil a.toList=true):a=#[]:=by
 obtain⟨l⟩:=a;cases l with
 | nil=>rfl
 | cons y l=>cases h
theorem td{S:Nat->Prop}{w:World}{P:Program}{h:Nat->AB}{x:AV}{v:Value}{f:FuncId}{cap:List AV}(D:zj x=some (f,cap))(I:br S w P L rho h x v):∃us:Array Value,v=.func (.func f) #[] us/\cap.length=us.size/\∀(i:Nat) c u,cap[i]?=some c->us[i]?=some u->br S w P L rho h c u:=by
 cases x<;>simp only[zj]at D<;>try (cases D;done)
 ·rename_i y;have I:=I.fK;cases y<;>simp only[IP]at D<;>try (cases D;done)
  ·rename_i z;obtain rfl:=I.bT;unfold IN at D;split at D
   ·rename_i fn first N
    split at D
    ·rename_i J;simp only[aK]at J;have O:=Fg J.1;have R:=Fg J.2;subst O R;cases fn<;>simp only[IM]at D<;>try (cases D;done)
     injection D with D;injection D with h1 h2;subst h1 h2;exact⟨#[],rfl,rfl,by simp⟩
    cases D
   cases D
  rename_i g N;injection D with D;injection D with h1 h2;subst h1 h2;cases I;rename_i us U W;refine⟨us,rfl,by simpa using U,fun i c u D Y=>?_⟩;rw[aB]at D;obtain⟨z,Z,rfl⟩:=aT.1 D;exact .p _ _ (W i z u Z Y)
 injection D with D;injection D with h1 h2;subst h1 h2;cases I;exact⟨_,rfl,by assumption,by assumption⟩
theorem cc.loose{S:Nat->Prop}{a:Act}{w:World}(u:cc A V L S rho s a w)(hC:bR A.C)(w':World)(R:Nat->Prop)(z:Fr R w w')(J:∀k,R k->¬S k/\(∀i,L i->(s.h i).live->¬hasB w (s.h i) (rho i) k)/\(A.mv k\/A.w0.heap.size<=k)):cc A V L S rho s a w':=by
 have U:∀b,S b->w'.heap[b]?=w.heap[b]?:=fun k hk=>z.block k (u.st k hk) (fun h=>(J k h).1 hk);have T:mQ S S w w' L L rho rho s.h s.h:=⟨fun b h=>h,U,fun j D=>⟨D,fun W=>⟨W,rfl⟩⟩,fun j e' D=>D⟩;exact
 {tm:=fun j D=>(u.tm j D).dH T
  sz:=u.sz,df:=u.df,nb:=u.nb,pn:=u.pn
  ev:=hC.env _ _ _ _ u.ev (fun b h=>h) U z.size
  s0:=u.s0
  st:=fun b hb=>cG (u.st b hb) z.size
  sb:=u.sb
  hp:=fun j D=>(u.hp j D).dH T (fun I g N=>z.block g (u.lv j g D I N).1 (fun h=>(J g h).2.1 j D I N)) (fun _=>rfl)
  dj:=fun i j g hi D I O Y Z=>u.dj i j g hi D I O (d_ (fun k hk=>z.block k (u.qk i k hi I hk).1 (fun h=>(J k h).2.1 i hi I (.inl hk))) Y) (d_ (fun k hk=>z.block k (u.qk j k D O hk).1 (fun h=>(J k h).2.1 j D O (.inl hk))) Z)
  lv:=fun i g hi I N=>by obtain⟨h1,h2⟩:=u.lv i g hi I (d_ (fun k hk=>z.block k (u.qk i k hi I hk).1 (fun h=>(J k h).2.1 i hi I (.inl hk))) N);exact⟨cG h1 z.size,h2⟩
  fr:=u.fr.next z.os z.tape z.output z.size fun k hk hn=>z.block k (cG hk u.fr.size) fun h=>by
   rcases (J k h).2.2 with h | h
   ·exact hn h
   omega }
theorem qO:∀{l:List AV} {as:List AV} {z:AV},rP l=some (as,z)->l=as++[z]
 | [],_,_,h=>by cases h
 | [x],_,_,h=>by cases h;rfl
 | x::y::r,as,z,h=>by
  rw[rP]at h;split at h
  ·rename_i l z' u;cases h;rw[qO u];rfl
  cases h
theorem OS{h:Nat->AB}{d:Nat}:∀{fz:List (Nat×AB)},(∀p∈fz,p.1≠d)->app h fz d=h d:=by
 intro fz
 induction fz generalizing h with
 | nil=>intro _;rfl
 | cons p fz ih=>
  intro hp;obtain⟨i,b⟩:=p;show app (bq h i b) fz d=h d;rw[ih fun q u=>hp q (by simp[u]),a_ _ _ (fun e=>hp (i,b) (by simp) e.symm)]
theorem Kf(hC:bR A.C){o:Oper}{S:Nat->Prop}{a:Act}{w:World}{K:KK}{next:Act->World->Prop}(sim:cc A V L S rho s a w)(hd:∀d,o.dst=some d->d<A.n)
  (hn:∀v eff b,K v eff (some b)->¬L (o.dst.getD 0)/\s.h (o.dst.getD 0)=b)
  (hnext:∀v eff new S' rho' a' w',K v eff new->cc A (zl V o.dst) (C8 L new (o.dst.getD 0)) S' rho' ⟨f_ s.t o.dst v,app s.h eff⟩ a' w'->next a' w')
  (f:FuncId) (jz:List AV) (vs:Array Value) (hl:jz.length=vs.size)
  (hrep:∀(S2:Nat->Prop) (h2:Nat->AB),cc A V L S2 rho ⟨s.t,h2⟩ a w->∀(i:Nat) x v,jz[i]?=some x->vs.toList[i]?=some v->br S2 w A.C.P L rho h2 x v)
  (hrun : (∃ fn : Func, A.C.P.funcs[f]? = some fn ∧ (fn.name == "runtime.NumGoroutine") = false ∧ fn.body.isNone = false) → (execOp a.eval o).run A.C.P w = .ok (.enter f vs) w) (hq : xi A.C s.h (o.dst.getD 0) f jz K) : o.wp A.C.P a w next Q := by
 unfold xi at hq;split at hq
 case h_2=>exact hq.elim
 rename_i as id rQ;have OT:=qO rQ;split at hq
 case h_2=>exact hq.elim
 rename_i ty c iw a7;split at hq
 case h_2=>exact hq.elim
 rename_i I3;split at hq
 case h_2=>exact hq.elim
 rename_i e es ay;obtain⟨ws,vb,LX,TB⟩:∃ws vb,vs.toList=ws++[vb]/\as.length=ws.length:=by
  have cU:vs.toList≠[]:=fun e=>by
   have:vs.size=0:=by simpa using ah List.length e
   rw[OT]at hl;simp at hl;omega
  refine⟨vs.toList.dropLast,vs.toList.getLast cU,(I1 cU).symm,?_⟩;rw[OT]at hl;simp at hl ⊢;omega
 have Ci:=hrep S s.h sim as.length (.bx id 0) vb (by rw[OT];simp) (by rw[LX,TB];simp);have Wx:∀(i:Nat) c v,as[i]?=some c->ws[i]?=some v->br S w A.C.P L rho s.h c v:=fun i c v h1 h2=>hrep S s.h sim i c v (by rw[OT,dU (aU.1 h1).1];exact h1) (by rw[LX,dU (aU.1 h2).1];exact h2);obtain⟨mS,g0,mh,Zb⟩:L id/\∃g,rho id=.pointer (some ⟨g,0,none⟩)/\vb=.pointer (some ⟨g,0,none⟩):=by
  cases Ci with
  | bx _ _ _ hv=>exact hv (by rw[a7];trivial)
 obtain⟨xs,fz,S2,⟨r,ch,dA,oO,hq⟩,bD,hpv,yJ,hF,Fb,hlen⟩:=Cc (t:=s.t) hC as ws S s.h TB sim (qD.refl _) Wx hq;split at hq
 case h_2=>exact hq.elim
 rename_i hok;simp only[aK,jj]at hok;obtain⟨nU,Wy,Rk,cU⟩:=hok;have cU:id≠iw:=fun e=>by rw[e]at cU;simp at cU
 have Mk:(app s.h fz) id=.jF ty [c,.ow iw]:=by rw[mR Wy,a7]
 have Ml:(app s.h fz) iw=.row e es:=by rw[mR Rk,ay]
 have TS:=bD.hp id mS;have TS:fU S2 w A.C.P L rho (app s.h fz) id (app s.h fz id):=TS;rw[Mk]at TS;obtain⟨g,cells,k1,k2,k3,k4⟩:=TS;rw[mh]at k1;obtain rfl:g0=g:=by injection k1 with k1;injection k1 with k1;injection k1
 obtain⟨u0,u1,gg⟩:∃u0 u1,cells=#[u0,u1]:=by
  obtain⟨cl⟩:=cells
  match cl,k3 with
  | [x,y],_=>exact⟨x,y,rfl⟩
 subst gg;obtain⟨o0,l0⟩:=k4 0 c u0 rfl rfl;obtain⟨o1,l1⟩:=k4 1 (.ow iw) u1 rfl rfl;obtain⟨Cj,TT⟩:L iw/\u1=rho iw:=by
  cases l1 with
  | ow _ _ hv=>exact hv (by rw[Ml];trivial)
 have Zc:u0=.pointer none\/u0=.pointer (some ⟨g0,0,none⟩):=by
  unfold P5 at I3;split at I3
  ·cases l0 with
   | p _ _ hx=>cases hx;exact .inl rfl
  ·have hi:=de I3;subst hi;cases l0 with
   | bx _ _ _ hv=>
    obtain⟨_,g',e1,e2⟩:=hv (by rw[Mk];trivial);rw[mh]at e1;injection e1 with e1;injection e1 with e1;injection e1 with e1;subst e1;exact .inr e2
  cases I3
 have uH:=bD.hp iw Cj;have uH:fU S2 w A.C.P L rho (app s.h fz) iw (app s.h fz iw):=uH;rw[Ml]at uH;have uH:aC A.C.P w (aQ S2 w) e es (rho iw):=uH;rw[<-TT]at uH;have Hh:(app s.h fz id).live:=by rw[Mk];trivial
 have yN:(app s.h fz iw).live:=by rw[Ml];trivial
 have Hi:=bD.qk id g0 mS Hh (by rw[mh];rfl);have uL:∀k,bY u1=some k->k<w.heap.size/\¬S2 k/\(A.mv k\/A.w0.heap.size<=k)/\k≠g0:=fun k hk=>by
  obtain⟨a1,a2,a3⟩:=bD.qk iw k Cj yN (by rw[<-TT];exact hk);refine⟨a1,a2,a3,fun e=>cU ?_⟩;subst e;exact bD.Tm id iw k mS Cj Hh yN (by rw[mh];rfl) (by rw[<-TT];exact hk)
 have Ww:vs=(ws++[Value.pointer (some ⟨g0,0,none⟩)]).toArray:=by
  rw[<-Zb,<-LX]
 have key:=oO.2 S2 w ws g0 u0 u1 bD.ev bD.st hlen hpv k2 Zc uH Hi.2.1 (fun k hk=>⟨(uL k hk).2.1,(uL k hk).2.2.2,(uL k hk).1⟩);rw[<-Ww]at key;refine uJ (hrun oO.1) key fun e' w' uK=>?_;obtain⟨v,rfl,hf,hr,uK⟩:=uK;refine⟨v,rfl,?_⟩;have hval:∀{L':Nat->Prop} {rho':Nat->Value} {h':Nat->AB},br S2 w' A.C.P L' rho' h' (SU (o.dst.getD 0) r) v:=by
  intro L' rho' h';cases r with
  | p x=>exact .p _ _ hr
  | own e es=>cases nU
  | hown cs=>cases nU
  | tu ys=>
   obtain⟨us,rfl,q1,q2⟩:=hr;refine .tu _ us (by simpa using q1) fun i c u hi hu=>?_;rw[aB]at hi;obtain⟨z,hz,rfl⟩:=aT.1 hi;exact .p _ _ (q2 i z u hz hu)
 split at hq
 case h_2=>
  have gp:=(bD.kill iw).kill id;have Bz:=gp.loose hC w' (fun k=>k=g0\/bY u1=some k) hf (fun k hk=>by
   have dead:∀i,(bq (bq (app s.h fz) iw .none) id .none i).live->i≠id/\i≠iw/\(app s.h fz i).live:=fun i li=>by
    rcases ba (bq (app s.h fz) iw .none) id .none i with⟨rfl,h⟩ | ⟨h1,h⟩
    ·rw[h]at li;exact li.elim
    rw[h]at li;rcases ba (app s.h fz) iw .none i with⟨rfl,h3⟩ | ⟨h2,h3⟩
    ·rw[h3]at li;exact li.elim
    rw[h3]at li;exact⟨h1,h2,li⟩
   have Qa:∀i,(bq (bq (app s.h fz) iw .none) id .none i).live->hasB w (bq (bq (app s.h fz) iw .none) id .none i) (rho i) k->hasB w (app s.h fz i) (rho i) k:=fun i li hg=>fL (dead i li).2.1 (fL (dead i li).1 hg);rcases hk with rfl | hk
   ·exact⟨Hi.2.1,fun i hi li fZ=>(dead i li).1 (bD.dj i id k hi mS (dead i li).2.2 Hh (Qa i li fZ) (.inl (by rw[mh];rfl))),Hi.2.2⟩
   exact⟨(uL k hk).2.1,fun i hi li fZ=>(dead i li).2.1 (bD.dj i iw k hi Cj (dead i li).2.2 yN (Qa i li fZ) (.inl (by rw[<-TT];exact hk))),(uL k hk).2.2.1⟩)
  have e6:bq (bq (app s.h fz) iw .none) id .none=app s.h (fz++[(iw,.none),(id,.none)]):=by rw[cM];rfl
  have Bz:cc A V L S2 rho ⟨s.t,bq (bq (app s.h fz) iw .none) id .none⟩ a w':=Bz;rw[e6]at Bz;exact hnext _ _ _ S2 rho _ w' hq (Bz.value o.dst hd _ _ hval)
 rename_i dA;obtain⟨u1',TU,Qb,OJ⟩:=uK;obtain⟨hL,hb⟩:=hn _ _ _ hq;have TV:o.dst.getD 0≠id:=fun e=>hL (e▸mS);have TW:o.dst.getD 0≠iw:=fun e=>hL (e▸Cj);have Zd:g0<w'.heap.size:=cG Hi.1 hf.size;obtain⟨w1,Kg⟩:∃w1:World,w1={ w' with heap:=w'.heap.setIfInBounds g0 (.cells #[u0,u1] ty (0,0)) }:=⟨_,rfl⟩;have Ze:w1.heap[g0]?=some (.cells #[u0,u1] ty (0,0)):=by rw[Kg];simp[Zd]
 have Vy:∀k,k≠g0->w1.heap[k]?=w'.heap[k]?:=fun k hk=>by rw[Kg];simp[IF,hk.symm]
 have Wz:w1.heap.size=w'.heap.size:=by rw[Kg];simp
 have Zf:∀k,bY u1'=some k->k≠g0:=fun k hk=>by
  rcases (OJ k hk).2 with h | h
  ·exact (uL k h).2.2.2
  have:=Hi.1;omega
 have gp:=bD.kill iw;have Bz:=gp.new hC (o.dst.getD 0) (.row e dA) (bD.qm hd) hL (by
   show bq (app s.h fz) iw .none (o.dst.getD 0)=_;rw[a_ _ _ TW,OS fun p hp e=>hL (by rw[<-e];exact Fb p hp),hb]) w1 (by rw[Kg];exact hf.os) (by rw[Kg];exact hf.tape) (by rw[Kg];exact hf.output) (by rw[Wz];exact hf.size) (fun k=>bY u1=some k)
  (fun k hk TD=>by
   by_cases e:k=g0
   ·subst e;rw[Ze,k2]
   rw[Vy k e];exact hf.block k hk (fun h=>h.elim e TD))
  (fun k hk=>by
   refine⟨(uL k hk).2.1,fun i hi li fZ=>?_,(uL k hk).2.2.1⟩;have oH:(bq (app s.h fz) iw .none i).live:=li;rcases ba (app s.h fz) iw .none i with⟨rfl,h⟩ | ⟨Fh,h⟩
   ·rw[h]at oH;exact oH.elim
   rw[h]at oH;exact Fh (bD.dj i iw k hi Cj oH yN (fL Fh fZ) (.inl (by rw[<-TT];exact hk))))
  u1' (fun k hk=>by rw[Wz];exact⟨(OJ k hk).1,(OJ k hk).2.symm⟩)
  (fun T=>by
   show aC A.C.P w1 (aQ S2 w1) e dA (bq rho (o.dst.getD 0) u1' (o.dst.getD 0));rw[aH];exact Qb.dH (fun k hk=>Vy k (Zf k hk)) (fun x u hx=>hx.mono (fun _ h=>h) fun k hk=>Vy k fun e=>Hi.2.1 (e▸hk)))
 have WA:(bq (app s.h fz) iw .none) id=.jF ty [c,.ow iw]:=by rw[a_ _ _ cU,Mk]
 have Rl:bq rho (o.dst.getD 0) u1' id=.pointer (some ⟨g0,0,none⟩):=by rw[a_ _ _ TV.symm,mh]
 have Kh:=Bz.write hC id (.inl mS) (by show ((bq (app s.h fz) iw .none) id).live;rw[WA];trivial) (.jF ty [xh ch id c,.ow (o.dst.getD 0)]) (fun _ h=>by cases h) w' (by rw[Kg]) (by rw[Kg]) (by rw[Kg]) Wz.symm
  (fun k hk=>(Vy k fun e=>hk (by rw[Rl,e];rfl)).symm)
  (fun T=>by
   refine⟨g0,_,Rl,TU,rfl,fun j x u hj hu=>?_⟩
   match j,hj,hu with
   | 0,hj,hu=>
    cases hj;cases ch with
    | true=>
     cases hu;exact⟨rfl,.bx id 0 _ fun _=>⟨.inl mS,g0,Rl,rfl⟩⟩
    | false=>
     cases hu;exact⟨o0,(l0.dH (S':=S2) (w':=w') (L':=fun i=>L i\/i=o.dst.getD 0) (rho':=bq rho (o.dst.getD 0) u1') (h':=bq (bq (app s.h fz) iw .none) id (.jF ty [xh false id c,.ow (o.dst.getD 0)])) ⟨fun _ h=>h,fun k hk=>hf.block k (bD.st k hk) (fun h=>h.elim (fun e=>Hi.2.1 (e▸hk)) (fun h=>(uL k h).2.1 hk)),fun j hj=>by
       rcases ba (bq (app s.h fz) iw .none) id (.jF ty [xh false id c,.ow (o.dst.getD 0)]) j with⟨rfl,h⟩ | ⟨WB,h⟩
       ·exact⟨by rw[Mk];trivial,fun hl=>⟨.inl hl,a_ _ _ TV.symm⟩⟩
       ·rw[h]at hj;rcases ba (app s.h fz) iw .none j with⟨rfl,h3⟩ | ⟨Ln,h3⟩
        ·rw[h3]at hj;exact hj.elim
        rw[h3]at hj;exact⟨hj,fun hl=>⟨.inl hl,a_ _ _ fun e=>hL (e▸hl)⟩⟩,fun j e2 hj=>by
       rcases ba (bq (app s.h fz) iw .none) id (.jF ty [xh false id c,.ow (o.dst.getD 0)]) j with⟨rfl,h⟩ | ⟨WB,h⟩
       ·rw[h]at hj;cases hj
       rw[h]at hj;rcases ba (app s.h fz) iw .none j with⟨rfl,h3⟩ | ⟨Ln,h3⟩
       ·rw[h3]at hj;cases hj
       rw[h3]at hj;exact hj⟩)⟩
   | 1,hj,hu=>
    cases hj;cases hu;obtain⟨i0,xs0,Ce,_,hown,_⟩:=Qb;refine⟨?_,.ow _ _ fun _=>⟨.inr rfl,(aH _ _ _).symm⟩⟩;obtain⟨a0,c0,TC⟩:=er hown;rw[TC];rfl
   | n+2,hj,hu=>cases hj)
 have e6:bq (bq (app s.h fz) iw .none) id (.jF ty [xh ch id c,.ow (o.dst.getD 0)])=app s.h (fz++[(iw,.none),(id,.jF ty [xh ch id c,.ow (o.dst.getD 0)])]):=by rw[cM];rfl
 have Kh:cc A V (fun i=>L i\/i=o.dst.getD 0) S2 (bq rho (o.dst.getD 0) u1') ⟨s.t,bq (bq (app s.h fz) iw .none) id (.jF ty [xh ch id c,.ow (o.dst.getD 0)])⟩ a w':=Kh;rw[e6]at Kh;exact hnext _ _ _ S2 (bq rho (o.dst.getD 0) u1') _ w' hq (Kh.value o.dst hd _ _ hval)
theorem OU{o:Oper}(c:Call)(g:Operand)(aJ:o.op=.call c)(hc:c.callee=.value g):jt A o:=by
 intro V L S rho s a w K next Q hC sim hV hd hq hn hnext
 obtain⟨callee,args,argTypes⟩:=c;simp only at hc;subst hc;simp only[bV,aJ,fq]at hq;have hg:=bB sim g fun j hj=>hV j (by simp[aJ,Op.operands,Call.operands,hj]);have hargs:∀(S2:Nat->Prop) (h2:Nat->AB),cc A V L S2 rho ⟨s.t,h2⟩ a w->∀x∈args.toList,br S2 w A.C.P L rho h2 (ev s.t x) (a.eval x):=fun S2 h2 bD x hx=>bB bD x fun j hj=>hV j (by simp[aJ,Op.operands,Call.operands];rw[<-hj];exact .inr (cJ.1 hx));have Hd:∀(S2:Nat->Prop) (h2:Nat->AB),cc A V L S2 rho ⟨s.t,h2⟩ a w->∀(i:Nat) x v,(args.toList.map (ev s.t))[i]?=some x->(args.map a.eval).toList[i]?=some v->br S2 w A.C.P L rho h2 x v:=by
  intro S2 h2 bD i x v hx hv;rw[aB]at hx;obtain⟨y,hy,rfl⟩:=aT.1 hx;rw[yF,aB,hy]at hv;simp at hv;rw[<-hv];exact hargs S2 h2 bD y (an hy)
 split at hq
 case h_2=>exact hq.elim
 rename_i f cap Yh;obtain⟨us,he,hl,_⟩:=td Yh hg
 have I4 : (∀ (S2 : Nat → Prop) (h2 : Nat → AB), cc A V L S2 rho ⟨s.t, h2⟩ a w → ∀ (i : Nat) x v, (args.toList.map (ev s.t) ++ cap)[i]? = some x → (args.map a.eval ++ us).toList[i]? = some v → br S2 w A.C.P L rho h2 x v) ∧ ((∃ fn : Func, A.C.P.funcs[f]? = some fn ∧ (fn.name == "runtime.NumGoroutine") = false ∧ fn.body.isNone = false) → (execOp a.eval o).run A.C.P w = .ok (.enter f (args.map a.eval ++ us)) w) := by
  refine⟨fun S2 h2 bD i x v hx hv=>?_,fun WC=>?_⟩
  ·rw[iz]at hv;by_cases hi:i<args.size
   ·rw[dU (by simpa using hi)]at hx;rw[dU (by simpa using hi)]at hv;exact Hd S2 h2 bD i x v hx hv
   rw[dV (by simp;omega)]at hx;rw[dV (by simp;omega)]at hv;simp only[aw,gd,yF]at hx hv;have Bn:=bB bD g fun j hj=>hV j (by simp[aJ,Op.operands,Call.operands,hj]);obtain⟨us2,rR,_,oM⟩:=td Yh Bn;rw[he]at rR;injection rR with _ _ rR;subst rR;exact oM _ x v hx (by simpa using hv)
  simp[execOp,aJ,resolve,he,Deferred.ofValue,invoke,Dn WC]
 split at hq
 ·exact Ke hC sim hd hn hnext f _ (args.map a.eval++us) (by simp[hl]) I4.1 I4.2 hq
 exact Kf hC sim hd hn hnext f _ (args.map a.eval++us) (by simp[hl]) I4.1 I4.2 hq
end Go.AM
namespace Go.AM
open Go.RowKit
def Ext(h h':Nat->AB):Prop:=∀id,h id=.none\/h' id=h id
variable {h':Nat->AB} {id:Nat} {es:List (List PV)}
theorem Ext.row{h:Nat->AB}(H:Ext h h'){e:TypeId}(u:h id=.row e es):h' id=.row e es:=by
 rcases H id with z | z
 ·rw[z]at u;cases u
 rw[z,u]
theorem Ext.jr{h:Nat->AB}(H:Ext h h')(u:h id=.jr es):h' id=.jr es:=by
 rcases H id with z | z
 ·rw[z]at u;cases u
 rw[z,u]
theorem Ext.box{h:Nat->AB}(H:Ext h h'){cs:List AV}(u:h id=.box cs):h' id=.box cs:=by
 rcases H id with z | z
 ·rw[z]at u;cases u
 rw[z,u]
theorem Ext.a7{h:Nat->AB}(H:Ext h h'){cs:List HC}(u:h id=.a7 cs):h' id=.a7 cs:=by
 rcases H id with z | z
 ·rw[z]at u;cases u
 rw[z,u]
theorem Ext.jF{h:Nat->AB}(H:Ext h h'){D:TypeId}{cs:List AV}(u:h id=.jF D cs):h' id=.jF D cs:=by
 rcases H id with z | z
 ·rw[z]at u;cases u
 rw[z,u]
theorem Ext.ll{h:Nat->AB}(H:Ext h h'){cs:List PV}(u:h id=.ll cs):h' id=.ll cs:=by
 rcases H id with z | z
 ·rw[z]at u;cases u
 rw[z,u]
theorem Ext.map{h:Nat->AB}(H:Ext h h'){mk:MK}{es:List (Value×PV)}(u:h id=.map mk es):h' id=.map mk es:=by
 rcases H id with z | z
 ·rw[z]at u;cases u
 rw[z,u]
theorem Ext.ay{h:Nat->AB}(H:Ext h h'){e:TypeId}{es:List (List HX)}(u:h id=.ay e es):h' id=.ay e es:=by
 rcases H id with z | z
 ·rw[z]at u;cases u
 rw[z,u]
theorem Ki{h:Nat->AB}(H:Ext h h'){a:AV}{n:Nat}(u:hlen h a=some n):hlen h' a=some n:=by
 unfold hlen at u ⊢;split at u
 ·rename_i id;split at u
  ·rename_i e es z;rw[H.ay z];exact u
  cases u
 ·rename_i id lo hi;split at u
  ·rename_i e es z;rw[H.row z];exact u
  cases u
 cases u
theorem Kj{h:Nat->AB}(H:Ext h h'){a:AV}{K:List (List PV)->Prop}(u:hY h a K):hlen h' a=none:=by
 unfold hY at u;unfold hlen;split at u
 ·rfl
 ·rfl
 ·rename_i id;simp only;split at u
  ·rename_i z;rw[H.row z]
  ·rename_i z;rw[H.jr z]
  exact u.elim
 exact u.elim
theorem uM{h:Nat->AB}(H:Ext h h'){a:AV}(u:wa h a=true):wa h' a=true:=by
 cases a with
 | p x=>cases x<;>exact u
 | nl=>rfl
 | ow id=>
  unfold wa at u ⊢;simp only at u ⊢;split at u
  ·rename_i z;rw[H.row z]
  ·rename_i z;rw[H.ay z]
  ·rename_i z;rw[H.jr z]
  cases u
 | bx id off=>
  unfold wa at u ⊢;simp only at u ⊢;split at u
  ·cases u
  rename_i I;rcases H id with D | D
  ·exact absurd D (by simpa using I)
  rw[D];split
  ·rename_i J;exact absurd J (by simpa using I)
  rfl
 | vw id lo hi=>exact u
 | rp id i off=>
  unfold wa at u ⊢;simp only at u ⊢;split at u
  ·rename_i z;rw[H.row z]
  ·rename_i z;rw[H.ay z]
  cases u
 | fn f cap=>rfl
 | tu xs=>exact u
 | st xs=>exact u
 | junk=>exact u
theorem Ck{h:Nat->AB}(H:Ext h h'){a:AV}{K:PV->List (Nat×AB)->Prop}(u:mP h a K):∃x fz,K x fz/\∀z:PV->List (Nat×AB)->Prop,z x fz->mP h' a z:=by
 unfold mP at u;split at u
 ·exact⟨_,_,u,fun z h=>h⟩
 ·exact⟨_,_,u,fun z h=>h⟩
 ·split at u
  ·rename_i D;exact⟨_,_,u,fun z h=>by simp only[mP,H.row D];exact h⟩
  ·rename_i D;exact⟨_,_,u,fun z h=>by simp only[mP,H.jr D];exact h⟩
  exact u.elim
 ·split at u
  ·rename_i D;split at u
   ·rename_i I;exact⟨_,_,u,fun z h=>by simp only[mP,H.box D,I];exact h⟩
   exact u.elim
  ·rename_i D;exact⟨_,_,u,fun z h=>by simp only[mP,H.ll D];exact h⟩
  exact u.elim
 exact u.elim
theorem Cl{h:Nat->AB}(H:Ext h h'):∀{as:List AV} {K:List PV->List (Nat×AB)->Prop},xg h as K->∃xs fz,K xs fz/\∀z:List PV->List (Nat×AB)->Prop,z xs fz->xg h' as z:=by
 intro as
 induction as with
 | nil=>intro K u;exact⟨_,_,u,fun z h=>h⟩
 | cons a as ih=>
  intro K u;unfold xg at u;obtain⟨x,fz,u,D⟩:=Ck H u;obtain⟨xs,nQ,u,I⟩:=ih u;refine⟨_,_,u,fun z h=>?_⟩;unfold xg;exact D _ (I _ h)
theorem iS{h:Nat->AB}(H:Ext h h'){a:AV}{K:PV->List (Nat×AB)->Prop}(u:gn h a K):∃x fz,K x fz/\∀z:PV->List (Nat×AB)->Prop,z x fz->gn h' a z:=by
 unfold gn at u;split at u
 ·obtain⟨xs,fz,u,D⟩:=Cl H u;exact⟨_,_,u,fun z h=>D _ h⟩
 rename_i I;obtain⟨x,fz,u,D⟩:=Ck H u;refine⟨x,fz,u,fun z h=>?_⟩;unfold gn;split
 ·exact absurd rfl (I _ _)
 exact D _ h
theorem zy{h:Nat->AB}(H:Ext h h'){a:AV}{K:List (List PV)->Prop}(u:hY h a K):∃es,K es/\∀z:List (List PV)->Prop,z es->hY h' a z:=by
 unfold hY at u;split at u
 ·exact⟨_,u,fun z h=>h⟩
 ·exact⟨_,u,fun z h=>h⟩
 ·split at u
  ·rename_i D;exact⟨_,u,fun z h=>by simp only[hY,H.row D];exact h⟩
  ·rename_i D;exact⟨_,u,fun z h=>by simp only[hY,H.jr D];exact h⟩
  exact u.elim
 exact u.elim
variable {rho:Operand->AV}
theorem Kk{h:Nat->AB}(H:Ext h h'){J:List (Nat×Nat×Bool)}:∀{D:List (Nat×Operand)} {cs:List PV} {K:List PV->List (Nat×AB)->Prop},kq h J rho D cs K->∃x fz,K x fz/\∀I:List PV->List (Nat×AB)->Prop,I x fz->kq h' J rho D cs I:=by
 intro D
 induction D with
 | nil=>intro cs K u;exact⟨_,_,u,fun I h=>h⟩
 | cons p D ih=>
  intro cs K u;obtain⟨i,x⟩:=p;unfold kq at u;split at u
  ·rename_i N;obtain⟨y,fz,u,O⟩:=iS H u;split at u
   ·rename_i ys R;split at u
    ·rename_i U;obtain⟨z,W,u,Y⟩:=ih u;refine⟨z,fz++W,u,fun I h=>?_⟩;simp only[kq,N];refine O _ ?_;simp only[R,U];exact Y _ h
    exact u.elim
   exact u.elim
  exact u.elim
theorem Cm{h:Nat->AB}(H:Ext h h'){N:List (Nat×Nat×Bool)}:∀{D:List (Nat×Operand)} {cs:List AV} {K:List AV->Prop},l9 h N rho D cs K->∃z,K z/\∀I:List AV->Prop,I z->l9 h' N rho D cs I:=by
 intro D
 induction D with
 | nil=>intro cs K u;exact⟨cs,u,fun I h=>h⟩
 | cons p D ih=>
  intro cs K u;obtain⟨i,x⟩:=p;unfold l9 at u;split at u
  ·rename_i O;split at u
   ·rename_i J;obtain⟨z,R,U⟩:=ih u;refine⟨z,R,fun I hk=>?_⟩;unfold l9;simp only[aK]at J;simp only[O,J.1.1,J.1.2,uM H J.2,Dj];exact U I hk
   exact u.elim
  exact u.elim
theorem Kl{h:Nat->AB}(H:Ext h h'){b:Bool}{a:AV}{K:PV->List (Nat×AB)->Prop}(z:xj b h a K):∃x fz,K x fz/\∀u:PV->List (Nat×AB)->Prop,u x fz->xj b h' a u:=by
 unfold xj at z;split at z
 ·exact⟨_,_,z,fun u h=>h⟩
 rename_i D;obtain⟨x,fz,I,J⟩:=iS H z;refine⟨x,fz,I,fun u h=>?_⟩;unfold xj;split
 ·exact (D rfl rfl).elim
 exact J u h
theorem zz{h:Nat->AB}(H:Ext h h'){b:Bool}{size:Nat}:∀{D:List (Nat×Operand)} {cs:List (List PV)} {K:List (List PV)->List (Nat×AB)->Prop},hM b h size rho D cs K->∃x fz,K x fz/\∀I:List (List PV)->List (Nat×AB)->Prop,I x fz->hM b h' size rho D cs I:=by
 intro D
 induction D with
 | nil=>intro cs K u;exact⟨_,_,u,fun I h=>h⟩
 | cons p D ih=>
  intro cs K u;obtain⟨i,x⟩:=p;unfold hM at u;obtain⟨y,fz,u,J⟩:=Kl H u;split at u
  ·rename_i ys N;split at u
   ·rename_i O;obtain⟨z,R,u,U⟩:=ih u;refine⟨z,fz++R,u,fun I h=>?_⟩;simp only[hM];refine J _ ?_;simp only[N,O];exact U _ h
   exact u.elim
  exact u.elim
theorem Km{h:Nat->AB}(H:Ext h h'){md:Nat->Bool}:∀{as:List AV} {j:Nat} {K:List Arg->List (Nat×AB)->List (Nat×AB)->Prop},g_ md h j as K->∃xs ids fz,K xs ids fz/\∀D:List Arg->List (Nat×AB)->List (Nat×AB)->Prop,D xs ids fz->g_ md h' j as D:=by
 intro as
 induction as with
 | nil=>intro j K u;exact⟨_,_,_,u,fun D h=>h⟩
 | cons a as ih=>
  intro j K u;unfold g_ at u;split at u
  ·rename_i J;obtain⟨y,fz,u,O⟩:=iS H u;obtain⟨xs,ids,N,u,z⟩:=ih u;refine⟨_,_,_,u,fun D h=>?_⟩;simp only[g_,J];exact O _ (z _ h)
  rename_i J;split at u
  ·split at u
   ·rename_i I;obtain⟨xs,ids,N,u,z⟩:=ih u;refine⟨_,_,_,u,fun D h=>?_⟩;simp only[g_,J,H.row I];exact z _ h
   ·rename_i I;obtain⟨xs,ids,N,u,z⟩:=ih u;refine⟨_,_,_,u,fun D h=>?_⟩;simp only[g_,J,H.jr I];exact z _ h
   ·rename_i I;obtain⟨xs,ids,N,u,z⟩:=ih u;refine⟨_,_,_,u,fun D h=>?_⟩;simp only[g_,J,H.map I];exact z _ h
   exact u.elim
  ·obtain⟨xs,ids,N,u,z⟩:=ih u;refine⟨_,_,_,u,fun D h=>?_⟩;simp only[g_,J];exact z _ h
  ·split at u
   ·rename_i I;split at u
    ·rename_i R;obtain⟨xs,ids,N,u,z⟩:=ih u;refine⟨_,_,_,u,fun D h=>?_⟩;simp only[g_,J,H.box I,R];exact z _ h
    exact u.elim
   ·rename_i I;obtain⟨xs,ids,N,u,z⟩:=ih u;refine⟨_,_,_,u,fun D h=>?_⟩;simp only[g_,J,H.a7 I];exact z _ h
   exact u.elim
  exact u.elim
variable {d:Nat} {as:List AV}
theorem Hj{C:Ctx}{h:Nat->AB}(H:Ext h h'){f:FuncId}{K:KK}(u:pt C h d f as K):∃v e n,K v e n/\∀z:KK,z v e n->pt C h' d f as z:=by
 unfold pt at u;obtain⟨xs,ids,fz,⟨r,fin,I,u⟩,J⟩:=Km H u;split at u
 ·rename_i N;split at u
  ·rename_i O;split at u
   ·rename_i D;refine⟨_,_,_,u,fun z h=>?_⟩;unfold pt;refine J _ ⟨r,fin,I,?_⟩;simp only[N,O,D];exact h
   rename_i D;refine⟨_,_,_,u,fun z h=>?_⟩;unfold pt;refine J _ ⟨r,fin,I,?_⟩;simp only[N,O,D];exact h
  exact u.elim
 exact u.elim
theorem oI.ext{h:Nat->AB}(H:Ext h h'){a:AV}{x:PV}(u:oI h a x):oI h' a x:=by
 cases u with
 | p=>exact .p _
 | nl=>exact .nl
 | row id e es hr=>exact .row id e es (H.row hr)
 | jr id es hr=>exact .jr id es (H.jr hr)
 | ay id e es ps hr hp=>exact .ay id e es ps (H.ay hr) hp
theorem pw.ext{h:Nat->AB}(H:Ext h h'){xs:List PV}(u:pw h as xs):pw h' as xs:=by
 induction u with
 | nil=>exact .nil
 | cons h1 _ ih=>exact .cons (h1.ext H) ih
theorem View.ext{h:Nat->AB}(H:Ext h h'){a:AV}{x:PV}(u:View h a x):View h' a x:=by
 cases u with
 | one h1=>exact .one (h1.ext H)
 | box id off cs xs hb hx=>exact .box id off cs xs (H.box hb) (hx.ext H)
 | ll id off xs hb=>exact .ll id off xs (H.ll hb)
theorem uz.ext{h:Nat->AB}(H:Ext h h'){xs:List PV}(u:uz h as xs):uz h' as xs:=by
 induction u with
 | nil=>exact .nil
 | cons h1 _ ih=>exact .cons (h1.ext H) ih
theorem Hk{h:Nat->AB}(H:Ext h h'):∀{as:List AV},Br (eW h) as=true->Br (eW h') as=true:=by
 intro as
 induction as with
 | nil=>intro h;cases h
 | cons a as ih=>
  intro z;unfold Br at z ⊢;split at z
  ·rename_i u;have:eW h' a=true:=by
    unfold eW at u ⊢;split at u
    ·split at u
     ·rename_i hb;simp only[H.box hb];exact u
     cases u
    ·split at u
     ·rename_i hb;simp only[H.ay hb]
     cases u
    cases u
   rw[this]
  cases eW h' a with
  | true=>rfl
  | false=>exact ih z
theorem Kn{h:Nat->AB}(H:Ext h h'){a:AV}{K:PV->List (Nat×AB)->Prop}(D:eW h a=false)(z:gn h a K):eW h' a=false:=by
 cases a with
 | ow id=>
  simp only[gn,mP]at z;simp only[eW]at D ⊢;split at z
  ·rename_i u;rw[H.row u]
  ·rename_i u;rw[H.jr u]
  exact z.elim
 | bx id off=>
  simp only[gn,mP]at z;simp only[eW]at D ⊢;split at z
  ·rename_i u;rw[u]at D;rw[H.box u];exact D
  ·rename_i u;rw[H.ll u]
  exact z.elim
 | _=>rfl
theorem Hl{h:Nat->AB}(H:Ext h h'){md:Nat->Bool}:∀{as:List AV} {j:Nat} {K:List Arg->List (Nat×AB)->List (Nat×AB)->Prop},g_ md h j as K->Br (eW h) as=false->Br (eW h') as=false:=by
 intro as
 induction as with
 | nil=>intro _ _ _ _;rfl
 | cons a as ih=>
  intro j K u D;unfold Br at D ⊢;split at D
  ·cases D
  rename_i I;have:eW h' a=false/\∃(j:Nat) (K:List Arg->List (Nat×AB)->List (Nat×AB)->Prop),g_ md h j as K:=by
   unfold g_ at u;split at u
   ·obtain⟨x,fz,J,_⟩:=iS (fun _=>.inr rfl) u;exact⟨Kn H I u,_,_,J⟩
   split at u
   ·rename_i id;split at u
    ·rename_i z;exact⟨by simp only[eW];rw[H.row z],_,_,u⟩
    ·rename_i z;exact⟨by simp only[eW];rw[H.jr z],_,_,u⟩
    ·rename_i z;exact⟨by simp only[eW];rw[H.map z],_,_,u⟩
    exact u.elim
   ·exact⟨rfl,_,_,u⟩
   ·rename_i id;split at u
    ·rename_i z;split at u
     ·refine⟨?_,_,_,u⟩;simp only[eW]at I ⊢;rw[z]at I;rw[H.box z];exact I
     exact u.elim
    ·rename_i z;exact⟨by simp only[eW];rw[H.a7 z],_,_,u⟩
    exact u.elim
   exact u.elim
  obtain⟨N,j',K',O⟩:=this;rw[N];exact ih O D
theorem Hm{h:Nat->AB}(H:Ext h h'){c:AV}(u:wc h c=true):wc h' c=true:=by
 unfold wc at u ⊢;split at u
 ·rfl
 ·rfl
 ·split at u
  ·rename_i z;rw[H.row z]
  cases u
 ·rfl
 cases u
theorem Ko{C:Ctx}{h:Nat->AB}(H:Ext h h'){f:FuncId}{K:KK}(u:zi C h f as K):∃v e n,K v e n/\∀z:KK,z v e n->zi C h' f as z:=by
 unfold zi at u;split at u
 ·split at u
  ·rename_i hb D;obtain⟨x,I,J,N,O,R,U⟩:=u;refine⟨_,_,_,U,fun z hk=>?_⟩;unfold zi;simp only[H.box hb,H.row D];exact⟨x,I,J,fun c W=>Hm H (N c W),O,R,hk⟩
  exact u.elim
 exact u.elim
theorem Kp{C:Ctx}{h:Nat->AB}(H:Ext h h'){f:FuncId}{K:KK}(u:uA C h d f as K):∃v e n,K v e n/\∀z:KK,z v e n->uA C h' d f as z:=by
 unfold uA at u;split at u
 ·rename_i N;have J:Br (eW h') as=false:=Hl H (by unfold pt at u;exact u) N;obtain⟨v,e,n,D,I⟩:=Hj H u;exact⟨v,e,n,D,fun z hk=>by unfold uA;rw[J];exact I z hk⟩
 rename_i N;have J:=Hk H N;split at u
 ·rename_i O;obtain⟨xs,r,D,I,R,U⟩:=u;exact⟨_,_,_,U,fun z hk=>by unfold uA;rw[J,O];exact⟨xs,r,D.ext H,I,R,hk⟩⟩
 rename_i O;obtain⟨v,e,n,D,I⟩:=Ko H u;exact⟨v,e,n,D,fun z hk=>by unfold uA;rw[J,O];exact I z hk⟩
theorem Kq{C:Ctx}{h:Nat->AB}(H:Ext h h'){f:FuncId}{K:KK}(u:xi C h d f as K):∃v e n,K v e n/\∀z:KK,z v e n->xi C h' d f as z:=by
 unfold xi at u;split at u
 case h_2=>exact u.elim
 rename_i D;split at u
 case h_2=>exact u.elim
 rename_i I;split at u
 case h_2=>exact u.elim
 rename_i J;split at u
 case h_2=>exact u.elim
 rename_i N;obtain⟨xs,fz,⟨r,O,dA,R,u⟩,U⟩:=Cl H u;split at u
 case h_2=>exact u.elim
 rename_i W;split at u
 ·refine⟨_,_,_,u,fun z h=>?_⟩;unfold xi;simp only[D,H.jF I,J,H.row N];refine U _ ⟨r,O,_,R,?_⟩;simp only[W];exact h
 refine⟨_,_,_,u,fun z h=>?_⟩;unfold xi;simp only[D,H.jF I,J,H.row N];refine U _ ⟨r,O,_,R,?_⟩;simp only[W];exact h
theorem oP{k:IntKind}{n:Int}{K:Value->Prop}(u:wb k n K):∃v,K v/\∀z:Value->Prop,z v->wb k n z:=by
 unfold wb at u;split at u
 ·rename_i h;exact⟨_,u.2,fun z hk=>by simp only[wb,h];exact⟨u.1,hk⟩⟩
 rename_i h;exact⟨_,u,fun z hk=>by simp only[wb,h];exact hk⟩
theorem Fi{T:TypeId->Option TI}{op:BinOp}{t:TypeId}{x:PV}{K:Value->Prop}(u:JY T op t x K):∃v,K v/\∀z:Value->Prop,z v->JY T op t x z:=by
 unfold JY at u;split at u
 case h_2=>exact u.elim
 split at u
 case h_1=>exact u.elim
 rename_i D;split at u
 case h_2=>exact u.elim
 rename_i I;split at u<;>first
  | exact u.elim
  | exact⟨_,u,fun z h=>by simp only[JY,D,I];exact h⟩
theorem Fj{T:TypeId->Option TI}{op:BinOp}{t:TypeId}{x y:PV}{K:Value->Prop}(u:tH T op t x y K):∃v,K v/\∀z:Value->Prop,z v->tH T op t x y z:=by
 unfold tH at u;split at u
 ·split at u
  ·rename_i hs;exact⟨_,u.2,fun z h=>by simp only[tH,hs];exact⟨u.1,h⟩⟩
  rename_i hs;split at u
  ·exact u.elim
  rename_i hk;split at u<;>first
   | exact u.elim
   | (obtain⟨v,I,J⟩:=oP u;exact⟨v,I,fun z h=>by simp only[tH,hk,hs];exact J z h⟩)
   | (obtain⟨v,I,J⟩:=oP u.2;exact⟨v,I,fun z h=>by simp only[tH,hk,hs];exact⟨u.1,J z h⟩⟩)
   | exact⟨_,u,fun z h=>by simp only[tH,hk,hs];exact h⟩
   | exact⟨_,u.2,fun z h=>by simp only[tH,hk,hs];exact⟨u.1,h⟩⟩
 ·split at u<;>first
   | exact u.elim
   | exact⟨_,u,fun z h=>by simp only[tH];exact h⟩
   | exact⟨_,u.2,fun z h=>by simp only[tH];exact⟨u.1,h⟩⟩
 ·split at u
  ·rename_i D;split at u<;>first
    | exact u.elim
    | exact⟨_,u,fun z h=>by simp only[tH,D];exact h⟩
  exact u.elim
 ·split at u
  ·rename_i D;split at u
   ·exact u.elim
   rename_i O;split at u
   ·split at u
    ·rename_i N;exact⟨_,u,fun z h=>by simp only[tH,D,O,N];exact h⟩
    exact u.elim
   ·split at u
    ·rename_i N;exact⟨_,u,fun z h=>by simp only[tH,D,O,N];exact h⟩
    exact u.elim
   exact u.elim
  exact u.elim
 exact u.elim
theorem tM{h:Nat->AB}(H:Ext h h'){C:Ctx}{t:TypeId}{x:Operand}{lo hi:Option Operand}{K:KK}(u:gP C rho h t x lo hi K):∃v e n,K v e n/\∀D:KK,D v e n->gP C rho h' t x lo hi D:=by
 simp only[gP]at u;split at u
 ·rename_i I;split at u
  ·rename_i J;split at u
   ·rename_i N O;exact⟨_,_,_,u.2,fun D h=>by simp only[gP,I,J,N,O];exact⟨u.1,h⟩⟩
   exact u.elim
  exact u.elim
 ·rename_i I;split at u
  ·exact u.elim
  rename_i J;obtain⟨z,fz,u,R⟩:=iS H u;split at u
  ·split at u
   ·rename_i N O;refine⟨_,_,_,u.2,fun D h=>?_⟩;simp only[gP,I,J];refine R _ ?_;simp only[N,O];exact⟨u.1,h⟩
   exact u.elim
  exact u.elim
 exact u.elim
theorem Kr{C:Ctx}{t:TypeId}{lo hi:Option Operand}{e':TypeId}{K:KK}(u:uB C rho t lo hi id e' es K):∃v e n,K v e n/\∀z:KK,z v e n->uB C rho t lo hi id e' es z:=by
 unfold uB at u;split at u
 ·rename_i D;split at u
  ·rename_i I;split at u
   ·rename_i J N;exact⟨_,_,_,u.2,fun z h=>by simp only[uB,D,I,J,N];exact⟨u.1,h⟩⟩
   exact u.elim
  exact u.elim
 exact u.elim
theorem rV{C:Ctx}{o:Oper}{h:Nat->AB}(H:Ext h h'){K:KK}(u:bV C o rho h K):∃v e n,K v e n/\∀N:KK,N v e n->bV C o rho h' N:=by
 cases O:o.op<;>simp only[bV,O]at u
 case move x=>exact⟨_,_,_,u,fun N h=>by simp only[bV,O];exact h⟩
 case assign x=>exact⟨_,_,_,u,fun N h=>by simp only[bV,O];exact h⟩
 case pick c a b=>
  split at u
  ·rename_i D;split at u
   ·exact⟨_,_,_,u,fun N h=>by simp only[bV,O,D];exact h⟩
   exact⟨_,_,_,u,fun N h=>by simp only[bV,O,D];exact h⟩
  exact u.elim
 case alloc e=>
  split at u
  ·rename_i D;split at u
   ·rename_i I;exact⟨_,_,_,u,fun N h=>by simp only[bV,O,D,I];exact h⟩
   rename_i I;exact⟨_,_,_,u,fun N h=>by simp only[bV,O,D,I];exact h⟩
  exact u.elim
 case box e x=>
  split at u
  ·rename_i D;exact⟨_,_,_,u,fun N h=>by simp only[bV,O,D];exact h⟩
  ·rename_i D;exact⟨_,_,_,u,fun N h=>by simp only[bV,O,D];exact h⟩
  rename_i D uD;split at u
  ·rename_i I;have J:=uM H I;refine⟨_,_,_,u,fun N h=>?_⟩;simp only[bV,O];cases Vz:rho x with
   | p y=>
    cases y with
    | ag cs=>exact (D cs Vz).elim
    | _=>rw[Vz]at J h;simp only[J];exact h
   | st xs=>exact (uD xs Vz).elim
   | _=>rw[Vz]at J h;simp only[J];exact h
  exact u.elim
 case binOp op t x y t'=>
  split at u
  ·rename_i D I;obtain⟨v,J,R⟩:=Fj u;exact⟨_,_,_,J,fun N h=>by simp only[bV,O,D,I];exact R _ h⟩
  ·rename_i D I;obtain⟨v,J,R⟩:=Fi u;exact⟨_,_,_,J,fun N h=>by simp only[bV,O,D,I];exact R _ h⟩
  exact u.elim
 case unOp op t x=>
  split at u
  ·rename_i D;exact⟨_,_,_,u,fun N h=>by simp only[bV,O,D];exact h⟩
  ·rename_i D;obtain⟨v,J,R⟩:=oP u;exact⟨_,_,_,J,fun N h=>by simp only[bV,O,D];exact R _ h⟩
  exact u.elim
 case convert src dst x=>
  split at u
  ·rename_i D I J;obtain⟨v,Y,R⟩:=oP u;exact⟨_,_,_,Y,fun N h=>by simp only[bV,O,D,I,J];exact R _ h⟩
  ·rename_i D I J;exact⟨_,_,_,u,fun N h=>by simp only[bV,O,D,I,J];exact h⟩
  ·rename_i D I J;exact⟨_,_,_,u,fun N h=>by simp only[bV,O,D,I,J];exact h⟩
  exact u.elim
 case nilCheck x=>
  split at u
  ·rename_i D;exact⟨_,_,_,u,fun N h=>by simp only[bV,O,D];exact h⟩
  ·rename_i D;split at u
   ·rename_i I;exact⟨_,_,_,u,fun N h=>by simp only[bV,O,D,H.box I];exact h⟩
   ·rename_i I;exact⟨_,_,_,u,fun N h=>by simp only[bV,O,D,H.ll I];exact h⟩
   exact u.elim
  ·rename_i D;split at u
   ·rename_i I;exact⟨_,_,_,u,fun N h=>by simp only[bV,O,D,H.row I];exact h⟩
   ·rename_i I;exact⟨_,_,_,u,fun N h=>by simp only[bV,O,D,H.ay I];exact h⟩
   exact u.elim
  exact u.elim
 case extract x i=>
  split at u
  ·rename_i D;split at u
   ·rename_i I;exact⟨_,_,_,u,fun N h=>by simp only[bV,O,D,I];exact h⟩
   exact u.elim
  exact u.elim
 case load t x=>
  split at u
  ·exact u.elim
  rename_i U;split at u
  ·rename_i D;split at u
   ·rename_i I;split at u
    ·rename_i J;exact⟨_,_,_,u,fun N h=>by simp only[bV,O,U,D,I,J];exact h⟩
    exact u.elim
   rename_i I;split at u
   ·exact⟨_,_,_,u,fun N h=>by simp only[bV,O,U,D,I];exact h⟩
   exact u.elim
  ·rename_i D;split at u
   ·rename_i I;split at u
    ·rename_i J;split at u
     ·rename_i R Y;exact⟨_,_,_,u,fun N h=>by simp only[bV,O,U,D,H.box I,J,R,Y];exact h⟩
     exact u.elim
    rename_i J;split at u
    ·rename_i R;exact⟨_,_,_,u,fun N h=>by simp only[bV,O,U,D,H.box I,J,R];exact h⟩
    exact u.elim
   ·rename_i I;split at u
    ·rename_i J;split at u
     ·rename_i R;exact⟨_,_,_,u,fun N h=>by simp only[bV,O,U,D,H.ll I,J,R];exact h⟩
     exact u.elim
    rename_i J;split at u
    ·rename_i R;exact⟨_,_,_,u,fun N h=>by simp only[bV,O,U,D,H.ll I,J,R];exact h⟩
    exact u.elim
   exact u.elim
  ·rename_i D;split at u
   ·rename_i I;obtain⟨r,Z,u⟩:=u;split at u
    ·rename_i J;split at u
     ·rename_i R;exact⟨_,_,_,u,fun N h=>by simp only[bV,O,U,D,H.row I];refine⟨r,Z,?_⟩;simp only[J,R];exact h⟩
     exact u.elim
    rename_i J;split at u
    ·rename_i R;exact⟨_,_,_,u,fun N h=>by simp only[bV,O,U,D,H.row I];refine⟨r,Z,?_⟩;simp only[J,R];exact h⟩
    exact u.elim
   ·rename_i I;obtain⟨r,Z,u⟩:=u;split at u
    ·exact u.elim
    rename_i J;split at u
    ·rename_i R;exact⟨_,_,_,u,fun N h=>by simp only[bV,O,U,D,H.ay I];refine⟨r,Z,?_⟩;simp only[J,R];exact h⟩
    exact u.elim
   exact u.elim
  exact u.elim
 case store t x y=>
  split at u
  ·exact u.elim
  rename_i U;split at u
  ·rename_i D;split at u
   ·rename_i I;split at u
    ·rename_i J;obtain⟨z,fz,u,W⟩:=iS H u;split at u
     ·split at u
      ·rename_i R;refine⟨_,_,_,u,fun N h=>?_⟩;simp only[bV,O,U,D,H.box I,J];refine W _ ?_;simp only[R];exact h
      exact u.elim
     exact u.elim
    rename_i J;split at u
    ·rename_i R;simp only[aK]at R;have Y:=uM H R.2;refine⟨_,_,_,u,fun N h=>?_⟩;simp only[bV,O,U,D,H.box I,J,R.1.1,R.1.2,Y,Dj];exact h
    exact u.elim
   exact u.elim
  ·rename_i D;split at u
   ·rename_i I;obtain⟨r,Z,u⟩:=u;obtain⟨z,fz,u,W⟩:=iS H u;split at u
    ·rename_i J;split at u
     ·rename_i R;refine⟨_,_,_,u,fun N h=>?_⟩;simp only[bV,O,U,D,H.row I];refine⟨r,Z,W _ ?_⟩;simp only[J,R];exact h
     exact u.elim
    exact u.elim
   ·rename_i I;obtain⟨r,Z,u⟩:=u;split at u
    ·exact u.elim
    rename_i J;split at u
    ·rename_i R;simp only[aK]at R;have Y:=uM H R.2;refine⟨_,_,_,u,fun N h=>?_⟩;simp only[bV,O,U,D,H.ay I];refine⟨r,Z,?_⟩;simp only[J,R.1.1,R.1.2,Y,Dj];exact h
    exact u.elim
   exact u.elim
  exact u.elim
 case fieldAddr t x f=>
  split at u
  ·rename_i U;split at u
   ·rename_i D;split at u
    ·rename_i I;exact⟨_,_,_,u,fun N h=>by simp only[bV,O,U,D,I];exact h⟩
    ·rename_i id o' I;split at u
     ·exact u.elim
     rename_i cU;refine⟨_,_,_,u,fun N h=>?_⟩;simp only[bV,O,U,D,I];rcases H id with R | R
     ·exact absurd R (by simpa using cU)
     rw[R];split
     ·rename_i Y;exact absurd Y (by simpa using cU)
     exact h
    ·rename_i I;split at u
     ·rename_i J;exact⟨_,_,_,u,fun N h=>by simp only[bV,O,U,D,I,H.row J];exact h⟩
     ·rename_i J;exact⟨_,_,_,u,fun N h=>by simp only[bV,O,U,D,I,H.ay J];exact h⟩
     exact u.elim
    exact u.elim
   exact u.elim
  exact u.elim
 case field t x f=>
  split at u
  ·rename_i U Qc;split at u
   ·rename_i D;split at u
    ·split at u
     ·rename_i J;exact⟨_,_,_,u,fun N h=>by simp only[bV,O,U,Qc,D,J];exact h⟩
     exact u.elim
    split at u
    ·rename_i J;exact⟨_,_,_,u,fun N h=>by simp only[bV,O,U,Qc,D,J];exact h⟩
    exact u.elim
   exact u.elim
  exact u.elim
 case indexAddr t x ix=>
  split at u
  ·rename_i U Qc;split at u
   ·exact u.elim
   rename_i D;split at u
   ·rename_i I;obtain⟨r,Z,u⟩:=u;split at u
    ·rename_i J;exact⟨_,_,_,u,fun N h=>by simp only[bV,O,U,Qc,D,I];refine⟨r,Z,?_⟩;simp only[J];exact h⟩
    exact u.elim
   ·rename_i I;split at u
    ·rename_i J;split at u
     ·rename_i R;exact⟨_,_,_,u.2,fun N h=>by simp only[bV,O,U,Qc,D,I,H.row J,R];exact⟨u.1,h⟩⟩
     exact u.elim
    ·rename_i J;split at u
     ·rename_i R;exact⟨_,_,_,u.2,fun N h=>by simp only[bV,O,U,Qc,D,I,H.ay J,R];exact⟨u.1,h⟩⟩
     exact u.elim
    ·rename_i J;obtain⟨r,Z,u⟩:=u;split at u
     ·rename_i R;exact⟨_,_,_,u,fun N h=>by simp only[bV,O,U,Qc,D,I,H.jr J];refine⟨r,Z,?_⟩;simp only[R];exact h⟩
     exact u.elim
    exact u.elim
   ·rename_i I;split at u
    ·rename_i J;split at u
     ·rename_i R;exact⟨_,_,_,u.2,fun N h=>by simp only[bV,O,U,Qc,D,I,H.row J,R];exact⟨u.1,h⟩⟩
     exact u.elim
    exact u.elim
   exact u.elim
  exact u.elim
 case index t x ix=>
  split at u
  ·rename_i U D I;obtain⟨b,hb,u⟩:=u;exact⟨_,_,_,u,fun N h=>by simp only[bV,O,U,D,I];exact⟨b,hb,h⟩⟩
  exact u.elim
 case slice t x lo hi mx=>
  cases mx with
  | some m=>exact u.elim
  | none=>
   simp only at u;split at u
   ·rename_i id hid;split at u
    ·rename_i e' es Z;rcases u with u | u
     ·obtain⟨v,e,n,u,W⟩:=Kr u;exact⟨v,e,n,u,fun N h=>by simp only[bV,O,hid,H.row Z];exact .inl (W _ h)⟩
     obtain⟨v,e,n,u,W⟩:=tM H u;exact⟨v,e,n,u,fun N h=>by simp only[bV,O,hid,H.row Z];exact .inr (W _ h)⟩
    rename_i cU;obtain⟨v,e,n,u,W⟩:=tM H u;refine⟨v,e,n,u,fun N h=>?_⟩;simp only[bV,O,hid];split
    ·exact .inr (W _ h)
    exact W _ h
   rename_i cU;obtain⟨v,e,n,u,W⟩:=tM H u;refine⟨v,e,n,u,fun N h=>?_⟩;simp only[bV,O]
   first
    | exact W _ h
    | (
      split
      ·rename_i id hid;exact absurd hid (cU id)
      exact W _ h)
 case makeMap t r=>
  cases r with
  | some _=>exact u.elim
  | none=>
   simp only at u;split at u
   ·rename_i U;split at u
    ·rename_i D;split at u
     ·rename_i I;exact⟨_,_,_,u,fun N h=>by simp only[bV,O,U,D,I];exact h⟩
     exact u.elim
    exact u.elim
   exact u.elim
 case lookup t x i ck=>
  split at u
  case h_2=>exact u.elim
  rename_i U;split at u
  case h_2=>exact u.elim
  rename_i D I;split at u
  case h_2=>exact u.elim
  rename_i J;split at u
  case h_2=>exact u.elim
  rename_i R;split at u
  case h_2=>exact u.elim
  rename_i Y;split at u
  case h_2=>exact u.elim
  rename_i h6;split at u
  case h_2=>exact u.elim
  rename_i h7;obtain⟨r,Z,u⟩:=u;cases ck with
  | true=>exact⟨_,_,_,u,fun N h=>by simp only[bV,O,U,D,I,J,R,H.map Y,h6,h7];exact⟨r,Z,h⟩⟩
  | false=>exact⟨_,_,_,u,fun N h=>by simp only[bV,O,U,D,I,J,R,H.map Y,h6,h7];exact⟨r,Z,h⟩⟩
 case mapUpdate t x i y=>
  split at u
  case h_2=>exact u.elim
  rename_i U;split at u
  case h_2=>exact u.elim
  rename_i D;split at u
  case h_2=>exact u.elim
  rename_i J;split at u
  case h_2=>exact u.elim
  rename_i R;split at u
  case h_2=>exact u.elim
  rename_i Y;split at u
  case h_2=>exact u.elim
  rename_i h6;split at u
  case h_2=>exact u.elim
  rename_i h7;obtain⟨z,fz,u,W⟩:=iS H u;split at u
  case h_2=>exact u.elim
  rename_i h8;refine⟨_,_,_,u,fun N h=>?_⟩;simp only[bV,O,U,D,J,R,H.map Y,h6,h7];refine W _ ?_;simp only[h8];exact h
 case build t ps=>
  split at u
  ·rename_i U;split at u
   ·rename_i D;obtain⟨z,fz,u,W⟩:=Kk H u;exact⟨_,_,_,u,fun N h=>by simp only[bV,O,U,D];exact W _ h⟩
   rename_i D;obtain⟨z,u,W⟩:=Cm H u;exact⟨_,_,_,u,fun N h=>by simp only[bV,O,U,D];exact W _ h⟩
  exact u.elim
 case buildSlice t len ps=>
  split at u
  ·rename_i U;split at u
   ·rename_i D;split at u
    ·rename_i I;split at u
     ·rename_i J;obtain⟨z,fz,u,W⟩:=zz H u;exact⟨_,_,_,u,fun N h=>by simp only[bV,O,U,D,I,J];exact W _ h⟩
     rename_i J;obtain⟨z,fz,u,W⟩:=zz H u;exact⟨_,_,_,u,fun N h=>by simp only[bV,O,U,D,I,J];exact W _ h⟩
    exact u.elim
   exact u.elim
  exact u.elim
 case makeSlice t n c=>
  split at u
  ·rename_i U D I;split at u
   ·rename_i J;split at u
    ·rename_i R;exact⟨_,_,_,u.2,fun N h=>by simp only[bV,O,U,D,I,J,R];exact⟨u.1,h⟩⟩
    exact u.elim
   exact u.elim
  exact u.elim
 case makeFunc fn first cap=>
  cases fn with
  | func f=>
   simp only at u;split at u
   ·rename_i D;exact⟨_,_,_,u,fun N h=>by simp only[bV,O,D];exact h⟩
   exact u.elim
  | _=>exact u.elim
 case call c=>
  split at u
  ·rename_i U;split at u
   ·rename_i D I;split at u
    ·rename_i J;split at u
     ·rename_i R;exact⟨_,_,_,u,fun N h=>by simp only[bV,O,U,D,I,J,R];exact h⟩
     exact u.elim
    ·rename_i J;split at u
     ·rename_i m hm;exact⟨_,_,_,u,fun N h=>by simp only[bV,O,U,D,I,J,Ki H hm];exact h⟩
     have hn:=Kj H u;obtain⟨es,u,W⟩:=zy H u;exact⟨_,_,_,u,fun N h=>by simp only[bV,O,U,D,I,J,hn];exact W _ h⟩
    ·rename_i J;split at u
     ·rename_i R;split at u
      ·rename_i Y;exact⟨_,_,_,u,fun N h=>by simp only[bV,O,U,D,I,J,R,H.map Y];exact h⟩
      exact u.elim
     exact u.elim
    exact u.elim
   exact u.elim
  ·rename_i U;split at u
   case h_2=>exact u.elim
   rename_i D I;split at u
   case h_2=>exact u.elim
   rename_i J;split at u
   case h_2=>exact u.elim
   rename_i R;split at u
   case h_2=>exact u.elim
   rename_i Y;split at u
   case h_2=>exact u.elim
   rename_i h6;split at u
   case h_2=>exact u.elim
   rename_i h7;exact⟨_,_,_,u.2,fun N h=>by simp only[bV,O,U,D,I,J,R,Y,H.row h6,h7];exact⟨u.1,h⟩⟩
  ·rename_i U;split at u
   ·rename_i D;split at u
    ·rename_i I J;exact⟨_,_,_,u,fun N h=>by simp only[bV,O,U,D,I,J];exact h⟩
    exact u.elim
   exact u.elim
  ·rename_i U;split at u
   ·rename_i D;split at u
    ·rename_i I J;exact⟨_,_,_,u,fun N h=>by simp only[bV,O,U,D,I,J];exact h⟩
    exact u.elim
   ·rename_i D;split at u
    ·rename_i I J R;exact⟨_,_,_,u,fun N h=>by simp only[bV,O,U,D,I,J,R];exact h⟩
    exact u.elim
   ·rename_i D;split at u
    ·rename_i I J R Y h6;exact⟨_,_,_,u,fun N h=>by simp only[bV,O,U,D,I,J,R,Y,h6];exact h⟩
    exact u.elim
   exact u.elim
  ·rename_i U;split at u
   ·rename_i D I;split at u
    ·rename_i J R;split at u
     ·rename_i Y;split at u
      ·rename_i h6;obtain⟨es,u,W⟩:=zy H u;split at u
       ·rename_i h7;refine⟨_,_,_,u.2,fun N h=>?_⟩;simp only[bV,O,U,D,I,J,R,Y,h6];refine W _ ?_;simp only[h7];exact⟨u.1,h⟩
       ·rename_i h7;split at u
        ·rename_i h8;split at u
         ·rename_i h9;refine⟨_,_,_,u.2,fun N h=>?_⟩;simp only[bV,O,U,D,I,J,R,Y,h6];refine W _ ?_;simp only[h7,H.row h8,h9];exact⟨u.1,h⟩
         exact u.elim
        ·rename_i h8;split at u
         ·rename_i h9;refine⟨_,_,_,u.2,fun N h=>?_⟩;simp only[bV,O,U,D,I,J,R,Y,h6];refine W _ ?_;simp only[h7,H.ay h8,h9];exact⟨u.1,h⟩
         exact u.elim
        exact u.elim
       exact u.elim
      exact u.elim
     exact u.elim
    exact u.elim
   exact u.elim
  ·rename_i U;split at u
   ·rename_i D;split at u
    ·rename_i I;obtain⟨v,e,n,u,W⟩:=Kp H u;exact⟨_,_,_,u,fun N h=>by simp only[bV,O,U,D,I];exact W _ h⟩
    rename_i I;obtain⟨v,e,n,u,W⟩:=Kq H u;exact⟨_,_,_,u,fun N h=>by simp only[bV,O,U,D,I];exact W _ h⟩
   exact u.elim
  exact u.elim
 all_goals exact u.elim
theorem Mm(A:qB)(o:Oper):jt A o:=by
 cases u:o.op
 case move x=>exact Ow x u
 case assign x=>exact J0 x u
 case pick c x y=>exact Ox c x y u
 case alloc e=>exact LQ e u
 case box e x=>exact Q4 e x u
 case build t ps=>exact L6 t ps u
 case buildSlice t n ps=>exact Bv t n ps u
 case load t x=>exact OB t x u
 case store t x y=>exact LV t x y u
 case nilCheck x=>exact E9 x u
 case binOp op t x y t'=>exact LH op t x y t' u
 case unOp op t x=>exact OA op t x u
 case convert s d x=>exact G6 s d x u
 case makeFunc fn first cap=>
  cases fn with
  | func f=>exact E_ f first cap u
  | _=>intro V L S rho s a w K next Q hC z I J D;simp only[bV,u]at D
 case makeSlice t n c=>exact Df t n c u
 case makeMap t r=>
  cases r with
  | none=>exact Hb t u
  | some r=>intro V L S rho s a w K next Q hC z I J D;simp only[bV,u]at D
 case lookup t x i ck=>exact Ka t x i ck u
 case mapUpdate t x i y=>exact Di t x i y u
 case slice t x lo hi mx=>
  cases mx with
  | none=>exact ok_slice t x lo hi u
  | some m=>intro V L S rho s a w K next Q hC z I J D;simp only[bV,u]at D
 case fieldAddr t x f=>exact C_ t x f u
 case field t x f=>exact LM t x f u
 case indexAddr t x ix=>exact Db t x ix u
 case index t x ix=>exact LN t x ix u
 case extract x i=>exact G4 x i u
 case call c=>
  cases hc:c.callee with
  | value g=>exact OU c g u hc
  | invoke r m=>intro V L S rho s a w K next Q hC z I J D;simp only[bV,u,hc,fq,gf]at D
  | builtin b=>
   cases b
   case len=>exact Q8 c u hc
   case min=>exact Q9 c u hc
   case max=>exact Q_ c u hc
   case append=>exact J7 c u hc
   case clear=>exact Mb c u hc
   all_goals (intro V L S rho s a w K next Q hC z I J D;simp only[bV,u,hc,fq,gf]at D)
 all_goals (intro V L S rho s a w K next Q hC z I J D;simp only[bV,u]at D)
end Go.AM
namespace Go.AM
open Go.RowKit
def cF(a b:Nat):Bool:=Nat.beq a b
theorem bw{a b:Nat}:cF a b=true↔a=b:=by unfold cF;exact⟨de,fun h=>by subst h;simp⟩
mutual
def tf(d:Nat):AV->Bool
 | .ow i=>cF i d
 | .rp i _ _=>cF i d
 | .bx i _=>cF i d
 | .vw i _ _=>cF i d
 | .fn _ cap=>h_ d cap
 | .tu xs=>h_ d xs
 | .st xs=>h_ d xs
 | _=>false
def h_(d:Nat):List AV->Bool
 | []=>false
 | x::r=>tf d x||h_ d r
end
def rn(i d:Nat):AV->AV
 | .ow k=>match cF k i with
  | true=>.ow d
  | false=>match cF k d with
   | true=>.junk
   | false=>.ow k
 | .rp k a b=>match cF k i with
  | true=>.rp d a b
  | false=>match cF k d with
   | true=>.junk
   | false=>.rp k a b
 | .bx k a=>match cF k i with
  | true=>.bx d a
  | false=>match cF k d with
   | true=>.junk
   | false=>.bx k a
 | .vw k a b=>match cF k i with
  | true=>.vw d a b
  | false=>match cF k d with
   | true=>.junk
   | false=>.vw k a b
 | .fn f cap=>match h_ i cap||h_ d cap with
  | true=>.junk
  | false=>.fn f cap
 | .tu xs=>match h_ i xs||h_ d xs with
  | true=>.junk
  | false=>.tu xs
 | .st xs=>match h_ i xs||h_ d xs with
  | true=>.junk
  | false=>.st xs
 | x=>x
def HX.iT(f:AV->AV):HX->HX
 | .av x=>.av (f x)
 | .row e es=>.row e es
def Mn(i d:Nat):AB->AB
 | .ay e es=>.ay e (es.map fun r=>r.map (HX.iT (rn i d)))
 | .box cs=>.box (cs.map (rn i d))
 | .jF ty cs=>.jF ty (cs.map (rn i d))
 | b=>b
def nE(i d:Nat)(s:AS):AS:=⟨fun j=>rn i d (s.t j),fun j=>match cF j d with
 | true=>Mn i d (s.h i)
 | false=>match cF j i with
  | true=>.none
  | false=>Mn i d (s.h j)⟩
def sc(d:Nat):AV->AV
 | .p x=>.p x
 | .nl=>.nl
 | .ow i=>match cF i d with
  | true=>.junk
  | false=>.ow i
 | .rp i a b=>match cF i d with
  | true=>.junk
  | false=>.rp i a b
 | .bx i a=>match cF i d with
  | true=>.junk
  | false=>.bx i a
 | .vw i a b=>match cF i d with
  | true=>.junk
  | false=>.vw i a b
 | .fn f cap=>match h_ d cap with
  | true=>.junk
  | false=>.fn f cap
 | .tu xs=>match h_ d xs with
  | true=>.junk
  | false=>.tu xs
 | .st xs=>match h_ d xs with
  | true=>.junk
  | false=>.st xs
 | .junk=>.junk
theorem Mo(d:Nat)(x:AV):sc d x=match tf d x with
  | true=>.junk
  | false=>x:=by cases x<;>rfl
def yO(d:Nat):AB->AB
 | .ay e es=>.ay e (es.map fun r=>r.map (HX.iT (sc d)))
 | .box cs=>.box (cs.map (sc d))
 | .jF ty cs=>.jF ty (cs.map (sc d))
 | b=>b
def jH(d:Nat)(s:AS):AS:=⟨fun j=>sc d (s.t j),bq (fun k=>yO d (s.h k)) d .none⟩
def c_:Nat->Prop:=fun _=>True
theorem wk(i d:Nat)(b:AB):(Mn i d b).there↔b.there:=by cases b<;>rfl
theorem Fk(i d:Nat)(b:AB):(Mn i d b).live↔b.live:=by cases b<;>rfl
structure Fl(L L':Nat->Prop)(rho rho':Nat->Value)(h h':Nat->AB)(i d:Nat):Prop where
 old:∀k,k≠i->k≠d->((h' k).there->(h k).there)/\(L k->L' k)/\rho' k=rho k/\(∀e,(h' k).pq=some e->(h k).pq=some e)
 new:i≠d->((h' d).there->(h i).there)/\(L i->L' d)/\rho' d=rho i/\(∀e,(h' d).pq=some e->(h i).pq=some e)
variable {d:Nat}
theorem dr:∀{xs:List AV},h_ d xs=false->∀x∈xs,tf d x=false:=by
 intro xs
 induction xs with
 | nil=>intro _ x u;cases u
 | cons y xs ih=>
  intro h x u;simp only[h_,gV]at h;rcases aE.1 u with e | e
  ·rw[e];exact h.1
  exact ih h.2 x e
variable {L L':Nat->Prop} {rho:Nat->Value} {h':Nat->AB}
theorem br.qP{S:Nat->Prop}{w:World}{P:Program}{rho':Nat->Value}{h:Nat->AB}{i:Nat}(T:Fl L L' rho rho' h h' i d){x:AV}{v:Value}(hx:br S w P L rho h x v)(z:tf i x=false)(D:tf d x=false):br S w P L' rho' h' x v:=by
 induction hx with
 | p x v hx=>exact .p x v hx
 | nl=>exact .nl
 | ow k v hv=>
  have J:k≠i:=fun e=>by rw[tf,bw.2 e]at z;cases z
  have N:k≠d:=fun e=>by rw[tf,bw.2 e]at D;cases D
  obtain⟨O,R,U,W⟩:=T.old k J N;exact .ow k v fun Y=>⟨R (hv (O Y)).1,by rw[U];exact (hv (O Y)).2⟩
 | rp k a b v hv=>
  have J:k≠i:=fun e=>by rw[tf,bw.2 e]at z;cases z
  have N:k≠d:=fun e=>by rw[tf,bw.2 e]at D;cases D
  obtain⟨O,R,U,W⟩:=T.old k J N;exact .rp k a b v fun e he=>by obtain⟨q1,q2⟩:=hv e (W e he);exact⟨R q1,by rw[U];exact q2⟩
 | bx k a v hv=>
  have J:k≠i:=fun e=>by rw[tf,bw.2 e]at z;cases z
  have N:k≠d:=fun e=>by rw[tf,bw.2 e]at D;cases D
  obtain⟨O,R,U,W⟩:=T.old k J N;exact .bx k a v fun Y=>⟨R (hv (O Y)).1,by rw[U];exact (hv (O Y)).2⟩
 | vw k a b v hv=>
  have J:k≠i:=fun e=>by rw[tf,bw.2 e]at z;cases z
  have N:k≠d:=fun e=>by rw[tf,bw.2 e]at D;cases D
  obtain⟨O,R,U,W⟩:=T.old k J N;exact .vw k a b v fun e he=>by obtain⟨q1,q2⟩:=hv e (W e he);exact⟨R q1,by rw[U];exact q2⟩
 | fn f cap vs Z hc ih=>exact .fn f cap vs Z fun j c u I hu=>ih j c u I hu (dr z c (an I)) (dr D c (an I))
 | tu xs vs Z hc ih=>exact .tu xs vs Z fun j c u I hu=>ih j c u I hu (dr z c (an I)) (dr D c (an I))
 | st xs vs Z h0 hc ih=>exact .st xs vs Z h0 fun j c u I hu=>ih j c u I hu (dr z c (an I)) (dr D c (an I))
 | junk v=>exact .junk v
theorem br.rn{S:Nat->Prop}{w:World}{P:Program}{rho':Nat->Value}{h:Nat->AB}{i:Nat}(T:Fl L L' rho rho' h h' i d)(hid:i≠d\/∀k,k=d->¬(h' k).there ){x:AV}{v:Value}(hx:br S w P L rho h x v):br S w P L' rho' h' (rn i d x) v:=by
 have z:i=d->¬(h' d).there:=fun e=>hid.resolve_left (fun h=>h e) d rfl;cases hx with
 | p x v hx=>exact .p x v hx
 | nl=>exact .nl
 | ow k v hv=>
  unfold AM.rn;simp only;split
  ·rename_i hk;have hk:=bw.1 hk;subst hk;refine .ow d v fun J=>?_;by_cases e:k=d
   ·exact absurd J (z e)
   obtain⟨N,O,R,W⟩:=T.new e;exact⟨O (hv (N J)).1,by rw[R];exact (hv (N J)).2⟩
  rename_i hk;split
  ·exact .junk v
  rename_i U;exact br.qP T (.ow k v hv) (by simpa [tf] using hk) (by simpa [tf] using U)
 | rp k a b v hv=>
  unfold AM.rn;simp only;split
  ·rename_i hk;have hk:=bw.1 hk;subst hk;refine .rp d a b v fun e Y=>?_;by_cases e':k=d
   ·exact absurd (px Y) (z e')
   obtain⟨N,O,R,W⟩:=T.new e';obtain⟨q1,q2⟩:=hv e (W e Y);exact⟨O q1,by rw[R];exact q2⟩
  rename_i hk;split
  ·exact .junk v
  rename_i U;exact br.qP T (.rp k a b v hv) (by simpa [tf] using hk) (by simpa [tf] using U)
 | vw k a b v hv=>
  unfold AM.rn;simp only;split
  ·rename_i hk;have hk:=bw.1 hk;subst hk;refine .vw d a b v fun e Y=>?_;by_cases e':k=d
   ·exact absurd (px Y) (z e')
   obtain⟨N,O,R,W⟩:=T.new e';obtain⟨q1,q2⟩:=hv e (W e Y);exact⟨O q1,by rw[R];exact q2⟩
  rename_i hk;split
  ·exact .junk v
  rename_i U;exact br.qP T (.vw k a b v hv) (by simpa [tf] using hk) (by simpa [tf] using U)
 | bx k a v hv=>
  unfold AM.rn;simp only;split
  ·rename_i hk;have hk:=bw.1 hk;subst hk;refine .bx d a v fun J=>?_;by_cases e:k=d
   ·exact absurd J (z e)
   obtain⟨N,O,R,W⟩:=T.new e;exact⟨O (hv (N J)).1,by rw[R];exact (hv (N J)).2⟩
  rename_i hk;split
  ·exact .junk v
  rename_i U;exact br.qP T (.bx k a v hv) (by simpa [tf] using hk) (by simpa [tf] using U)
 | fn f cap vs Z hc=>
  unfold AM.rn;simp only;split
  ·exact .junk _
  rename_i D;simp only[gV]at D;exact .fn f cap vs Z fun j c u I hu=>(hc j c u I hu).qP T (dr D.1 c (an I)) (dr D.2 c (an I))
 | tu xs vs Z hc=>
  unfold AM.rn;simp only;split
  ·exact .junk _
  rename_i D;simp only[gV]at D;exact .tu xs vs Z fun j c u I hu=>(hc j c u I hu).qP T (dr D.1 c (an I)) (dr D.2 c (an I))
 | st xs vs Z h0 hc=>
  unfold AM.rn;simp only;split
  ·exact .junk _
  rename_i D;simp only[gV]at D;exact .st xs vs Z h0 fun j c u I hu=>(hc j c u I hu).qP T (dr D.1 c (an I)) (dr D.2 c (an I))
 | junk v=>exact .junk v
variable {es:List (List HX)}
theorem pD{w:World}{f:AV->AV}{g a j:Nat}{u:Value}:ew w (es.map fun r=>r.map (HX.iT f)) g a j u↔ew w es g a j u:=by
 constructor
 ·rintro⟨r,e,xs,c,N,m,D,I,O,J⟩;rw[aB]at D;obtain⟨q,R,rfl⟩:=aT.1 D;rw[aB]at I;obtain⟨z,U,W⟩:=aT.1 I;rw[aw]at J;cases z with
  | av x=>cases W
  | row e' Y=>exact⟨q,e',Y,c,N,m,R,U,O,J⟩
 rintro⟨r,e,xs,c,N,m,D,I,O,J⟩;exact⟨r.map (HX.iT f),e,xs,c,N,m,by rw[aB,D];rfl,by rw[aB,I];rfl,O,by rw[aw];exact J⟩
theorem v_.map{w:World}{f:AV->AV}{v:Value}(h:v_ w es v):v_ w (es.map fun r=>r.map (HX.iT f)) v:=
 ⟨fun g a j u b z D I=>h.top g a j u b z (pD.1 D) I,fun g a j J N u O b z D I R U=>h.dis g a j J N u O b z (pD.1 D) (pD.1 I) R U⟩
variable {e:TypeId}
theorem aC.map{P:Program}{w:World}{R J:HX->Value->Prop}{f:AV->AV}{v:Value}(h:aC P w R e es v)(U:∀x u,R x u->J (HX.iT f x) u):aC P w J e (es.map fun r=>r.map (HX.iT f)) v:=by
 obtain⟨i,xs,W,Y,Z,h4,h5,h6⟩:=h;refine⟨i,xs,W,Y,by rw[aw];exact Z,fun r D=>?_,h5,fun a r j x N O=>?_⟩
 ·obtain⟨q,I,rfl⟩:=bF.1 D;rw[aw];exact h4 q I
 rw[aB]at N;obtain⟨q,I,rfl⟩:=aT.1 N;rw[aB]at O;obtain⟨z,hz,rfl⟩:=aT.1 O;obtain⟨u,hu,D⟩:=h6 a q j z I hz;exact⟨u,hu,U _ _ D⟩
theorem eI{w:World}{v:Value}{k:Nat}:hasB w (.ay e es) v k↔bY v=some k\/∃g a j u,bY v=some g/\ew w es g a j u/\bY u=some k:=by
 constructor
 ·rintro (h | ⟨cs,g,h,_⟩ | ⟨e',dA,g,a,j,u,h,z,D,I⟩)
  ·exact .inl h
  ·cases h
  injection h with h4 h5;subst h4 h5;exact .inr ⟨g,a,j,u,z,D,I⟩
 rintro (h | ⟨g,a,j,u,z,D,I⟩)
 ·exact .inl h
 exact .inr (.inr ⟨_,_,_,_,_,_,rfl,z,D,I⟩)
theorem Cn{w:World}{f:AV->AV}{v:Value}{k:Nat}:hasB w (.ay e (es.map fun r=>r.map (HX.iT f))) v k↔hasB w (.ay e es) v k:=by
 rw[eI,eI];simp only[pD]
theorem I5{w:World}(i d:Nat)(b:AB)(v:Value)(g:Nat):hasB w (Mn i d b) v g↔hasB w b v g:=by
 cases b with
 | ay e es=>exact Cn
 | box cs=>exact⟨fun h=>.inl (aD rfl h),fun h=>.inl (aD rfl h)⟩
 | jF ty cs=>exact⟨fun h=>.inl (aD rfl h),fun h=>.inl (aD rfl h)⟩
 | _=>exact fH
variable {A:qB} {s:AS}
theorem cc.rename{S:Nat->Prop}{a:Act}{w:World}(D:cc A c_ c_ S rho s a w)(i d:Nat)(hid:i≠d)(hdb:d<100000):cc A c_ c_ S (fun j=>if j=d then rho i else rho j) (nE i d s) a w:=by
 have hd:(nE i d s).h d=Mn i d (s.h i):=by simp[nE,cF]
 have hi:(nE i d s).h i=.none:=by
  have:cF i d=false:=by rw[cy];intro e;exact hid (bw.1 e)
  simp only[nE,this,bw.2 rfl]
 have ho:∀k,k≠i->k≠d->(nE i d s).h k=Mn i d (s.h k):=fun k N J=>by
  have e1:cF k d=false:=by rw[cy];intro e;exact J (bw.1 e)
  have e2:cF k i=false:=by rw[cy];intro e;exact N (bw.1 e)
  simp[nE,e1,e2]
 have row:∀b e,(Mn i d b).pq=some e->b.pq=some e:=fun b e h=>by cases b<;>exact h
 have T:Fl c_ c_ rho (fun j=>if j=d then rho i else rho j) s.h (nE i d s).h i d:=
  ⟨fun k N J=>by rw[ho k N J];exact⟨(wk _ _ _).1,fun h=>h,aa J,row _⟩,fun _=>by rw[hd];exact⟨(wk _ _ _).1,fun h=>h,ae rfl,row _⟩⟩
 have WD:∀k,((nE i d s).h k).live->∃I,(s.h I).live/\(if k=d then rho i else rho k)=rho I/\(I=if k=d then i else k)/\∀v g,hasB w ((nE i d s).h k) v g↔hasB w (s.h I) v g:=by
  intro k Z;by_cases e:k=d
  ·subst e;rw[hd,Fk]at Z;exact⟨i,Z,ae rfl,(ae rfl).symm,fun v g=>by rw[hd,I5]⟩
  by_cases e':k=i
  ·subst e';rw[hi]at Z;exact Z.elim
  rw[ho k e' e,Fk]at Z;exact⟨k,Z,aa e,(aa e).symm,fun v g=>by rw[ho k e' e,I5]⟩
 have O:∀k b,fU S w A.C.P c_ rho s.h k b->∀I,(if I=d then rho i else rho I)=rho k->fU S w A.C.P c_ (fun j=>if j=d then rho i else rho j) (nE i d s).h I (Mn i d b):=by
  intro k b hb I hk;cases b with
  | none=>trivial
  | row e es=>show aC _ _ _ _ _ (if I=d then rho i else rho I);rw[hk];exact hb
  | jr es=>show aQ _ _ _ (if I=d then rho i else rho I);rw[hk];exact hb
  | ll es=>show aQ _ _ _ (if I=d then rho i else rho I);rw[hk];exact hb
  | map mk es=>
   obtain⟨g,ms,R,N,J⟩:=hb;exact⟨g,ms,R,by simp only;rw[hk];exact N,J⟩
  | box cs=>
   obtain⟨g,ty,c,N,J,U,W⟩:=hb;refine⟨g,ty,c,by simp only;rw[hk];exact N,J,by simpa using U,fun j x u Y hu=>?_⟩;rw[aB]at Y;obtain⟨z,hz,rfl⟩:=aT.1 Y;exact⟨(W j z u hz hu).1,(W j z u hz hu).2.rn T (.inl hid)⟩
  | jF ty cs=>
   obtain⟨g,c,N,J,U,W⟩:=hb;refine⟨g,c,by simp only;rw[hk];exact N,J,by simpa using U,fun j x u Y hu=>?_⟩;rw[aB]at Y;obtain⟨z,hz,rfl⟩:=aT.1 Y;exact⟨(W j z u hz hu).1,(W j z u hz hu).2.rn T (.inl hid)⟩
  | a7 cs=>
   obtain⟨g,ty,c,N,J⟩:=hb;exact⟨g,ty,c,by simp only;rw[hk];exact N,J⟩
  | ay e es=>
   obtain⟨N,J⟩:=hb;show aC _ _ _ _ _ (if I=d then rho i else rho I)/\v_ _ _ (if I=d then rho i else rho I);rw[hk];refine⟨aC.map N fun x u hx=>?_,J.map⟩;cases x with
   | av x=>exact br.rn T (.inl hid) hx
   | row e' dA=>exact hx
 exact
 {tm:=fun j Y=>(D.tm j Y).rn T (.inl hid)
  sz:=D.sz,df:=D.df,nb:=D.nb,pn:=fun id h=>by show (if id=d then rho i else rho id)=_;rw[aa (by omega)];exact D.pn id h,ev:=D.ev,s0:=D.s0,st:=D.st,sb:=D.sb
  hp:=fun k _=>by
   by_cases e:k=d
   ·subst e;rw[hd];exact O i _ (D.hp i trivial) k (ae rfl)
   by_cases e':k=i
   ·subst e';rw[hi];trivial
   rw[ho k e' e];exact O k _ (D.hp k trivial) k (aa e)
  dj:=fun a b g _ _ la lb ha hb=>by
   obtain⟨a',N,J,U,h7⟩:=WD a la;obtain⟨b',W,h5,h6,h8⟩:=WD b lb;have:=D.dj a' b' g trivial trivial N W (by rw[<-h7,<-J];exact ha) (by rw[<-h8,<-h5];exact hb);rw[U,h6]at this;by_cases ea:a=d<;>by_cases eb:b=d
   ·rw[ea,eb]
   ·rw[ae ea,aa eb]at this;rw[<-this]at lb;rw[hi]at lb;exact lb.elim
   ·rw[aa ea,ae eb]at this;rw[this]at la;rw[hi]at la;exact la.elim
   rwa [aa ea,aa eb]at this
  lv:=fun k g _ lk hk=>by
   obtain⟨I,N,J,_,U⟩:=WD k lk;exact D.lv I g trivial N (by rw[<-U,<-J];exact hk)
  fr:=D.fr }
theorem br.sc{S:Nat->Prop}{w:World}{P:Program}{h:Nat->AB}(T:Fl L L' rho rho h h' d d){x:AV}{v:Value}(z:br S w P L rho h x v):br S w P L' rho h' (sc d x) v:=by
 rw[Mo];split
 ·exact .junk v
 rename_i u;exact z.qP T u u
theorem Ks(d:Nat)(b:AB):(yO d b).there↔b.there:=by cases b<;>rfl
theorem zA(d:Nat)(b:AB):(yO d b).live↔b.live:=by cases b<;>rfl
theorem Dq{w:World}(d:Nat)(b:AB)(v:Value)(g:Nat):hasB w (yO d b) v g↔hasB w b v g:=by
 cases b with
 | ay e es=>exact Cn
 | box cs=>exact⟨fun h=>.inl (aD rfl h),fun h=>.inl (aD rfl h)⟩
 | jF ty cs=>exact⟨fun h=>.inl (aD rfl h),fun h=>.inl (aD rfl h)⟩
 | _=>exact fH
theorem cc.Qd{S:Nat->Prop}{a:Act}{w:World}(D:cc A c_ L S rho s a w)(d:Nat)(b:AB):cc A c_ (fun k=>L k/\k≠d) S rho ⟨(jH d s).t,bq (jH d s).h d b⟩ a w:=by
 have N:∀k,k≠d->bq (jH d s).h d b k=yO d (s.h k):=fun k hk=>by rw[a_ _ _ hk];show bq (fun k=>yO d (s.h k)) d AB.none k=_;rw[a_ _ _ hk]
 have row:∀x e,(yO d x).pq=some e->x.pq=some e:=fun x e h=>by cases x<;>exact h
 have T:Fl L (fun k=>L k/\k≠d) rho rho s.h (bq (jH d s).h d b) d d:=
  ⟨fun k O _=>by rw[N k O];exact⟨(Ks _ _).1,fun h=>⟨h,O⟩,rfl,row _⟩,fun h=>absurd rfl h⟩
 exact
 {tm:=fun j J=>(D.tm j J).sc T
  sz:=D.sz,df:=D.df,nb:=D.nb,pn:=D.pn,ev:=D.ev,s0:=D.s0,st:=D.st,sb:=D.sb
  hp:=fun k hk=>by
   show fU _ _ _ _ _ _ _ (bq (jH d s).h d b k);rw[N k hk.2];have I:=D.hp k hk.1;cases hb:s.h k with
   | none=>trivial
   | row e es=>rw[hb]at I;exact I
   | jr es=>rw[hb]at I;exact I
   | ll es=>rw[hb]at I;exact I
   | map mk es=>rw[hb]at I;exact I
   | box cs=>
    rw[hb]at I;obtain⟨g,ty,c,O,R,h3,U⟩:=I;refine⟨g,ty,c,O,R,by simpa using h3,fun j x u J W=>?_⟩;rw[aB]at J;obtain⟨z,Y,rfl⟩:=aT.1 J;exact⟨(U j z u Y W).1,(U j z u Y W).2.sc T⟩
   | jF ty cs=>
    rw[hb]at I;obtain⟨g,c,O,R,h3,U⟩:=I;refine⟨g,c,O,R,by simpa using h3,fun j x u J W=>?_⟩;rw[aB]at J;obtain⟨z,Y,rfl⟩:=aT.1 J;exact⟨(U j z u Y W).1,(U j z u Y W).2.sc T⟩
   | a7 cs=>rw[hb]at I;exact I
   | ay e es=>
    rw[hb]at I;obtain⟨O,R⟩:=I;refine⟨aC.map O fun x u hx=>?_,R.map⟩;cases x with
    | av x=>exact br.sc T hx
    | row e' dA=>exact hx
  dj:=fun i j g hi J li lj fZ kz=>by
   have Z:(bq (jH d s).h d b i).live:=li;have TX:(bq (jH d s).h d b j).live:=lj;have fZ:hasB w (bq (jH d s).h d b i) (rho i) g:=fZ;have kz:hasB w (bq (jH d s).h d b j) (rho j) g:=kz;rw[N i hi.2,zA]at Z;rw[N j J.2,zA]at TX;rw[N i hi.2,Dq]at fZ;rw[N j J.2,Dq]at kz;exact D.dj i j g hi.1 J.1 Z TX fZ kz
  lv:=fun i g hi li hg=>by
   have Z:(bq (jH d s).h d b i).live:=li;have hg:hasB w (bq (jH d s).h d b i) (rho i) g:=hg;rw[N i hi.2,zA]at Z;rw[N i hi.2,Dq]at hg;exact D.lv i g hi.1 Z hg
  fr:=D.fr }
theorem cc.s5{V V' S:Nat->Prop}{a:Act}{w:World}(u:cc A V L S rho s a w)(z:∀j,V' j->V j)(D:∀i,L' i↔L i):cc A V' L' S rho s a w:=by
 have e:L'=L:=funext fun i=>propext (D i);subst e;exact { u with tm:=fun j I=>u.tm j (z j I) }
theorem cc.I6{V S:Nat->Prop}{a:Act}{w:World}(d:Nat)(u:cc A V (fun k=>k≠d) S rho s a w)(D:s.h d=.none):cc A V c_ S rho s a w:=by
 have T:mQ S S w w (fun k=>k≠d) c_ rho rho s.h s.h:=⟨fun b h=>h,fun _ _=>rfl,fun k hk=>⟨hk,fun _=>⟨trivial,rfl⟩⟩,fun k e h=>h⟩;have nl:∀k,(s.h k).live->k≠d:=fun k hk e=>by rw[e,D]at hk;exact hk
 exact
 {tm:=fun j J=>(u.tm j J).dH T
  sz:=u.sz,df:=u.df,nb:=u.nb,pn:=u.pn,ev:=u.ev,s0:=u.s0,st:=u.st,sb:=u.sb
  hp:=fun k _=>by
   by_cases e:k=d
   ·subst e;rw[D];trivial
   exact (u.hp k e).dH T (fun _ _ _=>rfl) (fun _=>rfl)
  dj:=fun i j g _ _ z I=>u.dj i j g (nl i z) (nl j I) z I
  lv:=fun i g _ z=>u.lv i g (nl i z) z
  fr:=u.fr }
theorem cc.free{S:Nat->Prop}{a:Act}{w:World}(u:cc A c_ c_ S rho s a w)(d:Nat)(b:AB):cc A c_ (fun k=>k≠d) S rho ⟨(jH d s).t,bq (jH d s).h d b⟩ a w:=
 (u.Qd d b).s5 (fun _ _=>trivial) (fun _=>⟨fun h=>⟨trivial,h⟩,fun h=>h.2⟩)
def qQ:Op->Bool
 | .box _ _ | .alloc _ | .buildSlice _ _ _ | .makeSlice _ _ _ | .makeMap _ _=>true
 | .call c=>match c.callee with
  | .builtin .append=>true
  | .value _=>true
  | _=>false
 | _=>false
def qK(h:Nat->AB)(d:Nat):Option AB->Nat->AB
 | none=>h
 | some b=>bq h d b
def zC:AV->Bool
 | .p (.sl [])=>true
 | _=>false
def Rm:AV->Bool
 | .nl=>true
 | _=>false
def WE:BinOp->Bool
 | .eql=>true
 | .neq=>true
 | _=>false
def OV(C:Ctx)(o:Oper)(t:Nat->AV):Bool:=match o.op with
 | .binOp op ty x y _=>WE op&&Rm (ev t y)&&zC (ev t x)&&(match C.T ty with
  | some { ud:=.sl _,.. }=>true
  | _=>false)
 | _=>false
def zD(C:Ctx)(o:Oper)(K:AS->Prop)(s:AS):Prop:=
 match qQ o.op with
 | true=>bV C o (ev (jH (o.dst.getD 0) s).t) (jH (o.dst.getD 0) s).h fun v eff new=>K ⟨f_ (jH (o.dst.getD 0) s).t o.dst v,match new with
   | none=>bq (app (jH (o.dst.getD 0) s).h eff) (o.dst.getD 0) .none
   | some b=>app (bq (jH (o.dst.getD 0) s).h (o.dst.getD 0) b) eff⟩
 | false=>match o.op,o.dst with
  | .assign x,some d=>match ev s.t x with
   | .ow i=>match s.h i with
    | .row _ _=>match cF i d with
     | true=>K ⟨bq s.t d (.ow i),s.h⟩
     | false=>K ⟨bq (nE i d s).t d (.ow d),(nE i d s).h⟩
    | .ay _ _=>match cF i d with
     | true=>K ⟨bq s.t d (.ow i),s.h⟩
     | false=>K ⟨bq (nE i d s).t d (.ow d),(nE i d s).h⟩
    | _=>K ⟨bq s.t d (.ow i),s.h⟩
   | v=>K ⟨bq s.t d v,s.h⟩
  | _,_=>bV C o (ev s.t) s.h fun v eff new=>match new with
   | none=>K ⟨f_ s.t o.dst v,app s.h eff⟩
   | some _=>False
def step(C:Ctx)(o:Oper)(K:AS->Prop)(s:AS):Prop:=match OV C o s.t with
 | true=>K ⟨f_ s.t o.dst (.p (.im (.bool true))),s.h⟩/\K ⟨f_ s.t o.dst (.p (.im (.bool false))),s.h⟩
 | false=>zD C o K s
def lU(o:Oper)(n:Nat):Prop:=∀d,o.dst=some d->d<n
theorem Fm(hC:bR A.C){o:Oper}{S:Nat->Prop}{a:Act}{w:World}{K:AS->Prop}{next:Act->World->Prop}{Q:Exit->Act->World->Prop}(J:lU o A.n)(D:cc A c_ c_ S rho s a w)(u:zD A.C o K s)
  (z:∀s' S' rho' O w',K s'->cc A c_ c_ S' rho' s' O w'->next O w'):o.wp A.C.P a w next Q:=by
 have plain:∀N:KK,bV A.C o (ev s.t) s.h N->(∀v eff b,¬N v eff (some b))->(∀v eff,N v eff none->K ⟨f_ s.t o.dst v,app s.h eff⟩)->o.wp A.C.P a w next Q:=by
  intro N u h1 h2;refine Mm A o _ _ _ _ _ _ _ N next Q hC D (fun _ _=>trivial) J u (fun v eff b h=>absurd h (h1 v eff b)) fun v eff new S' rho' O w' hk R=>?_
  cases new with
  | some b=>exact absurd hk (h1 v eff b)
  | none=>exact z _ _ _ _ _ (h2 v eff hk) (R.s5 (fun _ _=>.inl trivial) (fun _=>fH))
 unfold zD at u;split at u
 ·have WG:∀n,Ext (jH (o.dst.getD 0) s).h (qK (jH (o.dst.getD 0) s).h (o.dst.getD 0) n):=fun n k=>by
   cases n with
   | none=>exact .inr rfl
   | some b=>
    by_cases e:k=o.dst.getD 0
    ·subst e;exact .inl (by show bq (fun k=>yO (o.dst.getD 0) (s.h k)) _ AB.none _=_;rw[aH])
    exact .inr (a_ _ _ e)
  obtain⟨v,eff,new,hk,QV⟩:=rV (fun _=>.inr rfl) u;obtain⟨v2,e2,U,⟨rfl,rfl,rfl⟩,ye⟩:=rV (WG new) (QV (fun W e' Y=>W=v/\e'=eff/\Y=new) ⟨rfl,rfl,rfl⟩);have wh:=ye (fun W e' Y=>W=v2/\e'=e2/\Y=U) ⟨rfl,rfl,rfl⟩;have Z:cc A c_ (fun k=>k≠o.dst.getD 0) S rho ⟨(jH (o.dst.getD 0) s).t,qK (jH (o.dst.getD 0) s).h (o.dst.getD 0) U⟩ a w:=by
   have:=D.free (o.dst.getD 0) (match U with | none=>.none | some b=>b);cases U with
   | some b=>exact this
   | none=>
    have e:bq (jH (o.dst.getD 0) s).h (o.dst.getD 0) .none=(jH (o.dst.getD 0) s).h:=jO _ _ _ (by show bq (fun k=>yO (o.dst.getD 0) (s.h k)) _ AB.none _=_;rw[aH]);simp only at this;rw[e]at this;exact this
  refine Mm A o _ _ _ _ _ _ _ _ next Q hC Z (fun _ _=>trivial) J wh (fun v eff b h=>?_) fun v eff new S' rho' O w' J1 R=>?_
  ·obtain⟨_,_,rfl⟩:=h;exact⟨fun h=>h rfl,aH _ _ _⟩
  obtain⟨rfl,rfl,rfl⟩:=J1;refine z _ S' rho' _ _ hk ?_;cases new with
  | some b=>exact R.s5 (V':=c_) (L':=c_) (fun _ _=>.inl trivial) (fun k=>⟨fun _=>by by_cases e:k=o.dst.getD 0;exact .inr e;exact .inl e,fun _=>trivial⟩)
  | none=>exact ((R.kill (o.dst.getD 0)).I6 _ (aH _ _ _)).s5 (fun _ _=>.inl trivial) (fun _=>fH)
 split at u
 ·rename_i x d aJ mi;have run:(execOp a.eval o).run A.C.P w=.ok (.value (a.eval x)) w:=by simp[execOp,aJ]
  have hx:=bB D x (fun _ _=>trivial);have same:∀v,ev s.t x=v->K ⟨bq s.t d v,s.h⟩->o.wp A.C.P a w next Q:=fun v hv hk=>by
   refine eO run (z _ S rho _ _ hk ?_);have:=(D.value o.dst J v _ (by rw[<-hv];exact hx)).s5 (V':=c_) (L':=c_) (fun _ _=>.inl trivial) (fun _=>fH);rw[mi]at this ⊢;exact this
  have Qe:∀i,ev s.t x=.ow i->cF i d=false->K ⟨bq (nE i d s).t d (.ow d),(nE i d s).h⟩->o.wp A.C.P a w next Q:=fun i hi I u=>by
     have hid:i≠d:=fun e=>by rw[bw.2 e]at I;cases I
     refine eO run (z _ S (fun j=>if j=d then rho i else rho j) _ _ u ?_);have Z:=D.rename i d hid (cG (J d mi) D.nb);have Zh:br S w A.C.P c_ (fun j=>if j=d then rho i else rho j) (nE i d s).h (.ow d) (a.eval x):=by
      rw[hi]at hx;refine .ow d _ fun ht=>⟨trivial,?_⟩;have:(s.h i).there:=by simpa [nE,bw.2 rfl,wk] using ht
      rw[(hx.cW this).2];simp
     have:=(Z.value o.dst J (.ow d) _ Zh).s5 (V':=c_) (L':=c_) (fun _ _=>.inl trivial) (fun _=>fH);rw[mi]at this ⊢;exact this
  split at u
  ·rename_i i hi;split at u
   ·split at u
    ·exact same _ hi u
    rename_i I;exact Qe i hi I u
   ·split at u
    ·exact same _ hi u
    rename_i I;exact Qe i hi I u
   exact same _ hi u
  exact same _ rfl u
 refine plain _ u (fun v eff b h=>h) (fun v eff h=>h)
theorem Dr{x:AV}(h:zC x=true):x=.p (.sl []):=by
 unfold zC at h;split at h
 ·rfl
 cases h
theorem Mp{x:AV}(h:Rm x=true):x=.nl:=by unfold Rm at h;split at h;rfl;cases h
theorem Ho(hC:bR A.C){o:Oper}{S:Nat->Prop}{a:Act}{w:World}{K:AS->Prop}{next:Act->World->Prop}{Q:Exit->Act->World->Prop}(R:lU o A.n)(z:cc A c_ c_ S rho s a w)(D:step A.C o K s)
  (u:∀U S' rho' W w',K U->cc A c_ c_ S' rho' U W w'->next W w'):o.wp A.C.P a w next Q:=by
 unfold step at D;split at D
 ·rename_i I;unfold OV at I;split at I
  ·rename_i op ty x y ty2 Y;simp only[aK]at I;obtain⟨⟨⟨h1,h3⟩,h2⟩,Z⟩:=I;split at Z
   case h_2=>cases Z
   rename_i e size bytes zero eq hT;have N:=(hC.tab ty _ hT).under;simp only at N;have hx:=bB z x (fun _ _=>trivial);have O:=bB z y (fun _ _=>trivial);rw[Dr h2]at hx;rw[Mp h3]at O;obtain⟨ad,c,hv,_⟩:=hx.fK.py;have qC:a.eval y=.slice none 0 0:=by generalize a.eval y=v at O;cases O;rfl
   have fin:∀b:Bool,(execOp a.eval o).run A.C.P w=.ok (.value (.bool b)) w->o.wp A.C.P a w next Q:=fun b J=>by
    refine eO J (u ⟨f_ s.t o.dst (.p (.im (.bool b))),s.h⟩ S rho _ _ ?_ ?_)
    ·cases b
     ·exact D.2
     exact D.1
    exact (z.value o.dst R (.p (.im (.bool b))) _ (.p _ _ (.im _))).s5 (V':=c_) (L':=c_) (fun _ _=>.inl trivial) (fun _=>fH)
   cases op<;>first | (cases h1;done) | skip
   ·refine fin ad.isNone ?_;simp[execOp,Y,hv,qC,eqGuard,binOp,run_equal_slice_nil _ _ _ _ _ _ N]
   refine fin (!ad.isNone) ?_;simp[execOp,Y,hv,qC,eqGuard,binOp,run_equal_slice_nil _ _ _ _ _ _ N]
  cases I
 exact Fm hC R z D u
end Go.AM
namespace Go.AM
open Go.RowKit
def qn(b:Bool)(p q:Prop):Prop:=match b with
 | true=>p
 | false=>q
def jQ(b:Bool):AV:=.p (.im (.bool b))
def s6:AV:=.p (.im undef)
def Mq:Value->Option Bool
 | .bool b=>some b
 | _=>none
def TY(v:Value)(want:Bool):Bool:=Mq v==some want
def qF(C:Ctx)(all:List Oper):List Oper->(AS->Prop)->AS->Prop
 | [],K,s=>K s
 | o::r,K,s=>match o.guard with
  | none=>step C o (qF C all r K) s
  | some (g,want)=>match all[g]? with
   | none=>False
   | some og=>match og.dst with
    | none=>False
    | some tg=>match s.t tg with
     | .p (.im (.bool b))=>qn b
       (match want with
        | true=>step C o (qF C all r K) ⟨bq s.t tg (jQ true),s.h⟩
        | false=>qF C all r K ⟨f_ (bq s.t tg (jQ true)) o.dst s6,s.h⟩)
       (match want with
        | false=>step C o (qF C all r K) ⟨bq s.t tg (jQ false),s.h⟩
        | true=>qF C all r K ⟨f_ (bq s.t tg (jQ false)) o.dst s6,s.h⟩)
     | .p (.im (.tuple _))=>qF C all r K ⟨f_ s.t o.dst s6,s.h⟩
     | _=>False
variable {A:qB} {s:AS}
theorem pE{V L S:Nat->Prop}{rho:Nat->Value}{a:Act}{w:World}(z:cc A V L S rho s a w){ops:Array Oper}{g u:Nat}{D:Oper}{v:Value}(N:ops[g]?=some D)(O:D.dst=some u)(R:V u)(U:s.t u=.p (.im v)):yielded ops a.tmps g=Mq v:=by
 have I:=z.tm u R;rw[U]at I;have J:a.tmps.getD u undef=v:=I.bT;rw[ur]at J;subst J;unfold yielded Mq;rw[N];simp only[Option.bind_some,O];cases h:a.tmps[u]? with
 | none=>rfl
 | some v=>simp only[Option.getD_some];split<;>simp_all
theorem Hp(hC:bR A.C){ops:Array Oper}{Q:Exit->Act->World->Prop}{K:AS->Prop}(gy:∀s S rho a w,K s->cc A c_ c_ S rho s a w->Q .normal a w):
  ∀(l:List Oper) (k:Nat) (s:AS) (S:Nat->Prop) (rho:Nat->Value) (a:Act) (w:World),(∀j,l[j]?=ops[k+j]?)->(∀o∈l,lU o A.n)->qF A.C ops.toList l K s->cc A c_ c_ S rho s a w->wpOps A.C.P ops Q (List.range' k l.length) a w:=by
 intro l
 induction l with
 | nil=>intro k s S rho a w _ _ z u;exact gy s S rho a w z u
 | cons o l ih=>
  intro k s S rho a w U W z u;have h0:ops[k]?=some o:=by simpa using (U 0).symm
  have Y:∀j,l[j]?=ops[k+1+j]?:=fun j=>by have:=U (j+1);simpa [kP,Nat.add_comm 1 j] using this
  have Z:∀o∈l,lU o A.n:=fun o ho=>W o (by simp[ho]);have T1:=W o (by simp);rw[cH,List.range'_succ];simp only[wpOps,h0];have run:∀(s:AS),step A.C o (qF A.C ops.toList l K) s->cc A c_ c_ S rho s a w->o.wp A.C.P a w (wpOps A.C.P ops Q (List.range' (k+1) l.length)) Q:=fun s hs u=>
   Ho hC T1 u hs fun s' S' rho' a' w' hk ca=>ih (k+1) s' S' rho' a' w' Y Z hk ca
  have skip:∀(t:Nat->AV),qF A.C ops.toList l K ⟨f_ t o.dst s6,s.h⟩->cc A c_ c_ S rho ⟨t,s.h⟩ a w->wpOps A.C.P ops Q (List.range' (k+1) l.length) (a.put o.dst undef) w:=fun t hs u=>by
   have:=(u.value o.dst T1 s6 undef (.p _ _ (.im _))).s5 (V':=c_) (L':=c_) (fun _ _=>.inl trivial) (fun _=>fH);exact ih (k+1) _ S rho _ w Y Z hs this
  unfold qF at z;split at z
  ·rename_i I;rw[ae (by simp[Region.wanted,I])];exact .inl (run s z u)
  rename_i g D I;split at z
  ·exact z.elim
  rename_i og Rn;split at z
  ·exact z.elim
  rename_i tg Ro;split at z
  ·rename_i b hb;have N:=pE u (ops:=ops) (g:=g) (by simpa using Rn) Ro trivial hb;have J:∀O,b=O->bq s.t tg (jQ O)=s.t:=fun O e=>jO _ _ _ (by rw[hb,e];rfl);have R:Region.wanted o (yielded ops a.tmps)=(some b==some D):=by simp[Region.wanted,I,N,Mq]
   rw[R];cases b<;>cases D<;>simp only[qn]at z
   ·rw[J false rfl]at z;rw[ae (by decide)];exact .inl (run s z u)
   ·rw[J false rfl]at z;rw[aa (by decide)];exact skip s.t z u
   ·rw[J true rfl]at z;rw[aa (by decide)];exact skip s.t z u
   rw[J true rfl]at z;rw[ae (by decide)];exact .inl (run s z u)
  ·rename_i q hb;have N:=pE u (ops:=ops) (g:=g) (by simpa using Rn) Ro trivial hb;have R:Region.wanted o (yielded ops a.tmps)=false:=by simp[Region.wanted,I,N,Mq]
   rw[R,aa (by decide)];exact skip s.t z u
  exact z.elim
def W(A:qB)(c:Code)(K:Exit->AS->Prop)(s:AS):Prop:=
 ∀S rho a w,cc A c_ c_ S rho s a w->c.wp A.C.P (fun e a' w'=>∃S' rho' s',cc A c_ c_ S' rho' s' a' w'/\K e s') a w
theorem T2{x y:Code}{K:Exit->AS->Prop}(h:W A x (fun e u=>match e with | .normal=>W A y K u | e=>K e u) s):W A (.seq x y) K s:=by
 intro S rho a w D;refine wp_seq (wp_mono (h S rho a w D) fun e I w' J=>?_);obtain⟨S',rho',u,z,hk⟩:=J;cases e with
 | normal=>exact hk S' rho' I w' z
 | exit id=>exact⟨S',rho',u,z,hk⟩
 | goto l=>exact⟨S',rho',u,z,hk⟩
 | ret=>exact⟨S',rho',u,z,hk⟩
 | panic c=>exact⟨S',rho',u,z,hk⟩
 | outgrown=>exact⟨S',rho',u,z,hk⟩
theorem Hq{c:Code}{K z:Exit->AS->Prop}(h:W A c K s)(hk:∀e s,K e s->z e s):W A c z s:=
 fun S rho a w u=>wp_mono (h S rho a w u) fun _ _ _ ⟨S',rho',D,I,k⟩=>⟨S',rho',D,I,hk _ _ k⟩
theorem Rp{c:Operand}{x y:Code}{K:Exit->AS->Prop}{b:Bool}(hb:ev s.t c=.p (.im (.bool b)))(D:b=true->W A x K s)(I:b=false->W A y K s):W A (.cond c x y) K s:=by
 intro S rho a w u;have z:=bB u c (fun _ _=>trivial);rw[hb]at z;refine wp_cond_split z.bT (fun h=>D h S rho a w u) (fun h=>I h S rho a w u)
theorem OW{id:Nat}{c:Code}{K:Exit->AS->Prop}(h:W A c (fun e u=>match e with | .exit i=>qn (cF i id) (K .normal u) (K (.exit i) u) | e=>K e u) s):W A (.block id c) K s:=by
 intro S rho a w D;refine wp_block (wp_mono (h S rho a w D) fun e a' w' I=>?_);obtain⟨S',rho',u,z,hk⟩:=I;cases e with
 | exit i=>
  simp only[Exit.inBlock];simp only at hk;by_cases e:i=id
  ·rw[ae e];rw[bw.2 e]at hk;exact⟨S',rho',u,z,hk⟩
  rw[aa e];have:cF i id=false:=by rw[cy];intro h;exact e (bw.1 h)
  rw[this]at hk;exact⟨S',rho',u,z,hk⟩
 | normal=>exact⟨S',rho',u,z,hk⟩
 | goto l=>exact⟨S',rho',u,z,hk⟩
 | ret=>exact⟨S',rho',u,z,hk⟩
 | panic c=>exact⟨S',rho',u,z,hk⟩
 | outgrown=>exact⟨S',rho',u,z,hk⟩
def au(A:qB)(s s':AS):Prop:=∀S rho a w,cc A c_ c_ S rho s a w->∃S' rho',cc A c_ c_ S' rho' s' a w
theorem au.refl(A:qB)(s:AS):au A s s:=fun S rho _ _ h=>⟨S,rho,h⟩
theorem au.trans{z D:AS}(h:au A s z)(k:au A z D):au A s D:=fun S rho a w u=>by
 obtain⟨S',rho',I⟩:=h S rho a w u;exact k S' rho' a w I
theorem least{P:Nat->Prop}(h:∃n,P n):∃n,P n/\∀k,P k->n<=k:=by
 obtain⟨n,u⟩:=h
 induction n using Nat.strongRecOn with
 | _ n ih=>
  by_cases hk:∃k,k<n/\P k
  ·obtain⟨k,z,D⟩:=hk;exact ih k z D
  exact⟨n,u,fun k h=>Dk fun I=>hk ⟨k,I,h⟩⟩
theorem Rq{c:Code}{K:Exit->AS->Prop}{α:Type}(I:α->AS->Prop)(m:α->Nat)(h0:∃x u,au A s u/\I x u)
  (D:∀x s,I x s->W A c (fun e u=>match e with | .normal=>∃y O,au A u O/\I y O/\m y<m x | e=>K e u) s):W A (.loop c) K s:=by
 intro S rho a w U;let J:Act->World->Nat->Prop:=fun a w n=>∃x S rho s,cc A c_ c_ S rho s a w/\I x s/\m x=n;have R:∀a w,Decidable (∃n,J a w n):=fun a w=>Classical.propDecidable _;let mu:Act->World->Nat:=fun a w=>@dite _ (∃n,J a w n) (R a w) (fun h=>Classical.choose (least h)) (fun _=>0);have VA:∀a w (h:∃n,J a w n),mu a w=Classical.choose (least h):=fun a w h=>by
  show @dite _ _ (R a w) _ _=_;rw[dif_pos h]
 refine wp_loop (fun a w=>∃n,J a w n) mu ?_ ?_
 ·obtain⟨x,u,N,hi⟩:=h0;obtain⟨S',rho',z⟩:=N S rho a w U;exact⟨m x,x,S',rho',u,z,hi,rfl⟩
 intro a w hJ;obtain⟨⟨x,S1,WH,s1,wm,hi,hm⟩,_⟩:=Dl (least hJ);refine wp_mono (D x s1 hi S1 WH a w wm) fun e Y w' hq=>?_;obtain⟨S',rho',u,z,hk⟩:=hq;cases e with
 | normal=>
  obtain⟨y,O,N,Bj,gY⟩:=hk;obtain⟨Yi,Qf,Qg⟩:=N S' rho' Y w' z;have Z:∃n,J Y w' n:=⟨m y,y,Yi,Qf,O,Qg,Bj,rfl⟩;refine⟨Z,?_⟩;rw[VA a w hJ,VA Y w' Z,<-hm];exact yL ((Dl (least Z)).2 (m y) ⟨y,Yi,Qf,O,Qg,Bj,rfl⟩) gY
 | exit id=>exact⟨S',rho',u,z,hk⟩
 | goto l=>exact⟨S',rho',u,z,hk⟩
 | ret=>exact⟨S',rho',u,z,hk⟩
 | panic c=>exact⟨S',rho',u,z,hk⟩
 | outgrown=>exact⟨S',rho',u,z,hk⟩
theorem Mr(hC:bR A.C){id:Nat}{ops:Array Oper}{K:Exit->AS->Prop}(D:∀o∈ops.toList,lU o A.n)(h:qF A.C ops.toList ops.toList (K .normal) s):W A (.region id ops false) K s:=by
 intro S rho a w u;refine wp_region ?_;have:=Hp hC (ops:=ops) (Q:=fun e I w'=>∃S' rho' z,cc A c_ c_ S' rho' z I w'/\K e z) (K:=K .normal) (fun s S rho a w hk u=>⟨S,rho,s,u,hk⟩) ops.toList 0 s S rho a w (fun j=>by simp) D h u;rw[List.range_eq_range'];simpa using this
end Go.AM
namespace Go.AM
open Go.RowKit
def T3(j:Nat):Arg->AV
 | .pv x=>.p x
 | .row _ _=>.ow (100000+j)
 | .map _ _=>.ow (100000+j)
 | .box _=>.bx (100000+j) 0
 | .a7 _=>.bx (100000+j) 0
def Qh:Arg->AB
 | .pv _=>.none
 | .row e es=>.row e es
 | .map mk es=>.map mk es
 | .box cs=>.box (cs.map .p)
 | .a7 cs=>.a7 cs
def dO:List AV->List Nat
 | []=>[]
 | .ow n::r=>n::dO r
 | _::r=>dO r
def Fo(n:Nat):List Nat->Bool
 | []=>false
 | m::r=>match Nat.beq m n with
  | true=>true
  | false=>Fo n r
def fb:List Nat->Bool
 | []=>true
 | n::r=>!Fo n r&&(Nat.blt n 100000&&fb r)
def Ms:List Arg->Bool
 | []=>true
 | .a7 _::_=>false
 | _::r=>Ms r
def zF(h:Nat->AB):List AV->List HC->Prop
 | [],[]=>True
 | .p x::r,.p y::s=>x=y/\zF h r s
 | .ow n::r,.row e es::s=>h n=.row e es/\zF h r s
 | _,_=>False
theorem mV{n:Nat}{l:List Nat}:Fo n l=true↔n∈l:=by
 induction l with
 | nil=>simp[Fo]
 | cons m l ih=>
  unfold Fo;split
  ·rename_i h;have:=de h;simp[this]
  rename_i h;rw[ih];have:¬n=m:=fun e=>by rw[e]at h;simp at h
  simp[this]
theorem iU{n:Nat}:∀{l:List AV},n∈dO l↔(AV.ow n:AV)∈l
 | []=>by simp[dO]
 | x::l=>by cases x<;>simp[dO,iU (l:=l)]
theorem pF:∀{l:List AV} {i j n:Nat},fb (dO l)=true->l[i]?=some (.ow n)->l[j]?=some (.ow n)->i=j
 | [],i,j,n,_,h,_=>by simp at h
 | x::l,i,j,n,hg,h1,h2=>by
  have tail:fb (dO l)=true:=by
   cases x<;>first | exact hg | (simp[dO,fb]at hg ⊢;exact hg.2.2)
  have iM:∀k:Nat,x=AV.ow n->l[k]?=some (AV.ow n)->False:=fun k u hk=>by
   subst u;simp[dO,fb]at hg;have:Fo n (dO l)=true:=mV.2 (iU.2 (an hk));rw[hg.1]at this;cases this
  cases i with
  | zero=>
   cases j with
   | zero=>rfl
   | succ j=>simp at h1 h2;exact (iM j h1 h2).elim
  | succ i=>
   cases j with
   | zero=>simp at h1 h2;exact (iM i h2 h1).elim
   | succ j=>simp at h1 h2;rw[pF tail h1 h2]
theorem pG:∀{l:List Nat} {n:Nat},fb l=true->n∈l->n<100000
 | [],n,_,h=>by cases h
 | m::l,n,hg,h=>by
  simp[fb]at hg;rcases aE.1 h with h | h
  ·subst h;have:=hg.2.1
   first | omega | (have:=je (show Nat.ble (n+1) 100000=true from this);omega) | (simp[Nat.blt]at this;omega)
  exact pG hg.2.2 h
theorem Cp{h:Nat->AB}:∀{u:List AV} {cs:List HC},zF h u cs->u.length=cs.length
 | [],[],_=>rfl
 | [],_::_,hp=>hp.elim
 | b::u,[],hp=>by cases b<;>exact hp.elim
 | b::u,c::cs,hp=>by
  cases b<;>cases c<;>first | exact hp.elim | (have:=Cp hp.2;simp[this])
theorem Fp{h:Nat->AB}:∀{u:List AV} {cs:List HC} {j:Nat} {x:AV} {y:HC},zF h u cs->u[j]?=some x->cs[j]?=some y->(∃z,x=.p z/\y=.p z)\/∃n e es,x=.ow n/\y=.row e es/\h n=.row e es
 | [],_,j,x,y,_,h1,_=>by simp at h1
 | b::u,[],j,x,y,_,_,h2=>by simp at h2
 | b::u,c::cs,0,x,y,hp,h1,h2=>by
  simp at h1 h2;subst h1 h2;cases b<;>cases c<;>first | exact hp.elim | exact .inl ⟨_,rfl,by rw[hp.1]⟩ | exact .inr ⟨_,_,_,rfl,rfl,hp.1⟩
 | b::u,c::cs,j+1,x,y,hp,h1,h2=>by
  simp at h1 h2;have D:zF h u cs:=by cases b<;>cases c<;>first | exact hp.elim | exact hp.2
  exact Fp D h1 h2
variable {A:qB} {rho:Nat->Value} {s:AS}
theorem Fq{V L S:Nat->Prop}{a:Act}{w:World}(I:cc A V L S rho s a w){id:Nat}(hL:L id){U:List AV}{cs:List HC}(hb:s.h id=.box U)(hg:fb (dO U)=true)(hp:zF s.h U cs):
  ∃g ty c,rho id=.pointer (some ⟨g,0,none⟩)/\JV S w A.C.P cs g ty c/\∀k,hasB w (.a7 cs) (rho id) k->bY (rho id)=some k\/∃n,n∈dO U/\L n/\(s.h n).live/\bY (rho n)=some k:=by
 have hh:=I.hp id hL;rw[hb]at hh;obtain⟨g,ty,c,k1,k2,k3,k4⟩:=hh;have hl:=Cp hp;have b_:(s.h id).live:=by rw[hb];trivial
 have D:∀{j:Nat} {y:HC} {u:Value},cs[j]?=some y->c[j]?=some u->u.oneCell'=true/\P3 S w A.C.P y u/\(y.isRow->∃n,U[j]?=some (.ow n)/\L n/\u=rho n/\(s.h n).live/\n≠id):=by
  intro j y u J O;obtain⟨x,D⟩:∃x,U[j]?=some x:=⟨_,aX (by rw[hl];exact aA J)⟩;obtain⟨o1,o2⟩:=k4 j x u D O;rcases Fp hp D J with⟨z,rfl,rfl⟩ | ⟨n,e,es,rfl,rfl,N⟩
  ·exact⟨o1,o2.fK,fun h=>h.elim⟩
  obtain⟨R,rfl⟩:=o2.cW (by rw[N];trivial);have hr:=I.hp n R;rw[N]at hr;exact⟨o1,hr,fun _=>⟨n,D,R,rfl,by rw[N];trivial,fun e=>by rw[e,hb]at N;cases N⟩⟩
 have Kt:bY (rho id)=some g:=by rw[k1];rfl
 refine⟨g,ty,c,k1,⟨k2,by rw[k3,hl],fun j y u J O=>⟨(D J O).1,(D J O).2.1⟩,fun j y u b J O hy gZ e=>?_,fun i j x y u v b hi J O hv Zi Zj e1 e2=>?_⟩,fun k hk=>?_⟩
 ·obtain⟨n,_,R,rfl,Y,cU⟩:=(D J O).2.2 hy;subst e;exact cU (I.Tm n id b R hL Y b_ gZ Kt)
 ·obtain⟨n,N,R,rfl,Y,_⟩:=(D hi O).2.2 Zi;obtain⟨m,hm,Zk,rfl,Qi,_⟩:=(D J hv).2.2 Zj;have:=I.Tm n m b R Zk Y Qi e1 e2;subst this;exact pF hg N hm
 rcases hk with hk | ⟨nz,g',Z,lN,c',X6,m,j,y,u,W,q2,q3,q4,q5⟩ | ⟨_,_,_,_,_,_,Z,_⟩
 ·exact .inl hk
 ·injection Z with Z;subst Z;rw[Kt]at lN;injection lN with lN;subst lN;rw[k2]at W;injection W with W;injection W with W _ _;subst W;obtain⟨n,N,R,rfl,Y,_⟩:=(D q2 q4).2.2 q3;exact .inr ⟨n,iU.2 (an N),R,Y,q5⟩
 cases Z
def xu(args:List Arg)(j:Nat):AV:=match args[j]? with
 | some x=>T3 j x
 | none=>.junk
def oQ(args:List Arg)(j:Nat):AB:=match Nat.ble 100000 j with
 | true=>match args[j-100000]? with
  | some x=>Qh x
  | none=>.none
 | false=>.none
def Mt (a : Tmp) (t : TypeId) : Oper := { dst := none, op := .load t (.tmp a), type := t, pos := "", after := #[], guard := none }
def Qj(C:Ctx)(s:AS):ResultVar->(AV->Prop)->Prop
 | .tmp t,K=>K (s.t t)
 | .cell a t,K=>bV C (Mt a t) (ev s.t) s.h fun v _ _=>match v with
  | .p x=>K (.p x)
  | _=>False
def Hr(C:Ctx)(s:AS):List ResultVar->(List AV->Prop)->Prop
 | [],K=>K []
 | r::rs,K=>Qj C s r fun a=>Hr C s rs fun as=>K (a::as)
def Hs(h:Nat->AB):List AV->(List PV->(Nat->AB)->Prop)->Prop
 | [],K=>K [] h
 | a::r,K=>gn h a fun x fz=>Hs (app h fz) r fun xs h'=>K (x::xs) h'
def nV:AB->Nat->Bool
 | .box bs,i=>Fo i (dO bs)
 | _,_=>false
def mW(h:Nat->AB):Nat->List Arg->List Fin->Nat->Bool
 | j,.pv _::xs,fs,i=>mW h (j+1) xs fs i
 | j,_::xs,f::fs,i=>(f.kept&&(cF j i||nV (h j) i))||mW h (j+1) xs fs i
 | _,_,_,_=>false
def mj(h:Nat->AB):Nat->List Arg->List Fin->Prop
 | _,[],[]=>True
 | j,.pv _::xs,fs=>mj h (j+1) xs fs
 | j,.row _ _::xs,.gone::fs=>mj h (j+1) xs fs
 | j,.map _ _::xs,.gone::fs=>mj h (j+1) xs fs
 | j,.box _::xs,.gone::fs=>mj h (j+1) xs fs
 | j,.a7 _::xs,.gone::fs=>mj h (j+1) xs fs
 | j,.row e _::xs,.row es::fs=>h j=.row e es/\mj h (j+1) xs fs
 | j,.map mk _::xs,.map es::fs=>h j=.map mk es/\mj h (j+1) xs fs
 | j,.box _::xs,.box cs::fs=>(match h j with
  | .box bs=>eV bs=some cs
  | _=>False)/\mj h (j+1) xs fs
 | j,.a7 _::xs,.a7 cs::fs=>(match h j with
  | .a7 bs=>bs=cs
  | .box bs=>(fb (dO bs)&&Ms xs)=true/\zF h bs cs
  | _=>False)/\mj h (j+1) xs fs
 | _,_,_=>False
def Rr(C:Ctx)(rs:List ResultVar)(args:List Arg)(r:AR)(fin:List Fin)(s:AS):Prop:=
 Hr C s rs fun jz=>match r with
  | .own e es=>match jz with
   | [a]=>match a with
    | .ow i=>s.h i=.row e es/\mW s.h 100000 args fin i=false/\mj s.h 100000 args fin
    | .vw i lo hi=>match lo with
     | 0=>match s.h i with
      | .row e' xs=>match cF e' e with
       | true=>es=xs.take hi/\mW s.h 100000 args fin i=false/\mj s.h 100000 args fin
       | false=>False
      | _=>False
     | _+1=>False
    | .nl=>match C.T e with
     | some ti=>match Nat.blt 0 ti.size with
      | true=>es=[]/\mj s.h 100000 args fin
      | false=>False
     | none=>False
    | _=>False
   | _=>False
  | .hown cs=>match jz with
   | [a]=>match a with
    | .bx i off=>match off with
     | 0=>s.h i=.a7 cs/\mW s.h 100000 args fin i=false/\mj s.h 100000 args fin
     | _+1=>False
    | _=>False
   | _=>False
  | .p x=>match jz with
   | [a]=>gn s.h a fun y fz=>y=x/\mj (app s.h fz) 100000 args fin
   | _=>False
  | .tu xs=>match jz with
   | [_]=>False
   | _=>Hs s.h jz fun ys h'=>ys=xs/\mj h' 100000 args fin
def Ku(C:Ctx)(rs:List ResultVar)(args:List Arg)(r:AR)(fin:List Fin)(e:Exit)(s:AS):Prop:=match e with
 | .normal=>Rr C rs args r fin s
 | .ret=>Rr C rs args r fin s
 | _=>False
def Fs(tmps:Array Value):ResultVar->Sem Value
 | .tmp t=>pure (tmps.getD t undef)
 | .cell b t=>do loadVar t (<-asAddr (tmps.getD b undef))
theorem Kv(hC:bR A.C){S:Nat->Prop}{a:Act}{w:World}(I:cc A c_ c_ S rho s a w)(r:ResultVar){K:AV->Prop}(N:Qj A.C s r K):
  ∃av v,K av/\(Fs a.tmps r).run A.C.P w=.ok v w /\
   (∀(u:Nat->Prop) (z:Nat->AB),(∀b,S b->u b)->cc A c_ c_ u rho ⟨s.t,z⟩ a w->br u w A.C.P c_ rho z av v):=by
 cases r with
 | tmp t=>exact⟨s.t t,a.tmps.getD t undef,N,rfl,fun u z _ O=>O.tm t trivial⟩
 | cell b t=>
  obtain⟨av,v,J,z,R⟩:=E8 (o:=Mt b t) (K:=fun v _ _=>match v with | .p x=>K (.p x) | _=>False) t (.tmp b) rfl hC I (fun _ _=>trivial) N;split at J
  ·rename_i x;refine⟨_,v,J,?_,fun u xo hS O=>.p _ _ (z.fK.mono hS (fun _ _=>rfl))⟩;have D:(Instr.loadAt t (a.tmps.getD b undef)).run A.C.P w=.ok v w:=R;cases hv:a.tmps.getD b undef with
   | pointer p=>
    rw[hv]at D;cases p with
    | none=>simp[Instr.loadAt,Instr.sureAddr,stuck,Sem.run]at D
    | some U=>
     have W:(loadVar t U).run A.C.P w=.ok v w:=by simpa [Instr.loadAt,Instr.sureAddr] using D
     show (Fs a.tmps (.cell b t)).run _ _=_;unfold Fs;simp only[hv];exact W
   | _=>rw[hv]at D;simp[Instr.loadAt,Instr.sureAddr,stuck,Sem.run]at D
  exact J.elim
theorem Ht(hC:bR A.C){S:Nat->Prop}{a:Act}{w:World}(N:cc A c_ c_ S rho s a w):∀(D:List ResultVar) {K:List AV->Prop},Hr A.C s D K ->
  ∃jz vs,K jz/\jz.length=vs.length/\(D.mapM (Fs a.tmps)).run A.C.P w=.ok vs w/\vs.length=D.length /\
   (∀(I:Nat->Prop) (J:Nat->AB),(∀b,S b->I b)->cc A c_ c_ I rho ⟨s.t,J⟩ a w->∀(i:Nat) av v,jz[i]?=some av->vs[i]?=some v->br I w A.C.P c_ rho J av v):=by
 intro D
 induction D with
 | nil=>intro K z;exact⟨[],[],z,rfl,rfl,rfl,by simp⟩
 | cons r D ih=>
  intro K z;obtain⟨av,v,z,Y,J⟩:=Kv hC N r z;obtain⟨jz,vs,z,Z,h4,h5,h6⟩:=ih z;refine⟨av::jz,v::vs,z,by simp[Z],?_,by simp[h5],fun I U hS W i x u O R=>?_⟩
  ·rw[CX,bJ,Y,dm,bJ,h4];rfl
  cases i with
  | zero=>simp at O R;subst O R;exact J I U hS W
  | succ i=>exact h6 I U hS W i x u (by simpa using O) (by simpa using R)
theorem Hu(hC:bR A.C){t:Nat->AV}{a:Act}{w:World}:∀(jz:List AV) (vs:List Value) (S:Nat->Prop) (h:Nat->AB) {K:List PV->(Nat->AB)->Prop},jz.length=vs.length->cc A c_ c_ S rho ⟨t,h⟩ a w ->
  (∀(J:Nat->Prop) (W:Nat->AB),(∀b,S b->J b)->cc A c_ c_ J rho ⟨t,W⟩ a w->∀(i:Nat) av v,jz[i]?=some av->vs[i]?=some v->br J w A.C.P c_ rho W av v)->Hs h jz K ->
  ∃ys h' S',K ys h'/\cc A c_ c_ S' rho ⟨t,h'⟩ a w/\(∀b,S b->S' b)/\ys.length=vs.length/\∀(i:Nat) y v,ys[i]?=some y->vs[i]?=some v->aQ S' w y v:=by
 intro jz
 induction jz with
 | nil=>
  intro vs S h K R D _ N;have:vs=[]:=cP R.symm;subst this;exact⟨[],h,S,N,D,fun _ h=>h,rfl,by simp⟩
 | cons av jz ih=>
  intro vs S h K R D I N;cases vs with
  | nil=>simp at R
  | cons v vs=>
   obtain⟨y,fz,J,N,bD,hp,Y,_,_⟩:=iR hC D (qD.refl h) (I S h (fun _ h=>h) D 0 av v rfl rfl) N;obtain⟨ys,h',S',k1,k2,Z,k4,k5⟩:=ih vs J (app h fz) (by simpa using R) bD (fun S3 h3 hS gp i x u hx O=>I S3 h3 (fun b hb=>hS b (Y b hb)) gp (i+1) x u (by simpa using hx) (by simpa using O)) N;refine⟨y::ys,h',S',k1,k2,fun b hb=>Z b (Y b hb),by simp[k4],fun i z u U O=>?_⟩;cases i with
   | zero=>simp at U O;subst U O;exact hp.mono Z (fun _ _=>rfl)
   | succ i=>exact k5 i z u (by simpa using U) (by simpa using O)
theorem rW{h:Nat->AB}{j:Nat}{x:Arg}{xs:List Arg}{f:Fin}{z:List Fin}(D:x.handed=true)(u:mj h j (x::xs) (f::z)):mj h (j+1) xs z:=by
 cases x<;>cases f<;>first | (cases D;done) | exact u.elim | exact u.2 | exact u
def Cq(h:Nat->AB)(j id:Nat):Prop:=id=j\/nV (h j) id=true
theorem Mu{S:Nat->Prop}{t:Nat->AV}{h:Nat->AB}{a:Act}{w:World}(D:cc A c_ c_ S rho ⟨t,h⟩ a w):∀(args:List Arg) (fin:List Fin) (vs:List Value) (j:Nat),args.length=vs.length->(∀i v,vs[i]?=some v->(∃x,args[i]?=some x/\x.handed=true)->v=rho (j+i))->mj h j args fin ->
  fx S w A.C.P args fin vs/\∀i g,dG w args fin vs i g->∃id,Cq h (j+i) id/\(h id).live/\hasB w (h id) (rho id) g/\mW h j args fin id=true:=by
 intro args
 induction args with
 | nil=>intro fin vs j hl _ z;have:vs=[]:=cP hl.symm;subst this;cases fin with | nil=>exact⟨trivial,fun i g h=>h.elim⟩ | cons f fin=>exact z.elim
 | cons x args ih=>
  intro fin vs j hl hv z;cases vs with
  | nil=>simp at hl
  | cons v vs=>
   have TZ:args.length=vs.length:=by simpa using hl
   have C7:∀i v,vs[i]?=some v->(∃x,args[i]?=some x/\x.handed=true)->v=rho (j+1+i):=fun i u h1 ⟨y,h2,h3⟩=>by
    have:=hv (i+1) u (by simpa using h1) ⟨y,by simpa using h2,h3⟩;rw[this];congr 1;omega
   cases hx:x.handed with
   | false=>
    cases x with
    | pv y=>
     obtain⟨r1,r2⟩:=ih fin vs (j+1) TZ C7 z;refine⟨r1,fun i g O=>?_⟩;cases i with
     | zero=>exact O.elim
     | succ i=>
      obtain⟨id,R,q2,q3,q4⟩:=r2 i g O;exact⟨id,by rw[show j+(i+1)=j+1+i by omega];exact R,q2,q3,q4⟩
    | row=>cases hx
    | map=>cases hx
    | box=>cases hx
    | a7=>cases hx
   | true=>
    have Yj:v=rho j:=hv 0 v rfl ⟨_,rfl,hx⟩;cases fin with
    | nil=>cases x<;>first | (cases hx;done) | exact z.elim
    | cons f fin=>
     obtain⟨r1,r2⟩:=ih fin vs (j+1) TZ C7 (rW hx z);have mk:pr S w A.C.P x f v->(∀g,f.kept=true->hasB w (QP f) v g->∃id,Cq h j id/\(h id).live/\hasB w (h id) (rho id) g)->fx S w A.C.P (x::args) (f::fin) (v::vs)/\∀i g,dG w (x::args) (f::fin) (v::vs) i g->∃id,Cq h (j+i) id/\(h id).live/\hasB w (h id) (rho id) g/\mW h j (x::args) (f::fin) id=true:=by
      intro m1 m2;refine⟨by cases x<;>first | (cases hx;done) | exact⟨m1,r1⟩,fun i g O=>?_⟩;cases i with
      | zero=>
       obtain⟨g1,g2⟩:f.kept=true/\hasB w (QP f) v g:=by cases x<;>first | (cases hx;done) | exact O
       obtain⟨id,R,q2,q3⟩:=m2 g g1 g2;refine⟨id,R,q2,q3,?_⟩;have:(cF j id||nV (h j) id)=true:=by
        rcases R with R | R
        ·rw[R,bw.2 rfl];rfl
        rw[R];simp
       cases x<;>first | (cases hx;done) | (simp only[mW,g1,this,fu,Bool.true_or])
      | succ i=>
       have lN:dG w args fin vs i g:=by cases x<;>first | (cases hx;done) | exact O
       obtain⟨id,R,q2,q3,q4⟩:=r2 i g lN;refine⟨id,by rw[show j+(i+1)=j+1+i by omega];exact R,q2,q3,?_⟩;cases x<;>first | (cases hx;done) | (simp only[mW,q4,pB])
     refine mk ?_ ?_
     ·rw[Yj];cases x with
      | pv y=>cases hx
      | row e es=>
       cases f with
       | gone=>trivial
       | row J=>
        have N:=D.hp j trivial;have N:fU S w A.C.P c_ rho h j (h j):=N;rw[z.1]at N;exact⟨N,fun g O=>(D.qk j g trivial (by show (h j).live;rw[z.1];trivial) O).2.1⟩
       | map J=>exact z.elim
       | box cs=>exact z.elim
       | a7 cs=>exact z.elim
      | map mk es=>
       cases f with
       | gone=>trivial
       | map J=>
        have N:=D.hp j trivial;have N:fU S w A.C.P c_ rho h j (h j):=N;rw[z.1]at N;exact⟨N,fun g O=>(D.qk j g trivial (by show (h j).live;rw[z.1];trivial) O).2.1⟩
       | row J=>exact z.elim
       | box cs=>exact z.elim
       | a7 cs=>exact z.elim
      | box ys=>
       cases f with
       | gone=>trivial
       | row J=>exact z.elim
       | map J=>exact z.elim
       | a7 J=>exact z.elim
       | box cs=>
        obtain⟨I,wh⟩:=z;split at I
        ·rename_i W hb;have N:=D.hp j trivial;have N:fU S w A.C.P c_ rho h j (h j):=N;rw[hb]at N;obtain⟨g,Y,c,U,Z,k3,k4⟩:=N;obtain⟨k5,k6⟩:=iy I;refine⟨g,Y,c,U,Z,by rw[k3,k5],(D.qk j g trivial (by show (h j).live;rw[hb];trivial) (by rw[U];rfl)).2.1,fun i x u hi hu=>?_⟩;obtain⟨y,hy⟩:∃y,W[i]?=some y:=⟨_,aX (by rw[k5];exact aA hi)⟩;obtain⟨k7,k8⟩:=k4 i y u hy hu;exact⟨k7,k8.yI (k6 i y x hy hi)⟩
        exact I.elim
      | a7 ys=>
       cases f with
       | gone=>trivial
       | row J=>exact z.elim
       | map J=>exact z.elim
       | box J=>exact z.elim
       | a7 cs=>
        obtain⟨I,wh⟩:=z;split at I
        ·rename_i W hb;subst I;have N:=D.hp j trivial;have N:fU S w A.C.P c_ rho h j (h j):=N;rw[hb]at N;obtain⟨g,Y,c,U,Z⟩:=N;exact⟨g,Y,c,U,Z,fun k hk=>(D.lv j k trivial (by show (h j).live;rw[hb];trivial) (by show hasB w (h j) _ _;rw[hb];exact hk)).2.1⟩
        ·rename_i W hb;simp only[aK]at I;obtain⟨g,Y,c,U,Z,k3⟩:=Fq D (id:=j) trivial hb I.1.1 I.2;refine⟨g,Y,c,U,Z,fun k hk=>?_⟩;rcases k3 k hk with hk | ⟨n,_,hn,OX,hk⟩
         ·exact (D.qk j k trivial (by show (h j).live;rw[hb];trivial) hk).2.1
         exact (D.qk n k hn OX hk).2.1
        exact I.elim
     intro g hf O;rw[Yj]at O;cases x with
     | pv y=>cases hx
     | row e es=>
      cases f with
      | gone=>cases hf
      | row J=>exact⟨j,.inl rfl,by rw[z.1];trivial,.inl (aD rfl O)⟩
      | map J=>exact z.elim
      | box cs=>exact z.elim
      | a7 cs=>exact z.elim
     | map mk es=>
      cases f with
      | gone=>cases hf
      | map J=>exact⟨j,.inl rfl,by rw[z.1];trivial,.inl (aD rfl O)⟩
      | row J=>exact z.elim
      | box cs=>exact z.elim
      | a7 cs=>exact z.elim
     | box ys=>
      cases f with
      | gone=>cases hf
      | row J=>exact z.elim
      | map J=>exact z.elim
      | a7 J=>exact z.elim
      | box cs=>
       obtain⟨I,wh⟩:=z;split at I
       ·rename_i W hb;exact⟨j,.inl rfl,by rw[hb];trivial,.inl (aD rfl O)⟩
       exact I.elim
     | a7 ys=>
      cases f with
      | gone=>cases hf
      | row J=>exact z.elim
      | map J=>exact z.elim
      | box J=>exact z.elim
      | a7 cs=>
       obtain⟨I,wh⟩:=z;split at I
       ·rename_i W hb;subst I;exact⟨j,.inl rfl,by rw[hb];trivial,by rw[hb];exact O⟩
       ·rename_i W hb;simp only[aK]at I;obtain⟨g',Y,c,U,Z,k3⟩:=Fq D (id:=j) trivial hb I.1.1 I.2;rcases k3 g O with hk | ⟨n,hm,hn,OX,hk⟩
        ·exact⟨j,.inl rfl,by rw[hb];trivial,.inl hk⟩
        exact⟨n,.inr (by rw[hb];exact mV.2 hm),OX,.inl hk⟩
       exact I.elim
theorem Kw{h:Nat->AB}:∀(args:List Arg) (fin:List Fin) (w:World) (vs:List Value) (u:Nat),100000<=u->mj h u args fin->∀i k id g,dG w args fin vs i g->dG w args fin vs k g->Cq h (u+i) id->Cq h (u+k) id->i=k:=by
 have D:∀(args:List Arg) (fin:List Fin) (w:World) (vs:List Value) (u:Nat),mj h u args fin->∀i g id,dG w args fin vs i g->nV (h (u+i)) id=true->id<100000/\Ms args=false/\(∀m,i=m+1->∀x xs,args=x::xs->Ms xs=false):=by
  intro args
  induction args with
  | nil=>intro fin w vs u _ i g id I;exact I.elim
  | cons x args ih=>
   intro fin w vs u z i g id I hi;cases vs with
   | nil=>cases fin<;>exact I.elim
   | cons v vs=>
    cases hx:x.handed with
    | false=>
     cases x with
     | pv y=>
      cases i with
      | zero=>exact I.elim
      | succ i=>
       obtain⟨h1,R,_⟩:=ih fin w vs (u+1) z i g id I (by rw[show u+1+i=u+(i+1) by omega];exact hi);exact⟨h1,R,fun m hm x xs U=>by injection U with _ U;rw[<-U];exact R⟩
     | row=>cases hx
     | map=>cases hx
     | box=>cases hx
     | a7=>cases hx
    | true=>
     cases fin with
     | nil=>cases x<;>first | (cases hx;done) | exact I.elim
     | cons f fin=>
      cases i with
      | succ i=>
       have lN:dG w args fin vs i g:=by cases x<;>first | (cases hx;done) | exact I
       obtain⟨h1,R,_⟩:=ih fin w vs (u+1) (rW hx z) i g id lN (by rw[show u+1+i=u+(i+1) by omega];exact hi);exact⟨h1,by cases x<;>first | exact R | rfl,fun m hm x xs U=>by injection U with _ U;rw[<-U];exact R⟩
      | zero=>
       have O:f.kept=true:=by cases x<;>first | (cases hx;done) | exact I.1
       have hi:nV (h u) id=true:=hi;cases x with
       | pv y=>cases hx
       | row e es=>cases f<;>first | (cases O;done) | exact z.elim | (rw[z.1]at hi;cases hi)
       | map mk es=>cases f<;>first | (cases O;done) | exact z.elim | (rw[z.1]at hi;cases hi)
       | box ys=>
        cases f with
        | gone=>cases O
        | row N=>exact z.elim
        | map N=>exact z.elim
        | a7 N=>exact z.elim
        | box cs=>
         obtain⟨J,wh⟩:=z;split at J
         ·rename_i bs hb;rw[hb]at hi;obtain⟨k5,k6⟩:=iy J;obtain⟨n,hn⟩:=cI.1 (iU.1 (mV.1 hi));obtain⟨y,hy⟩:∃y,cs[n]?=some y:=⟨_,aX (by rw[<-k5];exact aA hn)⟩;have:=k6 n _ y hn hy;rcases this with h | h
          ·cases h
          cases h.1
         exact J.elim
       | a7 ys=>
        cases f with
        | gone=>cases O
        | row N=>exact z.elim
        | map N=>exact z.elim
        | box N=>exact z.elim
        | a7 cs=>
         obtain⟨J,wh⟩:=z;split at J
         ·rename_i bs hb;rw[hb]at hi;cases hi
         ·rename_i bs hb;rw[hb]at hi;simp only[aK]at J;exact⟨pG J.1.1 (mV.1 hi),rfl,fun m hm=>by omega⟩
         exact J.elim
 have later:∀(args:List Arg) (fin:List Fin) (w:World) (vs:List Value) (u:Nat),mj h u args fin->∀i k g W id,dG w args fin vs i g->dG w args fin vs k W->nV (h (u+i)) id=true->nV (h (u+k)) id=true->i<k->False:=by
  intro args
  induction args with
  | nil=>intro fin w vs u _ i k g W id I;exact I.elim
  | cons x args ih=>
   intro fin w vs u z i k g W id I lN hi hk gY;cases vs with
   | nil=>cases fin<;>exact I.elim
   | cons v vs=>
    obtain⟨k,rfl⟩:∃m,k=m+1:=⟨k-1,by omega⟩;cases hx:x.handed with
    | false=>
     cases x with
     | pv y=>
      cases i with
      | zero=>exact I.elim
      | succ i=>exact ih fin w vs (u+1) z i k g W id I lN (by rw[show u+1+i=u+(i+1) by omega];exact hi) (by rw[show u+1+k=u+(k+1) by omega];exact hk) (by omega)
     | row=>cases hx
     | map=>cases hx
     | box=>cases hx
     | a7=>cases hx
    | true=>
     cases fin with
     | nil=>cases x<;>first | (cases hx;done) | exact I.elim
     | cons f fin=>
      have Bn:dG w args fin vs k W:=by cases x<;>first | (cases hx;done) | exact lN
      cases i with
      | succ i=>
       have Zl:dG w args fin vs i g:=by cases x<;>first | (cases hx;done) | exact I
       exact ih fin w vs (u+1) (rW hx z) i k g W id Zl Bn (by rw[show u+1+i=u+(i+1) by omega];exact hi) (by rw[show u+1+k=u+(k+1) by omega];exact hk) (by omega)
      | zero=>
       have R:=(D args fin w vs (u+1) (rW hx z) k W id Bn (by rw[show u+1+k=u+(k+1) by omega];exact hk)).2.1;have O:f.kept=true:=by cases x<;>first | (cases hx;done) | exact I.1
       have hi:nV (h u) id=true:=hi;have h3:=D (x::args) (f::fin) w (v::vs) u z 0 g id I hi;cases x with
       | pv y=>cases hx
       | row e es=>cases f<;>first | (cases O;done) | exact z.elim | (rw[z.1]at hi;cases hi)
       | map mk es=>cases f<;>first | (cases O;done) | exact z.elim | (rw[z.1]at hi;cases hi)
       | box ys=>exact (by
         have:Ms (.box ys::args)=false:=h3.2.1;cases f with
         | gone=>cases O
         | row N=>exact z.elim
         | map N=>exact z.elim
         | a7 N=>exact z.elim
         | box cs=>
          obtain⟨J,wh⟩:=z;split at J
          ·rename_i bs hb;rw[hb]at hi;obtain⟨k5,k6⟩:=iy J;obtain⟨n,hn⟩:=cI.1 (iU.1 (mV.1 hi));obtain⟨y,hy⟩:∃y,cs[n]?=some y:=⟨_,aX (by rw[<-k5];exact aA hn)⟩;rcases k6 n _ y hn hy with h | h
           ·cases h
           cases h.1
          exact J.elim)
       | a7 ys=>
        cases f with
        | gone=>cases O
        | row N=>exact z.elim
        | map N=>exact z.elim
        | box N=>exact z.elim
        | a7 cs=>
         obtain⟨J,wh⟩:=z;split at J
         ·rename_i bs hb;rw[hb]at hi;cases hi
         ·rename_i bs hb;simp only[aK]at J;rw[J.1.2]at R;cases R
         exact J.elim
 intro args fin w vs u hj z i k id g hi hk Y Z;rcases Y with Y | Y<;>rcases Z with Z | Z
 ·omega
 ·have:=(D args fin w vs u z k g id hk Z).1;omega
 ·have:=(D args fin w vs u z i g id hi Y).1;omega
 rcases jP i k with h | h | h
 ·exact (later args fin w vs u z i k g g id hi hk Y Z h).elim
 ·exact h
 exact (later args fin w vs u z k i g g id hk hi Z Y h).elim
theorem aC.front{P:Program}{S:Nat->Prop}{w:World}{e:TypeId}{xs:List (List PV)}{v u:Value}{a:Option Addr}{n c hi:Nat}(h:aC P w (aQ S w) e xs v)(D:v=.slice a n c)(O:hi<=n)(U:u=.slice a hi c):aC P w (aQ S w) e (xs.take hi) u:=by
 obtain⟨i,ys,W,Y,I,Z,h5,h6⟩:=h;have hF:Flat S w i.size xs ys:=⟨I.1,Z,h5,h6⟩;have Kx:n=xs.length:=by
  rcases I.2 with⟨z,J⟩ | ⟨g,cap,cur,z,_⟩
  ·rw[D]at z;injection z with _ z _;omega
  rw[D]at z;injection z
 subst Kx;have R:=hF.take hi O;have hl:(xs.take hi).length=hi:=by rw[aV];omega
 refine aC.of_flat W Y ?_ R;refine⟨R.len,?_⟩;rw[hl,U];rcases I.2 with⟨z,J⟩ | ⟨g,cap,cur,z,J,N,g4,g5,g6,g7⟩
 ·rw[D]at z;injection z with z _ N;exact .inl ⟨by rw[z,N];congr 1;omega,by omega⟩
 rw[D]at z;injection z with z _ g8;refine .inr ⟨g,cap,cur,by rw[z,g8],J,N,by omega,g5,g6,?_⟩;rw[<-g7,po,gx (a8 _ O)]
theorem zG(args:List Arg)(j:Nat):oQ args (100000+j)=match args[j]? with
  | some x=>Qh x
  | none=>.none:=by
 have u:Nat.ble 100000 (100000+j)=true:=Nat.ble_eq_true_of_le (by omega);have z:100000+j-100000=j:=by omega
 simp only[oQ,u,z]
theorem Ft(args:List Arg)(k:Nat)(h:k<100000):oQ args k=.none:=by
 have u:Nat.ble 100000 k=false:=by
  rw[cy];intro z;have:=je z;omega
 simp only[oQ,u]
theorem Mw{C:Ctx}{S:Nat->Prop}{w:World}{args:List Arg}{vs:Array Value}(m:Nat)(hm:vs.size+m<=100000)(hE:C.E S w)(hS:∀b,S b->b<w.heap.size)(hl:args.length=vs.size)(O:∀(j:Nat) x v,args[j]?=some x->vs[j]?=some v->G2 S w C.P x v)
  (hdis:∀(i j:Nat) x y v u g,args[i]?=some x->args[j]?=some y->vs[i]?=some v->vs[j]?=some u->x.handed=true->y.handed=true->hasB w (C5 x) v g->hasB w (C5 y) u g->i=j):
  cc ⟨C,w,Mv w args vs,S,vs.size+m,fun k=>vs.getD (k-100000) undef⟩ c_ c_ S (fun k=>vs.getD (k-100000) undef) ⟨xu args,oQ args⟩ { tmps:=vs++Array.replicate m undef,defers:=[] } w:=by
 have Dd:∀j v,vs[j]?=some v->vs.getD j undef=v:=fun j v h=>by rw[ur,h];rfl
 have R:∀j,vs.getD (100000+j-100000) undef=vs.getD j undef:=fun j=>by rw[yM]
 have W:∀j x,args[j]?=some x->∃v,vs[j]?=some v/\vs.getD j undef=v:=fun j x h=>by
  obtain⟨v,hv⟩:=ky hl (aA h);exact⟨v,hv,Dd j v hv⟩
 have live:∀k,(oQ args k).live->∃j x v,k=100000+j/\args[j]?=some x/\vs[j]?=some v/\vs.getD (k-100000) undef=v/\x.handed=true:=by
  intro k hk;by_cases gY:k<100000
  ·rw[Ft _ _ gY]at hk;exact hk.elim
  obtain⟨j,rfl⟩:∃j,k=100000+j:=⟨k-100000,by omega⟩;rw[zG]at hk;cases h:args[j]? with
  | none=>rw[h]at hk;exact hk.elim
  | some x=>
   rw[h]at hk;obtain⟨v,J,I⟩:=W j x h;refine⟨j,x,v,rfl,h,J,by rw[R];exact I,?_⟩;cases x with
   | pv y=>exact hk.elim
   | row=>rfl
   | map=>rfl
   | box=>rfl
   | a7=>rfl
 have WK:∀(j:Nat) (x:Arg) (v:Value) (g:Nat),args[j]?=some x->vs[j]?=some v->x.handed=true->hasB w (C5 x) v g->g<w.heap.size/\¬S g:=by
  intro j x v g J I Y D;have:=O j x v J I;cases x with
  | pv y=>cases Y
  | map mk es=>
   have D:=aD rfl D;obtain⟨⟨g',ms,cl,rfl,k2,_⟩,hn⟩:=this;have EZ:=D;injection D with D;subst D;exact⟨(dq.1 k2).1,hn _ EZ⟩
  | row e es=>
   have D:=aD rfl D;obtain⟨⟨i,xs,_,_,ho,_⟩,hn⟩:=this;exact⟨(ho.lt g (by rw[fM (er ho).choose_spec.choose_spec];exact D)).2,hn g D⟩
  | box cs=>
   have D:=aD rfl D;obtain⟨g',Z,c,rfl,k2,_,k4,_⟩:=this;injection D with D;subst D;exact⟨(dq.1 k2).1,k4⟩
  | a7 cs=>
   obtain⟨g',Z,c,_,_,k⟩:=this;exact⟨(k g D).2,(k g D).1⟩
 have wo:∀(j:Nat) (x:Arg) (v:Value) (g:Nat),args[j]?=some x->x.handed=true->(hasB w (oQ args (100000+j)) v g↔hasB w (C5 x) v g):=by
  intro j x v g J I;rw[zG,J];cases x with
  | pv y=>cases I
  | row e es=>exact⟨fun h=>.inl (aD rfl h),fun h=>.inl (aD rfl h)⟩
  | map mk es=>exact⟨fun h=>.inl (aD rfl h),fun h=>.inl (aD rfl h)⟩
  | box cs=>exact⟨fun h=>.inl (aD rfl h),fun h=>.inl (aD rfl h)⟩
  | a7 cs=>exact fH
 exact
 {tm:=fun j _=>by
   show br _ _ _ _ _ _ (xu args j) ((vs++Array.replicate m undef).getD j undef);unfold xu;cases h:args[j]? with
   | none=>exact .junk _
   | some x=>
    obtain⟨v,J,I⟩:=W j x h;have hj:j<vs.size:=by rw[<-hl];exact aA h
    have Y:(vs++Array.replicate m undef).getD j undef=v:=by
     rw[ur,I2 hj,J];rfl
    rw[Y];have U:=O j x v h J;cases x with
    | pv y=>exact .p _ _ U
    | row e es=>exact .ow _ v fun _=>⟨trivial,by rw[R];exact I.symm⟩
    | map mk es=>exact .ow _ v fun _=>⟨trivial,by rw[R];exact I.symm⟩
    | box cs=>
     obtain⟨g,Z,c,N,_⟩:=U;exact .bx _ 0 v fun _=>⟨trivial,g,by rw[R,I];exact N,N⟩
    | a7 cs=>
     obtain⟨g,Z,c,N,_⟩:=U;exact .bx _ 0 v fun _=>⟨trivial,g,by rw[R,I];exact N,N⟩
  sz:=by simp
  df:=rfl,nb:=hm,pn:=fun _ _=>rfl,ev:=hE,s0:=fun _ h=>h,st:=hS,sb:=fun b h=>.inl h
  hp:=fun k _=>by
   show fU _ _ _ _ _ _ k (oQ args k);by_cases gY:k<100000
   ·rw[Ft _ _ gY];trivial
   obtain⟨j,rfl⟩:∃j,k=100000+j:=⟨k-100000,by omega⟩;rw[zG];cases h:args[j]? with
   | none=>trivial
   | some x=>
    obtain⟨v,J,I⟩:=W j x h;have U:=O j x v h J;cases x with
    | pv y=>trivial
    | row e es=>show aC _ _ _ _ _ (vs.getD (100000+j-100000) undef);rw[R,I];exact U.1
    | map mk es=>show C4 _ _ _ _ (vs.getD (100000+j-100000) undef);rw[R,I];exact U.1
    | box cs=>
     obtain⟨g,Z,c,N,e2,e3,e4,e5⟩:=U;refine⟨g,Z,c,by simp only;rw[R,I];exact N,e2,by simpa using e3,fun i x u hi hu=>?_⟩;rw[aB]at hi;obtain⟨z,hz,rfl⟩:=aT.1 hi;exact⟨(e5 i z u hz hu).1,.p _ _ (e5 i z u hz hu).2⟩
    | a7 cs=>
     obtain⟨g,Z,c,N,e2,_⟩:=U;exact⟨g,Z,c,by simp only;rw[R,I];exact N,e2⟩
  dj:=fun i j g _ _ li lj hi hj=>by
   obtain⟨i',x,v,N,J,I,Y,D⟩:=live i li;obtain⟨j',y,u,e2,k1,k2,k3,k4⟩:=live j lj;have:=hdis i' j' x y v u g J k1 I k2 D k4 (by rw[<-wo i' x v g J D,<-N,<-Y];exact hi) (by rw[<-wo j' y u g k1 k4,<-e2,<-k3];exact hj);omega
  lv:=fun k g _ lk hk=>by
   obtain⟨j,x,v,N,J,I,Y,D⟩:=live k lk;have J1:hasB w (C5 x) v g:=by rw[<-wo j x v g J D,<-N,<-Y];exact hk
   obtain⟨h5,h6⟩:=WK j x v g J I D J1;exact⟨h5,h6,.inl ⟨j,x,v,J,I,D,J1⟩⟩
  fr:=Fr.refl _ _ }
theorem Fu{P:Program}{fn:Func}{tmps:Array Value}{w:World}{vs:List Value}(h:(fn.results.toList.mapM (Fs tmps)).run P w=.ok vs w):
  (results fn tmps).run P w=.ok (if h:vs.toArray.size=1 then vs.toArray[0] else .tuple vs.toArray) w:=by
 have e:results fn tmps=(do let vs <-fn.results.mapM (Fs tmps);pure (if h:vs.size=1 then vs[0] else .tuple vs)):=by
  unfold results Fs;rfl
 rw[e,<-gw (xs:=fn.results),List.mapM_toArray,bJ];have:(Functor.map List.toArray (fn.results.toList.mapM (Fs tmps))).run P w=.ok vs.toArray w:=by
  rw[map_eq_pure_bind,bJ,h];rfl
 rw[this];rfl
theorem Rs {C : Ctx} (hC : bR C) {f : FuncId} {fn : Func} {c : Code} (hf : C.P.funcs[f]? = some fn) (hb : fn.body = some c) (xv : (fn.name == "runtime.NumGoroutine") = false) {args : List Arg} {r : AR} {fin : List Fin} (hn : args.length + (fn.ntmps - args.length) ≤ 100000)
  (h:∀A:qB,A.C=C->A.n=args.length+(fn.ntmps-args.length)->W A c (Ku C fn.results.toList args r fin) ⟨xu args,oQ args⟩):af C f args r fin:=by
 refine⟨⟨fn,hf,xv,by rw[hb];rfl⟩,fun S w vs hE hS hl hrep hdis=>?_⟩;have sim:=Mw (fn.ntmps-vs.size) (by rw[<-hl];exact hn) hE hS hl hrep hdis;refine calls_of_wp hf hb ?_;have hw:=h ⟨C,w,Mv w args vs,S,vs.size+(fn.ntmps-vs.size),fun k=>vs.getD (k-100000) undef⟩ rfl (by rw[hl]);refine wp_mono (hw S _ _ w sim) fun e a' w' hq=>?_;obtain⟨S',rho',s',ca,hk⟩:=hq;have Md:Rr C fn.results.toList args r fin s'->a'.defers=[]/\∃v,(results fn a'.tmps).run C.P w'=.ok v w'/\∃v0 S',Ending.returned v=.returned v0/\Fr (Mv w args vs) w w'/\(∀b,S b->S' b)/\(∀b,S' b->b<w'.heap.size)/\(∀b,S' b->S b\/w.heap.size<=b\/Mv w args vs b)/\
   LB S' w' C.P r v0/\fx S' w' C.P args fin vs.toList/\uy w w' args fin vs/\(∀g,r.owns=true->hasB w' r.ab v0 g->g<w'.heap.size/\(w.heap.size<=g\/Mv w args vs g)/\∀i,¬dG w' args fin vs.toList i g):=by
  intro hk;refine⟨ca.df,?_⟩;obtain⟨jz,us,hk,h1,h2,h3,h4⟩:=Ht (A:=⟨C,w,Mv w args vs,S,vs.size+(fn.ntmps-vs.size),fun k=>vs.getD (k-100000) undef⟩) hC ca fn.results.toList hk;have hrun:=Fu h2;have ye:args.length=vs.toList.length:=by simpa using hl
  have WL:∀(S2:Nat->Prop) (h2:Nat->AB),cc ⟨C,w,Mv w args vs,S,vs.size+(fn.ntmps-vs.size),fun k=>vs.getD (k-100000) undef⟩ c_ c_ S2 rho' ⟨s'.t,h2⟩ a' w'->∀i u,vs.toList[i]?=some u->(∃x,args[i]?=some x/\x.handed=true)->u=rho' (100000+i):=fun S2 h2 bD i u hu _=>by
   rw[bD.pn (100000+i) (by omega)];have tK:vs[i]?=some u:=by simpa using hu
   show u=vs.getD (100000+i-100000) undef;rw[yM,ur,tK];rfl
  have fk:∀(S2:Nat->Prop) (h2:Nat->AB),cc ⟨C,w,Mv w args vs,S,vs.size+(fn.ntmps-vs.size),fun k=>vs.getD (k-100000) undef⟩ c_ c_ S2 rho' ⟨s'.t,h2⟩ a' w'->mj h2 100000 args fin->fx S2 w' C.P args fin vs.toList/\(∀i g,dG w' args fin vs.toList i g->∃id,Cq h2 (100000+i) id/\(h2 id).live/\hasB w' (h2 id) (rho' id) g/\mW h2 100000 args fin id=true)/\uy w w' args fin vs:=by
   intro S2 h2 bD gy;obtain⟨r1,r2⟩:=Mu bD args fin vs.toList 100000 ye (WL S2 h2 bD) gy;refine⟨r1,r2,fun i g hg=>?_,fun i j g hi hj=>?_⟩
   ·obtain⟨id,_,q2,q3,_⟩:=r2 i g hg;obtain⟨p1,_,p3⟩:=bD.lv id g trivial q2 q3;exact⟨p1,p3.symm⟩
   obtain⟨id,q1,q2,q3,_⟩:=r2 i g hi;obtain⟨Bl,p1,p2,p3,_⟩:=r2 j g hj;have:=bD.dj id Bl g trivial trivial q2 p2 q3 p3;subst this;exact Kw args fin w' vs.toList 100000 (aF _) gy i j id g hi hj q1 p1
  have outer:∀(S2:Nat->Prop) (h2:Nat->AB) (v:Value),cc ⟨C,w,Mv w args vs,S,vs.size+(fn.ntmps-vs.size),fun k=>vs.getD (k-100000) undef⟩ c_ c_ S2 rho' ⟨s'.t,h2⟩ a' w'->(results fn a'.tmps).run C.P w'=.ok v w'->LB S2 w' C.P r v->mj h2 100000 args fin->(∀g,r.owns=true->hasB w' r.ab v g->g<w'.heap.size/\(w.heap.size<=g\/Mv w args vs g)/\∀i,¬dG w' args fin vs.toList i g)->
    ∃v,(results fn a'.tmps).run C.P w'=.ok v w'/\∃v0 S',Ending.returned v=.returned v0/\Fr (Mv w args vs) w w'/\(∀b,S b->S' b)/\(∀b,S' b->b<w'.heap.size)/\(∀b,S' b->S b\/w.heap.size<=b\/Mv w args vs b)/\
   LB S' w' C.P r v0/\fx S' w' C.P args fin vs.toList/\uy w w' args fin vs/\(∀g,r.owns=true->hasB w' r.ab v0 g->g<w'.heap.size/\(w.heap.size<=g\/Mv w args vs g)/\∀i,¬dG w' args fin vs.toList i g):=by
   intro S2 h2 v bD hr T4 gy hown;refine⟨v,hr,v,S2,rfl,bD.fr,bD.s0,bD.st,fun b hb=>?_,T4,(fk S2 h2 bD gy).1,(fk S2 h2 bD gy).2.2,hown⟩;rcases bD.sb b hb with h | h | h
   ·exact .inl h
   ·exact .inr (.inr h)
   exact .inr (.inl h)
  cases r with
  | own e es=>
   simp only at hk;split at hk
   ·rename_i av;obtain⟨u,rfl⟩:∃u,us=[u]:=by
     match us,h1 with
     | [u],_=>exact⟨u,rfl⟩
    have zH:(results fn a'.tmps).run C.P w'=.ok u w':=hrun;split at hk
    ·rename_i i;obtain⟨k1,k2,k3⟩:=hk;have hu:=h4 S' s'.h (fun _ h=>h) ca 0 _ u rfl rfl;obtain⟨_,hv⟩:=hu.cW (by rw[k1];trivial);have hh:=ca.hp i trivial;rw[k1]at hh;have b_:(s'.h i).live:=by rw[k1];trivial
     refine outer S' s'.h u ca zH ⟨by rw[hv];exact hh,fun g hg=>(ca.qk i g trivial b_ (by rw[<-hv];exact hg)).2.1⟩ k3 fun g _ T5=>?_;have hg:bY u=some g:=aD rfl T5;have lN:bY (rho' i)=some g:=by rw[<-hv];exact hg
     obtain⟨l1,l2,l3⟩:=ca.qk i g trivial b_ lN;refine⟨l1,l3.symm,fun n T6=>?_⟩;obtain⟨i',_,m1,m2,m3⟩:=(fk S' s'.h ca k3).2.1 n g T6;have:=ca.dj i i' g trivial trivial b_ m1 (.inl lN) m2;subst this;rw[k2]at m3;cases m3
    ·rename_i i lo hi;have Zm:lo=0/\∃xs,s'.h i=.row e xs/\es=xs.take hi/\mW s'.h 100000 args fin i=false/\mj s'.h 100000 args fin:=by
      cases lo with
      | succ n=>exact hk.elim
      | zero=>
       cases hr:s'.h i with
       | row e' xs=>
        rw[hr]at hk;simp only at hk;split at hk
        ·rename_i yf;rw[bw.1 yf];exact⟨rfl,xs,rfl,hk⟩
        exact hk.elim
       | _=>rw[hr]at hk;exact hk.elim
     obtain⟨rfl,xs,ay,k1,k2,k3⟩:=Zm;have hu:=h4 S' s'.h (fun _ h=>h) ca 0 _ u rfl rfl;obtain⟨_,n,cp,ad,ti,q1,q2,_,q3,q4,hv⟩:=hu.Da ay;have hh:=ca.hp i trivial;rw[ay]at hh;have hh:aC C.P w' (aQ S' w') e xs (rho' i):=hh;have b_:(s'.h i).live:=by rw[ay];trivial
     have hblk:∀g,bY u=some g->bY (rho' i)=some g:=by
      intro g hg;rw[hv]at hg;rw[q1];split at hg
      ·cases ad<;>exact hg
      cases ad with
      | none=>cases hg
      | some a0=>
       simp only[fG,Nat.zero_mul,Addr.add,ae]at hg;exact hg
     refine outer S' s'.h u ca zH ⟨?_,fun g hg=>(ca.qk i g trivial b_ (hblk g hg)).2.1⟩ k3 fun g _ T5=>?_
     ·rw[k1];exact aC.front hh q1 q3 (by rw[hv];simp[Addr.add])
     have hg:bY u=some g:=aD rfl T5;obtain⟨l1,l2,l3⟩:=ca.qk i g trivial b_ (hblk g hg);refine⟨l1,l3.symm,fun n T6=>?_⟩;obtain⟨i',_,m1,m2,m3⟩:=(fk S' s'.h ca k3).2.1 n g T6;have:=ca.dj i i' g trivial trivial b_ m1 (.inl (hblk g hg)) m2;subst this;rw[k2]at m3;cases m3
    ·split at hk
     case h_2=>exact hk.elim
     rename_i ti hT;split at hk
     case h_2=>exact hk.elim
     rename_i hpos;obtain⟨k1,k3⟩:=hk;subst k1;obtain⟨info,z,g1,g2,_⟩:=hC.tab e ti hT;have hu:=h4 S' s'.h (fun _ h=>h) ca 0 _ u rfl rfl;have tK:u=.slice none 0 0:=by cases hu;rfl
     subst tK;exact outer S' s'.h _ ca zH ⟨⟨info,[],g1,by have:=je hpos;omega,Dm _ _ _ _,by simp,by simp,by simp⟩,fun g hg=>by cases hg⟩ k3 fun g _ hg=>by cases aD rfl hg
    exact hk.elim
   exact hk.elim
  | hown cs=>
   simp only at hk;split at hk
   ·rename_i av;obtain⟨u,rfl⟩:∃u,us=[u]:=by
     match us,h1 with
     | [u],_=>exact⟨u,rfl⟩
    have zH:(results fn a'.tmps).run C.P w'=.ok u w':=hrun;split at hk
    ·rename_i i off;cases off with
     | succ n=>exact hk.elim
     | zero=>
      obtain⟨k1,k2,k3⟩:=hk;have hu:=h4 S' s'.h (fun _ h=>h) ca 0 _ u rfl rfl;obtain⟨_,g0,T5,hv⟩:=hu.iO (by rw[k1];trivial);have Yk:u=rho' i:=by rw[hv,T5]
      have hh:=ca.hp i trivial;rw[k1]at hh;obtain⟨g1,ty,c,e1,e2⟩:=hh;have b_:(s'.h i).live:=by rw[k1];trivial
      have Rt:∀k,hasB w' (.a7 cs) u k->hasB w' (s'.h i) (rho' i) k:=fun k hk=>by rw[k1,<-Yk];exact hk
      refine outer S' s'.h u ca zH ⟨g1,ty,c,by rw[Yk];exact e1,e2,fun k hk=>(ca.lv i k trivial b_ (Rt k hk)).2.1⟩ k3 fun g _ hg=>?_;have lN:=Rt g hg;obtain⟨l1,l2,l3⟩:=ca.lv i g trivial b_ lN;refine⟨l1,l3.symm,fun n T6=>?_⟩;obtain⟨i',_,m1,m2,m3⟩:=(fk S' s'.h ca k3).2.1 n g T6;have:=ca.dj i i' g trivial trivial b_ m1 lN m2;subst this;rw[k2]at m3;cases m3
    exact hk.elim
   exact hk.elim
  | p x=>
   simp only at hk;split at hk
   ·rename_i av;obtain⟨u,rfl⟩:∃u,us=[u]:=by
     match us,h1 with
     | [u],_=>exact⟨u,rfl⟩
    have zH:(results fn a'.tmps).run C.P w'=.ok u w':=hrun;obtain⟨y,fz,S2,⟨rfl,gy⟩,bD,hp,yJ,_,_⟩:=iR hC (s:=⟨s'.t,s'.h⟩) ca (qD.refl s'.h) (h4 S' s'.h (fun _ h=>h) ca 0 _ u rfl rfl) hk;exact outer S2 _ u bD zH hp gy (fun g h=>by cases h)
   exact hk.elim
  | tu xs=>
   simp only at hk;split at hk
   ·exact hk.elim
   rename_i cU;obtain⟨ys,h',S2,⟨rfl,gy⟩,bD,yJ,hlen,hp⟩:=Hu hC jz us S' s'.h h1 ca (fun S2 h2 hS bD=>h4 S2 h2 hS bD) hk;have Zn:us.toArray.size≠1:=by
    intro e;have e1:us.length=1:=by simpa using e
    obtain⟨q,hq⟩:=List.length_eq_one_iff.1 (h1.trans e1);exact cU q hq
   rw[dif_neg Zn]at hrun;refine outer S2 h' _ bD hrun ⟨us.toArray,rfl,by simpa using hlen,fun i x u hx hu=>hp i x u hx (by simpa using hu)⟩ gy (fun g h=>by cases h)
 cases e with
 | normal=>exact Md hk
 | ret=>exact Md hk
 | exit id=>exact hk.elim
 | goto l=>exact hk.elim
 | panic c=>exact hk.elim
 | outgrown=>exact hk.elim
end Go.AM
