/- Part 2 of the proof of RulesNetsMatchSpec. -/
import Derived.Test.YtliffnpbaeijgaaGreatDoorN01
set_option linter.unusedVariables false
set_option linter.unusedSimpArgs false
set_option maxRecDepth 100000
set_option maxHeartbeats 8000000
namespace Go
abbrev bV:=@Nat.add_right_cancel_iff
abbrev L8:=@List.mem_cons
abbrev L9:=@List.nodup_cons
abbrev qS:=@Array.getElem?_eq_some_iff
abbrev wi:=@List.getElem?_cons_zero
abbrev Fp:=@List.mem_singleton
abbrev o_:=@Array.size_setIfInBounds
abbrev tF:=@List.dropLast_concat_getLast
abbrev Fq:=@Bool.not_eq_true'
abbrev AL:=@Array.toList_append
abbrev nk:=@Bool.and_self
abbrev wj:=@Bool.or_eq_false_iff
abbrev il:=@List.getElem?_of_mem
abbrev Fs:=@Option.getD_some
abbrev L_:=@Classical.choose_spec
abbrev tG:=@Bool.true_and
abbrev Ft:=@Bool.true_or
abbrev gF:=@Bool.or_true
abbrev iq:=@Nat.lt_trichotomy
abbrev gG:=@Nat.add_sub_cancel_left
abbrev lY:=@Array.getElem?_append_left
abbrev ee:=@Go.World.ownsRow_nil
end Go
namespace Go.AM
open Go.RowKit
variable {S':Nat->Prop}
theorem qf{S:Nat->Prop}{w w':World}{x:PV}{v:Value}(h:Hk x=true)(z:aO S w x v):aO S' w' x v:=by
 cases z with
 | im=>exact .im _
 | ag cs vs hl h1 hc=>
  refine .ag cs vs hl h1 fun i c v hi D=>?_;have I:=aj hi;have:=dY.1 h c I;have u:=hc i c v hi D;cases c with
  | im y=>cases u;exact .im _
  | _=>cases this
 | nil=>cases h
 | sl=>cases h
 | ip=>cases h
 | fn=>cases h
 | mp=>cases h
variable {A:rZ} {V L:Nat->Prop} {rho:Nat->Value} {s:AS}
theorem cn.grow{S:Nat->Prop}{a:Act}{w:World}(u:cn A V L S rho s a w)(hC:bP A.C)(w':World)(z:Fr (fun _=>False) w w'):cn A V L S rho s a w':=by
 have O:∀b,S b->w'.heap[b]?=w.heap[b]?:=fun k hk=>z.block k (u.st k hk) (fun h=>h);have T:ng S S w w' L L rho rho s.h s.h:=⟨fun b h=>h,O,fun j D=>⟨D,fun hl=>⟨hl,rfl⟩⟩,fun j e' D=>D⟩;exact
 {tm:=fun j D=>(u.tm j D).de T
  sz:=u.sz,df:=u.df,nb:=u.nb,pn:=u.pn
  ev:=hC.env _ _ _ _ u.ev (fun b h=>h) O z.size
  s0:=u.s0
  st:=fun b hb=>cB (u.st b hb) z.size
  sb:=u.sb
  hp:=fun j D=>(u.hp j D).de T (fun I g J=>z.block g (u.lv j g D I J).1 (fun h=>h)) (fun _=>rfl)
  dj:=fun i j g hi D I R U N=>u.dj i j g hi D I R (dJ (fun k hk=>z.block k (u.qd i k hi I hk).1 (fun h=>h)) U) (dJ (fun k hk=>z.block k (u.qd j k D R hk).1 (fun h=>h)) N)
  lv:=fun i g hi I J=>by obtain⟨W,Y⟩:=u.lv i g hi I (dJ (fun k hk=>z.block k (u.qd i k hi I hk).1 (fun h=>h)) J);exact⟨cB W z.size,Y⟩
  fr:=u.fr.next z.os z.tape z.output z.size fun k hk _=>z.block k (cB hk u.fr.size) (fun h=>h) }
inductive gn(L:Nat->Prop)(rho:Nat->Value)(h:Nat->AB):List Arg->List Value->List (Nat×AB)->Prop
 | nil:gn L rho h [] [] []
 | pv (x:PV) (v:Value) {xs:List Arg} {vs:List Value} {ids:List (Nat×AB)} (hr:gn L rho h xs vs ids):gn L rho h (.pv x::xs) (v::vs) ids
 | row (id:Nat) (e:TypeId) (es:List (List PV)) {xs:List Arg} {vs:List Value} {ids:List (Nat×AB)} (hL:L id) (hid:h id=.row e es) (hr:gn L rho h xs vs ids):gn L rho h (.row e es::xs) (rho id::vs) ((id,.row e es)::ids)
 | map (id:Nat) (mk:MK) (es:List (Value×PV)) {xs:List Arg} {vs:List Value} {ids:List (Nat×AB)} (hL:L id) (hid:h id=.map mk es) (hr:gn L rho h xs vs ids):gn L rho h (.map mk es::xs) (rho id::vs) ((id,.map mk es)::ids)
 | box (id:Nat) (cs:List AV) (ys:List PV) {xs:List Arg} {vs:List Value} {ids:List (Nat×AB)} (hL:L id) (hid:h id=.box cs) (hy:gm cs=some ys) (hr:gn L rho h xs vs ids):gn L rho h (.box ys::xs) (rho id::vs) ((id,.box cs)::ids)
 | aU (id:Nat) (cs:List HC) {xs:List Arg} {vs:List Value} {ids:List (Nat×AB)} (hL:L id) (hid:h id=.aU cs) (hr:gn L rho h xs vs ids):gn L rho h (.aU cs::xs) (rho id::vs) ((id,.aU cs)::ids)
theorem NH(hC:bP A.C){t:Nat->AV}{a:Act}{w:World}{h:Nat->AB}{md:Nat->Bool}:
  ∀(iB:List AV) (vs:List Value) (j:Nat) (h':Nat->AB) (S:Nat->Prop) (K:List Arg->List (Nat×AB)->List (Nat×AB)->Prop),iB.length=vs.length->cn A V L S rho ⟨t,h'⟩ a w->su h h' ->
   (∀(S2:Nat->Prop) (D:Nat->AB),cn A V L S2 rho ⟨t,D⟩ a w->∀(i:Nat) x v,iB[i]?=some x->vs[i]?=some v->bu S2 w A.C.P L rho D x v)->
   (∀id,(h' id).there->(h id).there)->iC md h j iB K ->
  ∃xs ids fz S',K xs ids fz/\cn A V L S' rho ⟨t,app h' fz⟩ a w/\(∀b,S b->S' b)/\su h (app h' fz)/\(∀p∈fz,L p.1)/\xs.length=vs.length/\gn L rho h xs vs ids/\(∀(i:Nat) x v,xs[i]?=some (.pv x)->vs[i]?=some v->aO S' w x v):=by
 intro iB
 induction iB with
 | nil=>
  intro vs j h' S K hl N W hrep _ O;have:vs=[]:=Az hl.symm;subst this;exact⟨[],[],[],S,O,N,fun _ h=>h,W,by simp,rfl,.nil,by simp⟩
 | cons x iB ih=>
  intro vs j h' S K hl N W hrep Y O;cases vs with
  | nil=>simp at hl
  | cons v vs=>
   simp only[bN,bV]at hl;have hx:bu S w A.C.P L rho h' x v:=hrep S h' N 0 x v rfl rfl;have BB:∀(S2:Nat->Prop) (D:Nat->AB),cn A V L S2 rho ⟨t,D⟩ a w->∀(i:Nat) x v,iB[i]?=some x->vs[i]?=some v->bu S2 w A.C.P L rho D x v:=fun S2 D s2 i x v J R=>hrep S2 D s2 (i+1) x v (by simpa using J) (by simpa using R);unfold iC at O;split at O
   ·obtain⟨y,fz,S2,O,bH,hp,AJ,Pu,Hs⟩:=jA hC N W hx O;have abK:∀id,(app h' fz id).there->(h id).there:=fun id ht=>by
     rcases Pu id with z | ⟨e',xs,z,D⟩ | ⟨cs,xs,z,_,D⟩
     ·rw[z]at ht;exact ht
     ·rw[z];trivial
     rw[z];trivial
    obtain⟨xs,ids,I,S',Z,k2,U,k4,k5,k6,k7,k8⟩:=ih vs (j+1) (app h' fz) S2 _ hl bH Pu BB abK O;refine⟨.pv y::xs,ids,fz++I,S',Z,by rw[cQ];exact k2,fun b hb=>U b (AJ b hb),by rw[cQ];exact k4,fun p hp=>(fC.1 hp).elim (Hs p) (k5 p),by simp[k6],.pv y v k7,fun i x u J R=>?_⟩;cases i with
    | zero=>simp at J R;subst J R;exact hp.mono U (fun _ _=>rfl)
    | succ i=>exact k8 i x u (by simpa using J) (by simpa using R)
   split at O
   ·rename_i id;split at O
    ·rename_i e es aw;obtain⟨xs,ids,I,S',Z,k2,U,k4,k5,k6,k7,k8⟩:=ih vs (j+1) h' S _ hl N W BB Y O;have ht:(h' id).there:=by
      rcases W id with z | ⟨e',xs,z,D⟩ | ⟨cs,xs,z,_,D⟩
      ·rw[z,aw];trivial
      ·rw[D];trivial
      rw[D];trivial
     obtain⟨hL,rfl⟩:=hx.cZ ht;refine⟨.row e es::xs,(id,.row e es)::ids,I,S',Z,k2,U,k4,k5,by simp[k6],.row id e es hL aw k7,fun i x u J R=>?_⟩;cases i with
     | zero=>simp at J
     | succ i=>exact k8 i x u (by simpa using J) (by simpa using R)
    ·rename_i es Pw;obtain⟨xs,ids,I,S',Z,k2,U,k4,k5,k6,k7,k8⟩:=ih vs (j+1) h' S _ hl N W BB Y O;have he:h' id=.lz es:=by
      rcases W id with z | ⟨e',xs,z,D⟩ | ⟨cs,xs,z,_,D⟩
      ·rw[z,Pw]
      ·rw[Pw]at z;cases z
      rw[Pw]at z;cases z
     obtain⟨hL,rfl⟩:=hx.cZ (by rw[he];trivial);have hh:=N.hp id hL;have hh:fD S w A.C.P L rho h' id (h' id):=hh;rw[he]at hh;refine⟨.pv (.sl es)::xs,ids,I,S',Z,k2,U,k4,k5,by simp[k6],.pv _ _ k7,fun i x u J R=>?_⟩;cases i with
     | zero=>simp at J R;subst J R;exact aO.mono hh U (fun _ _=>rfl)
     | succ i=>exact k8 i x u (by simpa using J) (by simpa using R)
    ·rename_i mk es aw;obtain⟨xs,ids,I,S',Z,k2,U,k4,k5,k6,k7,k8⟩:=ih vs (j+1) h' S _ hl N W BB Y O;have ht:(h' id).there:=by
      rcases W id with z | ⟨e',xs,z,D⟩ | ⟨cs,xs,z,_,D⟩
      ·rw[z,aw];trivial
      ·rw[D];trivial
      rw[D];trivial
     obtain⟨hL,rfl⟩:=hx.cZ ht;refine⟨.map mk es::xs,(id,.map mk es)::ids,I,S',Z,k2,U,k4,k5,by simp[k6],.map id mk es hL aw k7,fun i x u J R=>?_⟩;cases i with
     | zero=>simp at J
     | succ i=>exact k8 i x u (by simpa using J) (by simpa using R)
    exact O.elim
   ·obtain⟨xs,ids,I,S',Z,k2,U,k4,k5,k6,k7,k8⟩:=ih vs (j+1) h' S _ hl N W BB Y O;refine⟨.pv _::xs,ids,I,S',Z,k2,U,k4,k5,by simp[k6],.pv _ _ k7,fun i x u J R=>?_⟩;cases i with
    | zero=>simp at J R;subst J R;exact hx.eY.mono U (fun _ _=>rfl)
    | succ i=>exact k8 i x u (by simpa using J) (by simpa using R)
   ·rename_i id;split at O
    ·rename_i cs aU;split at O
     ·rename_i ys Wi;obtain⟨xs,ids,I,S',Z,k2,U,k4,k5,k6,k7,k8⟩:=ih vs (j+1) h' S _ hl N W BB Y O;have ht:(h' id).there:=by
       rcases W id with z | ⟨e',xs,z,D⟩ | ⟨cs,xs,z,_,D⟩
       ·rw[z,aU];trivial
       ·rw[D];trivial
       rw[D];trivial
      obtain⟨hL,g,hg,hv⟩:=hx.hY ht;have JS:v=rho id:=by rw[hv,hg]
      subst JS;refine⟨.box ys::xs,(id,.box cs)::ids,I,S',Z,k2,U,k4,k5,by simp[k6],.box id cs ys hL aU Wi k7,fun i x u J R=>?_⟩;cases i with
      | zero=>simp at J
      | succ i=>exact k8 i x u (by simpa using J) (by simpa using R)
     exact O.elim
    ·rename_i cs aU;obtain⟨xs,ids,I,S',Z,k2,U,k4,k5,k6,k7,k8⟩:=ih vs (j+1) h' S _ hl N W BB Y O;have ht:(h' id).there:=by
      rcases W id with z | ⟨e',xs,z,D⟩ | ⟨cs,xs,z,_,D⟩
      ·rw[z,aU];trivial
      ·rw[D];trivial
      rw[D];trivial
     obtain⟨hL,g,hg,hv⟩:=hx.hY ht;have JS:v=rho id:=by rw[hv,hg]
     subst JS;refine⟨.aU cs::xs,(id,.aU cs)::ids,I,S',Z,k2,U,k4,k5,by simp[k6],.aU id cs hL aU k7,fun i x u J R=>?_⟩;cases i with
     | zero=>simp at J
     | succ i=>exact k8 i x u (by simpa using J) (by simpa using R)
    exact O.elim
   exact O.elim
variable {vs:List Value}
theorem gn.at{h:Nat->AB}{xs:List Arg}{ids:List (Nat×AB)}(H:gn L rho h xs vs ids):∀(j:Nat) x v,xs[j]?=some x->vs[j]?=some v->x.handed=true->∃id b,(id,b)∈ids/\L id/\h id=b/\v=rho id/\(((∃e es,x=.row e es/\b=.row e es)\/∃mk es,x=.map mk es/\b=.map mk es)\/(∃cs ys,x=.box ys/\b=.box cs/\gm cs=some ys)\/∃cs,x=.aU cs/\b=.aU cs):=by
 induction H with
 | nil=>intro j x v z;simp at z
 | pv y u hr ih=>
  intro j x v z D I;cases j with
  | zero=>simp at z;subst z;cases I
  | succ j=>exact ih j x v (by simpa using z) (by simpa using D) I
 | row id e es J hid hr ih=>
  intro j x v z D I;cases j with
  | zero=>simp at z D;subst z D;exact⟨id,_,by simp,J,hid,rfl,.inl (.inl ⟨e,es,rfl,rfl⟩)⟩
  | succ j=>obtain⟨i,b,m,r⟩:=ih j x v (by simpa using z) (by simpa using D) I;exact⟨i,b,by simp[m],r⟩
 | map id mk es J hid hr ih=>
  intro j x v z D I;cases j with
  | zero=>simp at z D;subst z D;exact⟨id,_,by simp,J,hid,rfl,.inl (.inr ⟨mk,es,rfl,rfl⟩)⟩
  | succ j=>obtain⟨i,b,m,r⟩:=ih j x v (by simpa using z) (by simpa using D) I;exact⟨i,b,by simp[m],r⟩
 | box id cs ys J hid hy hr ih=>
  intro j x v z D I;cases j with
  | zero=>simp at z D;subst z D;exact⟨id,_,by simp,J,hid,rfl,.inr (.inl ⟨cs,ys,rfl,rfl,hy⟩)⟩
  | succ j=>obtain⟨i,b,m,r⟩:=ih j x v (by simpa using z) (by simpa using D) I;exact⟨i,b,by simp[m],r⟩
 | aU id cs J hid hr ih=>
  intro j x v z D I;cases j with
  | zero=>simp at z D;subst z D;exact⟨id,_,by simp,J,hid,rfl,.inr (.inr ⟨cs,rfl,rfl⟩)⟩
  | succ j=>obtain⟨i,b,m,r⟩:=ih j x v (by simpa using z) (by simpa using D) I;exact⟨i,b,by simp[m],r⟩
theorem gn.back{h:Nat->AB}{xs:List Arg}{ids:List (Nat×AB)}(H:gn L rho h xs vs ids):∀id b,(id,b)∈ids->L id/\h id=b/\b.live/\∃(j:Nat) (x:Arg),xs[j]?=some x/\vs[j]?=some (rho id)/\x.handed=true:=by
 induction H with
 | nil=>intro id b h;cases h
 | pv y u hr ih=>intro id b h;obtain⟨z,D,I,j,x,J⟩:=ih id b h;exact⟨z,D,I,j+1,x,by simpa using J⟩
 | row i e es N hid hr ih=>
  intro id b h;rcases L8.1 h with h | h
  ·injection h with z D;subst z D;exact⟨N,hid,trivial,0,_,rfl,rfl,rfl⟩
  obtain⟨z,D,I,j,x,J⟩:=ih id b h;exact⟨z,D,I,j+1,x,by simpa using J⟩
 | map i mk es N hid hr ih=>
  intro id b h;rcases L8.1 h with h | h
  ·injection h with z D;subst z D;exact⟨N,hid,trivial,0,_,rfl,rfl,rfl⟩
  obtain⟨z,D,I,j,x,J⟩:=ih id b h;exact⟨z,D,I,j+1,x,by simpa using J⟩
 | box i cs ys N hid hy hr ih=>
  intro id b h;rcases L8.1 h with h | h
  ·injection h with z D;subst z D;exact⟨N,hid,trivial,0,_,rfl,rfl,rfl⟩
  obtain⟨z,D,I,j,x,J⟩:=ih id b h;exact⟨z,D,I,j+1,x,by simpa using J⟩
 | aU i cs N hid hr ih=>
  intro id b h;rcases L8.1 h with h | h
  ·injection h with z D;subst z D;exact⟨N,hid,trivial,0,_,rfl,rfl,rfl⟩
  obtain⟨z,D,I,j,x,J⟩:=ih id b h;exact⟨z,D,I,j+1,x,by simpa using J⟩
theorem gn.inj{h:Nat->AB}{xs:List Arg}{ids:List (Nat×AB)}(H:gn L rho h xs vs ids)(Z:(ids.map (·.1)).Nodup):∀(i j:Nat) x y v u,xs[i]?=some x->xs[j]?=some y->vs[i]?=some v->vs[j]?=some u->x.handed=true->y.handed=true->i≠j ->
  ∃J5 I b1 D,J5≠I/\(J5,b1)∈ids/\(I,D)∈ids/\v=rho J5/\u=rho I/\(((∃e es,x=.row e es/\b1=.row e es)\/∃mk es,x=.map mk es/\b1=.map mk es)\/(∃cs ys,x=.box ys/\b1=.box cs/\gm cs=some ys)\/∃cs,x=.aU cs/\b1=.aU cs)/\(((∃e es,y=.row e es/\D=.row e es)\/∃mk es,y=.map mk es/\D=.map mk es)\/(∃cs ys,y=.box ys/\D=.box cs/\gm cs=some ys)\/∃cs,y=.aU cs/\D=.aU cs):=by
 have step:∀(i0:Nat) (b0:AB) {xs:List Arg} {vs:List Value} {ids:List (Nat×AB)} (H:gn L rho h xs vs ids) (Z:(((i0,b0)::ids).map (·.1)).Nodup) (j:Nat) (y:Arg) (u:Value),xs[j]?=some y->vs[j]?=some u->y.handed=true->∃id b,id≠i0/\(id,b)∈ids/\u=rho id/\(((∃e es,y=.row e es/\b=.row e es)\/∃mk es,y=.map mk es/\b=.map mk es)\/(∃cs ys,y=.box ys/\b=.box cs/\gm cs=some ys)\/∃cs,y=.aU cs/\b=.aU cs):=by
  intro i0 b0 xs vs ids H Z j y u J N R;obtain⟨id,b,O,_,_,h5,hf⟩:=H.at j y u J N R;simp only[eH,L9]at Z;exact⟨id,b,fun e=>Z.1 (aZ.2 ⟨(id,b),O,e⟩),O,h5,hf⟩
 induction H with
 | nil=>intro i j x y v u J;simp at J
 | pv z v0 hr ih=>
  intro i j x y v u J N R O h5 h6 h7;cases i with
  | zero=>simp at J;subst J;cases h5
  | succ i=>
   cases j with
   | zero=>simp at N;subst N;cases h6
   | succ j=>exact ih Z i j x y v u (by simpa using J) (by simpa using N) (by simpa using R) (by simpa using O) h5 h6 (by omega)
 | row id e es hL hid hr ih=>
  intro i j x y v u J N R O h5 h6 h7;have Fu:=Z;simp only[eH,L9]at Fu;cases i with
  | zero=>
   cases j with
   | zero=>exact absurd rfl h7
   | succ j=>
    obtain⟨I,D,U,W,Y,hf⟩:=step id (.row e es) hr Z j y u (by simpa using N) (by simpa using O) h6;simp at J R;exact⟨id,I,.row e es,D,U.symm,by simp,by simp[W],R.symm,Y,J▸.inl (.inl ⟨e,es,rfl,rfl⟩),hf⟩
  | succ i=>
   cases j with
   | zero=>
    obtain⟨I,D,U,W,Y,hf⟩:=step id (.row e es) hr Z i x v (by simpa using J) (by simpa using R) h5;simp at N O;exact⟨I,id,D,.row e es,U,by simp[W],by simp,Y,O.symm,hf,N▸.inl (.inl ⟨e,es,rfl,rfl⟩)⟩
   | succ j=>
    obtain⟨J5,I,b1,D,U,W,Y,k4,k5⟩:=ih Fu.2 i j x y v u (by simpa using J) (by simpa using N) (by simpa using R) (by simpa using O) h5 h6 (by omega);exact⟨J5,I,b1,D,U,by simp[W],by simp[Y],k4,k5⟩
 | map id mk es hL hid hr ih=>
  intro i j x y v u J N R O h5 h6 h7;have Fu:=Z;simp only[eH,L9]at Fu;cases i with
  | zero=>
   cases j with
   | zero=>exact absurd rfl h7
   | succ j=>
    obtain⟨I,D,U,W,Y,hf⟩:=step id (.map mk es) hr Z j y u (by simpa using N) (by simpa using O) h6;simp at J R;exact⟨id,I,.map mk es,D,U.symm,by simp,by simp[W],R.symm,Y,J▸.inl (.inr ⟨mk,es,rfl,rfl⟩),hf⟩
  | succ i=>
   cases j with
   | zero=>
    obtain⟨I,D,U,W,Y,hf⟩:=step id (.map mk es) hr Z i x v (by simpa using J) (by simpa using R) h5;simp at N O;exact⟨I,id,D,.map mk es,U,by simp[W],by simp,Y,O.symm,hf,N▸.inl (.inr ⟨mk,es,rfl,rfl⟩)⟩
   | succ j=>
    obtain⟨J5,I,b1,D,U,W,Y,k4,k5⟩:=ih Fu.2 i j x y v u (by simpa using J) (by simpa using N) (by simpa using R) (by simpa using O) h5 h6 (by omega);exact⟨J5,I,b1,D,U,by simp[W],by simp[Y],k4,k5⟩
 | box id cs ys hL hid hy hr ih=>
  intro i j x y v u J N R O h5 h6 h7;have Fu:=Z;simp only[eH,L9]at Fu;cases i with
  | zero=>
   cases j with
   | zero=>exact absurd rfl h7
   | succ j=>
    obtain⟨I,D,U,W,Y,hf⟩:=step id (.box cs) hr Z j y u (by simpa using N) (by simpa using O) h6;simp at J R;exact⟨id,I,.box cs,D,U.symm,by simp,by simp[W],R.symm,Y,J▸.inr (.inl ⟨cs,ys,rfl,rfl,hy⟩),hf⟩
  | succ i=>
   cases j with
   | zero=>
    obtain⟨I,D,U,W,Y,hf⟩:=step id (.box cs) hr Z i x v (by simpa using J) (by simpa using R) h5;simp at N O;exact⟨I,id,D,.box cs,U,by simp[W],by simp,Y,O.symm,hf,N▸.inr (.inl ⟨cs,ys,rfl,rfl,hy⟩)⟩
   | succ j=>
    obtain⟨J5,I,b1,D,U,W,Y,k4,k5⟩:=ih Fu.2 i j x y v u (by simpa using J) (by simpa using N) (by simpa using R) (by simpa using O) h5 h6 (by omega);exact⟨J5,I,b1,D,U,by simp[W],by simp[Y],k4,k5⟩
 | aU id cs hL hid hr ih=>
  intro i j x y v u J N R O h5 h6 h7;have Fu:=Z;simp only[eH,L9]at Fu;cases i with
  | zero=>
   cases j with
   | zero=>exact absurd rfl h7
   | succ j=>
    obtain⟨I,D,U,W,Y,hf⟩:=step id (.aU cs) hr Z j y u (by simpa using N) (by simpa using O) h6;simp at J R;exact⟨id,I,.aU cs,D,U.symm,by simp,by simp[W],R.symm,Y,J▸.inr (.inr ⟨cs,rfl,rfl⟩),hf⟩
  | succ i=>
   cases j with
   | zero=>
    obtain⟨I,D,U,W,Y,hf⟩:=step id (.aU cs) hr Z i x v (by simpa using J) (by simpa using R) h5;simp at N O;exact⟨I,id,D,.aU cs,U,by simp[W],by simp,Y,O.symm,hf,N▸.inr (.inr ⟨cs,rfl,rfl⟩)⟩
   | succ j=>
    obtain⟨J5,I,b1,D,U,W,Y,k4,k5⟩:=ih Fu.2 i j x y v u (by simpa using J) (by simpa using N) (by simpa using R) (by simpa using O) h5 h6 (by omega);exact⟨J5,I,b1,D,U,by simp[W],by simp[Y],k4,k5⟩
theorem Qb{id:Nat}:∀{fz:List (Nat×AB)},vo id fz=true->∀p∈fz,p.1≠id:=by
 intro fz
 induction fz with
 | nil=>intro _ p hp;cases hp
 | cons x fz ih=>
  intro u p hp;unfold vo at u;split at u
  ·cases u
  rename_i z;rcases L8.1 hp with h | h
  ·subst h;intro e;rw[e]at z;simp at z
  exact ih u p h
theorem J6:∀{ids fz:List (Nat×AB)},LQ ids fz=true->(∀p∈ids,vo p.1 fz=true)/\(ids.map (·.1)).Nodup:=by
 intro ids
 induction ids with
 | nil=>intro fz _;simp
 | cons x ids ih=>
  intro fz h;obtain⟨i,b⟩:=x;simp only[LQ,aJ]at h;obtain⟨⟨u,z⟩,D⟩:=h;obtain⟨I,J⟩:=ih D;refine⟨fun p hp=>?_,?_⟩
  ·rcases L8.1 hp with h | h
   ·subst h;exact u
   exact I p h
  simp only[eH,L9];refine⟨fun N=>?_,J⟩;obtain⟨p,hp,O⟩:=aZ.1 N;exact Qb z p hp O
def Dy:List Arg->List (Nat×AB)->Nat->Nat->Prop
 | x::xs,ids,i,id=>match x.handed with
  | false=>match i with
   | 0=>False
   | i+1=>Dy xs ids i id
  | true=>match ids with
   | (id0,_)::ids=>match i with
    | 0=>id=id0
    | i+1=>Dy xs ids i id
   | []=>False
 | _,_,_,_=>False
theorem Dy.uniq:∀{xs:List Arg} {ids:List (Nat×AB)} {i a b:Nat},Dy xs ids i a->Dy xs ids i b->a=b
 | [],_,_,_,_,h,_=>h.elim
 | x::xs,ids,i,a,b,h,k=>by
  unfold Dy at h k;split at h
  ·rename_i u;simp only[u]at k;cases i with
   | zero=>exact h.elim
   | succ i=>exact Dy.uniq h k
  rename_i u;simp only[u]at k;cases ids with
  | nil=>exact h.elim
  | cons p ids=>
   cases i with
   | zero=>exact h.trans k.symm
   | succ i=>exact Dy.uniq (xs:=xs) (ids:=ids) h k
def Tu(S:Nat->Prop)(w:World)(P:Program)(args:List Arg)(fin:List Fin)(vs:List Value)(i:Nat)(v:Value)(iX new:AB):Prop:=
 new=.none\/(((∃e es dv,iX=.row e es/\new=.row e dv/\aH P w (aO S w) e dv v)\/∃mk es dv,iX=.map mk es/\new=.map mk dv/\Fb S w mk dv v)\/(∃(cs:List AV) (xs:List PV) (g:Nat) (ty:TypeId) (c:Array Value),iX=.box cs/\new=.box (xs.map .p)/\v=.pointer (some ⟨g,0,none⟩)/\w.heap[g]?=some (.cells c ty (0,0))/\c.size=xs.length/\∀(j:Nat) x u,xs[j]?=some x->c[j]?=some u->u.oneCell'=true/\aO S w x u)\/
  (∃(cs oM:List HC) (g:Nat) (ty:TypeId) (c:Array Value),iX=.aU cs/\new=.aU oM/\v=.pointer (some ⟨g,0,none⟩)/\Nl S w P oM g ty c))/\
  (∀g,hasB w new v g->¬S g/\dA w args fin vs i g)
theorem Tu.lift{S:Nat->Prop}{w:World}{P:Program}{xs:List Arg}{fin:List Fin}{i:Nat}{v:Value}{u new:AB}{z:List Arg}{D:List Fin}{I:List Value}{J:Nat}(h:∀g,dA w xs fin vs i g->dA w z D I J g)(hb:Tu S w P xs fin vs i v u new):Tu S w P z D I J v u new:=
 hb.imp id fun hb=>⟨hb.1,fun g N=>⟨(hb.2 g N).1,h g (hb.2 g N).2⟩⟩
theorem od{S:Nat->Prop}{w:World}{P:Program}{h:Nat->AB}{xs:List Arg}{ids:List (Nat×AB)}(H:gn L rho h xs vs ids):
  ∀(fin:List Fin) fe,w9 S w P xs fin vs->gZ ids fin=some fe->fe.map (·.1)=ids.map (·.1)/\∀id new,(id,new)∈fe->∃D i,(id,D)∈ids/\Dy xs ids i id/\Tu S w P xs fin vs i (rho id) D new:=by
 induction H with
 | nil=>
  intro fin fe s7 u;cases fin with
  | nil=>simp[gZ]at u;subst u;exact⟨rfl,by simp⟩
  | cons f fin=>simp[gZ]at u
 | pv x v hr ih=>
  intro fin fe s7 u;obtain⟨I,J⟩:=ih fin fe s7 u;refine⟨I,fun id new N=>?_⟩;obtain⟨D,i,O,R,U⟩:=J id new N;exact⟨D,i+1,O,R,U.lift fun g h=>h⟩
 | @row i e es xs vs ids hL hid hr ih=>
  intro fin fe s7 u;cases fin with
  | nil=>exact s7.elim
  | cons f fin=>
   obtain⟨z,sG⟩:=(show pS S w P (.row e es) f (rho i)/\w9 S w P xs fin vs from s7);cases f with
   | gone=>
    simp only[gZ]at u;obtain⟨Y,Z,rfl⟩:=qI.1 u;obtain⟨I,J⟩:=ih fin Y sG Z;refine⟨by simp[I],fun id new N=>?_⟩;rcases L8.1 N with e' | e'
    ·injection e' with e1 e2;subst e1 e2;exact⟨.row e es,0,by simp,rfl,.inl rfl⟩
    obtain⟨D,k,O,R,U⟩:=J id new e';exact⟨D,k+1,by simp[O],R,U.lift fun g h=>h⟩
   | row dv=>
    simp only[gZ]at u;obtain⟨Y,Z,rfl⟩:=qI.1 u;obtain⟨I,J⟩:=ih fin Y sG Z;refine⟨by simp[I],fun id new N=>?_⟩;rcases L8.1 N with e' | e'
    ·injection e' with e1 e2;subst e1 e2;exact⟨_,0,by simp,rfl,.inr ⟨.inl (.inl ⟨e,es,dv,rfl,rfl,z.1⟩),fun g W=>⟨z.2 g (aI rfl W),rfl,.inl (aI rfl W)⟩⟩⟩
    obtain⟨D,k,O,R,U⟩:=J id new e';exact⟨D,k+1,by simp[O],R,U.lift fun g h=>h⟩
   | map dv=>exact z.elim
   | box cs=>exact z.elim
   | aU cs=>exact z.elim
 | @map i mk es xs vs ids hL hid hr ih=>
  intro fin fe s7 u;cases fin with
  | nil=>exact s7.elim
  | cons f fin=>
   obtain⟨z,sG⟩:=(show pS S w P (.map mk es) f (rho i)/\w9 S w P xs fin vs from s7);cases f with
   | gone=>
    simp only[gZ]at u;obtain⟨Y,Z,rfl⟩:=qI.1 u;obtain⟨I,J⟩:=ih fin Y sG Z;refine⟨by simp[I],fun id new N=>?_⟩;rcases L8.1 N with e' | e'
    ·injection e' with e1 e2;subst e1 e2;exact⟨.map mk es,0,by simp,rfl,.inl rfl⟩
    obtain⟨D,k,O,R,U⟩:=J id new e';exact⟨D,k+1,by simp[O],R,U.lift fun g h=>h⟩
   | map dv=>
    simp only[gZ]at u;obtain⟨Y,Z,rfl⟩:=qI.1 u;obtain⟨I,J⟩:=ih fin Y sG Z;refine⟨by simp[I],fun id new N=>?_⟩;rcases L8.1 N with e' | e'
    ·injection e' with e1 e2;subst e1 e2;exact⟨_,0,by simp,rfl,.inr ⟨.inl (.inr ⟨mk,es,dv,rfl,rfl,z.1⟩),fun g W=>⟨z.2 g (aI rfl W),rfl,.inl (aI rfl W)⟩⟩⟩
    obtain⟨D,k,O,R,U⟩:=J id new e';exact⟨D,k+1,by simp[O],R,U.lift fun g h=>h⟩
   | row dv=>exact z.elim
   | box cs=>exact z.elim
   | aU cs=>exact z.elim
 | @box i cs ys xs vs ids hL hid hy hr ih=>
  intro fin fe s7 u;cases fin with
  | nil=>exact s7.elim
  | cons f fin=>
   obtain⟨z,sG⟩:=(show pS S w P (.box ys) f (rho i)/\w9 S w P xs fin vs from s7);cases f with
   | gone=>
    simp only[gZ]at u;obtain⟨Y,Z,rfl⟩:=qI.1 u;obtain⟨I,J⟩:=ih fin Y sG Z;refine⟨by simp[I],fun id new N=>?_⟩;rcases L8.1 N with e' | e'
    ·injection e' with e1 e2;subst e1 e2;exact⟨.box cs,0,by simp,rfl,.inl rfl⟩
    obtain⟨D,k,O,R,U⟩:=J id new e';exact⟨D,k+1,by simp[O],R,U.lift fun g h=>h⟩
   | row es=>exact z.elim
   | map es=>exact z.elim
   | aU es=>exact z.elim
   | box uV=>
    simp only[gZ]at u;obtain⟨Y,Z,rfl⟩:=qI.1 u;obtain⟨I,J⟩:=ih fin Y sG Z;refine⟨by simp[I],fun id new N=>?_⟩;rcases L8.1 N with e' | e'
    ·injection e' with e1 e2;subst e1 e2;obtain⟨g,ty,c,m1,m2,m3,m4,m5⟩:=z;refine⟨_,0,by simp,rfl,.inr ⟨.inr (.inl ⟨cs,uV,g,ty,c,rfl,rfl,m1,m2,m3,m5⟩),fun g' W=>?_⟩⟩;have W:=aI rfl W;refine⟨?_,rfl,.inl W⟩;rw[m1]at W;injection W with W;exact W▸m4
    obtain⟨D,k,O,R,U⟩:=J id new e';exact⟨D,k+1,by simp[O],R,U.lift fun g h=>h⟩
 | @aU i cs xs vs ids hL hid hr ih=>
  intro fin fe s7 u;cases fin with
  | nil=>exact s7.elim
  | cons f fin=>
   obtain⟨z,sG⟩:=(show pS S w P (.aU cs) f (rho i)/\w9 S w P xs fin vs from s7);cases f with
   | gone=>
    simp only[gZ]at u;obtain⟨Y,Z,rfl⟩:=qI.1 u;obtain⟨I,J⟩:=ih fin Y sG Z;refine⟨by simp[I],fun id new N=>?_⟩;rcases L8.1 N with e' | e'
    ·injection e' with e1 e2;subst e1 e2;exact⟨.aU cs,0,by simp,rfl,.inl rfl⟩
    obtain⟨D,k,O,R,U⟩:=J id new e';exact⟨D,k+1,by simp[O],R,U.lift fun g h=>h⟩
   | row es=>exact z.elim
   | map es=>exact z.elim
   | box es=>exact z.elim
   | aU oM=>
    simp only[gZ]at u;obtain⟨Y,Z,rfl⟩:=qI.1 u;obtain⟨I,J⟩:=ih fin Y sG Z;refine⟨by simp[I],fun id new N=>?_⟩;rcases L8.1 N with e' | e'
    ·injection e' with e1 e2;subst e1 e2;obtain⟨g,ty,c,m1,m2,m3⟩:=z;exact⟨_,0,by simp,rfl,.inr ⟨.inr (.inr ⟨cs,oM,g,ty,c,rfl,rfl,m1,m2⟩),fun g' W=>⟨m3 g' W,rfl,W⟩⟩⟩
    obtain⟨D,k,O,R,U⟩:=J id new e';exact⟨D,k+1,by simp[O],R,U.lift fun g h=>h⟩
theorem fx(fe:List (Nat×AB))(h:Nat->AB)(id:Nat):(∃b,(id,b)∈fe/\app h fe id=b)\/((∀p∈fe,p.1≠id)/\app h fe id=h id):=by
 induction fe generalizing h with
 | nil=>exact .inr ⟨by simp,rfl⟩
 | cons x fe ih=>
  rcases ih (a8 h x.1 x.2) with⟨b,z,u⟩ | ⟨z,u⟩
  ·exact .inl ⟨b,by simp[z],u⟩
  by_cases e:x.1=id
  ·refine .inl ⟨x.2,by rw[<-e];simp,?_⟩;show app (a8 h x.1 x.2) fe id=x.2;rw[u,e,aF]
  refine .inr ⟨fun p hp=>?_,?_⟩
  ·rcases L8.1 hp with h | h
   ·rw[h];exact e
   exact z p h
  show app (a8 h x.1 x.2) fe id=h id;rw[u,bg _ _ (fun e'=>e e'.symm)]
theorem wk{w:World}{b:AB}{v:Value}{g:Nat}{x:Arg}(h:((∃e es,x=.row e es/\b=.row e es)\/∃mk es,x=.map mk es/\b=.map mk es)\/(∃cs ys,x=.box ys/\b=.box cs/\gm cs=some ys)\/∃cs,x=.aU cs/\b=.aU cs):hasB w (Ds x) v g↔hasB w b v g:=by
 rcases h with (⟨e,es,rfl,rfl⟩ | ⟨mk,es,rfl,rfl⟩) | ⟨cs,ys,rfl,rfl,_⟩ | ⟨cs,rfl,rfl⟩
 ·exact⟨fun h=>.inl (aI rfl h),fun h=>.inl (aI rfl h)⟩
 ·exact⟨fun h=>.inl (aI rfl h),fun h=>.inl (aI rfl h)⟩
 ·exact⟨fun h=>.inl (aI rfl h),fun h=>.inl (aI rfl h)⟩
 exact cI
theorem gn.form{h:Nat->AB}{xs:List Arg}{ids:List (Nat×AB)}(H:gn L rho h xs vs ids):∀id b,(id,b)∈ids->∃(j:Nat) (x:Arg),xs[j]?=some x/\vs[j]?=some (rho id)/\x.handed=true/\(((∃e es,x=.row e es/\b=.row e es)\/∃mk es,x=.map mk es/\b=.map mk es)\/(∃cs ys,x=.box ys/\b=.box cs/\gm cs=some ys)\/∃cs,x=.aU cs/\b=.aU cs):=by
 induction H with
 | nil=>intro id b h;cases h
 | pv y u hr ih=>intro id b h;obtain⟨j,x,z⟩:=ih id b h;exact⟨j+1,x,by simpa using z⟩
 | row i e es D hid hr ih=>
  intro id b h;rcases L8.1 h with h | h
  ·injection h with h1 h2;subst h1 h2;exact⟨0,_,rfl,rfl,rfl,.inl (.inl ⟨e,es,rfl,rfl⟩)⟩
  obtain⟨j,x,z⟩:=ih id b h;exact⟨j+1,x,by simpa using z⟩
 | map i mk es D hid hr ih=>
  intro id b h;rcases L8.1 h with h | h
  ·injection h with h1 h2;subst h1 h2;exact⟨0,_,rfl,rfl,rfl,.inl (.inr ⟨mk,es,rfl,rfl⟩)⟩
  obtain⟨j,x,z⟩:=ih id b h;exact⟨j+1,x,by simpa using z⟩
 | box i cs ys D hid hy hr ih=>
  intro id b h;rcases L8.1 h with h | h
  ·injection h with h1 h2;subst h1 h2;exact⟨0,_,rfl,rfl,rfl,.inr (.inl ⟨cs,ys,rfl,rfl,hy⟩)⟩
  obtain⟨j,x,z⟩:=ih id b h;exact⟨j+1,x,by simpa using z⟩
 | aU i cs D hid hr ih=>
  intro id b h;rcases L8.1 h with h | h
  ·injection h with h1 h2;subst h1 h2;exact⟨0,_,rfl,rfl,rfl,.inr (.inr ⟨cs,rfl,rfl⟩)⟩
  obtain⟨j,x,z⟩:=ih id b h;exact⟨j+1,x,by simpa using z⟩
theorem gn.mv{h:Nat->AB}{w:World}{xs:List Arg}{vs:Array Value}{ids:List (Nat×AB)}(H:gn L rho h xs vs.toList ids)(g:Nat):Mv w xs vs g↔∃id b,(id,b)∈ids/\hasB w b (rho id) g:=by
 constructor
 ·rintro⟨j,x,v,u,z,D,I⟩;obtain⟨id,b,J,_,_,N,O⟩:=H.at j x v u (by simpa using z) D;exact⟨id,b,J,by rw[<-N];exact (wk O).1 I⟩
 rintro⟨id,b,u,z⟩;obtain⟨j,x,D,I,J,N⟩:=H.form id b u;exact⟨j,x,_,D,by simpa using I,J,(wk N).2 z⟩
theorem cn.handed{S2:Nat->Prop}{t:Nat->AV}{a:Act}{w w':World}{h D:Nat->AB}(hC:bP A.C)(I:cn A V L S2 rho ⟨t,D⟩ a w){xs:List Arg}{vs:Array Value}{ids fe:List (Nat×AB)}{fin:List Fin}(H:gn L rho h xs vs.toList ids)(hh:∀id b,(id,b)∈ids->D id=h id)
  (hf:Fr (Mv w xs vs) w w') (hS:∀b,S2 b->S' b) (wh:∀b,S' b->b<w'.heap.size) (Wu:∀b,S' b->S2 b\/w.heap.size<=b\/Mv w xs vs b) (s7:w9 S' w' A.C.P xs fin vs.toList) (hok:v7 w w' xs fin vs) (sF:gZ ids fin=some fe):
  cn A V L S' rho ⟨t,app D fe⟩ a w':=by
 obtain⟨hk,hb⟩:=od H fin fe s7 sF;have Qd:∀id,(∃b,(id,b)∈ids)↔∃b,(id,b)∈fe:=by
  intro id;have:id∈ids.map (·.1)↔id∈fe.map (·.1):=by rw[hk]
  simpa using this
 have own:∀id b,(id,b)∈ids->L id/\(D id).live/\D id=b:=fun id b hm=>by
  obtain⟨U,O,h4,_⟩:=H.back id b hm;have:=hh id b hm;exact⟨U,by rw[this,O];exact h4,by rw[this,O]⟩
 have mvS:∀g,Mv w xs vs g->¬S2 g/\(A.mv g\/A.w0.heap.size<=g):=fun g W=>by
  obtain⟨id,b,U,O⟩:=H.mv g |>.1 W;obtain⟨h4,J,h6⟩:=own id b U;exact (I.lv id g h4 J (by show hasB w (D id) _ _;rw[h6];exact O)).2
 have mn:∀b,S2 b->w'.heap[b]?=w.heap[b]?:=fun k hk=>hf.block k (I.st k hk) fun hm=>(mvS k hm).1 hk;have T:ng S2 S' w w' L L rho rho D (app D fe):=by
  refine⟨hS,mn,fun id ht=>⟨?_,fun hl=>⟨hl,rfl⟩⟩,fun id e Y=>?_⟩
  ·rcases fx fe D id with⟨b,U,O⟩ | ⟨_,O⟩
   ·obtain⟨b',hb'⟩:=(Qd id).2 ⟨b,U⟩;obtain⟨_,h4,_⟩:=own id b' hb';cases hx:D id<;>rw[hx]at h4<;>first | trivial | exact h4.elim
   rw[O]at ht;exact ht
  rcases fx fe D id with⟨b,U,O⟩ | ⟨_,O⟩
  ·rw[O]at Y;obtain⟨iX,i,h4,_,J⟩:=hb id b U;obtain⟨_,_,h6⟩:=own id iX h4;rcases J with J | ⟨J | J | J,_⟩
   ·rw[J]at Y;cases Y
   ·rcases J with J | J
    ·obtain⟨e',es1,pT,h7,Z,_⟩:=J;rw[Z]at Y;injection Y with Y;rw[h6,h7,Y];rfl
    obtain⟨mk,es1,pT,h7,Z,_⟩:=J;rw[Z]at Y;cases Y
   ·obtain⟨cs,ys,g,ty,c,h7,Z,_⟩:=J;rw[Z]at Y;cases Y
   obtain⟨cs,ys,g,ty,c,h7,Z,_⟩:=J;rw[Z]at Y;cases Y
  rw[O]at Y;exact Y
 have fT:∀id,(app D fe id).live->(D id).live:=by
  intro id hl;rcases fx fe D id with⟨b,U,O⟩ | ⟨_,O⟩
  ·obtain⟨b',hb'⟩:=(Qd id).2 ⟨b,U⟩;exact (own id b' hb').2.1
  rw[O]at hl;exact hl
 have same:∀id g,L id->(D id).live->(∀p∈fe,p.1≠id)->hasB w (D id) (rho id) g->¬Mv w xs vs g:=fun id g hl R U W hm=>by
  obtain⟨Dl,b',h4,J⟩:=H.mv g |>.1 hm;obtain⟨h6,h7,Z⟩:=own Dl b' h4;have:=I.dj id Dl g hl h6 R h7 W (by show hasB w (D Dl) _ _;rw[Z];exact J);subst this;obtain⟨b2,Aj⟩:=(Qd id).1 ⟨b',h4⟩;exact U _ Aj rfl
 have old:∀id g,L id->(D id).live->(∀p∈fe,p.1≠id)->hasB w' (D id) (rho id) g->hasB w (D id) (rho id) g:=fun id g hl R U W=>
  dJ (fun k hk=>hf.block k (I.qd id k hl R hk).1 (same id k hl R U (.inl hk))) W
 have back:∀id b,(id,b)∈fe->(app D fe id).live->app D fe id=b->∃i,Dy xs ids i id/\∀g,hasB w' b (rho id) g->¬S' g/\dA w' xs fin vs.toList i g:=fun id b hm hl Y=>by
  obtain⟨iX,i,_,zC,O⟩:=hb id b hm;rcases O with O | ⟨_,O⟩
  ·rw[Y,O]at hl;exact hl.elim
  exact⟨i,zC,O⟩
 exact
 {tm:=fun j hj=>(I.tm j hj).de T
  sz:=I.sz,df:=I.df,nb:=I.nb,pn:=I.pn
  ev:=hC.env _ _ _ _ I.ev hS mn hf.size
  s0:=fun b hb=>hS b (I.s0 b hb)
  st:=wh
  sb:=fun b hb=>by
   rcases Wu b hb with h | h | h
   ·exact I.sb b h
   ·exact .inr (.inr (aS I.fr.size h))
   exact .inr (mvS b h).2
  hp:=fun id hl=>by
   show fD _ _ _ _ _ _ _ (app D fe id);rcases fx fe D id with⟨b,U,O⟩ | ⟨U,O⟩
   ·rw[O];obtain⟨iX,i,h4,_,J⟩:=hb id b U;rcases J with J | ⟨J | J | J,_⟩
    ·rw[J];trivial
    ·rcases J with J | J
     ·obtain⟨e',es1,pT,h7,Z,h9⟩:=J;rw[Z];exact h9
     obtain⟨mk,es1,pT,h7,Z,h9⟩:=J;rw[Z];exact h9
    ·obtain⟨cs,ys,g,ty,c,h7,Z,h9,YS,h11,h12⟩:=J;rw[Z];refine⟨g,ty,c,h9,YS,by simpa using h11,fun j x u hj hu=>?_⟩;rw[aD]at hj;obtain⟨z,hz,rfl⟩:=qI.1 hj;exact⟨(h12 j z u hz hu).1,.p _ _ (h12 j z u hz hu).2⟩
    obtain⟨cs,oM,g,ty,c,h7,Z,h9,YS⟩:=J;rw[Z];exact⟨g,ty,c,h9,YS⟩
   rw[O];exact (I.hp id hl).de T (fun R g W=>hf.block g (I.lv id g hl R W).1 (same id g hl R U W)) (fun _=>rfl)
  dj:=fun i j g hi hj R lj fU N=>by
   have one:∀i j,L i->L j->(app D fe i).live->(app D fe j).live->hasB w' (app D fe i) (rho i) g->hasB w' (app D fe j) (rho j) g->(∃b,(i,b)∈fe/\app D fe i=b)->((∀p∈fe,p.1≠j)/\app D fe j=D j)->False:=by
    rintro i j hi hj R lj fU N ⟨b,m1,m2⟩ ⟨n1,n2⟩;rw[n2]at N lj;have N:=old j g hj lj n1 N;obtain⟨k,_,oQ⟩:=back i b m1 R m2;rw[m2]at fU;rcases (hok.1 k g (oQ g fU).2).2 with h | h
    ·have:=(I.lv j g hj lj N).1;exact absurd this (by omega)
    exact same j g hj lj n1 N h
   rcases fx fe D i with ci | ci
   ·rcases fx fe D j with cj | cj
    ·obtain⟨b,m1,m2⟩:=ci;obtain⟨c,n1,n2⟩:=cj;obtain⟨k1,p1,q1⟩:=back i b m1 R m2;obtain⟨k2,p2,q2⟩:=back j c n1 lj n2;have fU:hasB w' (app D fe i) (rho i) g:=fU;have N:hasB w' (app D fe j) (rho j) g:=N;rw[m2]at fU;rw[n2]at N;have:=hok.2 k1 k2 g (q1 g fU).2 (q2 g N).2;subst this;exact p1.uniq p2
    exact (one i j hi hj R lj fU N ci cj).elim
   rcases fx fe D j with cj | cj
   ·exact (one j i hj hi lj R N fU cj ci).elim
   have fU:hasB w' (app D fe i) (rho i) g:=fU;have N:hasB w' (app D fe j) (rho j) g:=N;have R:(app D fe i).live:=R;have lj:(app D fe j).live:=lj;rw[ci.2]at fU R;rw[cj.2]at N lj;exact I.dj i j g hi hj R lj (old i g hi R ci.1 fU) (old j g hj lj cj.1 N)
  lv:=fun id g hl R W=>by
   have W:hasB w' (app D fe id) (rho id) g:=W;have R:(app D fe id).live:=R;rcases fx fe D id with⟨b,U,O⟩ | ⟨U,O⟩
   ·obtain⟨k,_,q⟩:=back id b U R O;rw[O]at W;obtain⟨q1,q2⟩:=q g W;obtain⟨r1,r2⟩:=hok.1 k g q2;refine⟨r1,q1,?_⟩;rcases r2 with h | h
    ·exact .inr (aS I.fr.size h)
    exact (mvS g h).2
   rw[O]at W R;have W:=old id g hl R U W;obtain⟨h4,J,h6⟩:=I.lv id g hl R W;refine⟨cB h4 hf.size,fun hs=>?_,h6⟩;rcases Wu g hs with h | h | h
   ·exact J h
   ·omega
   exact same id g hl R U W h
  fr:=I.fr.next hf.os hf.tape hf.output hf.size fun k hk hn=>hf.block k (cB hk I.fr.size) fun hm=>by
   rcases (mvS k hm).2 with h | h
   ·exact hn h
   omega }
variable {Q:Exit->Act->World->Prop}
theorem sH{P:Program}{o:Oper}{a:Act}{w:World}{f:FuncId}{vs:Array Value}{next:Act->World->Prop}{R:Ending->World->Prop}(h:(execOp a.eval o).run P w=.ok (.enter f vs) w)(u:Calls P f vs w R)
  (z:∀e w',R e w'->∃v,e=.returned v/\next (a.put o.dst v) w'):o.wp P a w next Q:=by
 unfold Oper.wp;rw[h];refine u.mono fun e w' D=>?_;obtain⟨v,rfl,I⟩:=z e w' D;exact I
theorem J8(hC:bP A.C){o:Oper}{S:Nat->Prop}{a:Act}{w:World}{K:KK}{next:Act->World->Prop}(sim:cn A V L S rho s a w)(hd:∀d,o.dst=some d->d<A.n)
  (hn:∀v eff b,K v eff (some b)->¬L (o.dst.getD 0)/\s.h (o.dst.getD 0)=b)
  (hnext:∀v eff new S' rho' a' w',K v eff new->cn A (yy V o.dst) (Br L new (o.dst.getD 0)) S' rho' ⟨fE s.t o.dst v,app s.h eff⟩ a' w'->next a' w')
  (f:FuncId) (iB:List AV) (vs:Array Value) (hl:iB.length=vs.size)
  (hrep:∀(S2:Nat->Prop) (h2:Nat->AB),cn A V L S2 rho ⟨s.t,h2⟩ a w->∀(i:Nat) x v,iB[i]?=some x->vs.toList[i]?=some v->bu S2 w A.C.P L rho h2 x v)
  (hrun : (∃ fn : Func, A.C.P.funcs[f]? = some fn ∧ (fn.name == "runtime.NumGoroutine") = false ∧ fn.body.isNone = false) → (execOp a.eval o).run A.C.P w = .ok (.enter f vs) w) (hq : qL A.C s.h (o.dst.getD 0) f iB K) : o.wp A.C.P a w next Q := by
 unfold qL at hq;obtain⟨xs,ids,fz,S2,⟨r,fin,mV,hq⟩,bH,AJ,hF,Hs,hlen,H,hpv⟩:=NH hC iB vs.toList 0 s.h S _ (by simpa using hl) sim (su.refl _) hrep (fun _ h=>h) hq;split at hq
 ·rename_i fe sF;split at hq
  ·rename_i hok;obtain⟨hnf,SZ⟩:=J6 hok;have hh:∀id b,(id,b)∈ids->(app s.h fz) id=s.h id:=fun id b hm=>oa (hnf (id,b) hm);have own:∀id b,(id,b)∈ids->L id/\(app s.h fz id).live/\app s.h fz id=b:=fun id b hm=>by
    obtain⟨h1,h3,h4,_⟩:=H.back id b hm;have:=hh id b hm;exact⟨h1,by rw[this,h3];exact h4,by rw[this,h3]⟩
   have key:=mV.2 S2 w vs bH.ev bH.st (by simpa using hlen) (fun j x v hj hv=>by
     have JS:vs.toList[j]?=some v:=by simpa using hv
     cases hx:x.handed with
     | false=>
      cases x with
      | pv y=>exact hpv j y v hj JS
      | row=>cases hx
      | map=>cases hx
      | box=>cases hx
      | aU=>cases hx
     | true=>
      obtain⟨id,b,h1,h2,h3,h4,h5⟩:=H.at j x v hj JS hx;obtain⟨h6,h7,h8⟩:=own id b h1;have hp:=bH.hp id h6;have hp:fD S2 w A.C.P L rho (app s.h fz) id (app s.h fz id):=hp;rw[h8]at hp;rcases h5 with (⟨e,es,rfl,rfl⟩ | ⟨mk,es,rfl,rfl⟩) | ⟨cs,ys,rfl,rfl,hy⟩ | ⟨cs,rfl,rfl⟩
      ·rw[h4];exact⟨hp,fun g hg=>(bH.qd id g h6 h7 hg).2.1⟩
      ·rw[h4];exact⟨hp,fun g hg=>(bH.qd id g h6 h7 hg).2.1⟩
      ·obtain⟨g,ty,c,k1,k2,k3,k4⟩:=hp;obtain⟨k5,k6⟩:=gD hy;rw[h4];refine⟨g,ty,c,k1,k2,by rw[k3,k5],(bH.qd id g h6 h7 (by rw[k1];rfl)).2.1,fun i x u hi hu=>?_⟩;obtain⟨y,hy⟩:∃y,cs[i]?=some y:=⟨_,oX (by rw[k5];exact aC hi)⟩;obtain⟨k7,k8⟩:=k4 i y u hy hu;exact⟨k7,k8.AH (k6 i y x hy hi)⟩
      obtain⟨g,ty,c,k1,k2⟩:=hp;rw[h4];exact⟨g,ty,c,k1,k2,fun k hk=>by obtain⟨q1,q2,_⟩:=bH.lv id k h6 h7 (by show hasB w (app s.h fz id) _ _;rw[h8];exact hk);exact⟨q2,q1⟩⟩)
    (fun i j x y v u g hi hj hv hu hx hy hg qG=>by
     by_cases Ma:i=j
     ·exact Ma
     obtain⟨J5,nO,b1,b2,k1,k2,k3,k4,k5,f1,f2⟩:=H.inj SZ i j x y v u hi hj (by simpa using hv) (by simpa using hu) hx hy Ma;obtain⟨l1,v1,o1⟩:=own J5 b1 k2;obtain⟨l2,v2,o2⟩:=own nO b2 k3;exact absurd (bH.dj J5 nO g l1 l2 v1 v2 (by show hasB w (app s.h fz J5) _ _;rw[<-k4,o1];exact (wk f1).1 hg) (by show hasB w (app s.h fz nO) _ _;rw[<-k5,o2];exact (wk f2).1 qG)) k1)
   refine sH (hrun mV.1) key fun e w' sI=>?_;obtain⟨v,S',rfl,hf,hS',wh,Wu,hr,s7,Tv,hown⟩:=sI;refine⟨v,rfl,?_⟩;split at hq
   ·rename_i pd;simp only[aJ]at pd;have abM:ids=[]:=by cases ids with | nil=>rfl | cons p ids=>cases pd.2
    subst abM;have hf0:Fr (fun _=>False) w w':=⟨hf.os,hf.tape,hf.output,hf.size,fun k hk _=>hf.block k hk fun hm=>by
     obtain⟨id,b,h1,_⟩:=(H.mv k).1 hm;cases h1⟩
    have fu:=sim.grow hC w' hf0;refine hnext _ _ _ S rho _ _ hq (fu.value o.dst hd _ _ ?_);cases r with
    | p x=>exact .p _ _ (qf pd.1 hr)
    | own e es=>cases pd.1
    | hown cs=>cases pd.1
    | tu ys=>
     obtain⟨us,rfl,h1,h2⟩:=hr;refine .tu _ us (by simpa using h1) fun i c u hi hu=>?_;rw[aD]at hi;obtain⟨z,hz,rfl⟩:=qI.1 hi;exact .p _ _ (qf (dY.1 pd.1 z (aj hz)) (h2 i z u hz hu))
   have fu:=cn.handed hC bH H hh hf hS' wh Wu s7 Tv sF;have fu:cn A V L S' rho ⟨s.t,app s.h (fz++fe)⟩ a w':=by rw[cQ];exact fu
   cases r with
   | p x=>exact hnext _ _ _ S' rho _ _ hq (fu.value o.dst hd _ _ (.p _ _ hr))
   | tu ys=>
    refine hnext _ _ _ S' rho _ _ hq (fu.value o.dst hd _ _ ?_);obtain⟨us,rfl,h1,h2⟩:=hr;refine .tu _ us (by simpa using h1) fun i c u hi hu=>?_;rw[aD]at hi;obtain⟨z,hz,rfl⟩:=qI.1 hi;exact .p _ _ (h2 i z u hz hu)
   | own e es=>
    obtain⟨hL,hb⟩:=hn _ _ _ hq;have Ws:app s.h (fz++fe) (o.dst.getD 0)=.row e es:=by
     rw[jO (fun p hp (e:p.1=_)=>?_),hb];rcases fC.1 hp with h | h
     ·exact hL (by rw[<-e];exact Hs p h)
     obtain⟨hk,_⟩:=od H fin fe s7 sF;have:p.1∈ids.map (·.1):=by rw[<-hk];exact aZ.2 ⟨p,h,rfl⟩
     obtain⟨q,hq',hqe⟩:=aZ.1 this;obtain⟨hLq,_⟩:=own q.1 q.2 hq';exact hL (by rw[<-e,<-hqe];exact hLq)
    have Dz:=fu.sD hC (o.dst.getD 0) (AB.row e es) (fu.sa hd) hL Ws w' rfl rfl rfl (aG _) (fun k=>hasB w' (AB.row e es) v k) (fun _ _ _=>rfl) (fun k hk=>by
      have L4:=aI rfl hk;obtain⟨h1,h2,h3⟩:=hown k rfl (.inl L4);refine⟨hr.2 k L4,fun i hi li fU=>?_,?_⟩
      ·have qa:(app s.h (fz++fe) i).live:=li;rw[cQ]at qa;have fU:hasB w' (app s.h (fz++fe) i) (rho i) k:=fU;rw[cQ]at fU;rcases fx fe (app s.h fz) i with⟨b,m1,m2⟩ | ⟨m1,m2⟩
       ·obtain⟨oQ,Aj⟩:=od H fin fe s7 sF;obtain⟨iX,n,m3,_,m4⟩:=Aj i b m1;rcases m4 with m4 | ⟨_,m4⟩
        ·rw[m2,m4]at qa;exact qa
        rw[m2]at fU;exact h3 n (m4 k fU).2
       rw[m2]at qa fU;have YT:∀g,hasB w (app s.h fz i) (rho i) g->¬Mv w xs vs g:=fun g hg hm=>by
        obtain⟨Dl,b',m3,m4⟩:=(H.mv g).1 hm;obtain⟨m5,m6,m7⟩:=own Dl b' m3;have:=bH.dj i Dl g hi m5 qa m6 hg (by show hasB w (app s.h fz Dl) _ _;rw[m7];exact m4);subst this;obtain⟨oQ,_⟩:=od H fin fe s7 sF;have:i∈fe.map (·.1):=by rw[oQ];exact aZ.2 ⟨_,m3,rfl⟩
        obtain⟨p,hp,hpe⟩:=aZ.1 this;exact m1 p hp hpe
       have fU:=dJ (fun g hg=>hf.block g (bH.qd i g hi qa hg).1 (YT g (.inl hg))) fU;obtain⟨q1,q2,q3⟩:=bH.lv i k hi qa fU;rcases h2 with h2 | h2
       ·omega
       exact YT k fU h2
      ·rcases h2 with h2 | h2
       ·exact .inr (aS bH.fr.size h2)
       obtain⟨Dl,b',m3,m4⟩:=(H.mv k).1 h2;obtain⟨m5,m6,m7⟩:=own Dl b' m3;exact (bH.lv Dl k m5 m6 (by show hasB w (app s.h fz Dl) _ _;rw[m7];exact m4)).2.2) v (fun g hg=>⟨(hown g rfl (.inl (aI rfl hg))).1,.inr hg⟩) (fun T=>by
      show aH _ _ _ e es (a8 rho (o.dst.getD 0) v (o.dst.getD 0));rw[aF];exact hr.1)
    exact hnext _ _ _ S' _ _ _ hq (Dz.value o.dst hd _ _ (.ow _ _ fun _=>⟨.inr rfl,(aF _ _ _).symm⟩))
   | hown cs=>
    obtain⟨hL,hb⟩:=hn _ _ _ hq;obtain⟨g0,ty0,c0,Yi,Wv,oP⟩:=hr;have Ws:app s.h (fz++fe) (o.dst.getD 0)=.aU cs:=by
     rw[jO (fun p hp (e:p.1=_)=>?_),hb];rcases fC.1 hp with h | h
     ·exact hL (by rw[<-e];exact Hs p h)
     obtain⟨hk,_⟩:=od H fin fe s7 sF;have:p.1∈ids.map (·.1):=by rw[<-hk];exact aZ.2 ⟨p,h,rfl⟩
     obtain⟨q,hq',hqe⟩:=aZ.1 this;obtain⟨hLq,_⟩:=own q.1 q.2 hq';exact hL (by rw[<-e,<-hqe];exact hLq)
    have Dz:=fu.sD hC (o.dst.getD 0) (AB.aU cs) (fu.sa hd) hL Ws w' rfl rfl rfl (aG _) (fun k=>hasB w' (AB.aU cs) v k) (fun _ _ _=>rfl) (fun k hk=>by
      obtain⟨h1,h2,h3⟩:=hown k rfl hk;refine⟨oP k hk,fun i hi li fU=>?_,?_⟩
      ·have qa:(app s.h (fz++fe) i).live:=li;rw[cQ]at qa;have fU:hasB w' (app s.h (fz++fe) i) (rho i) k:=fU;rw[cQ]at fU;rcases fx fe (app s.h fz) i with⟨b,m1,m2⟩ | ⟨m1,m2⟩
       ·obtain⟨oQ,Aj⟩:=od H fin fe s7 sF;obtain⟨iX,n,m3,_,m4⟩:=Aj i b m1;rcases m4 with m4 | ⟨_,m4⟩
        ·rw[m2,m4]at qa;exact qa
        rw[m2]at fU;exact h3 n (m4 k fU).2
       rw[m2]at qa fU;have YT:∀g,hasB w (app s.h fz i) (rho i) g->¬Mv w xs vs g:=fun g hg hm=>by
        obtain⟨Dl,b',m3,m4⟩:=(H.mv g).1 hm;obtain⟨m5,m6,m7⟩:=own Dl b' m3;have:=bH.dj i Dl g hi m5 qa m6 hg (by show hasB w (app s.h fz Dl) _ _;rw[m7];exact m4);subst this;obtain⟨oQ,_⟩:=od H fin fe s7 sF;have:i∈fe.map (·.1):=by rw[oQ];exact aZ.2 ⟨_,m3,rfl⟩
        obtain⟨p,hp,hpe⟩:=aZ.1 this;exact m1 p hp hpe
       have fU:=dJ (fun g hg=>hf.block g (bH.qd i g hi qa hg).1 (YT g (.inl hg))) fU;obtain⟨q1,q2,q3⟩:=bH.lv i k hi qa fU;rcases h2 with h2 | h2
       ·omega
       exact YT k fU h2
      ·rcases h2 with h2 | h2
       ·exact .inr (aS bH.fr.size h2)
       obtain⟨Dl,b',m3,m4⟩:=(H.mv k).1 h2;obtain⟨m5,m6,m7⟩:=own Dl b' m3;exact (bH.lv Dl k m5 m6 (by show hasB w (app s.h fz Dl) _ _;rw[m7];exact m4)).2.2) v (fun g hg=>⟨(hown g rfl hg).1,.inr hg⟩) (fun T=>by
      exact⟨g0,ty0,c0,by rw[aF];exact Yi,Wv⟩)
    exact hnext _ _ _ S' _ _ _ hq (Dz.value o.dst hd _ _ (.bx _ _ _ fun _=>⟨.inr rfl,g0,by rw[aF];exact Yi,Yi⟩))
  exact hq.elim
 exact hq.elim
theorem qb.rep(hC:bP A.C){S:Nat->Prop}{a:Act}{w:World}(N:cn A V L S rho s a w){x:AV}{y:PV}{v:Value}(hv:qb s.h x y)(D:bu S w A.C.P L rho s.h x v):
  aO (fun b=>S b\/∃id,L id/\(s.h id).live/\hasB w (s.h id) (rho id) b) w y v:=by
 have hS:∀b,S b->S b\/∃id,L id/\(s.h id).live/\hasB w (s.h id) (rho id) b:=fun b h=>.inl h;cases hv with
 | p=>exact D.eY.mono hS (fun _ _=>rfl)
 | nl=>cases D;exact .nil _ _
 | row id e es z=>
  obtain⟨I,rfl⟩:=D.cZ (by rw[z];trivial);have J:=N.hp id I;rw[z]at J;exact aH.Hr J hS fun g Y=>.inr ⟨id,I,by rw[z];trivial,.inl Y⟩
 | lz id es z=>
  obtain⟨I,rfl⟩:=D.cZ (by rw[z];trivial);have J:=N.hp id I;rw[z]at J;exact aO.mono J hS (fun _ _=>rfl)
 | aw id e es ps z hp=>
  obtain⟨I,rfl⟩:=D.cZ (by rw[z];trivial);have J:=N.hp id I;rw[z]at J;obtain⟨hR,_⟩:=J;have bY:(s.h id).live:=by rw[z];trivial
  have Z:aH A.C.P w (aO (fun b=>S b\/∃id,L id/\(s.h id).live/\hasB w (s.h id) (rho id) b) w) e ps (rho id):=by
   have hR':=hR;obtain⟨i,ws,h1,h2,h3,h4,h5,h6⟩:=hR';have old:∀{a:Nat} {q:List PV},ps[a]?=some q->∃r,es[a]?=some r:=fun {a q} U=>⟨_,oX (by rw[<-hp.len];exact aC U)⟩;refine⟨i,ws,h1,h2,by rw[hp.len];exact h3,fun q hq=>?_,h5,fun k q j y U hj=>?_⟩
   ·obtain⟨k,hk⟩:=ca.1 hq;obtain⟨r,z⟩:=old hk;rw[(hp.row k r q z hk).1];exact h4 r (aj z)
   obtain⟨r,YU⟩:=old U;obtain⟨hlen,O⟩:=hp.row k r q YU U;obtain⟨x,D⟩:∃x,r[j]?=some x:=⟨_,oX (by rw[<-hlen];exact aC hj)⟩;obtain⟨u,hu,R⟩:=h6 k r j x YU D;refine⟨u,hu,?_⟩;have:=O j x y D hj;cases this with
   | p x=>exact (bu.eY R).mono hS (fun _ _=>rfl)
   | nl=>
    have R:bu S w A.C.P L rho s.h .nl u:=R;cases R;exact .nil _ _
   | row e' xs=>
    have R:aH A.C.P w (aO S w) e' xs u:=R;refine aH.Hr R hS fun b hb=>.inr ⟨id,I,bY,?_⟩;obtain⟨g,u2,g1,g2,_⟩:=hR.Hl YU D;have:u2=u:=by
     obtain⟨_,_,_,_,_,W⟩:=(tE h3 h4 g1).1 g2;rw[hu]at W;injection W with W;exact W.symm
    subst this;rw[z];exact .inr (.inr ⟨_,_,_,_,_,_,rfl,g1,g2,hb⟩)
  exact aH.Hr Z (fun _ h=>h) fun g Y=>.inr ⟨id,I,bY,.inl Y⟩
theorem qM.at{h:Nat->AB}{as:List AV}{xs:List PV}(D:qM h as xs):as.length=xs.length/\∀(i:Nat) a x,as[i]?=some a->xs[i]?=some x->qb h a x:=by
 induction D with
 | nil=>exact⟨rfl,fun i a x h=>by simp at h⟩
 | cons h1 h2 ih=>
  refine⟨by simp[ih.1],fun i a x u z=>?_⟩;cases i with
  | zero=>simp at u z;subst u z;exact h1
  | succ i=>exact ih.2 i a x (by simpa using u) (by simpa using z)
theorem View.rep(hC:bP A.C){S:Nat->Prop}{a:Act}{w:World}(z:cn A V L S rho s a w){x:AV}{y:PV}{v:Value}(I:View s.h x y)(W:bu S w A.C.P L rho s.h x v):
  aO (fun b=>S b\/∃id,L id/\(s.h id).live/\hasB w (s.h id) (rho id) b) w y v:=by
 have hS:∀b,S b->S b\/∃id,L id/\(s.h id).live/\hasB w (s.h id) (rho id) b:=fun b h=>.inl h;cases I with
 | one h1=>exact h1.rep hC z W
 | box id off cs xs hb uN=>
  obtain⟨O,g,R,I⟩:=W.hY (by rw[hb];trivial);have J:=z.hp id O;rw[hb]at J;obtain⟨g',ty,c,D,k2,k3,k4⟩:=J;rw[R]at D;injection D with D;injection D with D;injection D with D;subst D;obtain⟨hl,Bv⟩:=uN.at;have Z:∀(i:Nat) x,xs[i]?=some x->∃u,c[i]?=some u/\u.oneCell'=true/\aO (fun b=>S b\/∃id,L id/\(s.h id).live/\hasB w (s.h id) (rho id) b) w x u:=by
   intro i x hi;obtain⟨y,Y⟩:∃y,cs[i]?=some y:=⟨_,oX (by rw[hl];exact aC hi)⟩;obtain⟨u,hu⟩:=aau k3.symm (aC Y);obtain⟨N,U⟩:=k4 _ _ _ Y hu;exact⟨u,hu,N,(Bv i y x Y hi).rep hC z U⟩
  have:aO (fun b=>S b\/∃id,L id/\(s.h id).live/\hasB w (s.h id) (rho id) b) w (.ip xs) (.pointer (some ⟨g,0,none⟩)):=by
   refine .ip xs g 0 (fun i=>(c[i]?).getD undef) (.inr ⟨id,O,by rw[hb];trivial,.inl (by rw[R];rfl)⟩) (fun i x hi=>?_) fun i x hi=>?_
   ·obtain⟨u,N,U,h7⟩:=Z i x hi;rw[fX,cell_of_row w g i c ty (0,0) k2,N];exact⟨rfl,U⟩
   obtain⟨u,N,U,h7⟩:=Z i x hi;rw[N];exact h7
  rw[I];exact this.wg rfl
 | nd id off xs hb=>
  obtain⟨O,g,R,I⟩:=W.hY (by rw[hb];trivial);have J:=z.hp id O;rw[hb]at J;have V_:aO _ w (.ip xs) (rho id):=J;rw[I];exact (V_.wg R).mono hS (fun _ _=>rfl)
theorem v8.at{h:Nat->AB}{as:List AV}{xs:List PV}(D:v8 h as xs):as.length=xs.length/\∀(i:Nat) a x,as[i]?=some a->xs[i]?=some x->View h a x:=by
 induction D with
 | nil=>exact⟨rfl,fun i a x h=>by simp at h⟩
 | cons h1 h2 ih=>
  refine⟨by simp[ih.1],fun i a x u z=>?_⟩;cases i with
  | zero=>simp at u z;subst u z;exact h1
  | succ i=>exact ih.2 i a x (by simpa using u) (by simpa using z)
theorem Hw{h:Nat->AB}{c:AV}(u:yx h c=true):(∃es,c=.p (.sl es))\/(∃a m n,c=.p (.im (.slice a m n)))\/(∃i e es,c=.ow i/\h i=.row e es)\/c=.nl:=by
 unfold yx at u;split at u
 ·exact .inl ⟨_,rfl⟩
 ·exact .inr (.inl ⟨_,_,_,rfl⟩)
 ·split at u
  ·rename_i z;exact .inr (.inr (.inl ⟨_,_,_,rfl,z⟩))
  cases u
 ·exact .inr (.inr (.inr rfl))
 cases u
def Qe(a:AV)(u:Value):PV:=match a with
 | .p x=>x
 | _=>.im u
theorem BC{S:Nat->Prop}{w:World}{g:Nat}{c:Array Value}{R:TypeId}(Y:w.heap[g]?=some (.cells c R (0,0)))(Z:∀(j:Nat) u,c[j]?=some u->∀k n,u≠.int k n)(hS:∀b,S b->S' b\/b=g){x:PV}{v:Value}(hi:V1 x)(h:aO S w x v):aO S' w x v:=by
 cases h with
 | im=>exact .im _
 | nil a c=>exact .nil a c
 | ag cs vs hl z h=>exact hi.elim
 | ip cs b off U hS hcell h=>exact hi.elim
 | fn f cap vs hl h=>exact hi.elim
 | mp=>exact hi.elim
 | sl es k b off cp U N hb hk hcell h=>
  have J:∀(i:Nat) e (j:Nat) x,es[i]?=some e->e[j]?=some x->∃I n,x=.im (.int I n):=fun i e j x z D=>by
   obtain⟨I,n,O⟩:=hi e (aj z);subst O;cases j with
   | zero=>simp at D;exact⟨I,n,D.symm⟩
   | succ j=>simp at D
  cases es with
  | nil=>exact .nil _ _
  | cons e es=>
   rcases hS b hb with hb | hb
   ·refine .sl _ k b off cp U N hb hk hcell fun i e j x z D=>?_;obtain⟨I,n,hx⟩:=J i e j x z D;have W:=h i e j x z D;subst hx;generalize U i j=u at W ⊢;cases W;exact .im _
   subst hb;obtain⟨I,n,O⟩:=hi e bW;subst O;have z:=(hcell 0 _ 0 _ rfl rfl).1;have D:=h 0 _ 0 _ rfl rfl;generalize U 0 0=u0 at z D;cases D;rw[cell_of_row w b _ c R (0,0) Y]at z;exact absurd rfl (Z _ _ z I n)
theorem Qf{S:Nat->Prop}{w:World}{g:Nat}{c:Array Value}{J:TypeId}(z:w.heap[g]?=some (.cells c J (0,0)))(D:∀(j:Nat) u,c[j]?=some u->∀k n,u≠.int k n)(hS:∀b,S b->S' b\/b=g){x:PV}{v:Value}(hi:Yv x)(h:aO S w x v):aO S' w x v:=by
 cases x with
 | ag cs=>
  cases h with
  | ag cs vs hl h1 h=>exact .ag cs vs hl h1 fun i a u I N=>BC z D hS (hi a (aj I)) (h i a u I N)
 | im x=>exact BC z D hS hi h
 | sl es=>exact BC z D hS hi h
 | ip cs=>exact hi.elim
 | fn f cap=>exact hi.elim
 | mp mk es=>exact hi.elim
theorem Qg{S:Nat->Prop}{P:Program}{w:World}{e:TypeId}{es:List (List PV)}{v:Value}(h:aH P w (aO S w) e es v)(hS:∀b,S b->S' b):aH P w (aO S' w) e es v:=by
 obtain⟨i,xs,z,D,I,J,N,O⟩:=h;exact⟨i,xs,z,D,I,J,N,fun a r j x R U=>by obtain⟨u,W,Y⟩:=O a r j x R U;exact⟨u,W,Y.mono hS fun _ _=>rfl⟩⟩
theorem Qh{S:Nat->Prop}{P:Program}{w:World}{e:TypeId}{es:List (List PV)}{v:Value}(h:aH P w (aO S w) e es v)(J:∀r∈es,∀z∈r,Hk z=true):aH P w (aO S' w) e es v:=by
 obtain⟨i,xs,N,O,R,U,W,Y⟩:=h;exact⟨i,xs,N,O,R,U,W,fun a r j x D I=>by obtain⟨u,Z,hr⟩:=Y a r j x D I;exact⟨u,Z,qf (J r (aj D) x (aj I)) hr⟩⟩
theorem NI(hC:bP A.C){o:Oper}{S:Nat->Prop}{a:Act}{w:World}{K:KK}{next:Act->World->Prop}(sim:cn A V L S rho s a w)(hd:∀d,o.dst=some d->d<A.n)
  (hnext:∀v eff new S' rho' a' w',K v eff new->cn A (yy V o.dst) (Br L new (o.dst.getD 0)) S' rho' ⟨fE s.t o.dst v,app s.h eff⟩ a' w'->next a' w')
  (f:FuncId) (iB:List AV) (vs:Array Value) (hl:iB.length=vs.size)
  (hrep:∀(S2:Nat->Prop) (h2:Nat->AB),cn A V L S2 rho ⟨s.t,h2⟩ a w->∀(i:Nat) x v,iB[i]?=some x->vs.toList[i]?=some v->bu S2 w A.C.P L rho h2 x v)
  (hrun : (∃ fn : Func, A.C.P.funcs[f]? = some fn ∧ (fn.name == "runtime.NumGoroutine") = false ∧ fn.body.isNone = false) → (execOp a.eval o).run A.C.P w = .ok (.enter f vs) w) (hq : Bl A.C s.h f iB K) : o.wp A.C.P a w next Q := by
 unfold Bl at hq;split at hq
 ·rename_i id y iU;split at hq
  ·rename_i cs e es hb hr;obtain⟨x,dv,mV,Qi,hint,hpf,hk⟩:=hq;obtain⟨v0,v1,v2,rfl⟩:∃v0 v1 v2,vs=#[v0,v1,v2]:=by
    obtain⟨l⟩:=vs
    match l,hl with
    | [v0,v1,v2],_=>exact⟨v0,v1,v2,rfl⟩
   have r0:=hrep S s.h sim 0 _ v0 rfl rfl;have r1:=(hrep S s.h sim 1 _ v1 rfl rfl).eY;obtain⟨YV,rfl⟩:=(hrep S s.h sim 2 _ v2 rfl rfl).cZ (by rw[hr];trivial);obtain⟨hL,g,hg,rfl⟩:=r0.hY (by rw[hb];trivial);have hh:=sim.hp id hL;rw[hb]at hh;obtain⟨g',ty,c,k1,k2,k3,k4⟩:=hh;rw[hg]at k1;injection k1 with k1;injection k1 with k1;injection k1 with k1;subst k1;have aw:=sim.hp iU YV;rw[hr]at aw;have aw:aH A.C.P w (aO S w) e es (rho iU):=aw;have cO:id≠iU:=fun e=>by rw[e,hr]at hb;cases hb
   have lid:(s.h id).live:=by rw[hb];trivial
   have Ww:(s.h iU).live:=by rw[hr];trivial
   have hgr:∀b,cF (rho iU)=some b->b≠g:=fun b hb' e=>cO (sim.Yw id iU g hL YV lid Ww (by rw[hg];rfl) (by rw[<-e];exact hb'));obtain⟨vt,hgS,_⟩:=sim.qd id g hL lid (by rw[hg];rfl);have YW:∀(j:Nat) u,c[j]?=some u->∀k n,u≠.int k n:=fun j u hu k n hn=>by
    obtain⟨av,Vk⟩:∃av,cs[j]?=some av:=⟨_,oX (by rw[<-k3];exact (qS.1 hu).1)⟩;have h1:=Qi av (aj Vk);have h2:=(k4 j av u Vk hu).2;subst hn;rcases Hw h1 with⟨zs,rfl⟩ | ⟨_,_,_,rfl⟩ | ⟨i,e2,pT,rfl,oP⟩ | rfl
    ·have:=h2.eY;cases this
    ·have:=h2.eY;cases this
    ·obtain⟨hL3,h3⟩:=h2.cZ (by rw[oP];trivial);have h4:=sim.hp i hL3;rw[oP]at h4;obtain⟨_,_,_,_,h5,_⟩:=h4;obtain⟨_,_,h6⟩:=dQ h5;rw[<-h3]at h6;cases h6
    cases h2
   have jy:∀(j:Nat) z,(List.zipWith Qe cs c.toList)[j]?=some z->∃u,c[j]?=some u/\u.oneCell'=true/\aO S w z u:=fun j z hz=>by
    rw[List.getElem?_zipWith]at hz;cases h1:cs[j]? with
    | none=>rw[h1]at hz;cases hz
    | some av=>
     cases h2:c.toList[j]? with
     | none=>rw[h1,h2]at hz;cases hz
     | some u=>
      rw[h1,h2]at hz;simp only[Option.some.injEq]at hz;have hu:c[j]?=some u:=by rw[<-kC];exact h2
      obtain⟨q1,q2⟩:=k4 j av u h1 hu;refine⟨u,hu,q1,?_⟩;rw[<-hz];unfold Qe;split
      ·exact q2.eY
      exact .im _
   have abT:Va cs (List.zipWith Qe cs c.toList):=⟨by simp[List.length_zipWith,k3],fun j z hz=>by
    obtain⟨u,hu⟩:∃u,c.toList[j]?=some u:=⟨_,oX (by have:=aC hz;simp[k3];exact this)⟩;rw[List.getElem?_zipWith,hz,hu];rfl⟩
   obtain⟨S1,YX⟩:∃S1:Nat->Prop,S1=fun b=>S b\/b=g:=⟨_,rfl⟩;have AJ:∀b,S b->S1 b:=fun b h=>by rw[YX];exact .inl h
   have mV:=mV _ abT;have key:=mV.2 S1 w #[.pointer (some ⟨g,0,none⟩),v1,rho iU] (hC.env _ _ _ _ sim.ev AJ (fun _ _=>rfl) (aG _)) (fun b h=>by
     rw[YX]at h;rcases h with h | h
     ·exact sim.st b h
     ·rw[h];exact vt) rfl (fun j z v hj hv=>by
     match j with
     | 0=>
      simp only[wi,Option.some.injEq]at hj;have hv:Value.pointer (some ⟨g,0,none⟩)=v:=by simpa using hv
      subst hj;subst hv;refine .ip _ g 0 (fun i=>(c[i]?).getD undef) (by rw[YX];exact .inr rfl) (fun i z hi=>?_) fun i z hi=>?_
      ·obtain⟨u,h5,h6,h7⟩:=jy i z hi;rw[fX,cell_of_row w g i c ty (0,0) k2,h5];exact⟨rfl,h6⟩
      obtain⟨u,h5,h6,h7⟩:=jy i z hi;rw[h5];exact h7.mono AJ fun _ _=>rfl
     | 1=>
      simp only[vX,wi,Option.some.injEq]at hj;have hv:v1=v:=by simpa using hv
      subst hj;subst hv;exact r1.mono AJ fun _ _=>rfl
     | 2=>
      simp only[vX,wi,Option.some.injEq]at hj;have hv:rho iU=v:=by simpa using hv
      subst hj;subst hv;refine⟨Qg aw AJ,fun b hb' h=>?_⟩;rw[YX]at h;rcases h with h | h
      ·exact (sim.qd iU b YV Ww hb').2.1 h
      exact hgr b hb' h
     | j+3=>simp at hj) (fun i j z z' v u b hi hj hv hu hx hy _ _=>by
     match i,j with
     | 2,2=>rfl
     | 0,_=>simp at hi;subst hi;cases hx
     | 1,_=>simp at hi;subst hi;cases hx
     | i+3,_=>simp at hi
     | _,0=>simp at hj;subst hj;cases hy
     | _,1=>simp at hj;subst hj;cases hy
     | _,j+3=>simp at hj)
   have H:gn L rho s.h [.pv (.ip (List.zipWith Qe cs c.toList)),.pv y,.row e es] [.pointer (some ⟨g,0,none⟩),v1,rho iU] [(iU,.row e es)]:=.pv _ _ (.pv _ _ (.row iU e es YV hr .nil));refine sH (hrun mV.1) key fun e' w' sI=>?_;obtain⟨v,S',rfl,hf,hS',wh,Wu,yz,s7,Tv,hown⟩:=sI;refine⟨v,rfl,?_⟩;have mvb:∀b,Mv w [.pv (.ip (List.zipWith Qe cs c.toList)),.pv y,.row e es] #[.pointer (some ⟨g,0,none⟩),v1,rho iU] b->cF (rho iU)=some b:=fun b hm=>by
    obtain⟨Dl,b',h1,h2⟩:=(H.mv b).1 hm;simp only[Fp,Prod.mk.injEq]at h1;obtain⟨rfl,rfl⟩:=h1;exact aI rfl h2
   have qG:w'.heap[g]?=some (.cells c ty (0,0)):=by
    rw[hf.block g vt fun hm=>hgr g (mvb g hm) rfl];exact k2
   have Pw:pS S' w' A.C.P (.row e es) (.row dv) (rho iU):=s7.1;obtain⟨S2,YY⟩:∃S2:Nat->Prop,S2=fun b=>S b\/(S' b/\w.heap.size<=b):=⟨_,rfl⟩;have YZ:∀b,S b->S2 b:=fun b h=>by rw[YY];exact .inl h
   have hx:aO S2 w' x v:=Qf qG YW (fun b h=>by
    rcases Wu b h with h1 | h1 | h1
    ·rw[YX]at h1;rcases h1 with h1 | h1
     ·exact .inl (YZ b h1)
     exact .inr h1
    ·rw[YY];exact .inl (.inr ⟨h,h1⟩)
    exact absurd h (Pw.2 b (mvb b h1))) hint yz
   have fu:=cn.handed (S':=S2) hC sim H (fun _ _ _=>rfl) hf YZ (fun b h=>by
    rw[YY]at h;rcases h with h | h
    ·exact cB (sim.st b h) hf.size
    ·exact wh b h.1) (fun b h=>by
    rw[YY]at h;rcases h with h | h
    ·exact .inl h
    ·exact .inr (.inl h.2)) (fin:=[.row dv]) (show pS S2 w' A.C.P (.row e es) (.row dv) (rho iU)/\True from ⟨⟨Qh Pw.1 hpf,fun b hb' h=>by
    rw[YY]at h;rcases h with h | h
    ·exact (sim.qd iU b YV Ww hb').2.1 h
    exact Pw.2 b hb' h.1⟩,trivial⟩) Tv (fe:=[(iU,.row e dv)]) rfl
   exact hnext _ _ _ S2 rho _ _ hk (fu.value o.dst hd _ _ (.p _ _ hx))
  exact hq.elim
 exact hq.elim
theorem J9(hC:bP A.C){o:Oper}{S:Nat->Prop}{a:Act}{w:World}{K:KK}{next:Act->World->Prop}(sim:cn A V L S rho s a w)(hd:∀d,o.dst=some d->d<A.n)
  (hn:∀v eff b,K v eff (some b)->¬L (o.dst.getD 0)/\s.h (o.dst.getD 0)=b)
  (hnext:∀v eff new S' rho' a' w',K v eff new->cn A (yy V o.dst) (Br L new (o.dst.getD 0)) S' rho' ⟨fE s.t o.dst v,app s.h eff⟩ a' w'->next a' w')
  (f:FuncId) (iB:List AV) (vs:Array Value) (hl:iB.length=vs.size)
  (hrep:∀(S2:Nat->Prop) (h2:Nat->AB),cn A V L S2 rho ⟨s.t,h2⟩ a w->∀(i:Nat) x v,iB[i]?=some x->vs.toList[i]?=some v->bu S2 w A.C.P L rho h2 x v)
  (hrun : (∃ fn : Func, A.C.P.funcs[f]? = some fn ∧ (fn.name == "runtime.NumGoroutine") = false ∧ fn.body.isNone = false) → (execOp a.eval o).run A.C.P w = .ok (.enter f vs) w) (hq : qN A.C s.h (o.dst.getD 0) f iB K) : o.wp A.C.P a w next Q := by
 unfold qN at hq;split at hq
 ·exact J8 hC sim hd hn hnext f iB vs hl hrep hrun hq
 split at hq;rotate_left
 ·exact NI hC sim hd hnext f iB vs hl hrep hrun hq
 obtain⟨xs,r,PY,mV,pd,hq⟩:=hq;obtain⟨YO,hva⟩:=PY.at;have key:=mV.2 (fun b=>S b\/∃id,L id/\(s.h id).live/\hasB w (s.h id) (rho id) b) w vs (hC.env _ _ _ _ sim.ev (fun b h=>.inl h) (fun _ _=>rfl) (aG _)) (fun b h=>h.elim (sim.st b) fun ⟨id,h1,h2,h3⟩=>(sim.lv id b h1 h2 h3).1) (by simp[<-YO,hl]) (fun j x v hj hv=>by
   rw[aD]at hj;obtain⟨y,hy,rfl⟩:=qI.1 hj;obtain⟨av,Vk⟩:∃av,iB[j]?=some av:=⟨_,oX (by rw[YO];exact aC hy)⟩;exact (hva j av y Vk hy).rep hC sim (hrep S s.h sim j av v Vk (by simpa using hv))) (fun i j x y v u g hi hj hv hu hx=>by
   rw[aD]at hi;obtain⟨z,_,rfl⟩:=qI.1 hi;cases hx)
 refine sH (hrun mV.1) key fun e w' sI=>?_;obtain⟨v,S',rfl,hf,hS',wh,Wu,hr,s7,Tv,hown⟩:=sI;refine⟨v,rfl,?_⟩;have hf0:Fr (fun _=>False) w w':=⟨hf.os,hf.tape,hf.output,hf.size,fun k hk _=>hf.block k hk fun ⟨j,x,v,hj,_,hx,_⟩=>by
  rw[aD]at hj;obtain⟨z,_,rfl⟩:=qI.1 hj;cases hx⟩
 have fu:=sim.grow hC w' hf0;refine hnext _ _ _ S rho _ _ hq (fu.value o.dst hd _ _ ?_);cases r with
 | p x=>exact .p _ _ (qf pd hr)
 | own e es=>cases pd
 | hown cs=>cases pd
 | tu ys=>
  obtain⟨us,rfl,h1,h2⟩:=hr;refine .tu _ us (by simpa using h1) fun i c u hi hu=>?_;rw[aD]at hi;obtain⟨z,hz,rfl⟩:=qI.1 hi;exact .p _ _ (qf (dY.1 pd z (aj hz)) (h2 i z u hz hu))
theorem Hx:∀(u:List (Nat×Value)) (c:Array Value),(Yd u c).size=c.size
 | [],c=>rfl
 | (j,v)::r,c=>by rw[Yd,Hx r,o_]
theorem Mb:∀(u:List (Nat×Value)) (c:List PV),(LR u c).length=c.length
 | [],c=>rfl
 | (j,v)::r,c=>by rw[LR,Mb r,aQ]
theorem Vl:∀(I:List (Nat×Value)) (c:Array Value) (cs:List PV) (j:Nat) x u,c.size=cs.length->(LR I cs)[j]?=some x->(Yd I c)[j]?=some u->(∃v,(∃k,(k,v)∈I)/\x=.im v/\u=v)\/(cs[j]?=some x/\c[j]?=some u)
 | [],c,cs,j,x,u,_,hx,hu=>.inr ⟨hx,hu⟩
 | (k,v)::r,c,cs,j,x,u,hl,hx,hu=>by
  rw[LR]at hx;rw[Yd]at hu;rcases Vl r (c.setIfInBounds k v) (cs.set k (.im v)) j x u (by rw[o_,aQ,hl]) hx hu with⟨J,⟨N,z⟩,D⟩ | ⟨z,D⟩
  ·exact .inl ⟨J,⟨N,cD _ z⟩,D⟩
  by_cases e:j=k
  ·subst e;have O:j<cs.length:=by have:=aC z;rwa [aQ]at this
   rw[dZ O]at z;rw[Aw,ae rfl,ae (by omega)]at D;injection z with z;injection D with D;exact .inl ⟨v,⟨j,bW ..⟩,z.symm,D.symm⟩
  rw[gC (fun h=>e h.symm)]at z;rw[Aw,aa (fun h=>e h.symm)]at D;exact .inr ⟨z,D⟩
theorem Hy:∀{D:List (Nat×Value)} {k:Nat} {v:Value},JQ D=true->(k,v)∈D->v.oneCell'=true
 | (j,u)::r,k,v,h,z=>by
  rw[JQ,aJ]at h;rcases L8.1 z with e | z
  ·injection e with _ e;exact e▸h.1
  exact Hy h.2 z
theorem Mc{ys:List PV}:∀{D:List (Nat×Value)},Nq ys D->∀p∈D,ys[p.1]?=some (.im p.2)
 | (j,u)::r,h,p,z=>by
  rcases L8.1 z with e | z
  ·subst e;exact h.1
  exact Mc h.2 p z
theorem NJ(hC:bP A.C){o:Oper}{S:Nat->Prop}{a:Act}{w:World}{K:KK}{next:Act->World->Prop}(sim:cn A V L S rho s a w)(hd:∀d,o.dst=some d->d<A.n)
  (hn:∀v eff b,K v eff (some b)->¬L (o.dst.getD 0)/\s.h (o.dst.getD 0)=b)
  (hnext:∀v eff new S' rho' a' w',K v eff new->cn A (yy V o.dst) (Br L new (o.dst.getD 0)) S' rho' ⟨fE s.t o.dst v,app s.h eff⟩ a' w'->next a' w')
  (f:FuncId) (iB:List AV) (vs:Array Value) (hl:iB.length=vs.size)
  (hrep:∀(S2:Nat->Prop) (h2:Nat->AB),cn A V L S2 rho ⟨s.t,h2⟩ a w->∀(i:Nat) x v,iB[i]?=some x->vs.toList[i]?=some v->bu S2 w A.C.P L rho h2 x v)
  (hrun : (∃ fn : Func, A.C.P.funcs[f]? = some fn ∧ (fn.name == "runtime.NumGoroutine") = false ∧ fn.body.isNone = false) → (execOp a.eval o).run A.C.P w = .ok (.enter f vs) w) (hq : Bm A.C s.h f iB K) : o.wp A.C.P a w next Q := by
 unfold Bm at hq;split at hq
 case h_2=>exact hq.elim
 rename_i id y nO off;split at hq
 case h_2=>exact hq.elim
 rename_i cs Pv hb;split at hq
 case h_2=>exact hq.elim
 rename_i ys hy;obtain⟨rd,wr,r,mV,J_,hwr,hk⟩:=hq;have e2:nO=id:=cY Pv;subst e2;obtain⟨v0,v1,v2,rfl⟩:∃v0 v1 v2,vs=#[v0,v1,v2]:=by
  obtain⟨l⟩:=vs
  match l,hl with
  | [v0,v1,v2],_=>exact⟨v0,v1,v2,rfl⟩
 have r0:=hrep S s.h sim 0 _ v0 rfl rfl;have r1:=(hrep S s.h sim 1 _ v1 rfl rfl).eY;have r2:=hrep S s.h sim 2 _ v2 rfl rfl;obtain⟨hL,g,hg,rfl⟩:=r0.hY (by rw[hb];trivial);obtain⟨_,g2,NK,rfl⟩:=r2.hY (by rw[hb];trivial);rw[hg]at NK;injection NK with NK;injection NK with NK;injection NK with NK;subst NK;have lid:(s.h nO).live:=by rw[hb];trivial
 have hh:=sim.hp nO hL;rw[hb]at hh;obtain⟨g',ty,c,k1,k2,k3,k4⟩:=hh;rw[hg]at k1;injection k1 with k1;injection k1 with k1;injection k1 with k1;subst k1;obtain⟨vt,hgS,_⟩:=sim.qd nO g hL lid (by rw[hg];rfl);obtain⟨Y0,hya⟩:=gD hy;have hcell:∀(j:Nat) x u,ys[j]?=some x->c[j]?=some u->u.oneCell'=true/\aO S w x u:=fun j x u hx hu=>by
  obtain⟨av,Vk⟩:∃av,cs[j]?=some av:=⟨_,oX (by rw[Y0];exact aC hx)⟩;obtain⟨h1,h2⟩:=k4 j av u Vk hu;refine⟨h1,?_⟩;rcases hya j av x Vk hx with e | ⟨e,e'⟩
  ·subst e;exact h2.eY
  subst e;subst e';cases h2;exact .nil _ _
 have key:=mV.2 S w v1 g c ty sim.ev sim.st r1 k2 (by omega) hgS (fun p hp=>by
  have h1:=Mc J_ p hp;obtain⟨u,hu⟩:∃u,c[p.1]?=some u:=⟨_,cC (by have:=aC h1;omega)⟩;have h2:=(hcell _ _ u h1 hu).2;rw[hu,h2.bZ])
 refine sH (hrun mV.1) key fun e' w' sI=>?_;obtain⟨rfl,hf,hw⟩:=sI;refine⟨r,rfl,?_⟩;have H:gn L rho s.h [.box ys] [rho nO] [(nO,.box cs)]:=.box nO cs ys hL hb hy .nil;have Md:∀k,k=g->Mv w [.box ys] #[rho nO] k:=fun k e=>⟨0,_,_,rfl,rfl,rfl,.inl (by rw[hg,e];rfl)⟩;have mvb:∀k,Mv w [.box ys] #[rho nO] k->k=g:=fun k ⟨j,x,v,h1,h2,_,h3⟩=>by
  match j,h1,h2 with
  | 0,h1,h2=>
   simp only[wi,Option.some.injEq]at h1;subst h1;have h2:rho nO=v:=by simpa using h2
   subst h2;have:=aI (x:=Ds (.box ys)) rfl h3;rw[hg]at this;injection this with this;exact this.symm
  | j+1,h1,_=>simp at h1
 have hf2:Fr (Mv w [.box ys] #[rho nO]) w w':=⟨hf.os,hf.tape,hf.output,hf.size,fun k hk hn=>hf.block k hk fun e=>hn (Md k e)⟩;have fu:=cn.handed (S':=S) hC sim H (fun _ _ _=>rfl) hf2 (fun _ h=>h) (fun b h=>cB (sim.st b h) hf.size) (fun b h=>.inl h) (fin:=[.box (LR wr ys)])
  (show pS S w' A.C.P (.box ys) (.box (LR wr ys)) (rho nO)/\True from ⟨⟨g,ty,_,hg,hw,by rw[Hx,Mb];omega,hgS,fun j x u hx hu=>by
   rcases Vl wr c ys j x u (by omega) hx hu with⟨v,⟨k,hm⟩,e1,e2⟩ | ⟨h1,h2⟩
   ·subst e1;subst e2;exact⟨Hy hwr hm,.im _⟩
   obtain⟨h3,h4⟩:=hcell j x u h1 h2;exact⟨h3,h4.mono (fun _ h=>h) fun b hb'=>hf.block b (sim.st b hb') fun e=>hgS (e▸hb')⟩⟩,trivial⟩)
  (by
   have only:∀i k,dA w' [.box ys] [.box (LR wr ys)] [rho nO] i k->i=0/\k=g:=fun i k hk=>by
    match i,hk with
    | 0,hk=>
     have:=aI (x:=Tb (.box (LR wr ys))) rfl hk.2;rw[hg]at this;injection this with this;exact⟨rfl,this.symm⟩
    | i+1,hk=>exact hk.elim
   exact⟨fun i k hk=>by
    obtain⟨_,rfl⟩:=only i k hk;exact⟨cB vt hf.size,.inr (Md _ rfl)⟩,fun i j k hi hj=>by rw[(only i k hi).1,(only j k hj).1]⟩) (fe:=[(nO,.box ((LR wr ys).map .p))]) rfl
 exact hnext _ _ _ S rho _ _ hk (fu.value o.dst hd _ _ (.p _ _ (.im r)))
theorem NL(hC:bP A.C){o:Oper}{S:Nat->Prop}{a:Act}{w:World}{K:KK}{next:Act->World->Prop}(sim:cn A V L S rho s a w)(hd:∀d,o.dst=some d->d<A.n)
  (hn:∀v eff b,K v eff (some b)->¬L (o.dst.getD 0)/\s.h (o.dst.getD 0)=b)
  (hnext:∀v eff new S' rho' a' w',K v eff new->cn A (yy V o.dst) (Br L new (o.dst.getD 0)) S' rho' ⟨fE s.t o.dst v,app s.h eff⟩ a' w'->next a' w')
  (f:FuncId) (iB:List AV) (vs:Array Value) (hl:iB.length=vs.size)
  (hrep:∀(S2:Nat->Prop) (h2:Nat->AB),cn A V L S2 rho ⟨s.t,h2⟩ a w->∀(i:Nat) x v,iB[i]?=some x->vs.toList[i]?=some v->bu S2 w A.C.P L rho h2 x v)
  (hrun : (∃ fn : Func, A.C.P.funcs[f]? = some fn ∧ (fn.name == "runtime.NumGoroutine") = false ∧ fn.body.isNone = false) → (execOp a.eval o).run A.C.P w = .ok (.enter f vs) w) (hq : zv A.C s.h (o.dst.getD 0) f iB K) : o.wp A.C.P a w next Q := by
 unfold zv at hq;split at hq
 ·exact J9 hC sim hd hn hnext f iB vs hl hrep hrun hq
 exact NJ hC sim hd hn hnext f iB vs hl hrep hrun hq
theorem Fv {P : Program} {w : World} {f : FuncId} {vs : Array Value} (h : ∃ fn : Func, P.funcs[f]? = some fn ∧ (fn.name == "runtime.NumGoroutine") = false ∧ fn.body.isNone = false) : (callFunc f vs).run P w = .ok (.enter f vs) w := by
 obtain⟨fn,h1,h2,h3⟩:=h
 have zC : ¬ fn.name = "runtime.NumGoroutine" := by simpa using h2
 cases hb:fn.body with
 | none=>rw[hb]at h3;cases h3
 | some b=>simp[callFunc,Sem.run,program,h1,zC,hb]
theorem Hz{α:Type}{a:Array α}(h:isNil a.toList=true):a=#[]:=by
 obtain⟨l⟩:=a;cases l with
 | nil=>rfl
 | cons y l=>cases h
theorem uX{S:Nat->Prop}{w:World}{P:Program}{h:Nat->AB}{x:AV}{v:Value}{f:FuncId}{I:List AV}(D:Bn x=some (f,I))(J:bu S w P L rho h x v):∃us:Array Value,v=.func (.func f) #[] us/\I.length=us.size/\∀(i:Nat) c u,I[i]?=some c->us[i]?=some u->bu S w P L rho h c u:=by
 cases x<;>simp only[Bn]at D<;>try (cases D;done)
 ·rename_i y;have J:=J.eY;cases y<;>simp only[LV]at D<;>try (cases D;done)
  ·rename_i z;obtain rfl:=J.bZ;unfold LU at D;split at D
   ·rename_i fn first O
    split at D
    ·rename_i N;simp only[aJ]at N;have e1:=Hz N.1;have e2:=Hz N.2;subst e1 e2;cases fn<;>simp only[LS]at D<;>try (cases D;done)
     injection D with D;injection D with h1 h2;subst h1 h2;exact⟨#[],rfl,rfl,by simp⟩
    cases D
   cases D
  rename_i g O;injection D with D;injection D with h1 h2;subst h1 h2;cases J;rename_i us hl R;refine⟨us,rfl,by simpa using hl,fun i c u D U=>?_⟩;rw[aD]at D;obtain⟨z,W,rfl⟩:=qI.1 D;exact .p _ _ (R i z u W U)
 injection D with D;injection D with h1 h2;subst h1 h2;cases J;exact⟨_,rfl,by assumption,by assumption⟩
theorem cn.loose{S:Nat->Prop}{a:Act}{w:World}(u:cn A V L S rho s a w)(hC:bP A.C)(w':World)(R:Nat->Prop)(z:Fr R w w')(J:∀k,R k->¬S k/\(∀i,L i->(s.h i).live->¬hasB w (s.h i) (rho i) k)/\(A.mv k\/A.w0.heap.size<=k)):cn A V L S rho s a w':=by
 have W:∀b,S b->w'.heap[b]?=w.heap[b]?:=fun k hk=>z.block k (u.st k hk) (fun h=>(J k h).1 hk);have T:ng S S w w' L L rho rho s.h s.h:=⟨fun b h=>h,W,fun j D=>⟨D,fun hl=>⟨hl,rfl⟩⟩,fun j e' D=>D⟩;exact
 {tm:=fun j D=>(u.tm j D).de T
  sz:=u.sz,df:=u.df,nb:=u.nb,pn:=u.pn
  ev:=hC.env _ _ _ _ u.ev (fun b h=>h) W z.size
  s0:=u.s0
  st:=fun b hb=>cB (u.st b hb) z.size
  sb:=u.sb
  hp:=fun j D=>(u.hp j D).de T (fun I g N=>z.block g (u.lv j g D I N).1 (fun h=>(J g h).2.1 j D I N)) (fun _=>rfl)
  dj:=fun i j g hi D I O Y U=>u.dj i j g hi D I O (dJ (fun k hk=>z.block k (u.qd i k hi I hk).1 (fun h=>(J k h).2.1 i hi I (.inl hk))) Y) (dJ (fun k hk=>z.block k (u.qd j k D O hk).1 (fun h=>(J k h).2.1 j D O (.inl hk))) U)
  lv:=fun i g hi I N=>by obtain⟨Z,h2⟩:=u.lv i g hi I (dJ (fun k hk=>z.block k (u.qd i k hi I hk).1 (fun h=>(J k h).2.1 i hi I (.inl hk))) N);exact⟨cB Z z.size,h2⟩
  fr:=u.fr.next z.os z.tape z.output z.size fun k hk hn=>z.block k (cB hk u.fr.size) fun h=>by
   rcases (J k h).2.2 with h | h
   ·exact hn h
   omega }
theorem sJ:∀{l:List AV} {as:List AV} {z:AV},tB l=some (as,z)->l=as++[z]
 | [],_,_,h=>by cases h
 | [x],_,_,h=>by cases h;rfl
 | x::y::r,as,z,h=>by
  rw[tB]at h;split at h
  ·rename_i l z' u;cases h;rw[sJ u];rfl
  cases h
theorem Tw{h:Nat->AB}{d:Nat}:∀{fz:List (Nat×AB)},(∀p∈fz,p.1≠d)->app h fz d=h d:=by
 intro fz
 induction fz generalizing h with
 | nil=>intro _;rfl
 | cons p fz ih=>
  intro hp;obtain⟨i,b⟩:=p;show app (a8 h i b) fz d=h d;rw[ih fun q u=>hp q (by simp[u]),bg _ _ (fun e=>hp (i,b) (by simp) e.symm)]
theorem NM(hC:bP A.C){o:Oper}{S:Nat->Prop}{a:Act}{w:World}{K:KK}{next:Act->World->Prop}(sim:cn A V L S rho s a w)(hd:∀d,o.dst=some d->d<A.n)
  (hn:∀v eff b,K v eff (some b)->¬L (o.dst.getD 0)/\s.h (o.dst.getD 0)=b)
  (hnext:∀v eff new S' rho' a' w',K v eff new->cn A (yy V o.dst) (Br L new (o.dst.getD 0)) S' rho' ⟨fE s.t o.dst v,app s.h eff⟩ a' w'->next a' w')
  (f:FuncId) (iB:List AV) (vs:Array Value) (hl:iB.length=vs.size)
  (hrep:∀(S2:Nat->Prop) (h2:Nat->AB),cn A V L S2 rho ⟨s.t,h2⟩ a w->∀(i:Nat) x v,iB[i]?=some x->vs.toList[i]?=some v->bu S2 w A.C.P L rho h2 x v)
  (hrun : (∃ fn : Func, A.C.P.funcs[f]? = some fn ∧ (fn.name == "runtime.NumGoroutine") = false ∧ fn.body.isNone = false) → (execOp a.eval o).run A.C.P w = .ok (.enter f vs) w) (hq : zx A.C s.h (o.dst.getD 0) f iB K) : o.wp A.C.P a w next Q := by
 unfold zx at hq;split at hq
 case h_2=>exact hq.elim
 rename_i as id Bv;have Tx:=sJ Bv;split at hq
 case h_2=>exact hq.elim
 rename_i ty c iU aU;split at hq
 case h_2=>exact hq.elim
 rename_i Me;split at hq
 case h_2=>exact hq.elim
 rename_i e es aw;obtain⟨ws,vb,PY,YJ⟩:∃ws vb,vs.toList=ws++[vb]/\as.length=ws.length:=by
  have cO:vs.toList≠[]:=fun e=>by
   have:vs.size=0:=by simpa using ar List.length e
   rw[Tx]at hl;simp at hl;omega
  refine⟨vs.toList.dropLast,vs.toList.getLast cO,(tF cO).symm,?_⟩;rw[Tx]at hl;simp at hl ⊢;omega
 have Ec:=hrep S s.h sim as.length (.bx id 0) vb (by rw[Tx];simp) (by rw[PY,YJ];simp);have abX:∀(i:Nat) c v,as[i]?=some c->ws[i]?=some v->bu S w A.C.P L rho s.h c v:=fun i c v h1 h2=>hrep S s.h sim i c v (by rw[Tx,dN (az.1 h1).1];exact h1) (by rw[PY,dN (az.1 h2).1];exact h2);obtain⟨oc,g0,ni,hvb⟩:L id/\∃g,rho id=.pointer (some ⟨g,0,none⟩)/\vb=.pointer (some ⟨g,0,none⟩):=by
  cases Ec with
  | bx _ _ _ hv=>exact hv (by rw[aU];trivial)
 obtain⟨xs,fz,S2,⟨r,ch,dv,mV,hq⟩,bH,hpv,AJ,hF,Hs,hlen⟩:=D8 (t:=s.t) hC as ws S s.h YJ sim (su.refl _) abX hq;split at hq
 case h_2=>exact hq.elim
 rename_i hok;simp only[aJ,Fq]at hok;obtain⟨pd,hn1,hn2,cO⟩:=hok;have cO:id≠iU:=fun e=>by rw[e]at cO;simp at cO
 have Qj:(app s.h fz) id=.kr ty [c,.ow iU]:=by rw[oa hn1,aU]
 have Qk:(app s.h fz) iU=.row e es:=by rw[oa hn2,aw]
 have hpb:=bH.hp id oc;have hpb:fD S2 w A.C.P L rho (app s.h fz) id (app s.h fz id):=hpb;rw[Qj]at hpb;obtain⟨g,cells,k1,k2,k3,k4⟩:=hpb;rw[ni]at k1;obtain rfl:g0=g:=by injection k1 with k1;injection k1 with k1;injection k1
 obtain⟨u0,u1,hcells⟩:∃u0 u1,cells=#[u0,u1]:=by
  obtain⟨cl⟩:=cells
  match cl,k3 with
  | [x,y],_=>exact⟨x,y,rfl⟩
 subst hcells;obtain⟨o0,l0⟩:=k4 0 c u0 rfl rfl;obtain⟨o1,l1⟩:=k4 1 (.ow iU) u1 rfl rfl;obtain⟨Ed,Y1⟩:L iU/\u1=rho iU:=by
  cases l1 with
  | ow _ _ hv=>exact hv (by rw[Qk];trivial)
 have hu0:u0=.pointer none\/u0=.pointer (some ⟨g0,0,none⟩):=by
  unfold Vb at Me;split at Me
  ·cases l0 with
   | p _ _ hx=>cases hx;exact .inl rfl
  ·have hi:=cY Me;subst hi;cases l0 with
   | bx _ _ _ hv=>
    obtain⟨_,g',e1,e2⟩:=hv (by rw[Qj];trivial);rw[ni]at e1;injection e1 with e1;injection e1 with e1;injection e1 with e1;subst e1;exact .inr e2
  cases Me
 have Hv:=bH.hp iU Ed;have Hv:fD S2 w A.C.P L rho (app s.h fz) iU (app s.h fz iU):=Hv;rw[Qk]at Hv;have Hv:aH A.C.P w (aO S2 w) e es (rho iU):=Hv;rw[<-Y1]at Hv;have Ka:(app s.h fz id).live:=by rw[Qj];trivial
 have AN:(app s.h fz iU).live:=by rw[Qk];trivial
 have Kb:=bH.qd id g0 oc Ka (by rw[ni];rfl);have wm:∀k,cF u1=some k->k<w.heap.size/\¬S2 k/\(A.mv k\/A.w0.heap.size<=k)/\k≠g0:=fun k hk=>by
  obtain⟨a1,a2,a3⟩:=bH.qd iU k Ed AN (by rw[<-Y1];exact hk);refine⟨a1,a2,a3,fun e=>cO ?_⟩;subst e;exact bH.Yw id iU k oc Ed Ka AN (by rw[ni];rfl) (by rw[<-Y1];exact hk)
 have hva:vs=(ws++[Value.pointer (some ⟨g0,0,none⟩)]).toArray:=by
  rw[<-hvb,<-PY]
 have key:=mV.2 S2 w ws g0 u0 u1 bH.ev bH.st hlen hpv k2 hu0 Hv Kb.2.1 (fun k hk=>⟨(wm k hk).2.1,(wm k hk).2.2.2,(wm k hk).1⟩);rw[<-hva]at key;refine sH (hrun mV.1) key fun e' w' sI=>?_;obtain⟨v,rfl,hf,hr,sI⟩:=sI;refine⟨v,rfl,?_⟩;have hval:∀{L':Nat->Prop} {rho':Nat->Value} {h':Nat->AB},bu S2 w' A.C.P L' rho' h' (Yb (o.dst.getD 0) r) v:=by
  intro L' rho' h';cases r with
  | p x=>exact .p _ _ hr
  | own e es=>cases pd
  | hown cs=>cases pd
  | tu ys=>
   obtain⟨us,rfl,q1,q2⟩:=hr;refine .tu _ us (by simpa using q1) fun i c u hi hu=>?_;rw[aD]at hi;obtain⟨z,hz,rfl⟩:=qI.1 hi;exact .p _ _ (q2 i z u hz hu)
 split at hq
 case h_2=>
  have fu:=(bH.kill iU).kill id;have Dz:=fu.loose hC w' (fun k=>k=g0\/cF u1=some k) hf (fun k hk=>by
   have dead:∀i,(a8 (a8 (app s.h fz) iU .none) id .none i).live->i≠id/\i≠iU/\(app s.h fz i).live:=fun i li=>by
    rcases b6 (a8 (app s.h fz) iU .none) id .none i with⟨rfl,h⟩ | ⟨h1,h⟩
    ·rw[h]at li;exact li.elim
    rw[h]at li;rcases b6 (app s.h fz) iU .none i with⟨rfl,h3⟩ | ⟨h2,h3⟩
    ·rw[h3]at li;exact li.elim
    rw[h3]at li;exact⟨h1,h2,li⟩
   have Vm:∀i,(a8 (a8 (app s.h fz) iU .none) id .none i).live->hasB w (a8 (a8 (app s.h fz) iU .none) id .none i) (rho i) k->hasB w (app s.h fz i) (rho i) k:=fun i li hg=>fF (dead i li).2.1 (fF (dead i li).1 hg);rcases hk with rfl | hk
   ·exact⟨Kb.2.1,fun i hi li fU=>(dead i li).1 (bH.dj i id k hi oc (dead i li).2.2 Ka (Vm i li fU) (.inl (by rw[ni];rfl))),Kb.2.2⟩
   exact⟨(wm k hk).2.1,fun i hi li fU=>(dead i li).2.1 (bH.dj i iU k hi Ed (dead i li).2.2 AN (Vm i li fU) (.inl (by rw[<-Y1];exact hk))),(wm k hk).2.2.1⟩)
  have e6:a8 (a8 (app s.h fz) iU .none) id .none=app s.h (fz++[(iU,.none),(id,.none)]):=by rw[cQ];rfl
  have Dz:cn A V L S2 rho ⟨s.t,a8 (a8 (app s.h fz) iU .none) id .none⟩ a w':=Dz;rw[e6]at Dz;exact hnext _ _ _ S2 rho _ w' hq (Dz.value o.dst hd _ _ hval)
 rename_i dv;obtain⟨u1',Y2,Vn,Wq⟩:=sI;obtain⟨hL,hb⟩:=hn _ _ _ hq;have Y3:o.dst.getD 0≠id:=fun e=>hL (e▸oc);have Y4:o.dst.getD 0≠iU:=fun e=>hL (e▸Ed);have glt:g0<w'.heap.size:=cB Kb.1 hf.size;obtain⟨w1,Ty⟩:∃w1:World,w1={ w' with heap:=w'.heap.setIfInBounds g0 (.cells #[u0,u1] ty (0,0)) }:=⟨_,rfl⟩;have w1g:w1.heap[g0]?=some (.cells #[u0,u1] ty (0,0)):=by rw[Ty];simp[glt]
 have w1k:∀k,k≠g0->w1.heap[k]?=w'.heap[k]?:=fun k hk=>by rw[Ty];simp[Aw,hk.symm]
 have w1s:w1.heap.size=w'.heap.size:=by rw[Ty];simp
 have gne:∀k,cF u1'=some k->k≠g0:=fun k hk=>by
  rcases (Wq k hk).2 with h | h
  ·exact (wm k h).2.2.2
  have:=Kb.1;omega
 have fu:=bH.kill iU;have Dz:=fu.new hC (o.dst.getD 0) (.row e dv) (bH.sa hd) hL (by
   show a8 (app s.h fz) iU .none (o.dst.getD 0)=_;rw[bg _ _ Y4,Tw fun p hp e=>hL (by rw[<-e];exact Hs p hp),hb]) w1 (by rw[Ty];exact hf.os) (by rw[Ty];exact hf.tape) (by rw[Ty];exact hf.output) (by rw[w1s];exact hf.size) (fun k=>cF u1=some k)
  (fun k hk YM=>by
   by_cases e:k=g0
   ·subst e;rw[w1g,k2]
   rw[w1k k e];exact hf.block k hk (fun h=>h.elim e YM))
  (fun k hk=>by
   refine⟨(wm k hk).2.1,fun i hi li fU=>?_,(wm k hk).2.2.1⟩;have qa:(a8 (app s.h fz) iU .none i).live:=li;rcases b6 (app s.h fz) iU .none i with⟨rfl,h⟩ | ⟨Wx,h⟩
   ·rw[h]at qa;exact qa.elim
   rw[h]at qa;exact Wx (bH.dj i iU k hi Ed qa AN (fF Wx fU) (.inl (by rw[<-Y1];exact hk))))
  u1' (fun k hk=>by rw[w1s];exact⟨(Wq k hk).1,(Wq k hk).2.symm⟩)
  (fun T=>by
   show aH A.C.P w1 (aO S2 w1) e dv (a8 rho (o.dst.getD 0) u1' (o.dst.getD 0));rw[aF];exact Vn.de (fun k hk=>w1k k (gne k hk)) (fun x u hx=>hx.mono (fun _ h=>h) fun k hk=>w1k k fun e=>Kb.2.1 (e▸hk)))
 have abZ:(a8 (app s.h fz) iU .none) id=.kr ty [c,.ow iU]:=by rw[bg _ _ cO,Qj]
 have Wy:a8 rho (o.dst.getD 0) u1' id=.pointer (some ⟨g0,0,none⟩):=by rw[bg _ _ Y3.symm,ni]
 have NN:=Dz.write hC id (.inl oc) (by show ((a8 (app s.h fz) iU .none) id).live;rw[abZ];trivial) (.kr ty [zw ch id c,.ow (o.dst.getD 0)]) (fun _ h=>by cases h) w' (by rw[Ty]) (by rw[Ty]) (by rw[Ty]) w1s.symm
  (fun k hk=>(w1k k fun e=>hk (by rw[Wy,e];rfl)).symm)
  (fun T=>by
   refine⟨g0,_,Wy,Y2,rfl,fun j x u hj hu=>?_⟩
   match j,hj,hu with
   | 0,hj,hu=>
    cases hj;cases ch with
    | true=>
     cases hu;exact⟨rfl,.bx id 0 _ fun _=>⟨.inl oc,g0,Wy,rfl⟩⟩
    | false=>
     cases hu;exact⟨o0,(l0.de (S':=S2) (w':=w') (L':=fun i=>L i\/i=o.dst.getD 0) (rho':=a8 rho (o.dst.getD 0) u1') (h':=a8 (a8 (app s.h fz) iU .none) id (.kr ty [zw false id c,.ow (o.dst.getD 0)])) ⟨fun _ h=>h,fun k hk=>hf.block k (bH.st k hk) (fun h=>h.elim (fun e=>Kb.2.1 (e▸hk)) (fun h=>(wm k h).2.1 hk)),fun j hj=>by
       rcases b6 (a8 (app s.h fz) iU .none) id (.kr ty [zw false id c,.ow (o.dst.getD 0)]) j with⟨rfl,h⟩ | ⟨Y5,h⟩
       ·exact⟨by rw[Qj];trivial,fun hl=>⟨.inl hl,bg _ _ Y3.symm⟩⟩
       ·rw[h]at hj;rcases b6 (app s.h fz) iU .none j with⟨rfl,h3⟩ | ⟨Ti,h3⟩
        ·rw[h3]at hj;exact hj.elim
        rw[h3]at hj;exact⟨hj,fun hl=>⟨.inl hl,bg _ _ fun e=>hL (e▸hl)⟩⟩,fun j e2 hj=>by
       rcases b6 (a8 (app s.h fz) iU .none) id (.kr ty [zw false id c,.ow (o.dst.getD 0)]) j with⟨rfl,h⟩ | ⟨Y5,h⟩
       ·rw[h]at hj;cases hj
       rw[h]at hj;rcases b6 (app s.h fz) iU .none j with⟨rfl,h3⟩ | ⟨Ti,h3⟩
       ·rw[h3]at hj;cases hj
       rw[h3]at hj;exact hj⟩)⟩
   | 1,hj,hu=>
    cases hj;cases hu;obtain⟨i0,xs0,Wr,_,hown,_⟩:=Vn;refine⟨?_,.ow _ _ fun _=>⟨.inr rfl,(aF _ _ _).symm⟩⟩;obtain⟨a0,c0,YL⟩:=dQ hown;rw[YL];rfl
   | n+2,hj,hu=>cases hj)
 have e6:a8 (a8 (app s.h fz) iU .none) id (.kr ty [zw ch id c,.ow (o.dst.getD 0)])=app s.h (fz++[(iU,.none),(id,.kr ty [zw ch id c,.ow (o.dst.getD 0)])]):=by rw[cQ];rfl
 have NN:cn A V (fun i=>L i\/i=o.dst.getD 0) S2 (a8 rho (o.dst.getD 0) u1') ⟨s.t,a8 (a8 (app s.h fz) iU .none) id (.kr ty [zw ch id c,.ow (o.dst.getD 0)])⟩ a w':=NN;rw[e6]at NN;exact hnext _ _ _ S2 (a8 rho (o.dst.getD 0) u1') _ w' hq (NN.value o.dst hd _ _ hval)
theorem Tz{o:Oper}(c:Call)(g:Operand)(aL:o.op=.call c)(hc:c.callee=.value g):jV A o:=by
 intro V L S rho s a w K next Q hC sim hV hd hq hn hnext
 obtain⟨callee,args,argTypes⟩:=c;simp only at hc;subst hc;simp only[cc,aL,fc]at hq;have hg:=bF sim g fun j hj=>hV j (by simp[aL,Op.operands,Call.operands,hj]);have hargs:∀(S2:Nat->Prop) (h2:Nat->AB),cn A V L S2 rho ⟨s.t,h2⟩ a w->∀x∈args.toList,bu S2 w A.C.P L rho h2 (ev s.t x) (a.eval x):=fun S2 h2 bH x hx=>bF bH x fun j hj=>hV j (by simp[aL,Op.operands,Call.operands];rw[<-hj];exact .inr (cJ.1 hx));have J4:∀(S2:Nat->Prop) (h2:Nat->AB),cn A V L S2 rho ⟨s.t,h2⟩ a w->∀(i:Nat) x v,(args.toList.map (ev s.t))[i]?=some x->(args.map a.eval).toList[i]?=some v->bu S2 w A.C.P L rho h2 x v:=by
  intro S2 h2 bH i x v hx hv;rw[aD]at hx;obtain⟨y,hy,rfl⟩:=qI.1 hx;rw[AE,aD,hy]at hv;simp at hv;rw[<-hv];exact hargs S2 h2 bH y (aj hy)
 split at hq
 case h_2=>exact hq.elim
 rename_i f cap hgv;obtain⟨us,he,hl,_⟩:=uX hgv hg
 have Mf : (∀ (S2 : Nat → Prop) (h2 : Nat → AB), cn A V L S2 rho ⟨s.t, h2⟩ a w → ∀ (i : Nat) x v, (args.toList.map (ev s.t) ++ cap)[i]? = some x → (args.map a.eval ++ us).toList[i]? = some v → bu S2 w A.C.P L rho h2 x v) ∧ ((∃ fn : Func, A.C.P.funcs[f]? = some fn ∧ (fn.name == "runtime.NumGoroutine") = false ∧ fn.body.isNone = false) → (execOp a.eval o).run A.C.P w = .ok (.enter f (args.map a.eval ++ us)) w) := by
  refine⟨fun S2 h2 bH i x v hx hv=>?_,fun hfn=>?_⟩
  ·rw[AL]at hv;by_cases hi:i<args.size
   ·rw[dN (by simpa using hi)]at hx;rw[dN (by simpa using hi)]at hv;exact J4 S2 h2 bH i x v hx hv
   rw[du (by simp;omega)]at hx;rw[du (by simp;omega)]at hv;simp only[E5,aaK,AE]at hx hv;have NK:=bF bH g fun j hj=>hV j (by simp[aL,Op.operands,Call.operands,hj]);obtain⟨us2,tC,_,oP⟩:=uX hgv NK;rw[he]at tC;injection tC with _ _ tC;subst tC;exact oP _ x v hx (by simpa using hv)
  simp[execOp,aL,resolve,he,Deferred.ofValue,invoke,Fv hfn]
 split at hq
 ·exact NL hC sim hd hn hnext f _ (args.map a.eval++us) (by simp[hl]) Mf.1 Mf.2 hq
 exact NM hC sim hd hn hnext f _ (args.map a.eval++us) (by simp[hl]) Mf.1 Mf.2 hq
end Go.AM
namespace Go.AM
open Go.RowKit
def Ext(h h':Nat->AB):Prop:=∀id,h id=.none\/h' id=h id
variable {h':Nat->AB} {id:Nat} {es:List (List PV)}
theorem Ext.row{h:Nat->AB}(H:Ext h h'){e:TypeId}(u:h id=.row e es):h' id=.row e es:=by
 rcases H id with z | z
 ·rw[z]at u;cases u
 rw[z,u]
theorem Ext.lz{h:Nat->AB}(H:Ext h h')(u:h id=.lz es):h' id=.lz es:=by
 rcases H id with z | z
 ·rw[z]at u;cases u
 rw[z,u]
theorem Ext.box{h:Nat->AB}(H:Ext h h'){cs:List AV}(u:h id=.box cs):h' id=.box cs:=by
 rcases H id with z | z
 ·rw[z]at u;cases u
 rw[z,u]
theorem Ext.aU{h:Nat->AB}(H:Ext h h'){cs:List HC}(u:h id=.aU cs):h' id=.aU cs:=by
 rcases H id with z | z
 ·rw[z]at u;cases u
 rw[z,u]
theorem Ext.kr{h:Nat->AB}(H:Ext h h'){D:TypeId}{cs:List AV}(u:h id=.kr D cs):h' id=.kr D cs:=by
 rcases H id with z | z
 ·rw[z]at u;cases u
 rw[z,u]
theorem Ext.nd{h:Nat->AB}(H:Ext h h'){cs:List PV}(u:h id=.nd cs):h' id=.nd cs:=by
 rcases H id with z | z
 ·rw[z]at u;cases u
 rw[z,u]
theorem Ext.map{h:Nat->AB}(H:Ext h h'){mk:MK}{es:List (Value×PV)}(u:h id=.map mk es):h' id=.map mk es:=by
 rcases H id with z | z
 ·rw[z]at u;cases u
 rw[z,u]
theorem Ext.iter{h:Nat->AB}(H:Ext h h'){mk:MK}{es:List (Value×Value)}{k:Nat}{c:Option (Value×Value)}(u:h id=.iter mk es k c):h' id=.iter mk es k c:=by
 rcases H id with h | h
 ·rw[h]at u;cases u
 rw[h];exact u
theorem Ext.aw{h:Nat->AB}(H:Ext h h'){e:TypeId}{es:List (List HX)}(u:h id=.aw e es):h' id=.aw e es:=by
 rcases H id with z | z
 ·rw[z]at u;cases u
 rw[z,u]
theorem NO{h:Nat->AB}(H:Ext h h'){a:AV}{n:Nat}(u:hlen h a=some n):hlen h' a=some n:=by
 unfold hlen at u ⊢;split at u
 ·rename_i id;split at u
  ·rename_i e es z;rw[H.aw z];exact u
  cases u
 ·rename_i id lo hi;split at u
  ·rename_i e es z;rw[H.row z];exact u
  cases u
 cases u
theorem NP{h:Nat->AB}(H:Ext h h'){a:AV}{K:List (List PV)->Prop}(u:iE h a K):hlen h' a=none:=by
 unfold iE at u;unfold hlen;split at u
 ·rfl
 ·rfl
 ·rename_i id;simp only;split at u
  ·rename_i z;rw[H.row z]
  ·rename_i z;rw[H.lz z]
  exact u.elim
 exact u.elim
theorem wo{h:Nat->AB}(H:Ext h h'){a:AV}(u:yu h a=true):yu h' a=true:=by
 cases a with
 | p x=>cases x<;>exact u
 | nl=>rfl
 | ow id=>
  unfold yu at u ⊢;simp only at u ⊢;split at u
  ·rename_i z;rw[H.row z]
  ·rename_i z;rw[H.aw z]
  ·rename_i z;rw[H.lz z]
  cases u
 | bx id off=>
  unfold yu at u ⊢;simp only at u ⊢;split at u
  ·cases u
  rename_i I;rcases H id with D | D
  ·exact absurd D (by simpa using I)
  rw[D];split
  ·rename_i J;exact absurd J (by simpa using I)
  rfl
 | vw id lo hi=>exact u
 | rp id i off=>
  unfold yu at u ⊢;simp only at u ⊢;split at u
  ·rename_i z;rw[H.row z]
  ·rename_i z;rw[H.aw z]
  cases u
 | fn f cap=>rfl
 | tu xs=>exact u
 | st xs=>exact u
 | junk=>exact u
theorem Ee{h:Nat->AB}(H:Ext h h'){a:AV}{K:PV->List (Nat×AB)->Prop}(u:nZ h a K):∃x fz,K x fz/\∀z:PV->List (Nat×AB)->Prop,z x fz->nZ h' a z:=by
 unfold nZ at u;split at u
 ·exact⟨_,_,u,fun z h=>h⟩
 ·exact⟨_,_,u,fun z h=>h⟩
 ·split at u
  ·rename_i D;exact⟨_,_,u,fun z h=>by simp only[nZ,H.row D];exact h⟩
  ·rename_i D;exact⟨_,_,u,fun z h=>by simp only[nZ,H.lz D];exact h⟩
  exact u.elim
 ·split at u
  ·rename_i D;split at u
   ·rename_i I;exact⟨_,_,u,fun z h=>by simp only[nZ,H.box D,I];exact h⟩
   exact u.elim
  ·rename_i D;exact⟨_,_,u,fun z h=>by simp only[nZ,H.nd D];exact h⟩
  exact u.elim
 exact u.elim
theorem Ef{h:Nat->AB}(H:Ext h h'):∀{as:List AV} {K:List PV->List (Nat×AB)->Prop},zu h as K->∃xs fz,K xs fz/\∀z:List PV->List (Nat×AB)->Prop,z xs fz->zu h' as z:=by
 intro as
 induction as with
 | nil=>intro K u;exact⟨_,_,u,fun z h=>h⟩
 | cons a as ih=>
  intro K u;unfold zu at u;obtain⟨x,fz,u,D⟩:=Ee H u;obtain⟨xs,fz',u,I⟩:=ih u;refine⟨_,_,u,fun z h=>?_⟩;unfold zu;exact D _ (I _ h)
theorem jB{h:Nat->AB}(H:Ext h h'){a:AV}{K:PV->List (Nat×AB)->Prop}(u:iT h a K):∃x fz,K x fz/\∀z:PV->List (Nat×AB)->Prop,z x fz->iT h' a z:=by
 unfold iT at u;split at u
 ·obtain⟨xs,fz,u,D⟩:=Ef H u;exact⟨_,_,u,fun z h=>D _ h⟩
 rename_i I;obtain⟨x,fz,u,D⟩:=Ee H u;refine⟨x,fz,u,fun z h=>?_⟩;unfold iT;split
 ·exact absurd rfl (I _ _)
 exact D _ h
theorem BD{h:Nat->AB}(H:Ext h h'){a:AV}{K:List (List PV)->Prop}(u:iE h a K):∃es,K es/\∀z:List (List PV)->Prop,z es->iE h' a z:=by
 unfold iE at u;split at u
 ·exact⟨_,u,fun z h=>h⟩
 ·exact⟨_,u,fun z h=>h⟩
 ·split at u
  ·rename_i D;exact⟨_,u,fun z h=>by simp only[iE,H.row D];exact h⟩
  ·rename_i D;exact⟨_,u,fun z h=>by simp only[iE,H.lz D];exact h⟩
  exact u.elim
 exact u.elim
variable {rho:Operand->AV}
theorem NQ{h:Nat->AB}(H:Ext h h'){J:List (Nat×Nat×Bool)}:∀{ps:List (Nat×Operand)} {cs:List PV} {K:List PV->List (Nat×AB)->Prop},lA h J rho ps cs K->∃x fz,K x fz/\∀D:List PV->List (Nat×AB)->Prop,D x fz->lA h' J rho ps cs D:=by
 intro ps
 induction ps with
 | nil=>intro cs K u;exact⟨_,_,u,fun D h=>h⟩
 | cons p ps ih=>
  intro cs K u;obtain⟨i,x⟩:=p;unfold lA at u;split at u
  ·rename_i N;obtain⟨y,fz,u,O⟩:=jB H u;split at u
   ·rename_i ys R;split at u
    ·rename_i U;obtain⟨z,I,u,W⟩:=ih u;refine⟨z,fz++I,u,fun D h=>?_⟩;simp only[lA,N];refine O _ ?_;simp only[R,U];exact W _ h
    exact u.elim
   exact u.elim
  exact u.elim
theorem Eg{h:Nat->AB}(H:Ext h h'){J:List (Nat×Nat×Bool)}:∀{ps:List (Nat×Operand)} {cs:List AV} {K:List AV->Prop},mU h J rho ps cs K->∃z,K z/\∀D:List AV->Prop,D z->mU h' J rho ps cs D:=by
 intro ps
 induction ps with
 | nil=>intro cs K u;exact⟨cs,u,fun D h=>h⟩
 | cons p ps ih=>
  intro cs K u;obtain⟨i,x⟩:=p;unfold mU at u;split at u
  ·rename_i N;split at u
   ·rename_i I;obtain⟨z,O,R⟩:=ih u;refine⟨z,O,fun D hk=>?_⟩;unfold mU;simp only[aJ]at I;simp only[N,I.1.1,I.1.2,wo H I.2,nk];exact R D hk
   exact u.elim
  exact u.elim
theorem NR{h:Nat->AB}(H:Ext h h'){b:Bool}{a:AV}{K:PV->List (Nat×AB)->Prop}(z:zy b h a K):∃x fz,K x fz/\∀u:PV->List (Nat×AB)->Prop,u x fz->zy b h' a u:=by
 unfold zy at z;split at z
 ·exact⟨_,_,z,fun u h=>h⟩
 rename_i D;obtain⟨x,fz,I,J⟩:=jB H z;refine⟨x,fz,I,fun u h=>?_⟩;unfold zy;split
 ·exact (D rfl rfl).elim
 exact J u h
theorem BE{h:Nat->AB}(H:Ext h h'){b:Bool}{size:Nat}:∀{ps:List (Nat×Operand)} {cs:List (List PV)} {K:List (List PV)->List (Nat×AB)->Prop},iD b h size rho ps cs K->∃x fz,K x fz/\∀D:List (List PV)->List (Nat×AB)->Prop,D x fz->iD b h' size rho ps cs D:=by
 intro ps
 induction ps with
 | nil=>intro cs K u;exact⟨_,_,u,fun D h=>h⟩
 | cons p ps ih=>
  intro cs K u;obtain⟨i,x⟩:=p;unfold iD at u;obtain⟨y,fz,u,J⟩:=NR H u;split at u
  ·rename_i ys N;split at u
   ·rename_i O;obtain⟨z,I,u,R⟩:=ih u;refine⟨z,fz++I,u,fun D h=>?_⟩;simp only[iD];refine J _ ?_;simp only[N,O];exact R _ h
   exact u.elim
  exact u.elim
theorem NS{h:Nat->AB}(H:Ext h h'){md:Nat->Bool}:∀{as:List AV} {j:Nat} {K:List Arg->List (Nat×AB)->List (Nat×AB)->Prop},iC md h j as K->∃xs ids fz,K xs ids fz/\∀I:List Arg->List (Nat×AB)->List (Nat×AB)->Prop,I xs ids fz->iC md h' j as I:=by
 intro as
 induction as with
 | nil=>intro j K u;exact⟨_,_,_,u,fun I h=>h⟩
 | cons a as ih=>
  intro j K u;unfold iC at u;split at u
  ·rename_i N;obtain⟨y,fz,u,O⟩:=jB H u;obtain⟨xs,ids,z,u,D⟩:=ih u;refine⟨_,_,_,u,fun I h=>?_⟩;simp only[iC,N];exact O _ (D _ h)
  rename_i N;split at u
  ·split at u
   ·rename_i J;obtain⟨xs,ids,z,u,D⟩:=ih u;refine⟨_,_,_,u,fun I h=>?_⟩;simp only[iC,N,H.row J];exact D _ h
   ·rename_i J;obtain⟨xs,ids,z,u,D⟩:=ih u;refine⟨_,_,_,u,fun I h=>?_⟩;simp only[iC,N,H.lz J];exact D _ h
   ·rename_i J;obtain⟨xs,ids,z,u,D⟩:=ih u;refine⟨_,_,_,u,fun I h=>?_⟩;simp only[iC,N,H.map J];exact D _ h
   exact u.elim
  ·obtain⟨xs,ids,z,u,D⟩:=ih u;refine⟨_,_,_,u,fun I h=>?_⟩;simp only[iC,N];exact D _ h
  ·split at u
   ·rename_i J;split at u
    ·rename_i R;obtain⟨xs,ids,z,u,D⟩:=ih u;refine⟨_,_,_,u,fun I h=>?_⟩;simp only[iC,N,H.box J,R];exact D _ h
    exact u.elim
   ·rename_i J;obtain⟨xs,ids,z,u,D⟩:=ih u;refine⟨_,_,_,u,fun I h=>?_⟩;simp only[iC,N,H.aU J];exact D _ h
   exact u.elim
  exact u.elim
variable {as:List AV}
theorem Kc{C:Ctx}{h:Nat->AB}(H:Ext h h'){d:Nat}{f:FuncId}{K:KK}(u:qL C h d f as K):∃v e n,K v e n/\∀z:KK,z v e n->qL C h' d f as z:=by
 unfold qL at u;obtain⟨xs,ids,fz,⟨r,fin,I,u⟩,J⟩:=NS H u;split at u
 ·rename_i N;split at u
  ·rename_i O;split at u
   ·rename_i D;refine⟨_,_,_,u,fun z h=>?_⟩;unfold qL;refine J _ ⟨r,fin,I,?_⟩;simp only[N,O,D];exact h
   rename_i D;refine⟨_,_,_,u,fun z h=>?_⟩;unfold qL;refine J _ ⟨r,fin,I,?_⟩;simp only[N,O,D];exact h
  exact u.elim
 exact u.elim
theorem qb.ext{h:Nat->AB}(H:Ext h h'){a:AV}{x:PV}(u:qb h a x):qb h' a x:=by
 cases u with
 | p=>exact .p _
 | nl=>exact .nl
 | row id e es hr=>exact .row id e es (H.row hr)
 | lz id es hr=>exact .lz id es (H.lz hr)
 | aw id e es ps hr hp=>exact .aw id e es ps (H.aw hr) hp
theorem qM.ext{h:Nat->AB}(H:Ext h h'){xs:List PV}(u:qM h as xs):qM h' as xs:=by
 induction u with
 | nil=>exact .nil
 | cons h1 _ ih=>exact .cons (h1.ext H) ih
theorem View.ext{h:Nat->AB}(H:Ext h h'){a:AV}{x:PV}(u:View h a x):View h' a x:=by
 cases u with
 | one h1=>exact .one (h1.ext H)
 | box id off cs xs hb hx=>exact .box id off cs xs (H.box hb) (hx.ext H)
 | nd id off xs hb=>exact .nd id off xs (H.nd hb)
theorem v8.ext{h:Nat->AB}(H:Ext h h'){xs:List PV}(u:v8 h as xs):v8 h' as xs:=by
 induction u with
 | nil=>exact .nil
 | cons h1 _ ih=>exact .cons (h1.ext H) ih
theorem Kd{h:Nat->AB}(H:Ext h h'):∀{as:List AV},Dt (eI h) as=true->Dt (eI h') as=true:=by
 intro as
 induction as with
 | nil=>intro h;cases h
 | cons a as ih=>
  intro z;unfold Dt at z ⊢;split at z
  ·rename_i u;have:eI h' a=true:=by
    unfold eI at u ⊢;split at u
    ·split at u
     ·rename_i hb;simp only[H.box hb];exact u
     cases u
    ·split at u
     ·rename_i hb;simp only[H.aw hb]
     cases u
    cases u
   rw[this]
  cases eI h' a with
  | true=>rfl
  | false=>exact ih z
theorem NT{h:Nat->AB}(H:Ext h h'){a:AV}{K:PV->List (Nat×AB)->Prop}(D:eI h a=false)(z:iT h a K):eI h' a=false:=by
 cases a with
 | ow id=>
  simp only[iT,nZ]at z;simp only[eI]at D ⊢;split at z
  ·rename_i u;rw[H.row u]
  ·rename_i u;rw[H.lz u]
  exact z.elim
 | bx id off=>
  simp only[iT,nZ]at z;simp only[eI]at D ⊢;split at z
  ·rename_i u;rw[u]at D;rw[H.box u];exact D
  ·rename_i u;rw[H.nd u]
  exact z.elim
 | _=>rfl
theorem Ke{h:Nat->AB}(H:Ext h h'){md:Nat->Bool}:∀{as:List AV} {j:Nat} {K:List Arg->List (Nat×AB)->List (Nat×AB)->Prop},iC md h j as K->Dt (eI h) as=false->Dt (eI h') as=false:=by
 intro as
 induction as with
 | nil=>intro _ _ _ _;rfl
 | cons a as ih=>
  intro j K u D;unfold Dt at D ⊢;split at D
  ·cases D
  rename_i I;have:eI h' a=false/\∃(j:Nat) (K:List Arg->List (Nat×AB)->List (Nat×AB)->Prop),iC md h j as K:=by
   unfold iC at u;split at u
   ·obtain⟨x,fz,J,_⟩:=jB (fun _=>.inr rfl) u;exact⟨NT H I u,_,_,J⟩
   split at u
   ·rename_i id;split at u
    ·rename_i z;exact⟨by simp only[eI];rw[H.row z],_,_,u⟩
    ·rename_i z;exact⟨by simp only[eI];rw[H.lz z],_,_,u⟩
    ·rename_i z;exact⟨by simp only[eI];rw[H.map z],_,_,u⟩
    exact u.elim
   ·exact⟨rfl,_,_,u⟩
   ·rename_i id;split at u
    ·rename_i z;split at u
     ·refine⟨?_,_,_,u⟩;simp only[eI]at I ⊢;rw[z]at I;rw[H.box z];exact I
     exact u.elim
    ·rename_i z;exact⟨by simp only[eI];rw[H.aU z],_,_,u⟩
    exact u.elim
   exact u.elim
  obtain⟨N,j',K',O⟩:=this;rw[N];exact ih O D
theorem Kf{h:Nat->AB}(H:Ext h h'){c:AV}(u:yx h c=true):yx h' c=true:=by
 unfold yx at u ⊢;split at u
 ·rfl
 ·rfl
 ·split at u
  ·rename_i z;rw[H.row z]
  cases u
 ·rfl
 cases u
theorem NU{C:Ctx}{h:Nat->AB}(H:Ext h h'){f:FuncId}{K:KK}(u:Bl C h f as K):∃v e n,K v e n/\∀z:KK,z v e n->Bl C h' f as z:=by
 unfold Bl at u;split at u
 ·split at u
  ·rename_i hb D;obtain⟨x,I,J,N,O,R,U⟩:=u;refine⟨_,_,_,U,fun z hk=>?_⟩;unfold Bl;simp only[H.box hb,H.row D];exact⟨x,I,J,fun c W=>Kf H (N c W),O,R,hk⟩
  exact u.elim
 exact u.elim
theorem Kg{C:Ctx}{h:Nat->AB}(H:Ext h h'){d:Nat}{f:FuncId}{K:KK}(u:qN C h d f as K):∃v e n,K v e n/\∀z:KK,z v e n->qN C h' d f as z:=by
 unfold qN at u;split at u
 ·rename_i N;have J:Dt (eI h') as=false:=Ke H (by unfold qL at u;exact u) N;obtain⟨v,e,n,D,I⟩:=Kc H u;exact⟨v,e,n,D,fun z hk=>by unfold qN;rw[J];exact I z hk⟩
 rename_i N;have J:=Kd H N;split at u
 ·rename_i O;obtain⟨xs,r,D,I,R,U⟩:=u;exact⟨_,_,_,U,fun z hk=>by unfold qN;rw[J,O];exact⟨xs,r,D.ext H,I,R,hk⟩⟩
 rename_i O;obtain⟨v,e,n,D,I⟩:=NU H u;exact⟨v,e,n,D,fun z hk=>by unfold qN;rw[J,O];exact I z hk⟩
theorem NV{C:Ctx}{h:Nat->AB}(H:Ext h h'){f:FuncId}{K:KK}(u:Bm C h f as K):∃v e n,K v e n/\∀z:KK,z v e n->Bm C h' f as z:=by
 unfold Bm at u;split at u
 ·split at u
  ·rename_i hb D;split at u
   ·rename_i ys I;obtain⟨J,N,r,O,R,U,W⟩:=u;refine⟨_,_,_,W,fun z hk=>?_⟩;unfold Bm;simp only[hb,H.box D,I];exact⟨J,N,r,O,R,U,hk⟩
   exact u.elim
  exact u.elim
 exact u.elim
theorem NW{C:Ctx}{h:Nat->AB}(H:Ext h h'){d:Nat}{f:FuncId}{K:KK}(z:zv C h d f as K):∃v e n,K v e n/\∀u:KK,u v e n->zv C h' d f as u:=by
 unfold zv at z;split at z
 ·rename_i D;obtain⟨v,e,n,I,J⟩:=Kg H z;exact⟨v,e,n,I,fun u hk=>by unfold zv;rw[D];exact J u hk⟩
 rename_i D;obtain⟨v,e,n,I,J⟩:=NV H z;exact⟨v,e,n,I,fun u hk=>by unfold zv;rw[D];exact J u hk⟩
theorem NX{C:Ctx}{h:Nat->AB}(H:Ext h h'){d:Nat}{f:FuncId}{K:KK}(u:zx C h d f as K):∃v e n,K v e n/\∀z:KK,z v e n->zx C h' d f as z:=by
 unfold zx at u;split at u
 case h_2=>exact u.elim
 rename_i D;split at u
 case h_2=>exact u.elim
 rename_i I;split at u
 case h_2=>exact u.elim
 rename_i J;split at u
 case h_2=>exact u.elim
 rename_i N;obtain⟨xs,fz,⟨r,O,dv,R,u⟩,U⟩:=Ef H u;split at u
 case h_2=>exact u.elim
 rename_i W;split at u
 ·refine⟨_,_,_,u,fun z h=>?_⟩;unfold zx;simp only[D,H.kr I,J,H.row N];refine U _ ⟨r,O,_,R,?_⟩;simp only[W];exact h
 refine⟨_,_,_,u,fun z h=>?_⟩;unfold zx;simp only[D,H.kr I,J,H.row N];refine U _ ⟨r,O,_,R,?_⟩;simp only[W];exact h
theorem qg{k:IntKind}{n:Int}{K:Value->Prop}(u:yw k n K):∃v,K v/\∀z:Value->Prop,z v->yw k n z:=by
 unfold yw at u;split at u
 ·rename_i h;exact⟨_,u.2,fun z hk=>by simp only[yw,h];exact⟨u.1,hk⟩⟩
 rename_i h;exact⟨_,u,fun z hk=>by simp only[yw,h];exact hk⟩
theorem HA{T:TypeId->Option TI}{op:BinOp}{t:TypeId}{x:PV}{K:Value->Prop}(u:Np T op t x K):∃v,K v/\∀z:Value->Prop,z v->Np T op t x z:=by
 unfold Np at u;split at u
 case h_2=>exact u.elim
 split at u
 case h_1=>exact u.elim
 rename_i D;split at u
 case h_2=>exact u.elim
 rename_i I;split at u<;>first
  | exact u.elim
  | exact⟨_,u,fun z h=>by simp only[Np,D,I];exact h⟩
theorem HD{T:TypeId->Option TI}{op:BinOp}{t:TypeId}{x y:PV}{K:Value->Prop}(u:vp T op t x y K):∃v,K v/\∀z:Value->Prop,z v->vp T op t x y z:=by
 unfold vp at u;split at u
 ·split at u
  ·rename_i D;exact⟨_,u.2,fun z h=>by simp only[vp,D];exact⟨u.1,h⟩⟩
  rename_i D;split at u
  ·exact u.elim
  rename_i hk;split at u<;>first
   | exact u.elim
   | (obtain⟨v,J,N⟩:=qg u;exact⟨v,J,fun z h=>by simp only[vp,hk,D];exact N z h⟩)
   | (obtain⟨v,J,N⟩:=qg u.2;exact⟨v,J,fun z h=>by simp only[vp,hk,D];exact⟨u.1,N z h⟩⟩)
   | exact⟨_,u,fun z h=>by simp only[vp,hk,D];exact h⟩
   | exact⟨_,u.2,fun z h=>by simp only[vp,hk,D];exact⟨u.1,h⟩⟩
 ·split at u<;>first
   | exact u.elim
   | exact⟨_,u,fun z h=>by simp only[vp];exact h⟩
   | exact⟨_,u.2,fun z h=>by simp only[vp];exact⟨u.1,h⟩⟩
 ·split at u
  ·rename_i I;split at u<;>first
    | exact u.elim
    | exact⟨_,u,fun z h=>by simp only[vp,I];exact h⟩
  exact u.elim
 ·split at u
  ·rename_i I;split at u
   ·exact u.elim
   rename_i R;split at u
   ·split at u
    ·rename_i O;exact⟨_,u,fun z h=>by simp only[vp,I,R,O];exact h⟩
    exact u.elim
   ·split at u
    ·rename_i O;exact⟨_,u,fun z h=>by simp only[vp,I,R,O];exact h⟩
    exact u.elim
   exact u.elim
  exact u.elim
 exact u.elim
theorem vx{h:Nat->AB}(H:Ext h h'){C:Ctx}{t:TypeId}{x:Operand}{lo hi:Option Operand}{K:KK}(u:g_ C rho h t x lo hi K):∃v e n,K v e n/\∀D:KK,D v e n->g_ C rho h' t x lo hi D:=by
 simp only[g_]at u;split at u
 ·rename_i I;split at u
  ·rename_i J;split at u
   ·rename_i N O;exact⟨_,_,_,u.2,fun D h=>by simp only[g_,I,J,N,O];exact⟨u.1,h⟩⟩
   exact u.elim
  exact u.elim
 ·rename_i I;split at u
  ·exact u.elim
  rename_i J;obtain⟨z,fz,u,R⟩:=jB H u;split at u
  ·split at u
   ·rename_i N O;refine⟨_,_,_,u.2,fun D h=>?_⟩;simp only[g_,I,J];refine R _ ?_;simp only[N,O];exact⟨u.1,h⟩
   exact u.elim
  exact u.elim
 exact u.elim
theorem NY{C:Ctx}{t:TypeId}{lo hi:Option Operand}{e':TypeId}{K:KK}(u:v_ C rho t lo hi id e' es K):∃v e n,K v e n/\∀z:KK,z v e n->v_ C rho t lo hi id e' es z:=by
 unfold v_ at u;split at u
 ·rename_i D;split at u
  ·rename_i I;split at u
   ·rename_i J N;exact⟨_,_,_,u.2,fun z h=>by simp only[v_,D,I,J,N];exact⟨u.1,h⟩⟩
   exact u.elim
  exact u.elim
 exact u.elim
theorem tH{C:Ctx}{o:Oper}{h:Nat->AB}(H:Ext h h'){K:KK}(u:cc C o rho h K):∃v e n,K v e n/\∀N:KK,N v e n->cc C o rho h' N:=by
 cases O:o.op<;>simp only[cc,O]at u
 case move x=>exact⟨_,_,_,u,fun N h=>by simp only[cc,O];exact h⟩
 case assign x=>exact⟨_,_,_,u,fun N h=>by simp only[cc,O];exact h⟩
 case pick c a b=>
  split at u
  ·rename_i D;split at u
   ·exact⟨_,_,_,u,fun N h=>by simp only[cc,O,D];exact h⟩
   exact⟨_,_,_,u,fun N h=>by simp only[cc,O,D];exact h⟩
  exact u.elim
 case alloc e=>
  split at u
  ·rename_i D;split at u
   ·rename_i I;exact⟨_,_,_,u,fun N h=>by simp only[cc,O,D,I];exact h⟩
   rename_i I;exact⟨_,_,_,u,fun N h=>by simp only[cc,O,D,I];exact h⟩
  exact u.elim
 case box e x=>
  split at u
  ·rename_i D;exact⟨_,_,_,u,fun N h=>by simp only[cc,O,D];exact h⟩
  ·rename_i D;exact⟨_,_,_,u,fun N h=>by simp only[cc,O,D];exact h⟩
  rename_i D wc;split at u
  ·rename_i I;have J:=wo H I;refine⟨_,_,_,u,fun N h=>?_⟩;simp only[cc,O];cases TA:rho x with
   | p y=>
    cases y with
    | ag cs=>exact (D cs TA).elim
    | _=>rw[TA]at J h;simp only[J];exact h
   | st xs=>exact (wc xs TA).elim
   | _=>rw[TA]at J h;simp only[J];exact h
  exact u.elim
 case binOp op t x y t'=>
  split at u
  ·rename_i D I;obtain⟨v,J,R⟩:=HD u;exact⟨_,_,_,J,fun N h=>by simp only[cc,O,D,I];exact R _ h⟩
  ·rename_i D I;obtain⟨v,J,R⟩:=HA u;exact⟨_,_,_,J,fun N h=>by simp only[cc,O,D,I];exact R _ h⟩
  exact u.elim
 case unOp op t x=>
  split at u
  ·rename_i D;exact⟨_,_,_,u,fun N h=>by simp only[cc,O,D];exact h⟩
  ·rename_i D;obtain⟨v,J,R⟩:=qg u;exact⟨_,_,_,J,fun N h=>by simp only[cc,O,D];exact R _ h⟩
  exact u.elim
 case convert src dst x=>
  split at u
  ·rename_i D I J;obtain⟨v,Y,R⟩:=qg u;exact⟨_,_,_,Y,fun N h=>by simp only[cc,O,D,I,J];exact R _ h⟩
  ·rename_i D I J;exact⟨_,_,_,u,fun N h=>by simp only[cc,O,D,I,J];exact h⟩
  ·rename_i D I J;exact⟨_,_,_,u,fun N h=>by simp only[cc,O,D,I,J];exact h⟩
  exact u.elim
 case nilCheck x=>
  split at u
  ·rename_i D;exact⟨_,_,_,u,fun N h=>by simp only[cc,O,D];exact h⟩
  ·rename_i D;split at u
   ·rename_i I;exact⟨_,_,_,u,fun N h=>by simp only[cc,O,D,H.box I];exact h⟩
   ·rename_i I;exact⟨_,_,_,u,fun N h=>by simp only[cc,O,D,H.nd I];exact h⟩
   exact u.elim
  ·rename_i D;split at u
   ·rename_i I;exact⟨_,_,_,u,fun N h=>by simp only[cc,O,D,H.row I];exact h⟩
   ·rename_i I;exact⟨_,_,_,u,fun N h=>by simp only[cc,O,D,H.aw I];exact h⟩
   exact u.elim
  exact u.elim
 case extract x i=>
  split at u
  ·rename_i D;split at u
   ·rename_i I;exact⟨_,_,_,u,fun N h=>by simp only[cc,O,D,I];exact h⟩
   exact u.elim
  exact u.elim
 case load t x=>
  split at u
  ·exact u.elim
  rename_i U;split at u
  ·rename_i D;split at u
   ·rename_i I;split at u
    ·rename_i J;exact⟨_,_,_,u,fun N h=>by simp only[cc,O,U,D,I,J];exact h⟩
    exact u.elim
   rename_i I;split at u
   ·exact⟨_,_,_,u,fun N h=>by simp only[cc,O,U,D,I];exact h⟩
   exact u.elim
  ·rename_i D;split at u
   ·rename_i I;split at u
    ·rename_i J;split at u
     ·rename_i R Y;exact⟨_,_,_,u,fun N h=>by simp only[cc,O,U,D,H.box I,J,R,Y];exact h⟩
     exact u.elim
    rename_i J;split at u
    ·rename_i R;exact⟨_,_,_,u,fun N h=>by simp only[cc,O,U,D,H.box I,J,R];exact h⟩
    exact u.elim
   ·rename_i I;split at u
    ·rename_i J;split at u
     ·rename_i R;exact⟨_,_,_,u,fun N h=>by simp only[cc,O,U,D,H.nd I,J,R];exact h⟩
     exact u.elim
    rename_i J;split at u
    ·rename_i R;exact⟨_,_,_,u,fun N h=>by simp only[cc,O,U,D,H.nd I,J,R];exact h⟩
    exact u.elim
   exact u.elim
  ·rename_i D;split at u
   ·rename_i I;obtain⟨r,Z,u⟩:=u;split at u
    ·rename_i J;split at u
     ·rename_i R;exact⟨_,_,_,u,fun N h=>by simp only[cc,O,U,D,H.row I];refine⟨r,Z,?_⟩;simp only[J,R];exact h⟩
     exact u.elim
    rename_i J;split at u
    ·rename_i R;exact⟨_,_,_,u,fun N h=>by simp only[cc,O,U,D,H.row I];refine⟨r,Z,?_⟩;simp only[J,R];exact h⟩
    exact u.elim
   ·rename_i I;obtain⟨r,Z,u⟩:=u;split at u
    ·exact u.elim
    rename_i J;split at u
    ·rename_i R;exact⟨_,_,_,u,fun N h=>by simp only[cc,O,U,D,H.aw I];refine⟨r,Z,?_⟩;simp only[J,R];exact h⟩
    exact u.elim
   exact u.elim
  exact u.elim
 case store t x y=>
  split at u
  ·exact u.elim
  rename_i U;split at u
  ·rename_i D;split at u
   ·rename_i I;split at u
    ·rename_i J;obtain⟨z,fz,u,W⟩:=jB H u;split at u
     ·split at u
      ·rename_i R;refine⟨_,_,_,u,fun N h=>?_⟩;simp only[cc,O,U,D,H.box I,J];refine W _ ?_;simp only[R];exact h
      exact u.elim
     exact u.elim
    rename_i J;split at u
    ·rename_i R;simp only[aJ]at R;have Y:=wo H R.2;refine⟨_,_,_,u,fun N h=>?_⟩;simp only[cc,O,U,D,H.box I,J,R.1.1,R.1.2,Y,nk];exact h
    exact u.elim
   exact u.elim
  ·rename_i D;split at u
   ·rename_i I;obtain⟨r,Z,u⟩:=u;obtain⟨z,fz,u,W⟩:=jB H u;split at u
    ·rename_i J;split at u
     ·rename_i R;refine⟨_,_,_,u,fun N h=>?_⟩;simp only[cc,O,U,D,H.row I];refine⟨r,Z,W _ ?_⟩;simp only[J,R];exact h
     exact u.elim
    exact u.elim
   ·rename_i I;obtain⟨r,Z,u⟩:=u;split at u
    ·exact u.elim
    rename_i J;split at u
    ·rename_i R;simp only[aJ]at R;have Y:=wo H R.2;refine⟨_,_,_,u,fun N h=>?_⟩;simp only[cc,O,U,D,H.aw I];refine⟨r,Z,?_⟩;simp only[J,R.1.1,R.1.2,Y,nk];exact h
    exact u.elim
   exact u.elim
  exact u.elim
 case fieldAddr t x f=>
  split at u
  ·rename_i U;split at u
   ·rename_i D;split at u
    ·rename_i I;exact⟨_,_,_,u,fun N h=>by simp only[cc,O,U,D,I];exact h⟩
    ·rename_i id o' I;split at u
     ·exact u.elim
     rename_i cO;refine⟨_,_,_,u,fun N h=>?_⟩;simp only[cc,O,U,D,I];rcases H id with R | R
     ·exact absurd R (by simpa using cO)
     rw[R];split
     ·rename_i Y;exact absurd Y (by simpa using cO)
     exact h
    ·rename_i I;split at u
     ·rename_i J;exact⟨_,_,_,u,fun N h=>by simp only[cc,O,U,D,I,H.row J];exact h⟩
     ·rename_i J;exact⟨_,_,_,u,fun N h=>by simp only[cc,O,U,D,I,H.aw J];exact h⟩
     exact u.elim
    exact u.elim
   exact u.elim
  exact u.elim
 case field t x f=>
  split at u
  ·rename_i U Vo;split at u
   ·rename_i D;split at u
    ·split at u
     ·rename_i J;exact⟨_,_,_,u,fun N h=>by simp only[cc,O,U,Vo,D,J];exact h⟩
     exact u.elim
    split at u
    ·rename_i J;exact⟨_,_,_,u,fun N h=>by simp only[cc,O,U,Vo,D,J];exact h⟩
    exact u.elim
   exact u.elim
  exact u.elim
 case indexAddr t x ix=>
  split at u
  ·rename_i U Vo;split at u
   ·exact u.elim
   rename_i D;split at u
   ·rename_i I;obtain⟨r,Z,u⟩:=u;split at u
    ·rename_i J;exact⟨_,_,_,u,fun N h=>by simp only[cc,O,U,Vo,D,I];refine⟨r,Z,?_⟩;simp only[J];exact h⟩
    exact u.elim
   ·rename_i I;split at u
    ·rename_i J;split at u
     ·rename_i R;exact⟨_,_,_,u.2,fun N h=>by simp only[cc,O,U,Vo,D,I,H.row J,R];exact⟨u.1,h⟩⟩
     exact u.elim
    ·rename_i J;split at u
     ·rename_i R;exact⟨_,_,_,u.2,fun N h=>by simp only[cc,O,U,Vo,D,I,H.aw J,R];exact⟨u.1,h⟩⟩
     exact u.elim
    ·rename_i J;obtain⟨r,Z,u⟩:=u;split at u
     ·rename_i R;exact⟨_,_,_,u,fun N h=>by simp only[cc,O,U,Vo,D,I,H.lz J];refine⟨r,Z,?_⟩;simp only[R];exact h⟩
     exact u.elim
    exact u.elim
   ·rename_i I;split at u
    ·rename_i J;split at u
     ·rename_i R;exact⟨_,_,_,u.2,fun N h=>by simp only[cc,O,U,Vo,D,I,H.row J,R];exact⟨u.1,h⟩⟩
     exact u.elim
    exact u.elim
   exact u.elim
  exact u.elim
 case index t x ix=>
  split at u
  ·rename_i U D I;obtain⟨b,hb,u⟩:=u;exact⟨_,_,_,u,fun N h=>by simp only[cc,O,U,D,I];exact⟨b,hb,h⟩⟩
  exact u.elim
 case slice t x lo hi mx=>
  cases mx with
  | some m=>exact u.elim
  | none=>
   simp only at u;split at u
   ·rename_i id hid;split at u
    ·rename_i e' es Z;rcases u with u | u
     ·obtain⟨v,e,n,u,W⟩:=NY u;exact⟨v,e,n,u,fun N h=>by simp only[cc,O,hid,H.row Z];exact .inl (W _ h)⟩
     obtain⟨v,e,n,u,W⟩:=vx H u;exact⟨v,e,n,u,fun N h=>by simp only[cc,O,hid,H.row Z];exact .inr (W _ h)⟩
    rename_i cO;obtain⟨v,e,n,u,W⟩:=vx H u;refine⟨v,e,n,u,fun N h=>?_⟩;simp only[cc,O,hid];split
    ·exact .inr (W _ h)
    exact W _ h
   rename_i cO;obtain⟨v,e,n,u,W⟩:=vx H u;refine⟨v,e,n,u,fun N h=>?_⟩;simp only[cc,O]
   first
    | exact W _ h
    | (
      split
      ·rename_i id hid;exact absurd hid (cO id)
      exact W _ h)
 case makeMap t r=>
  cases r with
  | some _=>exact u.elim
  | none=>
   simp only at u;split at u
   ·rename_i U;split at u
    ·rename_i D;split at u
     ·rename_i I;exact⟨_,_,_,u,fun N h=>by simp only[cc,O,U,D,I];exact h⟩
     exact u.elim
    exact u.elim
   exact u.elim
 case lookup t x i ck=>
  split at u
  case h_2=>exact u.elim
  rename_i U;split at u
  case h_2=>exact u.elim
  rename_i D I;split at u
  case h_2=>exact u.elim
  rename_i J;split at u
  ·rename_i R;split at u
   case h_2=>exact u.elim
   rename_i Y;split at u
   case h_2=>exact u.elim
   rename_i h6;split at u
   case h_2=>exact u.elim
   rename_i h7;obtain⟨r,Z,u⟩:=u;cases ck with
   | true=>exact⟨_,_,_,u,fun N h=>by simp only[cc,O,U,D,I,J,R,H.map Y,h6,h7];exact⟨r,Z,h⟩⟩
   | false=>exact⟨_,_,_,u,fun N h=>by simp only[cc,O,U,D,I,J,R,H.map Y,h6,h7];exact⟨r,Z,h⟩⟩
  ·rename_i R;split at u
   case h_2=>exact u.elim
   rename_i h6;split at u
   case h_2=>exact u.elim
   rename_i h7;obtain⟨r,Z,u⟩:=u;cases ck with
   | true=>exact⟨_,_,_,u,fun N h=>by simp only[cc,O,U,D,I,J,R,h6,h7];exact⟨r,Z,h⟩⟩
   | false=>exact⟨_,_,_,u,fun N h=>by simp only[cc,O,U,D,I,J,R,h6,h7];exact⟨r,Z,h⟩⟩
  exact u.elim
 case range t x=>
  split at u
  case h_2=>exact u.elim
  rename_i U;split at u
  case h_2=>exact u.elim
  rename_i D;exact⟨_,_,_,u,fun N h=>by simp only[cc,O,U,D];exact h⟩
 case entry x=>
  split at u
  case h_2=>exact u.elim
  rename_i U;split at u
  case h_2=>exact u.elim
  rename_i D;exact⟨_,_,_,u,fun N h=>by simp only[cc,O,U,H.iter D];exact h⟩
 case mapUpdate t x i y=>
  split at u
  case h_2=>exact u.elim
  rename_i U;split at u
  case h_2=>exact u.elim
  rename_i D;split at u
  case h_2=>exact u.elim
  rename_i J;split at u
  case h_2=>exact u.elim
  rename_i R;split at u
  case h_2=>exact u.elim
  rename_i Y;split at u
  case h_2=>exact u.elim
  rename_i h6;split at u
  case h_2=>exact u.elim
  rename_i h7;obtain⟨z,fz,u,W⟩:=jB H u;split at u
  case h_2=>exact u.elim
  rename_i h8;refine⟨_,_,_,u,fun N h=>?_⟩;simp only[cc,O,U,D,J,R,H.map Y,h6,h7];refine W _ ?_;simp only[h8];exact h
 case build t ps=>
  split at u
  ·rename_i U;split at u
   ·rename_i D;obtain⟨z,fz,u,W⟩:=NQ H u;exact⟨_,_,_,u,fun N h=>by simp only[cc,O,U,D];exact W _ h⟩
   rename_i D;obtain⟨z,u,W⟩:=Eg H u;exact⟨_,_,_,u,fun N h=>by simp only[cc,O,U,D];exact W _ h⟩
  exact u.elim
 case buildSlice t len ps=>
  split at u
  ·rename_i U;split at u
   ·rename_i D;split at u
    ·rename_i I;split at u
     ·rename_i J;obtain⟨z,fz,u,W⟩:=BE H u;exact⟨_,_,_,u,fun N h=>by simp only[cc,O,U,D,I,J];exact W _ h⟩
     rename_i J;obtain⟨z,fz,u,W⟩:=BE H u;exact⟨_,_,_,u,fun N h=>by simp only[cc,O,U,D,I,J];exact W _ h⟩
    exact u.elim
   exact u.elim
  exact u.elim
 case makeSlice t n c=>
  split at u
  ·rename_i U D I;split at u
   ·rename_i J;split at u
    ·rename_i R;exact⟨_,_,_,u.2,fun N h=>by simp only[cc,O,U,D,I,J,R];exact⟨u.1,h⟩⟩
    exact u.elim
   exact u.elim
  exact u.elim
 case makeFunc fn first cap=>
  cases fn with
  | func f=>
   simp only at u;split at u
   ·rename_i D;exact⟨_,_,_,u,fun N h=>by simp only[cc,O,D];exact h⟩
   exact u.elim
  | _=>exact u.elim
 case call c=>
  split at u
  ·rename_i U;split at u
   ·rename_i D I;split at u
    ·rename_i J;split at u
     ·rename_i R;exact⟨_,_,_,u,fun N h=>by simp only[cc,O,U,D,I,J,R];exact h⟩
     exact u.elim
    ·rename_i J;split at u
     ·rename_i m hm;exact⟨_,_,_,u,fun N h=>by simp only[cc,O,U,D,I,J,NO H hm];exact h⟩
     have hn:=NP H u;obtain⟨es,u,W⟩:=BD H u;exact⟨_,_,_,u,fun N h=>by simp only[cc,O,U,D,I,J,hn];exact W _ h⟩
    ·rename_i J;split at u
     ·rename_i R;split at u
      ·rename_i Y;exact⟨_,_,_,u,fun N h=>by simp only[cc,O,U,D,I,J,R,H.map Y];exact h⟩
      exact u.elim
     ·rename_i R;exact⟨_,_,_,u,fun N h=>by simp only[cc,O,U,D,I,J,R];exact h⟩
     exact u.elim
    exact u.elim
   exact u.elim
  ·rename_i U;split at u
   case h_2=>exact u.elim
   rename_i D I;split at u
   case h_2=>exact u.elim
   rename_i J;split at u
   case h_2=>exact u.elim
   rename_i R;split at u
   case h_2=>exact u.elim
   rename_i Y;split at u
   case h_2=>exact u.elim
   rename_i h6;split at u
   case h_2=>exact u.elim
   rename_i h7;exact⟨_,_,_,u.2,fun N h=>by simp only[cc,O,U,D,I,J,R,Y,H.row h6,h7];exact⟨u.1,h⟩⟩
  ·rename_i U;split at u
   ·rename_i D;split at u
    ·rename_i I J;exact⟨_,_,_,u,fun N h=>by simp only[cc,O,U,D,I,J];exact h⟩
    exact u.elim
   exact u.elim
  ·rename_i U;split at u
   ·rename_i D;split at u
    ·rename_i I J;exact⟨_,_,_,u,fun N h=>by simp only[cc,O,U,D,I,J];exact h⟩
    exact u.elim
   ·rename_i D;split at u
    ·rename_i I J R;exact⟨_,_,_,u,fun N h=>by simp only[cc,O,U,D,I,J,R];exact h⟩
    exact u.elim
   ·rename_i D;split at u
    ·rename_i I J R Y h6;exact⟨_,_,_,u,fun N h=>by simp only[cc,O,U,D,I,J,R,Y,h6];exact h⟩
    exact u.elim
   exact u.elim
  ·rename_i U;split at u
   ·rename_i D I;split at u
    ·rename_i J R;split at u
     ·rename_i Y;split at u
      ·rename_i h6;obtain⟨es,u,W⟩:=BD H u;split at u
       ·rename_i h7;refine⟨_,_,_,u.2,fun N h=>?_⟩;simp only[cc,O,U,D,I,J,R,Y,h6];refine W _ ?_;simp only[h7];exact⟨u.1,h⟩
       ·rename_i h7;split at u
        ·rename_i h8;split at u
         ·rename_i h9;refine⟨_,_,_,u.2,fun N h=>?_⟩;simp only[cc,O,U,D,I,J,R,Y,h6];refine W _ ?_;simp only[h7,H.row h8,h9];exact⟨u.1,h⟩
         exact u.elim
        ·rename_i h8;split at u
         ·rename_i h9;refine⟨_,_,_,u.2,fun N h=>?_⟩;simp only[cc,O,U,D,I,J,R,Y,h6];refine W _ ?_;simp only[h7,H.aw h8,h9];exact⟨u.1,h⟩
         exact u.elim
        exact u.elim
       exact u.elim
      exact u.elim
     exact u.elim
    exact u.elim
   exact u.elim
  ·rename_i U;split at u
   ·rename_i D;split at u
    ·rename_i I;obtain⟨v,e,n,u,W⟩:=NW H u;exact⟨_,_,_,u,fun N h=>by simp only[cc,O,U,D,I];exact W _ h⟩
    rename_i I;obtain⟨v,e,n,u,W⟩:=NX H u;exact⟨_,_,_,u,fun N h=>by simp only[cc,O,U,D,I];exact W _ h⟩
   exact u.elim
  exact u.elim
 all_goals exact u.elim
theorem Ql(A:rZ)(o:Oper):jV A o:=by
 cases u:o.op
 case move x=>exact Tc x u
 case assign x=>exact Ns x u
 case pick c x y=>exact Td c x y u
 case alloc e=>exact PS e u
 case box e x=>exact Wd e x u
 case build t ps=>exact P3 t ps u
 case buildSlice t n ps=>exact Dw t n ps u
 case load t x=>exact Tj t x u
 case store t x y=>exact PX t x y u
 case nilCheck x=>exact Hp x u
 case binOp op t x y t'=>exact PK op t x y t' u
 case unOp op t x=>exact Tg op t x u
 case convert s d x=>exact JV s d x u
 case makeFunc fn first cap=>
  cases fn with
  | func f=>exact Hq f first cap u
  | _=>intro V L S rho s a w K next Q hC z I J D;simp only[cc,u]at D
 case makeSlice t n c=>exact Fj t n c u
 case makeMap t r=>
  cases r with
  | none=>exact J2 t u
  | some r=>intro V L S rho s a w K next Q hC z I J D;simp only[cc,u]at D
 case lookup t x i ck=>exact NF t x i ck u
 case range t x=>exact ahG t x u
 case entry x=>exact ahH x u
 case mapUpdate t x i y=>exact Fm t x i y u
 case slice t x lo hi mx=>
  cases mx with
  | none=>exact ok_slice t x lo hi u
  | some m=>intro V L S rho s a w K next Q hC z I J D;simp only[cc,u]at D
 case fieldAddr t x f=>exact Fe t x f u
 case field t x f=>exact PM t x f u
 case indexAddr t x ix=>exact Fg t x ix u
 case index t x ix=>exact PO t x ix u
 case extract x i=>exact JT x i u
 case call c=>
  cases hc:c.callee with
  | value g=>exact Tz c g u hc
  | invoke r m=>intro V L S rho s a w K next Q hC z I J D;simp only[cc,u,hc,fc,fZ]at D
  | builtin b=>
   cases b
   case len=>exact Wj c u hc
   case min=>exact Wk c u hc
   case max=>exact Wl c u hc
   case append=>exact NA c u hc
   case clear=>exact Qa c u hc
   all_goals (intro V L S rho s a w K next Q hC z I J D;simp only[cc,u,hc,fc,fZ]at D)
 all_goals (intro V L S rho s a w K next Q hC z I J D;simp only[cc,u]at D)
end Go.AM
namespace Go.AM
open Go.RowKit
def cG(a b:Nat):Bool:=Nat.beq a b
theorem bz{a b:Nat}:cG a b=true↔a=b:=by unfold cG;exact⟨cY,fun h=>by subst h;simp⟩
mutual
def uY(d:Nat):AV->Bool
 | .ow i=>cG i d
 | .rp i _ _=>cG i d
 | .bx i _=>cG i d
 | .vw i _ _=>cG i d
 | .fn _ cap=>iF d cap
 | .tu xs=>iF d xs
 | .st xs=>iF d xs
 | _=>false
def iF(d:Nat):List AV->Bool
 | []=>false
 | x::r=>uY d x||iF d r
end
def rn(i d:Nat):AV->AV
 | .ow k=>match cG k i with
  | true=>.ow d
  | false=>match cG k d with
   | true=>.junk
   | false=>.ow k
 | .rp k a b=>match cG k i with
  | true=>.rp d a b
  | false=>match cG k d with
   | true=>.junk
   | false=>.rp k a b
 | .bx k a=>match cG k i with
  | true=>.bx d a
  | false=>match cG k d with
   | true=>.junk
   | false=>.bx k a
 | .vw k a b=>match cG k i with
  | true=>.vw d a b
  | false=>match cG k d with
   | true=>.junk
   | false=>.vw k a b
 | .fn f cap=>match iF i cap||iF d cap with
  | true=>.junk
  | false=>.fn f cap
 | .tu xs=>match iF i xs||iF d xs with
  | true=>.junk
  | false=>.tu xs
 | .st xs=>match iF i xs||iF d xs with
  | true=>.junk
  | false=>.st xs
 | x=>x
def HX.dn(f:AV->AV):HX->HX
 | .av x=>.av (f x)
 | .row e es=>.row e es
def Qm(i d:Nat):AB->AB
 | .aw e es=>.aw e (es.map fun r=>r.map (HX.dn (rn i d)))
 | .box cs=>.box (cs.map (rn i d))
 | .kr ty cs=>.kr ty (cs.map (rn i d))
 | b=>b
def oS(i d:Nat)(s:AS):AS:=⟨fun j=>rn i d (s.t j),fun j=>match cG j d with
 | true=>Qm i d (s.h i)
 | false=>match cG j i with
  | true=>.none
  | false=>Qm i d (s.h j)⟩
def sc(d:Nat):AV->AV
 | .p x=>.p x
 | .nl=>.nl
 | .ow i=>match cG i d with
  | true=>.junk
  | false=>.ow i
 | .rp i a b=>match cG i d with
  | true=>.junk
  | false=>.rp i a b
 | .bx i a=>match cG i d with
  | true=>.junk
  | false=>.bx i a
 | .vw i a b=>match cG i d with
  | true=>.junk
  | false=>.vw i a b
 | .fn f cap=>match iF d cap with
  | true=>.junk
  | false=>.fn f cap
 | .tu xs=>match iF d xs with
  | true=>.junk
  | false=>.tu xs
 | .st xs=>match iF d xs with
  | true=>.junk
  | false=>.st xs
 | .junk=>.junk
theorem Qn(d:Nat)(x:AV):sc d x=match uY d x with
  | true=>.junk
  | false=>x:=by cases x<;>rfl
def zF(d:Nat):AB->AB
 | .aw e es=>.aw e (es.map fun r=>r.map (HX.dn (sc d)))
 | .box cs=>.box (cs.map (sc d))
 | .kr ty cs=>.kr ty (cs.map (sc d))
 | b=>b
def jk(d:Nat)(s:AS):AS:=⟨fun j=>sc d (s.t j),a8 (fun k=>zF d (s.h k)) d .none⟩
def cX:Nat->Prop:=fun _=>True
theorem yE(i d:Nat)(b:AB):(Qm i d b).there↔b.there:=by cases b<;>rfl
theorem HE(i d:Nat)(b:AB):(Qm i d b).live↔b.live:=by cases b<;>rfl
structure HF(L L':Nat->Prop)(rho rho':Nat->Value)(h h':Nat->AB)(i d:Nat):Prop where
 old:∀k,k≠i->k≠d->((h' k).there->(h k).there)/\(L k->L' k)/\rho' k=rho k/\(∀e,(h' k).qK=some e->(h k).qK=some e)
 new:i≠d->((h' d).there->(h i).there)/\(L i->L' d)/\rho' d=rho i/\(∀e,(h' d).qK=some e->(h i).qK=some e)
theorem di{d:Nat}:∀{xs:List AV},iF d xs=false->∀x∈xs,uY d x=false:=by
 intro xs
 induction xs with
 | nil=>intro _ x u;cases u
 | cons y xs ih=>
  intro h x u;simp only[iF,wj]at h;rcases L8.1 u with e | e
  ·rw[e];exact h.1
  exact ih h.2 x e
variable {L L':Nat->Prop} {rho:Nat->Value} {h':Nat->AB}
theorem bu.sK{S:Nat->Prop}{w:World}{P:Program}{rho':Nat->Value}{h:Nat->AB}{i d:Nat}(T:HF L L' rho rho' h h' i d){x:AV}{v:Value}(Y:bu S w P L rho h x v)(z:uY i x=false)(D:uY d x=false):bu S w P L' rho' h' x v:=by
 induction Y with
 | p x v Y=>exact .p x v Y
 | nl=>exact .nl
 | ow k v hv=>
  have e1:k≠i:=fun e=>by rw[uY,bz.2 e]at z;cases z
  have e2:k≠d:=fun e=>by rw[uY,bz.2 e]at D;cases D
  obtain⟨J,N,O,R⟩:=T.old k e1 e2;exact .ow k v fun U=>⟨N (hv (J U)).1,by rw[O];exact (hv (J U)).2⟩
 | rp k a b v hv=>
  have e1:k≠i:=fun e=>by rw[uY,bz.2 e]at z;cases z
  have e2:k≠d:=fun e=>by rw[uY,bz.2 e]at D;cases D
  obtain⟨J,N,O,R⟩:=T.old k e1 e2;exact .rp k a b v fun e Z=>by obtain⟨q1,q2⟩:=hv e (R e Z);exact⟨N q1,by rw[O];exact q2⟩
 | bx k a v hv=>
  have e1:k≠i:=fun e=>by rw[uY,bz.2 e]at z;cases z
  have e2:k≠d:=fun e=>by rw[uY,bz.2 e]at D;cases D
  obtain⟨J,N,O,R⟩:=T.old k e1 e2;exact .bx k a v fun U=>⟨N (hv (J U)).1,by rw[O];exact (hv (J U)).2⟩
 | vw k a b v hv=>
  have e1:k≠i:=fun e=>by rw[uY,bz.2 e]at z;cases z
  have e2:k≠d:=fun e=>by rw[uY,bz.2 e]at D;cases D
  obtain⟨J,N,O,R⟩:=T.old k e1 e2;exact .vw k a b v fun e Z=>by obtain⟨q1,q2⟩:=hv e (R e Z);exact⟨N q1,by rw[O];exact q2⟩
 | fn f cap vs hl hc ih=>exact .fn f cap vs hl fun j c u I W=>ih j c u I W (di z c (aj I)) (di D c (aj I))
 | tu xs vs hl hc ih=>exact .tu xs vs hl fun j c u I W=>ih j c u I W (di z c (aj I)) (di D c (aj I))
 | st xs vs hl h0 hc ih=>exact .st xs vs hl h0 fun j c u I W=>ih j c u I W (di z c (aj I)) (di D c (aj I))
 | junk v=>exact .junk v
theorem bu.rn{S:Nat->Prop}{w:World}{P:Program}{rho':Nat->Value}{h:Nat->AB}{i d:Nat}(T:HF L L' rho rho' h h' i d)(hid:i≠d\/∀k,k=d->¬(h' k).there ){x:AV}{v:Value}(hx:bu S w P L rho h x v):bu S w P L' rho' h' (rn i d x) v:=by
 have z:i=d->¬(h' d).there:=fun e=>hid.resolve_left (fun h=>h e) d rfl;cases hx with
 | p x v hx=>exact .p x v hx
 | nl=>exact .nl
 | ow k v hv=>
  unfold AM.rn;simp only;split
  ·rename_i hk;have hk:=bz.1 hk;subst hk;refine .ow d v fun J=>?_;by_cases e:k=d
   ·exact absurd J (z e)
   obtain⟨N,O,R,W⟩:=T.new e;exact⟨O (hv (N J)).1,by rw[R];exact (hv (N J)).2⟩
  rename_i hk;split
  ·exact .junk v
  rename_i U;exact bu.sK T (.ow k v hv) (by simpa [uY] using hk) (by simpa [uY] using U)
 | rp k a b v hv=>
  unfold AM.rn;simp only;split
  ·rename_i hk;have hk:=bz.1 hk;subst hk;refine .rp d a b v fun e Y=>?_;by_cases e':k=d
   ·exact absurd (qO Y) (z e')
   obtain⟨N,O,R,W⟩:=T.new e';obtain⟨q1,q2⟩:=hv e (W e Y);exact⟨O q1,by rw[R];exact q2⟩
  rename_i hk;split
  ·exact .junk v
  rename_i U;exact bu.sK T (.rp k a b v hv) (by simpa [uY] using hk) (by simpa [uY] using U)
 | vw k a b v hv=>
  unfold AM.rn;simp only;split
  ·rename_i hk;have hk:=bz.1 hk;subst hk;refine .vw d a b v fun e Y=>?_;by_cases e':k=d
   ·exact absurd (qO Y) (z e')
   obtain⟨N,O,R,W⟩:=T.new e';obtain⟨q1,q2⟩:=hv e (W e Y);exact⟨O q1,by rw[R];exact q2⟩
  rename_i hk;split
  ·exact .junk v
  rename_i U;exact bu.sK T (.vw k a b v hv) (by simpa [uY] using hk) (by simpa [uY] using U)
 | bx k a v hv=>
  unfold AM.rn;simp only;split
  ·rename_i hk;have hk:=bz.1 hk;subst hk;refine .bx d a v fun J=>?_;by_cases e:k=d
   ·exact absurd J (z e)
   obtain⟨N,O,R,W⟩:=T.new e;exact⟨O (hv (N J)).1,by rw[R];exact (hv (N J)).2⟩
  rename_i hk;split
  ·exact .junk v
  rename_i U;exact bu.sK T (.bx k a v hv) (by simpa [uY] using hk) (by simpa [uY] using U)
 | fn f cap vs hl hc=>
  unfold AM.rn;simp only;split
  ·exact .junk _
  rename_i D;simp only[wj]at D;exact .fn f cap vs hl fun j c u I Z=>(hc j c u I Z).sK T (di D.1 c (aj I)) (di D.2 c (aj I))
 | tu xs vs hl hc=>
  unfold AM.rn;simp only;split
  ·exact .junk _
  rename_i D;simp only[wj]at D;exact .tu xs vs hl fun j c u I Z=>(hc j c u I Z).sK T (di D.1 c (aj I)) (di D.2 c (aj I))
 | st xs vs hl h0 hc=>
  unfold AM.rn;simp only;split
  ·exact .junk _
  rename_i D;simp only[wj]at D;exact .st xs vs hl h0 fun j c u I Z=>(hc j c u I Z).sK T (di D.1 c (aj I)) (di D.2 c (aj I))
 | junk v=>exact .junk v
variable {es:List (List HX)}
theorem qT{w:World}{f:AV->AV}{g a j:Nat}{u:Value}:dT w (es.map fun r=>r.map (HX.dn f)) g a j u↔dT w es g a j u:=by
 constructor
 ·rintro⟨r,e,xs,c,N,m,D,I,O,J⟩;rw[aD]at D;obtain⟨q,U,rfl⟩:=qI.1 D;rw[aD]at I;obtain⟨z,W,R⟩:=qI.1 I;rw[E5]at J;cases z with
  | av x=>cases R
  | row e' Y=>exact⟨q,e',Y,c,N,m,U,W,O,J⟩
 rintro⟨r,e,xs,c,N,m,D,I,O,J⟩;exact⟨r.map (HX.dn f),e,xs,c,N,m,by rw[aD,D];rfl,by rw[aD,I];rfl,O,by rw[E5];exact J⟩
theorem yt.map{w:World}{f:AV->AV}{v:Value}(h:yt w es v):yt w (es.map fun r=>r.map (HX.dn f)) v:=
 ⟨fun g a j u b z D I=>h.top g a j u b z (qT.1 D) I,fun g a j J N u O b z D I R U=>h.dis g a j J N u O b z (qT.1 D) (qT.1 I) R U⟩
variable {e:TypeId}
theorem aH.map{P:Program}{w:World}{R J:HX->Value->Prop}{f:AV->AV}{v:Value}(h:aH P w R e es v)(U:∀x u,R x u->J (HX.dn f x) u):aH P w J e (es.map fun r=>r.map (HX.dn f)) v:=by
 obtain⟨i,xs,W,Y,Z,h4,h5,h6⟩:=h;refine⟨i,xs,W,Y,by rw[E5];exact Z,fun r D=>?_,h5,fun a r j x N O=>?_⟩
 ·obtain⟨q,I,rfl⟩:=aZ.1 D;rw[E5];exact h4 q I
 rw[aD]at N;obtain⟨q,I,rfl⟩:=qI.1 N;rw[aD]at O;obtain⟨z,hz,rfl⟩:=qI.1 O;obtain⟨u,hu,D⟩:=h6 a q j z I hz;exact⟨u,hu,U _ _ D⟩
theorem eh{w:World}{v:Value}{k:Nat}:hasB w (.aw e es) v k↔cF v=some k\/∃g a j u,cF v=some g/\dT w es g a j u/\cF u=some k:=by
 constructor
 ·rintro (h | ⟨cs,g,h,_⟩ | ⟨e',dv,g,a,j,u,h,z,D,I⟩)
  ·exact .inl h
  ·cases h
  injection h with h4 h5;subst h4 h5;exact .inr ⟨g,a,j,u,z,D,I⟩
 rintro (h | ⟨g,a,j,u,z,D,I⟩)
 ·exact .inl h
 exact .inr (.inr ⟨_,_,_,_,_,_,rfl,z,D,I⟩)
theorem Eh{w:World}{f:AV->AV}{v:Value}{k:Nat}:hasB w (.aw e (es.map fun r=>r.map (HX.dn f))) v k↔hasB w (.aw e es) v k:=by
 rw[eh,eh];simp only[qT]
theorem Mg{w:World}(i d:Nat)(b:AB)(v:Value)(g:Nat):hasB w (Qm i d b) v g↔hasB w b v g:=by
 cases b with
 | aw e es=>exact Eh
 | box cs=>exact⟨fun h=>.inl (aI rfl h),fun h=>.inl (aI rfl h)⟩
 | kr ty cs=>exact⟨fun h=>.inl (aI rfl h),fun h=>.inl (aI rfl h)⟩
 | _=>exact cI
variable {A:rZ} {s:AS}
theorem cn.rename{S:Nat->Prop}{a:Act}{w:World}(D:cn A cX cX S rho s a w)(i d:Nat)(hid:i≠d)(hdb:d<100000):cn A cX cX S (fun j=>if j=d then rho i else rho j) (oS i d s) a w:=by
 have hd:(oS i d s).h d=Qm i d (s.h i):=by simp[oS,cG]
 have hi:(oS i d s).h i=.none:=by
  have:cG i d=false:=by rw[cu];intro e;exact hid (bz.1 e)
  simp only[oS,this,bz.2 rfl]
 have ho:∀k,k≠i->k≠d->(oS i d s).h k=Qm i d (s.h k):=fun k N J=>by
  have e1:cG k d=false:=by rw[cu];intro e;exact J (bz.1 e)
  have e2:cG k i=false:=by rw[cu];intro e;exact N (bz.1 e)
  simp[oS,e1,e2]
 have row:∀b e,(Qm i d b).qK=some e->b.qK=some e:=fun b e h=>by cases b<;>exact h
 have T:HF cX cX rho (fun j=>if j=d then rho i else rho j) s.h (oS i d s).h i d:=
  ⟨fun k N J=>by rw[ho k N J];exact⟨(yE _ _ _).1,fun h=>h,aa J,row _⟩,fun _=>by rw[hd];exact⟨(yE _ _ _).1,fun h=>h,ae rfl,row _⟩⟩
 have U:∀k,((oS i d s).h k).live->∃I,(s.h I).live/\(if k=d then rho i else rho k)=rho I/\(I=if k=d then i else k)/\∀v g,hasB w ((oS i d s).h k) v g↔hasB w (s.h I) v g:=by
  intro k hl;by_cases e:k=d
  ·subst e;rw[hd,HE]at hl;exact⟨i,hl,ae rfl,(ae rfl).symm,fun v g=>by rw[hd,Mg]⟩
  by_cases e':k=i
  ·subst e';rw[hi]at hl;exact hl.elim
  rw[ho k e' e,HE]at hl;exact⟨k,hl,aa e,(aa e).symm,fun v g=>by rw[ho k e' e,Mg]⟩
 have R:∀k b,fD S w A.C.P cX rho s.h k b->∀I,(if I=d then rho i else rho I)=rho k->fD S w A.C.P cX (fun j=>if j=d then rho i else rho j) (oS i d s).h I (Qm i d b):=by
  intro k b hb I hk;cases b with
  | none=>trivial
  | row e es=>show aH _ _ _ _ _ (if I=d then rho i else rho I);rw[hk];exact hb
  | lz es=>show aO _ _ _ (if I=d then rho i else rho I);rw[hk];exact hb
  | nd es=>show aO _ _ _ (if I=d then rho i else rho I);rw[hk];exact hb
  | map mk es=>
   obtain⟨g,ms,O,N,J⟩:=hb;exact⟨g,ms,O,by simp only;rw[hk];exact N,J⟩
  | iter mk es n cur=>
   obtain⟨g,mg,ms,O,seen,N,J⟩:=hb;exact⟨g,mg,ms,O,seen,by simp only;rw[hk];exact N,J⟩
  | box cs=>
   obtain⟨g,ty,c,N,J,W,Y⟩:=hb;refine⟨g,ty,c,by simp only;rw[hk];exact N,J,by simpa using W,fun j x u Z hu=>?_⟩;rw[aD]at Z;obtain⟨z,hz,rfl⟩:=qI.1 Z;exact⟨(Y j z u hz hu).1,(Y j z u hz hu).2.rn T (.inl hid)⟩
  | kr ty cs=>
   obtain⟨g,c,N,J,W,Y⟩:=hb;refine⟨g,c,by simp only;rw[hk];exact N,J,by simpa using W,fun j x u Z hu=>?_⟩;rw[aD]at Z;obtain⟨z,hz,rfl⟩:=qI.1 Z;exact⟨(Y j z u hz hu).1,(Y j z u hz hu).2.rn T (.inl hid)⟩
  | aU cs=>
   obtain⟨g,ty,c,N,J⟩:=hb;exact⟨g,ty,c,by simp only;rw[hk];exact N,J⟩
  | aw e es=>
   obtain⟨N,J⟩:=hb;show aH _ _ _ _ _ (if I=d then rho i else rho I)/\yt _ _ (if I=d then rho i else rho I);rw[hk];refine⟨aH.map N fun x u hx=>?_,J.map⟩;cases x with
   | av x=>exact bu.rn T (.inl hid) hx
   | row e' dv=>exact hx
 exact
 {tm:=fun j Z=>(D.tm j Z).rn T (.inl hid)
  sz:=D.sz,df:=D.df,nb:=D.nb,pn:=fun id h=>by show (if id=d then rho i else rho id)=_;rw[aa (by omega)];exact D.pn id h,ev:=D.ev,s0:=D.s0,st:=D.st,sb:=D.sb
  hp:=fun k _=>by
   by_cases e:k=d
   ·subst e;rw[hd];exact R i _ (D.hp i trivial) k (ae rfl)
   by_cases e':k=i
   ·subst e';rw[hi];trivial
   rw[ho k e' e];exact R k _ (D.hp k trivial) k (aa e)
  dj:=fun a b g _ _ la lb ha hb=>by
   obtain⟨a',N,J,W,h7⟩:=U a la;obtain⟨b',Y,h5,h6,h8⟩:=U b lb;have:=D.dj a' b' g trivial trivial N Y (by rw[<-h7,<-J];exact ha) (by rw[<-h8,<-h5];exact hb);rw[W,h6]at this;by_cases ea:a=d<;>by_cases eb:b=d
   ·rw[ea,eb]
   ·rw[ae ea,aa eb]at this;rw[<-this]at lb;rw[hi]at lb;exact lb.elim
   ·rw[aa ea,ae eb]at this;rw[this]at la;rw[hi]at la;exact la.elim
   rwa [aa ea,aa eb]at this
  lv:=fun k g _ lk hk=>by
   obtain⟨I,N,J,_,W⟩:=U k lk;exact D.lv I g trivial N (by rw[<-W,<-J];exact hk)
  fr:=D.fr }
theorem bu.sc{S:Nat->Prop}{w:World}{P:Program}{h:Nat->AB}{d:Nat}(T:HF L L' rho rho h h' d d){x:AV}{v:Value}(z:bu S w P L rho h x v):bu S w P L' rho h' (sc d x) v:=by
 rw[Qn];split
 ·exact .junk v
 rename_i u;exact z.sK T u u
theorem NZ(d:Nat)(b:AB):(zF d b).there↔b.there:=by cases b<;>rfl
theorem wq(d:Nat)(b:AB):(zF d b).live↔b.live:=by cases b<;>rfl
theorem AO{w:World}(d:Nat)(b:AB)(v:Value)(g:Nat):hasB w (zF d b) v g↔hasB w b v g:=by
 cases b with
 | aw e es=>exact Eh
 | box cs=>exact⟨fun h=>.inl (aI rfl h),fun h=>.inl (aI rfl h)⟩
 | kr ty cs=>exact⟨fun h=>.inl (aI rfl h),fun h=>.inl (aI rfl h)⟩
 | _=>exact cI
theorem cn.Vp{S:Nat->Prop}{a:Act}{w:World}(D:cn A cX L S rho s a w)(d:Nat)(b:AB):cn A cX (fun k=>L k/\k≠d) S rho ⟨(jk d s).t,a8 (jk d s).h d b⟩ a w:=by
 have O:∀k,k≠d->a8 (jk d s).h d b k=zF d (s.h k):=fun k hk=>by rw[bg _ _ hk];show a8 (fun k=>zF d (s.h k)) d AB.none k=_;rw[bg _ _ hk]
 have row:∀x e,(zF d x).qK=some e->x.qK=some e:=fun x e h=>by cases x<;>exact h
 have T:HF L (fun k=>L k/\k≠d) rho rho s.h (a8 (jk d s).h d b) d d:=
  ⟨fun k R _=>by rw[O k R];exact⟨(NZ _ _).1,fun h=>⟨h,R⟩,rfl,row _⟩,fun h=>absurd rfl h⟩
 exact
 {tm:=fun j J=>(D.tm j J).sc T
  sz:=D.sz,df:=D.df,nb:=D.nb,pn:=D.pn,ev:=D.ev,s0:=D.s0,st:=D.st,sb:=D.sb
  hp:=fun k hk=>by
   show fD _ _ _ _ _ _ _ (a8 (jk d s).h d b k);rw[O k hk.2];have I:=D.hp k hk.1;cases hb:s.h k with
   | none=>trivial
   | row e es=>rw[hb]at I;exact I
   | lz es=>rw[hb]at I;exact I
   | nd es=>rw[hb]at I;exact I
   | map mk es=>rw[hb]at I;exact I
   | iter mk es n cur=>rw[hb]at I;exact I
   | box cs=>
    rw[hb]at I;obtain⟨g,ty,c,R,U,h3,W⟩:=I;refine⟨g,ty,c,R,U,by simpa using h3,fun j x u J Y=>?_⟩;rw[aD]at J;obtain⟨z,Z,rfl⟩:=qI.1 J;exact⟨(W j z u Z Y).1,(W j z u Z Y).2.sc T⟩
   | kr ty cs=>
    rw[hb]at I;obtain⟨g,c,R,U,h3,W⟩:=I;refine⟨g,c,R,U,by simpa using h3,fun j x u J Y=>?_⟩;rw[aD]at J;obtain⟨z,Z,rfl⟩:=qI.1 J;exact⟨(W j z u Z Y).1,(W j z u Z Y).2.sc T⟩
   | aU cs=>rw[hb]at I;exact I
   | aw e es=>
    rw[hb]at I;obtain⟨R,U⟩:=I;refine⟨aH.map R fun x u hx=>?_,U.map⟩;cases x with
    | av x=>exact bu.sc T hx
    | row e' dv=>exact hx
  dj:=fun i j g hi J li lj fU N=>by
   have qa:(a8 (jk d s).h d b i).live:=li;have Y6:(a8 (jk d s).h d b j).live:=lj;have fU:hasB w (a8 (jk d s).h d b i) (rho i) g:=fU;have N:hasB w (a8 (jk d s).h d b j) (rho j) g:=N;rw[O i hi.2,wq]at qa;rw[O j J.2,wq]at Y6;rw[O i hi.2,AO]at fU;rw[O j J.2,AO]at N;exact D.dj i j g hi.1 J.1 qa Y6 fU N
  lv:=fun i g hi li hg=>by
   have qa:(a8 (jk d s).h d b i).live:=li;have hg:hasB w (a8 (jk d s).h d b i) (rho i) g:=hg;rw[O i hi.2,wq]at qa;rw[O i hi.2,AO]at hg;exact D.lv i g hi.1 qa hg
  fr:=D.fr }
theorem cn.sL{V V' S:Nat->Prop}{a:Act}{w:World}(u:cn A V L S rho s a w)(z:∀j,V' j->V j)(D:∀i,L' i↔L i):cn A V' L' S rho s a w:=by
 have e:L'=L:=funext fun i=>propext (D i);subst e;exact { u with tm:=fun j I=>u.tm j (z j I) }
theorem cn.Mh{V S:Nat->Prop}{a:Act}{w:World}(d:Nat)(u:cn A V (fun k=>k≠d) S rho s a w)(D:s.h d=.none):cn A V cX S rho s a w:=by
 have T:ng S S w w (fun k=>k≠d) cX rho rho s.h s.h:=⟨fun b h=>h,fun _ _=>rfl,fun k hk=>⟨hk,fun _=>⟨trivial,rfl⟩⟩,fun k e h=>h⟩;have nl:∀k,(s.h k).live->k≠d:=fun k hk e=>by rw[e,D]at hk;exact hk
 exact
 {tm:=fun j J=>(u.tm j J).de T
  sz:=u.sz,df:=u.df,nb:=u.nb,pn:=u.pn,ev:=u.ev,s0:=u.s0,st:=u.st,sb:=u.sb
  hp:=fun k _=>by
   by_cases e:k=d
   ·subst e;rw[D];trivial
   exact (u.hp k e).de T (fun _ _ _=>rfl) (fun _=>rfl)
  dj:=fun i j g _ _ z I=>u.dj i j g (nl i z) (nl j I) z I
  lv:=fun i g _ z=>u.lv i g (nl i z) z
  fr:=u.fr }
theorem cn.free{S:Nat->Prop}{a:Act}{w:World}(u:cn A cX cX S rho s a w)(d:Nat)(b:AB):cn A cX (fun k=>k≠d) S rho ⟨(jk d s).t,a8 (jk d s).h d b⟩ a w:=
 (u.Vp d b).sL (fun _ _=>trivial) (fun _=>⟨fun h=>⟨trivial,h⟩,fun h=>h.2⟩)
def sM:Op->Bool
 | .box _ _ | .alloc _ | .buildSlice _ _ _ | .makeSlice _ _ _ | .makeMap _ _ | .range _ _=>true
 | .call c=>match c.callee with
  | .builtin .append=>true
  | .value _=>true
  | _=>false
 | _=>false
def sD(h:Nat->AB)(d:Nat):Option AB->Nat->AB
 | none=>h
 | some b=>a8 h d b
def BF:AV->Bool
 | .p (.sl [])=>true
 | _=>false
def Wz:AV->Bool
 | .nl=>true
 | _=>false
def ab2:BinOp->Bool
 | .eql=>true
 | .neq=>true
 | _=>false
def TB(C:Ctx)(o:Oper)(t:Nat->AV):Bool:=match o.op with
 | .binOp op ty x y _=>ab2 op&&Wz (ev t y)&&BF (ev t x)&&(match C.T ty with
  | some { ud:=.sl _,.. }=>true
  | _=>false)
 | _=>false
def agT(d:Option Tmp)(v:AV)(K:AS->Prop)(s:AS):Prop:=match v with
 | .bx id 0=>match s.h id with
  | .iter mk es k _=>(k=0->K ⟨fE s.t d (.tu [.p (.im (.bool false))]),s.h⟩)/\∀(i:Nat) (p:Value×Value) (k':Nat),es[i]?=some p->k' < k->K ⟨fE s.t d (.tu [.p (.im (.bool true)),.p (.im p.1),.p (.im p.2)]),a8 s.h id (.iter mk es k' (some p))⟩
  | _=>False
 | _=>False
def BG(C:Ctx)(o:Oper)(K:AS->Prop)(s:AS):Prop:=
 match sM o.op with
 | true=>cc C o (ev (jk (o.dst.getD 0) s).t) (jk (o.dst.getD 0) s).h fun v eff new=>K ⟨fE (jk (o.dst.getD 0) s).t o.dst v,match new with
   | none=>a8 (app (jk (o.dst.getD 0) s).h eff) (o.dst.getD 0) .none
   | some b=>app (a8 (jk (o.dst.getD 0) s).h (o.dst.getD 0) b) eff⟩
 | false=>match o.op,o.dst with
  | .assign x,some d=>match ev s.t x with
   | .ow i=>match s.h i with
    | .row _ _=>match cG i d with
     | true=>K ⟨a8 s.t d (.ow i),s.h⟩
     | false=>K ⟨a8 (oS i d s).t d (.ow d),(oS i d s).h⟩
    | .aw _ _=>match cG i d with
     | true=>K ⟨a8 s.t d (.ow i),s.h⟩
     | false=>K ⟨a8 (oS i d s).t d (.ow d),(oS i d s).h⟩
    | _=>K ⟨a8 s.t d (.ow i),s.h⟩
   | v=>K ⟨a8 s.t d v,s.h⟩
  | .next x false,d=>agT d (ev s.t x) K s
  | _,_=>cc C o (ev s.t) s.h fun v eff new=>match new with
   | none=>K ⟨fE s.t o.dst v,app s.h eff⟩
   | some _=>False
def step(C:Ctx)(o:Oper)(K:AS->Prop)(s:AS):Prop:=match TB C o s.t with
 | true=>K ⟨fE s.t o.dst (.p (.im (.bool true))),s.h⟩/\K ⟨fE s.t o.dst (.p (.im (.bool false))),s.h⟩
 | false=>BG C o K s
def mL(o:Oper)(n:Nat):Prop:=∀d,o.dst=some d->d<n
theorem HH(hC:bP A.C){o:Oper}{S:Nat->Prop}{a:Act}{w:World}{K:AS->Prop}{next:Act->World->Prop}{Q:Exit->Act->World->Prop}(R:mL o A.n)(I:cn A cX cX S rho s a w)(D:BG A.C o K s)
  (u:∀s' S' rho' a' w',K s'->cn A cX cX S' rho' s' a' w'->next a' w'):o.wp A.C.P a w next Q:=by
 have plain:∀K':KK,cc A.C o (ev s.t) s.h K'->(∀v eff b,¬K' v eff (some b))->(∀v eff,K' v eff none->K ⟨fE s.t o.dst v,app s.h eff⟩)->o.wp A.C.P a w next Q:=by
  intro K' D N h2;refine Ql A o _ _ _ _ _ _ _ K' next Q hC I (fun _ _=>trivial) R D (fun v eff b h=>absurd h (N v eff b)) fun v eff new S' rho' a' w' hk cv=>?_
  cases new with
  | some b=>exact absurd hk (N v eff b)
  | none=>exact u _ _ _ _ _ (h2 v eff hk) (cv.sL (fun _ _=>.inl trivial) (fun _=>cI))
 unfold BG at D;split at D
 ·have ab3:∀n,Ext (jk (o.dst.getD 0) s).h (sD (jk (o.dst.getD 0) s).h (o.dst.getD 0) n):=fun n k=>by
   cases n with
   | none=>exact .inr rfl
   | some b=>
    by_cases e:k=o.dst.getD 0
    ·subst e;exact .inl (by show a8 (fun k=>zF (o.dst.getD 0) (s.h k)) _ AB.none _=_;rw[aF])
    exact .inr (bg _ _ e)
  obtain⟨v,eff,new,hk,Vc⟩:=tH (fun _=>.inr rfl) D;obtain⟨v2,e2,n2,⟨rfl,rfl,rfl⟩,Hd⟩:=tH (ab3 new) (Vc (fun v' e' n'=>v'=v/\e'=eff/\n'=new) ⟨rfl,rfl,rfl⟩);have yB:=Hd (fun v' e' n'=>v'=v2/\e'=e2/\n'=n2) ⟨rfl,rfl,rfl⟩;have vy:cn A cX (fun k=>k≠o.dst.getD 0) S rho ⟨(jk (o.dst.getD 0) s).t,sD (jk (o.dst.getD 0) s).h (o.dst.getD 0) n2⟩ a w:=by
   have:=I.free (o.dst.getD 0) (match n2 with | none=>.none | some b=>b);cases n2 with
   | some b=>exact this
   | none=>
    have e:a8 (jk (o.dst.getD 0) s).h (o.dst.getD 0) .none=(jk (o.dst.getD 0) s).h:=kD _ _ _ (by show a8 (fun k=>zF (o.dst.getD 0) (s.h k)) _ AB.none _=_;rw[aF]);simp only at this;rw[e]at this;exact this
  refine Ql A o _ _ _ _ _ _ _ _ next Q hC vy (fun _ _=>trivial) R yB (fun v eff b h=>?_) fun v eff new S' rho' a' w' AI cv=>?_
  ·obtain⟨_,_,rfl⟩:=h;exact⟨fun h=>h rfl,aF _ _ _⟩
  obtain⟨rfl,rfl,rfl⟩:=AI;refine u _ S' rho' _ _ hk ?_;cases new with
  | some b=>exact cv.sL (V':=cX) (L':=cX) (fun _ _=>.inl trivial) (fun k=>⟨fun _=>by by_cases e:k=o.dst.getD 0;exact .inr e;exact .inl e,fun _=>trivial⟩)
  | none=>exact ((cv.kill (o.dst.getD 0)).Mh _ (aF _ _ _)).sL (fun _ _=>.inl trivial) (fun _=>cI)
 split at D
 ·rename_i x d aL U;have run:(execOp a.eval o).run A.C.P w=.ok (.value (a.eval x)) w:=by simp[execOp,aL]
  have Y:=bF I x (fun _ _=>trivial);have same:∀v,ev s.t x=v->K ⟨a8 s.t d v,s.h⟩->o.wp A.C.P a w next Q:=fun v J hk=>by
   refine eB run (u _ S rho _ _ hk ?_);have:=(I.value o.dst R v _ (by rw[<-J];exact Y)).sL (V':=cX) (L':=cX) (fun _ _=>.inl trivial) (fun _=>cI);rw[U]at this ⊢;exact this
  have N0:∀i,ev s.t x=.ow i->cG i d=false->K ⟨a8 (oS i d s).t d (.ow d),(oS i d s).h⟩->o.wp A.C.P a w next Q:=fun i hi Z D=>by
     have hid:i≠d:=fun e=>by rw[bz.2 e]at Z;cases Z
     refine eB run (u _ S (fun j=>if j=d then rho i else rho j) _ _ D ?_);have vy:=I.rename i d hid (cB (R d U) I.nb);have hx1:bu S w A.C.P cX (fun j=>if j=d then rho i else rho j) (oS i d s).h (.ow d) (a.eval x):=by
      rw[hi]at Y;refine .ow d _ fun ht=>⟨trivial,?_⟩;have:(s.h i).there:=by simpa [oS,bz.2 rfl,yE] using ht
      rw[(Y.cZ this).2];simp
     have:=(vy.value o.dst R (.ow d) _ hx1).sL (V':=cX) (L':=cX) (fun _ _=>.inl trivial) (fun _=>cI);rw[U]at this ⊢;exact this
  split at D
  ·rename_i i hi;split at D
   ·split at D
    ·exact same _ hi D
    rename_i Z;exact N0 i hi Z D
   ·split at D
    ·exact same _ hi D
    rename_i Z;exact N0 i hi Z D
   exact same _ hi D
  exact same _ rfl D
 ·rename_i x aL;have Y:=bF I x (fun _ _=>trivial);unfold agT at D;split at D
  case h_2=>exact D.elim
  rename_i id hid;split at D
  case h_2=>exact D.elim
  rename_i mk es k cur W;rw[hid]at Y;obtain⟨hL,g',qG,J⟩:=Y.hY (by rw[W];trivial);have hh:=I.hp id hL;rw[W]at hh;obtain⟨g,mg,ms,z,seen,N,h2,h3,h4,h5,h6,_⟩:=hh;have eg:g'=g:=by rw[qG]at N;injection N with N;injection N with N;injection N
  subst eg;rcases run_next_at (P:=A.C.P) w o.type g' mg z seen ms h2 h4 h5.2.2.2 with⟨q1,q2⟩ | ⟨e,he,w1,q1,q2,q3,q4,q5⟩
  ·refine eB (by simp only[execOp,aL,J,aV,q2,lR,dt];rfl) (u _ S rho _ _ (D.1 (by rw[<-h6,q1])) ((I.value o.dst R _ _ (.tu _ _ rfl fun i c v O J=>?_)).sL (V':=cX) (L':=cX) (fun _ _=>.inl trivial) (fun _=>cI)))
   match i with
   | 0=>simp at O J;subst O J;exact .p _ _ (.im _)
   | i+1=>simp at O
  have hem:e∈ms.toList:=by
   have:=he;simp[leftOf]at this;simpa using this.1
  obtain⟨i,hi⟩:=il hem;have r_:i<es.length:=by rw[<-h5.1];have:=(az.1 hi).1;simpa using this
  obtain⟨p,hp⟩:∃p,es[i]?=some p:=⟨_,oX r_⟩;obtain⟨k1,k2,k3⟩:=h5.2.1 i p e hp (by simpa using hi);have bY:(s.h id).live:=by rw[W];trivial
  obtain⟨g1,g2⟩:=MapKept.heap_set (o':=.mapIter (some mg) z (seen.push e.born) z) h2;have hmg:mg≠g':=fun e=>by rw[e,h2]at h4;cases h4
  have fu:=I.write hC id hL bY (.iter mk es (leftOf ms (seen.push e.born)).size (some p)) (fun _ h=>by cases h) { w1 with heap:=w.heap.setIfInBounds g' (.mapIter (some mg) z (seen.push e.born) z) } q2 q3 q4 (by simp) (fun k hk=>g2 k fun e=>hk (by rw[N,e];rfl)) fun T=>
   ⟨g',mg,ms,z,seen.push e.born,N,g1,h3,(g2 mg hmg).trans h4,h5,rfl,fun p' hp'=>by cases hp';exact⟨e,hem,seen,rfl,k1,k3⟩⟩
  refine eB (by simp only[execOp,aL,J,aV,q5,lR,dt];rfl) (u _ S rho _ _ (D.2 i p _ hp (by rw[<-h6];exact ag6 he)) ((fu.value o.dst R _ _ (.tu _ _ rfl fun i c v O J=>?_)).sL (V':=cX) (L':=cX) (fun _ _=>.inl trivial) (fun _=>cI)))
  match i with
  | 0=>simp at O J;subst O J;exact .p _ _ (.im _)
  | 1=>simp at O J;subst O J;rw[k1];exact .p _ _ (.im _)
  | 2=>simp at O J;subst O J;rw[k3];exact .p _ _ (.im _)
  | i+3=>simp at O
 refine plain _ D (fun v eff b h=>h) (fun v eff h=>h)
theorem Fx{x:AV}(h:BF x=true):x=.p (.sl []):=by
 unfold BF at h;split at h
 ·rfl
 cases h
theorem Qo{x:AV}(h:Wz x=true):x=.nl:=by unfold Wz at h;split at h;rfl;cases h
theorem Kh(hC:bP A.C){o:Oper}{S:Nat->Prop}{a:Act}{w:World}{K:AS->Prop}{next:Act->World->Prop}{Q:Exit->Act->World->Prop}(R:mL o A.n)(z:cn A cX cX S rho s a w)(D:step A.C o K s)
  (u:∀U S' rho' W w',K U->cn A cX cX S' rho' U W w'->next W w'):o.wp A.C.P a w next Q:=by
 unfold step at D;split at D
 ·rename_i I;unfold TB at I;split at I
  ·rename_i op ty x y ty2 Y;simp only[aJ]at I;obtain⟨⟨⟨h1,h3⟩,h2⟩,Z⟩:=I;split at Z
   case h_2=>cases Z
   rename_i e size bytes zero eq hT;have N:=(hC.jw ty _ hT).under;simp only at N;have hx:=bF z x (fun _ _=>trivial);have O:=bF z y (fun _ _=>trivial);rw[Fx h2]at hx;rw[Qo h3]at O;obtain⟨ad,c,hv,_⟩:=hx.eY.qP;have oO:a.eval y=.slice none 0 0:=by generalize a.eval y=v at O;cases O;rfl
   have fin:∀b:Bool,(execOp a.eval o).run A.C.P w=.ok (.value (.bool b)) w->o.wp A.C.P a w next Q:=fun b J=>by
    refine eB J (u ⟨fE s.t o.dst (.p (.im (.bool b))),s.h⟩ S rho _ _ ?_ ?_)
    ·cases b
     ·exact D.2
     exact D.1
    exact (z.value o.dst R (.p (.im (.bool b))) _ (.p _ _ (.im _))).sL (V':=cX) (L':=cX) (fun _ _=>.inl trivial) (fun _=>cI)
   cases op<;>first | (cases h1;done) | skip
   ·refine fin ad.isNone ?_;simp[execOp,Y,hv,oO,eqGuard,binOp,run_equal_slice_nil _ _ _ _ _ _ N]
   refine fin (!ad.isNone) ?_;simp[execOp,Y,hv,oO,eqGuard,binOp,run_equal_slice_nil _ _ _ _ _ _ N]
  cases I
 exact HH hC R z D u
end Go.AM
namespace Go.AM
open Go.RowKit
def sd(b:Bool)(p q:Prop):Prop:=match b with
 | true=>p
 | false=>q
def kH(b:Bool):AV:=.p (.im (.bool b))
def uO:AV:=.p (.im undef)
def Qp:Value->Option Bool
 | .bool b=>some b
 | _=>none
def Y7(v:Value)(want:Bool):Bool:=Qp v==some want
def sv(C:Ctx)(all:List Oper):List Oper->(AS->Prop)->AS->Prop
 | [],K,s=>K s
 | o::r,K,s=>match o.guard with
  | none=>step C o (sv C all r K) s
  | some (g,want)=>match all[g]? with
   | none=>False
   | some og=>match og.dst with
    | none=>False
    | some tg=>match s.t tg with
     | .p (.im (.bool b))=>sd b
       (match want with
        | true=>step C o (sv C all r K) ⟨a8 s.t tg (kH true),s.h⟩
        | false=>sv C all r K ⟨fE (a8 s.t tg (kH true)) o.dst uO,s.h⟩)
       (match want with
        | false=>step C o (sv C all r K) ⟨a8 s.t tg (kH false),s.h⟩
        | true=>sv C all r K ⟨fE (a8 s.t tg (kH false)) o.dst uO,s.h⟩)
     | .p (.im (.tuple _))=>sv C all r K ⟨fE s.t o.dst uO,s.h⟩
     | _=>False
variable {A:rZ} {s:AS}
theorem qU{V L S:Nat->Prop}{rho:Nat->Value}{a:Act}{w:World}(z:cn A V L S rho s a w){ops:Array Oper}{g u:Nat}{D:Oper}{v:Value}(N:ops[g]?=some D)(O:D.dst=some u)(R:V u)(U:s.t u=.p (.im v)):yielded ops a.tmps g=Qp v:=by
 have I:=z.tm u R;rw[U]at I;have J:a.tmps.getD u undef=v:=I.bZ;rw[vW]at J;subst J;unfold yielded Qp;rw[N];simp only[Option.bind_some,O];cases h:a.tmps[u]? with
 | none=>rfl
 | some v=>simp only[Fs];split<;>simp_all
theorem Ki(hC:bP A.C){ops:Array Oper}{Q:Exit->Act->World->Prop}{K:AS->Prop}(s7:∀s S rho a w,K s->cn A cX cX S rho s a w->Q .normal a w):
  ∀(l:List Oper) (k:Nat) (s:AS) (S:Nat->Prop) (rho:Nat->Value) (a:Act) (w:World),(∀j,l[j]?=ops[k+j]?)->(∀o∈l,mL o A.n)->sv A.C ops.toList l K s->cn A cX cX S rho s a w->wpOps A.C.P ops Q (List.range' k l.length) a w:=by
 intro l
 induction l with
 | nil=>intro k s S rho a w _ _ z u;exact s7 s S rho a w z u
 | cons o l ih=>
  intro k s S rho a w hl W z u;have h0:ops[k]?=some o:=by simpa using (hl 0).symm
  have Y:∀j,l[j]?=ops[k+1+j]?:=fun j=>by have:=hl (j+1);simpa [bp,Nat.add_comm 1 j] using this
  have Z:∀o∈l,mL o A.n:=fun o ho=>W o (by simp[ho]);have Y8:=W o (by simp);rw[bN,List.range'_succ];simp only[wpOps,h0];have run:∀(s:AS),step A.C o (sv A.C ops.toList l K) s->cn A cX cX S rho s a w->o.wp A.C.P a w (wpOps A.C.P ops Q (List.range' (k+1) l.length)) Q:=fun s N u=>
   Kh hC Y8 u N fun s' S' rho' a' w' hk cv=>ih (k+1) s' S' rho' a' w' Y Z hk cv
  have skip:∀(t:Nat->AV),sv A.C ops.toList l K ⟨fE t o.dst uO,s.h⟩->cn A cX cX S rho ⟨t,s.h⟩ a w->wpOps A.C.P ops Q (List.range' (k+1) l.length) (a.put o.dst undef) w:=fun t N u=>by
   have:=(u.value o.dst Y8 uO undef (.p _ _ (.im _))).sL (V':=cX) (L':=cX) (fun _ _=>.inl trivial) (fun _=>cI);exact ih (k+1) _ S rho _ w Y Z N this
  unfold sv at z;split at z
  ·rename_i I;rw[ae (by simp[Region.wanted,I])];exact .inl (run s z u)
  rename_i g D I;split at z
  ·exact z.elim
  rename_i og WA;split at z
  ·exact z.elim
  rename_i tg WB;split at z
  ·rename_i b hb;have O:=qU u (ops:=ops) (g:=g) (by simpa using WA) WB trivial hb;have J:∀R,b=R->a8 s.t tg (kH R)=s.t:=fun R e=>kD _ _ _ (by rw[hb,e];rfl);have U:Region.wanted o (yielded ops a.tmps)=(some b==some D):=by simp[Region.wanted,I,O,Qp]
   rw[U];cases b<;>cases D<;>simp only[sd]at z
   ·rw[J false rfl]at z;rw[ae (by decide)];exact .inl (run s z u)
   ·rw[J false rfl]at z;rw[aa (by decide)];exact skip s.t z u
   ·rw[J true rfl]at z;rw[aa (by decide)];exact skip s.t z u
   rw[J true rfl]at z;rw[ae (by decide)];exact .inl (run s z u)
  ·rename_i q hb;have O:=qU u (ops:=ops) (g:=g) (by simpa using WA) WB trivial hb;have U:Region.wanted o (yielded ops a.tmps)=false:=by simp[Region.wanted,I,O,Qp]
   rw[U,aa (by decide)];exact skip s.t z u
  exact z.elim
def W(A:rZ)(c:Code)(K:Exit->AS->Prop)(s:AS):Prop:=
 ∀S rho a w,cn A cX cX S rho s a w->c.wp A.C.P (fun e a' w'=>∃S' rho' s',cn A cX cX S' rho' s' a' w'/\K e s') a w
theorem Y9{x y:Code}{K:Exit->AS->Prop}(h:W A x (fun e u=>match e with | .normal=>W A y K u | e=>K e u) s):W A (.seq x y) K s:=by
 intro S rho a w D;refine wp_seq (wp_mono (h S rho a w D) fun e I w' J=>?_);obtain⟨S',rho',u,z,hk⟩:=J;cases e with
 | normal=>exact hk S' rho' I w' z
 | exit id=>exact⟨S',rho',u,z,hk⟩
 | goto l=>exact⟨S',rho',u,z,hk⟩
 | ret=>exact⟨S',rho',u,z,hk⟩
 | panic c=>exact⟨S',rho',u,z,hk⟩
 | outgrown=>exact⟨S',rho',u,z,hk⟩
theorem Kj{c:Code}{K z:Exit->AS->Prop}(h:W A c K s)(hk:∀e s,K e s->z e s):W A c z s:=
 fun S rho a w u=>wp_mono (h S rho a w u) fun _ _ _ ⟨S',rho',D,I,k⟩=>⟨S',rho',D,I,hk _ _ k⟩
theorem WC{c:Operand}{x y:Code}{K:Exit->AS->Prop}{b:Bool}(hb:ev s.t c=.p (.im (.bool b)))(D:b=true->W A x K s)(I:b=false->W A y K s):W A (.cond c x y) K s:=by
 intro S rho a w u;have z:=bF u c (fun _ _=>trivial);rw[hb]at z;refine wp_cond_split z.bZ (fun h=>D h S rho a w u) (fun h=>I h S rho a w u)
theorem TC{id:Nat}{c:Code}{K:Exit->AS->Prop}(h:W A c (fun e u=>match e with | .exit i=>sd (cG i id) (K .normal u) (K (.exit i) u) | e=>K e u) s):W A (.block id c) K s:=by
 intro S rho a w D;refine wp_block (wp_mono (h S rho a w D) fun e a' w' I=>?_);obtain⟨S',rho',u,z,hk⟩:=I;cases e with
 | exit i=>
  simp only[Exit.inBlock];simp only at hk;by_cases e:i=id
  ·rw[ae e];rw[bz.2 e]at hk;exact⟨S',rho',u,z,hk⟩
  rw[aa e];have:cG i id=false:=by rw[cu];intro h;exact e (bz.1 h)
  rw[this]at hk;exact⟨S',rho',u,z,hk⟩
 | normal=>exact⟨S',rho',u,z,hk⟩
 | goto l=>exact⟨S',rho',u,z,hk⟩
 | ret=>exact⟨S',rho',u,z,hk⟩
 | panic c=>exact⟨S',rho',u,z,hk⟩
 | outgrown=>exact⟨S',rho',u,z,hk⟩
def aA(A:rZ)(s s':AS):Prop:=∀S rho a w,cn A cX cX S rho s a w->∃S' rho',cn A cX cX S' rho' s' a w
theorem aA.refl(A:rZ)(s:AS):aA A s s:=fun S rho _ _ h=>⟨S,rho,h⟩
theorem aA.trans{z D:AS}(h:aA A s z)(k:aA A z D):aA A s D:=fun S rho a w u=>by
 obtain⟨S',rho',I⟩:=h S rho a w u;exact k S' rho' a w I
theorem least{P:Nat->Prop}(h:∃n,P n):∃n,P n/\∀k,P k->n<=k:=by
 obtain⟨n,u⟩:=h
 induction n using Nat.strongRecOn with
 | _ n ih=>
  by_cases hk:∃k,k<n/\P k
  ·obtain⟨k,z,D⟩:=hk;exact ih k z D
  exact⟨n,u,fun k h=>Nat.le_of_not_lt fun I=>hk ⟨k,I,h⟩⟩
theorem WD{c:Code}{K:Exit->AS->Prop}{α:Type}(I:α->AS->Prop)(m:α->Nat)(h0:∃x u,aA A s u/\I x u)
  (D:∀x s,I x s->W A c (fun e u=>match e with | .normal=>∃y R,aA A u R/\I y R/\m y<m x | e=>K e u) s):W A (.loop c) K s:=by
 intro S rho a w sim;let J:Act->World->Nat->Prop:=fun a w n=>∃x S rho s,cn A cX cX S rho s a w/\I x s/\m x=n;have U:∀a w,Decidable (∃n,J a w n):=fun a w=>Classical.propDecidable _;let mu:Act->World->Nat:=fun a w=>@dite _ (∃n,J a w n) (U a w) (fun h=>Classical.choose (least h)) (fun _=>0);have Y:∀a w (h:∃n,J a w n),mu a w=Classical.choose (least h):=fun a w h=>by
  show @dite _ _ (U a w) _ _=_;rw[dif_pos h]
 refine wp_loop (fun a w=>∃n,J a w n) mu ?_ ?_
 ·obtain⟨x,u,N,hi⟩:=h0;obtain⟨S',rho',z⟩:=N S rho a w sim;exact⟨m x,x,S',rho',u,z,hi,rfl⟩
 intro a w hJ;obtain⟨⟨x,S1,ab4,s1,vy,hi,hm⟩,_⟩:=L_ (least hJ);refine wp_mono (D x s1 hi S1 ab4 a w vy) fun e a' w' hq=>?_;obtain⟨S',rho',u,z,hk⟩:=hq;cases e with
 | normal=>
  obtain⟨y,R,N,Bw,eX⟩:=hk;obtain⟨Z,Vq,Vr⟩:=N S' rho' a' w' z;have O:∃n,J a' w' n:=⟨m y,y,Z,Vq,R,Vr,Bw,rfl⟩;refine⟨O,?_⟩;rw[Y a w hJ,Y a' w' O,<-hm];exact Nat.lt_of_le_of_lt ((L_ (least O)).2 (m y) ⟨y,Z,Vq,R,Vr,Bw,rfl⟩) eX
 | exit id=>exact⟨S',rho',u,z,hk⟩
 | goto l=>exact⟨S',rho',u,z,hk⟩
 | ret=>exact⟨S',rho',u,z,hk⟩
 | panic c=>exact⟨S',rho',u,z,hk⟩
 | outgrown=>exact⟨S',rho',u,z,hk⟩
theorem Qq(hC:bP A.C){id:Nat}{ops:Array Oper}{K:Exit->AS->Prop}(D:∀o∈ops.toList,mL o A.n)(h:sv A.C ops.toList ops.toList (K .normal) s):W A (.region id ops false) K s:=by
 intro S rho a w u;refine wp_region ?_;have:=Ki hC (ops:=ops) (Q:=fun e I w'=>∃S' rho' z,cn A cX cX S' rho' z I w'/\K e z) (K:=K .normal) (fun s S rho a w hk u=>⟨S,rho,s,u,hk⟩) ops.toList 0 s S rho a w (fun j=>by simp) D h u;rw[List.range_eq_range'];simpa using this
end Go.AM
namespace Go.AM
open Go.RowKit
def Y_(j:Nat):Arg->AV
 | .pv x=>.p x
 | .row _ _=>.ow (100000+j)
 | .map _ _=>.ow (100000+j)
 | .box _=>.bx (100000+j) 0
 | .aU _=>.bx (100000+j) 0
def Vs:Arg->AB
 | .pv _=>.none
 | .row e es=>.row e es
 | .map mk es=>.map mk es
 | .box cs=>.box (cs.map .p)
 | .aU cs=>.aU cs
def bO:List AV->List Nat
 | []=>[]
 | .ow n::r=>n::bO r
 | _::r=>bO r
def aaV(n:Nat):List Nat->Bool
 | []=>false
 | m::r=>match Nat.beq m n with
  | true=>true
  | false=>aaV n r
def ed:List Nat->Bool
 | []=>true
 | n::r=>!aaV n r&&(Nat.blt n 100000&&ed r)
def Qr:List Arg->Bool
 | []=>true
 | .aU _::_=>false
 | _::r=>Qr r
def zG(h:Nat->AB):List AV->List HC->Prop
 | [],[]=>True
 | .p x::r,.p y::s=>x=y/\zG h r s
 | .ow n::r,.row e es::s=>h n=.row e es/\zG h r s
 | _,_=>False
theorem oh{n:Nat}{l:List Nat}:aaV n l=true↔n∈l:=by
 induction l with
 | nil=>simp[aaV]
 | cons m l ih=>
  unfold aaV;split
  ·rename_i h;have:=cY h;simp[this]
  rename_i h;rw[ih];have:¬n=m:=fun e=>by rw[e]at h;simp at h
  simp[this]
theorem jC{n:Nat}:∀{l:List AV},n∈bO l↔(AV.ow n:AV)∈l
 | []=>by simp[bO]
 | x::l=>by cases x<;>simp[bO,jC (l:=l)]
theorem qV:∀{l:List AV} {i j n:Nat},ed (bO l)=true->l[i]?=some (.ow n)->l[j]?=some (.ow n)->i=j
 | [],i,j,n,_,h,_=>by simp at h
 | x::l,i,j,n,hg,h1,h2=>by
  have tail:ed (bO l)=true:=by
   cases x<;>first | exact hg | (simp[bO,ed]at hg ⊢;exact hg.2.2)
  have se:∀k:Nat,x=AV.ow n->l[k]?=some (AV.ow n)->False:=fun k u hk=>by
   subst u;simp[bO,ed]at hg;have:aaV n (bO l)=true:=oh.2 (jC.2 (aj hk));rw[hg.1]at this;cases this
  cases i with
  | zero=>
   cases j with
   | zero=>rfl
   | succ j=>simp at h1 h2;exact (se j h1 h2).elim
  | succ i=>
   cases j with
   | zero=>simp at h1 h2;exact (se i h2 h1).elim
   | succ j=>simp at h1 h2;rw[qV tail h1 h2]
theorem qW:∀{l:List Nat} {n:Nat},ed l=true->n∈l->n<100000
 | [],n,_,h=>by cases h
 | m::l,n,hg,h=>by
  simp[ed]at hg;rcases L8.1 h with h | h
  ·subst h;have:=hg.2.1
   first | omega | (have:=gB (show Nat.ble (n+1) 100000=true from this);omega) | (simp[Nat.blt]at this;omega)
  exact qW hg.2.2 h
theorem Ej{h:Nat->AB}:∀{bs:List AV} {cs:List HC},zG h bs cs->bs.length=cs.length
 | [],[],_=>rfl
 | [],_::_,hp=>hp.elim
 | b::bs,[],hp=>by cases b<;>exact hp.elim
 | b::bs,c::cs,hp=>by
  cases b<;>cases c<;>first | exact hp.elim | (have:=Ej hp.2;simp[this])
theorem HK{h:Nat->AB}:∀{bs:List AV} {cs:List HC} {j:Nat} {x:AV} {y:HC},zG h bs cs->bs[j]?=some x->cs[j]?=some y->(∃z,x=.p z/\y=.p z)\/∃n e es,x=.ow n/\y=.row e es/\h n=.row e es
 | [],_,j,x,y,_,h1,_=>by simp at h1
 | b::bs,[],j,x,y,_,_,h2=>by simp at h2
 | b::bs,c::cs,0,x,y,hp,h1,h2=>by
  simp at h1 h2;subst h1 h2;cases b<;>cases c<;>first | exact hp.elim | exact .inl ⟨_,rfl,by rw[hp.1]⟩ | exact .inr ⟨_,_,_,rfl,rfl,hp.1⟩
 | b::bs,c::cs,j+1,x,y,hp,h1,h2=>by
  simp at h1 h2;have u:zG h bs cs:=by cases b<;>cases c<;>first | exact hp.elim | exact hp.2
  exact HK u h1 h2
variable {A:rZ} {rho:Nat->Value} {s:AS}
theorem BI{V L S:Nat->Prop}{a:Act}{w:World}(I:cn A V L S rho s a w){id:Nat}(hL:L id){bs:List AV}{cs:List HC}(hb:s.h id=.box bs)(hg:ed (bO bs)=true)(hp:zG s.h bs cs):
  ∃g ty c,rho id=.pointer (some ⟨g,0,none⟩)/\Nl S w A.C.P cs g ty c/\∀k,hasB w (.aU cs) (rho id) k->cF (rho id)=some k\/∃n,n∈bO bs/\L n/\(s.h n).live/\cF (rho n)=some k:=by
 have hh:=I.hp id hL;rw[hb]at hh;obtain⟨g,ty,c,k1,k2,k3,k4⟩:=hh;have hl:=Ej hp;have bY:(s.h id).live:=by rw[hb];trivial
 have D:∀{j:Nat} {y:HC} {u:Value},cs[j]?=some y->c[j]?=some u->u.oneCell'=true/\U_ S w A.C.P y u/\(y.isRow->∃n,bs[j]?=some (.ow n)/\L n/\u=rho n/\(s.h n).live/\n≠id):=by
  intro j y u J O;obtain⟨x,D⟩:∃x,bs[j]?=some x:=⟨_,oX (by rw[hl];exact aC J)⟩;obtain⟨o1,o2⟩:=k4 j x u D O;rcases HK hp D J with⟨z,rfl,rfl⟩ | ⟨n,e,es,rfl,rfl,N⟩
  ·exact⟨o1,o2.eY,fun h=>h.elim⟩
  obtain⟨R,rfl⟩:=o2.cZ (by rw[N];trivial);have hr:=I.hp n R;rw[N]at hr;exact⟨o1,hr,fun _=>⟨n,D,R,rfl,by rw[N];trivial,fun e=>by rw[e,hb]at N;cases N⟩⟩
 have N2:cF (rho id)=some g:=by rw[k1];rfl
 refine⟨g,ty,c,k1,⟨k2,by rw[k3,hl],fun j y u J O=>⟨(D J O).1,(D J O).2.1⟩,fun j y u b J O hy hb' e=>?_,fun i j x y u v b hi J O hv hxr hyr e1 e2=>?_⟩,fun k hk=>?_⟩
 ·obtain⟨n,_,R,rfl,W,cO⟩:=(D J O).2.2 hy;subst e;exact cO (I.Yw n id b R hL W bY hb' N2)
 ·obtain⟨n,N,R,rfl,W,_⟩:=(D hi O).2.2 hxr;obtain⟨m,hm,hLm,rfl,Yk,_⟩:=(D J hv).2.2 hyr;have:=I.Yw n m b R hLm W Yk e1 e2;subst this;exact qV hg N hm
 rcases hk with hk | ⟨oM,g',Y,Z,c',ty',m,j,y,u,U,q2,q3,q4,q5⟩ | ⟨_,_,_,_,_,_,Y,_⟩
 ·exact .inl hk
 ·injection Y with Y;subst Y;rw[N2]at Z;injection Z with Z;subst Z;rw[k2]at U;injection U with U;injection U with U _ _;subst U;obtain⟨n,N,R,rfl,W,_⟩:=(D q2 q4).2.2 q3;exact .inr ⟨n,jC.2 (aj N),R,W,q5⟩
 cases Y
def wv(args:List Arg)(j:Nat):AV:=match args[j]? with
 | some x=>Y_ j x
 | none=>.junk
def pe(args:List Arg)(j:Nat):AB:=match Nat.ble 100000 j with
 | true=>match args[j-100000]? with
  | some x=>Vs x
  | none=>.none
 | false=>.none
def Qt (a : Tmp) (t : TypeId) : Oper := { dst := none, op := .load t (.tmp a), type := t, pos := "", after := #[], guard := none }
def Vt(C:Ctx)(s:AS):ResultVar->(AV->Prop)->Prop
 | .tmp t,K=>K (s.t t)
 | .cell a t,K=>cc C (Qt a t) (ev s.t) s.h fun v _ _=>match v with
  | .p x=>K (.p x)
  | _=>False
def Kl(C:Ctx)(s:AS):List ResultVar->(List AV->Prop)->Prop
 | [],K=>K []
 | r::rs,K=>Vt C s r fun a=>Kl C s rs fun as=>K (a::as)
def Km(h:Nat->AB):List AV->(List PV->(Nat->AB)->Prop)->Prop
 | [],K=>K [] h
 | a::r,K=>iT h a fun x fz=>Km (app h fz) r fun xs h'=>K (x::xs) h'
def pg:AB->Nat->Bool
 | .box bs,i=>aaV i (bO bs)
 | _,_=>false
def om(h:Nat->AB):Nat->List Arg->List Fin->Nat->Bool
 | j,.pv _::xs,fs,i=>om h (j+1) xs fs i
 | j,_::xs,f::fs,i=>(f.kept&&(cG j i||pg (h j) i))||om h (j+1) xs fs i
 | _,_,_,_=>false
def nn(h:Nat->AB):Nat->List Arg->List Fin->Prop
 | _,[],[]=>True
 | j,.pv _::xs,fs=>nn h (j+1) xs fs
 | j,.row _ _::xs,.gone::fs=>nn h (j+1) xs fs
 | j,.map _ _::xs,.gone::fs=>nn h (j+1) xs fs
 | j,.box _::xs,.gone::fs=>nn h (j+1) xs fs
 | j,.aU _::xs,.gone::fs=>nn h (j+1) xs fs
 | j,.row e _::xs,.row es::fs=>h j=.row e es/\nn h (j+1) xs fs
 | j,.map mk _::xs,.map es::fs=>h j=.map mk es/\nn h (j+1) xs fs
 | j,.box _::xs,.box cs::fs=>(match h j with
  | .box bs=>gm bs=some cs
  | _=>False)/\nn h (j+1) xs fs
 | j,.aU _::xs,.aU cs::fs=>(match h j with
  | .aU bs=>bs=cs
  | .box bs=>(ed (bO bs)&&Qr xs)=true/\zG h bs cs
  | _=>False)/\nn h (j+1) xs fs
 | _,_,_=>False
def WE(C:Ctx)(rs:List ResultVar)(args:List Arg)(r:AR)(fin:List Fin)(s:AS):Prop:=
 Kl C s rs fun iB=>match r with
  | .own e es=>match iB with
   | [a]=>match a with
    | .ow i=>s.h i=.row e es/\om s.h 100000 args fin i=false/\nn s.h 100000 args fin
    | .vw i lo hi=>match lo with
     | 0=>match s.h i with
      | .row e' xs=>match cG e' e with
       | true=>es=xs.take hi/\om s.h 100000 args fin i=false/\nn s.h 100000 args fin
       | false=>False
      | _=>False
     | _+1=>False
    | .nl=>match C.T e with
     | some ti=>match Nat.blt 0 ti.size with
      | true=>es=[]/\nn s.h 100000 args fin
      | false=>False
     | none=>False
    | _=>False
   | _=>False
  | .hown cs=>match iB with
   | [a]=>match a with
    | .bx i off=>match off with
     | 0=>s.h i=.aU cs/\om s.h 100000 args fin i=false/\nn s.h 100000 args fin
     | _+1=>False
    | _=>False
   | _=>False
  | .p x=>match iB with
   | [a]=>iT s.h a fun y fz=>y=x/\nn (app s.h fz) 100000 args fin
   | _=>False
  | .tu xs=>match iB with
   | [_]=>False
   | _=>Km s.h iB fun ys h'=>ys=xs/\nn h' 100000 args fin
def Kn(C:Ctx)(rs:List ResultVar)(args:List Arg)(r:AR)(fin:List Fin)(e:Exit)(s:AS):Prop:=match e with
 | .normal=>WE C rs args r fin s
 | .ret=>WE C rs args r fin s
 | _=>False
def HL(tmps:Array Value):ResultVar->Sem Value
 | .tmp t=>pure (tmps.getD t undef)
 | .cell b t=>do loadVar t (<-asAddr (tmps.getD b undef))
theorem N3(hC:bP A.C){S:Nat->Prop}{a:Act}{w:World}(I:cn A cX cX S rho s a w)(r:ResultVar){K:AV->Prop}(N:Vt A.C s r K):
  ∃av v,K av/\(HL a.tmps r).run A.C.P w=.ok v w /\
   (∀(u:Nat->Prop) (z:Nat->AB),(∀b,S b->u b)->cn A cX cX u rho ⟨s.t,z⟩ a w->bu u w A.C.P cX rho z av v):=by
 cases r with
 | tmp t=>exact⟨s.t t,a.tmps.getD t undef,N,rfl,fun u z _ O=>O.tm t trivial⟩
 | cell b t=>
  obtain⟨av,v,J,z,R⟩:=Ho (o:=Qt b t) (K:=fun v _ _=>match v with | .p x=>K (.p x) | _=>False) t (.tmp b) rfl hC I (fun _ _=>trivial) N;split at J
  ·rename_i x;refine⟨_,v,J,?_,fun u zC hS O=>.p _ _ (z.eY.mono hS (fun _ _=>rfl))⟩;have D:(Instr.loadAt t (a.tmps.getD b undef)).run A.C.P w=.ok v w:=R;cases hv:a.tmps.getD b undef with
   | pointer p=>
    rw[hv]at D;cases p with
    | none=>simp[Instr.loadAt,Instr.sureAddr,stuck,Sem.run]at D
    | some U=>
     have W:(loadVar t U).run A.C.P w=.ok v w:=by simpa [Instr.loadAt,Instr.sureAddr] using D
     show (HL a.tmps (.cell b t)).run _ _=_;unfold HL;simp only[hv];exact W
   | _=>rw[hv]at D;simp[Instr.loadAt,Instr.sureAddr,stuck,Sem.run]at D
  exact J.elim
theorem Ko(hC:bP A.C){S:Nat->Prop}{a:Act}{w:World}(N:cn A cX cX S rho s a w):∀(D:List ResultVar) {K:List AV->Prop},Kl A.C s D K ->
  ∃iB vs,K iB/\iB.length=vs.length/\(D.mapM (HL a.tmps)).run A.C.P w=.ok vs w/\vs.length=D.length /\
   (∀(I:Nat->Prop) (J:Nat->AB),(∀b,S b->I b)->cn A cX cX I rho ⟨s.t,J⟩ a w->∀(i:Nat) av v,iB[i]?=some av->vs[i]?=some v->bu I w A.C.P cX rho J av v):=by
 intro D
 induction D with
 | nil=>intro K z;exact⟨[],[],z,rfl,rfl,rfl,by simp⟩
 | cons r D ih=>
  intro K z;obtain⟨av,v,z,Y,J⟩:=N3 hC N r z;obtain⟨iB,vs,z,Z,h4,h5,h6⟩:=ih z;refine⟨av::iB,v::vs,z,by simp[Z],?_,by simp[h5],fun I U hS W i x u O R=>?_⟩
  ·rw[E6,aV,Y,lR,aV,h4];rfl
  cases i with
  | zero=>simp at O R;subst O R;exact J I U hS W
  | succ i=>exact h6 I U hS W i x u (by simpa using O) (by simpa using R)
theorem Kp(hC:bP A.C){t:Nat->AV}{a:Act}{w:World}:∀(iB:List AV) (vs:List Value) (S:Nat->Prop) (h:Nat->AB) {K:List PV->(Nat->AB)->Prop},iB.length=vs.length->cn A cX cX S rho ⟨t,h⟩ a w ->
  (∀(J:Nat->Prop) (U:Nat->AB),(∀b,S b->J b)->cn A cX cX J rho ⟨t,U⟩ a w->∀(i:Nat) av v,iB[i]?=some av->vs[i]?=some v->bu J w A.C.P cX rho U av v)->Km h iB K ->
  ∃ys h' S',K ys h'/\cn A cX cX S' rho ⟨t,h'⟩ a w/\(∀b,S b->S' b)/\ys.length=vs.length/\∀(i:Nat) y v,ys[i]?=some y->vs[i]?=some v->aO S' w y v:=by
 intro iB
 induction iB with
 | nil=>
  intro vs S h K hl D _ N;have:vs=[]:=Az hl.symm;subst this;exact⟨[],h,S,N,D,fun _ h=>h,rfl,by simp⟩
 | cons av iB ih=>
  intro vs S h K hl D I N;cases vs with
  | nil=>simp at hl
  | cons v vs=>
   obtain⟨y,fz,J,N,Z,hp,W,_,_⟩:=jA hC D (su.refl h) (I S h (fun _ h=>h) D 0 av v rfl rfl) N;obtain⟨ys,h',S',k1,k2,Y,k4,k5⟩:=ih vs J (app h fz) (by simpa using hl) Z (fun S3 h3 hS fu i x u hx O=>I S3 h3 (fun b hb=>hS b (W b hb)) fu (i+1) x u (by simpa using hx) (by simpa using O)) N;refine⟨y::ys,h',S',k1,k2,fun b hb=>Y b (W b hb),by simp[k4],fun i z u R O=>?_⟩;cases i with
   | zero=>simp at R O;subst R O;exact hp.mono Y (fun _ _=>rfl)
   | succ i=>exact k5 i z u (by simpa using R) (by simpa using O)
theorem tI{h:Nat->AB}{j:Nat}{x:Arg}{xs:List Arg}{f:Fin}{z:List Fin}(D:x.handed=true)(u:nn h j (x::xs) (f::z)):nn h (j+1) xs z:=by
 cases x<;>cases f<;>first | (cases D;done) | exact u.elim | exact u.2 | exact u
def Ek(h:Nat->AB)(j id:Nat):Prop:=id=j\/pg (h j) id=true
theorem Qu{S:Nat->Prop}{t:Nat->AV}{h:Nat->AB}{a:Act}{w:World}(D:cn A cX cX S rho ⟨t,h⟩ a w):∀(args:List Arg) (fin:List Fin) (vs:List Value) (j:Nat),args.length=vs.length->(∀i v,vs[i]?=some v->(∃x,args[i]?=some x/\x.handed=true)->v=rho (j+i))->nn h j args fin ->
  w9 S w A.C.P args fin vs/\∀i g,dA w args fin vs i g->∃id,Ek h (j+i) id/\(h id).live/\hasB w (h id) (rho id) g/\om h j args fin id=true:=by
 intro args
 induction args with
 | nil=>intro fin vs j hl _ z;have:vs=[]:=Az hl.symm;subst this;cases fin with | nil=>exact⟨trivial,fun i g h=>h.elim⟩ | cons f fin=>exact z.elim
 | cons x args ih=>
  intro fin vs j hl hv z;cases vs with
  | nil=>simp at hl
  | cons v vs=>
   have N1:args.length=vs.length:=by simpa using hl
   have JS:∀i v,vs[i]?=some v->(∃x,args[i]?=some x/\x.handed=true)->v=rho (j+1+i):=fun i u h1 ⟨y,h2,h3⟩=>by
    have:=hv (i+1) u (by simpa using h1) ⟨y,by simpa using h2,h3⟩;rw[this];congr 1;omega
   cases hx:x.handed with
   | false=>
    cases x with
    | pv y=>
     obtain⟨r1,r2⟩:=ih fin vs (j+1) N1 JS z;refine⟨r1,fun i g O=>?_⟩;cases i with
     | zero=>exact O.elim
     | succ i=>
      obtain⟨id,R,Z,q3,q4⟩:=r2 i g O;exact⟨id,by rw[show j+(i+1)=j+1+i by omega];exact R,Z,q3,q4⟩
    | row=>cases hx
    | map=>cases hx
    | box=>cases hx
    | aU=>cases hx
   | true=>
    have hv0:v=rho j:=hv 0 v rfl ⟨_,rfl,hx⟩;cases fin with
    | nil=>cases x<;>first | (cases hx;done) | exact z.elim
    | cons f fin=>
     obtain⟨r1,r2⟩:=ih fin vs (j+1) N1 JS (tI hx z);have mk:pS S w A.C.P x f v->(∀g,f.kept=true->hasB w (Tb f) v g->∃id,Ek h j id/\(h id).live/\hasB w (h id) (rho id) g)->w9 S w A.C.P (x::args) (f::fin) (v::vs)/\∀i g,dA w (x::args) (f::fin) (v::vs) i g->∃id,Ek h (j+i) id/\(h id).live/\hasB w (h id) (rho id) g/\om h j (x::args) (f::fin) id=true:=by
      intro m1 m2;refine⟨by cases x<;>first | (cases hx;done) | exact⟨m1,r1⟩,fun i g O=>?_⟩;cases i with
      | zero=>
       obtain⟨g1,g2⟩:f.kept=true/\hasB w (Tb f) v g:=by cases x<;>first | (cases hx;done) | exact O
       obtain⟨id,R,Z,q3⟩:=m2 g g1 g2;refine⟨id,R,Z,q3,?_⟩;have:(cG j id||pg (h j) id)=true:=by
        rcases R with R | R
        ·rw[R,bz.2 rfl];rfl
        rw[R];simp
       cases x<;>first | (cases hx;done) | (simp only[om,g1,this,tG,Ft])
      | succ i=>
       have qG:dA w args fin vs i g:=by cases x<;>first | (cases hx;done) | exact O
       obtain⟨id,R,Z,q3,q4⟩:=r2 i g qG;refine⟨id,by rw[show j+(i+1)=j+1+i by omega];exact R,Z,q3,?_⟩;cases x<;>first | (cases hx;done) | (simp only[om,q4,gF])
     refine mk ?_ ?_
     ·rw[hv0];cases x with
      | pv y=>cases hx
      | row e es=>
       cases f with
       | gone=>trivial
       | row J=>
        have N:=D.hp j trivial;have N:fD S w A.C.P cX rho h j (h j):=N;rw[z.1]at N;exact⟨N,fun g O=>(D.qd j g trivial (by show (h j).live;rw[z.1];trivial) O).2.1⟩
       | map J=>exact z.elim
       | box cs=>exact z.elim
       | aU cs=>exact z.elim
      | map mk es=>
       cases f with
       | gone=>trivial
       | map J=>
        have N:=D.hp j trivial;have N:fD S w A.C.P cX rho h j (h j):=N;rw[z.1]at N;exact⟨N,fun g O=>(D.qd j g trivial (by show (h j).live;rw[z.1];trivial) O).2.1⟩
       | row J=>exact z.elim
       | box cs=>exact z.elim
       | aU cs=>exact z.elim
      | box ys=>
       cases f with
       | gone=>trivial
       | row J=>exact z.elim
       | map J=>exact z.elim
       | aU J=>exact z.elim
       | box cs=>
        obtain⟨I,yB⟩:=z;split at I
        ·rename_i bs hb;have N:=D.hp j trivial;have N:fD S w A.C.P cX rho h j (h j):=N;rw[hb]at N;obtain⟨g,W,c,U,Y,k3,k4⟩:=N;obtain⟨k5,k6⟩:=gD I;refine⟨g,W,c,U,Y,by rw[k3,k5],(D.qd j g trivial (by show (h j).live;rw[hb];trivial) (by rw[U];rfl)).2.1,fun i x u hi hu=>?_⟩;obtain⟨y,hy⟩:∃y,bs[i]?=some y:=⟨_,oX (by rw[k5];exact aC hi)⟩;obtain⟨k7,k8⟩:=k4 i y u hy hu;exact⟨k7,k8.AH (k6 i y x hy hi)⟩
        exact I.elim
      | aU ys=>
       cases f with
       | gone=>trivial
       | row J=>exact z.elim
       | map J=>exact z.elim
       | box J=>exact z.elim
       | aU cs=>
        obtain⟨I,yB⟩:=z;split at I
        ·rename_i bs hb;subst I;have N:=D.hp j trivial;have N:fD S w A.C.P cX rho h j (h j):=N;rw[hb]at N;obtain⟨g,W,c,U,Y⟩:=N;exact⟨g,W,c,U,Y,fun k hk=>(D.lv j k trivial (by show (h j).live;rw[hb];trivial) (by show hasB w (h j) _ _;rw[hb];exact hk)).2.1⟩
        ·rename_i bs hb;simp only[aJ]at I;obtain⟨g,W,c,U,Y,k3⟩:=BI D (id:=j) trivial hb I.1.1 I.2;refine⟨g,W,c,U,Y,fun k hk=>?_⟩;rcases k3 k hk with hk | ⟨n,_,hn,TD,hk⟩
         ·exact (D.qd j k trivial (by show (h j).live;rw[hb];trivial) hk).2.1
         exact (D.qd n k hn TD hk).2.1
        exact I.elim
     intro g hf O;rw[hv0]at O;cases x with
     | pv y=>cases hx
     | row e es=>
      cases f with
      | gone=>cases hf
      | row J=>exact⟨j,.inl rfl,by rw[z.1];trivial,.inl (aI rfl O)⟩
      | map J=>exact z.elim
      | box cs=>exact z.elim
      | aU cs=>exact z.elim
     | map mk es=>
      cases f with
      | gone=>cases hf
      | map J=>exact⟨j,.inl rfl,by rw[z.1];trivial,.inl (aI rfl O)⟩
      | row J=>exact z.elim
      | box cs=>exact z.elim
      | aU cs=>exact z.elim
     | box ys=>
      cases f with
      | gone=>cases hf
      | row J=>exact z.elim
      | map J=>exact z.elim
      | aU J=>exact z.elim
      | box cs=>
       obtain⟨I,yB⟩:=z;split at I
       ·rename_i bs hb;exact⟨j,.inl rfl,by rw[hb];trivial,.inl (aI rfl O)⟩
       exact I.elim
     | aU ys=>
      cases f with
      | gone=>cases hf
      | row J=>exact z.elim
      | map J=>exact z.elim
      | box J=>exact z.elim
      | aU cs=>
       obtain⟨I,yB⟩:=z;split at I
       ·rename_i bs hb;subst I;exact⟨j,.inl rfl,by rw[hb];trivial,by rw[hb];exact O⟩
       ·rename_i bs hb;simp only[aJ]at I;obtain⟨g',W,c,U,Y,k3⟩:=BI D (id:=j) trivial hb I.1.1 I.2;rcases k3 g O with hk | ⟨n,hm,hn,TD,hk⟩
        ·exact⟨j,.inl rfl,by rw[hb];trivial,.inl hk⟩
        exact⟨n,.inr (by rw[hb];exact oh.2 hm),TD,.inl hk⟩
       exact I.elim
theorem N4{h:Nat->AB}:∀(args:List Arg) (fin:List Fin) (w:World) (vs:List Value) (u:Nat),100000<=u->nn h u args fin->∀i k id g,dA w args fin vs i g->dA w args fin vs k g->Ek h (u+i) id->Ek h (u+k) id->i=k:=by
 have D:∀(args:List Arg) (fin:List Fin) (w:World) (vs:List Value) (u:Nat),nn h u args fin->∀i g id,dA w args fin vs i g->pg (h (u+i)) id=true->id<100000/\Qr args=false/\(∀m,i=m+1->∀x xs,args=x::xs->Qr xs=false):=by
  intro args
  induction args with
  | nil=>intro fin w vs u _ i g id I;exact I.elim
  | cons x args ih=>
   intro fin w vs u z i g id I hi;cases vs with
   | nil=>cases fin<;>exact I.elim
   | cons v vs=>
    cases hx:x.handed with
    | false=>
     cases x with
     | pv y=>
      cases i with
      | zero=>exact I.elim
      | succ i=>
       obtain⟨h1,R,_⟩:=ih fin w vs (u+1) z i g id I (by rw[show u+1+i=u+(i+1) by omega];exact hi);exact⟨h1,R,fun m hm x xs U=>by injection U with _ U;rw[<-U];exact R⟩
     | row=>cases hx
     | map=>cases hx
     | box=>cases hx
     | aU=>cases hx
    | true=>
     cases fin with
     | nil=>cases x<;>first | (cases hx;done) | exact I.elim
     | cons f fin=>
      cases i with
      | succ i=>
       have qG:dA w args fin vs i g:=by cases x<;>first | (cases hx;done) | exact I
       obtain⟨h1,R,_⟩:=ih fin w vs (u+1) (tI hx z) i g id qG (by rw[show u+1+i=u+(i+1) by omega];exact hi);exact⟨h1,by cases x<;>first | exact R | rfl,fun m hm x xs U=>by injection U with _ U;rw[<-U];exact R⟩
      | zero=>
       have O:f.kept=true:=by cases x<;>first | (cases hx;done) | exact I.1
       have hi:pg (h u) id=true:=hi;cases x with
       | pv y=>cases hx
       | row e es=>cases f<;>first | (cases O;done) | exact z.elim | (rw[z.1]at hi;cases hi)
       | map mk es=>cases f<;>first | (cases O;done) | exact z.elim | (rw[z.1]at hi;cases hi)
       | box ys=>
        cases f with
        | gone=>cases O
        | row N=>exact z.elim
        | map N=>exact z.elim
        | aU N=>exact z.elim
        | box cs=>
         obtain⟨J,yB⟩:=z;split at J
         ·rename_i bs hb;rw[hb]at hi;obtain⟨k5,k6⟩:=gD J;obtain⟨n,hn⟩:=ca.1 (jC.1 (oh.1 hi));obtain⟨y,hy⟩:∃y,cs[n]?=some y:=⟨_,oX (by rw[<-k5];exact aC hn)⟩;have:=k6 n _ y hn hy;rcases this with h | h
          ·cases h
          cases h.1
         exact J.elim
       | aU ys=>
        cases f with
        | gone=>cases O
        | row N=>exact z.elim
        | map N=>exact z.elim
        | box N=>exact z.elim
        | aU cs=>
         obtain⟨J,yB⟩:=z;split at J
         ·rename_i bs hb;rw[hb]at hi;cases hi
         ·rename_i bs hb;rw[hb]at hi;simp only[aJ]at J;exact⟨qW J.1.1 (oh.1 hi),rfl,fun m hm=>by omega⟩
         exact J.elim
 have later:∀(args:List Arg) (fin:List Fin) (w:World) (vs:List Value) (u:Nat),nn h u args fin->∀i k g W id,dA w args fin vs i g->dA w args fin vs k W->pg (h (u+i)) id=true->pg (h (u+k)) id=true->i<k->False:=by
  intro args
  induction args with
  | nil=>intro fin w vs u _ i k g W id I;exact I.elim
  | cons x args ih=>
   intro fin w vs u z i k g W id I qG hi hk eX;cases vs with
   | nil=>cases fin<;>exact I.elim
   | cons v vs=>
    obtain⟨k,rfl⟩:∃m,k=m+1:=⟨k-1,by omega⟩;cases hx:x.handed with
    | false=>
     cases x with
     | pv y=>
      cases i with
      | zero=>exact I.elim
      | succ i=>exact ih fin w vs (u+1) z i k g W id I qG (by rw[show u+1+i=u+(i+1) by omega];exact hi) (by rw[show u+1+k=u+(k+1) by omega];exact hk) (by omega)
     | row=>cases hx
     | map=>cases hx
     | box=>cases hx
     | aU=>cases hx
    | true=>
     cases fin with
     | nil=>cases x<;>first | (cases hx;done) | exact I.elim
     | cons f fin=>
      have NK:dA w args fin vs k W:=by cases x<;>first | (cases hx;done) | exact qG
      cases i with
      | succ i=>
       have hg1:dA w args fin vs i g:=by cases x<;>first | (cases hx;done) | exact I
       exact ih fin w vs (u+1) (tI hx z) i k g W id hg1 NK (by rw[show u+1+i=u+(i+1) by omega];exact hi) (by rw[show u+1+k=u+(k+1) by omega];exact hk) (by omega)
      | zero=>
       have R:=(D args fin w vs (u+1) (tI hx z) k W id NK (by rw[show u+1+k=u+(k+1) by omega];exact hk)).2.1;have O:f.kept=true:=by cases x<;>first | (cases hx;done) | exact I.1
       have hi:pg (h u) id=true:=hi;have h3:=D (x::args) (f::fin) w (v::vs) u z 0 g id I hi;cases x with
       | pv y=>cases hx
       | row e es=>cases f<;>first | (cases O;done) | exact z.elim | (rw[z.1]at hi;cases hi)
       | map mk es=>cases f<;>first | (cases O;done) | exact z.elim | (rw[z.1]at hi;cases hi)
       | box ys=>exact (by
         have:Qr (.box ys::args)=false:=h3.2.1;cases f with
         | gone=>cases O
         | row N=>exact z.elim
         | map N=>exact z.elim
         | aU N=>exact z.elim
         | box cs=>
          obtain⟨J,yB⟩:=z;split at J
          ·rename_i bs hb;rw[hb]at hi;obtain⟨k5,k6⟩:=gD J;obtain⟨n,hn⟩:=ca.1 (jC.1 (oh.1 hi));obtain⟨y,hy⟩:∃y,cs[n]?=some y:=⟨_,oX (by rw[<-k5];exact aC hn)⟩;rcases k6 n _ y hn hy with h | h
           ·cases h
           cases h.1
          exact J.elim)
       | aU ys=>
        cases f with
        | gone=>cases O
        | row N=>exact z.elim
        | map N=>exact z.elim
        | box N=>exact z.elim
        | aU cs=>
         obtain⟨J,yB⟩:=z;split at J
         ·rename_i bs hb;rw[hb]at hi;cases hi
         ·rename_i bs hb;simp only[aJ]at J;rw[J.1.2]at R;cases R
         exact J.elim
 intro args fin w vs u hj z i k id g hi hk Y Z;rcases Y with Y | Y<;>rcases Z with Z | Z
 ·omega
 ·have:=(D args fin w vs u z k g id hk Z).1;omega
 ·have:=(D args fin w vs u z i g id hi Y).1;omega
 rcases iq i k with h | h | h
 ·exact (later args fin w vs u z i k g g id hi hk Y Z h).elim
 ·exact h
 exact (later args fin w vs u z k i g g id hk hi Z Y h).elim
theorem aH.front{P:Program}{S:Nat->Prop}{w:World}{e:TypeId}{xs:List (List PV)}{v u:Value}{a:Option Addr}{n c hi:Nat}(h:aH P w (aO S w) e xs v)(J:v=.slice a n c)(U:hi<=n)(Y:u=.slice a hi c):aH P w (aO S w) e (xs.take hi) u:=by
 obtain⟨i,ys,Z,h2,N,h4,h5,h6⟩:=h;have hF:Flat S w i.size xs ys:=⟨N.1,h4,h5,h6⟩;have Kq:n=xs.length:=by
  rcases N.2 with⟨z,O⟩ | ⟨g,D,I,z,_⟩
  ·rw[J]at z;injection z with _ z _;omega
  rw[J]at z;injection z
 subst Kq;have W:=hF.take hi U;have hl:(xs.take hi).length=hi:=by rw[cE];omega
 refine aH.of_flat Z h2 ?_ W;refine⟨W.len,?_⟩;rw[hl,Y];rcases N.2 with⟨z,O⟩ | ⟨g,D,I,z,O,R,g4,g5,g6,g7⟩
 ·rw[J]at z;injection z with z _ R;exact .inl ⟨by rw[z,R];congr 1;omega,by omega⟩
 rw[J]at z;injection z with z _ g8;refine .inr ⟨g,D,I,by rw[z,g8],O,R,by omega,g5,g6,?_⟩;rw[<-g7,cL,AK (cq _ U)]
theorem BJ(args:List Arg)(j:Nat):pe args (100000+j)=match args[j]? with
  | some x=>Vs x
  | none=>.none:=by
 have u:Nat.ble 100000 (100000+j)=true:=Nat.ble_eq_true_of_le (by omega);have z:100000+j-100000=j:=by omega
 simp only[pe,u,z]
theorem HM(args:List Arg)(k:Nat)(h:k<100000):pe args k=.none:=by
 have u:Nat.ble 100000 k=false:=by
  rw[cu];intro z;have:=gB z;omega
 simp only[pe,u]
theorem Qv{C:Ctx}{S:Nat->Prop}{w:World}{args:List Arg}{vs:Array Value}(m:Nat)(hm:vs.size+m<=100000)(hE:C.E S w)(hS:∀b,S b->b<w.heap.size)(hl:args.length=vs.size)(N:∀(j:Nat) x v,args[j]?=some x->vs[j]?=some v->JP S w C.P x v)
  (Z:∀(i j:Nat) x y v u g,args[i]?=some x->args[j]?=some y->vs[i]?=some v->vs[j]?=some u->x.handed=true->y.handed=true->hasB w (Ds x) v g->hasB w (Ds y) u g->i=j):
  cn ⟨C,w,Mv w args vs,S,vs.size+m,fun k=>vs.getD (k-100000) undef⟩ cX cX S (fun k=>vs.getD (k-100000) undef) ⟨wv args,pe args⟩ { tmps:=vs++Array.replicate m undef,defers:=[] } w:=by
 have vv:∀j v,vs[j]?=some v->vs.getD j undef=v:=fun j v h=>by rw[vW,h];rfl
 have O:∀j,vs.getD (100000+j-100000) undef=vs.getD j undef:=fun j=>by rw[gG]
 have U:∀j x,args[j]?=some x->∃v,vs[j]?=some v/\vs.getD j undef=v:=fun j x h=>by
  obtain⟨v,hv⟩:=aau hl (aC h);exact⟨v,hv,vv j v hv⟩
 have live:∀k,(pe args k).live->∃j x v,k=100000+j/\args[j]?=some x/\vs[j]?=some v/\vs.getD (k-100000) undef=v/\x.handed=true:=by
  intro k hk;by_cases eX:k<100000
  ·rw[HM _ _ eX]at hk;exact hk.elim
  obtain⟨j,rfl⟩:∃j,k=100000+j:=⟨k-100000,by omega⟩;rw[BJ]at hk;cases h:args[j]? with
  | none=>rw[h]at hk;exact hk.elim
  | some x=>
   rw[h]at hk;obtain⟨v,J,I⟩:=U j x h;refine⟨j,x,v,rfl,h,J,by rw[O];exact I,?_⟩;cases x with
   | pv y=>exact hk.elim
   | row=>rfl
   | map=>rfl
   | box=>rfl
   | aU=>rfl
 have ab6:∀(j:Nat) (x:Arg) (v:Value) (g:Nat),args[j]?=some x->vs[j]?=some v->x.handed=true->hasB w (Ds x) v g->g<w.heap.size/\¬S g:=by
  intro j x v g J I W D;have:=N j x v J I;cases x with
  | pv y=>cases W
  | map mk es=>
   have D:=aI rfl D;obtain⟨⟨g',ms,cl,rfl,k2,_⟩,hn⟩:=this;have Hc:=D;injection D with D;subst D;exact⟨(qS.1 k2).1,hn _ Hc⟩
  | row e es=>
   have D:=aI rfl D;obtain⟨⟨i,xs,_,_,ho,_⟩,hn⟩:=this;exact⟨(ho.lt g (by rw[fG (dQ ho).choose_spec.choose_spec];exact D)).2,hn g D⟩
  | box cs=>
   have D:=aI rfl D;obtain⟨g',Y,c,rfl,k2,_,k4,_⟩:=this;injection D with D;subst D;exact⟨(qS.1 k2).1,k4⟩
  | aU cs=>
   obtain⟨g',Y,c,_,_,k⟩:=this;exact⟨(k g D).2,(k g D).1⟩
 have yF:∀(j:Nat) (x:Arg) (v:Value) (g:Nat),args[j]?=some x->x.handed=true->(hasB w (pe args (100000+j)) v g↔hasB w (Ds x) v g):=by
  intro j x v g J I;rw[BJ,J];cases x with
  | pv y=>cases I
  | row e es=>exact⟨fun h=>.inl (aI rfl h),fun h=>.inl (aI rfl h)⟩
  | map mk es=>exact⟨fun h=>.inl (aI rfl h),fun h=>.inl (aI rfl h)⟩
  | box cs=>exact⟨fun h=>.inl (aI rfl h),fun h=>.inl (aI rfl h)⟩
  | aU cs=>exact cI
 exact
 {tm:=fun j _=>by
   show bu _ _ _ _ _ _ (wv args j) ((vs++Array.replicate m undef).getD j undef);unfold wv;cases h:args[j]? with
   | none=>exact .junk _
   | some x=>
    obtain⟨v,J,I⟩:=U j x h;have hj:j<vs.size:=by rw[<-hl];exact aC h
    have W:(vs++Array.replicate m undef).getD j undef=v:=by
     rw[vW,lY hj,J];rfl
    rw[W];have R:=N j x v h J;cases x with
    | pv y=>exact .p _ _ R
    | row e es=>exact .ow _ v fun _=>⟨trivial,by rw[O];exact I.symm⟩
    | map mk es=>exact .ow _ v fun _=>⟨trivial,by rw[O];exact I.symm⟩
    | box cs=>
     obtain⟨g,Y,c,e1,_⟩:=R;exact .bx _ 0 v fun _=>⟨trivial,g,by rw[O,I];exact e1,e1⟩
    | aU cs=>
     obtain⟨g,Y,c,e1,_⟩:=R;exact .bx _ 0 v fun _=>⟨trivial,g,by rw[O,I];exact e1,e1⟩
  sz:=by simp
  df:=rfl,nb:=hm,pn:=fun _ _=>rfl,ev:=hE,s0:=fun _ h=>h,st:=hS,sb:=fun b h=>.inl h
  hp:=fun k _=>by
   show fD _ _ _ _ _ _ k (pe args k);by_cases eX:k<100000
   ·rw[HM _ _ eX];trivial
   obtain⟨j,rfl⟩:∃j,k=100000+j:=⟨k-100000,by omega⟩;rw[BJ];cases h:args[j]? with
   | none=>trivial
   | some x=>
    obtain⟨v,J,I⟩:=U j x h;have R:=N j x v h J;cases x with
    | pv y=>trivial
    | row e es=>show aH _ _ _ _ _ (vs.getD (100000+j-100000) undef);rw[O,I];exact R.1
    | map mk es=>show Fb _ _ _ _ (vs.getD (100000+j-100000) undef);rw[O,I];exact R.1
    | box cs=>
     obtain⟨g,Y,c,e1,e2,e3,e4,e5⟩:=R;refine⟨g,Y,c,by simp only;rw[O,I];exact e1,e2,by simpa using e3,fun i x u hi hu=>?_⟩;rw[aD]at hi;obtain⟨z,hz,rfl⟩:=qI.1 hi;exact⟨(e5 i z u hz hu).1,.p _ _ (e5 i z u hz hu).2⟩
    | aU cs=>
     obtain⟨g,Y,c,e1,e2,_⟩:=R;exact⟨g,Y,c,by simp only;rw[O,I];exact e1,e2⟩
  dj:=fun i j g _ _ li lj hi hj=>by
   obtain⟨i',x,v,e1,J,I,W,D⟩:=live i li;obtain⟨j',y,u,e2,k1,k2,k3,k4⟩:=live j lj;have:=Z i' j' x y v u g J k1 I k2 D k4 (by rw[<-yF i' x v g J D,<-e1,<-W];exact hi) (by rw[<-yF j' y u g k1 k4,<-e2,<-k3];exact hj);omega
  lv:=fun k g _ lk hk=>by
   obtain⟨j,x,v,e1,J,I,W,D⟩:=live k lk;have AI:hasB w (Ds x) v g:=by rw[<-yF j x v g J D,<-e1,<-W];exact hk
   obtain⟨h5,h6⟩:=ab6 j x v g J I D AI;exact⟨h5,h6,.inl ⟨j,x,v,J,I,D,AI⟩⟩
  fr:=Fr.refl _ _ }
theorem HP{P:Program}{fn:Func}{tmps:Array Value}{w:World}{vs:List Value}(h:(fn.results.toList.mapM (HL tmps)).run P w=.ok vs w):
  (results fn tmps).run P w=.ok (if h:vs.toArray.size=1 then vs.toArray[0] else .tuple vs.toArray) w:=by
 have e:results fn tmps=(do let vs <-fn.results.mapM (HL tmps);pure (if h:vs.size=1 then vs[0] else .tuple vs)):=by
  unfold results HL;rfl
 rw[e,<-kA (xs:=fn.results),List.mapM_toArray,aV];have:(Functor.map List.toArray (fn.results.toList.mapM (HL tmps))).run P w=.ok vs.toArray w:=by
  rw[map_eq_pure_bind,aV,h];rfl
 rw[this];rfl
theorem WG {C : Ctx} (hC : bP C) {f : FuncId} {fn : Func} {c : Code} (hf : C.P.funcs[f]? = some fn) (hb : fn.body = some c) (zH : (fn.name == "runtime.NumGoroutine") = false) {args : List Arg} {r : AR} {fin : List Fin} (hn : args.length + (fn.ntmps - args.length) ≤ 100000)
  (h:∀A:rZ,A.C=C->A.n=args.length+(fn.ntmps-args.length)->W A c (Kn C fn.results.toList args r fin) ⟨wv args,pe args⟩):ai C f args r fin:=by
 refine⟨⟨fn,hf,zH,by rw[hb];rfl⟩,fun S w vs hE hS hl hrep hdis=>?_⟩;have sim:=Qv (fn.ntmps-vs.size) (by rw[<-hl];exact hn) hE hS hl hrep hdis;refine calls_of_wp hf hb ?_;have hw:=h ⟨C,w,Mv w args vs,S,vs.size+(fn.ntmps-vs.size),fun k=>vs.getD (k-100000) undef⟩ rfl (by rw[hl]);refine wp_mono (hw S _ _ w sim) fun e a' w' hq=>?_;obtain⟨S',rho',s',cv,hk⟩:=hq;have Qc:WE C fn.results.toList args r fin s'->a'.defers=[]/\∃v,(results fn a'.tmps).run C.P w'=.ok v w'/\∃v0 S',Ending.returned v=.returned v0/\Fr (Mv w args vs) w w'/\(∀b,S b->S' b)/\(∀b,S' b->b<w'.heap.size)/\(∀b,S' b->S b\/w.heap.size<=b\/Mv w args vs b)/\
   PF S' w' C.P r v0/\w9 S' w' C.P args fin vs.toList/\v7 w w' args fin vs/\(∀g,r.owns=true->hasB w' r.ab v0 g->g<w'.heap.size/\(w.heap.size<=g\/Mv w args vs g)/\∀i,¬dA w' args fin vs.toList i g):=by
  intro hk;refine⟨cv.df,?_⟩;obtain⟨iB,us,hk,h1,h2,h3,h4⟩:=Ko (A:=⟨C,w,Mv w args vs,S,vs.size+(fn.ntmps-vs.size),fun k=>vs.getD (k-100000) undef⟩) hC cv fn.results.toList hk;have hrun:=HP h2;have Hd:args.length=vs.toList.length:=by simpa using hl
  have ab7:∀(S2:Nat->Prop) (h2:Nat->AB),cn ⟨C,w,Mv w args vs,S,vs.size+(fn.ntmps-vs.size),fun k=>vs.getD (k-100000) undef⟩ cX cX S2 rho' ⟨s'.t,h2⟩ a' w'->∀i u,vs.toList[i]?=some u->(∃x,args[i]?=some x/\x.handed=true)->u=rho' (100000+i):=fun S2 h2 bH i u hu _=>by
   rw[bH.pn (100000+i) (by omega)];have sB:vs[i]?=some u:=by simpa using hu
   show u=vs.getD (100000+i-100000) undef;rw[gG,vW,sB];rfl
  have fk:∀(S2:Nat->Prop) (h2:Nat->AB),cn ⟨C,w,Mv w args vs,S,vs.size+(fn.ntmps-vs.size),fun k=>vs.getD (k-100000) undef⟩ cX cX S2 rho' ⟨s'.t,h2⟩ a' w'->nn h2 100000 args fin->w9 S2 w' C.P args fin vs.toList/\(∀i g,dA w' args fin vs.toList i g->∃id,Ek h2 (100000+i) id/\(h2 id).live/\hasB w' (h2 id) (rho' id) g/\om h2 100000 args fin id=true)/\v7 w w' args fin vs:=by
   intro S2 h2 bH s7;obtain⟨r1,r2⟩:=Qu bH args fin vs.toList 100000 Hd (ab7 S2 h2 bH) s7;refine⟨r1,r2,fun i g hg=>?_,fun i j g hi hj=>?_⟩
   ·obtain⟨id,_,q2,q3,_⟩:=r2 i g hg;obtain⟨p1,_,p3⟩:=bH.lv id g trivial q2 q3;exact⟨p1,p3.symm⟩
   obtain⟨id,q1,q2,q3,_⟩:=r2 i g hi;obtain⟨Dl,p1,p2,p3,_⟩:=r2 j g hj;have:=bH.dj id Dl g trivial trivial q2 p2 q3 p3;subst this;exact N4 args fin w' vs.toList 100000 (aG _) s7 i j id g hi hj q1 p1
  have outer:∀(S2:Nat->Prop) (h2:Nat->AB) (v:Value),cn ⟨C,w,Mv w args vs,S,vs.size+(fn.ntmps-vs.size),fun k=>vs.getD (k-100000) undef⟩ cX cX S2 rho' ⟨s'.t,h2⟩ a' w'->(results fn a'.tmps).run C.P w'=.ok v w'->PF S2 w' C.P r v->nn h2 100000 args fin->(∀g,r.owns=true->hasB w' r.ab v g->g<w'.heap.size/\(w.heap.size<=g\/Mv w args vs g)/\∀i,¬dA w' args fin vs.toList i g)->
    ∃v,(results fn a'.tmps).run C.P w'=.ok v w'/\∃v0 S',Ending.returned v=.returned v0/\Fr (Mv w args vs) w w'/\(∀b,S b->S' b)/\(∀b,S' b->b<w'.heap.size)/\(∀b,S' b->S b\/w.heap.size<=b\/Mv w args vs b)/\
   PF S' w' C.P r v0/\w9 S' w' C.P args fin vs.toList/\v7 w w' args fin vs/\(∀g,r.owns=true->hasB w' r.ab v0 g->g<w'.heap.size/\(w.heap.size<=g\/Mv w args vs g)/\∀i,¬dA w' args fin vs.toList i g):=by
   intro S2 h2 v bH hr Za s7 hown;refine⟨v,hr,v,S2,rfl,bH.fr,bH.s0,bH.st,fun b hb=>?_,Za,(fk S2 h2 bH s7).1,(fk S2 h2 bH s7).2.2,hown⟩;rcases bH.sb b hb with h | h | h
   ·exact .inl h
   ·exact .inr (.inr h)
   exact .inr (.inl h)
  cases r with
  | own e es=>
   simp only at hk;split at hk
   ·rename_i av;obtain⟨u,rfl⟩:∃u,us=[u]:=by
     match us,h1 with
     | [u],_=>exact⟨u,rfl⟩
    have BK:(results fn a'.tmps).run C.P w'=.ok u w':=hrun;split at hk
    ·rename_i i;obtain⟨k1,k2,k3⟩:=hk;have hu:=h4 S' s'.h (fun _ h=>h) cv 0 _ u rfl rfl;obtain⟨_,hv⟩:=hu.cZ (by rw[k1];trivial);have hh:=cv.hp i trivial;rw[k1]at hh;have bY:(s'.h i).live:=by rw[k1];trivial
     refine outer S' s'.h u cv BK ⟨by rw[hv];exact hh,fun g hg=>(cv.qd i g trivial bY (by rw[<-hv];exact hg)).2.1⟩ k3 fun g _ Zb=>?_;have hg:cF u=some g:=aI rfl Zb;have qG:cF (rho' i)=some g:=by rw[<-hv];exact hg
     obtain⟨l1,l2,l3⟩:=cv.qd i g trivial bY qG;refine⟨l1,l3.symm,fun n Zc=>?_⟩;obtain⟨i',_,m1,m2,m3⟩:=(fk S' s'.h cv k3).2.1 n g Zc;have:=cv.dj i i' g trivial trivial bY m1 (.inl qG) m2;subst this;rw[k2]at m3;cases m3
    ·rename_i i lo hi;have hk9:lo=0/\∃xs,s'.h i=.row e xs/\es=xs.take hi/\om s'.h 100000 args fin i=false/\nn s'.h 100000 args fin:=by
      cases lo with
      | succ n=>exact hk.elim
      | zero=>
       cases hr:s'.h i with
       | row e' xs=>
        rw[hr]at hk;simp only at hk;split at hk
        ·rename_i Ai;rw[bz.1 Ai];exact⟨rfl,xs,rfl,hk⟩
        exact hk.elim
       | _=>rw[hr]at hk;exact hk.elim
     obtain⟨rfl,xs,aw,k1,k2,k3⟩:=hk9;have hu:=h4 S' s'.h (fun _ h=>h) cv 0 _ u rfl rfl;obtain⟨_,n,cp,ad,ti,q1,q2,_,q3,q4,hv⟩:=hu.Ff aw;have hh:=cv.hp i trivial;rw[aw]at hh;have hh:aH C.P w' (aO S' w') e xs (rho' i):=hh;have bY:(s'.h i).live:=by rw[aw];trivial
     have hblk:∀g,cF u=some g->cF (rho' i)=some g:=by
      intro g hg;rw[hv]at hg;rw[q1];split at hg
      ·cases ad<;>exact hg
      cases ad with
      | none=>cases hg
      | some a0=>
       simp only[mZ,Nat.zero_mul,Addr.add,ae]at hg;exact hg
     refine outer S' s'.h u cv BK ⟨?_,fun g hg=>(cv.qd i g trivial bY (hblk g hg)).2.1⟩ k3 fun g _ Zb=>?_
     ·rw[k1];exact aH.front hh q1 q3 (by rw[hv];simp[Addr.add])
     have hg:cF u=some g:=aI rfl Zb;obtain⟨l1,l2,l3⟩:=cv.qd i g trivial bY (hblk g hg);refine⟨l1,l3.symm,fun n Zc=>?_⟩;obtain⟨i',_,m1,m2,m3⟩:=(fk S' s'.h cv k3).2.1 n g Zc;have:=cv.dj i i' g trivial trivial bY m1 (.inl (hblk g hg)) m2;subst this;rw[k2]at m3;cases m3
    ·split at hk
     case h_2=>exact hk.elim
     rename_i ti hT;split at hk
     case h_2=>exact hk.elim
     rename_i hpos;obtain⟨k1,k3⟩:=hk;subst k1;obtain⟨info,z,g1,g2,_⟩:=hC.jw e ti hT;have hu:=h4 S' s'.h (fun _ h=>h) cv 0 _ u rfl rfl;have sB:u=.slice none 0 0:=by cases hu;rfl
     subst sB;exact outer S' s'.h _ cv BK ⟨⟨info,[],g1,by have:=gB hpos;omega,ee _ _ _ _,by simp,by simp,by simp⟩,fun g hg=>by cases hg⟩ k3 fun g _ hg=>by cases aI rfl hg
    exact hk.elim
   exact hk.elim
  | hown cs=>
   simp only at hk;split at hk
   ·rename_i av;obtain⟨u,rfl⟩:∃u,us=[u]:=by
     match us,h1 with
     | [u],_=>exact⟨u,rfl⟩
    have BK:(results fn a'.tmps).run C.P w'=.ok u w':=hrun;split at hk
    ·rename_i i off;cases off with
     | succ n=>exact hk.elim
     | zero=>
      obtain⟨k1,k2,k3⟩:=hk;have hu:=h4 S' s'.h (fun _ h=>h) cv 0 _ u rfl rfl;obtain⟨_,g0,Zb,hv⟩:=hu.hY (by rw[k1];trivial);have hvv:u=rho' i:=by rw[hv,Zb]
      have hh:=cv.hp i trivial;rw[k1]at hh;obtain⟨g1,ty,c,e1,e2⟩:=hh;have bY:(s'.h i).live:=by rw[k1];trivial
      have Hg:∀k,hasB w' (.aU cs) u k->hasB w' (s'.h i) (rho' i) k:=fun k hk=>by rw[k1,<-hvv];exact hk
      refine outer S' s'.h u cv BK ⟨g1,ty,c,by rw[hvv];exact e1,e2,fun k hk=>(cv.lv i k trivial bY (Hg k hk)).2.1⟩ k3 fun g _ hg=>?_;have qG:=Hg g hg;obtain⟨l1,l2,l3⟩:=cv.lv i g trivial bY qG;refine⟨l1,l3.symm,fun n Zc=>?_⟩;obtain⟨i',_,m1,m2,m3⟩:=(fk S' s'.h cv k3).2.1 n g Zc;have:=cv.dj i i' g trivial trivial bY m1 qG m2;subst this;rw[k2]at m3;cases m3
    exact hk.elim
   exact hk.elim
  | p x=>
   simp only at hk;split at hk
   ·rename_i av;obtain⟨u,rfl⟩:∃u,us=[u]:=by
     match us,h1 with
     | [u],_=>exact⟨u,rfl⟩
    have BK:(results fn a'.tmps).run C.P w'=.ok u w':=hrun;obtain⟨y,fz,S2,⟨rfl,s7⟩,bH,hp,AJ,_,_⟩:=jA hC (s:=⟨s'.t,s'.h⟩) cv (su.refl s'.h) (h4 S' s'.h (fun _ h=>h) cv 0 _ u rfl rfl) hk;exact outer S2 _ u bH BK hp s7 (fun g h=>by cases h)
   exact hk.elim
  | tu xs=>
   simp only at hk;split at hk
   ·exact hk.elim
   rename_i cO;obtain⟨ys,h',S2,⟨rfl,s7⟩,bH,AJ,hlen,hp⟩:=Kp hC iB us S' s'.h h1 cv (fun S2 h2 hS bH=>h4 S2 h2 hS bH) hk;have hus:us.toArray.size≠1:=by
    intro e;have e1:us.length=1:=by simpa using e
    obtain⟨q,hq⟩:=List.length_eq_one_iff.1 (h1.trans e1);exact cO q hq
   rw[dif_neg hus]at hrun;refine outer S2 h' _ bH hrun ⟨us.toArray,rfl,by simpa using hlen,fun i x u hx hu=>hp i x u hx (by simpa using hu)⟩ s7 (fun g h=>by cases h)
 cases e with
 | normal=>exact Qc hk
 | ret=>exact Qc hk
 | exit id=>exact hk.elim
 | goto l=>exact hk.elim
 | panic c=>exact hk.elim
 | outgrown=>exact hk.elim
end Go.AM
