/- Part 2 of the proof of RulesRoomMatchSpec. -/
import Derived.Test.YtfloceomobknoaaGreatDoorR01
set_option linter.unusedVariables false
set_option linter.unusedSimpArgs false
set_option maxRecDepth 100000
set_option maxHeartbeats 8000000
namespace Go
abbrev aaQ:=@Nat.add_right_cancel_iff
abbrev adq:=@List.mem_cons
abbrev aai:=@List.nodup_cons
abbrev ab9:=@Array.getElem?_eq_some_iff
abbrev aa9:=@List.getElem?_cons_zero
abbrev ab_:=@List.mem_singleton
abbrev aar:=@List.dropLast_concat_getLast
abbrev ael:=@Bool.not_eq_true'
abbrev abX:=@Array.toList_append
abbrev ac_:=@Bool.and_self
abbrev adX:=@Bool.or_eq_false_iff
abbrev acy:=@Option.getD_some
abbrev acD:=@Classical.choose_spec
abbrev adY:=@Nat.lt_of_le_of_lt
abbrev adr:=@Bool.true_and
abbrev abn:=@Bool.true_or
abbrev ads:=@Bool.or_true
abbrev ada:=@Nat.lt_trichotomy
abbrev abG:=@Nat.add_sub_cancel_left
abbrev acN:=@Array.getElem?_append_left
abbrev aem:=@Go.World.ownsRow_nil
end Go
namespace Go.AM
open Go.RowKit
variable {S':Nat->Prop} {w:World}
theorem nY{S:Nat->Prop}{w':World}{x:PV}{v:Value}(h:AY x=true)(z:aO S w x v):aO S' w' x v:=by
 cases z with
 | im=>exact .im _
 | ag cs vs hl h1 hc=>
  refine .ag cs vs hl h1 fun i c v hi D=>?_;have I:=aad hi;have:=abh.1 h c I;have J:=hc i c v hi D;cases c with
  | im y=>cases J;exact .im _
  | _=>cases this
 | nil=>cases h
 | sl=>cases h
 | ip=>cases h
 | fn=>cases h
variable {A:cD} {V L:Nat->Prop} {rho:Nat->Value} {s:AS}
theorem b7.grow{S:Nat->Prop}{a:Act}(z:b7 A V L S rho s a w)(hC:bI A.C)(w':World)(D:Fr (fun _=>False) w w'):b7 A V L S rho s a w':=by
 have N:∀b,S b->w'.heap[b]?=w.heap[b]?:=fun k hk=>D.block k (z.st k hk) (fun h=>h);have T:lB S S w w' L L rho rho s.h s.h:=⟨fun b h=>h,N,fun j I=>⟨I,fun hl=>⟨hl,rfl⟩⟩,fun j e' I=>I⟩;exact
 {tm:=fun j I=>(z.tm j I).cK T
  sz:=z.sz,df:=z.df,nb:=z.nb,pn:=z.pn
  ev:=hC.env _ _ _ _ z.ev (fun b h=>h) N D.size
  s0:=z.s0
  st:=fun b hb=>aaW (z.st b hb) D.size
  sb:=z.sb
  hp:=fun j I=>(z.hp j I).cK T (fun J g O=>D.block g (z.lv j g I J O).1 (fun h=>h)) (fun _=>rfl)
  dj:=fun i j g hi I J R U W=>z.dj i j g hi I J R (dA (fun k hk=>D.block k (z.pM i k hi J hk).1 (fun h=>h)) U) (dA (fun k hk=>D.block k (z.pM j k I R hk).1 (fun h=>h)) W)
  lv:=fun i g hi J O=>by obtain⟨Y,Z⟩:=z.lv i g hi J (dA (fun k hk=>D.block k (z.pM i k hi J hk).1 (fun h=>h)) O);exact⟨aaW Y D.size,Z⟩
  fr:=z.fr.next D.os D.tape D.output D.size fun k hk _=>D.block k (aaW hk z.fr.size) (fun h=>h) }
inductive fL(L:Nat->Prop)(rho:Nat->Value)(h:Nat->AB):List Arg->List Value->List (Nat×AB)->Prop
 | nil:fL L rho h [] [] []
 | pv (x:PV) (v:Value) {xs:List Arg} {vs:List Value} {ids:List (Nat×AB)} (hr:fL L rho h xs vs ids):fL L rho h (.pv x::xs) (v::vs) ids
 | row (id:Nat) (e:TypeId) (es:List (List PV)) {xs:List Arg} {vs:List Value} {ids:List (Nat×AB)} (hL:L id) (hid:h id=.row e es) (hr:fL L rho h xs vs ids):fL L rho h (.row e es::xs) (rho id::vs) ((id,.row e es)::ids)
 | map (id:Nat) (mk:MK) (es:List (Value×PV)) {xs:List Arg} {vs:List Value} {ids:List (Nat×AB)} (hL:L id) (hid:h id=.map mk es) (hr:fL L rho h xs vs ids):fL L rho h (.map mk es::xs) (rho id::vs) ((id,.map mk es)::ids)
 | box (id:Nat) (cs:List AV) (ys:List PV) {xs:List Arg} {vs:List Value} {ids:List (Nat×AB)} (hL:L id) (hid:h id=.box cs) (hy:dY cs=some ys) (hr:fL L rho h xs vs ids):fL L rho h (.box ys::xs) (rho id::vs) ((id,.box cs)::ids)
 | aN (id:Nat) (cs:List HC) {xs:List Arg} {vs:List Value} {ids:List (Nat×AB)} (hL:L id) (hid:h id=.aN cs) (hr:fL L rho h xs vs ids):fL L rho h (.aN cs::xs) (rho id::vs) ((id,.aN cs)::ids)
theorem JL(hC:bI A.C){t:Nat->AV}{a:Act}{h:Nat->AB}{md:Nat->Bool}:
  ∀(iQ:List AV) (vs:List Value) (j:Nat) (h':Nat->AB) (S:Nat->Prop) (K:List Arg->List (Nat×AB)->List (Nat×AB)->Prop),iQ.length=vs.length->b7 A V L S rho ⟨t,h'⟩ a w->pY h h' ->
   (∀(S2:Nat->Prop) (D:Nat->AB),b7 A V L S2 rho ⟨t,D⟩ a w->∀(i:Nat) x v,iQ[i]?=some x->vs[i]?=some v->aY S2 w A.C.P L rho D x v)->
   (∀id,(h' id).there->(h id).there)->gF md h j iQ K ->
  ∃xs ids fz S',K xs ids fz/\b7 A V L S' rho ⟨t,app h' fz⟩ a w/\(∀b,S b->S' b)/\pY h (app h' fz)/\(∀p∈fz,L p.1)/\xs.length=vs.length/\fL L rho h xs vs ids/\(∀(i:Nat) x v,xs[i]?=some (.pv x)->vs[i]?=some v->aO S' w x v):=by
 intro iQ
 induction iQ with
 | nil=>
  intro vs j h' S K hl J U hrep _ N;have:vs=[]:=adl hl.symm;subst this;exact⟨[],[],[],S,N,J,fun _ h=>h,U,by simp,rfl,.nil,by simp⟩
 | cons x iQ ih=>
  intro vs j h' S K hl J U hrep W N;cases vs with
  | nil=>simp at hl
  | cons v vs=>
   simp only[aaB,aaQ]at hl;have hx:aY S w A.C.P L rho h' x v:=hrep S h' J 0 x v rfl rfl;have ye:∀(S2:Nat->Prop) (D:Nat->AB),b7 A V L S2 rho ⟨t,D⟩ a w->∀(i:Nat) x v,iQ[i]?=some x->vs[i]?=some v->aY S2 w A.C.P L rho D x v:=fun S2 D s2 i x v I O=>hrep S2 D s2 (i+1) x v (by simpa using I) (by simpa using O);unfold gF at N;split at N
   ·obtain⟨y,fz,S2,N,bu,hp,xC,Lh,DI⟩:=ir hC J U hx N;have W2:∀id,(app h' fz id).there->(h id).there:=fun id ht=>by
     rcases Lh id with z | ⟨e',xs,z,D⟩ | ⟨cs,xs,z,_,D⟩
     ·rw[z]at ht;exact ht
     ·rw[z];trivial
     rw[z];trivial
    obtain⟨xs,ids,Y,S',Z,k2,R,k4,k5,k6,k7,k8⟩:=ih vs (j+1) (app h' fz) S2 _ hl bu Lh ye W2 N;refine⟨.pv y::xs,ids,fz++Y,S',Z,by rw[cy];exact k2,fun b hb=>R b (xC b hb),by rw[cy];exact k4,fun p hp=>(abi.1 hp).elim (DI p) (k5 p),by simp[k6],.pv y v k7,fun i x u I O=>?_⟩;cases i with
    | zero=>simp at I O;subst I O;exact hp.mono R (fun _ _=>rfl)
    | succ i=>exact k8 i x u (by simpa using I) (by simpa using O)
   split at N
   ·rename_i id;split at N
    ·rename_i e es az;obtain⟨xs,ids,Y,S',Z,k2,R,k4,k5,k6,k7,k8⟩:=ih vs (j+1) h' S _ hl J U ye W N;have ht:(h' id).there:=by
      rcases U id with z | ⟨e',xs,z,D⟩ | ⟨cs,xs,z,_,D⟩
      ·rw[z,az];trivial
      ·rw[D];trivial
      rw[D];trivial
     obtain⟨hL,rfl⟩:=hx.cH ht;refine⟨.row e es::xs,(id,.row e es)::ids,Y,S',Z,k2,R,k4,k5,by simp[k6],.row id e es hL az k7,fun i x u I O=>?_⟩;cases i with
     | zero=>simp at I
     | succ i=>exact k8 i x u (by simpa using I) (by simpa using O)
    ·rename_i es Iq;obtain⟨xs,ids,Y,S',Z,k2,R,k4,k5,k6,k7,k8⟩:=ih vs (j+1) h' S _ hl J U ye W N;have he:h' id=.jA es:=by
      rcases U id with z | ⟨e',xs,z,D⟩ | ⟨cs,xs,z,_,D⟩
      ·rw[z,Iq]
      ·rw[Iq]at z;cases z
      rw[Iq]at z;cases z
     obtain⟨hL,rfl⟩:=hx.cH (by rw[he];trivial);have hh:=J.hp id hL;have hh:eK S w A.C.P L rho h' id (h' id):=hh;rw[he]at hh;refine⟨.pv (.sl es)::xs,ids,Y,S',Z,k2,R,k4,k5,by simp[k6],.pv _ _ k7,fun i x u I O=>?_⟩;cases i with
     | zero=>simp at I O;subst I O;exact aO.mono hh R (fun _ _=>rfl)
     | succ i=>exact k8 i x u (by simpa using I) (by simpa using O)
    ·rename_i mk es az;obtain⟨xs,ids,Y,S',Z,k2,R,k4,k5,k6,k7,k8⟩:=ih vs (j+1) h' S _ hl J U ye W N;have ht:(h' id).there:=by
      rcases U id with z | ⟨e',xs,z,D⟩ | ⟨cs,xs,z,_,D⟩
      ·rw[z,az];trivial
      ·rw[D];trivial
      rw[D];trivial
     obtain⟨hL,rfl⟩:=hx.cH ht;refine⟨.map mk es::xs,(id,.map mk es)::ids,Y,S',Z,k2,R,k4,k5,by simp[k6],.map id mk es hL az k7,fun i x u I O=>?_⟩;cases i with
     | zero=>simp at I
     | succ i=>exact k8 i x u (by simpa using I) (by simpa using O)
    exact N.elim
   ·obtain⟨xs,ids,Y,S',Z,k2,R,k4,k5,k6,k7,k8⟩:=ih vs (j+1) h' S _ hl J U ye W N;refine⟨.pv _::xs,ids,Y,S',Z,k2,R,k4,k5,by simp[k6],.pv _ _ k7,fun i x u I O=>?_⟩;cases i with
    | zero=>simp at I O;subst I O;exact hx.eR.mono R (fun _ _=>rfl)
    | succ i=>exact k8 i x u (by simpa using I) (by simpa using O)
   ·rename_i id;split at N
    ·rename_i cs aN;split at N
     ·rename_i ys Ij;obtain⟨xs,ids,Y,S',Z,k2,R,k4,k5,k6,k7,k8⟩:=ih vs (j+1) h' S _ hl J U ye W N;have ht:(h' id).there:=by
       rcases U id with z | ⟨e',xs,z,D⟩ | ⟨cs,xs,z,_,D⟩
       ·rw[z,aN];trivial
       ·rw[D];trivial
       rw[D];trivial
      obtain⟨hL,g,hg,hv⟩:=hx.h_ ht;have F9:v=rho id:=by rw[hv,hg]
      subst F9;refine⟨.box ys::xs,(id,.box cs)::ids,Y,S',Z,k2,R,k4,k5,by simp[k6],.box id cs ys hL aN Ij k7,fun i x u I O=>?_⟩;cases i with
      | zero=>simp at I
      | succ i=>exact k8 i x u (by simpa using I) (by simpa using O)
     exact N.elim
    ·rename_i cs aN;obtain⟨xs,ids,Y,S',Z,k2,R,k4,k5,k6,k7,k8⟩:=ih vs (j+1) h' S _ hl J U ye W N;have ht:(h' id).there:=by
      rcases U id with z | ⟨e',xs,z,D⟩ | ⟨cs,xs,z,_,D⟩
      ·rw[z,aN];trivial
      ·rw[D];trivial
      rw[D];trivial
     obtain⟨hL,g,hg,hv⟩:=hx.h_ ht;have F9:v=rho id:=by rw[hv,hg]
     subst F9;refine⟨.aN cs::xs,(id,.aN cs)::ids,Y,S',Z,k2,R,k4,k5,by simp[k6],.aN id cs hL aN k7,fun i x u I O=>?_⟩;cases i with
     | zero=>simp at I
     | succ i=>exact k8 i x u (by simpa using I) (by simpa using O)
    exact N.elim
   exact N.elim
variable {vs:List Value}
theorem fL.at{h:Nat->AB}{xs:List Arg}{ids:List (Nat×AB)}(H:fL L rho h xs vs ids):∀(j:Nat) x v,xs[j]?=some x->vs[j]?=some v->x.handed=true->∃id b,(id,b)∈ids/\L id/\h id=b/\v=rho id/\(((∃e es,x=.row e es/\b=.row e es)\/∃mk es,x=.map mk es/\b=.map mk es)\/(∃cs ys,x=.box ys/\b=.box cs/\dY cs=some ys)\/∃cs,x=.aN cs/\b=.aN cs):=by
 induction H with
 | nil=>intro j x v z;simp at z
 | pv y u hr ih=>
  intro j x v z D I;cases j with
  | zero=>simp at z;subst z;cases I
  | succ j=>exact ih j x v (by simpa using z) (by simpa using D) I
 | row id e es J hid hr ih=>
  intro j x v z D I;cases j with
  | zero=>simp at z D;subst z D;exact⟨id,_,by simp,J,hid,rfl,.inl (.inl ⟨e,es,rfl,rfl⟩)⟩
  | succ j=>obtain⟨i,b,m,r⟩:=ih j x v (by simpa using z) (by simpa using D) I;exact⟨i,b,by simp[m],r⟩
 | map id mk es J hid hr ih=>
  intro j x v z D I;cases j with
  | zero=>simp at z D;subst z D;exact⟨id,_,by simp,J,hid,rfl,.inl (.inr ⟨mk,es,rfl,rfl⟩)⟩
  | succ j=>obtain⟨i,b,m,r⟩:=ih j x v (by simpa using z) (by simpa using D) I;exact⟨i,b,by simp[m],r⟩
 | box id cs ys J hid hy hr ih=>
  intro j x v z D I;cases j with
  | zero=>simp at z D;subst z D;exact⟨id,_,by simp,J,hid,rfl,.inr (.inl ⟨cs,ys,rfl,rfl,hy⟩)⟩
  | succ j=>obtain⟨i,b,m,r⟩:=ih j x v (by simpa using z) (by simpa using D) I;exact⟨i,b,by simp[m],r⟩
 | aN id cs J hid hr ih=>
  intro j x v z D I;cases j with
  | zero=>simp at z D;subst z D;exact⟨id,_,by simp,J,hid,rfl,.inr (.inr ⟨cs,rfl,rfl⟩)⟩
  | succ j=>obtain⟨i,b,m,r⟩:=ih j x v (by simpa using z) (by simpa using D) I;exact⟨i,b,by simp[m],r⟩
theorem fL.back{h:Nat->AB}{xs:List Arg}{ids:List (Nat×AB)}(H:fL L rho h xs vs ids):∀id b,(id,b)∈ids->L id/\h id=b/\b.live/\∃(j:Nat) (x:Arg),xs[j]?=some x/\vs[j]?=some (rho id)/\x.handed=true:=by
 induction H with
 | nil=>intro id b h;cases h
 | pv y u hr ih=>intro id b h;obtain⟨z,D,I,j,x,J⟩:=ih id b h;exact⟨z,D,I,j+1,x,by simpa using J⟩
 | row i e es N hid hr ih=>
  intro id b h;rcases adq.1 h with h | h
  ·injection h with z D;subst z D;exact⟨N,hid,trivial,0,_,rfl,rfl,rfl⟩
  obtain⟨z,D,I,j,x,J⟩:=ih id b h;exact⟨z,D,I,j+1,x,by simpa using J⟩
 | map i mk es N hid hr ih=>
  intro id b h;rcases adq.1 h with h | h
  ·injection h with z D;subst z D;exact⟨N,hid,trivial,0,_,rfl,rfl,rfl⟩
  obtain⟨z,D,I,j,x,J⟩:=ih id b h;exact⟨z,D,I,j+1,x,by simpa using J⟩
 | box i cs ys N hid hy hr ih=>
  intro id b h;rcases adq.1 h with h | h
  ·injection h with z D;subst z D;exact⟨N,hid,trivial,0,_,rfl,rfl,rfl⟩
  obtain⟨z,D,I,j,x,J⟩:=ih id b h;exact⟨z,D,I,j+1,x,by simpa using J⟩
 | aN i cs N hid hr ih=>
  intro id b h;rcases adq.1 h with h | h
  ·injection h with z D;subst z D;exact⟨N,hid,trivial,0,_,rfl,rfl,rfl⟩
  obtain⟨z,D,I,j,x,J⟩:=ih id b h;exact⟨z,D,I,j+1,x,by simpa using J⟩
theorem fL.inj{h:Nat->AB}{xs:List Arg}{ids:List (Nat×AB)}(H:fL L rho h xs vs ids)(Z:(ids.map (·.1)).Nodup):∀(i j:Nat) x y v u,xs[i]?=some x->xs[j]?=some y->vs[i]?=some v->vs[j]?=some u->x.handed=true->y.handed=true->i≠j ->
  ∃Gk I b1 D,Gk≠I/\(Gk,b1)∈ids/\(I,D)∈ids/\v=rho Gk/\u=rho I/\(((∃e es,x=.row e es/\b1=.row e es)\/∃mk es,x=.map mk es/\b1=.map mk es)\/(∃cs ys,x=.box ys/\b1=.box cs/\dY cs=some ys)\/∃cs,x=.aN cs/\b1=.aN cs)/\(((∃e es,y=.row e es/\D=.row e es)\/∃mk es,y=.map mk es/\D=.map mk es)\/(∃cs ys,y=.box ys/\D=.box cs/\dY cs=some ys)\/∃cs,y=.aN cs/\D=.aN cs):=by
 have step:∀(i0:Nat) (b0:AB) {xs:List Arg} {vs:List Value} {ids:List (Nat×AB)} (H:fL L rho h xs vs ids) (Z:(((i0,b0)::ids).map (·.1)).Nodup) (j:Nat) (y:Arg) (u:Value),xs[j]?=some y->vs[j]?=some u->y.handed=true->∃id b,id≠i0/\(id,b)∈ids/\u=rho id/\(((∃e es,y=.row e es/\b=.row e es)\/∃mk es,y=.map mk es/\b=.map mk es)\/(∃cs ys,y=.box ys/\b=.box cs/\dY cs=some ys)\/∃cs,y=.aN cs/\b=.aN cs):=by
  intro i0 b0 xs vs ids H Z j y u J N R;obtain⟨id,b,O,_,_,h5,hf⟩:=H.at j y u J N R;simp only[aa8,aai]at Z;exact⟨id,b,fun e=>Z.1 (adS.2 ⟨(id,b),O,e⟩),O,h5,hf⟩
 induction H with
 | nil=>intro i j x y v u J;simp at J
 | pv z v0 hr ih=>
  intro i j x y v u J N R O h5 h6 h7;cases i with
  | zero=>simp at J;subst J;cases h5
  | succ i=>
   cases j with
   | zero=>simp at N;subst N;cases h6
   | succ j=>exact ih Z i j x y v u (by simpa using J) (by simpa using N) (by simpa using R) (by simpa using O) h5 h6 (by omega)
 | row id e es hL hid hr ih=>
  intro i j x y v u J N R O h5 h6 h7;have Ct:=Z;simp only[aa8,aai]at Ct;cases i with
  | zero=>
   cases j with
   | zero=>exact absurd rfl h7
   | succ j=>
    obtain⟨I,D,U,W,Y,hf⟩:=step id (.row e es) hr Z j y u (by simpa using N) (by simpa using O) h6;simp at J R;exact⟨id,I,.row e es,D,U.symm,by simp,by simp[W],R.symm,Y,J▸.inl (.inl ⟨e,es,rfl,rfl⟩),hf⟩
  | succ i=>
   cases j with
   | zero=>
    obtain⟨I,D,U,W,Y,hf⟩:=step id (.row e es) hr Z i x v (by simpa using J) (by simpa using R) h5;simp at N O;exact⟨I,id,D,.row e es,U,by simp[W],by simp,Y,O.symm,hf,N▸.inl (.inl ⟨e,es,rfl,rfl⟩)⟩
   | succ j=>
    obtain⟨Gk,I,b1,D,U,W,Y,k4,k5⟩:=ih Ct.2 i j x y v u (by simpa using J) (by simpa using N) (by simpa using R) (by simpa using O) h5 h6 (by omega);exact⟨Gk,I,b1,D,U,by simp[W],by simp[Y],k4,k5⟩
 | map id mk es hL hid hr ih=>
  intro i j x y v u J N R O h5 h6 h7;have Ct:=Z;simp only[aa8,aai]at Ct;cases i with
  | zero=>
   cases j with
   | zero=>exact absurd rfl h7
   | succ j=>
    obtain⟨I,D,U,W,Y,hf⟩:=step id (.map mk es) hr Z j y u (by simpa using N) (by simpa using O) h6;simp at J R;exact⟨id,I,.map mk es,D,U.symm,by simp,by simp[W],R.symm,Y,J▸.inl (.inr ⟨mk,es,rfl,rfl⟩),hf⟩
  | succ i=>
   cases j with
   | zero=>
    obtain⟨I,D,U,W,Y,hf⟩:=step id (.map mk es) hr Z i x v (by simpa using J) (by simpa using R) h5;simp at N O;exact⟨I,id,D,.map mk es,U,by simp[W],by simp,Y,O.symm,hf,N▸.inl (.inr ⟨mk,es,rfl,rfl⟩)⟩
   | succ j=>
    obtain⟨Gk,I,b1,D,U,W,Y,k4,k5⟩:=ih Ct.2 i j x y v u (by simpa using J) (by simpa using N) (by simpa using R) (by simpa using O) h5 h6 (by omega);exact⟨Gk,I,b1,D,U,by simp[W],by simp[Y],k4,k5⟩
 | box id cs ys hL hid hy hr ih=>
  intro i j x y v u J N R O h5 h6 h7;have Ct:=Z;simp only[aa8,aai]at Ct;cases i with
  | zero=>
   cases j with
   | zero=>exact absurd rfl h7
   | succ j=>
    obtain⟨I,D,U,W,Y,hf⟩:=step id (.box cs) hr Z j y u (by simpa using N) (by simpa using O) h6;simp at J R;exact⟨id,I,.box cs,D,U.symm,by simp,by simp[W],R.symm,Y,J▸.inr (.inl ⟨cs,ys,rfl,rfl,hy⟩),hf⟩
  | succ i=>
   cases j with
   | zero=>
    obtain⟨I,D,U,W,Y,hf⟩:=step id (.box cs) hr Z i x v (by simpa using J) (by simpa using R) h5;simp at N O;exact⟨I,id,D,.box cs,U,by simp[W],by simp,Y,O.symm,hf,N▸.inr (.inl ⟨cs,ys,rfl,rfl,hy⟩)⟩
   | succ j=>
    obtain⟨Gk,I,b1,D,U,W,Y,k4,k5⟩:=ih Ct.2 i j x y v u (by simpa using J) (by simpa using N) (by simpa using R) (by simpa using O) h5 h6 (by omega);exact⟨Gk,I,b1,D,U,by simp[W],by simp[Y],k4,k5⟩
 | aN id cs hL hid hr ih=>
  intro i j x y v u J N R O h5 h6 h7;have Ct:=Z;simp only[aa8,aai]at Ct;cases i with
  | zero=>
   cases j with
   | zero=>exact absurd rfl h7
   | succ j=>
    obtain⟨I,D,U,W,Y,hf⟩:=step id (.aN cs) hr Z j y u (by simpa using N) (by simpa using O) h6;simp at J R;exact⟨id,I,.aN cs,D,U.symm,by simp,by simp[W],R.symm,Y,J▸.inr (.inr ⟨cs,rfl,rfl⟩),hf⟩
  | succ i=>
   cases j with
   | zero=>
    obtain⟨I,D,U,W,Y,hf⟩:=step id (.aN cs) hr Z i x v (by simpa using J) (by simpa using R) h5;simp at N O;exact⟨I,id,D,.aN cs,U,by simp[W],by simp,Y,O.symm,hf,N▸.inr (.inr ⟨cs,rfl,rfl⟩)⟩
   | succ j=>
    obtain⟨Gk,I,b1,D,U,W,Y,k4,k5⟩:=ih Ct.2 i j x y v u (by simpa using J) (by simpa using N) (by simpa using R) (by simpa using O) h5 h6 (by omega);exact⟨Gk,I,b1,D,U,by simp[W],by simp[Y],k4,k5⟩
theorem LX{id:Nat}:∀{fz:List (Nat×AB)},afu id fz=true->∀p∈fz,p.1≠id:=by
 intro fz
 induction fz with
 | nil=>intro _ p hp;cases hp
 | cons x fz ih=>
  intro z p hp;unfold afu at z;split at z
  ·cases z
  rename_i D;rcases adq.1 hp with h | h
  ·subst h;intro e;rw[e]at D;simp at D
  exact ih z p h
theorem Gl:∀{ids fz:List (Nat×AB)},H_ ids fz=true->(∀p∈ids,afu p.1 fz=true)/\(ids.map (·.1)).Nodup:=by
 intro ids
 induction ids with
 | nil=>intro fz _;simp
 | cons x ids ih=>
  intro fz h;obtain⟨i,b⟩:=x;simp only[H_,aaZ]at h;obtain⟨⟨z,D⟩,I⟩:=h;obtain⟨J,N⟩:=ih I;refine⟨fun p hp=>?_,?_⟩
  ·rcases adq.1 hp with h | h
   ·subst h;exact z
   exact J p h
  simp only[aa8,aai];refine⟨fun O=>?_,N⟩;obtain⟨p,hp,R⟩:=adS.1 O;exact LX D p hp R
def Ar:List Arg->List (Nat×AB)->Nat->Nat->Prop
 | x::xs,ids,i,id=>match x.handed with
  | false=>match i with
   | 0=>False
   | i+1=>Ar xs ids i id
  | true=>match ids with
   | (id0,_)::ids=>match i with
    | 0=>id=id0
    | i+1=>Ar xs ids i id
   | []=>False
 | _,_,_,_=>False
theorem Ar.uniq:∀{xs:List Arg} {ids:List (Nat×AB)} {i a b:Nat},Ar xs ids i a->Ar xs ids i b->a=b
 | [],_,_,_,_,h,_=>h.elim
 | x::xs,ids,i,a,b,h,k=>by
  unfold Ar at h k;split at h
  ·rename_i z;simp only[z]at k;cases i with
   | zero=>exact h.elim
   | succ i=>exact Ar.uniq h k
  rename_i z;simp only[z]at k;cases ids with
  | nil=>exact h.elim
  | cons p ids=>
   cases i with
   | zero=>exact h.trans k.symm
   | succ i=>exact Ar.uniq (xs:=xs) (ids:=ids) h k
def OT(S:Nat->Prop)(w:World)(P:Program)(args:List Arg)(fin:List Fin)(vs:List Value)(i:Nat)(v:Value)(gW new:AB):Prop:=
 new=.none\/(((∃e es de,gW=.row e es/\new=.row e de/\aG P w (aO S w) e de v)\/∃mk es de,gW=.map mk es/\new=.map mk de/\Cd S w mk de v)\/(∃(cs:List AV) (xs:List PV) (g:Nat) (ty:TypeId) (c:Array Value),gW=.box cs/\new=.box (xs.map .p)/\v=.pointer (some ⟨g,0,none⟩)/\w.heap[g]?=some (.cells c ty (0,0))/\c.size=xs.length/\∀(j:Nat) x u,xs[j]?=some x->c[j]?=some u->u.oneCell'=true/\aO S w x u)\/
  (∃(cs mZ:List HC) (g:Nat) (ty:TypeId) (c:Array Value),gW=.aN cs/\new=.aN mZ/\v=.pointer (some ⟨g,0,none⟩)/\Jp S w P mZ g ty c))/\
  (∀g,hasB w new v g->¬S g/\du w args fin vs i g)
theorem OT.lift{S:Nat->Prop}{P:Program}{xs:List Arg}{fin:List Fin}{i:Nat}{v:Value}{z new:AB}{D:List Arg}{I:List Fin}{J:List Value}{N:Nat}(h:∀g,du w xs fin vs i g->du w D I J N g)(hb:OT S w P xs fin vs i v z new):OT S w P D I J N v z new:=
 hb.imp id fun hb=>⟨hb.1,fun g O=>⟨(hb.2 g O).1,h g (hb.2 g O).2⟩⟩
theorem me{S:Nat->Prop}{P:Program}{h:Nat->AB}{xs:List Arg}{ids:List (Nat×AB)}(H:fL L rho h xs vs ids):
  ∀(fin:List Fin) fe,eL S w P xs fin vs->aeQ ids fin=some fe->fe.map (·.1)=ids.map (·.1)/\∀id new,(id,new)∈fe->∃I i,(id,I)∈ids/\Ar xs ids i id/\OT S w P xs fin vs i (rho id) I new:=by
 induction H with
 | nil=>
  intro fin fe fO z;cases fin with
  | nil=>simp[aeQ]at z;subst z;exact⟨rfl,by simp⟩
  | cons f fin=>simp[aeQ]at z
 | pv x v hr ih=>
  intro fin fe fO z;obtain⟨J,N⟩:=ih fin fe fO z;refine⟨J,fun id new O=>?_⟩;obtain⟨I,i,R,U,W⟩:=N id new O;exact⟨I,i+1,R,U,W.lift fun g h=>h⟩
 | @row i e es xs vs ids hL hid hr ih=>
  intro fin fe fO z;cases fin with
  | nil=>exact fO.elim
  | cons f fin=>
   obtain⟨D,qi⟩:=(show oH S w P (.row e es) f (rho i)/\eL S w P xs fin vs from fO);cases f with
   | gone=>
    simp only[aeQ]at z;obtain⟨Z,h1,rfl⟩:=acq.1 z;obtain⟨J,N⟩:=ih fin Z qi h1;refine⟨by simp[J],fun id new O=>?_⟩;rcases adq.1 O with e' | e'
    ·injection e' with e1 e2;subst e1 e2;exact⟨.row e es,0,by simp,rfl,.inl rfl⟩
    obtain⟨I,k,R,U,W⟩:=N id new e';exact⟨I,k+1,by simp[R],U,W.lift fun g h=>h⟩
   | row de=>
    simp only[aeQ]at z;obtain⟨Z,h1,rfl⟩:=acq.1 z;obtain⟨J,N⟩:=ih fin Z qi h1;refine⟨by simp[J],fun id new O=>?_⟩;rcases adq.1 O with e' | e'
    ·injection e' with e1 e2;subst e1 e2;exact⟨_,0,by simp,rfl,.inr ⟨.inl (.inl ⟨e,es,de,rfl,rfl,D.1⟩),fun g Y=>⟨D.2 g (aI rfl Y),rfl,.inl (aI rfl Y)⟩⟩⟩
    obtain⟨I,k,R,U,W⟩:=N id new e';exact⟨I,k+1,by simp[R],U,W.lift fun g h=>h⟩
   | map de=>exact D.elim
   | box cs=>exact D.elim
   | aN cs=>exact D.elim
 | @map i mk es xs vs ids hL hid hr ih=>
  intro fin fe fO z;cases fin with
  | nil=>exact fO.elim
  | cons f fin=>
   obtain⟨D,qi⟩:=(show oH S w P (.map mk es) f (rho i)/\eL S w P xs fin vs from fO);cases f with
   | gone=>
    simp only[aeQ]at z;obtain⟨Z,h1,rfl⟩:=acq.1 z;obtain⟨J,N⟩:=ih fin Z qi h1;refine⟨by simp[J],fun id new O=>?_⟩;rcases adq.1 O with e' | e'
    ·injection e' with e1 e2;subst e1 e2;exact⟨.map mk es,0,by simp,rfl,.inl rfl⟩
    obtain⟨I,k,R,U,W⟩:=N id new e';exact⟨I,k+1,by simp[R],U,W.lift fun g h=>h⟩
   | map de=>
    simp only[aeQ]at z;obtain⟨Z,h1,rfl⟩:=acq.1 z;obtain⟨J,N⟩:=ih fin Z qi h1;refine⟨by simp[J],fun id new O=>?_⟩;rcases adq.1 O with e' | e'
    ·injection e' with e1 e2;subst e1 e2;exact⟨_,0,by simp,rfl,.inr ⟨.inl (.inr ⟨mk,es,de,rfl,rfl,D.1⟩),fun g Y=>⟨D.2 g (aI rfl Y),rfl,.inl (aI rfl Y)⟩⟩⟩
    obtain⟨I,k,R,U,W⟩:=N id new e';exact⟨I,k+1,by simp[R],U,W.lift fun g h=>h⟩
   | row de=>exact D.elim
   | box cs=>exact D.elim
   | aN cs=>exact D.elim
 | @box i cs ys xs vs ids hL hid hy hr ih=>
  intro fin fe fO z;cases fin with
  | nil=>exact fO.elim
  | cons f fin=>
   obtain⟨D,qi⟩:=(show oH S w P (.box ys) f (rho i)/\eL S w P xs fin vs from fO);cases f with
   | gone=>
    simp only[aeQ]at z;obtain⟨Z,h1,rfl⟩:=acq.1 z;obtain⟨J,N⟩:=ih fin Z qi h1;refine⟨by simp[J],fun id new O=>?_⟩;rcases adq.1 O with e' | e'
    ·injection e' with e1 e2;subst e1 e2;exact⟨.box cs,0,by simp,rfl,.inl rfl⟩
    obtain⟨I,k,R,U,W⟩:=N id new e';exact⟨I,k+1,by simp[R],U,W.lift fun g h=>h⟩
   | row es=>exact D.elim
   | map es=>exact D.elim
   | aN es=>exact D.elim
   | box rN=>
    simp only[aeQ]at z;obtain⟨Z,h1,rfl⟩:=acq.1 z;obtain⟨J,N⟩:=ih fin Z qi h1;refine⟨by simp[J],fun id new O=>?_⟩;rcases adq.1 O with e' | e'
    ·injection e' with e1 e2;subst e1 e2;obtain⟨g,ty,c,m1,m2,m3,m4,m5⟩:=D;refine⟨_,0,by simp,rfl,.inr ⟨.inr (.inl ⟨cs,rN,g,ty,c,rfl,rfl,m1,m2,m3,m5⟩),fun g' Y=>?_⟩⟩;have Y:=aI rfl Y;refine⟨?_,rfl,.inl Y⟩;rw[m1]at Y;injection Y with Y;exact Y▸m4
    obtain⟨I,k,R,U,W⟩:=N id new e';exact⟨I,k+1,by simp[R],U,W.lift fun g h=>h⟩
 | @aN i cs xs vs ids hL hid hr ih=>
  intro fin fe fO z;cases fin with
  | nil=>exact fO.elim
  | cons f fin=>
   obtain⟨D,qi⟩:=(show oH S w P (.aN cs) f (rho i)/\eL S w P xs fin vs from fO);cases f with
   | gone=>
    simp only[aeQ]at z;obtain⟨Z,h1,rfl⟩:=acq.1 z;obtain⟨J,N⟩:=ih fin Z qi h1;refine⟨by simp[J],fun id new O=>?_⟩;rcases adq.1 O with e' | e'
    ·injection e' with e1 e2;subst e1 e2;exact⟨.aN cs,0,by simp,rfl,.inl rfl⟩
    obtain⟨I,k,R,U,W⟩:=N id new e';exact⟨I,k+1,by simp[R],U,W.lift fun g h=>h⟩
   | row es=>exact D.elim
   | map es=>exact D.elim
   | box es=>exact D.elim
   | aN mZ=>
    simp only[aeQ]at z;obtain⟨Z,h1,rfl⟩:=acq.1 z;obtain⟨J,N⟩:=ih fin Z qi h1;refine⟨by simp[J],fun id new O=>?_⟩;rcases adq.1 O with e' | e'
    ·injection e' with e1 e2;subst e1 e2;obtain⟨g,ty,c,m1,m2,m3⟩:=D;exact⟨_,0,by simp,rfl,.inr ⟨.inr (.inr ⟨cs,mZ,g,ty,c,rfl,rfl,m1,m2⟩),fun g' Y=>⟨m3 g' Y,rfl,Y⟩⟩⟩
    obtain⟨I,k,R,U,W⟩:=N id new e';exact⟨I,k+1,by simp[R],U,W.lift fun g h=>h⟩
theorem aeF(fe:List (Nat×AB))(h:Nat->AB)(id:Nat):(∃b,(id,b)∈fe/\app h fe id=b)\/((∀p∈fe,p.1≠id)/\app h fe id=h id):=by
 induction fe generalizing h with
 | nil=>exact .inr ⟨by simp,rfl⟩
 | cons x fe ih=>
  rcases ih (aT h x.1 x.2) with⟨b,D,z⟩ | ⟨D,z⟩
  ·exact .inl ⟨b,by simp[D],z⟩
  by_cases e:x.1=id
  ·refine .inl ⟨x.2,by rw[<-e];simp,?_⟩;show app (aT h x.1 x.2) fe id=x.2;rw[z,e,aH]
  refine .inr ⟨fun p hp=>?_,?_⟩
  ·rcases adq.1 hp with h | h
   ·rw[h];exact e
   exact D p h
  show app (aT h x.1 x.2) fe id=h id;rw[z,aV _ _ (fun e'=>e e'.symm)]
theorem tz{b:AB}{v:Value}{g:Nat}{x:Arg}(h:((∃e es,x=.row e es/\b=.row e es)\/∃mk es,x=.map mk es/\b=.map mk es)\/(∃cs ys,x=.box ys/\b=.box cs/\dY cs=some ys)\/∃cs,x=.aN cs/\b=.aN cs):hasB w (Ce x) v g↔hasB w b v g:=by
 rcases h with (⟨e,es,rfl,rfl⟩ | ⟨mk,es,rfl,rfl⟩) | ⟨cs,ys,rfl,rfl,_⟩ | ⟨cs,rfl,rfl⟩
 ·exact⟨fun h=>.inl (aI rfl h),fun h=>.inl (aI rfl h)⟩
 ·exact⟨fun h=>.inl (aI rfl h),fun h=>.inl (aI rfl h)⟩
 ·exact⟨fun h=>.inl (aI rfl h),fun h=>.inl (aI rfl h)⟩
 exact aaT
theorem fL.form{h:Nat->AB}{xs:List Arg}{ids:List (Nat×AB)}(H:fL L rho h xs vs ids):∀id b,(id,b)∈ids->∃(j:Nat) (x:Arg),xs[j]?=some x/\vs[j]?=some (rho id)/\x.handed=true/\(((∃e es,x=.row e es/\b=.row e es)\/∃mk es,x=.map mk es/\b=.map mk es)\/(∃cs ys,x=.box ys/\b=.box cs/\dY cs=some ys)\/∃cs,x=.aN cs/\b=.aN cs):=by
 induction H with
 | nil=>intro id b h;cases h
 | pv y u hr ih=>intro id b h;obtain⟨j,x,z⟩:=ih id b h;exact⟨j+1,x,by simpa using z⟩
 | row i e es D hid hr ih=>
  intro id b h;rcases adq.1 h with h | h
  ·injection h with h1 h2;subst h1 h2;exact⟨0,_,rfl,rfl,rfl,.inl (.inl ⟨e,es,rfl,rfl⟩)⟩
  obtain⟨j,x,z⟩:=ih id b h;exact⟨j+1,x,by simpa using z⟩
 | map i mk es D hid hr ih=>
  intro id b h;rcases adq.1 h with h | h
  ·injection h with h1 h2;subst h1 h2;exact⟨0,_,rfl,rfl,rfl,.inl (.inr ⟨mk,es,rfl,rfl⟩)⟩
  obtain⟨j,x,z⟩:=ih id b h;exact⟨j+1,x,by simpa using z⟩
 | box i cs ys D hid hy hr ih=>
  intro id b h;rcases adq.1 h with h | h
  ·injection h with h1 h2;subst h1 h2;exact⟨0,_,rfl,rfl,rfl,.inr (.inl ⟨cs,ys,rfl,rfl,hy⟩)⟩
  obtain⟨j,x,z⟩:=ih id b h;exact⟨j+1,x,by simpa using z⟩
 | aN i cs D hid hr ih=>
  intro id b h;rcases adq.1 h with h | h
  ·injection h with h1 h2;subst h1 h2;exact⟨0,_,rfl,rfl,rfl,.inr (.inr ⟨cs,rfl,rfl⟩)⟩
  obtain⟨j,x,z⟩:=ih id b h;exact⟨j+1,x,by simpa using z⟩
theorem fL.mv{h:Nat->AB}{xs:List Arg}{vs:Array Value}{ids:List (Nat×AB)}(H:fL L rho h xs vs.toList ids)(g:Nat):Mv w xs vs g↔∃id b,(id,b)∈ids/\hasB w b (rho id) g:=by
 constructor
 ·rintro⟨j,x,v,z,D,I,J⟩;obtain⟨id,b,N,_,_,O,R⟩:=H.at j x v z (by simpa using D) I;exact⟨id,b,N,by rw[<-O];exact (tz R).1 J⟩
 rintro⟨id,b,z,D⟩;obtain⟨j,x,I,J,N,O⟩:=H.form id b z;exact⟨j,x,_,I,by simpa using J,N,(tz O).2 D⟩
theorem b7.handed{S2:Nat->Prop}{t:Nat->AV}{a:Act}{w':World}{h D:Nat->AB}(hC:bI A.C)(I:b7 A V L S2 rho ⟨t,D⟩ a w){xs:List Arg}{vs:Array Value}{ids fe:List (Nat×AB)}{fin:List Fin}(H:fL L rho h xs vs.toList ids)(hh:∀id b,(id,b)∈ids->D id=h id)
  (hf:Fr (Mv w xs vs) w w') (hS:∀b,S2 b->S' b) (xl:∀b,S' b->b<w'.heap.size) (RN:∀b,S' b->S2 b\/w.heap.size<=b\/Mv w xs vs b) (fO:eL S' w' A.C.P xs fin vs.toList) (hok:ta w w' xs fin vs) (qh:aeQ ids fin=some fe):
  b7 A V L S' rho ⟨t,app D fe⟩ a w':=by
 obtain⟨hk,hb⟩:=me H fin fe fO qh;have LZ:∀id,(∃b,(id,b)∈ids)↔∃b,(id,b)∈fe:=by
  intro id;have:id∈ids.map (·.1)↔id∈fe.map (·.1):=by rw[hk]
  simpa using this
 have own:∀id b,(id,b)∈ids->L id/\(D id).live/\D id=b:=fun id b hm=>by
  obtain⟨R,N,h4,_⟩:=H.back id b hm;have:=hh id b hm;exact⟨R,by rw[this,N];exact h4,by rw[this,N]⟩
 have V5:∀g,Mv w xs vs g->¬S2 g/\(A.mv g\/A.w0.heap.size<=g):=fun g U=>by
  obtain⟨id,b,R,N⟩:=H.mv g |>.1 U;obtain⟨h4,J,h6⟩:=own id b R;exact (I.lv id g h4 J (by show hasB w (D id) _ _;rw[h6];exact N)).2
 have ae1:∀b,S2 b->w'.heap[b]?=w.heap[b]?:=fun k hk=>hf.block k (I.st k hk) fun hm=>(V5 k hm).1 hk;have T:lB S2 S' w w' L L rho rho D (app D fe):=by
  refine⟨hS,ae1,fun id ht=>⟨?_,fun hl=>⟨hl,rfl⟩⟩,fun id e W=>?_⟩
  ·rcases aeF fe D id with⟨b,R,N⟩ | ⟨_,N⟩
   ·obtain⟨b',hb'⟩:=(LZ id).2 ⟨b,R⟩;obtain⟨_,h4,_⟩:=own id b' hb';cases hx:D id<;>rw[hx]at h4<;>first | trivial | exact h4.elim
   rw[N]at ht;exact ht
  rcases aeF fe D id with⟨b,R,N⟩ | ⟨_,N⟩
  ·rw[N]at W;obtain⟨gW,i,h4,_,J⟩:=hb id b R;obtain⟨_,_,h6⟩:=own id gW h4;rcases J with J | ⟨J | J | J,_⟩
   ·rw[J]at W;cases W
   ·rcases J with J | J
    ·obtain⟨e',V6,nH,h7,Y,_⟩:=J;rw[Y]at W;injection W with W;rw[h6,h7,W];rfl
    obtain⟨mk,V6,nH,h7,Y,_⟩:=J;rw[Y]at W;cases W
   ·obtain⟨cs,ys,g,ty,c,h7,Y,_⟩:=J;rw[Y]at W;cases W
   obtain⟨cs,ys,g,ty,c,h7,Y,_⟩:=J;rw[Y]at W;cases W
  rw[N]at W;exact W
 have fw:∀id,(app D fe id).live->(D id).live:=by
  intro id hl;rcases aeF fe D id with⟨b,R,N⟩ | ⟨_,N⟩
  ·obtain⟨b',hb'⟩:=(LZ id).2 ⟨b,R⟩;exact (own id b' hb').2.1
  rw[N]at hl;exact hl
 have same:∀id g,L id->(D id).live->(∀p∈fe,p.1≠id)->hasB w (D id) (rho id) g->¬Mv w xs vs g:=fun id g hl O R U hm=>by
  obtain⟨Ah,b',h4,J⟩:=H.mv g |>.1 hm;obtain⟨h6,h7,Y⟩:=own Ah b' h4;have:=I.dj id Ah g hl h6 O h7 U (by show hasB w (D Ah) _ _;rw[Y];exact J);subst this;obtain⟨b2,oE⟩:=(LZ id).1 ⟨b',h4⟩;exact R _ oE rfl
 have old:∀id g,L id->(D id).live->(∀p∈fe,p.1≠id)->hasB w' (D id) (rho id) g->hasB w (D id) (rho id) g:=fun id g hl O R U=>
  dA (fun k hk=>hf.block k (I.pM id k hl O hk).1 (same id k hl O R (.inl hk))) U
 have back:∀id b,(id,b)∈fe->(app D fe id).live->app D fe id=b->∃i,Ar xs ids i id/\∀g,hasB w' b (rho id) g->¬S' g/\du w' xs fin vs.toList i g:=fun id b hm hl W=>by
  obtain⟨gW,i,_,we,N⟩:=hb id b hm;rcases N with N | ⟨_,N⟩
  ·rw[W,N]at hl;exact hl.elim
  exact⟨i,we,N⟩
 exact
 {tm:=fun j hj=>(I.tm j hj).cK T
  sz:=I.sz,df:=I.df,nb:=I.nb,pn:=I.pn
  ev:=hC.env _ _ _ _ I.ev hS ae1 hf.size
  s0:=fun b hb=>hS b (I.s0 b hb)
  st:=xl
  sb:=fun b hb=>by
   rcases RN b hb with h | h | h
   ·exact I.sb b h
   ·exact .inr (.inr (aaF I.fr.size h))
   exact .inr (V5 b h).2
  hp:=fun id hl=>by
   show eK _ _ _ _ _ _ _ (app D fe id);rcases aeF fe D id with⟨b,R,N⟩ | ⟨R,N⟩
   ·rw[N];obtain⟨gW,i,h4,_,J⟩:=hb id b R;rcases J with J | ⟨J | J | J,_⟩
    ·rw[J];trivial
    ·rcases J with J | J
     ·obtain⟨e',V6,nH,h7,Y,h9⟩:=J;rw[Y];exact h9
     obtain⟨mk,V6,nH,h7,Y,h9⟩:=J;rw[Y];exact h9
    ·obtain⟨cs,ys,g,ty,c,h7,Y,h9,T8,h11,YV⟩:=J;rw[Y];refine⟨g,ty,c,h9,T8,by simpa using h11,fun j x u hj hu=>?_⟩;rw[aak]at hj;obtain⟨z,hz,rfl⟩:=acq.1 hj;exact⟨(YV j z u hz hu).1,.p _ _ (YV j z u hz hu).2⟩
    obtain⟨cs,mZ,g,ty,c,h7,Y,h9,T8⟩:=J;rw[Y];exact⟨g,ty,c,h9,T8⟩
   rw[N];exact (I.hp id hl).cK T (fun O g U=>hf.block g (I.lv id g hl O U).1 (same id g hl O R U)) (fun _=>rfl)
  dj:=fun i j g hi hj O lj eM Z=>by
   have one:∀i j,L i->L j->(app D fe i).live->(app D fe j).live->hasB w' (app D fe i) (rho i) g->hasB w' (app D fe j) (rho j) g->(∃b,(i,b)∈fe/\app D fe i=b)->((∀p∈fe,p.1≠j)/\app D fe j=D j)->False:=by
    rintro i j hi hj O lj eM Z ⟨b,m1,m2⟩ ⟨n1,n2⟩;rw[n2]at Z lj;have Z:=old j g hj lj n1 Z;obtain⟨k,_,l_⟩:=back i b m1 O m2;rw[m2]at eM;rcases (hok.1 k g (l_ g eM).2).2 with h | h
    ·have:=(I.lv j g hj lj Z).1;exact absurd this (by omega)
    exact same j g hj lj n1 Z h
   rcases aeF fe D i with ci | ci
   ·rcases aeF fe D j with cj | cj
    ·obtain⟨b,m1,m2⟩:=ci;obtain⟨c,n1,n2⟩:=cj;obtain⟨k1,p1,q1⟩:=back i b m1 O m2;obtain⟨k2,p2,q2⟩:=back j c n1 lj n2;have eM:hasB w' (app D fe i) (rho i) g:=eM;have Z:hasB w' (app D fe j) (rho j) g:=Z;rw[m2]at eM;rw[n2]at Z;have:=hok.2 k1 k2 g (q1 g eM).2 (q2 g Z).2;subst this;exact p1.uniq p2
    exact (one i j hi hj O lj eM Z ci cj).elim
   rcases aeF fe D j with cj | cj
   ·exact (one j i hj hi lj O Z eM cj ci).elim
   have eM:hasB w' (app D fe i) (rho i) g:=eM;have Z:hasB w' (app D fe j) (rho j) g:=Z;have O:(app D fe i).live:=O;have lj:(app D fe j).live:=lj;rw[ci.2]at eM O;rw[cj.2]at Z lj;exact I.dj i j g hi hj O lj (old i g hi O ci.1 eM) (old j g hj lj cj.1 Z)
  lv:=fun id g hl O U=>by
   have U:hasB w' (app D fe id) (rho id) g:=U;have O:(app D fe id).live:=O;rcases aeF fe D id with⟨b,R,N⟩ | ⟨R,N⟩
   ·obtain⟨k,_,q⟩:=back id b R O N;rw[N]at U;obtain⟨q1,q2⟩:=q g U;obtain⟨r1,r2⟩:=hok.1 k g q2;refine⟨r1,q1,?_⟩;rcases r2 with h | h
    ·exact .inr (aaF I.fr.size h)
    exact (V5 g h).2
   rw[N]at U O;have U:=old id g hl O R U;obtain⟨h4,J,h6⟩:=I.lv id g hl O U;refine⟨aaW h4 hf.size,fun hs=>?_,h6⟩;rcases RN g hs with h | h | h
   ·exact J h
   ·omega
   exact same id g hl O R U h
  fr:=I.fr.next hf.os hf.tape hf.output hf.size fun k hk hn=>hf.block k (aaW hk I.fr.size) fun hm=>by
   rcases (V5 k hm).2 with h | h
   ·exact hn h
   omega }
variable {Q:Exit->Act->World->Prop}
theorem tA{P:Program}{o:Oper}{a:Act}{f:FuncId}{vs:Array Value}{next:Act->World->Prop}{R:Ending->World->Prop}(h:(execOp a.eval o).run P w=.ok (.enter f vs) w)(z:Calls P f vs w R)
  (D:∀e w',R e w'->∃v,e=.returned v/\next (a.put o.dst v) w'):o.wp P a w next Q:=by
 unfold Oper.wp;rw[h];refine z.mono fun e w' I=>?_;obtain⟨v,rfl,J⟩:=D e w' I;exact J
theorem Gn(hC:bI A.C){o:Oper}{S:Nat->Prop}{a:Act}{K:KK}{next:Act->World->Prop}(sim:b7 A V L S rho s a w)(hd:∀d,o.dst=some d->d<A.n)
  (hn:∀v eff b,K v eff (some b)->¬L (o.dst.getD 0)/\s.h (o.dst.getD 0)=b)
  (hnext:∀v eff new S' rho' a' w',K v eff new->b7 A (xY V o.dst) (Cg L new (o.dst.getD 0)) S' rho' ⟨fx s.t o.dst v,app s.h eff⟩ a' w'->next a' w')
  (f:FuncId) (iQ:List AV) (vs:Array Value) (hl:iQ.length=vs.size)
  (hrep:∀(S2:Nat->Prop) (h2:Nat->AB),b7 A V L S2 rho ⟨s.t,h2⟩ a w->∀(i:Nat) x v,iQ[i]?=some x->vs.toList[i]?=some v->aY S2 w A.C.P L rho h2 x v)
  (hrun : (∃ fn : Func, A.C.P.funcs[f]? = some fn ∧ (fn.name == "runtime.NumGoroutine") = false ∧ fn.body.isNone = false) → (execOp a.eval o).run A.C.P w = .ok (.enter f vs) w) (hq : oI A.C s.h (o.dst.getD 0) f iQ K) : o.wp A.C.P a w next Q := by
 unfold oI at hq;obtain⟨xs,ids,fz,S2,⟨r,fin,nZ,hq⟩,bu,xC,hF,DI,hlen,H,hpv⟩:=JL hC iQ vs.toList 0 s.h S _ (by simpa using hl) sim (pY.refl _) hrep (fun _ h=>h) hq;split at hq
 ·rename_i fe qh;split at hq
  ·rename_i hok;obtain⟨hnf,Oo⟩:=Gl hok;have hh:∀id b,(id,b)∈ids->(app s.h fz) id=s.h id:=fun id b hm=>l9 (hnf (id,b) hm);have own:∀id b,(id,b)∈ids->L id/\(app s.h fz id).live/\app s.h fz id=b:=fun id b hm=>by
    obtain⟨h1,h3,h4,_⟩:=H.back id b hm;have:=hh id b hm;exact⟨h1,by rw[this,h3];exact h4,by rw[this,h3]⟩
   have key:=nZ.2 S2 w vs bu.ev bu.st (by simpa using hlen) (fun j x v hj hv=>by
     have F9:vs.toList[j]?=some v:=by simpa using hv
     cases hx:x.handed with
     | false=>
      cases x with
      | pv y=>exact hpv j y v hj F9
      | row=>cases hx
      | map=>cases hx
      | box=>cases hx
      | aN=>cases hx
     | true=>
      obtain⟨id,b,h1,h2,h3,h4,h5⟩:=H.at j x v hj F9 hx;obtain⟨h6,h7,h8⟩:=own id b h1;have hp:=bu.hp id h6;have hp:eK S2 w A.C.P L rho (app s.h fz) id (app s.h fz id):=hp;rw[h8]at hp;rcases h5 with (⟨e,es,rfl,rfl⟩ | ⟨mk,es,rfl,rfl⟩) | ⟨cs,ys,rfl,rfl,hy⟩ | ⟨cs,rfl,rfl⟩
      ·rw[h4];exact⟨hp,fun g hg=>(bu.pM id g h6 h7 hg).2.1⟩
      ·rw[h4];exact⟨hp,fun g hg=>(bu.pM id g h6 h7 hg).2.1⟩
      ·obtain⟨g,ty,c,k1,k2,k3,k4⟩:=hp;obtain⟨k5,k6⟩:=gV hy;rw[h4];refine⟨g,ty,c,k1,k2,by rw[k3,k5],(bu.pM id g h6 h7 (by rw[k1];rfl)).2.1,fun i x u hi hu=>?_⟩;obtain⟨y,hy⟩:∃y,cs[i]?=some y:=⟨_,acg (by rw[k5];exact aD hi)⟩;obtain⟨k7,k8⟩:=k4 i y u hy hu;exact⟨k7,k8.xz (k6 i y x hy hi)⟩
      obtain⟨g,ty,c,k1,k2⟩:=hp;rw[h4];exact⟨g,ty,c,k1,k2,fun k hk=>by obtain⟨q1,q2,_⟩:=bu.lv id k h6 h7 (by show hasB w (app s.h fz id) _ _;rw[h8];exact hk);exact⟨q2,q1⟩⟩)
    (fun i j x y v u g hi hj hv hu hx hy hg nS=>by
     by_cases DX:i=j
     ·exact DX
     obtain⟨Gk,sB,b1,b2,k1,k2,k3,k4,k5,f1,f2⟩:=H.inj Oo i j x y v u hi hj (by simpa using hv) (by simpa using hu) hx hy DX;obtain⟨l1,v1,o1⟩:=own Gk b1 k2;obtain⟨l2,v2,o2⟩:=own sB b2 k3;exact absurd (bu.dj Gk sB g l1 l2 v1 v2 (by show hasB w (app s.h fz Gk) _ _;rw[<-k4,o1];exact (tz f1).1 hg) (by show hasB w (app s.h fz sB) _ _;rw[<-k5,o2];exact (tz f2).1 nS)) k1)
   refine tA (hrun nZ.1) key fun e w' tB=>?_;obtain⟨v,S',rfl,hf,W3,xl,RN,hr,fO,OU,hown⟩:=tB;refine⟨v,rfl,?_⟩;split at hq
   ·rename_i nh;simp only[aaZ]at nh;have W4:ids=[]:=by cases ids with | nil=>rfl | cons p ids=>cases nh.2
    subst W4;have W5:Fr (fun _=>False) w w':=⟨hf.os,hf.tape,hf.output,hf.size,fun k hk _=>hf.block k hk fun hm=>by
     obtain⟨id,b,h1,_⟩:=(H.mv k).1 hm;cases h1⟩
    have aeI:=sim.grow hC w' W5;refine hnext _ _ _ S rho _ _ hq (aeI.value o.dst hd _ _ ?_);cases r with
    | p x=>exact .p _ _ (nY nh.1 hr)
    | own e es=>cases nh.1
    | hown cs=>cases nh.1
    | tu ys=>
     obtain⟨us,rfl,h1,h2⟩:=hr;refine .tu _ us (by simpa using h1) fun i c u hi hu=>?_;rw[aak]at hi;obtain⟨z,hz,rfl⟩:=acq.1 hi;exact .p _ _ (nY (abh.1 nh.1 z (aad hz)) (h2 i z u hz hu))
   have aeI:=b7.handed hC bu H hh hf W3 xl RN fO OU qh;have aeI:b7 A V L S' rho ⟨s.t,app s.h (fz++fe)⟩ a w':=by rw[cy];exact aeI
   cases r with
   | p x=>exact hnext _ _ _ S' rho _ _ hq (aeI.value o.dst hd _ _ (.p _ _ hr))
   | tu ys=>
    refine hnext _ _ _ S' rho _ _ hq (aeI.value o.dst hd _ _ ?_);obtain⟨us,rfl,h1,h2⟩:=hr;refine .tu _ us (by simpa using h1) fun i c u hi hu=>?_;rw[aak]at hi;obtain⟨z,hz,rfl⟩:=acq.1 hi;exact .p _ _ (h2 i z u hz hu)
   | own e es=>
    obtain⟨hL,hb⟩:=hn _ _ _ hq;have RL:app s.h (fz++fe) (o.dst.getD 0)=.row e es:=by
     rw[iA (fun p hp (e:p.1=_)=>?_),hb];rcases abi.1 hp with h | h
     ·exact hL (by rw[<-e];exact DI p h)
     obtain⟨hk,_⟩:=me H fin fe fO qh;have:p.1∈ids.map (·.1):=by rw[<-hk];exact adS.2 ⟨p,h,rfl⟩
     obtain⟨q,hq',W6⟩:=adS.1 this;obtain⟨W7,_⟩:=own q.1 q.2 hq';exact hL (by rw[<-e,<-W6];exact W7)
    have As:=aeI.qd hC (o.dst.getD 0) (AB.row e es) (aeI.pP hd) hL RL w' rfl rfl rfl (aam _) (fun k=>hasB w' (AB.row e es) v k) (fun _ _ _=>rfl) (fun k hk=>by
      have Im:=aI rfl hk;obtain⟨h1,h2,h3⟩:=hown k rfl (.inl Im);refine⟨hr.2 k Im,fun i hi li eM=>?_,?_⟩
      ·have nT:(app s.h (fz++fe) i).live:=li;rw[cy]at nT;have eM:hasB w' (app s.h (fz++fe) i) (rho i) k:=eM;rw[cy]at eM;rcases aeF fe (app s.h fz) i with⟨b,m1,m2⟩ | ⟨m1,m2⟩
       ·obtain⟨l_,oE⟩:=me H fin fe fO qh;obtain⟨gW,n,m3,_,m4⟩:=oE i b m1;rcases m4 with m4 | ⟨_,m4⟩
        ·rw[m2,m4]at nT;exact nT
        rw[m2]at eM;exact h3 n (m4 k eM).2
       rw[m2]at nT eM;have T9:∀g,hasB w (app s.h fz i) (rho i) g->¬Mv w xs vs g:=fun g hg hm=>by
        obtain⟨Ah,b',m3,m4⟩:=(H.mv g).1 hm;obtain⟨m5,m6,m7⟩:=own Ah b' m3;have:=bu.dj i Ah g hi m5 nT m6 hg (by show hasB w (app s.h fz Ah) _ _;rw[m7];exact m4);subst this;obtain⟨l_,_⟩:=me H fin fe fO qh;have:i∈fe.map (·.1):=by rw[l_];exact adS.2 ⟨_,m3,rfl⟩
        obtain⟨p,hp,W8⟩:=adS.1 this;exact m1 p hp W8
       have eM:=dA (fun g hg=>hf.block g (bu.pM i g hi nT hg).1 (T9 g (.inl hg))) eM;obtain⟨q1,q2,q3⟩:=bu.lv i k hi nT eM;rcases h2 with h2 | h2
       ·omega
       exact T9 k eM h2
      ·rcases h2 with h2 | h2
       ·exact .inr (aaF bu.fr.size h2)
       obtain⟨Ah,b',m3,m4⟩:=(H.mv k).1 h2;obtain⟨m5,m6,m7⟩:=own Ah b' m3;exact (bu.lv Ah k m5 m6 (by show hasB w (app s.h fz Ah) _ _;rw[m7];exact m4)).2.2) v (fun g hg=>⟨(hown g rfl (.inl (aI rfl hg))).1,.inr hg⟩) (fun T=>by
      show aG _ _ _ e es (aT rho (o.dst.getD 0) v (o.dst.getD 0));rw[aH];exact hr.1)
    exact hnext _ _ _ S' _ _ _ hq (As.value o.dst hd _ _ (.ow _ _ fun _=>⟨.inr rfl,(aH _ _ _).symm⟩))
   | hown cs=>
    obtain⟨hL,hb⟩:=hn _ _ _ hq;obtain⟨g0,ty0,c0,Qy,RO,iO⟩:=hr;have RL:app s.h (fz++fe) (o.dst.getD 0)=.aN cs:=by
     rw[iA (fun p hp (e:p.1=_)=>?_),hb];rcases abi.1 hp with h | h
     ·exact hL (by rw[<-e];exact DI p h)
     obtain⟨hk,_⟩:=me H fin fe fO qh;have:p.1∈ids.map (·.1):=by rw[<-hk];exact adS.2 ⟨p,h,rfl⟩
     obtain⟨q,hq',W6⟩:=adS.1 this;obtain⟨W7,_⟩:=own q.1 q.2 hq';exact hL (by rw[<-e,<-W6];exact W7)
    have As:=aeI.qd hC (o.dst.getD 0) (AB.aN cs) (aeI.pP hd) hL RL w' rfl rfl rfl (aam _) (fun k=>hasB w' (AB.aN cs) v k) (fun _ _ _=>rfl) (fun k hk=>by
      obtain⟨h1,h2,h3⟩:=hown k rfl hk;refine⟨iO k hk,fun i hi li eM=>?_,?_⟩
      ·have nT:(app s.h (fz++fe) i).live:=li;rw[cy]at nT;have eM:hasB w' (app s.h (fz++fe) i) (rho i) k:=eM;rw[cy]at eM;rcases aeF fe (app s.h fz) i with⟨b,m1,m2⟩ | ⟨m1,m2⟩
       ·obtain⟨l_,oE⟩:=me H fin fe fO qh;obtain⟨gW,n,m3,_,m4⟩:=oE i b m1;rcases m4 with m4 | ⟨_,m4⟩
        ·rw[m2,m4]at nT;exact nT
        rw[m2]at eM;exact h3 n (m4 k eM).2
       rw[m2]at nT eM;have T9:∀g,hasB w (app s.h fz i) (rho i) g->¬Mv w xs vs g:=fun g hg hm=>by
        obtain⟨Ah,b',m3,m4⟩:=(H.mv g).1 hm;obtain⟨m5,m6,m7⟩:=own Ah b' m3;have:=bu.dj i Ah g hi m5 nT m6 hg (by show hasB w (app s.h fz Ah) _ _;rw[m7];exact m4);subst this;obtain⟨l_,_⟩:=me H fin fe fO qh;have:i∈fe.map (·.1):=by rw[l_];exact adS.2 ⟨_,m3,rfl⟩
        obtain⟨p,hp,W8⟩:=adS.1 this;exact m1 p hp W8
       have eM:=dA (fun g hg=>hf.block g (bu.pM i g hi nT hg).1 (T9 g (.inl hg))) eM;obtain⟨q1,q2,q3⟩:=bu.lv i k hi nT eM;rcases h2 with h2 | h2
       ·omega
       exact T9 k eM h2
      ·rcases h2 with h2 | h2
       ·exact .inr (aaF bu.fr.size h2)
       obtain⟨Ah,b',m3,m4⟩:=(H.mv k).1 h2;obtain⟨m5,m6,m7⟩:=own Ah b' m3;exact (bu.lv Ah k m5 m6 (by show hasB w (app s.h fz Ah) _ _;rw[m7];exact m4)).2.2) v (fun g hg=>⟨(hown g rfl hg).1,.inr hg⟩) (fun T=>by
      exact⟨g0,ty0,c0,by rw[aH];exact Qy,RO⟩)
    exact hnext _ _ _ S' _ _ _ hq (As.value o.dst hd _ _ (.bx _ _ _ fun _=>⟨.inr rfl,g0,by rw[aH];exact Qy,Qy⟩))
  exact hq.elim
 exact hq.elim
theorem nU.rep(hC:bI A.C){S:Nat->Prop}{a:Act}(N:b7 A V L S rho s a w){x:AV}{y:PV}{v:Value}(hv:nU s.h x y)(D:aY S w A.C.P L rho s.h x v):
  aO (fun b=>S b\/∃id,L id/\(s.h id).live/\hasB w (s.h id) (rho id) b) w y v:=by
 have hS:∀b,S b->S b\/∃id,L id/\(s.h id).live/\hasB w (s.h id) (rho id) b:=fun b h=>.inl h;cases hv with
 | p=>exact D.eR.mono hS (fun _ _=>rfl)
 | nl=>cases D;exact .nil _ _
 | row id e es z=>
  obtain⟨I,rfl⟩:=D.cH (by rw[z];trivial);have J:=N.hp id I;rw[z]at J;exact aG.DT J hS fun g Y=>.inr ⟨id,I,by rw[z];trivial,.inl Y⟩
 | jA id es z=>
  obtain⟨I,rfl⟩:=D.cH (by rw[z];trivial);have J:=N.hp id I;rw[z]at J;exact aO.mono J hS (fun _ _=>rfl)
 | az id e es ps z hp=>
  obtain⟨I,rfl⟩:=D.cH (by rw[z];trivial);have J:=N.hp id I;rw[z]at J;obtain⟨hR,_⟩:=J;have bY:(s.h id).live:=by rw[z];trivial
  have Tt:aG A.C.P w (aO (fun b=>S b\/∃id,L id/\(s.h id).live/\hasB w (s.h id) (rho id) b) w) e ps (rho id):=by
   have Z:=hR;obtain⟨i,ws,h1,h2,h3,h4,h5,h6⟩:=Z;have old:∀{a:Nat} {q:List PV},ps[a]?=some q->∃r,es[a]?=some r:=fun {a q} U=>⟨_,acg (by rw[<-hp.len];exact aD U)⟩;refine⟨i,ws,h1,h2,by rw[hp.len];exact h3,fun q hq=>?_,h5,fun k q j y U hj=>?_⟩
   ·obtain⟨k,hk⟩:=ab8.1 hq;obtain⟨r,z⟩:=old hk;rw[(hp.row k r q z hk).1];exact h4 r (aad z)
   obtain⟨r,Tv⟩:=old U;obtain⟨hlen,O⟩:=hp.row k r q Tv U;obtain⟨x,D⟩:∃x,r[j]?=some x:=⟨_,acg (by rw[<-hlen];exact aD hj)⟩;obtain⟨u,hu,R⟩:=h6 k r j x Tv D;refine⟨u,hu,?_⟩;have:=O j x y D hj;cases this with
   | p x=>exact (aY.eR R).mono hS (fun _ _=>rfl)
   | nl=>
    have R:aY S w A.C.P L rho s.h .nl u:=R;cases R;exact .nil _ _
   | row e' xs=>
    have R:aG A.C.P w (aO S w) e' xs u:=R;refine aG.DT R hS fun b hb=>.inr ⟨id,I,bY,?_⟩;obtain⟨g,u2,g1,g2,_⟩:=hR.DO Tv D;have:u2=u:=by
     obtain⟨_,_,_,_,_,W⟩:=(q9 h3 h4 g1).1 g2;rw[hu]at W;injection W with W;exact W.symm
    subst this;rw[z];exact .inr (.inr ⟨_,_,_,_,_,_,rfl,g1,g2,hb⟩)
  exact aG.DT Tt (fun _ h=>h) fun g Y=>.inr ⟨id,I,bY,.inl Y⟩
theorem oJ.at{h:Nat->AB}{as:List AV}{xs:List PV}(I:oJ h as xs):as.length=xs.length/\∀(i:Nat) a x,as[i]?=some a->xs[i]?=some x->nU h a x:=by
 induction I with
 | nil=>exact⟨rfl,fun i a x h=>by simp at h⟩
 | cons h1 h2 ih=>
  refine⟨by simp[ih.1],fun i a x z D=>?_⟩;cases i with
  | zero=>simp at z D;subst z D;exact h1
  | succ i=>exact ih.2 i a x (by simpa using z) (by simpa using D)
theorem View.rep(hC:bI A.C){S:Nat->Prop}{a:Act}(z:b7 A V L S rho s a w){x:AV}{y:PV}{v:Value}(I:View s.h x y)(W:aY S w A.C.P L rho s.h x v):
  aO (fun b=>S b\/∃id,L id/\(s.h id).live/\hasB w (s.h id) (rho id) b) w y v:=by
 have hS:∀b,S b->S b\/∃id,L id/\(s.h id).live/\hasB w (s.h id) (rho id) b:=fun b h=>.inl h;cases I with
 | one h1=>exact h1.rep hC z W
 | box id off cs xs hb s9=>
  obtain⟨O,g,R,I⟩:=W.h_ (by rw[hb];trivial);have J:=z.hp id O;rw[hb]at J;obtain⟨g',ty,c,D,k2,k3,k4⟩:=J;rw[R]at D;injection D with D;injection D with D;injection D with D;subst D;obtain⟨hl,Jv⟩:=s9.at;have Z:∀(i:Nat) x,xs[i]?=some x->∃u,c[i]?=some u/\u.oneCell'=true/\aO (fun b=>S b\/∃id,L id/\(s.h id).live/\hasB w (s.h id) (rho id) b) w x u:=by
   intro i x hi;obtain⟨y,Y⟩:∃y,cs[i]?=some y:=⟨_,acg (by rw[hl];exact aD hi)⟩;obtain⟨u,hu⟩:=jG k3.symm (aD Y);obtain⟨N,U⟩:=k4 _ _ _ Y hu;exact⟨u,hu,N,(Jv i y x Y hi).rep hC z U⟩
  have:aO (fun b=>S b\/∃id,L id/\(s.h id).live/\hasB w (s.h id) (rho id) b) w (.ip xs) (.pointer (some ⟨g,0,none⟩)):=by
   refine .ip xs g 0 (fun i=>(c[i]?).getD undef) (.inr ⟨id,O,by rw[hb];trivial,.inl (by rw[R];rfl)⟩) (fun i x hi=>?_) fun i x hi=>?_
   ·obtain⟨u,N,U,h7⟩:=Z i x hi;rw[abC,cell_of_row w g i c ty (0,0) k2,N];exact⟨rfl,U⟩
   obtain⟨u,N,U,h7⟩:=Z i x hi;rw[N];exact h7
  rw[I];exact this.tw rfl
 | jd id off xs hb=>
  obtain⟨O,g,R,I⟩:=W.h_ (by rw[hb];trivial);have J:=z.hp id O;rw[hb]at J;have Rs:aO _ w (.ip xs) (rho id):=J;rw[I];exact (Rs.tw R).mono hS (fun _ _=>rfl)
theorem tb.at{h:Nat->AB}{as:List AV}{xs:List PV}(I:tb h as xs):as.length=xs.length/\∀(i:Nat) a x,as[i]?=some a->xs[i]?=some x->View h a x:=by
 induction I with
 | nil=>exact⟨rfl,fun i a x h=>by simp at h⟩
 | cons h1 h2 ih=>
  refine⟨by simp[ih.1],fun i a x z D=>?_⟩;cases i with
  | zero=>simp at z D;subst z D;exact h1
  | succ i=>exact ih.2 i a x (by simpa using z) (by simpa using D)
theorem DY{h:Nat->AB}{c:AV}(z:u7 h c=true):(∃es,c=.p (.sl es))\/(∃a m n,c=.p (.im (.slice a m n)))\/(∃i e es,c=.ow i/\h i=.row e es)\/c=.nl:=by
 unfold u7 at z;split at z
 ·exact .inl ⟨_,rfl⟩
 ·exact .inr (.inl ⟨_,_,_,rfl⟩)
 ·split at z
  ·rename_i D;exact .inr (.inr (.inl ⟨_,_,_,rfl,D⟩))
  cases z
 ·exact .inr (.inr (.inr rfl))
 cases z
def L0(a:AV)(u:Value):PV:=match a with
 | .p x=>x
 | _=>.im u
theorem yg{S:Nat->Prop}{g:Nat}{c:Array Value}{R:TypeId}(Y:w.heap[g]?=some (.cells c R (0,0)))(Z:∀(j:Nat) u,c[j]?=some u->∀k n,u≠.int k n)(hS:∀b,S b->S' b\/b=g){x:PV}{v:Value}(hi:Rj x)(h:aO S w x v):aO S' w x v:=by
 cases h with
 | im=>exact .im _
 | nil a c=>exact .nil a c
 | ag cs vs hl z h=>exact hi.elim
 | ip cs b off U hS hcell h=>exact hi.elim
 | fn f cap vs hl h=>exact hi.elim
 | sl es k b off cp U N hb hk hcell h=>
  have J:∀(i:Nat) e (j:Nat) x,es[i]?=some e->e[j]?=some x->∃I n,x=.im (.int I n):=fun i e j x z D=>by
   obtain⟨I,n,O⟩:=hi e (aad z);subst O;cases j with
   | zero=>simp at D;exact⟨I,n,D.symm⟩
   | succ j=>simp at D
  cases es with
  | nil=>exact .nil _ _
  | cons e es=>
   rcases hS b hb with hb | hb
   ·refine .sl _ k b off cp U N hb hk hcell fun i e j x z D=>?_;obtain⟨I,n,hx⟩:=J i e j x z D;have W:=h i e j x z D;subst hx;generalize U i j=u at W ⊢;cases W;exact .im _
   subst hb;obtain⟨I,n,O⟩:=hi e adU;subst O;have z:=(hcell 0 _ 0 _ rfl rfl).1;have D:=h 0 _ 0 _ rfl rfl;generalize U 0 0=u0 at z D;cases D;rw[cell_of_row w b _ c R (0,0) Y]at z;exact absurd rfl (Z _ _ z I n)
theorem L1{S:Nat->Prop}{g:Nat}{c:Array Value}{J:TypeId}(z:w.heap[g]?=some (.cells c J (0,0)))(D:∀(j:Nat) u,c[j]?=some u->∀k n,u≠.int k n)(hS:∀b,S b->S' b\/b=g){x:PV}{v:Value}(hi:Rk x)(h:aO S w x v):aO S' w x v:=by
 cases x with
 | ag cs=>
  cases h with
  | ag cs vs hl h1 h=>exact .ag cs vs hl h1 fun i a u I N=>yg z D hS (hi a (aad I)) (h i a u I N)
 | im x=>exact yg z D hS hi h
 | sl es=>exact yg z D hS hi h
 | ip cs=>exact hi.elim
 | fn f cap=>exact hi.elim
theorem L2{S:Nat->Prop}{P:Program}{e:TypeId}{es:List (List PV)}{v:Value}(h:aG P w (aO S w) e es v)(hS:∀b,S b->S' b):aG P w (aO S' w) e es v:=by
 obtain⟨i,xs,z,D,I,J,N,O⟩:=h;exact⟨i,xs,z,D,I,J,N,fun a r j x R U=>by obtain⟨u,W,Y⟩:=O a r j x R U;exact⟨u,W,Y.mono hS fun _ _=>rfl⟩⟩
theorem L3{S:Nat->Prop}{P:Program}{e:TypeId}{es:List (List PV)}{v:Value}(h:aG P w (aO S w) e es v)(J:∀r∈es,∀z∈r,AY z=true):aG P w (aO S' w) e es v:=by
 obtain⟨i,xs,N,O,R,U,W,Y⟩:=h;exact⟨i,xs,N,O,R,U,W,fun a r j x D I=>by obtain⟨u,Z,hr⟩:=Y a r j x D I;exact⟨u,Z,nY (J r (aad D) x (aad I)) hr⟩⟩
theorem JM(hC:bI A.C){o:Oper}{S:Nat->Prop}{a:Act}{K:KK}{next:Act->World->Prop}(sim:b7 A V L S rho s a w)(hd:∀d,o.dst=some d->d<A.n)
  (hnext:∀v eff new S' rho' a' w',K v eff new->b7 A (xY V o.dst) (Cg L new (o.dst.getD 0)) S' rho' ⟨fx s.t o.dst v,app s.h eff⟩ a' w'->next a' w')
  (f:FuncId) (iQ:List AV) (vs:Array Value) (hl:iQ.length=vs.size)
  (hrep:∀(S2:Nat->Prop) (h2:Nat->AB),b7 A V L S2 rho ⟨s.t,h2⟩ a w->∀(i:Nat) x v,iQ[i]?=some x->vs.toList[i]?=some v->aY S2 w A.C.P L rho h2 x v)
  (hrun : (∃ fn : Func, A.C.P.funcs[f]? = some fn ∧ (fn.name == "runtime.NumGoroutine") = false ∧ fn.body.isNone = false) → (execOp a.eval o).run A.C.P w = .ok (.enter f vs) w) (hq : xV A.C s.h f iQ K) : o.wp A.C.P a w next Q := by
 unfold xV at hq;split at hq
 ·rename_i id y gU;split at hq
  ·rename_i cs e es hb hr;obtain⟨x,de,nZ,W9,hint,YW,hk⟩:=hq;obtain⟨v0,v1,v2,rfl⟩:∃v0 v1 v2,vs=#[v0,v1,v2]:=by
    obtain⟨l⟩:=vs
    match l,hl with
    | [v0,v1,v2],_=>exact⟨v0,v1,v2,rfl⟩
   have r0:=hrep S s.h sim 0 _ v0 rfl rfl;have r1:=(hrep S s.h sim 1 _ v1 rfl rfl).eR;obtain⟨OV,rfl⟩:=(hrep S s.h sim 2 _ v2 rfl rfl).cH (by rw[hr];trivial);obtain⟨hL,g,hg,rfl⟩:=r0.h_ (by rw[hb];trivial);have hh:=sim.hp id hL;rw[hb]at hh;obtain⟨g',ty,c,k1,k2,k3,k4⟩:=hh;rw[hg]at k1;injection k1 with k1;injection k1 with k1;injection k1 with k1;subst k1;have az:=sim.hp gU OV;rw[hr]at az;have az:aG A.C.P w (aO S w) e es (rho gU):=az;have b8:id≠gU:=fun e=>by rw[e,hr]at hb;cases hb
   have YX:(s.h id).live:=by rw[hb];trivial
   have RP:(s.h gU).live:=by rw[hr];trivial
   have Oq:∀b,cC (rho gU)=some b->b≠g:=fun b hb' e=>b8 (sim.TJ id gU g hL OV YX RP (by rw[hg];rfl) (by rw[<-e];exact hb'));obtain⟨tv,hgS,_⟩:=sim.pM id g hL YX (by rw[hg];rfl);have T_:∀(j:Nat) u,c[j]?=some u->∀k n,u≠.int k n:=fun j u hu k n hn=>by
    obtain⟨av,Ua⟩:∃av,cs[j]?=some av:=⟨_,acg (by rw[<-k3];exact (ab9.1 hu).1)⟩;have h1:=W9 av (aad Ua);have h2:=(k4 j av u Ua hu).2;subst hn;rcases DY h1 with⟨zs,rfl⟩ | ⟨_,_,_,rfl⟩ | ⟨i,e2,nH,rfl,iO⟩ | rfl
    ·have:=h2.eR;cases this
    ·have:=h2.eR;cases this
    ·obtain⟨V7,h3⟩:=h2.cH (by rw[iO];trivial);have h4:=sim.hp i V7;rw[iO]at h4;obtain⟨_,_,_,_,h5,_⟩:=h4;obtain⟨_,_,h6⟩:=cr h5;rw[<-h3]at h6;cases h6
    cases h2
   have Gp:∀(j:Nat) z,(List.zipWith L0 cs c.toList)[j]?=some z->∃u,c[j]?=some u/\u.oneCell'=true/\aO S w z u:=fun j z hz=>by
    rw[List.getElem?_zipWith]at hz;cases h1:cs[j]? with
    | none=>rw[h1]at hz;cases hz
    | some av=>
     cases h2:c.toList[j]? with
     | none=>rw[h1,h2]at hz;cases hz
     | some u=>
      rw[h1,h2]at hz;simp only[Option.some.injEq]at hz;have hu:c[j]?=some u:=by rw[<-aek];exact h2
      obtain⟨q1,q2⟩:=k4 j av u h1 hu;refine⟨u,hu,q1,?_⟩;rw[<-hz];unfold L0;split
      ·exact q2.eR
      exact .im _
   have W_:Lq cs (List.zipWith L0 cs c.toList):=⟨by simp[List.length_zipWith,k3],fun j z hz=>by
    obtain⟨u,hu⟩:∃u,c.toList[j]?=some u:=⟨_,acg (by have:=aD hz;simp[k3];exact this)⟩;rw[List.getElem?_zipWith,hz,hu];rfl⟩
   obtain⟨S1,Ub⟩:∃S1:Nat->Prop,S1=fun b=>S b\/b=g:=⟨_,rfl⟩;have xC:∀b,S b->S1 b:=fun b h=>by rw[Ub];exact .inl h
   have nZ:=nZ _ W_;have key:=nZ.2 S1 w #[.pointer (some ⟨g,0,none⟩),v1,rho gU] (hC.env _ _ _ _ sim.ev xC (fun _ _=>rfl) (aam _)) (fun b h=>by
     rw[Ub]at h;rcases h with h | h
     ·exact sim.st b h
     ·rw[h];exact tv) rfl (fun j z v hj hv=>by
     match j with
     | 0=>
      simp only[aa9,Option.some.injEq]at hj;have hv:Value.pointer (some ⟨g,0,none⟩)=v:=by simpa using hv
      subst hj;subst hv;refine .ip _ g 0 (fun i=>(c[i]?).getD undef) (by rw[Ub];exact .inr rfl) (fun i z hi=>?_) fun i z hi=>?_
      ·obtain⟨u,h5,h6,h7⟩:=Gp i z hi;rw[abC,cell_of_row w g i c ty (0,0) k2,h5];exact⟨rfl,h6⟩
      obtain⟨u,h5,h6,h7⟩:=Gp i z hi;rw[h5];exact h7.mono xC fun _ _=>rfl
     | 1=>
      simp only[abc,aa9,Option.some.injEq]at hj;have hv:v1=v:=by simpa using hv
      subst hj;subst hv;exact r1.mono xC fun _ _=>rfl
     | 2=>
      simp only[abc,aa9,Option.some.injEq]at hj;have hv:rho gU=v:=by simpa using hv
      subst hj;subst hv;refine⟨L2 az xC,fun b hb' h=>?_⟩;rw[Ub]at h;rcases h with h | h
      ·exact (sim.pM gU b OV RP hb').2.1 h
      exact Oq b hb' h
     | j+3=>simp at hj) (fun i j z z' v u b hi hj hv hu hx hy _ _=>by
     match i,j with
     | 2,2=>rfl
     | 0,_=>simp at hi;subst hi;cases hx
     | 1,_=>simp at hi;subst hi;cases hx
     | i+3,_=>simp at hi
     | _,0=>simp at hj;subst hj;cases hy
     | _,1=>simp at hj;subst hj;cases hy
     | _,j+3=>simp at hj)
   have H:fL L rho s.h [.pv (.ip (List.zipWith L0 cs c.toList)),.pv y,.row e es] [.pointer (some ⟨g,0,none⟩),v1,rho gU] [(gU,.row e es)]:=.pv _ _ (.pv _ _ (.row gU e es OV hr .nil));refine tA (hrun nZ.1) key fun e' w' tB=>?_;obtain⟨v,S',rfl,hf,W3,xl,RN,m_,fO,OU,hown⟩:=tB;refine⟨v,rfl,?_⟩;have YY:∀b,Mv w [.pv (.ip (List.zipWith L0 cs c.toList)),.pv y,.row e es] #[.pointer (some ⟨g,0,none⟩),v1,rho gU] b->cC (rho gU)=some b:=fun b hm=>by
    obtain⟨Ah,b',h1,h2⟩:=(H.mv b).1 hm;simp only[ab_,Prod.mk.injEq]at h1;obtain⟨rfl,rfl⟩:=h1;exact aI rfl h2
   have nS:w'.heap[g]?=some (.cells c ty (0,0)):=by
    rw[hf.block g tv fun hm=>Oq g (YY g hm) rfl];exact k2
   have Iq:oH S' w' A.C.P (.row e es) (.row de) (rho gU):=fO.1;obtain⟨S2,Uc⟩:∃S2:Nat->Prop,S2=fun b=>S b\/(S' b/\w.heap.size<=b):=⟨_,rfl⟩;have Ud:∀b,S b->S2 b:=fun b h=>by rw[Uc];exact .inl h
   have hx:aO S2 w' x v:=L1 nS T_ (fun b h=>by
    rcases RN b h with h1 | h1 | h1
    ·rw[Ub]at h1;rcases h1 with h1 | h1
     ·exact .inl (Ud b h1)
     exact .inr h1
    ·rw[Uc];exact .inl (.inr ⟨h,h1⟩)
    exact absurd h (Iq.2 b (YY b h1))) hint m_
   have aeI:=b7.handed (S':=S2) hC sim H (fun _ _ _=>rfl) hf Ud (fun b h=>by
    rw[Uc]at h;rcases h with h | h
    ·exact aaW (sim.st b h) hf.size
    ·exact xl b h.1) (fun b h=>by
    rw[Uc]at h;rcases h with h | h
    ·exact .inl h
    ·exact .inr (.inl h.2)) (fin:=[.row de]) (show oH S2 w' A.C.P (.row e es) (.row de) (rho gU)/\True from ⟨⟨L3 Iq.1 YW,fun b hb' h=>by
    rw[Uc]at h;rcases h with h | h
    ·exact (sim.pM gU b OV RP hb').2.1 h
    exact Iq.2 b hb' h.1⟩,trivial⟩) OU (fe:=[(gU,.row e de)]) rfl
   exact hnext _ _ _ S2 rho _ _ hk (aeI.value o.dst hd _ _ (.p _ _ hx))
  exact hq.elim
 exact hq.elim
theorem JN(hC:bI A.C){o:Oper}{S:Nat->Prop}{a:Act}{K:KK}{next:Act->World->Prop}(sim:b7 A V L S rho s a w)(hd:∀d,o.dst=some d->d<A.n)
  (hn:∀v eff b,K v eff (some b)->¬L (o.dst.getD 0)/\s.h (o.dst.getD 0)=b)
  (hnext:∀v eff new S' rho' a' w',K v eff new->b7 A (xY V o.dst) (Cg L new (o.dst.getD 0)) S' rho' ⟨fx s.t o.dst v,app s.h eff⟩ a' w'->next a' w')
  (f:FuncId) (iQ:List AV) (vs:Array Value) (hl:iQ.length=vs.size)
  (hrep:∀(S2:Nat->Prop) (h2:Nat->AB),b7 A V L S2 rho ⟨s.t,h2⟩ a w->∀(i:Nat) x v,iQ[i]?=some x->vs.toList[i]?=some v->aY S2 w A.C.P L rho h2 x v)
  (hrun : (∃ fn : Func, A.C.P.funcs[f]? = some fn ∧ (fn.name == "runtime.NumGoroutine") = false ∧ fn.body.isNone = false) → (execOp a.eval o).run A.C.P w = .ok (.enter f vs) w) (hq : tc A.C s.h (o.dst.getD 0) f iQ K) : o.wp A.C.P a w next Q := by
 unfold tc at hq;split at hq
 ·exact Gn hC sim hd hn hnext f iQ vs hl hrep hrun hq
 split at hq;rotate_left
 ·exact JM hC sim hd hnext f iQ vs hl hrep hrun hq
 obtain⟨xs,r,LI,nZ,nh,hq⟩:=hq;obtain⟨T3,Xa⟩:=LI.at;have key:=nZ.2 (fun b=>S b\/∃id,L id/\(s.h id).live/\hasB w (s.h id) (rho id) b) w vs (hC.env _ _ _ _ sim.ev (fun b h=>.inl h) (fun _ _=>rfl) (aam _)) (fun b h=>h.elim (sim.st b) fun ⟨id,h1,h2,h3⟩=>(sim.lv id b h1 h2 h3).1) (by simp[<-T3,hl]) (fun j x v hj hv=>by
   rw[aak]at hj;obtain⟨y,hy,rfl⟩:=acq.1 hj;obtain⟨av,Ua⟩:∃av,iQ[j]?=some av:=⟨_,acg (by rw[T3];exact aD hy)⟩;exact (Xa j av y Ua hy).rep hC sim (hrep S s.h sim j av v Ua (by simpa using hv))) (fun i j x y v u g hi hj hv hu hx=>by
   rw[aak]at hi;obtain⟨z,_,rfl⟩:=acq.1 hi;cases hx)
 refine tA (hrun nZ.1) key fun e w' tB=>?_;obtain⟨v,S',rfl,hf,W3,xl,RN,hr,fO,OU,hown⟩:=tB;refine⟨v,rfl,?_⟩;have W5:Fr (fun _=>False) w w':=⟨hf.os,hf.tape,hf.output,hf.size,fun k hk _=>hf.block k hk fun ⟨j,x,v,hj,_,hx,_⟩=>by
  rw[aak]at hj;obtain⟨z,_,rfl⟩:=acq.1 hj;cases hx⟩
 have aeI:=sim.grow hC w' W5;refine hnext _ _ _ S rho _ _ hq (aeI.value o.dst hd _ _ ?_);cases r with
 | p x=>exact .p _ _ (nY nh hr)
 | own e es=>cases nh
 | hown cs=>cases nh
 | tu ys=>
  obtain⟨us,rfl,h1,h2⟩:=hr;refine .tu _ us (by simpa using h1) fun i c u hi hu=>?_;rw[aak]at hi;obtain⟨z,hz,rfl⟩:=acq.1 hi;exact .p _ _ (nY (abh.1 nh z (aad hz)) (h2 i z u hz hu))
theorem Cu {P : Program} {f : FuncId} {vs : Array Value} (h : ∃ fn : Func, P.funcs[f]? = some fn ∧ (fn.name == "runtime.NumGoroutine") = false ∧ fn.body.isNone = false) : (callFunc f vs).run P w = .ok (.enter f vs) w := by
 obtain⟨fn,h1,h2,h3⟩:=h
 have we : ¬ fn.name = "runtime.NumGoroutine" := by simpa using h2
 cases hb:fn.body with
 | none=>rw[hb]at h3;cases h3
 | some b=>simp[callFunc,Sem.run,program,h1,we,hb]
theorem DZ{α:Type}{a:Array α}(h:isNil a.toList=true):a=#[]:=by
 obtain⟨l⟩:=a;cases l with
 | nil=>rfl
 | cons y l=>cases h
theorem rP{S:Nat->Prop}{P:Program}{h:Nat->AB}{x:AV}{v:Value}{f:FuncId}{I:List AV}(D:xW x=some (f,I))(J:aY S w P L rho h x v):∃us:Array Value,v=.func (.func f) #[] us/\I.length=us.size/\∀(i:Nat) c u,I[i]?=some c->us[i]?=some u->aY S w P L rho h c u:=by
 cases x<;>simp only[xW]at D<;>try (cases D;done)
 ·rename_i y;have J:=J.eR;cases y<;>simp only[Ic]at D<;>try (cases D;done)
  ·rename_i z;obtain rfl:=J.bS;unfold Ib at D;split at D
   ·rename_i fn first O
    split at D
    ·rename_i N;simp only[aaZ]at N;have e1:=DZ N.1;have e2:=DZ N.2;subst e1 e2;cases fn<;>simp only[Ia]at D<;>try (cases D;done)
     injection D with D;injection D with h1 h2;subst h1 h2;exact⟨#[],rfl,rfl,by simp⟩
    cases D
   cases D
  rename_i g O;injection D with D;injection D with h1 h2;subst h1 h2;cases J;rename_i us hl R;refine⟨us,rfl,by simpa using hl,fun i c u D U=>?_⟩;rw[aak]at D;obtain⟨z,W,rfl⟩:=acq.1 D;exact .p _ _ (R i z u W U)
 injection D with D;injection D with h1 h2;subst h1 h2;cases J;exact⟨_,rfl,by assumption,by assumption⟩
theorem b7.loose{S:Nat->Prop}{a:Act}(z:b7 A V L S rho s a w)(hC:bI A.C)(w':World)(R:Nat->Prop)(D:Fr R w w')(N:∀k,R k->¬S k/\(∀i,L i->(s.h i).live->¬hasB w (s.h i) (rho i) k)/\(A.mv k\/A.w0.heap.size<=k)):b7 A V L S rho s a w':=by
 have O:∀b,S b->w'.heap[b]?=w.heap[b]?:=fun k hk=>D.block k (z.st k hk) (fun h=>(N k h).1 hk);have T:lB S S w w' L L rho rho s.h s.h:=⟨fun b h=>h,O,fun j I=>⟨I,fun hl=>⟨hl,rfl⟩⟩,fun j e' I=>I⟩;exact
 {tm:=fun j I=>(z.tm j I).cK T
  sz:=z.sz,df:=z.df,nb:=z.nb,pn:=z.pn
  ev:=hC.env _ _ _ _ z.ev (fun b h=>h) O D.size
  s0:=z.s0
  st:=fun b hb=>aaW (z.st b hb) D.size
  sb:=z.sb
  hp:=fun j I=>(z.hp j I).cK T (fun J g U=>D.block g (z.lv j g I J U).1 (fun h=>(N g h).2.1 j I J U)) (fun _=>rfl)
  dj:=fun i j g hi I J W Y Z=>z.dj i j g hi I J W (dA (fun k hk=>D.block k (z.pM i k hi J hk).1 (fun h=>(N k h).2.1 i hi J (.inl hk))) Y) (dA (fun k hk=>D.block k (z.pM j k I W hk).1 (fun h=>(N k h).2.1 j I W (.inl hk))) Z)
  lv:=fun i g hi J U=>by obtain⟨h1,h2⟩:=z.lv i g hi J (dA (fun k hk=>D.block k (z.pM i k hi J hk).1 (fun h=>(N k h).2.1 i hi J (.inl hk))) U);exact⟨aaW h1 D.size,h2⟩
  fr:=z.fr.next D.os D.tape D.output D.size fun k hk hn=>D.block k (aaW hk z.fr.size) fun h=>by
   rcases (N k h).2.2 with h | h
   ·exact hn h
   omega }
theorem qj:∀{l:List AV} {as:List AV} {z:AV},qY l=some (as,z)->l=as++[z]
 | [],_,_,h=>by cases h
 | [x],_,_,h=>by cases h;rfl
 | x::y::r,as,z,h=>by
  rw[qY]at h;split at h
  ·rename_i l z' D;cases h;rw[qj D];rfl
  cases h
theorem OW{h:Nat->AB}{d:Nat}:∀{fz:List (Nat×AB)},(∀p∈fz,p.1≠d)->app h fz d=h d:=by
 intro fz
 induction fz generalizing h with
 | nil=>intro _;rfl
 | cons p fz ih=>
  intro hp;obtain⟨i,b⟩:=p;show app (aT h i b) fz d=h d;rw[ih fun q z=>hp q (by simp[z]),aV _ _ (fun e=>hp (i,b) (by simp) e.symm)]
theorem JO(hC:bI A.C){o:Oper}{S:Nat->Prop}{a:Act}{K:KK}{next:Act->World->Prop}(sim:b7 A V L S rho s a w)(hd:∀d,o.dst=some d->d<A.n)
  (hn:∀v eff b,K v eff (some b)->¬L (o.dst.getD 0)/\s.h (o.dst.getD 0)=b)
  (hnext:∀v eff new S' rho' a' w',K v eff new->b7 A (xY V o.dst) (Cg L new (o.dst.getD 0)) S' rho' ⟨fx s.t o.dst v,app s.h eff⟩ a' w'->next a' w')
  (f:FuncId) (iQ:List AV) (vs:Array Value) (hl:iQ.length=vs.size)
  (hrep:∀(S2:Nat->Prop) (h2:Nat->AB),b7 A V L S2 rho ⟨s.t,h2⟩ a w->∀(i:Nat) x v,iQ[i]?=some x->vs.toList[i]?=some v->aY S2 w A.C.P L rho h2 x v)
  (hrun : (∃ fn : Func, A.C.P.funcs[f]? = some fn ∧ (fn.name == "runtime.NumGoroutine") = false ∧ fn.body.isNone = false) → (execOp a.eval o).run A.C.P w = .ok (.enter f vs) w) (hq : v_ A.C s.h (o.dst.getD 0) f iQ K) : o.wp A.C.P a w next Q := by
 unfold v_ at hq;split at hq
 case h_2=>exact hq.elim
 rename_i as id Jv;have OX:=qj Jv;split at hq
 case h_2=>exact hq.elim
 rename_i ty c gU aN;split at hq
 case h_2=>exact hq.elim
 rename_i pQ;split at hq
 case h_2=>exact hq.elim
 rename_i e es az;obtain⟨ws,vb,LI,TX⟩:∃ws vb,vs.toList=ws++[vb]/\as.length=ws.length:=by
  have b8:vs.toList≠[]:=fun e=>by
   have:vs.size=0:=by simpa using adV List.length e
   rw[OX]at hl;simp at hl;omega
  refine⟨vs.toList.dropLast,vs.toList.getLast b8,(aar b8).symm,?_⟩;rw[OX]at hl;simp at hl ⊢;omega
 have L4:=hrep S s.h sim as.length (.bx id 0) vb (by rw[OX];simp) (by rw[LI,TX];simp);have Xb:∀(i:Nat) c v,as[i]?=some c->ws[i]?=some v->aY S w A.C.P L rho s.h c v:=fun i c v h1 h2=>hrep S s.h sim i c v (by rw[OX,aaE (aao.1 h1).1];exact h1) (by rw[LI,aaE (aao.1 h2).1];exact h2);obtain⟨mc,g0,lF,hvb⟩:L id/\∃g,rho id=.pointer (some ⟨g,0,none⟩)/\vb=.pointer (some ⟨g,0,none⟩):=by
  cases L4 with
  | bx _ _ _ hv=>exact hv (by rw[aN];trivial)
 obtain⟨xs,fz,S2,⟨r,ch,de,nZ,hq⟩,bu,hpv,xC,hF,DI,hlen⟩:=A2 (t:=s.t) hC as ws S s.h TX sim (pY.refl _) Xb hq;split at hq
 case h_2=>exact hq.elim
 rename_i hok;simp only[aaZ,ael]at hok;obtain⟨nh,hn1,Ue,b8⟩:=hok;have b8:id≠gU:=fun e=>by rw[e]at b8;simp at b8
 have ahx:(app s.h fz) id=.gC ty [c,.ow gU]:=by rw[l9 hn1,aN]
 have L6:(app s.h fz) gU=.row e es:=by rw[l9 Ue,az]
 have V8:=bu.hp id mc;have V8:eK S2 w A.C.P L rho (app s.h fz) id (app s.h fz id):=V8;rw[ahx]at V8;obtain⟨g,cells,k1,k2,k3,k4⟩:=V8;rw[lF]at k1;obtain rfl:g0=g:=by injection k1 with k1;injection k1 with k1;injection k1
 obtain⟨u0,u1,hcells⟩:∃u0 u1,cells=#[u0,u1]:=by
  obtain⟨cl⟩:=cells
  match cl,k3 with
  | [x,y],_=>exact⟨x,y,rfl⟩
 subst hcells;obtain⟨o0,l0⟩:=k4 0 c u0 rfl rfl;obtain⟨o1,l1⟩:=k4 1 (.ow gU) u1 rfl rfl;obtain⟨A6,Uf⟩:L gU/\u1=rho gU:=by
  cases l1 with
  | ow _ _ hv=>exact hv (by rw[L6];trivial)
 have hu0:u0=.pointer none\/u0=.pointer (some ⟨g0,0,none⟩):=by
  unfold Qn at pQ;split at pQ
  ·cases l0 with
   | p _ _ hx=>cases hx;exact .inl rfl
  ·have hi:=aa2 pQ;subst hi;cases l0 with
   | bx _ _ _ hv=>
    obtain⟨_,g',e1,e2⟩:=hv (by rw[ahx];trivial);rw[lF]at e1;injection e1 with e1;injection e1 with e1;injection e1 with e1;subst e1;exact .inr e2
  cases pQ
 have OQ:=bu.hp gU A6;have OQ:eK S2 w A.C.P L rho (app s.h fz) gU (app s.h fz gU):=OQ;rw[L6]at OQ;have OQ:aG A.C.P w (aO S2 w) e es (rho gU):=OQ;rw[<-Uf]at OQ;have Gq:(app s.h fz id).live:=by rw[ahx];trivial
 have xE:(app s.h fz gU).live:=by rw[L6];trivial
 have Gr:=bu.pM id g0 mc Gq (by rw[lF];rfl);have tC:∀k,cC u1=some k->k<w.heap.size/\¬S2 k/\(A.mv k\/A.w0.heap.size<=k)/\k≠g0:=fun k hk=>by
  obtain⟨a1,a2,a3⟩:=bu.pM gU k A6 xE (by rw[<-Uf];exact hk);refine⟨a1,a2,a3,fun e=>b8 ?_⟩;subst e;exact bu.TJ id gU k mc A6 Gq xE (by rw[lF];rfl) (by rw[<-Uf];exact hk)
 have Xa:vs=(ws++[Value.pointer (some ⟨g0,0,none⟩)]).toArray:=by
  rw[<-hvb,<-LI]
 have key:=nZ.2 S2 w ws g0 u0 u1 bu.ev bu.st hlen hpv k2 hu0 OQ Gr.2.1 (fun k hk=>⟨(tC k hk).2.1,(tC k hk).2.2.2,(tC k hk).1⟩);rw[<-Xa]at key;refine tA (hrun nZ.1) key fun e' w' tB=>?_;obtain⟨v,rfl,hf,hr,tB⟩:=tB;refine⟨v,rfl,?_⟩;have hval:∀{L':Nat->Prop} {rho':Nat->Value} {h':Nat->AB},aY S2 w' A.C.P L' rho' h' (Tq (o.dst.getD 0) r) v:=by
  intro L' rho' h';cases r with
  | p x=>exact .p _ _ hr
  | own e es=>cases nh
  | hown cs=>cases nh
  | tu ys=>
   obtain⟨us,rfl,q1,q2⟩:=hr;refine .tu _ us (by simpa using q1) fun i c u hi hu=>?_;rw[aak]at hi;obtain⟨z,hz,rfl⟩:=acq.1 hi;exact .p _ _ (q2 i z u hz hu)
 split at hq
 case h_2=>
  have aeI:=(bu.kill gU).kill id;have As:=aeI.loose hC w' (fun k=>k=g0\/cC u1=some k) hf (fun k hk=>by
   have dead:∀i,(aT (aT (app s.h fz) gU .none) id .none i).live->i≠id/\i≠gU/\(app s.h fz i).live:=fun i li=>by
    rcases aW (aT (app s.h fz) gU .none) id .none i with⟨rfl,h⟩ | ⟨h1,h⟩
    ·rw[h]at li;exact li.elim
    rw[h]at li;rcases aW (app s.h fz) gU .none i with⟨rfl,h3⟩ | ⟨h2,h3⟩
    ·rw[h3]at li;exact li.elim
    rw[h3]at li;exact⟨h1,h2,li⟩
   have Qz:∀i,(aT (aT (app s.h fz) gU .none) id .none i).live->hasB w (aT (aT (app s.h fz) gU .none) id .none i) (rho i) k->hasB w (app s.h fz i) (rho i) k:=fun i li hg=>aeG (dead i li).2.1 (aeG (dead i li).1 hg);rcases hk with rfl | hk
   ·exact⟨Gr.2.1,fun i hi li eM=>(dead i li).1 (bu.dj i id k hi mc (dead i li).2.2 Gq (Qz i li eM) (.inl (by rw[lF];rfl))),Gr.2.2⟩
   exact⟨(tC k hk).2.1,fun i hi li eM=>(dead i li).2.1 (bu.dj i gU k hi A6 (dead i li).2.2 xE (Qz i li eM) (.inl (by rw[<-Uf];exact hk))),(tC k hk).2.2.1⟩)
  have e6:aT (aT (app s.h fz) gU .none) id .none=app s.h (fz++[(gU,.none),(id,.none)]):=by rw[cy];rfl
  have As:b7 A V L S2 rho ⟨s.t,aT (aT (app s.h fz) gU .none) id .none⟩ a w':=As;rw[e6]at As;exact hnext _ _ _ S2 rho _ w' hq (As.value o.dst hd _ _ hval)
 rename_i de;obtain⟨u1',wh,QA,JC⟩:=tB;obtain⟨hL,hb⟩:=hn _ _ _ hq;have Ug:o.dst.getD 0≠id:=fun e=>hL (e▸mc);have Uh:o.dst.getD 0≠gU:=fun e=>hL (e▸A6);have ni:g0<w'.heap.size:=aaW Gr.1 hf.size;obtain⟨w1,OY⟩:∃w1:World,w1={ w' with heap:=w'.heap.setIfInBounds g0 (.cells #[u0,u1] ty (0,0)) }:=⟨_,rfl⟩;have py:w1.heap[g0]?=some (.cells #[u0,u1] ty (0,0)):=by rw[OY];simp[ni]
 have V9:∀k,k≠g0->w1.heap[k]?=w'.heap[k]?:=fun k hk=>by rw[OY];simp[aei,hk.symm]
 have Xc:w1.heap.size=w'.heap.size:=by rw[OY];simp
 have gne:∀k,cC u1'=some k->k≠g0:=fun k hk=>by
  rcases (JC k hk).2 with h | h
  ·exact (tC k h).2.2.2
  have:=Gr.1;omega
 have aeI:=bu.kill gU;have As:=aeI.new hC (o.dst.getD 0) (.row e de) (bu.pP hd) hL (by
   show aT (app s.h fz) gU .none (o.dst.getD 0)=_;rw[aV _ _ Uh,OW fun p hp e=>hL (by rw[<-e];exact DI p hp),hb]) w1 (by rw[OY];exact hf.os) (by rw[OY];exact hf.tape) (by rw[OY];exact hf.output) (by rw[Xc];exact hf.size) (fun k=>cC u1=some k)
  (fun k hk T1=>by
   by_cases e:k=g0
   ·subst e;rw[py,k2]
   rw[V9 k e];exact hf.block k hk (fun h=>h.elim e T1))
  (fun k hk=>by
   refine⟨(tC k hk).2.1,fun i hi li eM=>?_,(tC k hk).2.2.1⟩;have nT:(aT (app s.h fz) gU .none i).live:=li;rcases aW (app s.h fz) gU .none i with⟨rfl,h⟩ | ⟨RQ,h⟩
   ·rw[h]at nT;exact nT.elim
   rw[h]at nT;exact RQ (bu.dj i gU k hi A6 nT xE (aeG RQ eM) (.inl (by rw[<-Uf];exact hk))))
  u1' (fun k hk=>by rw[Xc];exact⟨(JC k hk).1,(JC k hk).2.symm⟩)
  (fun T=>by
   show aG A.C.P w1 (aO S2 w1) e de (aT rho (o.dst.getD 0) u1' (o.dst.getD 0));rw[aH];exact QA.cK (fun k hk=>V9 k (gne k hk)) (fun x u hx=>hx.mono (fun _ h=>h) fun k hk=>V9 k fun e=>Gr.2.1 (e▸hk)))
 have Xd:(aT (app s.h fz) gU .none) id=.gC ty [c,.ow gU]:=by rw[aV _ _ b8,ahx]
 have akz:aT rho (o.dst.getD 0) u1' id=.pointer (some ⟨g0,0,none⟩):=by rw[aV _ _ Ug.symm,lF]
 have JP:=As.write hC id (.inl mc) (by show ((aT (app s.h fz) gU .none) id).live;rw[Xd];trivial) (.gC ty [v8 ch id c,.ow (o.dst.getD 0)]) (fun _ h=>by cases h) w' (by rw[OY]) (by rw[OY]) (by rw[OY]) Xc.symm
  (fun k hk=>(V9 k fun e=>hk (by rw[akz,e];rfl)).symm)
  (fun T=>by
   refine⟨g0,_,akz,wh,rfl,fun j x u hj hu=>?_⟩
   match j,hj,hu with
   | 0,hj,hu=>
    cases hj;cases ch with
    | true=>
     cases hu;exact⟨rfl,.bx id 0 _ fun _=>⟨.inl mc,g0,akz,rfl⟩⟩
    | false=>
     cases hu;exact⟨o0,(l0.cK (S':=S2) (w':=w') (L':=fun i=>L i\/i=o.dst.getD 0) (rho':=aT rho (o.dst.getD 0) u1') (h':=aT (aT (app s.h fz) gU .none) id (.gC ty [v8 false id c,.ow (o.dst.getD 0)])) ⟨fun _ h=>h,fun k hk=>hf.block k (bu.st k hk) (fun h=>h.elim (fun e=>Gr.2.1 (e▸hk)) (fun h=>(tC k h).2.1 hk)),fun j hj=>by
       rcases aW (aT (app s.h fz) gU .none) id (.gC ty [v8 false id c,.ow (o.dst.getD 0)]) j with⟨rfl,h⟩ | ⟨Xe,h⟩
       ·exact⟨by rw[ahx];trivial,fun hl=>⟨.inl hl,aV _ _ Ug.symm⟩⟩
       ·rw[h]at hj;rcases aW (app s.h fz) gU .none j with⟨rfl,h3⟩ | ⟨Ro,h3⟩
        ·rw[h3]at hj;exact hj.elim
        rw[h3]at hj;exact⟨hj,fun hl=>⟨.inl hl,aV _ _ fun e=>hL (e▸hl)⟩⟩,fun j e2 hj=>by
       rcases aW (aT (app s.h fz) gU .none) id (.gC ty [v8 false id c,.ow (o.dst.getD 0)]) j with⟨rfl,h⟩ | ⟨Xe,h⟩
       ·rw[h]at hj;cases hj
       rw[h]at hj;rcases aW (app s.h fz) gU .none j with⟨rfl,h3⟩ | ⟨Ro,h3⟩
       ·rw[h3]at hj;cases hj
       rw[h3]at hj;exact hj⟩)⟩
   | 1,hj,hu=>
    cases hj;cases hu;obtain⟨i0,xs0,Tu,_,hown,_⟩:=QA;refine⟨?_,.ow _ _ fun _=>⟨.inr rfl,(aH _ _ _).symm⟩⟩;obtain⟨a0,c0,TZ⟩:=cr hown;rw[TZ];rfl
   | n+2,hj,hu=>cases hj)
 have e6:aT (aT (app s.h fz) gU .none) id (.gC ty [v8 ch id c,.ow (o.dst.getD 0)])=app s.h (fz++[(gU,.none),(id,.gC ty [v8 ch id c,.ow (o.dst.getD 0)])]):=by rw[cy];rfl
 have JP:b7 A V (fun i=>L i\/i=o.dst.getD 0) S2 (aT rho (o.dst.getD 0) u1') ⟨s.t,aT (aT (app s.h fz) gU .none) id (.gC ty [v8 ch id c,.ow (o.dst.getD 0)])⟩ a w':=JP;rw[e6]at JP;exact hnext _ _ _ S2 (aT rho (o.dst.getD 0) u1') _ w' hq (JP.value o.dst hd _ _ hval)
theorem OZ{o:Oper}(c:Call)(g:Operand)(aK:o.op=.call c)(hc:c.callee=.value g):iE A o:=by
 intro V L S rho s a w K next Q hC sim hV hd hq hn hnext
 obtain⟨callee,args,argTypes⟩:=c;simp only at hc;subst hc;simp only[bV,aK,aeC]at hq;have hg:=bp sim g fun j hj=>hV j (by simp[aK,Op.operands,Call.operands,hj]);have hargs:∀(S2:Nat->Prop) (h2:Nat->AB),b7 A V L S2 rho ⟨s.t,h2⟩ a w->∀x∈args.toList,aY S2 w A.C.P L rho h2 (ev s.t x) (a.eval x):=fun S2 h2 bu x hx=>bp bu x fun j hj=>hV j (by simp[aK,Op.operands,Call.operands];rw[<-hj];exact .inr (aal.1 hx));have Gj:∀(S2:Nat->Prop) (h2:Nat->AB),b7 A V L S2 rho ⟨s.t,h2⟩ a w->∀(i:Nat) x v,(args.toList.map (ev s.t))[i]?=some x->(args.map a.eval).toList[i]?=some v->aY S2 w A.C.P L rho h2 x v:=by
  intro S2 h2 bu i x v hx hv;rw[aak]at hx;obtain⟨y,hy,rfl⟩:=acq.1 hx;rw[adT,aak,hy]at hv;simp at hv;rw[<-hv];exact hargs S2 h2 bu y (aad hy)
 split at hq
 case h_2=>exact hq.elim
 rename_i f cap YZ;obtain⟨us,he,hl,_⟩:=rP YZ hg
 have It : (∀ (S2 : Nat → Prop) (h2 : Nat → AB), b7 A V L S2 rho ⟨s.t, h2⟩ a w → ∀ (i : Nat) x v, (args.toList.map (ev s.t) ++ cap)[i]? = some x → (args.map a.eval ++ us).toList[i]? = some v → aY S2 w A.C.P L rho h2 x v) ∧ ((∃ fn : Func, A.C.P.funcs[f]? = some fn ∧ (fn.name == "runtime.NumGoroutine") = false ∧ fn.body.isNone = false) → (execOp a.eval o).run A.C.P w = .ok (.enter f (args.map a.eval ++ us)) w) := by
  refine⟨fun S2 h2 bu i x v hx hv=>?_,fun Xf=>?_⟩
  ·rw[abX]at hv;by_cases hi:i<args.size
   ·rw[aaE (by simpa using hi)]at hx;rw[aaE (by simpa using hi)]at hv;exact Gj S2 h2 bu i x v hx hv
   rw[acu (by simp;omega)]at hx;rw[acu (by simp;omega)]at hv;simp only[aej,abj,adT]at hx hv;have V_:=bp bu g fun j hj=>hV j (by simp[aK,Op.operands,Call.operands,hj]);obtain⟨us2,qZ,_,iO⟩:=rP YZ V_;rw[he]at qZ;injection qZ with _ _ qZ;subst qZ;exact iO _ x v hx (by simpa using hv)
  simp[execOp,aK,resolve,he,Deferred.ofValue,invoke,Cu Xf]
 split at hq
 ·exact JN hC sim hd hn hnext f _ (args.map a.eval++us) (by simp[hl]) It.1 It.2 hq
 exact JO hC sim hd hn hnext f _ (args.map a.eval++us) (by simp[hl]) It.1 It.2 hq
end Go.AM
namespace Go.AM
open Go.RowKit
def Ext(h h':Nat->AB):Prop:=∀id,h id=.none\/h' id=h id
variable {h':Nat->AB} {id:Nat} {es:List (List PV)}
theorem Ext.row{h:Nat->AB}(H:Ext h h'){e:TypeId}(z:h id=.row e es):h' id=.row e es:=by
 rcases H id with D | D
 ·rw[D]at z;cases z
 rw[D,z]
theorem Ext.jA{h:Nat->AB}(H:Ext h h')(z:h id=.jA es):h' id=.jA es:=by
 rcases H id with D | D
 ·rw[D]at z;cases z
 rw[D,z]
theorem Ext.box{h:Nat->AB}(H:Ext h h'){cs:List AV}(z:h id=.box cs):h' id=.box cs:=by
 rcases H id with D | D
 ·rw[D]at z;cases z
 rw[D,z]
theorem Ext.aN{h:Nat->AB}(H:Ext h h'){cs:List HC}(z:h id=.aN cs):h' id=.aN cs:=by
 rcases H id with D | D
 ·rw[D]at z;cases z
 rw[D,z]
theorem Ext.gC{h:Nat->AB}(H:Ext h h'){I:TypeId}{cs:List AV}(z:h id=.gC I cs):h' id=.gC I cs:=by
 rcases H id with D | D
 ·rw[D]at z;cases z
 rw[D,z]
theorem Ext.jd{h:Nat->AB}(H:Ext h h'){cs:List PV}(z:h id=.jd cs):h' id=.jd cs:=by
 rcases H id with D | D
 ·rw[D]at z;cases z
 rw[D,z]
theorem Ext.map{h:Nat->AB}(H:Ext h h'){mk:MK}{es:List (Value×PV)}(z:h id=.map mk es):h' id=.map mk es:=by
 rcases H id with D | D
 ·rw[D]at z;cases z
 rw[D,z]
theorem Ext.az{h:Nat->AB}(H:Ext h h'){e:TypeId}{es:List (List HX)}(z:h id=.az e es):h' id=.az e es:=by
 rcases H id with D | D
 ·rw[D]at z;cases z
 rw[D,z]
theorem JQ{h:Nat->AB}(H:Ext h h'){a:AV}{n:Nat}(z:hlen h a=some n):hlen h' a=some n:=by
 unfold hlen at z ⊢;split at z
 ·rename_i id;split at z
  ·rename_i e es D;rw[H.az D];exact z
  cases z
 ·rename_i id lo hi;split at z
  ·rename_i e es D;rw[H.row D];exact z
  cases z
 cases z
theorem JR{h:Nat->AB}(H:Ext h h'){a:AV}{K:List (List PV)->Prop}(z:gH h a K):hlen h' a=none:=by
 unfold gH at z;unfold hlen;split at z
 ·rfl
 ·rfl
 ·rename_i id;simp only;split at z
  ·rename_i D;rw[H.row D]
  ·rename_i D;rw[H.jA D]
  exact z.elim
 exact z.elim
theorem tD{h:Nat->AB}(H:Ext h h'){a:AV}(z:u5 h a=true):u5 h' a=true:=by
 cases a with
 | p x=>cases x<;>exact z
 | nl=>rfl
 | ow id=>
  unfold u5 at z ⊢;simp only at z ⊢;split at z
  ·rename_i D;rw[H.row D]
  ·rename_i D;rw[H.az D]
  ·rename_i D;rw[H.jA D]
  cases z
 | bx id off=>
  unfold u5 at z ⊢;simp only at z ⊢;split at z
  ·cases z
  rename_i J;rcases H id with I | I
  ·exact absurd I (by simpa using J)
  rw[I];split
  ·rename_i N;exact absurd N (by simpa using J)
  rfl
 | vw id lo hi=>exact z
 | rp id i off=>
  unfold u5 at z ⊢;simp only at z ⊢;split at z
  ·rename_i D;rw[H.row D]
  ·rename_i D;rw[H.az D]
  cases z
 | fn f cap=>rfl
 | tu xs=>exact z
 | st xs=>exact z
 | junk=>exact z
theorem A7{h:Nat->AB}(H:Ext h h'){a:AV}{K:PV->List (Nat×AB)->Prop}(z:l8 h a K):∃x fz,K x fz/\∀D:PV->List (Nat×AB)->Prop,D x fz->l8 h' a D:=by
 unfold l8 at z;split at z
 ·exact⟨_,_,z,fun D h=>h⟩
 ·exact⟨_,_,z,fun D h=>h⟩
 ·split at z
  ·rename_i I;exact⟨_,_,z,fun D h=>by simp only[l8,H.row I];exact h⟩
  ·rename_i I;exact⟨_,_,z,fun D h=>by simp only[l8,H.jA I];exact h⟩
  exact z.elim
 ·split at z
  ·rename_i I;split at z
   ·rename_i J;exact⟨_,_,z,fun D h=>by simp only[l8,H.box I,J];exact h⟩
   exact z.elim
  ·rename_i I;exact⟨_,_,z,fun D h=>by simp only[l8,H.jd I];exact h⟩
  exact z.elim
 exact z.elim
theorem A8{h:Nat->AB}(H:Ext h h'):∀{as:List AV} {K:List PV->List (Nat×AB)->Prop},v7 h as K->∃xs fz,K xs fz/\∀D:List PV->List (Nat×AB)->Prop,D xs fz->v7 h' as D:=by
 intro as
 induction as with
 | nil=>intro K z;exact⟨_,_,z,fun D h=>h⟩
 | cons a as ih=>
  intro K z;unfold v7 at z;obtain⟨x,fz,z,I⟩:=A7 H z;obtain⟨xs,mY,z,J⟩:=ih z;refine⟨_,_,z,fun D h=>?_⟩;unfold v7;exact I _ (J _ h)
theorem iu{h:Nat->AB}(H:Ext h h'){a:AV}{K:PV->List (Nat×AB)->Prop}(z:gD h a K):∃x fz,K x fz/\∀D:PV->List (Nat×AB)->Prop,D x fz->gD h' a D:=by
 unfold gD at z;split at z
 ·obtain⟨xs,fz,z,I⟩:=A8 H z;exact⟨_,_,z,fun D h=>I _ h⟩
 rename_i J;obtain⟨x,fz,z,I⟩:=A7 H z;refine⟨x,fz,z,fun D h=>?_⟩;unfold gD;split
 ·exact absurd rfl (J _ _)
 exact I _ h
theorem yi{h:Nat->AB}(H:Ext h h'){a:AV}{K:List (List PV)->Prop}(z:gH h a K):∃es,K es/\∀D:List (List PV)->Prop,D es->gH h' a D:=by
 unfold gH at z;split at z
 ·exact⟨_,z,fun D h=>h⟩
 ·exact⟨_,z,fun D h=>h⟩
 ·split at z
  ·rename_i I;exact⟨_,z,fun D h=>by simp only[gH,H.row I];exact h⟩
  ·rename_i I;exact⟨_,z,fun D h=>by simp only[gH,H.jA I];exact h⟩
  exact z.elim
 exact z.elim
variable {rho:Operand->AV}
theorem JS{h:Nat->AB}(H:Ext h h'){J:List (Nat×Nat×Bool)}:∀{ps:List (Nat×Operand)} {cs:List PV} {K:List PV->List (Nat×AB)->Prop},jC h J rho ps cs K->∃x fz,K x fz/\∀I:List PV->List (Nat×AB)->Prop,I x fz->jC h' J rho ps cs I:=by
 intro ps
 induction ps with
 | nil=>intro cs K D;exact⟨_,_,D,fun I h=>h⟩
 | cons p ps ih=>
  intro cs K D;obtain⟨i,x⟩:=p;unfold jC at D;split at D
  ·rename_i N;obtain⟨y,fz,D,O⟩:=iu H D;split at D
   ·rename_i ys R;split at D
    ·rename_i U;obtain⟨z,W,D,Y⟩:=ih D;refine⟨z,fz++W,D,fun I h=>?_⟩;simp only[jC,N];refine O _ ?_;simp only[R,U];exact Y _ h
    exact D.elim
   exact D.elim
  exact D.elim
theorem A9{h:Nat->AB}(H:Ext h h'){N:List (Nat×Nat×Bool)}:∀{ps:List (Nat×Operand)} {cs:List AV} {K:List AV->Prop},k_ h N rho ps cs K->∃z,K z/\∀I:List AV->Prop,I z->k_ h' N rho ps cs I:=by
 intro ps
 induction ps with
 | nil=>intro cs K D;exact⟨cs,D,fun I h=>h⟩
 | cons p ps ih=>
  intro cs K D;obtain⟨i,x⟩:=p;unfold k_ at D;split at D
  ·rename_i O;split at D
   ·rename_i J;obtain⟨z,R,U⟩:=ih D;refine⟨z,R,fun I hk=>?_⟩;unfold k_;simp only[aaZ]at J;simp only[O,J.1.1,J.1.2,tD H J.2,ac_];exact U I hk
   exact D.elim
  exact D.elim
theorem JT{h:Nat->AB}(H:Ext h h'){b:Bool}{a:AV}{K:PV->List (Nat×AB)->Prop}(D:wa b h a K):∃x fz,K x fz/\∀z:PV->List (Nat×AB)->Prop,z x fz->wa b h' a z:=by
 unfold wa at D;split at D
 ·exact⟨_,_,D,fun z h=>h⟩
 rename_i I;obtain⟨x,fz,J,N⟩:=iu H D;refine⟨x,fz,J,fun z h=>?_⟩;unfold wa;split
 ·exact (I rfl rfl).elim
 exact N z h
theorem yj{h:Nat->AB}(H:Ext h h'){b:Bool}{size:Nat}:∀{ps:List (Nat×Operand)} {cs:List (List PV)} {K:List (List PV)->List (Nat×AB)->Prop},gG b h size rho ps cs K->∃x fz,K x fz/\∀I:List (List PV)->List (Nat×AB)->Prop,I x fz->gG b h' size rho ps cs I:=by
 intro ps
 induction ps with
 | nil=>intro cs K D;exact⟨_,_,D,fun I h=>h⟩
 | cons p ps ih=>
  intro cs K D;obtain⟨i,x⟩:=p;unfold gG at D;obtain⟨y,fz,D,J⟩:=JT H D;split at D
  ·rename_i ys N;split at D
   ·rename_i O;obtain⟨z,R,D,U⟩:=ih D;refine⟨z,fz++R,D,fun I h=>?_⟩;simp only[gG];refine J _ ?_;simp only[N,O];exact U _ h
   exact D.elim
  exact D.elim
theorem JU{h:Nat->AB}(H:Ext h h'){md:Nat->Bool}:∀{as:List AV} {j:Nat} {K:List Arg->List (Nat×AB)->List (Nat×AB)->Prop},gF md h j as K->∃xs ids fz,K xs ids fz/\∀I:List Arg->List (Nat×AB)->List (Nat×AB)->Prop,I xs ids fz->gF md h' j as I:=by
 intro as
 induction as with
 | nil=>intro j K z;exact⟨_,_,_,z,fun I h=>h⟩
 | cons a as ih=>
  intro j K z;unfold gF at z;split at z
  ·rename_i N;obtain⟨y,fz,z,R⟩:=iu H z;obtain⟨xs,ids,O,z,D⟩:=ih z;refine⟨_,_,_,z,fun I h=>?_⟩;simp only[gF,N];exact R _ (D _ h)
  rename_i N;split at z
  ·split at z
   ·rename_i J;obtain⟨xs,ids,O,z,D⟩:=ih z;refine⟨_,_,_,z,fun I h=>?_⟩;simp only[gF,N,H.row J];exact D _ h
   ·rename_i J;obtain⟨xs,ids,O,z,D⟩:=ih z;refine⟨_,_,_,z,fun I h=>?_⟩;simp only[gF,N,H.jA J];exact D _ h
   ·rename_i J;obtain⟨xs,ids,O,z,D⟩:=ih z;refine⟨_,_,_,z,fun I h=>?_⟩;simp only[gF,N,H.map J];exact D _ h
   exact z.elim
  ·obtain⟨xs,ids,O,z,D⟩:=ih z;refine⟨_,_,_,z,fun I h=>?_⟩;simp only[gF,N];exact D _ h
  ·split at z
   ·rename_i J;split at z
    ·rename_i U;obtain⟨xs,ids,O,z,D⟩:=ih z;refine⟨_,_,_,z,fun I h=>?_⟩;simp only[gF,N,H.box J,U];exact D _ h
    exact z.elim
   ·rename_i J;obtain⟨xs,ids,O,z,D⟩:=ih z;refine⟨_,_,_,z,fun I h=>?_⟩;simp only[gF,N,H.aN J];exact D _ h
   exact z.elim
  exact z.elim
variable {as:List AV}
theorem Gs{C:Ctx}{h:Nat->AB}(H:Ext h h'){d:Nat}{f:FuncId}{K:KK}(z:oI C h d f as K):∃v e n,K v e n/\∀D:KK,D v e n->oI C h' d f as D:=by
 unfold oI at z;obtain⟨xs,ids,fz,⟨r,fin,J,z⟩,N⟩:=JU H z;split at z
 ·rename_i O;split at z
  ·rename_i R;split at z
   ·rename_i I;refine⟨_,_,_,z,fun D h=>?_⟩;unfold oI;refine N _ ⟨r,fin,J,?_⟩;simp only[O,R,I];exact h
   rename_i I;refine⟨_,_,_,z,fun D h=>?_⟩;unfold oI;refine N _ ⟨r,fin,J,?_⟩;simp only[O,R,I];exact h
  exact z.elim
 exact z.elim
theorem nU.ext{h:Nat->AB}(H:Ext h h'){a:AV}{x:PV}(z:nU h a x):nU h' a x:=by
 cases z with
 | p=>exact .p _
 | nl=>exact .nl
 | row id e es hr=>exact .row id e es (H.row hr)
 | jA id es hr=>exact .jA id es (H.jA hr)
 | az id e es ps hr hp=>exact .az id e es ps (H.az hr) hp
theorem oJ.ext{h:Nat->AB}(H:Ext h h'){xs:List PV}(z:oJ h as xs):oJ h' as xs:=by
 induction z with
 | nil=>exact .nil
 | cons h1 _ ih=>exact .cons (h1.ext H) ih
theorem View.ext{h:Nat->AB}(H:Ext h h'){a:AV}{x:PV}(z:View h a x):View h' a x:=by
 cases z with
 | one h1=>exact .one (h1.ext H)
 | box id off cs xs hb hx=>exact .box id off cs xs (H.box hb) (hx.ext H)
 | jd id off xs hb=>exact .jd id off xs (H.jd hb)
theorem tb.ext{h:Nat->AB}(H:Ext h h'){xs:List PV}(z:tb h as xs):tb h' as xs:=by
 induction z with
 | nil=>exact .nil
 | cons h1 _ ih=>exact .cons (h1.ext H) ih
theorem Gt{h:Nat->AB}(H:Ext h h'):∀{as:List AV},Am (dZ h) as=true->Am (dZ h') as=true:=by
 intro as
 induction as with
 | nil=>intro h;cases h
 | cons a as ih=>
  intro D;unfold Am at D ⊢;split at D
  ·rename_i z;have:dZ h' a=true:=by
    unfold dZ at z ⊢;split at z
    ·split at z
     ·rename_i hb;simp only[H.box hb];exact z
     cases z
    ·split at z
     ·rename_i hb;simp only[H.az hb]
     cases z
    cases z
   rw[this]
  cases dZ h' a with
  | true=>rfl
  | false=>exact ih D
theorem JV{h:Nat->AB}(H:Ext h h'){a:AV}{K:PV->List (Nat×AB)->Prop}(I:dZ h a=false)(D:gD h a K):dZ h' a=false:=by
 cases a with
 | ow id=>
  simp only[gD,l8]at D;simp only[dZ]at I ⊢;split at D
  ·rename_i z;rw[H.row z]
  ·rename_i z;rw[H.jA z]
  exact D.elim
 | bx id off=>
  simp only[gD,l8]at D;simp only[dZ]at I ⊢;split at D
  ·rename_i z;rw[z]at I;rw[H.box z];exact I
  ·rename_i z;rw[H.jd z]
  exact D.elim
 | _=>rfl
theorem Gu{h:Nat->AB}(H:Ext h h'){md:Nat->Bool}:∀{as:List AV} {j:Nat} {K:List Arg->List (Nat×AB)->List (Nat×AB)->Prop},gF md h j as K->Am (dZ h) as=false->Am (dZ h') as=false:=by
 intro as
 induction as with
 | nil=>intro _ _ _ _;rfl
 | cons a as ih=>
  intro j K z I;unfold Am at I ⊢;split at I
  ·cases I
  rename_i J;have:dZ h' a=false/\∃(j:Nat) (K:List Arg->List (Nat×AB)->List (Nat×AB)->Prop),gF md h j as K:=by
   unfold gF at z;split at z
   ·obtain⟨x,fz,N,_⟩:=iu (fun _=>.inr rfl) z;exact⟨JV H J z,_,_,N⟩
   split at z
   ·rename_i id;split at z
    ·rename_i D;exact⟨by simp only[dZ];rw[H.row D],_,_,z⟩
    ·rename_i D;exact⟨by simp only[dZ];rw[H.jA D],_,_,z⟩
    ·rename_i D;exact⟨by simp only[dZ];rw[H.map D],_,_,z⟩
    exact z.elim
   ·exact⟨rfl,_,_,z⟩
   ·rename_i id;split at z
    ·rename_i D;split at z
     ·refine⟨?_,_,_,z⟩;simp only[dZ]at J ⊢;rw[D]at J;rw[H.box D];exact J
     exact z.elim
    ·rename_i D;exact⟨by simp only[dZ];rw[H.aN D],_,_,z⟩
    exact z.elim
   exact z.elim
  obtain⟨O,j',K',R⟩:=this;rw[O];exact ih R I
theorem Gv{h:Nat->AB}(H:Ext h h'){c:AV}(z:u7 h c=true):u7 h' c=true:=by
 unfold u7 at z ⊢;split at z
 ·rfl
 ·rfl
 ·split at z
  ·rename_i D;rw[H.row D]
  cases z
 ·rfl
 cases z
theorem JW{C:Ctx}{h:Nat->AB}(H:Ext h h'){f:FuncId}{K:KK}(z:xV C h f as K):∃v e n,K v e n/\∀D:KK,D v e n->xV C h' f as D:=by
 unfold xV at z;split at z
 ·split at z
  ·rename_i hb I;obtain⟨x,J,N,O,R,U,W⟩:=z;refine⟨_,_,_,W,fun D hk=>?_⟩;unfold xV;simp only[H.box hb,H.row I];exact⟨x,J,N,fun c Y=>Gv H (O c Y),R,U,hk⟩
  exact z.elim
 exact z.elim
theorem JX{C:Ctx}{h:Nat->AB}(H:Ext h h'){d:Nat}{f:FuncId}{K:KK}(z:tc C h d f as K):∃v e n,K v e n/\∀D:KK,D v e n->tc C h' d f as D:=by
 unfold tc at z;split at z
 ·rename_i O;have N:Am (dZ h') as=false:=Gu H (by unfold oI at z;exact z) O;obtain⟨v,e,n,I,J⟩:=Gs H z;exact⟨v,e,n,I,fun D hk=>by unfold tc;rw[N];exact J D hk⟩
 rename_i O;have N:=Gt H O;split at z
 ·rename_i R;obtain⟨xs,r,I,J,U,W⟩:=z;exact⟨_,_,_,W,fun D hk=>by unfold tc;rw[N,R];exact⟨xs,r,I.ext H,J,U,hk⟩⟩
 rename_i R;obtain⟨v,e,n,I,J⟩:=JW H z;exact⟨v,e,n,I,fun D hk=>by unfold tc;rw[N,R];exact J D hk⟩
theorem JY{C:Ctx}{h:Nat->AB}(H:Ext h h'){d:Nat}{f:FuncId}{K:KK}(z:v_ C h d f as K):∃v e n,K v e n/\∀D:KK,D v e n->v_ C h' d f as D:=by
 unfold v_ at z;split at z
 case h_2=>exact z.elim
 rename_i I;split at z
 case h_2=>exact z.elim
 rename_i J;split at z
 case h_2=>exact z.elim
 rename_i N;split at z
 case h_2=>exact z.elim
 rename_i O;obtain⟨xs,fz,⟨r,R,de,U,z⟩,W⟩:=A8 H z;split at z
 case h_2=>exact z.elim
 rename_i Y;split at z
 ·refine⟨_,_,_,z,fun D h=>?_⟩;unfold v_;simp only[I,H.gC J,N,H.row O];refine W _ ⟨r,R,_,U,?_⟩;simp only[Y];exact h
 refine⟨_,_,_,z,fun D h=>?_⟩;unfold v_;simp only[I,H.gC J,N,H.row O];refine W _ ⟨r,R,_,U,?_⟩;simp only[Y];exact h
theorem n9{k:IntKind}{n:Int}{K:Value->Prop}(z:u6 k n K):∃v,K v/\∀D:Value->Prop,D v->u6 k n D:=by
 unfold u6 at z;split at z
 ·rename_i h;exact⟨_,z.2,fun D hk=>by simp only[u6,h];exact⟨z.1,hk⟩⟩
 rename_i h;exact⟨_,z,fun D hk=>by simp only[u6,h];exact hk⟩
theorem D1{T:TypeId->Option TI}{op:BinOp}{t:TypeId}{x:PV}{K:Value->Prop}(z:Js T op t x K):∃v,K v/\∀D:Value->Prop,D v->Js T op t x D:=by
 unfold Js at z;split at z
 case h_2=>exact z.elim
 split at z
 case h_1=>exact z.elim
 rename_i I;split at z
 case h_2=>exact z.elim
 rename_i J;split at z<;>first
  | exact z.elim
  | exact⟨_,z,fun D h=>by simp only[Js,I,J];exact h⟩
theorem D2{T:TypeId->Option TI}{op:BinOp}{t:TypeId}{x y:PV}{K:Value->Prop}(z:sj T op t x y K):∃v,K v/\∀D:Value->Prop,D v->sj T op t x y D:=by
 unfold sj at z;split at z
 ·split at z
  ·rename_i I;exact⟨_,z.2,fun D h=>by simp only[sj,I];exact⟨z.1,h⟩⟩
  rename_i I;split at z
  ·exact z.elim
  rename_i hk;split at z<;>first
   | exact z.elim
   | (obtain⟨v,N,O⟩:=n9 z;exact⟨v,N,fun D h=>by simp only[sj,hk,I];exact O D h⟩)
   | (obtain⟨v,N,O⟩:=n9 z.2;exact⟨v,N,fun D h=>by simp only[sj,hk,I];exact⟨z.1,O D h⟩⟩)
   | exact⟨_,z,fun D h=>by simp only[sj,hk,I];exact h⟩
   | exact⟨_,z.2,fun D h=>by simp only[sj,hk,I];exact⟨z.1,h⟩⟩
 ·split at z<;>first
   | exact z.elim
   | exact⟨_,z,fun D h=>by simp only[sj];exact h⟩
   | exact⟨_,z.2,fun D h=>by simp only[sj];exact⟨z.1,h⟩⟩
 ·split at z
  ·rename_i J;split at z<;>first
    | exact z.elim
    | exact⟨_,z,fun D h=>by simp only[sj,J];exact h⟩
  exact z.elim
 ·split at z
  ·rename_i J;split at z
   ·exact z.elim
   rename_i U;split at z
   ·split at z
    ·rename_i R;exact⟨_,z,fun D h=>by simp only[sj,J,U,R];exact h⟩
    exact z.elim
   ·split at z
    ·rename_i R;exact⟨_,z,fun D h=>by simp only[sj,J,U,R];exact h⟩
    exact z.elim
   exact z.elim
  exact z.elim
 exact z.elim
theorem afw{h:Nat->AB}(H:Ext h h'){C:Ctx}{t:TypeId}{x:Operand}{lo hi:Option Operand}{K:KK}(D:gm C rho h t x lo hi K):∃v e n,K v e n/\∀I:KK,I v e n->gm C rho h' t x lo hi I:=by
 simp only[gm]at D;split at D
 ·rename_i J;split at D
  ·rename_i N;split at D
   ·rename_i O R;exact⟨_,_,_,D.2,fun I h=>by simp only[gm,J,N,O,R];exact⟨D.1,h⟩⟩
   exact D.elim
  exact D.elim
 ·rename_i J;split at D
  ·exact D.elim
  rename_i N;obtain⟨z,fz,D,U⟩:=iu H D;split at D
  ·split at D
   ·rename_i O R;refine⟨_,_,_,D.2,fun I h=>?_⟩;simp only[gm,J,N];refine U _ ?_;simp only[O,R];exact⟨D.1,h⟩
   exact D.elim
  exact D.elim
 exact D.elim
theorem JZ{C:Ctx}{t:TypeId}{lo hi:Option Operand}{e':TypeId}{K:KK}(z:td C rho t lo hi id e' es K):∃v e n,K v e n/\∀D:KK,D v e n->td C rho t lo hi id e' es D:=by
 unfold td at z;split at z
 ·rename_i I;split at z
  ·rename_i J;split at z
   ·rename_i N O;exact⟨_,_,_,z.2,fun D h=>by simp only[td,I,J,N,O];exact⟨z.1,h⟩⟩
   exact z.elim
  exact z.elim
 exact z.elim
theorem q_{C:Ctx}{o:Oper}{h:Nat->AB}(H:Ext h h'){K:KK}(D:bV C o rho h K):∃v e n,K v e n/\∀O:KK,O v e n->bV C o rho h' O:=by
 cases R:o.op<;>simp only[bV,R]at D
 case move x=>exact⟨_,_,_,D,fun O h=>by simp only[bV,R];exact h⟩
 case assign x=>exact⟨_,_,_,D,fun O h=>by simp only[bV,R];exact h⟩
 case pick c a b=>
  split at D
  ·rename_i I;split at D
   ·exact⟨_,_,_,D,fun O h=>by simp only[bV,R,I];exact h⟩
   exact⟨_,_,_,D,fun O h=>by simp only[bV,R,I];exact h⟩
  exact D.elim
 case alloc e=>
  split at D
  ·rename_i I;split at D
   ·rename_i J;exact⟨_,_,_,D,fun O h=>by simp only[bV,R,I,J];exact h⟩
   rename_i J;exact⟨_,_,_,D,fun O h=>by simp only[bV,R,I,J];exact h⟩
  exact D.elim
 case box e x=>
  split at D
  ·rename_i I;exact⟨_,_,_,D,fun O h=>by simp only[bV,R,I];exact h⟩
  ·rename_i I;exact⟨_,_,_,D,fun O h=>by simp only[bV,R,I];exact h⟩
  rename_i I tq;split at D
  ·rename_i J;have N:=tD H J;refine⟨_,_,_,D,fun O h=>?_⟩;simp only[bV,R];cases RT:rho x with
   | p y=>
    cases y with
    | ag cs=>exact (I cs RT).elim
    | _=>rw[RT]at N h;simp only[N];exact h
   | st xs=>exact (tq xs RT).elim
   | _=>rw[RT]at N h;simp only[N];exact h
  exact D.elim
 case binOp op t x y t'=>
  split at D
  ·rename_i I J;obtain⟨v,N,U⟩:=D2 D;exact⟨_,_,_,N,fun O h=>by simp only[bV,R,I,J];exact U _ h⟩
  ·rename_i I J;obtain⟨v,N,U⟩:=D1 D;exact⟨_,_,_,N,fun O h=>by simp only[bV,R,I,J];exact U _ h⟩
  exact D.elim
 case unOp op t x=>
  split at D
  ·rename_i I;exact⟨_,_,_,D,fun O h=>by simp only[bV,R,I];exact h⟩
  ·rename_i I;obtain⟨v,N,U⟩:=n9 D;exact⟨_,_,_,N,fun O h=>by simp only[bV,R,I];exact U _ h⟩
  exact D.elim
 case convert src dst x=>
  split at D
  ·rename_i I J N;obtain⟨v,Z,U⟩:=n9 D;exact⟨_,_,_,Z,fun O h=>by simp only[bV,R,I,J,N];exact U _ h⟩
  ·rename_i I J N;exact⟨_,_,_,D,fun O h=>by simp only[bV,R,I,J,N];exact h⟩
  ·rename_i I J N;exact⟨_,_,_,D,fun O h=>by simp only[bV,R,I,J,N];exact h⟩
  exact D.elim
 case nilCheck x=>
  split at D
  ·rename_i I;exact⟨_,_,_,D,fun O h=>by simp only[bV,R,I];exact h⟩
  ·rename_i I;split at D
   ·rename_i J;exact⟨_,_,_,D,fun O h=>by simp only[bV,R,I,H.box J];exact h⟩
   ·rename_i J;exact⟨_,_,_,D,fun O h=>by simp only[bV,R,I,H.jd J];exact h⟩
   exact D.elim
  ·rename_i I;split at D
   ·rename_i J;exact⟨_,_,_,D,fun O h=>by simp only[bV,R,I,H.row J];exact h⟩
   ·rename_i J;exact⟨_,_,_,D,fun O h=>by simp only[bV,R,I,H.az J];exact h⟩
   exact D.elim
  exact D.elim
 case extract x i=>
  split at D
  ·rename_i I;split at D
   ·rename_i J;exact⟨_,_,_,D,fun O h=>by simp only[bV,R,I,J];exact h⟩
   exact D.elim
  exact D.elim
 case load t x=>
  split at D
  ·exact D.elim
  rename_i W;split at D
  ·rename_i I;split at D
   ·rename_i J;split at D
    ·rename_i N;exact⟨_,_,_,D,fun O h=>by simp only[bV,R,W,I,J,N];exact h⟩
    exact D.elim
   rename_i J;split at D
   ·exact⟨_,_,_,D,fun O h=>by simp only[bV,R,W,I,J];exact h⟩
   exact D.elim
  ·rename_i I;split at D
   ·rename_i J;split at D
    ·rename_i N;split at D
     ·rename_i U Z;exact⟨_,_,_,D,fun O h=>by simp only[bV,R,W,I,H.box J,N,U,Z];exact h⟩
     exact D.elim
    rename_i N;split at D
    ·rename_i U;exact⟨_,_,_,D,fun O h=>by simp only[bV,R,W,I,H.box J,N,U];exact h⟩
    exact D.elim
   ·rename_i J;split at D
    ·rename_i N;split at D
     ·rename_i U;exact⟨_,_,_,D,fun O h=>by simp only[bV,R,W,I,H.jd J,N,U];exact h⟩
     exact D.elim
    rename_i N;split at D
    ·rename_i U;exact⟨_,_,_,D,fun O h=>by simp only[bV,R,W,I,H.jd J,N,U];exact h⟩
    exact D.elim
   exact D.elim
  ·rename_i I;split at D
   ·rename_i J;obtain⟨r,hr,D⟩:=D;split at D
    ·rename_i N;split at D
     ·rename_i U;exact⟨_,_,_,D,fun O h=>by simp only[bV,R,W,I,H.row J];refine⟨r,hr,?_⟩;simp only[N,U];exact h⟩
     exact D.elim
    rename_i N;split at D
    ·rename_i U;exact⟨_,_,_,D,fun O h=>by simp only[bV,R,W,I,H.row J];refine⟨r,hr,?_⟩;simp only[N,U];exact h⟩
    exact D.elim
   ·rename_i J;obtain⟨r,hr,D⟩:=D;split at D
    ·exact D.elim
    rename_i N;split at D
    ·rename_i U;exact⟨_,_,_,D,fun O h=>by simp only[bV,R,W,I,H.az J];refine⟨r,hr,?_⟩;simp only[N,U];exact h⟩
    exact D.elim
   exact D.elim
  exact D.elim
 case store t x y=>
  split at D
  ·exact D.elim
  rename_i W;split at D
  ·rename_i I;split at D
   ·rename_i J;split at D
    ·rename_i N;obtain⟨z,fz,D,Y⟩:=iu H D;split at D
     ·split at D
      ·rename_i U;refine⟨_,_,_,D,fun O h=>?_⟩;simp only[bV,R,W,I,H.box J,N];refine Y _ ?_;simp only[U];exact h
      exact D.elim
     exact D.elim
    rename_i N;split at D
    ·rename_i U;simp only[aaZ]at U;have Z:=tD H U.2;refine⟨_,_,_,D,fun O h=>?_⟩;simp only[bV,R,W,I,H.box J,N,U.1.1,U.1.2,Z,ac_];exact h
    exact D.elim
   exact D.elim
  ·rename_i I;split at D
   ·rename_i J;obtain⟨r,hr,D⟩:=D;obtain⟨z,fz,D,Y⟩:=iu H D;split at D
    ·rename_i N;split at D
     ·rename_i U;refine⟨_,_,_,D,fun O h=>?_⟩;simp only[bV,R,W,I,H.row J];refine⟨r,hr,Y _ ?_⟩;simp only[N,U];exact h
     exact D.elim
    exact D.elim
   ·rename_i J;obtain⟨r,hr,D⟩:=D;split at D
    ·exact D.elim
    rename_i N;split at D
    ·rename_i U;simp only[aaZ]at U;have Z:=tD H U.2;refine⟨_,_,_,D,fun O h=>?_⟩;simp only[bV,R,W,I,H.az J];refine⟨r,hr,?_⟩;simp only[N,U.1.1,U.1.2,Z,ac_];exact h
    exact D.elim
   exact D.elim
  exact D.elim
 case fieldAddr t x f=>
  split at D
  ·rename_i W;split at D
   ·rename_i I;split at D
    ·rename_i J;exact⟨_,_,_,D,fun O h=>by simp only[bV,R,W,I,J];exact h⟩
    ·rename_i id o' J;split at D
     ·exact D.elim
     rename_i b8;refine⟨_,_,_,D,fun O h=>?_⟩;simp only[bV,R,W,I,J];rcases H id with U | U
     ·exact absurd U (by simpa using b8)
     rw[U];split
     ·rename_i Z;exact absurd Z (by simpa using b8)
     exact h
    ·rename_i J;split at D
     ·rename_i N;exact⟨_,_,_,D,fun O h=>by simp only[bV,R,W,I,J,H.row N];exact h⟩
     ·rename_i N;exact⟨_,_,_,D,fun O h=>by simp only[bV,R,W,I,J,H.az N];exact h⟩
     exact D.elim
    exact D.elim
   exact D.elim
  exact D.elim
 case field t x f=>
  split at D
  ·rename_i W QB;split at D
   ·rename_i I;split at D
    ·split at D
     ·rename_i N;exact⟨_,_,_,D,fun O h=>by simp only[bV,R,W,QB,I,N];exact h⟩
     exact D.elim
    split at D
    ·rename_i N;exact⟨_,_,_,D,fun O h=>by simp only[bV,R,W,QB,I,N];exact h⟩
    exact D.elim
   exact D.elim
  exact D.elim
 case indexAddr t x ix=>
  split at D
  ·rename_i W QB;split at D
   ·exact D.elim
   rename_i I;split at D
   ·rename_i J;obtain⟨r,hr,D⟩:=D;split at D
    ·rename_i N;exact⟨_,_,_,D,fun O h=>by simp only[bV,R,W,QB,I,J];refine⟨r,hr,?_⟩;simp only[N];exact h⟩
    exact D.elim
   ·rename_i J;split at D
    ·rename_i N;split at D
     ·rename_i U;exact⟨_,_,_,D.2,fun O h=>by simp only[bV,R,W,QB,I,J,H.row N,U];exact⟨D.1,h⟩⟩
     exact D.elim
    ·rename_i N;split at D
     ·rename_i U;exact⟨_,_,_,D.2,fun O h=>by simp only[bV,R,W,QB,I,J,H.az N,U];exact⟨D.1,h⟩⟩
     exact D.elim
    ·rename_i N;obtain⟨r,hr,D⟩:=D;split at D
     ·rename_i U;exact⟨_,_,_,D,fun O h=>by simp only[bV,R,W,QB,I,J,H.jA N];refine⟨r,hr,?_⟩;simp only[U];exact h⟩
     exact D.elim
    exact D.elim
   ·rename_i J;split at D
    ·rename_i N;split at D
     ·rename_i U;exact⟨_,_,_,D.2,fun O h=>by simp only[bV,R,W,QB,I,J,H.row N,U];exact⟨D.1,h⟩⟩
     exact D.elim
    exact D.elim
   exact D.elim
  exact D.elim
 case index t x ix=>
  split at D
  ·rename_i W I J;obtain⟨b,hb,D⟩:=D;exact⟨_,_,_,D,fun O h=>by simp only[bV,R,W,I,J];exact⟨b,hb,h⟩⟩
  exact D.elim
 case slice t x lo hi mx=>
  cases mx with
  | some m=>exact D.elim
  | none=>
   simp only at D;split at D
   ·rename_i id hid;split at D
    ·rename_i e' es hr;rcases D with D | D
     ·obtain⟨v,e,n,D,Y⟩:=JZ D;exact⟨v,e,n,D,fun O h=>by simp only[bV,R,hid,H.row hr];exact .inl (Y _ h)⟩
     obtain⟨v,e,n,D,Y⟩:=afw H D;exact⟨v,e,n,D,fun O h=>by simp only[bV,R,hid,H.row hr];exact .inr (Y _ h)⟩
    rename_i b8;obtain⟨v,e,n,D,Y⟩:=afw H D;refine⟨v,e,n,D,fun O h=>?_⟩;simp only[bV,R,hid];split
    ·exact .inr (Y _ h)
    exact Y _ h
   rename_i b8;obtain⟨v,e,n,D,Y⟩:=afw H D;refine⟨v,e,n,D,fun O h=>?_⟩;simp only[bV,R]
   first
    | exact Y _ h
    | (
      split
      ·rename_i id hid;exact absurd hid (b8 id)
      exact Y _ h)
 case makeMap t r=>
  cases r with
  | some _=>exact D.elim
  | none=>
   simp only at D;split at D
   ·rename_i W;split at D
    ·rename_i I;split at D
     ·rename_i J;exact⟨_,_,_,D,fun O h=>by simp only[bV,R,W,I,J];exact h⟩
     exact D.elim
    exact D.elim
   exact D.elim
 case lookup t x i ck=>
  split at D
  case h_2=>exact D.elim
  rename_i W;split at D
  case h_2=>exact D.elim
  rename_i I J;split at D
  case h_2=>exact D.elim
  rename_i N;split at D
  case h_2=>exact D.elim
  rename_i U;split at D
  case h_2=>exact D.elim
  rename_i Z;split at D
  case h_2=>exact D.elim
  rename_i h6;split at D
  case h_2=>exact D.elim
  rename_i h7;obtain⟨r,hr,D⟩:=D;cases ck with
  | true=>exact⟨_,_,_,D,fun O h=>by simp only[bV,R,W,I,J,N,U,H.map Z,h6,h7];exact⟨r,hr,h⟩⟩
  | false=>exact⟨_,_,_,D,fun O h=>by simp only[bV,R,W,I,J,N,U,H.map Z,h6,h7];exact⟨r,hr,h⟩⟩
 case mapUpdate t x i y=>
  split at D
  case h_2=>exact D.elim
  rename_i W;split at D
  case h_2=>exact D.elim
  rename_i I;split at D
  case h_2=>exact D.elim
  rename_i N;split at D
  case h_2=>exact D.elim
  rename_i U;split at D
  case h_2=>exact D.elim
  rename_i Z;split at D
  case h_2=>exact D.elim
  rename_i h6;split at D
  case h_2=>exact D.elim
  rename_i h7;obtain⟨z,fz,D,Y⟩:=iu H D;split at D
  case h_2=>exact D.elim
  rename_i h8;refine⟨_,_,_,D,fun O h=>?_⟩;simp only[bV,R,W,I,N,U,H.map Z,h6,h7];refine Y _ ?_;simp only[h8];exact h
 case build t ps=>
  split at D
  ·rename_i W;split at D
   ·rename_i I;obtain⟨z,fz,D,Y⟩:=JS H D;exact⟨_,_,_,D,fun O h=>by simp only[bV,R,W,I];exact Y _ h⟩
   rename_i I;obtain⟨z,D,Y⟩:=A9 H D;exact⟨_,_,_,D,fun O h=>by simp only[bV,R,W,I];exact Y _ h⟩
  exact D.elim
 case buildSlice t len ps=>
  split at D
  ·rename_i W;split at D
   ·rename_i I;split at D
    ·rename_i J;split at D
     ·rename_i N;obtain⟨z,fz,D,Y⟩:=yj H D;exact⟨_,_,_,D,fun O h=>by simp only[bV,R,W,I,J,N];exact Y _ h⟩
     rename_i N;obtain⟨z,fz,D,Y⟩:=yj H D;exact⟨_,_,_,D,fun O h=>by simp only[bV,R,W,I,J,N];exact Y _ h⟩
    exact D.elim
   exact D.elim
  exact D.elim
 case makeSlice t n c=>
  split at D
  ·rename_i W I J;split at D
   ·rename_i N;split at D
    ·rename_i U;exact⟨_,_,_,D.2,fun O h=>by simp only[bV,R,W,I,J,N,U];exact⟨D.1,h⟩⟩
    exact D.elim
   exact D.elim
  exact D.elim
 case makeFunc fn first cap=>
  cases fn with
  | func f=>
   simp only at D;split at D
   ·rename_i I;exact⟨_,_,_,D,fun O h=>by simp only[bV,R,I];exact h⟩
   exact D.elim
  | _=>exact D.elim
 case call c=>
  split at D
  ·rename_i W;split at D
   ·rename_i I J;split at D
    ·rename_i N;split at D
     ·rename_i U;exact⟨_,_,_,D,fun O h=>by simp only[bV,R,W,I,J,N,U];exact h⟩
     exact D.elim
    ·rename_i N;split at D
     ·rename_i m hm;exact⟨_,_,_,D,fun O h=>by simp only[bV,R,W,I,J,N,JQ H hm];exact h⟩
     have hn:=JR H D;obtain⟨es,D,Y⟩:=yi H D;exact⟨_,_,_,D,fun O h=>by simp only[bV,R,W,I,J,N,hn];exact Y _ h⟩
    ·rename_i N;split at D
     ·rename_i U;split at D
      ·rename_i Z;exact⟨_,_,_,D,fun O h=>by simp only[bV,R,W,I,J,N,U,H.map Z];exact h⟩
      exact D.elim
     exact D.elim
    exact D.elim
   exact D.elim
  ·rename_i W;split at D
   case h_2=>exact D.elim
   rename_i I J;split at D
   case h_2=>exact D.elim
   rename_i N;split at D
   case h_2=>exact D.elim
   rename_i U;split at D
   case h_2=>exact D.elim
   rename_i Z;split at D
   case h_2=>exact D.elim
   rename_i h6;split at D
   case h_2=>exact D.elim
   rename_i h7;exact⟨_,_,_,D.2,fun O h=>by simp only[bV,R,W,I,J,N,U,Z,H.row h6,h7];exact⟨D.1,h⟩⟩
  ·rename_i W;split at D
   ·rename_i I;split at D
    ·rename_i J N;exact⟨_,_,_,D,fun O h=>by simp only[bV,R,W,I,J,N];exact h⟩
    exact D.elim
   exact D.elim
  ·rename_i W;split at D
   ·rename_i I;split at D
    ·rename_i J N;exact⟨_,_,_,D,fun O h=>by simp only[bV,R,W,I,J,N];exact h⟩
    exact D.elim
   ·rename_i I;split at D
    ·rename_i J N U;exact⟨_,_,_,D,fun O h=>by simp only[bV,R,W,I,J,N,U];exact h⟩
    exact D.elim
   ·rename_i I;split at D
    ·rename_i J N U Z h6;exact⟨_,_,_,D,fun O h=>by simp only[bV,R,W,I,J,N,U,Z,h6];exact h⟩
    exact D.elim
   exact D.elim
  ·rename_i W;split at D
   ·rename_i I J;split at D
    ·rename_i N U;split at D
     ·rename_i Z;split at D
      ·rename_i h6;obtain⟨es,D,Y⟩:=yi H D;split at D
       ·rename_i h7;refine⟨_,_,_,D.2,fun O h=>?_⟩;simp only[bV,R,W,I,J,N,U,Z,h6];refine Y _ ?_;simp only[h7];exact⟨D.1,h⟩
       ·rename_i h7;split at D
        ·rename_i h8;split at D
         ·rename_i h9;refine⟨_,_,_,D.2,fun O h=>?_⟩;simp only[bV,R,W,I,J,N,U,Z,h6];refine Y _ ?_;simp only[h7,H.row h8,h9];exact⟨D.1,h⟩
         exact D.elim
        ·rename_i h8;split at D
         ·rename_i h9;refine⟨_,_,_,D.2,fun O h=>?_⟩;simp only[bV,R,W,I,J,N,U,Z,h6];refine Y _ ?_;simp only[h7,H.az h8,h9];exact⟨D.1,h⟩
         exact D.elim
        exact D.elim
       exact D.elim
      exact D.elim
     exact D.elim
    exact D.elim
   exact D.elim
  ·rename_i W;split at D
   ·rename_i I;split at D
    ·rename_i J;obtain⟨v,e,n,D,Y⟩:=JX H D;exact⟨_,_,_,D,fun O h=>by simp only[bV,R,W,I,J];exact Y _ h⟩
    rename_i J;obtain⟨v,e,n,D,Y⟩:=JY H D;exact⟨_,_,_,D,fun O h=>by simp only[bV,R,W,I,J];exact Y _ h⟩
   exact D.elim
  exact D.elim
 all_goals exact D.elim
theorem L7(A:cD)(o:Oper):iE A o:=by
 cases z:o.op
 case move x=>exact OA x z
 case assign x=>exact Ju x z
 case pick c x y=>exact OB c x y z
 case alloc e=>exact LC e z
 case box e x=>exact Rw e x z
 case build t ps=>exact LO t ps z
 case buildSlice t n ps=>exact Ap t n ps z
 case load t x=>exact OF t x z
 case store t x y=>exact LH t x y z
 case nilCheck x=>exact DR x z
 case binOp op t x y t'=>exact Lv op t x y t' z
 case unOp op t x=>exact OE op t x z
 case convert s d x=>exact Gb s d x z
 case makeFunc fn first cap=>
  cases fn with
  | func f=>exact DS f first cap z
  | _=>intro V L S rho s a w K next Q hC D J N I;simp only[bV,z]at I
 case makeSlice t n c=>exact Co t n c z
 case makeMap t r=>
  cases r with
  | none=>exact Gh t z
  | some r=>intro V L S rho s a w K next Q hC D J N I;simp only[bV,z]at I
 case lookup t x i ck=>exact JH t x i ck z
 case mapUpdate t x i y=>exact Cr t x i y z
 case slice t x lo hi mx=>
  cases mx with
  | none=>exact ok_slice t x lo hi z
  | some m=>intro V L S rho s a w K next Q hC D J N I;simp only[bV,z]at I
 case fieldAddr t x f=>exact Ci t x f z
 case field t x f=>exact Ly t x f z
 case indexAddr t x ix=>exact Ck t x ix z
 case index t x ix=>exact Lz t x ix z
 case extract x i=>exact F_ x i z
 case call c=>
  cases hc:c.callee with
  | value g=>exact OZ c g z hc
  | invoke r m=>intro V L S rho s a w K next Q hC D J N I;simp only[bV,z,hc,aeC,fy]at I
  | builtin b=>
   cases b
   case len=>exact RA c z hc
   case min=>exact RB c z hc
   case max=>exact RC c z hc
   case append=>exact JD c z hc
   case clear=>exact LV c z hc
   all_goals (intro V L S rho s a w K next Q hC D J N I;simp only[bV,z,hc,aeC,fy]at I)
 all_goals (intro V L S rho s a w K next Q hC D J N I;simp only[bV,z]at I)
end Go.AM
namespace Go.AM
open Go.RowKit
def cq(a b:Nat):Bool:=Nat.beq a b
theorem a7{a b:Nat}:cq a b=true↔a=b:=by unfold cq;exact⟨aa2,fun h=>by subst h;simp⟩
mutual
def rQ(d:Nat):AV->Bool
 | .ow i=>cq i d
 | .rp i _ _=>cq i d
 | .bx i _=>cq i d
 | .vw i _ _=>cq i d
 | .fn _ cap=>gI d cap
 | .tu xs=>gI d xs
 | .st xs=>gI d xs
 | _=>false
def gI(d:Nat):List AV->Bool
 | []=>false
 | x::r=>rQ d x||gI d r
end
def rn(i d:Nat):AV->AV
 | .ow k=>match cq k i with
  | true=>.ow d
  | false=>match cq k d with
   | true=>.junk
   | false=>.ow k
 | .rp k a b=>match cq k i with
  | true=>.rp d a b
  | false=>match cq k d with
   | true=>.junk
   | false=>.rp k a b
 | .bx k a=>match cq k i with
  | true=>.bx d a
  | false=>match cq k d with
   | true=>.junk
   | false=>.bx k a
 | .vw k a b=>match cq k i with
  | true=>.vw d a b
  | false=>match cq k d with
   | true=>.junk
   | false=>.vw k a b
 | .fn f cap=>match gI i cap||gI d cap with
  | true=>.junk
  | false=>.fn f cap
 | .tu xs=>match gI i xs||gI d xs with
  | true=>.junk
  | false=>.tu xs
 | .st xs=>match gI i xs||gI d xs with
  | true=>.junk
  | false=>.st xs
 | x=>x
def HX.cS(f:AV->AV):HX->HX
 | .av x=>.av (f x)
 | .row e es=>.row e es
def L8(i d:Nat):AB->AB
 | .az e es=>.az e (es.map fun r=>r.map (HX.cS (rn i d)))
 | .box cs=>.box (cs.map (rn i d))
 | .gC ty cs=>.gC ty (cs.map (rn i d))
 | b=>b
def mR(i d:Nat)(s:AS):AS:=⟨fun j=>rn i d (s.t j),fun j=>match cq j d with
 | true=>L8 i d (s.h i)
 | false=>match cq j i with
  | true=>.none
  | false=>L8 i d (s.h j)⟩
def sc(d:Nat):AV->AV
 | .p x=>.p x
 | .nl=>.nl
 | .ow i=>match cq i d with
  | true=>.junk
  | false=>.ow i
 | .rp i a b=>match cq i d with
  | true=>.junk
  | false=>.rp i a b
 | .bx i a=>match cq i d with
  | true=>.junk
  | false=>.bx i a
 | .vw i a b=>match cq i d with
  | true=>.junk
  | false=>.vw i a b
 | .fn f cap=>match gI d cap with
  | true=>.junk
  | false=>.fn f cap
 | .tu xs=>match gI d xs with
  | true=>.junk
  | false=>.tu xs
 | .st xs=>match gI d xs with
  | true=>.junk
  | false=>.st xs
 | .junk=>.junk
theorem L9(d:Nat)(x:AV):sc d x=match rQ d x with
  | true=>.junk
  | false=>x:=by cases x<;>rfl
def xm(d:Nat):AB->AB
 | .az e es=>.az e (es.map fun r=>r.map (HX.cS (sc d)))
 | .box cs=>.box (cs.map (sc d))
 | .gC ty cs=>.gC ty (cs.map (sc d))
 | b=>b
def gX(d:Nat)(s:AS):AS:=⟨fun j=>sc d (s.t j),aT (fun k=>xm d (s.h k)) d .none⟩
def cE:Nat->Prop:=fun _=>True
theorem ve(i d:Nat)(b:AB):(L8 i d b).there↔b.there:=by cases b<;>rfl
theorem D3(i d:Nat)(b:AB):(L8 i d b).live↔b.live:=by cases b<;>rfl
structure D4(L L':Nat->Prop)(rho rho':Nat->Value)(h h':Nat->AB)(i d:Nat):Prop where
 old:∀k,k≠i->k≠d->((h' k).there->(h k).there)/\(L k->L' k)/\rho' k=rho k/\(∀e,(h' k).oG=some e->(h k).oG=some e)
 new:i≠d->((h' d).there->(h i).there)/\(L i->L' d)/\rho' d=rho i/\(∀e,(h' d).oG=some e->(h i).oG=some e)
theorem cX{d:Nat}:∀{xs:List AV},gI d xs=false->∀x∈xs,rQ d x=false:=by
 intro xs
 induction xs with
 | nil=>intro _ x z;cases z
 | cons y xs ih=>
  intro h x z;simp only[gI,adX]at h;rcases adq.1 z with e | e
  ·rw[e];exact h.1
  exact ih h.2 x e
variable {w:World} {L L':Nat->Prop} {rho:Nat->Value} {h':Nat->AB}
theorem aY.qn{S:Nat->Prop}{P:Program}{rho':Nat->Value}{h:Nat->AB}{i d:Nat}(T:D4 L L' rho rho' h h' i d){x:AV}{v:Value}(Y:aY S w P L rho h x v)(z:rQ i x=false)(D:rQ d x=false):aY S w P L' rho' h' x v:=by
 induction Y with
 | p x v Y=>exact .p x v Y
 | nl=>exact .nl
 | ow k v hv=>
  have e1:k≠i:=fun e=>by rw[rQ,a7.2 e]at z;cases z
  have e2:k≠d:=fun e=>by rw[rQ,a7.2 e]at D;cases D
  obtain⟨J,N,O,R⟩:=T.old k e1 e2;exact .ow k v fun U=>⟨N (hv (J U)).1,by rw[O];exact (hv (J U)).2⟩
 | rp k a b v hv=>
  have e1:k≠i:=fun e=>by rw[rQ,a7.2 e]at z;cases z
  have e2:k≠d:=fun e=>by rw[rQ,a7.2 e]at D;cases D
  obtain⟨J,N,O,R⟩:=T.old k e1 e2;exact .rp k a b v fun e Z=>by obtain⟨q1,q2⟩:=hv e (R e Z);exact⟨N q1,by rw[O];exact q2⟩
 | bx k a v hv=>
  have e1:k≠i:=fun e=>by rw[rQ,a7.2 e]at z;cases z
  have e2:k≠d:=fun e=>by rw[rQ,a7.2 e]at D;cases D
  obtain⟨J,N,O,R⟩:=T.old k e1 e2;exact .bx k a v fun U=>⟨N (hv (J U)).1,by rw[O];exact (hv (J U)).2⟩
 | vw k a b v hv=>
  have e1:k≠i:=fun e=>by rw[rQ,a7.2 e]at z;cases z
  have e2:k≠d:=fun e=>by rw[rQ,a7.2 e]at D;cases D
  obtain⟨J,N,O,R⟩:=T.old k e1 e2;exact .vw k a b v fun e Z=>by obtain⟨q1,q2⟩:=hv e (R e Z);exact⟨N q1,by rw[O];exact q2⟩
 | fn f cap vs hl hc ih=>exact .fn f cap vs hl fun j c u I W=>ih j c u I W (cX z c (aad I)) (cX D c (aad I))
 | tu xs vs hl hc ih=>exact .tu xs vs hl fun j c u I W=>ih j c u I W (cX z c (aad I)) (cX D c (aad I))
 | st xs vs hl h0 hc ih=>exact .st xs vs hl h0 fun j c u I W=>ih j c u I W (cX z c (aad I)) (cX D c (aad I))
 | junk v=>exact .junk v
theorem aY.rn{S:Nat->Prop}{P:Program}{rho':Nat->Value}{h:Nat->AB}{i d:Nat}(T:D4 L L' rho rho' h h' i d)(hid:i≠d\/∀k,k=d->¬(h' k).there ){x:AV}{v:Value}(hx:aY S w P L rho h x v):aY S w P L' rho' h' (rn i d x) v:=by
 have z:i=d->¬(h' d).there:=fun e=>hid.resolve_left (fun h=>h e) d rfl;cases hx with
 | p x v hx=>exact .p x v hx
 | nl=>exact .nl
 | ow k v hv=>
  unfold AM.rn;simp only;split
  ·rename_i hk;have hk:=a7.1 hk;subst hk;refine .ow d v fun J=>?_;by_cases e:k=d
   ·exact absurd J (z e)
   obtain⟨N,O,R,W⟩:=T.new e;exact⟨O (hv (N J)).1,by rw[R];exact (hv (N J)).2⟩
  rename_i hk;split
  ·exact .junk v
  rename_i U;exact aY.qn T (.ow k v hv) (by simpa [rQ] using hk) (by simpa [rQ] using U)
 | rp k a b v hv=>
  unfold AM.rn;simp only;split
  ·rename_i hk;have hk:=a7.1 hk;subst hk;refine .rp d a b v fun e Y=>?_;by_cases e':k=d
   ·exact absurd (oK Y) (z e')
   obtain⟨N,O,R,W⟩:=T.new e';obtain⟨q1,q2⟩:=hv e (W e Y);exact⟨O q1,by rw[R];exact q2⟩
  rename_i hk;split
  ·exact .junk v
  rename_i U;exact aY.qn T (.rp k a b v hv) (by simpa [rQ] using hk) (by simpa [rQ] using U)
 | vw k a b v hv=>
  unfold AM.rn;simp only;split
  ·rename_i hk;have hk:=a7.1 hk;subst hk;refine .vw d a b v fun e Y=>?_;by_cases e':k=d
   ·exact absurd (oK Y) (z e')
   obtain⟨N,O,R,W⟩:=T.new e';obtain⟨q1,q2⟩:=hv e (W e Y);exact⟨O q1,by rw[R];exact q2⟩
  rename_i hk;split
  ·exact .junk v
  rename_i U;exact aY.qn T (.vw k a b v hv) (by simpa [rQ] using hk) (by simpa [rQ] using U)
 | bx k a v hv=>
  unfold AM.rn;simp only;split
  ·rename_i hk;have hk:=a7.1 hk;subst hk;refine .bx d a v fun J=>?_;by_cases e:k=d
   ·exact absurd J (z e)
   obtain⟨N,O,R,W⟩:=T.new e;exact⟨O (hv (N J)).1,by rw[R];exact (hv (N J)).2⟩
  rename_i hk;split
  ·exact .junk v
  rename_i U;exact aY.qn T (.bx k a v hv) (by simpa [rQ] using hk) (by simpa [rQ] using U)
 | fn f cap vs hl hc=>
  unfold AM.rn;simp only;split
  ·exact .junk _
  rename_i D;simp only[adX]at D;exact .fn f cap vs hl fun j c u I Z=>(hc j c u I Z).qn T (cX D.1 c (aad I)) (cX D.2 c (aad I))
 | tu xs vs hl hc=>
  unfold AM.rn;simp only;split
  ·exact .junk _
  rename_i D;simp only[adX]at D;exact .tu xs vs hl fun j c u I Z=>(hc j c u I Z).qn T (cX D.1 c (aad I)) (cX D.2 c (aad I))
 | st xs vs hl h0 hc=>
  unfold AM.rn;simp only;split
  ·exact .junk _
  rename_i D;simp only[adX]at D;exact .st xs vs hl h0 fun j c u I Z=>(hc j c u I Z).qn T (cX D.1 c (aad I)) (cX D.2 c (aad I))
 | junk v=>exact .junk v
variable {es:List (List HX)}
theorem oO{f:AV->AV}{g a j:Nat}{u:Value}:dF w (es.map fun r=>r.map (HX.cS f)) g a j u↔dF w es g a j u:=by
 constructor
 ·rintro⟨r,e,xs,c,N,m,D,I,O,J⟩;rw[aak]at D;obtain⟨q,U,rfl⟩:=acq.1 D;rw[aak]at I;obtain⟨z,W,R⟩:=acq.1 I;rw[aej]at J;cases z with
  | av x=>cases R
  | row e' Y=>exact⟨q,e',Y,c,N,m,U,W,O,J⟩
 rintro⟨r,e,xs,c,N,m,D,I,O,J⟩;exact⟨r.map (HX.cS f),e,xs,c,N,m,by rw[aak,D];rfl,by rw[aak,I];rfl,O,by rw[aej];exact J⟩
theorem uZ.map{f:AV->AV}{v:Value}(h:uZ w es v):uZ w (es.map fun r=>r.map (HX.cS f)) v:=
 ⟨fun g a j u b z D I=>h.top g a j u b z (oO.1 D) I,fun g a j J N u O b z D I R U=>h.dis g a j J N u O b z (oO.1 D) (oO.1 I) R U⟩
variable {e:TypeId}
theorem aG.map{P:Program}{R J:HX->Value->Prop}{f:AV->AV}{v:Value}(h:aG P w R e es v)(U:∀x u,R x u->J (HX.cS f x) u):aG P w J e (es.map fun r=>r.map (HX.cS f)) v:=by
 obtain⟨i,xs,W,Y,Z,h4,h5,h6⟩:=h;refine⟨i,xs,W,Y,by rw[aej];exact Z,fun r D=>?_,h5,fun a r j x N O=>?_⟩
 ·obtain⟨q,I,rfl⟩:=adS.1 D;rw[aej];exact h4 q I
 rw[aak]at N;obtain⟨q,I,rfl⟩:=acq.1 N;rw[aak]at O;obtain⟨z,hz,rfl⟩:=acq.1 O;obtain⟨u,hu,D⟩:=h6 a q j z I hz;exact⟨u,hu,U _ _ D⟩
theorem dS{v:Value}{k:Nat}:hasB w (.az e es) v k↔cC v=some k\/∃g a j u,cC v=some g/\dF w es g a j u/\cC u=some k:=by
 constructor
 ·rintro (h | ⟨cs,g,h,_⟩ | ⟨e',de,g,a,j,u,h,z,D,I⟩)
  ·exact .inl h
  ·cases h
  injection h with h4 h5;subst h4 h5;exact .inr ⟨g,a,j,u,z,D,I⟩
 rintro (h | ⟨g,a,j,u,z,D,I⟩)
 ·exact .inl h
 exact .inr (.inr ⟨_,_,_,_,_,_,rfl,z,D,I⟩)
theorem A_{f:AV->AV}{v:Value}{k:Nat}:hasB w (.az e (es.map fun r=>r.map (HX.cS f))) v k↔hasB w (.az e es) v k:=by
 rw[dS,dS];simp only[oO]
theorem Iu(i d:Nat)(b:AB)(v:Value)(g:Nat):hasB w (L8 i d b) v g↔hasB w b v g:=by
 cases b with
 | az e es=>exact A_
 | box cs=>exact⟨fun h=>.inl (aI rfl h),fun h=>.inl (aI rfl h)⟩
 | gC ty cs=>exact⟨fun h=>.inl (aI rfl h),fun h=>.inl (aI rfl h)⟩
 | _=>exact aaT
variable {A:cD} {s:AS}
theorem b7.rename{S:Nat->Prop}{a:Act}(D:b7 A cE cE S rho s a w)(i d:Nat)(hid:i≠d)(hdb:d<100000):b7 A cE cE S (fun j=>if j=d then rho i else rho j) (mR i d s) a w:=by
 have hd:(mR i d s).h d=L8 i d (s.h i):=by simp[mR,cq]
 have hi:(mR i d s).h i=.none:=by
  have:cq i d=false:=by rw[aaV];intro e;exact hid (a7.1 e)
  simp only[mR,this,a7.2 rfl]
 have ho:∀k,k≠i->k≠d->(mR i d s).h k=L8 i d (s.h k):=fun k N J=>by
  have e1:cq k d=false:=by rw[aaV];intro e;exact J (a7.1 e)
  have e2:cq k i=false:=by rw[aaV];intro e;exact N (a7.1 e)
  simp[mR,e1,e2]
 have row:∀b e,(L8 i d b).oG=some e->b.oG=some e:=fun b e h=>by cases b<;>exact h
 have T:D4 cE cE rho (fun j=>if j=d then rho i else rho j) s.h (mR i d s).h i d:=
  ⟨fun k N J=>by rw[ho k N J];exact⟨(ve _ _ _).1,fun h=>h,aaa J,row _⟩,fun _=>by rw[hd];exact⟨(ve _ _ _).1,fun h=>h,aap rfl,row _⟩⟩
 have Xg:∀k,((mR i d s).h k).live->∃I,(s.h I).live/\(if k=d then rho i else rho k)=rho I/\(I=if k=d then i else k)/\∀v g,hasB w ((mR i d s).h k) v g↔hasB w (s.h I) v g:=by
  intro k hl;by_cases e:k=d
  ·subst e;rw[hd,D3]at hl;exact⟨i,hl,aap rfl,(aap rfl).symm,fun v g=>by rw[hd,Iu]⟩
  by_cases e':k=i
  ·subst e';rw[hi]at hl;exact hl.elim
  rw[ho k e' e,D3]at hl;exact⟨k,hl,aaa e,(aaa e).symm,fun v g=>by rw[ho k e' e,Iu]⟩
 have O:∀k b,eK S w A.C.P cE rho s.h k b->∀I,(if I=d then rho i else rho I)=rho k->eK S w A.C.P cE (fun j=>if j=d then rho i else rho j) (mR i d s).h I (L8 i d b):=by
  intro k b hb I hk;cases b with
  | none=>trivial
  | row e es=>show aG _ _ _ _ _ (if I=d then rho i else rho I);rw[hk];exact hb
  | jA es=>show aO _ _ _ (if I=d then rho i else rho I);rw[hk];exact hb
  | jd es=>show aO _ _ _ (if I=d then rho i else rho I);rw[hk];exact hb
  | map mk es=>
   obtain⟨g,ms,R,N,J⟩:=hb;exact⟨g,ms,R,by simp only;rw[hk];exact N,J⟩
  | box cs=>
   obtain⟨g,ty,c,N,J,U,W⟩:=hb;refine⟨g,ty,c,by simp only;rw[hk];exact N,J,by simpa using U,fun j x u Y Z=>?_⟩;rw[aak]at Y;obtain⟨z,hz,rfl⟩:=acq.1 Y;exact⟨(W j z u hz Z).1,(W j z u hz Z).2.rn T (.inl hid)⟩
  | gC ty cs=>
   obtain⟨g,c,N,J,U,W⟩:=hb;refine⟨g,c,by simp only;rw[hk];exact N,J,by simpa using U,fun j x u Y Z=>?_⟩;rw[aak]at Y;obtain⟨z,hz,rfl⟩:=acq.1 Y;exact⟨(W j z u hz Z).1,(W j z u hz Z).2.rn T (.inl hid)⟩
  | aN cs=>
   obtain⟨g,ty,c,N,J⟩:=hb;exact⟨g,ty,c,by simp only;rw[hk];exact N,J⟩
  | az e es=>
   obtain⟨N,J⟩:=hb;show aG _ _ _ _ _ (if I=d then rho i else rho I)/\uZ _ _ (if I=d then rho i else rho I);rw[hk];refine⟨aG.map N fun x u hx=>?_,J.map⟩;cases x with
   | av x=>exact aY.rn T (.inl hid) hx
   | row e' de=>exact hx
 exact
 {tm:=fun j Y=>(D.tm j Y).rn T (.inl hid)
  sz:=D.sz,df:=D.df,nb:=D.nb,pn:=fun id h=>by show (if id=d then rho i else rho id)=_;rw[aaa (by omega)];exact D.pn id h,ev:=D.ev,s0:=D.s0,st:=D.st,sb:=D.sb
  hp:=fun k _=>by
   by_cases e:k=d
   ·subst e;rw[hd];exact O i _ (D.hp i trivial) k (aap rfl)
   by_cases e':k=i
   ·subst e';rw[hi];trivial
   rw[ho k e' e];exact O k _ (D.hp k trivial) k (aaa e)
  dj:=fun a b g _ _ la lb ha hb=>by
   obtain⟨a',N,J,U,h7⟩:=Xg a la;obtain⟨b',W,h5,h6,h8⟩:=Xg b lb;have:=D.dj a' b' g trivial trivial N W (by rw[<-h7,<-J];exact ha) (by rw[<-h8,<-h5];exact hb);rw[U,h6]at this;by_cases ea:a=d<;>by_cases eb:b=d
   ·rw[ea,eb]
   ·rw[aap ea,aaa eb]at this;rw[<-this]at lb;rw[hi]at lb;exact lb.elim
   ·rw[aaa ea,aap eb]at this;rw[this]at la;rw[hi]at la;exact la.elim
   rwa [aaa ea,aaa eb]at this
  lv:=fun k g _ lk hk=>by
   obtain⟨I,N,J,_,U⟩:=Xg k lk;exact D.lv I g trivial N (by rw[<-U,<-J];exact hk)
  fr:=D.fr }
theorem aY.sc{S:Nat->Prop}{P:Program}{h:Nat->AB}{d:Nat}(T:D4 L L' rho rho h h' d d){x:AV}{v:Value}(D:aY S w P L rho h x v):aY S w P L' rho h' (sc d x) v:=by
 rw[L9];split
 ·exact .junk v
 rename_i z;exact D.qn T z z
theorem J0(d:Nat)(b:AB):(xm d b).there↔b.there:=by cases b<;>rfl
theorem yk(d:Nat)(b:AB):(xm d b).live↔b.live:=by cases b<;>rfl
theorem Cw(d:Nat)(b:AB)(v:Value)(g:Nat):hasB w (xm d b) v g↔hasB w b v g:=by
 cases b with
 | az e es=>exact A_
 | box cs=>exact⟨fun h=>.inl (aI rfl h),fun h=>.inl (aI rfl h)⟩
 | gC ty cs=>exact⟨fun h=>.inl (aI rfl h),fun h=>.inl (aI rfl h)⟩
 | _=>exact aaT
theorem b7.QC{S:Nat->Prop}{a:Act}(D:b7 A cE L S rho s a w)(d:Nat)(b:AB):b7 A cE (fun k=>L k/\k≠d) S rho ⟨(gX d s).t,aT (gX d s).h d b⟩ a w:=by
 have N:∀k,k≠d->aT (gX d s).h d b k=xm d (s.h k):=fun k hk=>by rw[aV _ _ hk];show aT (fun k=>xm d (s.h k)) d AB.none k=_;rw[aV _ _ hk]
 have row:∀x e,(xm d x).oG=some e->x.oG=some e:=fun x e h=>by cases x<;>exact h
 have T:D4 L (fun k=>L k/\k≠d) rho rho s.h (aT (gX d s).h d b) d d:=
  ⟨fun k O _=>by rw[N k O];exact⟨(J0 _ _).1,fun h=>⟨h,O⟩,rfl,row _⟩,fun h=>absurd rfl h⟩
 exact
 {tm:=fun j J=>(D.tm j J).sc T
  sz:=D.sz,df:=D.df,nb:=D.nb,pn:=D.pn,ev:=D.ev,s0:=D.s0,st:=D.st,sb:=D.sb
  hp:=fun k hk=>by
   show eK _ _ _ _ _ _ _ (aT (gX d s).h d b k);rw[N k hk.2];have I:=D.hp k hk.1;cases hb:s.h k with
   | none=>trivial
   | row e es=>rw[hb]at I;exact I
   | jA es=>rw[hb]at I;exact I
   | jd es=>rw[hb]at I;exact I
   | map mk es=>rw[hb]at I;exact I
   | box cs=>
    rw[hb]at I;obtain⟨g,ty,c,O,R,h3,U⟩:=I;refine⟨g,ty,c,O,R,by simpa using h3,fun j x u J W=>?_⟩;rw[aak]at J;obtain⟨z,Y,rfl⟩:=acq.1 J;exact⟨(U j z u Y W).1,(U j z u Y W).2.sc T⟩
   | gC ty cs=>
    rw[hb]at I;obtain⟨g,c,O,R,h3,U⟩:=I;refine⟨g,c,O,R,by simpa using h3,fun j x u J W=>?_⟩;rw[aak]at J;obtain⟨z,Y,rfl⟩:=acq.1 J;exact⟨(U j z u Y W).1,(U j z u Y W).2.sc T⟩
   | aN cs=>rw[hb]at I;exact I
   | az e es=>
    rw[hb]at I;obtain⟨O,R⟩:=I;refine⟨aG.map O fun x u hx=>?_,R.map⟩;cases x with
    | av x=>exact aY.sc T hx
    | row e' de=>exact hx
  dj:=fun i j g hi J li lj eM jH=>by
   have Z:(aT (gX d s).h d b i).live:=li;have Ui:(aT (gX d s).h d b j).live:=lj;have eM:hasB w (aT (gX d s).h d b i) (rho i) g:=eM;have jH:hasB w (aT (gX d s).h d b j) (rho j) g:=jH;rw[N i hi.2,yk]at Z;rw[N j J.2,yk]at Ui;rw[N i hi.2,Cw]at eM;rw[N j J.2,Cw]at jH;exact D.dj i j g hi.1 J.1 Z Ui eM jH
  lv:=fun i g hi li hg=>by
   have Z:(aT (gX d s).h d b i).live:=li;have hg:hasB w (aT (gX d s).h d b i) (rho i) g:=hg;rw[N i hi.2,yk]at Z;rw[N i hi.2,Cw]at hg;exact D.lv i g hi.1 Z hg
  fr:=D.fr }
theorem b7.qo{V V' S:Nat->Prop}{a:Act}(z:b7 A V L S rho s a w)(D:∀j,V' j->V j)(I:∀i,L' i↔L i):b7 A V' L' S rho s a w:=by
 have e:L'=L:=funext fun i=>propext (I i);subst e;exact { z with tm:=fun j J=>z.tm j (D j J) }
theorem b7.Iv{V S:Nat->Prop}{a:Act}(d:Nat)(z:b7 A V (fun k=>k≠d) S rho s a w)(I:s.h d=.none):b7 A V cE S rho s a w:=by
 have T:lB S S w w (fun k=>k≠d) cE rho rho s.h s.h:=⟨fun b h=>h,fun _ _=>rfl,fun k hk=>⟨hk,fun _=>⟨trivial,rfl⟩⟩,fun k e h=>h⟩;have nl:∀k,(s.h k).live->k≠d:=fun k hk e=>by rw[e,I]at hk;exact hk
 exact
 {tm:=fun j N=>(z.tm j N).cK T
  sz:=z.sz,df:=z.df,nb:=z.nb,pn:=z.pn,ev:=z.ev,s0:=z.s0,st:=z.st,sb:=z.sb
  hp:=fun k _=>by
   by_cases e:k=d
   ·subst e;rw[I];trivial
   exact (z.hp k e).cK T (fun _ _ _=>rfl) (fun _=>rfl)
  dj:=fun i j g _ _ D J=>z.dj i j g (nl i D) (nl j J) D J
  lv:=fun i g _ D=>z.lv i g (nl i D) D
  fr:=z.fr }
theorem b7.free{S:Nat->Prop}{a:Act}(z:b7 A cE cE S rho s a w)(d:Nat)(b:AB):b7 A cE (fun k=>k≠d) S rho ⟨(gX d s).t,aT (gX d s).h d b⟩ a w:=
 (z.QC d b).qo (fun _ _=>trivial) (fun _=>⟨fun h=>⟨trivial,h⟩,fun h=>h.2⟩)
def qp:Op->Bool
 | .box _ _ | .alloc _ | .buildSlice _ _ _ | .makeSlice _ _ _ | .makeMap _ _=>true
 | .call c=>match c.callee with
  | .builtin .append=>true
  | .value _=>true
  | _=>false
 | _=>false
def qd(h:Nat->AB)(d:Nat):Option AB->Nat->AB
 | none=>h
 | some b=>aT h d b
def ym:AV->Bool
 | .p (.sl [])=>true
 | _=>false
def RU:AV->Bool
 | .nl=>true
 | _=>false
def Xh:BinOp->Bool
 | .eql=>true
 | .neq=>true
 | _=>false
def O0(C:Ctx)(o:Oper)(t:Nat->AV):Bool:=match o.op with
 | .binOp op ty x y _=>Xh op&&RU (ev t y)&&ym (ev t x)&&(match C.T ty with
  | some { ud:=.sl _,.. }=>true
  | _=>false)
 | _=>false
def yn(C:Ctx)(o:Oper)(K:AS->Prop)(s:AS):Prop:=
 match qp o.op with
 | true=>bV C o (ev (gX (o.dst.getD 0) s).t) (gX (o.dst.getD 0) s).h fun v eff new=>K ⟨fx (gX (o.dst.getD 0) s).t o.dst v,match new with
   | none=>aT (app (gX (o.dst.getD 0) s).h eff) (o.dst.getD 0) .none
   | some b=>app (aT (gX (o.dst.getD 0) s).h (o.dst.getD 0) b) eff⟩
 | false=>match o.op,o.dst with
  | .assign x,some d=>match ev s.t x with
   | .ow i=>match s.h i with
    | .row _ _=>match cq i d with
     | true=>K ⟨aT s.t d (.ow i),s.h⟩
     | false=>K ⟨aT (mR i d s).t d (.ow d),(mR i d s).h⟩
    | .az _ _=>match cq i d with
     | true=>K ⟨aT s.t d (.ow i),s.h⟩
     | false=>K ⟨aT (mR i d s).t d (.ow d),(mR i d s).h⟩
    | _=>K ⟨aT s.t d (.ow i),s.h⟩
   | v=>K ⟨aT s.t d v,s.h⟩
  | _,_=>bV C o (ev s.t) s.h fun v eff new=>match new with
   | none=>K ⟨fx s.t o.dst v,app s.h eff⟩
   | some _=>False
def step(C:Ctx)(o:Oper)(K:AS->Prop)(s:AS):Prop:=match O0 C o s.t with
 | true=>K ⟨fx s.t o.dst (.p (.im (.bool true))),s.h⟩/\K ⟨fx s.t o.dst (.p (.im (.bool false))),s.h⟩
 | false=>yn C o K s
def kP(o:Oper)(n:Nat):Prop:=∀d,o.dst=some d->d<n
theorem D5(hC:bI A.C){o:Oper}{S:Nat->Prop}{a:Act}{K:AS->Prop}{next:Act->World->Prop}{Q:Exit->Act->World->Prop}(N:kP o A.n)(I:b7 A cE cE S rho s a w)(z:yn A.C o K s)
  (D:∀s' S' rho' R w',K s'->b7 A cE cE S' rho' s' R w'->next R w'):o.wp A.C.P a w next Q:=by
 have plain:∀O:KK,bV A.C o (ev s.t) s.h O->(∀v eff b,¬O v eff (some b))->(∀v eff,O v eff none->K ⟨fx s.t o.dst v,app s.h eff⟩)->o.wp A.C.P a w next Q:=by
  intro O z h1 h2;refine L7 A o _ _ _ _ _ _ _ O next Q hC I (fun _ _=>trivial) N z (fun v eff b h=>absurd h (h1 v eff b)) fun v eff new S' rho' R w' hk U=>?_
  cases new with
  | some b=>exact absurd hk (h1 v eff b)
  | none=>exact D _ _ _ _ _ (h2 v eff hk) (U.qo (fun _ _=>.inl trivial) (fun _=>aaT))
 unfold yn at z;split at z
 ·have Xi:∀n,Ext (gX (o.dst.getD 0) s).h (qd (gX (o.dst.getD 0) s).h (o.dst.getD 0) n):=fun n k=>by
   cases n with
   | none=>exact .inr rfl
   | some b=>
    by_cases e:k=o.dst.getD 0
    ·subst e;exact .inl (by show aT (fun k=>xm (o.dst.getD 0) (s.h k)) _ AB.none _=_;rw[aH])
    exact .inr (aV _ _ e)
  obtain⟨v,eff,new,hk,Qo⟩:=q_ (fun _=>.inr rfl) z;obtain⟨v2,e2,W,⟨rfl,rfl,rfl⟩,F4⟩:=q_ (Xi new) (Qo (fun Y e' Z=>Y=v/\e'=eff/\Z=new) ⟨rfl,rfl,rfl⟩);have va:=F4 (fun Y e' Z=>Y=v2/\e'=e2/\Z=W) ⟨rfl,rfl,rfl⟩;have sD:b7 A cE (fun k=>k≠o.dst.getD 0) S rho ⟨(gX (o.dst.getD 0) s).t,qd (gX (o.dst.getD 0) s).h (o.dst.getD 0) W⟩ a w:=by
   have:=I.free (o.dst.getD 0) (match W with | none=>.none | some b=>b);cases W with
   | some b=>exact this
   | none=>
    have e:aT (gX (o.dst.getD 0) s).h (o.dst.getD 0) .none=(gX (o.dst.getD 0) s).h:=jf _ _ _ (by show aT (fun k=>xm (o.dst.getD 0) (s.h k)) _ AB.none _=_;rw[aH]);simp only at this;rw[e]at this;exact this
  refine L7 A o _ _ _ _ _ _ _ _ next Q hC sD (fun _ _=>trivial) N va (fun v eff b h=>?_) fun v eff new S' rho' R w' xA U=>?_
  ·obtain⟨_,_,rfl⟩:=h;exact⟨fun h=>h rfl,aH _ _ _⟩
  obtain⟨rfl,rfl,rfl⟩:=xA;refine D _ S' rho' _ _ hk ?_;cases new with
  | some b=>exact U.qo (V':=cE) (L':=cE) (fun _ _=>.inl trivial) (fun k=>⟨fun _=>by by_cases e:k=o.dst.getD 0;exact .inr e;exact .inl e,fun _=>trivial⟩)
  | none=>exact ((U.kill (o.dst.getD 0)).Iv _ (aH _ _ _)).qo (fun _ _=>.inl trivial) (fun _=>aaT)
 split at z
 ·rename_i x d aK lH;have run:(execOp a.eval o).run A.C.P w=.ok (.value (a.eval x)) w:=by simp[execOp,aK]
  have hx:=bp I x (fun _ _=>trivial);have same:∀v,ev s.t x=v->K ⟨aT s.t d v,s.h⟩->o.wp A.C.P a w next Q:=fun v hv hk=>by
   refine dW run (D _ S rho _ _ hk ?_);have:=(I.value o.dst N v _ (by rw[<-hv];exact hx)).qo (V':=cE) (L':=cE) (fun _ _=>.inl trivial) (fun _=>aaT);rw[lH]at this ⊢;exact this
  have Cx:∀i,ev s.t x=.ow i->cq i d=false->K ⟨aT (mR i d s).t d (.ow d),(mR i d s).h⟩->o.wp A.C.P a w next Q:=fun i hi J z=>by
     have hid:i≠d:=fun e=>by rw[a7.2 e]at J;cases J
     refine dW run (D _ S (fun j=>if j=d then rho i else rho j) _ _ z ?_);have sD:=I.rename i d hid (aaW (N d lH) I.nb);have hx1:aY S w A.C.P cE (fun j=>if j=d then rho i else rho j) (mR i d s).h (.ow d) (a.eval x):=by
      rw[hi]at hx;refine .ow d _ fun ht=>⟨trivial,?_⟩;have:(s.h i).there:=by simpa [mR,a7.2 rfl,ve] using ht
      rw[(hx.cH this).2];simp
     have:=(sD.value o.dst N (.ow d) _ hx1).qo (V':=cE) (L':=cE) (fun _ _=>.inl trivial) (fun _=>aaT);rw[lH]at this ⊢;exact this
  split at z
  ·rename_i i hi;split at z
   ·split at z
    ·exact same _ hi z
    rename_i J;exact Cx i hi J z
   ·split at z
    ·exact same _ hi z
    rename_i J;exact Cx i hi J z
   exact same _ hi z
  exact same _ rfl z
 refine plain _ z (fun v eff b h=>h) (fun v eff h=>h)
theorem Cy{x:AV}(h:ym x=true):x=.p (.sl []):=by
 unfold ym at h;split at h
 ·rfl
 cases h
theorem L_{x:AV}(h:RU x=true):x=.nl:=by unfold RU at h;split at h;rfl;cases h
theorem Gw(hC:bI A.C){o:Oper}{S:Nat->Prop}{a:Act}{K:AS->Prop}{next:Act->World->Prop}{Q:Exit->Act->World->Prop}(W:kP o A.n)(D:b7 A cE cE S rho s a w)(I:step A.C o K s)
  (z:∀Y S' rho' Z w',K Y->b7 A cE cE S' rho' Y Z w'->next Z w'):o.wp A.C.P a w next Q:=by
 unfold step at I;split at I
 ·rename_i J;unfold O0 at J;split at J
  ·rename_i op ty x y ty2 aK;simp only[aaZ]at J;obtain⟨⟨⟨h1,h3⟩,h2⟩,h4⟩:=J;split at h4
   case h_2=>cases h4
   rename_i e size bytes zero eq hT;have R:=(hC.iq ty _ hT).under;simp only at R;have hx:=bp D x (fun _ _=>trivial);have U:=bp D y (fun _ _=>trivial);rw[Cy h2]at hx;rw[L_ h3]at U;obtain⟨ad,c,hv,_⟩:=hx.eR.oL;have N:a.eval y=.slice none 0 0:=by generalize a.eval y=v at U;cases U;rfl
   have fin:∀b:Bool,(execOp a.eval o).run A.C.P w=.ok (.value (.bool b)) w->o.wp A.C.P a w next Q:=fun b O=>by
    refine dW O (z ⟨fx s.t o.dst (.p (.im (.bool b))),s.h⟩ S rho _ _ ?_ ?_)
    ·cases b
     ·exact I.2
     exact I.1
    exact (D.value o.dst W (.p (.im (.bool b))) _ (.p _ _ (.im _))).qo (V':=cE) (L':=cE) (fun _ _=>.inl trivial) (fun _=>aaT)
   cases op<;>first | (cases h1;done) | skip
   ·refine fin ad.isNone ?_;simp[execOp,aK,hv,N,eqGuard,binOp,run_equal_slice_nil _ _ _ _ _ _ R]
   refine fin (!ad.isNone) ?_;simp[execOp,aK,hv,N,eqGuard,binOp,run_equal_slice_nil _ _ _ _ _ _ R]
  cases J
 exact D5 hC W D I z
end Go.AM
namespace Go.AM
open Go.RowKit
def pR(b:Bool)(p q:Prop):Prop:=match b with
 | true=>p
 | false=>q
def jh(b:Bool):AV:=.p (.im (.bool b))
def rH:AV:=.p (.im undef)
def Ma:Value->Option Bool
 | .bool b=>some b
 | _=>none
def Uj(v:Value)(want:Bool):Bool:=Ma v==some want
def pZ(C:Ctx)(all:List Oper):List Oper->(AS->Prop)->AS->Prop
 | [],K,s=>K s
 | o::r,K,s=>match o.guard with
  | none=>step C o (pZ C all r K) s
  | some (g,want)=>match all[g]? with
   | none=>False
   | some og=>match og.dst with
    | none=>False
    | some tg=>match s.t tg with
     | .p (.im (.bool b))=>pR b
       (match want with
        | true=>step C o (pZ C all r K) ⟨aT s.t tg (jh true),s.h⟩
        | false=>pZ C all r K ⟨fx (aT s.t tg (jh true)) o.dst rH,s.h⟩)
       (match want with
        | false=>step C o (pZ C all r K) ⟨aT s.t tg (jh false),s.h⟩
        | true=>pZ C all r K ⟨fx (aT s.t tg (jh false)) o.dst rH,s.h⟩)
     | .p (.im (.tuple _))=>pZ C all r K ⟨fx s.t o.dst rH,s.h⟩
     | _=>False
variable {A:cD} {s:AS}
theorem oP{V L S:Nat->Prop}{rho:Nat->Value}{a:Act}{w:World}(D:b7 A V L S rho s a w){ops:Array Oper}{g z:Nat}{I:Oper}{v:Value}(O:ops[g]?=some I)(R:I.dst=some z)(U:V z)(W:s.t z=.p (.im v)):yielded ops a.tmps g=Ma v:=by
 have J:=D.tm z U;rw[W]at J;have N:a.tmps.getD z undef=v:=J.bS;rw[ac4]at N;subst N;unfold yielded Ma;rw[O];simp only[Option.bind_some,R];cases h:a.tmps[z]? with
 | none=>rfl
 | some v=>simp only[acy];split<;>simp_all
theorem Gx(hC:bI A.C){ops:Array Oper}{Q:Exit->Act->World->Prop}{K:AS->Prop}(fO:∀s S rho a w,K s->b7 A cE cE S rho s a w->Q .normal a w):
  ∀(l:List Oper) (k:Nat) (s:AS) (S:Nat->Prop) (rho:Nat->Value) (a:Act) (w:World),(∀j,l[j]?=ops[k+j]?)->(∀o∈l,kP o A.n)->pZ A.C ops.toList l K s->b7 A cE cE S rho s a w->wpOps A.C.P ops Q (List.range' k l.length) a w:=by
 intro l
 induction l with
 | nil=>intro k s S rho a w _ _ D z;exact fO s S rho a w D z
 | cons o l ih=>
  intro k s S rho a w hl Y D z;have h0:ops[k]?=some o:=by simpa using (hl 0).symm
  have Z:∀j,l[j]?=ops[k+1+j]?:=fun j=>by have:=hl (j+1);simpa [aaX,Nat.add_comm 1 j] using this
  have Ba:∀o∈l,kP o A.n:=fun o ho=>Y o (by simp[ho]);have O1:=Y o (by simp);rw[aaB,List.range'_succ];simp only[wpOps,h0];have run:∀(s:AS),step A.C o (pZ A.C ops.toList l K) s->b7 A cE cE S rho s a w->o.wp A.C.P a w (wpOps A.C.P ops Q (List.range' (k+1) l.length)) Q:=fun s O z=>
   Gw hC O1 z O fun s' S' rho' a' w' hk b9=>ih (k+1) s' S' rho' a' w' Z Ba hk b9
  have skip:∀(t:Nat->AV),pZ A.C ops.toList l K ⟨fx t o.dst rH,s.h⟩->b7 A cE cE S rho ⟨t,s.h⟩ a w->wpOps A.C.P ops Q (List.range' (k+1) l.length) (a.put o.dst undef) w:=fun t O z=>by
   have:=(z.value o.dst O1 rH undef (.p _ _ (.im _))).qo (V':=cE) (L':=cE) (fun _ _=>.inl trivial) (fun _=>aaT);exact ih (k+1) _ S rho _ w Z Ba O this
  unfold pZ at D;split at D
  ·rename_i J;rw[aap (by simp[Region.wanted,J])];exact .inl (run s D z)
  rename_i g I J;split at D
  ·exact D.elim
  rename_i og RV;split at D
  ·exact D.elim
  rename_i tg RW;split at D
  ·rename_i b hb;have R:=oP z (ops:=ops) (g:=g) (by simpa using RV) RW trivial hb;have N:∀U,b=U->aT s.t tg (jh U)=s.t:=fun U e=>jf _ _ _ (by rw[hb,e];rfl);have W:Region.wanted o (yielded ops a.tmps)=(some b==some I):=by simp[Region.wanted,J,R,Ma]
   rw[W];cases b<;>cases I<;>simp only[pR]at D
   ·rw[N false rfl]at D;rw[aap (by decide)];exact .inl (run s D z)
   ·rw[N false rfl]at D;rw[aaa (by decide)];exact skip s.t D z
   ·rw[N true rfl]at D;rw[aaa (by decide)];exact skip s.t D z
   rw[N true rfl]at D;rw[aap (by decide)];exact .inl (run s D z)
  ·rename_i q hb;have R:=oP z (ops:=ops) (g:=g) (by simpa using RV) RW trivial hb;have W:Region.wanted o (yielded ops a.tmps)=false:=by simp[Region.wanted,J,R,Ma]
   rw[W,aaa (by decide)];exact skip s.t D z
  exact D.elim
def W(A:cD)(c:Code)(K:Exit->AS->Prop)(s:AS):Prop:=
 ∀S rho a w,b7 A cE cE S rho s a w->c.wp A.C.P (fun e a' w'=>∃S' rho' s',b7 A cE cE S' rho' s' a' w'/\K e s') a w
theorem Uk{x y:Code}{K:Exit->AS->Prop}(h:W A x (fun e z=>match e with | .normal=>W A y K z | e=>K e z) s):W A (.seq x y) K s:=by
 intro S rho a w I;refine wp_seq (wp_mono (h S rho a w I) fun e J w' N=>?_);obtain⟨S',rho',z,D,hk⟩:=N;cases e with
 | normal=>exact hk S' rho' J w' D
 | exit id=>exact⟨S',rho',z,D,hk⟩
 | goto l=>exact⟨S',rho',z,D,hk⟩
 | ret=>exact⟨S',rho',z,D,hk⟩
 | panic c=>exact⟨S',rho',z,D,hk⟩
 | outgrown=>exact⟨S',rho',z,D,hk⟩
theorem Gy{c:Code}{K D:Exit->AS->Prop}(h:W A c K s)(hk:∀e s,K e s->D e s):W A c D s:=
 fun S rho a w z=>wp_mono (h S rho a w z) fun _ _ _ ⟨S',rho',I,J,k⟩=>⟨S',rho',I,J,hk _ _ k⟩
theorem RX{c:Operand}{x y:Code}{K:Exit->AS->Prop}{b:Bool}(hb:ev s.t c=.p (.im (.bool b)))(I:b=true->W A x K s)(J:b=false->W A y K s):W A (.cond c x y) K s:=by
 intro S rho a w z;have D:=bp z c (fun _ _=>trivial);rw[hb]at D;refine wp_cond_split D.bS (fun h=>I h S rho a w z) (fun h=>J h S rho a w z)
theorem O2{id:Nat}{c:Code}{K:Exit->AS->Prop}(h:W A c (fun e z=>match e with | .exit i=>pR (cq i id) (K .normal z) (K (.exit i) z) | e=>K e z) s):W A (.block id c) K s:=by
 intro S rho a w I;refine wp_block (wp_mono (h S rho a w I) fun e a' w' J=>?_);obtain⟨S',rho',z,D,hk⟩:=J;cases e with
 | exit i=>
  simp only[Exit.inBlock];simp only at hk;by_cases e:i=id
  ·rw[aap e];rw[a7.2 e]at hk;exact⟨S',rho',z,D,hk⟩
  rw[aaa e];have:cq i id=false:=by rw[aaV];intro h;exact e (a7.1 h)
  rw[this]at hk;exact⟨S',rho',z,D,hk⟩
 | normal=>exact⟨S',rho',z,D,hk⟩
 | goto l=>exact⟨S',rho',z,D,hk⟩
 | ret=>exact⟨S',rho',z,D,hk⟩
 | panic c=>exact⟨S',rho',z,D,hk⟩
 | outgrown=>exact⟨S',rho',z,D,hk⟩
def au(A:cD)(s s':AS):Prop:=∀S rho a w,b7 A cE cE S rho s a w->∃S' rho',b7 A cE cE S' rho' s' a w
theorem au.refl(A:cD)(s:AS):au A s s:=fun S rho _ _ h=>⟨S,rho,h⟩
theorem au.trans{D I:AS}(h:au A s D)(k:au A D I):au A s I:=fun S rho a w z=>by
 obtain⟨S',rho',J⟩:=h S rho a w z;exact k S' rho' a w J
theorem least{P:Nat->Prop}(h:∃n,P n):∃n,P n/\∀k,P k->n<=k:=by
 obtain⟨n,z⟩:=h
 induction n using Nat.strongRecOn with
 | _ n ih=>
  by_cases hk:∃k,k<n/\P k
  ·obtain⟨k,D,I⟩:=hk;exact ih k D I
  exact⟨n,z,fun k h=>Nat.le_of_not_lt fun J=>hk ⟨k,J,h⟩⟩
theorem RY{c:Code}{K:Exit->AS->Prop}{α:Type}(I:α->AS->Prop)(m:α->Nat)(h0:∃x z,au A s z/\I x z)
  (N:∀x s,I x s->W A c (fun e z=>match e with | .normal=>∃y R,au A z R/\I y R/\m y<m x | e=>K e z) s):W A (.loop c) K s:=by
 intro S rho a w Y;let J:Act->World->Nat->Prop:=fun a w n=>∃x S rho s,b7 A cE cE S rho s a w/\I x s/\m x=n;have U:∀a w,Decidable (∃n,J a w n):=fun a w=>Classical.propDecidable _;let mu:Act->World->Nat:=fun a w=>@dite _ (∃n,J a w n) (U a w) (fun h=>Classical.choose (least h)) (fun _=>0);have Y0:∀a w (h:∃n,J a w n),mu a w=Classical.choose (least h):=fun a w h=>by
  show @dite _ _ (U a w) _ _=_;rw[dif_pos h]
 refine wp_loop (fun a w=>∃n,J a w n) mu ?_ ?_
 ·obtain⟨x,z,O,hi⟩:=h0;obtain⟨S',rho',D⟩:=O S rho a w Y;exact⟨m x,x,S',rho',z,D,hi,rfl⟩
 intro a w hJ;obtain⟨⟨x,S1,Xj,s1,sD,hi,hm⟩,_⟩:=acD (least hJ);refine wp_mono (N x s1 hi S1 Xj a w sD) fun e Z w' hq=>?_;obtain⟨S',rho',z,D,hk⟩:=hq;cases e with
 | normal=>
  obtain⟨y,R,O,xB,eF⟩:=hk;obtain⟨Y1,QD,QE⟩:=O S' rho' Z w' D;have Xk:∃n,J Z w' n:=⟨m y,y,Y1,QD,R,QE,xB,rfl⟩;refine⟨Xk,?_⟩;rw[Y0 a w hJ,Y0 Z w' Xk,<-hm];exact adY ((acD (least Xk)).2 (m y) ⟨y,Y1,QD,R,QE,xB,rfl⟩) eF
 | exit id=>exact⟨S',rho',z,D,hk⟩
 | goto l=>exact⟨S',rho',z,D,hk⟩
 | ret=>exact⟨S',rho',z,D,hk⟩
 | panic c=>exact⟨S',rho',z,D,hk⟩
 | outgrown=>exact⟨S',rho',z,D,hk⟩
theorem Mb(hC:bI A.C){id:Nat}{ops:Array Oper}{K:Exit->AS->Prop}(I:∀o∈ops.toList,kP o A.n)(h:pZ A.C ops.toList ops.toList (K .normal) s):W A (.region id ops false) K s:=by
 intro S rho a w z;refine wp_region ?_;have:=Gx hC (ops:=ops) (Q:=fun e J w'=>∃S' rho' D,b7 A cE cE S' rho' D J w'/\K e D) (K:=K .normal) (fun s S rho a w hk z=>⟨S,rho,s,z,hk⟩) ops.toList 0 s S rho a w (fun j=>by simp) I h z;rw[List.range_eq_range'];simpa using this
end Go.AM
namespace Go.AM
open Go.RowKit
def Ul(j:Nat):Arg->AV
 | .pv x=>.p x
 | .row _ _=>.ow (100000+j)
 | .map _ _=>.ow (100000+j)
 | .box _=>.bx (100000+j) 0
 | .aN _=>.bx (100000+j) 0
def QF:Arg->AB
 | .pv _=>.none
 | .row e es=>.row e es
 | .map mk es=>.map mk es
 | .box cs=>.box (cs.map .p)
 | .aN cs=>.aN cs
def bH:List AV->List Nat
 | []=>[]
 | .ow n::r=>n::bH r
 | _::r=>bH r
def mS(n:Nat):List Nat->Bool
 | []=>false
 | m::r=>match Nat.beq m n with
  | true=>true
  | false=>mS n r
def dP:List Nat->Bool
 | []=>true
 | n::r=>!mS n r&&(Nat.blt n 100000&&dP r)
def Mc:List Arg->Bool
 | []=>true
 | .aN _::_=>false
 | _::r=>Mc r
def wi(h:Nat->AB):List AV->List HC->Prop
 | [],[]=>True
 | .p x::r,.p y::s=>x=y/\wi h r s
 | .ow n::r,.row e es::s=>h n=.row e es/\wi h r s
 | _,_=>False
theorem mf{n:Nat}{l:List Nat}:mS n l=true↔n∈l:=by
 induction l with
 | nil=>simp[mS]
 | cons m l ih=>
  unfold mS;split
  ·rename_i h;have:=aa2 h;simp[this]
  rename_i h;rw[ih];have:¬n=m:=fun e=>by rw[e]at h;simp at h
  simp[this]
theorem iv{n:Nat}:∀{l:List AV},n∈bH l↔(AV.ow n:AV)∈l
 | []=>by simp[bH]
 | x::l=>by cases x<;>simp[bH,iv (l:=l)]
theorem oQ:∀{l:List AV} {i j n:Nat},dP (bH l)=true->l[i]?=some (.ow n)->l[j]?=some (.ow n)->i=j
 | [],i,j,n,_,h,_=>by simp at h
 | x::l,i,j,n,hg,h1,h2=>by
  have tail:dP (bH l)=true:=by
   cases x<;>first | exact hg | (simp[bH,dP]at hg ⊢;exact hg.2.2)
  have z:∀k:Nat,x=AV.ow n->l[k]?=some (AV.ow n)->False:=fun k D hk=>by
   subst D;simp[bH,dP]at hg;have:mS n (bH l)=true:=mf.2 (iv.2 (aad hk));rw[hg.1]at this;cases this
  cases i with
  | zero=>
   cases j with
   | zero=>rfl
   | succ j=>simp at h1 h2;exact (z j h1 h2).elim
  | succ i=>
   cases j with
   | zero=>simp at h1 h2;exact (z i h2 h1).elim
   | succ j=>simp at h1 h2;rw[oQ tail h1 h2]
theorem oR:∀{l:List Nat} {n:Nat},dP l=true->n∈l->n<100000
 | [],n,_,h=>by cases h
 | m::l,n,hg,h=>by
  simp[dP]at hg;rcases adq.1 h with h | h
  ·subst h;have:=hg.2.1
   first | omega | (have:=abA (show Nat.ble (n+1) 100000=true from this);omega) | (simp[Nat.blt]at this;omega)
  exact oR hg.2.2 h
theorem Bb{h:Nat->AB}:∀{bs:List AV} {cs:List HC},wi h bs cs->bs.length=cs.length
 | [],[],_=>rfl
 | [],_::_,hp=>hp.elim
 | b::bs,[],hp=>by cases b<;>exact hp.elim
 | b::bs,c::cs,hp=>by
  cases b<;>cases c<;>first | exact hp.elim | (have:=Bb hp.2;simp[this])
theorem D6{h:Nat->AB}:∀{bs:List AV} {cs:List HC} {j:Nat} {x:AV} {y:HC},wi h bs cs->bs[j]?=some x->cs[j]?=some y->(∃z,x=.p z/\y=.p z)\/∃n e es,x=.ow n/\y=.row e es/\h n=.row e es
 | [],_,j,x,y,_,h1,_=>by simp at h1
 | b::bs,[],j,x,y,_,_,h2=>by simp at h2
 | b::bs,c::cs,0,x,y,hp,h1,h2=>by
  simp at h1 h2;subst h1 h2;cases b<;>cases c<;>first | exact hp.elim | exact .inl ⟨_,rfl,by rw[hp.1]⟩ | exact .inr ⟨_,_,_,rfl,rfl,hp.1⟩
 | b::bs,c::cs,j+1,x,y,hp,h1,h2=>by
  simp at h1 h2;have D:wi h bs cs:=by cases b<;>cases c<;>first | exact hp.elim | exact hp.2
  exact D6 D h1 h2
variable {A:cD} {rho:Nat->Value} {s:AS} {w:World}
theorem yq{V L S:Nat->Prop}{a:Act}(I:b7 A V L S rho s a w){id:Nat}(hL:L id){bs:List AV}{cs:List HC}(hb:s.h id=.box bs)(hg:dP (bH bs)=true)(hp:wi s.h bs cs):
  ∃g ty c,rho id=.pointer (some ⟨g,0,none⟩)/\Jp S w A.C.P cs g ty c/\∀k,hasB w (.aN cs) (rho id) k->cC (rho id)=some k\/∃n,n∈bH bs/\L n/\(s.h n).live/\cC (rho n)=some k:=by
 have hh:=I.hp id hL;rw[hb]at hh;obtain⟨g,ty,c,k1,k2,k3,k4⟩:=hh;have hl:=Bb hp;have bY:(s.h id).live:=by rw[hb];trivial
 have D:∀{j:Nat} {y:HC} {u:Value},cs[j]?=some y->c[j]?=some u->u.oneCell'=true/\Qm S w A.C.P y u/\(y.isRow->∃n,bs[j]?=some (.ow n)/\L n/\u=rho n/\(s.h n).live/\n≠id):=by
  intro j y u J O;obtain⟨x,D⟩:∃x,bs[j]?=some x:=⟨_,acg (by rw[hl];exact aD J)⟩;obtain⟨o1,o2⟩:=k4 j x u D O;rcases D6 hp D J with⟨z,rfl,rfl⟩ | ⟨n,e,es,rfl,rfl,N⟩
  ·exact⟨o1,o2.eR,fun h=>h.elim⟩
  obtain⟨R,rfl⟩:=o2.cH (by rw[N];trivial);have hr:=I.hp n R;rw[N]at hr;exact⟨o1,hr,fun _=>⟨n,D,R,rfl,by rw[N];trivial,fun e=>by rw[e,hb]at N;cases N⟩⟩
 have J2:cC (rho id)=some g:=by rw[k1];rfl
 refine⟨g,ty,c,k1,⟨k2,by rw[k3,hl],fun j y u J O=>⟨(D J O).1,(D J O).2.1⟩,fun j y u b J O hy hb' e=>?_,fun i j x y u v b hi J O hv hxr hyr e1 e2=>?_⟩,fun k hk=>?_⟩
 ·obtain⟨n,_,R,rfl,W,b8⟩:=(D J O).2.2 hy;subst e;exact b8 (I.TJ n id b R hL W bY hb' J2)
 ·obtain⟨n,N,R,rfl,W,_⟩:=(D hi O).2.2 hxr;obtain⟨m,hm,hLm,rfl,Wa,_⟩:=(D J hv).2.2 hyr;have:=I.TJ n m b R hLm W Wa e1 e2;subst this;exact oQ hg N hm
 rcases hk with hk | ⟨mZ,g',Y,Z,c',YR,m,j,y,u,U,q2,q3,q4,q5⟩ | ⟨_,_,_,_,_,_,Y,_⟩
 ·exact .inl hk
 ·injection Y with Y;subst Y;rw[J2]at Z;injection Z with Z;subst Z;rw[k2]at U;injection U with U;injection U with U _ _;subst U;obtain⟨n,N,R,rfl,W,_⟩:=(D q2 q4).2.2 q3;exact .inr ⟨n,iv.2 (aad N),R,W,q5⟩
 cases Y
def tF(args:List Arg)(j:Nat):AV:=match args[j]? with
 | some x=>Ul j x
 | none=>.junk
def afb(args:List Arg)(j:Nat):AB:=match Nat.ble 100000 j with
 | true=>match args[j-100000]? with
  | some x=>QF x
  | none=>.none
 | false=>.none
def Md (a : Tmp) (t : TypeId) : Oper := { dst := none, op := .load t (.tmp a), type := t, pos := "", after := #[], guard := none }
def QH(C:Ctx)(s:AS):ResultVar->(AV->Prop)->Prop
 | .tmp t,K=>K (s.t t)
 | .cell a t,K=>bV C (Md a t) (ev s.t) s.h fun v _ _=>match v with
  | .p x=>K (.p x)
  | _=>False
def GA(C:Ctx)(s:AS):List ResultVar->(List AV->Prop)->Prop
 | [],K=>K []
 | r::rs,K=>QH C s r fun a=>GA C s rs fun as=>K (a::as)
def GB(h:Nat->AB):List AV->(List PV->(Nat->AB)->Prop)->Prop
 | [],K=>K [] h
 | a::r,K=>gD h a fun x fz=>GB (app h fz) r fun xs h'=>K (x::xs) h'
def nj:AB->Nat->Bool
 | .box bs,i=>mS i (bH bs)
 | _,_=>false
def mg(h:Nat->AB):Nat->List Arg->List Fin->Nat->Bool
 | j,.pv _::xs,fs,i=>mg h (j+1) xs fs i
 | j,_::xs,f::fs,i=>(f.kept&&(cq j i||nj (h j) i))||mg h (j+1) xs fs i
 | _,_,_,_=>false
def lI(h:Nat->AB):Nat->List Arg->List Fin->Prop
 | _,[],[]=>True
 | j,.pv _::xs,fs=>lI h (j+1) xs fs
 | j,.row _ _::xs,.gone::fs=>lI h (j+1) xs fs
 | j,.map _ _::xs,.gone::fs=>lI h (j+1) xs fs
 | j,.box _::xs,.gone::fs=>lI h (j+1) xs fs
 | j,.aN _::xs,.gone::fs=>lI h (j+1) xs fs
 | j,.row e _::xs,.row es::fs=>h j=.row e es/\lI h (j+1) xs fs
 | j,.map mk _::xs,.map es::fs=>h j=.map mk es/\lI h (j+1) xs fs
 | j,.box _::xs,.box cs::fs=>(match h j with
  | .box bs=>dY bs=some cs
  | _=>False)/\lI h (j+1) xs fs
 | j,.aN _::xs,.aN cs::fs=>(match h j with
  | .aN bs=>bs=cs
  | .box bs=>(dP (bH bs)&&Mc xs)=true/\wi h bs cs
  | _=>False)/\lI h (j+1) xs fs
 | _,_,_=>False
def RZ(C:Ctx)(rs:List ResultVar)(args:List Arg)(r:AR)(fin:List Fin)(s:AS):Prop:=
 GA C s rs fun iQ=>match r with
  | .own e es=>match iQ with
   | [a]=>match a with
    | .ow i=>s.h i=.row e es/\mg s.h 100000 args fin i=false/\lI s.h 100000 args fin
    | .vw i lo hi=>match lo with
     | 0=>match s.h i with
      | .row e' xs=>match cq e' e with
       | true=>es=xs.take hi/\mg s.h 100000 args fin i=false/\lI s.h 100000 args fin
       | false=>False
      | _=>False
     | _+1=>False
    | .nl=>match C.T e with
     | some ti=>match Nat.blt 0 ti.size with
      | true=>es=[]/\lI s.h 100000 args fin
      | false=>False
     | none=>False
    | _=>False
   | _=>False
  | .hown cs=>match iQ with
   | [a]=>match a with
    | .bx i off=>match off with
     | 0=>s.h i=.aN cs/\mg s.h 100000 args fin i=false/\lI s.h 100000 args fin
     | _+1=>False
    | _=>False
   | _=>False
  | .p x=>match iQ with
   | [a]=>gD s.h a fun y fz=>y=x/\lI (app s.h fz) 100000 args fin
   | _=>False
  | .tu xs=>match iQ with
   | [_]=>False
   | _=>GB s.h iQ fun ys h'=>ys=xs/\lI h' 100000 args fin
def GC(C:Ctx)(rs:List ResultVar)(args:List Arg)(r:AR)(fin:List Fin)(e:Exit)(s:AS):Prop:=match e with
 | .normal=>RZ C rs args r fin s
 | .ret=>RZ C rs args r fin s
 | _=>False
def D7(tmps:Array Value):ResultVar->Sem Value
 | .tmp t=>pure (tmps.getD t undef)
 | .cell b t=>do loadVar t (<-asAddr (tmps.getD b undef))
theorem J3(hC:bI A.C){S:Nat->Prop}{a:Act}(J:b7 A cE cE S rho s a w)(r:ResultVar){K:AV->Prop}(O:QH A.C s r K):
  ∃av v,K av/\(D7 a.tmps r).run A.C.P w=.ok v w /\
   (∀(z:Nat->Prop) (D:Nat->AB),(∀b,S b->z b)->b7 A cE cE z rho ⟨s.t,D⟩ a w->aY z w A.C.P cE rho D av v):=by
 cases r with
 | tmp t=>exact⟨s.t t,a.tmps.getD t undef,O,rfl,fun z D _ R=>R.tm t trivial⟩
 | cell b t=>
  obtain⟨av,v,N,D,U⟩:=DQ (o:=Md b t) (K:=fun v _ _=>match v with | .p x=>K (.p x) | _=>False) t (.tmp b) rfl hC J (fun _ _=>trivial) O;split at N
  ·rename_i x;refine⟨_,v,N,?_,fun z we hS R=>.p _ _ (D.eR.mono hS (fun _ _=>rfl))⟩;have I:(Instr.loadAt t (a.tmps.getD b undef)).run A.C.P w=.ok v w:=U;cases hv:a.tmps.getD b undef with
   | pointer p=>
    rw[hv]at I;cases p with
    | none=>simp[Instr.loadAt,Instr.sureAddr,stuck,Sem.run]at I
    | some W=>
     have Y:(loadVar t W).run A.C.P w=.ok v w:=by simpa [Instr.loadAt,Instr.sureAddr] using I
     show (D7 a.tmps (.cell b t)).run _ _=_;unfold D7;simp only[hv];exact Y
   | _=>rw[hv]at I;simp[Instr.loadAt,Instr.sureAddr,stuck,Sem.run]at I
  exact N.elim
theorem GD(hC:bI A.C){S:Nat->Prop}{a:Act}(N:b7 A cE cE S rho s a w):∀(D:List ResultVar) {K:List AV->Prop},GA A.C s D K ->
  ∃iQ vs,K iQ/\iQ.length=vs.length/\(D.mapM (D7 a.tmps)).run A.C.P w=.ok vs w/\vs.length=D.length /\
   (∀(I:Nat->Prop) (J:Nat->AB),(∀b,S b->I b)->b7 A cE cE I rho ⟨s.t,J⟩ a w->∀(i:Nat) av v,iQ[i]?=some av->vs[i]?=some v->aY I w A.C.P cE rho J av v):=by
 intro D
 induction D with
 | nil=>intro K z;exact⟨[],[],z,rfl,rfl,rfl,by simp⟩
 | cons r D ih=>
  intro K z;obtain⟨av,v,z,Y,J⟩:=J3 hC N r z;obtain⟨iQ,vs,z,Z,h4,h5,h6⟩:=ih z;refine⟨av::iQ,v::vs,z,by simp[Z],?_,by simp[h5],fun I U hS W i x u O R=>?_⟩
  ·rw[aa5,aau,Y,ab5,aau,h4];rfl
  cases i with
  | zero=>simp at O R;subst O R;exact J I U hS W
  | succ i=>exact h6 I U hS W i x u (by simpa using O) (by simpa using R)
theorem GF(hC:bI A.C){t:Nat->AV}{a:Act}:∀(iQ:List AV) (vs:List Value) (S:Nat->Prop) (h:Nat->AB) {K:List PV->(Nat->AB)->Prop},iQ.length=vs.length->b7 A cE cE S rho ⟨t,h⟩ a w ->
  (∀(J:Nat->Prop) (W:Nat->AB),(∀b,S b->J b)->b7 A cE cE J rho ⟨t,W⟩ a w->∀(i:Nat) av v,iQ[i]?=some av->vs[i]?=some v->aY J w A.C.P cE rho W av v)->GB h iQ K ->
  ∃ys h' S',K ys h'/\b7 A cE cE S' rho ⟨t,h'⟩ a w/\(∀b,S b->S' b)/\ys.length=vs.length/\∀(i:Nat) y v,ys[i]?=some y->vs[i]?=some v->aO S' w y v:=by
 intro iQ
 induction iQ with
 | nil=>
  intro vs S h K hl D _ N;have:vs=[]:=adl hl.symm;subst this;exact⟨[],h,S,N,D,fun _ h=>h,rfl,by simp⟩
 | cons av iQ ih=>
  intro vs S h K hl D I N;cases vs with
  | nil=>simp at hl
  | cons v vs=>
   obtain⟨y,fz,J,N,bu,hp,Y,_,_⟩:=ir hC D (pY.refl h) (I S h (fun _ h=>h) D 0 av v rfl rfl) N;obtain⟨ys,h',S',k1,k2,Z,k4,k5⟩:=ih vs J (app h fz) (by simpa using hl) bu (fun S3 h3 hS R i x u hx O=>I S3 h3 (fun b hb=>hS b (Y b hb)) R (i+1) x u (by simpa using hx) (by simpa using O)) N;refine⟨y::ys,h',S',k1,k2,fun b hb=>Z b (Y b hb),by simp[k4],fun i z u U O=>?_⟩;cases i with
   | zero=>simp at U O;subst U O;exact hp.mono Z (fun _ _=>rfl)
   | succ i=>exact k5 i z u (by simpa using U) (by simpa using O)
theorem rh{h:Nat->AB}{j:Nat}{x:Arg}{xs:List Arg}{f:Fin}{D:List Fin}(I:x.handed=true)(z:lI h j (x::xs) (f::D)):lI h (j+1) xs D:=by
 cases x<;>cases f<;>first | (cases I;done) | exact z.elim | exact z.2 | exact z
def Bc(h:Nat->AB)(j id:Nat):Prop:=id=j\/nj (h j) id=true
theorem Me{S:Nat->Prop}{t:Nat->AV}{h:Nat->AB}{a:Act}(D:b7 A cE cE S rho ⟨t,h⟩ a w):∀(args:List Arg) (fin:List Fin) (vs:List Value) (j:Nat),args.length=vs.length->(∀i v,vs[i]?=some v->(∃x,args[i]?=some x/\x.handed=true)->v=rho (j+i))->lI h j args fin ->
  eL S w A.C.P args fin vs/\∀i g,du w args fin vs i g->∃id,Bc h (j+i) id/\(h id).live/\hasB w (h id) (rho id) g/\mg h j args fin id=true:=by
 intro args
 induction args with
 | nil=>intro fin vs j hl _ z;have:vs=[]:=adl hl.symm;subst this;cases fin with | nil=>exact⟨trivial,fun i g h=>h.elim⟩ | cons f fin=>exact z.elim
 | cons x args ih=>
  intro fin vs j hl hv z;cases vs with
  | nil=>simp at hl
  | cons v vs=>
   have J1:args.length=vs.length:=by simpa using hl
   have F9:∀i v,vs[i]?=some v->(∃x,args[i]?=some x/\x.handed=true)->v=rho (j+1+i):=fun i u h1 ⟨y,h2,h3⟩=>by
    have:=hv (i+1) u (by simpa using h1) ⟨y,by simpa using h2,h3⟩;rw[this];congr 1;omega
   cases hx:x.handed with
   | false=>
    cases x with
    | pv y=>
     obtain⟨r1,r2⟩:=ih fin vs (j+1) J1 F9 z;refine⟨r1,fun i g O=>?_⟩;cases i with
     | zero=>exact O.elim
     | succ i=>
      obtain⟨id,R,Z,q3,q4⟩:=r2 i g O;exact⟨id,by rw[show j+(i+1)=j+1+i by omega];exact R,Z,q3,q4⟩
    | row=>cases hx
    | map=>cases hx
    | box=>cases hx
    | aN=>cases hx
   | true=>
    have Y2:v=rho j:=hv 0 v rfl ⟨_,rfl,hx⟩;cases fin with
    | nil=>cases x<;>first | (cases hx;done) | exact z.elim
    | cons f fin=>
     obtain⟨r1,r2⟩:=ih fin vs (j+1) J1 F9 (rh hx z);have mk:oH S w A.C.P x f v->(∀g,f.kept=true->hasB w (Ri f) v g->∃id,Bc h j id/\(h id).live/\hasB w (h id) (rho id) g)->eL S w A.C.P (x::args) (f::fin) (v::vs)/\∀i g,du w (x::args) (f::fin) (v::vs) i g->∃id,Bc h (j+i) id/\(h id).live/\hasB w (h id) (rho id) g/\mg h j (x::args) (f::fin) id=true:=by
      intro m1 m2;refine⟨by cases x<;>first | (cases hx;done) | exact⟨m1,r1⟩,fun i g O=>?_⟩;cases i with
      | zero=>
       obtain⟨g1,g2⟩:f.kept=true/\hasB w (Ri f) v g:=by cases x<;>first | (cases hx;done) | exact O
       obtain⟨id,R,Z,q3⟩:=m2 g g1 g2;refine⟨id,R,Z,q3,?_⟩;have:(cq j id||nj (h j) id)=true:=by
        rcases R with R | R
        ·rw[R,a7.2 rfl];rfl
        rw[R];simp
       cases x<;>first | (cases hx;done) | (simp only[mg,g1,this,adr,abn])
      | succ i=>
       have nS:du w args fin vs i g:=by cases x<;>first | (cases hx;done) | exact O
       obtain⟨id,R,Z,q3,q4⟩:=r2 i g nS;refine⟨id,by rw[show j+(i+1)=j+1+i by omega];exact R,Z,q3,?_⟩;cases x<;>first | (cases hx;done) | (simp only[mg,q4,ads])
     refine mk ?_ ?_
     ·rw[Y2];cases x with
      | pv y=>cases hx
      | row e es=>
       cases f with
       | gone=>trivial
       | row J=>
        have N:=D.hp j trivial;have N:eK S w A.C.P cE rho h j (h j):=N;rw[z.1]at N;exact⟨N,fun g O=>(D.pM j g trivial (by show (h j).live;rw[z.1];trivial) O).2.1⟩
       | map J=>exact z.elim
       | box cs=>exact z.elim
       | aN cs=>exact z.elim
      | map mk es=>
       cases f with
       | gone=>trivial
       | map J=>
        have N:=D.hp j trivial;have N:eK S w A.C.P cE rho h j (h j):=N;rw[z.1]at N;exact⟨N,fun g O=>(D.pM j g trivial (by show (h j).live;rw[z.1];trivial) O).2.1⟩
       | row J=>exact z.elim
       | box cs=>exact z.elim
       | aN cs=>exact z.elim
      | box ys=>
       cases f with
       | gone=>trivial
       | row J=>exact z.elim
       | map J=>exact z.elim
       | aN J=>exact z.elim
       | box cs=>
        obtain⟨I,va⟩:=z;split at I
        ·rename_i bs hb;have N:=D.hp j trivial;have N:eK S w A.C.P cE rho h j (h j):=N;rw[hb]at N;obtain⟨g,W,c,U,Y,k3,k4⟩:=N;obtain⟨k5,k6⟩:=gV I;refine⟨g,W,c,U,Y,by rw[k3,k5],(D.pM j g trivial (by show (h j).live;rw[hb];trivial) (by rw[U];rfl)).2.1,fun i x u hi hu=>?_⟩;obtain⟨y,hy⟩:∃y,bs[i]?=some y:=⟨_,acg (by rw[k5];exact aD hi)⟩;obtain⟨k7,k8⟩:=k4 i y u hy hu;exact⟨k7,k8.xz (k6 i y x hy hi)⟩
        exact I.elim
      | aN ys=>
       cases f with
       | gone=>trivial
       | row J=>exact z.elim
       | map J=>exact z.elim
       | box J=>exact z.elim
       | aN cs=>
        obtain⟨I,va⟩:=z;split at I
        ·rename_i bs hb;subst I;have N:=D.hp j trivial;have N:eK S w A.C.P cE rho h j (h j):=N;rw[hb]at N;obtain⟨g,W,c,U,Y⟩:=N;exact⟨g,W,c,U,Y,fun k hk=>(D.lv j k trivial (by show (h j).live;rw[hb];trivial) (by show hasB w (h j) _ _;rw[hb];exact hk)).2.1⟩
        ·rename_i bs hb;simp only[aaZ]at I;obtain⟨g,W,c,U,Y,k3⟩:=yq D (id:=j) trivial hb I.1.1 I.2;refine⟨g,W,c,U,Y,fun k hk=>?_⟩;rcases k3 k hk with hk | ⟨n,_,hn,O3,hk⟩
         ·exact (D.pM j k trivial (by show (h j).live;rw[hb];trivial) hk).2.1
         exact (D.pM n k hn O3 hk).2.1
        exact I.elim
     intro g hf O;rw[Y2]at O;cases x with
     | pv y=>cases hx
     | row e es=>
      cases f with
      | gone=>cases hf
      | row J=>exact⟨j,.inl rfl,by rw[z.1];trivial,.inl (aI rfl O)⟩
      | map J=>exact z.elim
      | box cs=>exact z.elim
      | aN cs=>exact z.elim
     | map mk es=>
      cases f with
      | gone=>cases hf
      | map J=>exact⟨j,.inl rfl,by rw[z.1];trivial,.inl (aI rfl O)⟩
      | row J=>exact z.elim
      | box cs=>exact z.elim
      | aN cs=>exact z.elim
     | box ys=>
      cases f with
      | gone=>cases hf
      | row J=>exact z.elim
      | map J=>exact z.elim
      | aN J=>exact z.elim
      | box cs=>
       obtain⟨I,va⟩:=z;split at I
       ·rename_i bs hb;exact⟨j,.inl rfl,by rw[hb];trivial,.inl (aI rfl O)⟩
       exact I.elim
     | aN ys=>
      cases f with
      | gone=>cases hf
      | row J=>exact z.elim
      | map J=>exact z.elim
      | box J=>exact z.elim
      | aN cs=>
       obtain⟨I,va⟩:=z;split at I
       ·rename_i bs hb;subst I;exact⟨j,.inl rfl,by rw[hb];trivial,by rw[hb];exact O⟩
       ·rename_i bs hb;simp only[aaZ]at I;obtain⟨g',W,c,U,Y,k3⟩:=yq D (id:=j) trivial hb I.1.1 I.2;rcases k3 g O with hk | ⟨n,hm,hn,O3,hk⟩
        ·exact⟨j,.inl rfl,by rw[hb];trivial,.inl hk⟩
        exact⟨n,.inr (by rw[hb];exact mf.2 hm),O3,.inl hk⟩
       exact I.elim
theorem J4{h:Nat->AB}:∀(args:List Arg) (fin:List Fin) (w:World) (vs:List Value) (z:Nat),100000<=z->lI h z args fin->∀i k id g,du w args fin vs i g->du w args fin vs k g->Bc h (z+i) id->Bc h (z+k) id->i=k:=by
 have I:∀(args:List Arg) (fin:List Fin) (w:World) (vs:List Value) (z:Nat),lI h z args fin->∀i g id,du w args fin vs i g->nj (h (z+i)) id=true->id<100000/\Mc args=false/\(∀m,i=m+1->∀x xs,args=x::xs->Mc xs=false):=by
  intro args
  induction args with
  | nil=>intro fin w vs z _ i g id J;exact J.elim
  | cons x args ih=>
   intro fin w vs z D i g id J hi;cases vs with
   | nil=>cases fin<;>exact J.elim
   | cons v vs=>
    cases hx:x.handed with
    | false=>
     cases x with
     | pv y=>
      cases i with
      | zero=>exact J.elim
      | succ i=>
       obtain⟨h1,U,_⟩:=ih fin w vs (z+1) D i g id J (by rw[show z+1+i=z+(i+1) by omega];exact hi);exact⟨h1,U,fun m hm x xs W=>by injection W with _ W;rw[<-W];exact U⟩
     | row=>cases hx
     | map=>cases hx
     | box=>cases hx
     | aN=>cases hx
    | true=>
     cases fin with
     | nil=>cases x<;>first | (cases hx;done) | exact J.elim
     | cons f fin=>
      cases i with
      | succ i=>
       have nS:du w args fin vs i g:=by cases x<;>first | (cases hx;done) | exact J
       obtain⟨h1,U,_⟩:=ih fin w vs (z+1) (rh hx D) i g id nS (by rw[show z+1+i=z+(i+1) by omega];exact hi);exact⟨h1,by cases x<;>first | exact U | rfl,fun m hm x xs W=>by injection W with _ W;rw[<-W];exact U⟩
      | zero=>
       have R:f.kept=true:=by cases x<;>first | (cases hx;done) | exact J.1
       have hi:nj (h z) id=true:=hi;cases x with
       | pv y=>cases hx
       | row e es=>cases f<;>first | (cases R;done) | exact D.elim | (rw[D.1]at hi;cases hi)
       | map mk es=>cases f<;>first | (cases R;done) | exact D.elim | (rw[D.1]at hi;cases hi)
       | box ys=>
        cases f with
        | gone=>cases R
        | row O=>exact D.elim
        | map O=>exact D.elim
        | aN O=>exact D.elim
        | box cs=>
         obtain⟨N,va⟩:=D;split at N
         ·rename_i bs hb;rw[hb]at hi;obtain⟨k5,k6⟩:=gV N;obtain⟨n,hn⟩:=ab8.1 (iv.1 (mf.1 hi));obtain⟨y,hy⟩:∃y,cs[n]?=some y:=⟨_,acg (by rw[<-k5];exact aD hn)⟩;have:=k6 n _ y hn hy;rcases this with h | h
          ·cases h
          cases h.1
         exact N.elim
       | aN ys=>
        cases f with
        | gone=>cases R
        | row O=>exact D.elim
        | map O=>exact D.elim
        | box O=>exact D.elim
        | aN cs=>
         obtain⟨N,va⟩:=D;split at N
         ·rename_i bs hb;rw[hb]at hi;cases hi
         ·rename_i bs hb;rw[hb]at hi;simp only[aaZ]at N;exact⟨oR N.1.1 (mf.1 hi),rfl,fun m hm=>by omega⟩
         exact N.elim
 have later:∀(args:List Arg) (fin:List Fin) (w:World) (vs:List Value) (z:Nat),lI h z args fin->∀i k g Y id,du w args fin vs i g->du w args fin vs k Y->nj (h (z+i)) id=true->nj (h (z+k)) id=true->i<k->False:=by
  intro args
  induction args with
  | nil=>intro fin w vs z _ i k g Y id J;exact J.elim
  | cons x args ih=>
   intro fin w vs z D i k g Y id J nS hi hk eF;cases vs with
   | nil=>cases fin<;>exact J.elim
   | cons v vs=>
    obtain⟨k,rfl⟩:∃m,k=m+1:=⟨k-1,by omega⟩;cases hx:x.handed with
    | false=>
     cases x with
     | pv y=>
      cases i with
      | zero=>exact J.elim
      | succ i=>exact ih fin w vs (z+1) D i k g Y id J nS (by rw[show z+1+i=z+(i+1) by omega];exact hi) (by rw[show z+1+k=z+(k+1) by omega];exact hk) (by omega)
     | row=>cases hx
     | map=>cases hx
     | box=>cases hx
     | aN=>cases hx
    | true=>
     cases fin with
     | nil=>cases x<;>first | (cases hx;done) | exact J.elim
     | cons f fin=>
      have V_:du w args fin vs k Y:=by cases x<;>first | (cases hx;done) | exact nS
      cases i with
      | succ i=>
       have hg1:du w args fin vs i g:=by cases x<;>first | (cases hx;done) | exact J
       exact ih fin w vs (z+1) (rh hx D) i k g Y id hg1 V_ (by rw[show z+1+i=z+(i+1) by omega];exact hi) (by rw[show z+1+k=z+(k+1) by omega];exact hk) (by omega)
      | zero=>
       have U:=(I args fin w vs (z+1) (rh hx D) k Y id V_ (by rw[show z+1+k=z+(k+1) by omega];exact hk)).2.1;have R:f.kept=true:=by cases x<;>first | (cases hx;done) | exact J.1
       have hi:nj (h z) id=true:=hi;have h3:=I (x::args) (f::fin) w (v::vs) z D 0 g id J hi;cases x with
       | pv y=>cases hx
       | row e es=>cases f<;>first | (cases R;done) | exact D.elim | (rw[D.1]at hi;cases hi)
       | map mk es=>cases f<;>first | (cases R;done) | exact D.elim | (rw[D.1]at hi;cases hi)
       | box ys=>exact (by
         have:Mc (.box ys::args)=false:=h3.2.1;cases f with
         | gone=>cases R
         | row O=>exact D.elim
         | map O=>exact D.elim
         | aN O=>exact D.elim
         | box cs=>
          obtain⟨N,va⟩:=D;split at N
          ·rename_i bs hb;rw[hb]at hi;obtain⟨k5,k6⟩:=gV N;obtain⟨n,hn⟩:=ab8.1 (iv.1 (mf.1 hi));obtain⟨y,hy⟩:∃y,cs[n]?=some y:=⟨_,acg (by rw[<-k5];exact aD hn)⟩;rcases k6 n _ y hn hy with h | h
           ·cases h
           cases h.1
          exact N.elim)
       | aN ys=>
        cases f with
        | gone=>cases R
        | row O=>exact D.elim
        | map O=>exact D.elim
        | box O=>exact D.elim
        | aN cs=>
         obtain⟨N,va⟩:=D;split at N
         ·rename_i bs hb;rw[hb]at hi;cases hi
         ·rename_i bs hb;simp only[aaZ]at N;rw[N.1.2]at U;cases U
         exact N.elim
 intro args fin w vs z hj D i k id g hi hk Z kk;rcases Z with Z | Z<;>rcases kk with kk | kk
 ·omega
 ·have:=(I args fin w vs z D k g id hk kk).1;omega
 ·have:=(I args fin w vs z D i g id hi Z).1;omega
 rcases ada i k with h | h | h
 ·exact (later args fin w vs z D i k g g id hi hk Z kk h).elim
 ·exact h
 exact (later args fin w vs z D k i g g id hk hi kk Z h).elim
theorem aG.front{P:Program}{S:Nat->Prop}{e:TypeId}{xs:List (List PV)}{v u:Value}{a:Option Addr}{n c hi:Nat}(h:aG P w (aO S w) e xs v)(J:v=.slice a n c)(U:hi<=n)(Y:u=.slice a hi c):aG P w (aO S w) e (xs.take hi) u:=by
 obtain⟨i,ys,Z,h2,N,h4,h5,h6⟩:=h;have hF:Flat S w i.size xs ys:=⟨N.1,h4,h5,h6⟩;have Au:n=xs.length:=by
  rcases N.2 with⟨z,O⟩ | ⟨g,D,I,z,_⟩
  ·rw[J]at z;injection z with _ z _;omega
  rw[J]at z;injection z
 subst Au;have W:=hF.take hi U;have hl:(xs.take hi).length=hi:=by rw[aat];omega
 refine aG.of_flat Z h2 ?_ W;refine⟨W.len,?_⟩;rw[hl,Y];rcases N.2 with⟨z,O⟩ | ⟨g,D,I,z,O,R,g4,g5,g6,g7⟩
 ·rw[J]at z;injection z with z _ R;exact .inl ⟨by rw[z,R];congr 1;omega,by omega⟩
 rw[J]at z;injection z with z _ g8;refine .inr ⟨g,D,I,by rw[z,g8],O,R,by omega,g5,g6,?_⟩;rw[<-g7,acx,ac9 (abf _ U)]
theorem yr(args:List Arg)(j:Nat):afb args (100000+j)=match args[j]? with
  | some x=>QF x
  | none=>.none:=by
 have z:Nat.ble 100000 (100000+j)=true:=Nat.ble_eq_true_of_le (by omega);have D:100000+j-100000=j:=by omega
 simp only[afb,z,D]
theorem D8(args:List Arg)(k:Nat)(h:k<100000):afb args k=.none:=by
 have z:Nat.ble 100000 k=false:=by
  rw[aaV];intro D;have:=abA D;omega
 simp only[afb,z]
theorem Mf{C:Ctx}{S:Nat->Prop}{args:List Arg}{vs:Array Value}(m:Nat)(hm:vs.size+m<=100000)(hE:C.E S w)(hS:∀b,S b->b<w.heap.size)(hl:args.length=vs.size)(N:∀(j:Nat) x v,args[j]?=some x->vs[j]?=some v->F7 S w C.P x v)
  (Z:∀(i j:Nat) x y v u g,args[i]?=some x->args[j]?=some y->vs[i]?=some v->vs[j]?=some u->x.handed=true->y.handed=true->hasB w (Ce x) v g->hasB w (Ce y) u g->i=j):
  b7 ⟨C,w,Mv w args vs,S,vs.size+m,fun k=>vs.getD (k-100000) undef⟩ cE cE S (fun k=>vs.getD (k-100000) undef) ⟨tF args,afb args⟩ { tmps:=vs++Array.replicate m undef,defers:=[] } w:=by
 have Cm:∀j v,vs[j]?=some v->vs.getD j undef=v:=fun j v h=>by rw[ac4,h];rfl
 have O:∀j,vs.getD (100000+j-100000) undef=vs.getD j undef:=fun j=>by rw[abG]
 have U:∀j x,args[j]?=some x->∃v,vs[j]?=some v/\vs.getD j undef=v:=fun j x h=>by
  obtain⟨v,hv⟩:=jG hl (aD h);exact⟨v,hv,Cm j v hv⟩
 have live:∀k,(afb args k).live->∃j x v,k=100000+j/\args[j]?=some x/\vs[j]?=some v/\vs.getD (k-100000) undef=v/\x.handed=true:=by
  intro k hk;by_cases eF:k<100000
  ·rw[D8 _ _ eF]at hk;exact hk.elim
  obtain⟨j,rfl⟩:∃j,k=100000+j:=⟨k-100000,by omega⟩;rw[yr]at hk;cases h:args[j]? with
  | none=>rw[h]at hk;exact hk.elim
  | some x=>
   rw[h]at hk;obtain⟨v,J,I⟩:=U j x h;refine⟨j,x,v,rfl,h,J,by rw[O];exact I,?_⟩;cases x with
   | pv y=>exact hk.elim
   | row=>rfl
   | map=>rfl
   | box=>rfl
   | aN=>rfl
 have Xl:∀(j:Nat) (x:Arg) (v:Value) (g:Nat),args[j]?=some x->vs[j]?=some v->x.handed=true->hasB w (Ce x) v g->g<w.heap.size/\¬S g:=by
  intro j x v g J I W D;have:=N j x v J I;cases x with
  | pv y=>cases W
  | map mk es=>
   have D:=aI rfl D;obtain⟨⟨g',ms,cl,rfl,k2,_⟩,hn⟩:=this;have DG:=D;injection D with D;subst D;exact⟨(ab9.1 k2).1,hn _ DG⟩
  | row e es=>
   have D:=aI rfl D;obtain⟨⟨i,xs,_,_,ho,_⟩,hn⟩:=this;exact⟨(ho.lt g (by rw[cI (cr ho).choose_spec.choose_spec];exact D)).2,hn g D⟩
  | box cs=>
   have D:=aI rfl D;obtain⟨g',Y,c,rfl,k2,_,k4,_⟩:=this;injection D with D;subst D;exact⟨(ab9.1 k2).1,k4⟩
  | aN cs=>
   obtain⟨g',Y,c,_,_,k⟩:=this;exact⟨(k g D).2,(k g D).1⟩
 have vf:∀(j:Nat) (x:Arg) (v:Value) (g:Nat),args[j]?=some x->x.handed=true->(hasB w (afb args (100000+j)) v g↔hasB w (Ce x) v g):=by
  intro j x v g J I;rw[yr,J];cases x with
  | pv y=>cases I
  | row e es=>exact⟨fun h=>.inl (aI rfl h),fun h=>.inl (aI rfl h)⟩
  | map mk es=>exact⟨fun h=>.inl (aI rfl h),fun h=>.inl (aI rfl h)⟩
  | box cs=>exact⟨fun h=>.inl (aI rfl h),fun h=>.inl (aI rfl h)⟩
  | aN cs=>exact aaT
 exact
 {tm:=fun j _=>by
   show aY _ _ _ _ _ _ (tF args j) ((vs++Array.replicate m undef).getD j undef);unfold tF;cases h:args[j]? with
   | none=>exact .junk _
   | some x=>
    obtain⟨v,J,I⟩:=U j x h;have hj:j<vs.size:=by rw[<-hl];exact aD h
    have W:(vs++Array.replicate m undef).getD j undef=v:=by
     rw[ac4,acN hj,J];rfl
    rw[W];have R:=N j x v h J;cases x with
    | pv y=>exact .p _ _ R
    | row e es=>exact .ow _ v fun _=>⟨trivial,by rw[O];exact I.symm⟩
    | map mk es=>exact .ow _ v fun _=>⟨trivial,by rw[O];exact I.symm⟩
    | box cs=>
     obtain⟨g,Y,c,e1,_⟩:=R;exact .bx _ 0 v fun _=>⟨trivial,g,by rw[O,I];exact e1,e1⟩
    | aN cs=>
     obtain⟨g,Y,c,e1,_⟩:=R;exact .bx _ 0 v fun _=>⟨trivial,g,by rw[O,I];exact e1,e1⟩
  sz:=by simp
  df:=rfl,nb:=hm,pn:=fun _ _=>rfl,ev:=hE,s0:=fun _ h=>h,st:=hS,sb:=fun b h=>.inl h
  hp:=fun k _=>by
   show eK _ _ _ _ _ _ k (afb args k);by_cases eF:k<100000
   ·rw[D8 _ _ eF];trivial
   obtain⟨j,rfl⟩:∃j,k=100000+j:=⟨k-100000,by omega⟩;rw[yr];cases h:args[j]? with
   | none=>trivial
   | some x=>
    obtain⟨v,J,I⟩:=U j x h;have R:=N j x v h J;cases x with
    | pv y=>trivial
    | row e es=>show aG _ _ _ _ _ (vs.getD (100000+j-100000) undef);rw[O,I];exact R.1
    | map mk es=>show Cd _ _ _ _ (vs.getD (100000+j-100000) undef);rw[O,I];exact R.1
    | box cs=>
     obtain⟨g,Y,c,e1,e2,e3,e4,e5⟩:=R;refine⟨g,Y,c,by simp only;rw[O,I];exact e1,e2,by simpa using e3,fun i x u hi hu=>?_⟩;rw[aak]at hi;obtain⟨z,hz,rfl⟩:=acq.1 hi;exact⟨(e5 i z u hz hu).1,.p _ _ (e5 i z u hz hu).2⟩
    | aN cs=>
     obtain⟨g,Y,c,e1,e2,_⟩:=R;exact⟨g,Y,c,by simp only;rw[O,I];exact e1,e2⟩
  dj:=fun i j g _ _ li lj hi hj=>by
   obtain⟨i',x,v,e1,J,I,W,D⟩:=live i li;obtain⟨j',y,u,e2,k1,k2,k3,k4⟩:=live j lj;have:=Z i' j' x y v u g J k1 I k2 D k4 (by rw[<-vf i' x v g J D,<-e1,<-W];exact hi) (by rw[<-vf j' y u g k1 k4,<-e2,<-k3];exact hj);omega
  lv:=fun k g _ lk hk=>by
   obtain⟨j,x,v,e1,J,I,W,D⟩:=live k lk;have xA:hasB w (Ce x) v g:=by rw[<-vf j x v g J D,<-e1,<-W];exact hk
   obtain⟨h5,h6⟩:=Xl j x v g J I D xA;exact⟨h5,h6,.inl ⟨j,x,v,J,I,D,xA⟩⟩
  fr:=Fr.refl _ _ }
theorem D9{P:Program}{fn:Func}{tmps:Array Value}{vs:List Value}(h:(fn.results.toList.mapM (D7 tmps)).run P w=.ok vs w):
  (results fn tmps).run P w=.ok (if h:vs.toArray.size=1 then vs.toArray[0] else .tuple vs.toArray) w:=by
 have e:results fn tmps=(do let vs <-fn.results.mapM (D7 tmps);pure (if h:vs.size=1 then vs[0] else .tuple vs)):=by
  unfold results D7;rfl
 rw[e,<-aaY (xs:=fn.results),List.mapM_toArray,aau];have:(Functor.map List.toArray (fn.results.toList.mapM (D7 tmps))).run P w=.ok vs.toArray w:=by
  rw[map_eq_pure_bind,aau,h];rfl
 rw[this];rfl
theorem R3 {C : Ctx} (hC : bI C) {f : FuncId} {fn : Func} {c : Code} (hf : C.P.funcs[f]? = some fn) (hb : fn.body = some c) (wj : (fn.name == "runtime.NumGoroutine") = false) {args : List Arg} {r : AR} {fin : List Fin} (hn : args.length + (fn.ntmps - args.length) ≤ 100000)
  (h:∀A:cD,A.C=C->A.n=args.length+(fn.ntmps-args.length)->W A c (GC C fn.results.toList args r fin) ⟨tF args,afb args⟩):af C f args r fin:=by
 refine⟨⟨fn,hf,wj,by rw[hb];rfl⟩,fun S w vs hE hS hl hrep hdis=>?_⟩;have sim:=Mf (fn.ntmps-vs.size) (by rw[<-hl];exact hn) hE hS hl hrep hdis;refine calls_of_wp hf hb ?_;have hw:=h ⟨C,w,Mv w args vs,S,vs.size+(fn.ntmps-vs.size),fun k=>vs.getD (k-100000) undef⟩ rfl (by rw[hl]);refine wp_mono (hw S _ _ w sim) fun e a' w' hq=>?_;obtain⟨S',rho',s',b9,hk⟩:=hq;have LY:RZ C fn.results.toList args r fin s'->a'.defers=[]/\∃v,(results fn a'.tmps).run C.P w'=.ok v w'/\∃v0 S',Ending.returned v=.returned v0/\Fr (Mv w args vs) w w'/\(∀b,S b->S' b)/\(∀b,S' b->b<w'.heap.size)/\(∀b,S' b->S b\/w.heap.size<=b\/Mv w args vs b)/\
   Lp S' w' C.P r v0/\eL S' w' C.P args fin vs.toList/\ta w w' args fin vs/\(∀g,r.owns=true->hasB w' r.ab v0 g->g<w'.heap.size/\(w.heap.size<=g\/Mv w args vs g)/\∀i,¬du w' args fin vs.toList i g):=by
  intro hk;refine⟨b9.df,?_⟩;obtain⟨iQ,us,hk,h1,h2,h3,h4⟩:=GD (A:=⟨C,w,Mv w args vs,S,vs.size+(fn.ntmps-vs.size),fun k=>vs.getD (k-100000) undef⟩) hC b9 fn.results.toList hk;have hrun:=D9 h2;have F4:args.length=vs.toList.length:=by simpa using hl
  have Xm:∀(S2:Nat->Prop) (h2:Nat->AB),b7 ⟨C,w,Mv w args vs,S,vs.size+(fn.ntmps-vs.size),fun k=>vs.getD (k-100000) undef⟩ cE cE S2 rho' ⟨s'.t,h2⟩ a' w'->∀i u,vs.toList[i]?=some u->(∃x,args[i]?=some x/\x.handed=true)->u=rho' (100000+i):=fun S2 h2 bu i u hu _=>by
   rw[bu.pn (100000+i) (by omega)];have qa:vs[i]?=some u:=by simpa using hu
   show u=vs.getD (100000+i-100000) undef;rw[abG,ac4,qa];rfl
  have fk:∀(S2:Nat->Prop) (h2:Nat->AB),b7 ⟨C,w,Mv w args vs,S,vs.size+(fn.ntmps-vs.size),fun k=>vs.getD (k-100000) undef⟩ cE cE S2 rho' ⟨s'.t,h2⟩ a' w'->lI h2 100000 args fin->eL S2 w' C.P args fin vs.toList/\(∀i g,du w' args fin vs.toList i g->∃id,Bc h2 (100000+i) id/\(h2 id).live/\hasB w' (h2 id) (rho' id) g/\mg h2 100000 args fin id=true)/\ta w w' args fin vs:=by
   intro S2 h2 bu fO;obtain⟨r1,r2⟩:=Me bu args fin vs.toList 100000 F4 (Xm S2 h2 bu) fO;refine⟨r1,r2,fun i g hg=>?_,fun i j g hi hj=>?_⟩
   ·obtain⟨id,_,q2,q3,_⟩:=r2 i g hg;obtain⟨p1,_,p3⟩:=bu.lv id g trivial q2 q3;exact⟨p1,p3.symm⟩
   obtain⟨id,q1,q2,q3,_⟩:=r2 i g hi;obtain⟨Ah,p1,p2,p3,_⟩:=r2 j g hj;have:=bu.dj id Ah g trivial trivial q2 p2 q3 p3;subst this;exact J4 args fin w' vs.toList 100000 (aam _) fO i j id g hi hj q1 p1
  have outer:∀(S2:Nat->Prop) (h2:Nat->AB) (v:Value),b7 ⟨C,w,Mv w args vs,S,vs.size+(fn.ntmps-vs.size),fun k=>vs.getD (k-100000) undef⟩ cE cE S2 rho' ⟨s'.t,h2⟩ a' w'->(results fn a'.tmps).run C.P w'=.ok v w'->Lp S2 w' C.P r v->lI h2 100000 args fin->(∀g,r.owns=true->hasB w' r.ab v g->g<w'.heap.size/\(w.heap.size<=g\/Mv w args vs g)/\∀i,¬du w' args fin vs.toList i g)->
    ∃v,(results fn a'.tmps).run C.P w'=.ok v w'/\∃v0 S',Ending.returned v=.returned v0/\Fr (Mv w args vs) w w'/\(∀b,S b->S' b)/\(∀b,S' b->b<w'.heap.size)/\(∀b,S' b->S b\/w.heap.size<=b\/Mv w args vs b)/\
   Lp S' w' C.P r v0/\eL S' w' C.P args fin vs.toList/\ta w w' args fin vs/\(∀g,r.owns=true->hasB w' r.ab v0 g->g<w'.heap.size/\(w.heap.size<=g\/Mv w args vs g)/\∀i,¬du w' args fin vs.toList i g):=by
   intro S2 h2 v bu hr Um fO hown;refine⟨v,hr,v,S2,rfl,bu.fr,bu.s0,bu.st,fun b hb=>?_,Um,(fk S2 h2 bu fO).1,(fk S2 h2 bu fO).2.2,hown⟩;rcases bu.sb b hb with h | h | h
   ·exact .inl h
   ·exact .inr (.inr h)
   exact .inr (.inl h)
  cases r with
  | own e es=>
   simp only at hk;split at hk
   ·rename_i av;obtain⟨u,rfl⟩:∃u,us=[u]:=by
     match us,h1 with
     | [u],_=>exact⟨u,rfl⟩
    have yu:(results fn a'.tmps).run C.P w'=.ok u w':=hrun;split at hk
    ·rename_i i;obtain⟨k1,k2,k3⟩:=hk;have hu:=h4 S' s'.h (fun _ h=>h) b9 0 _ u rfl rfl;obtain⟨_,hv⟩:=hu.cH (by rw[k1];trivial);have hh:=b9.hp i trivial;rw[k1]at hh;have bY:(s'.h i).live:=by rw[k1];trivial
     refine outer S' s'.h u b9 yu ⟨by rw[hv];exact hh,fun g hg=>(b9.pM i g trivial bY (by rw[<-hv];exact hg)).2.1⟩ k3 fun g _ Un=>?_;have hg:cC u=some g:=aI rfl Un;have nS:cC (rho' i)=some g:=by rw[<-hv];exact hg
     obtain⟨l1,l2,l3⟩:=b9.pM i g trivial bY nS;refine⟨l1,l3.symm,fun n Uo=>?_⟩;obtain⟨i',_,m1,m2,m3⟩:=(fk S' s'.h b9 k3).2.1 n g Uo;have:=b9.dj i i' g trivial trivial bY m1 (.inl nS) m2;subst this;rw[k2]at m3;cases m3
    ·rename_i i lo hi;have hk9:lo=0/\∃xs,s'.h i=.row e xs/\es=xs.take hi/\mg s'.h 100000 args fin i=false/\lI s'.h 100000 args fin:=by
      cases lo with
      | succ n=>exact hk.elim
      | zero=>
       cases hr:s'.h i with
       | row e' xs=>
        rw[hr]at hk;simp only at hk;split at hk
        ·rename_i u_;rw[a7.1 u_];exact⟨rfl,xs,rfl,hk⟩
        exact hk.elim
       | _=>rw[hr]at hk;exact hk.elim
     obtain⟨rfl,xs,az,k1,k2,k3⟩:=hk9;have hu:=h4 S' s'.h (fun _ h=>h) b9 0 _ u rfl rfl;obtain⟨_,n,cp,ad,ti,q1,q2,_,q3,q4,hv⟩:=hu.Cj az;have hh:=b9.hp i trivial;rw[az]at hh;have hh:aG C.P w' (aO S' w') e xs (rho' i):=hh;have bY:(s'.h i).live:=by rw[az];trivial
     have hblk:∀g,cC u=some g->cC (rho' i)=some g:=by
      intro g hg;rw[hv]at hg;rw[q1];split at hg
      ·cases ad<;>exact hg
      cases ad with
      | none=>cases hg
      | some a0=>
       simp only[ab6,Nat.zero_mul,Addr.add,aap]at hg;exact hg
     refine outer S' s'.h u b9 yu ⟨?_,fun g hg=>(b9.pM i g trivial bY (hblk g hg)).2.1⟩ k3 fun g _ Un=>?_
     ·rw[k1];exact aG.front hh q1 q3 (by rw[hv];simp[Addr.add])
     have hg:cC u=some g:=aI rfl Un;obtain⟨l1,l2,l3⟩:=b9.pM i g trivial bY (hblk g hg);refine⟨l1,l3.symm,fun n Uo=>?_⟩;obtain⟨i',_,m1,m2,m3⟩:=(fk S' s'.h b9 k3).2.1 n g Uo;have:=b9.dj i i' g trivial trivial bY m1 (.inl (hblk g hg)) m2;subst this;rw[k2]at m3;cases m3
    ·split at hk
     case h_2=>exact hk.elim
     rename_i ti hT;split at hk
     case h_2=>exact hk.elim
     rename_i hpos;obtain⟨k1,k3⟩:=hk;subst k1;obtain⟨info,z,g1,g2,_⟩:=hC.iq e ti hT;have hu:=h4 S' s'.h (fun _ h=>h) b9 0 _ u rfl rfl;have qa:u=.slice none 0 0:=by cases hu;rfl
     subst qa;exact outer S' s'.h _ b9 yu ⟨⟨info,[],g1,by have:=abA hpos;omega,aem _ _ _ _,by simp,by simp,by simp⟩,fun g hg=>by cases hg⟩ k3 fun g _ hg=>by cases aI rfl hg
    exact hk.elim
   exact hk.elim
  | hown cs=>
   simp only at hk;split at hk
   ·rename_i av;obtain⟨u,rfl⟩:∃u,us=[u]:=by
     match us,h1 with
     | [u],_=>exact⟨u,rfl⟩
    have yu:(results fn a'.tmps).run C.P w'=.ok u w':=hrun;split at hk
    ·rename_i i off;cases off with
     | succ n=>exact hk.elim
     | zero=>
      obtain⟨k1,k2,k3⟩:=hk;have hu:=h4 S' s'.h (fun _ h=>h) b9 0 _ u rfl rfl;obtain⟨_,g0,Un,hv⟩:=hu.h_ (by rw[k1];trivial);have Y3:u=rho' i:=by rw[hv,Un]
      have hh:=b9.hp i trivial;rw[k1]at hh;obtain⟨g1,ty,c,e1,e2⟩:=hh;have bY:(s'.h i).live:=by rw[k1];trivial
      have uW:∀k,hasB w' (.aN cs) u k->hasB w' (s'.h i) (rho' i) k:=fun k hk=>by rw[k1,<-Y3];exact hk
      refine outer S' s'.h u b9 yu ⟨g1,ty,c,by rw[Y3];exact e1,e2,fun k hk=>(b9.lv i k trivial bY (uW k hk)).2.1⟩ k3 fun g _ hg=>?_;have nS:=uW g hg;obtain⟨l1,l2,l3⟩:=b9.lv i g trivial bY nS;refine⟨l1,l3.symm,fun n Uo=>?_⟩;obtain⟨i',_,m1,m2,m3⟩:=(fk S' s'.h b9 k3).2.1 n g Uo;have:=b9.dj i i' g trivial trivial bY m1 nS m2;subst this;rw[k2]at m3;cases m3
    exact hk.elim
   exact hk.elim
  | p x=>
   simp only at hk;split at hk
   ·rename_i av;obtain⟨u,rfl⟩:∃u,us=[u]:=by
     match us,h1 with
     | [u],_=>exact⟨u,rfl⟩
    have yu:(results fn a'.tmps).run C.P w'=.ok u w':=hrun;obtain⟨y,fz,S2,⟨rfl,fO⟩,bu,hp,xC,_,_⟩:=ir hC (s:=⟨s'.t,s'.h⟩) b9 (pY.refl s'.h) (h4 S' s'.h (fun _ h=>h) b9 0 _ u rfl rfl) hk;exact outer S2 _ u bu yu hp fO (fun g h=>by cases h)
   exact hk.elim
  | tu xs=>
   simp only at hk;split at hk
   ·exact hk.elim
   rename_i b8;obtain⟨ys,h',S2,⟨rfl,fO⟩,bu,xC,hlen,hp⟩:=GF hC iQ us S' s'.h h1 b9 (fun S2 h2 hS bu=>h4 S2 h2 hS bu) hk;have hus:us.toArray.size≠1:=by
    intro e;have e1:us.length=1:=by simpa using e
    obtain⟨q,hq⟩:=List.length_eq_one_iff.1 (h1.trans e1);exact b8 q hq
   rw[dif_neg hus]at hrun;refine outer S2 h' _ bu hrun ⟨us.toArray,rfl,by simpa using hlen,fun i x u hx hu=>hp i x u hx (by simpa using hu)⟩ fO (fun g h=>by cases h)
 cases e with
 | normal=>exact LY hk
 | ret=>exact LY hk
 | exit id=>exact hk.elim
 | goto l=>exact hk.elim
 | panic c=>exact hk.elim
 | outgrown=>exact hk.elim
end Go.AM
