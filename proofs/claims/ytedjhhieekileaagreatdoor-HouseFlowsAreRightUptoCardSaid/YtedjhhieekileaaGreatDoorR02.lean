/- Part 2 of the proof of HouseFlowsAreRight. -/
import Derived.Test.YtedjhhieekileaaGreatDoorR01
set_option linter.unusedVariables false
set_option linter.unusedSimpArgs false
set_option maxRecDepth 100000
set_option maxHeartbeats 8000000
namespace Go
abbrev aK:=@Nat.add_right_cancel_iff
abbrev fK:=@List.mem_cons
abbrev ca:=@List.nodup_cons
abbrev nZ:=@Array.getElem?_eq_some_iff
abbrev vm:=@List.getElem?_zipWith
abbrev l5:=@List.length_zipWith
abbrev fL:=@List.getElem?_cons_zero
abbrev jc:=@List.mem_singleton
abbrev vn:=@Bool.not_eq_true'
abbrev n5:=@Array.toList_append
abbrev er:=@Bool.and_self
abbrev qV:=@Bool.or_eq_true
abbrev n9:=@Nat.ble_eq_true_of_le
abbrev AF:=@Array.getElem?_append_left
abbrev j8:=@Array.getElem?_append_right
abbrev vo:=@Bool.or_eq_false_iff
abbrev n_:=@Classical.choose_spec
abbrev oa:=@Bool.true_and
abbrev eP:=@Bool.or_true
abbrev vp:=@Nat.lt_trichotomy
abbrev l9:=@Nat.add_sub_cancel_left
end Go
namespace Go.AM
open Go.RowKit
variable {S':Nat->Prop} {w':World}
theorem gk{S:Nat->Prop}{w:World}{x:PV}{v:Value}(h:nL x=true)(m:ay S w x v):ay S' w' x v:=by
 induction m with
 | im=>exact .im _
 | ag cs vs hl h1 hc=>
  refine .ag cs vs hl h1 fun i c v u z=>?_;have D:=aj u;have:=cC.1 h c D;have I:=hc i c v u z;cases c with
  | im y=>cases I;exact .im _
  | _=>cases this
 | nil=>cases h
 | sl=>cases h
 | ip=>cases h
 | fn=>cases h
 | mp=>cases h
 | ifc t x v m ih=>exact .ifc t _ _ (ih h)
variable {A:jR} {V L:Nat->Prop} {rho:Nat->Value} {s:AS}
theorem aU.grow{S:Nat->Prop}{a:Act}{w:World}(m:aU A V L S rho s a w)(hC:aL A.C)(w':World)(u:Fr (fun _=>False) w w'):aU A V L S rho s a w':=by
 have O:∀b,S b->w'.heap[b]?=w.heap[b]?:=fun k D=>u.block k (m.st k D) (fun h=>h);have T:fu S S w w' L L rho rho s.h s.h:=⟨fun b h=>h,O,fun j z=>⟨z,fun hl=>⟨hl,rfl⟩⟩,fun j e' z=>z⟩;exact
 {tm:=fun j z=>(m.tm j z).bA T
  sz:=m.sz,df:=m.df,nb:=m.nb,pn:=m.pn
  ev:=hC.env _ _ _ _ m.ev (fun b h=>h) O u.size
  s0:=m.s0
  st:=fun b hb=>bg (m.st b hb) u.size
  sb:=m.sb
  hp:=fun j z=>(m.hp j z).bA T (fun I g N=>u.block g (m.lv j g z I N).1 (fun h=>h)) (fun _=>rfl)
  dj:=fun i j g J z I R U W=>m.dj i j g J z I R (b_ (fun k D=>u.block k (m.lv i k J I D).1 (fun h=>h)) U) (b_ (fun k D=>u.block k (m.lv j k z R D).1 (fun h=>h)) W)
  lv:=fun i g J I N=>by obtain⟨Y,Z⟩:=m.lv i g J I (b_ (fun k D=>u.block k (m.lv i k J I D).1 (fun h=>h)) N);exact⟨bg Y u.size,Z⟩
  fr:=m.fr.next u.os u.tape u.output u.size fun k D _=>u.block k (bg D m.fr.size) (fun h=>h) }
inductive dO(L:Nat->Prop)(rho:Nat->Value)(h:Nat->AB):List Arg->List Value->List (Nat×AB)->Prop
 | nil:dO L rho h [] [] []
 | pv (x:PV) (v:Value) {xs:List Arg} {vs:List Value} {ids:List (Nat×AB)} (hr:dO L rho h xs vs ids):dO L rho h (.pv x::xs) (v::vs) ids
 | row (id:Nat) (e:TypeId) (es:List (List PV)) {xs:List Arg} {vs:List Value} {ids:List (Nat×AB)} (hL:L id) (hid:h id=.row e es) (hr:dO L rho h xs vs ids):dO L rho h (.row e es::xs) (rho id::vs) ((id,.row e es)::ids)
 | map (id:Nat) (mk:MK) (es:List (Value×PV)) {xs:List Arg} {vs:List Value} {ids:List (Nat×AB)} (hL:L id) (hid:h id=.map mk es) (hr:dO L rho h xs vs ids):dO L rho h (.map mk es::xs) (rho id::vs) ((id,.map mk es)::ids)
 | box (id:Nat) (cs:List AV) (ys:List PV) {xs:List Arg} {vs:List Value} {ids:List (Nat×AB)} (hL:L id) (hid:h id=.box cs) (hy:cE cs=some ys) (hr:dO L rho h xs vs ids):dO L rho h (.box ys::xs) (rho id::vs) ((id,.box cs)::ids)
 | aA (id:Nat) (cs:List HC) {xs:List Arg} {vs:List Value} {ids:List (Nat×AB)} (hL:L id) (hid:h id=.aA cs) (hr:dO L rho h xs vs ids):dO L rho h (.aA cs::xs) (rho id::vs) ((id,.aA cs)::ids)
theorem BX(hC:aL A.C){t:Nat->AV}{a:Act}{w:World}{h:Nat->AB}{md:Nat->Bool}:
  ∀(cT:List AV) (vs:List Value) (j:Nat) (h':Nat->AB) (S:Nat->Prop) (K:List Arg->List (Nat×AB)->List (Nat×AB)->Prop),cT.length=vs.length->aU A V L S rho ⟨t,h'⟩ a w->kM h h' ->
   (∀(S2:Nat->Prop) (z:Nat->AB),aU A V L S2 rho ⟨t,z⟩ a w->∀(i:Nat) x v,cT[i]?=some x->vs[i]?=some v->aE S2 w A.C.P L rho z x v)->
   (∀id,(h' id).there->(h id).there)->eB md h j cT K ->
  ∃xs ids fz S',K xs ids fz/\aU A V L S' rho ⟨t,app h' fz⟩ a w/\(∀b,S b->S' b)/\kM h (app h' fz)/\(∀p∈fz,L p.1)/\xs.length=vs.length/\dO L rho h xs vs ids/\(∀(i:Nat) x v,xs[i]?=some (.pv x)->vs[i]?=some v->ay S' w x v):=by
 intro cT
 induction cT with
 | nil=>
  intro vs j h' S K hl I R hrep _ J;have:vs=[]:=cW hl.symm;subst this;exact⟨[],[],[],S,J,I,fun _ h=>h,R,by simp,rfl,.nil,by simp⟩
 | cons x cT ih=>
  intro vs j h' S K hl I R hrep U J;cases vs with
  | nil=>simp at hl
  | cons v vs=>
   simp only[cD,aK]at hl;have hx:aE S w A.C.P L rho h' x v:=hrep S h' I 0 x v rfl rfl;have rP:∀(S2:Nat->Prop) (z:Nat->AB),aU A V L S2 rho ⟨t,z⟩ a w->∀(i:Nat) x v,cT[i]?=some x->vs[i]?=some v->aE S2 w A.C.P L rho z x v:=fun S2 z s2 i x v D N=>hrep S2 z s2 (i+1) x v (by simpa using D) (by simpa using N);unfold eB at J;split at J
   ·obtain⟨y,fz,S2,J,aJ,hp,nX,C3,wU⟩:=e8 hC I R hx J;have NW:∀id,(app h' fz id).there->(h id).there:=fun id ht=>by
     rcases C3 id with m | ⟨e',xs,m,z⟩ | ⟨cs,xs,m,_,z⟩
     ·rw[m]at ht;exact ht
     ·rw[m];trivial
     rw[m];trivial
    obtain⟨xs,ids,W,S',Y,Z,O,k4,k5,k6,k7,k8⟩:=ih vs (j+1) (app h' fz) S2 _ hl aJ C3 rP NW J;refine⟨.pv y::xs,ids,fz++W,S',Y,by rw[bJ];exact Z,fun b hb=>O b (nX b hb),by rw[bJ];exact k4,fun p hp=>(cX.1 hp).elim (wU p) (k5 p),by simp[k6],.pv y v k7,fun i x u D N=>?_⟩;cases i with
    | zero=>simp at D N;subst D N;exact hp.mono O (fun _ _=>rfl)
    | succ i=>exact k8 i x u (by simpa using D) (by simpa using N)
   split at J
   ·rename_i id;split at J
    ·rename_i e es ai;obtain⟨xs,ids,W,S',Y,Z,O,k4,k5,k6,k7,k8⟩:=ih vs (j+1) h' S _ hl I R rP U J;have ht:(h' id).there:=by
      rcases R id with m | ⟨e',xs,m,z⟩ | ⟨cs,xs,m,_,z⟩
      ·rw[m,ai];trivial
      ·rw[z];trivial
      rw[z];trivial
     obtain⟨hL,rfl⟩:=hx.bu ht;refine⟨.row e es::xs,(id,.row e es)::ids,W,S',Y,Z,O,k4,k5,by simp[k6],.row id e es hL ai k7,fun i x u D N=>?_⟩;cases i with
     | zero=>simp at D
     | succ i=>exact k8 i x u (by simpa using D) (by simpa using N)
    ·rename_i es C4;obtain⟨xs,ids,W,S',Y,Z,O,k4,k5,k6,k7,k8⟩:=ih vs (j+1) h' S _ hl I R rP U J;have he:h' id=.f_ es:=by
      rcases R id with m | ⟨e',xs,m,z⟩ | ⟨cs,xs,m,_,z⟩
      ·rw[m,C4]
      ·rw[C4]at m;cases m
      rw[C4]at m;cases m
     obtain⟨hL,rfl⟩:=hx.bu (by rw[he];trivial);have hh:=I.hp id hL;have hh:cd S w A.C.P L rho h' id (h' id):=hh;rw[he]at hh;refine⟨.pv (.sl es)::xs,ids,W,S',Y,Z,O,k4,k5,by simp[k6],.pv _ _ k7,fun i x u D N=>?_⟩;cases i with
     | zero=>simp at D N;subst D N;exact ay.mono hh O (fun _ _=>rfl)
     | succ i=>exact k8 i x u (by simpa using D) (by simpa using N)
    ·rename_i mk es ai;obtain⟨xs,ids,W,S',Y,Z,O,k4,k5,k6,k7,k8⟩:=ih vs (j+1) h' S _ hl I R rP U J;have ht:(h' id).there:=by
      rcases R id with m | ⟨e',xs,m,z⟩ | ⟨cs,xs,m,_,z⟩
      ·rw[m,ai];trivial
      ·rw[z];trivial
      rw[z];trivial
     obtain⟨hL,rfl⟩:=hx.bu ht;refine⟨.map mk es::xs,(id,.map mk es)::ids,W,S',Y,Z,O,k4,k5,by simp[k6],.map id mk es hL ai k7,fun i x u D N=>?_⟩;cases i with
     | zero=>simp at D
     | succ i=>exact k8 i x u (by simpa using D) (by simpa using N)
    exact J.elim
   ·obtain⟨xs,ids,W,S',Y,Z,O,k4,k5,k6,k7,k8⟩:=ih vs (j+1) h' S _ hl I R rP U J;refine⟨.pv _::xs,ids,W,S',Y,Z,O,k4,k5,by simp[k6],.pv _ _ k7,fun i x u D N=>?_⟩;cases i with
    | zero=>simp at D N;subst D N;exact hx.cb.mono O (fun _ _=>rfl)
    | succ i=>exact k8 i x u (by simpa using D) (by simpa using N)
   ·rename_i id;split at J
    ·rename_i cs aA;split at J
     ·rename_i ys Dx;obtain⟨xs,ids,W,S',Y,Z,O,k4,k5,k6,k7,k8⟩:=ih vs (j+1) h' S _ hl I R rP U J;have ht:(h' id).there:=by
       rcases R id with m | ⟨e',xs,m,z⟩ | ⟨cs,xs,m,_,z⟩
       ·rw[m,aA];trivial
       ·rw[z];trivial
       rw[z];trivial
      obtain⟨hL,g,hg,hv⟩:=hx.dt ht;have yB:v=rho id:=by rw[hv,hg]
      subst yB;refine⟨.box ys::xs,(id,.box cs)::ids,W,S',Y,Z,O,k4,k5,by simp[k6],.box id cs ys hL aA Dx k7,fun i x u D N=>?_⟩;cases i with
      | zero=>simp at D
      | succ i=>exact k8 i x u (by simpa using D) (by simpa using N)
     exact J.elim
    ·rename_i cs aA;obtain⟨xs,ids,W,S',Y,Z,O,k4,k5,k6,k7,k8⟩:=ih vs (j+1) h' S _ hl I R rP U J;have ht:(h' id).there:=by
      rcases R id with m | ⟨e',xs,m,z⟩ | ⟨cs,xs,m,_,z⟩
      ·rw[m,aA];trivial
      ·rw[z];trivial
      rw[z];trivial
     obtain⟨hL,g,hg,hv⟩:=hx.dt ht;have yB:v=rho id:=by rw[hv,hg]
     subst yB;refine⟨.aA cs::xs,(id,.aA cs)::ids,W,S',Y,Z,O,k4,k5,by simp[k6],.aA id cs hL aA k7,fun i x u D N=>?_⟩;cases i with
     | zero=>simp at D
     | succ i=>exact k8 i x u (by simpa using D) (by simpa using N)
    exact J.elim
   exact J.elim
variable {xs:List Arg} {vs:List Value}
theorem dO.at{h:Nat->AB}{ids:List (Nat×AB)}(H:dO L rho h xs vs ids):∀(j:Nat) x v,xs[j]?=some x->vs[j]?=some v->x.handed=true->∃id b,(id,b)∈ids/\L id/\h id=b/\v=rho id/\(((∃e es,x=.row e es/\b=.row e es)\/∃mk es,x=.map mk es/\b=.map mk es)\/(∃cs ys,x=.box ys/\b=.box cs/\cE cs=some ys)\/∃cs,x=.aA cs/\b=.aA cs):=by
 induction H with
 | nil=>intro j x v z;simp at z
 | pv y u hr ih=>
  intro j x v z D I;cases j with
  | zero=>simp at z;subst z;cases I
  | succ j=>exact ih j x v (by simpa using z) (by simpa using D) I
 | row id e es J hid hr ih=>
  intro j x v z D I;cases j with
  | zero=>simp at z D;subst z D;exact⟨id,_,by simp,J,hid,rfl,.inl (.inl ⟨e,es,rfl,rfl⟩)⟩
  | succ j=>obtain⟨i,b,m,r⟩:=ih j x v (by simpa using z) (by simpa using D) I;exact⟨i,b,by simp[m],r⟩
 | map id mk es J hid hr ih=>
  intro j x v z D I;cases j with
  | zero=>simp at z D;subst z D;exact⟨id,_,by simp,J,hid,rfl,.inl (.inr ⟨mk,es,rfl,rfl⟩)⟩
  | succ j=>obtain⟨i,b,m,r⟩:=ih j x v (by simpa using z) (by simpa using D) I;exact⟨i,b,by simp[m],r⟩
 | box id cs ys J hid hy hr ih=>
  intro j x v z D I;cases j with
  | zero=>simp at z D;subst z D;exact⟨id,_,by simp,J,hid,rfl,.inr (.inl ⟨cs,ys,rfl,rfl,hy⟩)⟩
  | succ j=>obtain⟨i,b,m,r⟩:=ih j x v (by simpa using z) (by simpa using D) I;exact⟨i,b,by simp[m],r⟩
 | aA id cs J hid hr ih=>
  intro j x v z D I;cases j with
  | zero=>simp at z D;subst z D;exact⟨id,_,by simp,J,hid,rfl,.inr (.inr ⟨cs,rfl,rfl⟩)⟩
  | succ j=>obtain⟨i,b,m,r⟩:=ih j x v (by simpa using z) (by simpa using D) I;exact⟨i,b,by simp[m],r⟩
theorem dO.back{h:Nat->AB}{ids:List (Nat×AB)}(H:dO L rho h xs vs ids):∀id b,(id,b)∈ids->L id/\h id=b/\b.live/\∃(j:Nat) (x:Arg),xs[j]?=some x/\vs[j]?=some (rho id)/\x.handed=true:=by
 induction H with
 | nil=>intro id b h;cases h
 | pv y u hr ih=>intro id b h;obtain⟨m,z,D,j,x,I⟩:=ih id b h;exact⟨m,z,D,j+1,x,by simpa using I⟩
 | row i e es J hid hr ih=>
  intro id b h;rcases fK.1 h with h | h
  ·injection h with m z;subst m z;exact⟨J,hid,trivial,0,_,rfl,rfl,rfl⟩
  obtain⟨m,z,D,j,x,I⟩:=ih id b h;exact⟨m,z,D,j+1,x,by simpa using I⟩
 | map i mk es J hid hr ih=>
  intro id b h;rcases fK.1 h with h | h
  ·injection h with m z;subst m z;exact⟨J,hid,trivial,0,_,rfl,rfl,rfl⟩
  obtain⟨m,z,D,j,x,I⟩:=ih id b h;exact⟨m,z,D,j+1,x,by simpa using I⟩
 | box i cs ys J hid hy hr ih=>
  intro id b h;rcases fK.1 h with h | h
  ·injection h with m z;subst m z;exact⟨J,hid,trivial,0,_,rfl,rfl,rfl⟩
  obtain⟨m,z,D,j,x,I⟩:=ih id b h;exact⟨m,z,D,j+1,x,by simpa using I⟩
 | aA i cs J hid hr ih=>
  intro id b h;rcases fK.1 h with h | h
  ·injection h with m z;subst m z;exact⟨J,hid,trivial,0,_,rfl,rfl,rfl⟩
  obtain⟨m,z,D,j,x,I⟩:=ih id b h;exact⟨m,z,D,j+1,x,by simpa using I⟩
theorem dO.inj{h:Nat->AB}{ids:List (Nat×AB)}(H:dO L rho h xs vs ids)(Y:(ids.map (·.1)).Nodup):∀(i j:Nat) x y v u,xs[i]?=some x->xs[j]?=some y->vs[i]?=some v->vs[j]?=some u->x.handed=true->y.handed=true->i≠j ->
  ∃yT D b1 m,yT≠D/\(yT,b1)∈ids/\(D,m)∈ids/\v=rho yT/\u=rho D/\(((∃e es,x=.row e es/\b1=.row e es)\/∃mk es,x=.map mk es/\b1=.map mk es)\/(∃cs ys,x=.box ys/\b1=.box cs/\cE cs=some ys)\/∃cs,x=.aA cs/\b1=.aA cs)/\(((∃e es,y=.row e es/\m=.row e es)\/∃mk es,y=.map mk es/\m=.map mk es)\/(∃cs ys,y=.box ys/\m=.box cs/\cE cs=some ys)\/∃cs,y=.aA cs/\m=.aA cs):=by
 have step:∀(i0:Nat) (b0:AB) {xs:List Arg} {vs:List Value} {ids:List (Nat×AB)} (H:dO L rho h xs vs ids) (Y:(((i0,b0)::ids).map (·.1)).Nodup) (j:Nat) (y:Arg) (u:Value),xs[j]?=some y->vs[j]?=some u->y.handed=true->∃id b,id≠i0/\(id,b)∈ids/\u=rho id/\(((∃e es,y=.row e es/\b=.row e es)\/∃mk es,y=.map mk es/\b=.map mk es)\/(∃cs ys,y=.box ys/\b=.box cs/\cE cs=some ys)\/∃cs,y=.aA cs/\b=.aA cs):=by
  intro i0 b0 xs vs ids H Y j y u I J O;obtain⟨id,b,N,_,_,h5,Z⟩:=H.at j y u I J O;simp only[aV,ca]at Y;exact⟨id,b,fun e=>Y.1 (aR.2 ⟨(id,b),N,e⟩),N,h5,Z⟩
 induction H with
 | nil=>intro i j x y v u I;simp at I
 | pv z v0 hr ih=>
  intro i j x y v u I J O N h5 h6 h7;cases i with
  | zero=>simp at I;subst I;cases h5
  | succ i=>
   cases j with
   | zero=>simp at J;subst J;cases h6
   | succ j=>exact ih Y i j x y v u (by simpa using I) (by simpa using J) (by simpa using O) (by simpa using N) h5 h6 (by omega)
 | row id e es hL hid hr ih=>
  intro i j x y v u I J O N h5 h6 h7;have wM:=Y;simp only[aV,ca]at wM;cases i with
  | zero=>
   cases j with
   | zero=>exact absurd rfl h7
   | succ j=>
    obtain⟨D,m,R,U,W,Z⟩:=step id (.row e es) hr Y j y u (by simpa using J) (by simpa using N) h6;simp at I O;exact⟨id,D,.row e es,m,R.symm,by simp,by simp[U],O.symm,W,I▸.inl (.inl ⟨e,es,rfl,rfl⟩),Z⟩
  | succ i=>
   cases j with
   | zero=>
    obtain⟨D,m,R,U,W,Z⟩:=step id (.row e es) hr Y i x v (by simpa using I) (by simpa using O) h5;simp at J N;exact⟨D,id,m,.row e es,R,by simp[U],by simp,W,N.symm,Z,J▸.inl (.inl ⟨e,es,rfl,rfl⟩)⟩
   | succ j=>
    obtain⟨yT,D,b1,m,R,U,W,k4,k5⟩:=ih wM.2 i j x y v u (by simpa using I) (by simpa using J) (by simpa using O) (by simpa using N) h5 h6 (by omega);exact⟨yT,D,b1,m,R,by simp[U],by simp[W],k4,k5⟩
 | map id mk es hL hid hr ih=>
  intro i j x y v u I J O N h5 h6 h7;have wM:=Y;simp only[aV,ca]at wM;cases i with
  | zero=>
   cases j with
   | zero=>exact absurd rfl h7
   | succ j=>
    obtain⟨D,m,R,U,W,Z⟩:=step id (.map mk es) hr Y j y u (by simpa using J) (by simpa using N) h6;simp at I O;exact⟨id,D,.map mk es,m,R.symm,by simp,by simp[U],O.symm,W,I▸.inl (.inr ⟨mk,es,rfl,rfl⟩),Z⟩
  | succ i=>
   cases j with
   | zero=>
    obtain⟨D,m,R,U,W,Z⟩:=step id (.map mk es) hr Y i x v (by simpa using I) (by simpa using O) h5;simp at J N;exact⟨D,id,m,.map mk es,R,by simp[U],by simp,W,N.symm,Z,J▸.inl (.inr ⟨mk,es,rfl,rfl⟩)⟩
   | succ j=>
    obtain⟨yT,D,b1,m,R,U,W,k4,k5⟩:=ih wM.2 i j x y v u (by simpa using I) (by simpa using J) (by simpa using O) (by simpa using N) h5 h6 (by omega);exact⟨yT,D,b1,m,R,by simp[U],by simp[W],k4,k5⟩
 | box id cs ys hL hid hy hr ih=>
  intro i j x y v u I J O N h5 h6 h7;have wM:=Y;simp only[aV,ca]at wM;cases i with
  | zero=>
   cases j with
   | zero=>exact absurd rfl h7
   | succ j=>
    obtain⟨D,m,R,U,W,Z⟩:=step id (.box cs) hr Y j y u (by simpa using J) (by simpa using N) h6;simp at I O;exact⟨id,D,.box cs,m,R.symm,by simp,by simp[U],O.symm,W,I▸.inr (.inl ⟨cs,ys,rfl,rfl,hy⟩),Z⟩
  | succ i=>
   cases j with
   | zero=>
    obtain⟨D,m,R,U,W,Z⟩:=step id (.box cs) hr Y i x v (by simpa using I) (by simpa using O) h5;simp at J N;exact⟨D,id,m,.box cs,R,by simp[U],by simp,W,N.symm,Z,J▸.inr (.inl ⟨cs,ys,rfl,rfl,hy⟩)⟩
   | succ j=>
    obtain⟨yT,D,b1,m,R,U,W,k4,k5⟩:=ih wM.2 i j x y v u (by simpa using I) (by simpa using J) (by simpa using O) (by simpa using N) h5 h6 (by omega);exact⟨yT,D,b1,m,R,by simp[U],by simp[W],k4,k5⟩
 | aA id cs hL hid hr ih=>
  intro i j x y v u I J O N h5 h6 h7;have wM:=Y;simp only[aV,ca]at wM;cases i with
  | zero=>
   cases j with
   | zero=>exact absurd rfl h7
   | succ j=>
    obtain⟨D,m,R,U,W,Z⟩:=step id (.aA cs) hr Y j y u (by simpa using J) (by simpa using N) h6;simp at I O;exact⟨id,D,.aA cs,m,R.symm,by simp,by simp[U],O.symm,W,I▸.inr (.inr ⟨cs,rfl,rfl⟩),Z⟩
  | succ i=>
   cases j with
   | zero=>
    obtain⟨D,m,R,U,W,Z⟩:=step id (.aA cs) hr Y i x v (by simpa using I) (by simpa using O) h5;simp at J N;exact⟨D,id,m,.aA cs,R,by simp[U],by simp,W,N.symm,Z,J▸.inr (.inr ⟨cs,rfl,rfl⟩)⟩
   | succ j=>
    obtain⟨yT,D,b1,m,R,U,W,k4,k5⟩:=ih wM.2 i j x y v u (by simpa using I) (by simpa using J) (by simpa using O) (by simpa using N) h5 h6 (by omega);exact⟨yT,D,b1,m,R,by simp[U],by simp[W],k4,k5⟩
theorem DR{id:Nat}:∀{fz:List (Nat×AB)},m_ id fz=true->∀p∈fz,p.1≠id:=by
 intro fz
 induction fz with
 | nil=>intro _ p hp;cases hp
 | cons x fz ih=>
  intro m p hp;unfold m_ at m;split at m
  ·cases m
  rename_i u;rcases fK.1 hp with h | h
  ·subst h;intro e;rw[e]at u;simp at u
  exact ih m p h
theorem yU:∀{ids fz:List (Nat×AB)},Ao ids fz=true->(∀p∈ids,m_ p.1 fz=true)/\(ids.map (·.1)).Nodup:=by
 intro ids
 induction ids with
 | nil=>intro fz _;simp
 | cons x ids ih=>
  intro fz h;obtain⟨i,b⟩:=x;simp only[Ao,aw]at h;obtain⟨⟨m,u⟩,z⟩:=h;obtain⟨D,I⟩:=ih z;refine⟨fun p hp=>?_,?_⟩
  ·rcases fK.1 hp with h | h
   ·subst h;exact m
   exact D p h
  simp only[aV,ca];refine⟨fun J=>?_,I⟩;obtain⟨p,hp,N⟩:=aR.1 J;exact DR u p hp N
def tr:List Arg->List (Nat×AB)->Nat->Nat->Prop
 | x::xs,ids,i,id=>match x.handed with
  | false=>match i with
   | 0=>False
   | i+1=>tr xs ids i id
  | true=>match ids with
   | (id0,_)::ids=>match i with
    | 0=>id=id0
    | i+1=>tr xs ids i id
   | []=>False
 | _,_,_,_=>False
theorem tr.uniq:∀{xs:List Arg} {ids:List (Nat×AB)} {i a b:Nat},tr xs ids i a->tr xs ids i b->a=b
 | [],_,_,_,_,h,_=>h.elim
 | x::xs,ids,i,a,b,h,k=>by
  unfold tr at h k;split at h
  ·rename_i m;simp only[m]at k;cases i with
   | zero=>exact h.elim
   | succ i=>exact tr.uniq h k
  rename_i m;simp only[m]at k;cases ids with
  | nil=>exact h.elim
  | cons p ids=>
   cases i with
   | zero=>exact h.trans k.symm
   | succ i=>exact tr.uniq (xs:=xs) (ids:=ids) h k
def F7(S:Nat->Prop)(w:World)(P:Program)(args:List Arg)(fin:List Fin)(vs:List Value)(i:Nat)(v:Value)(eQ new:AB):Prop:=
 new=.none\/(((∃e es bW,eQ=.row e es/\new=.row e bW/\an P w (ay S w) e bW v)\/∃mk es bW,eQ=.map mk es/\new=.map mk bW/\u7 S w mk bW v)\/(∃(cs:List AV) (xs:List PV) (g:Nat) (ty:TypeId) (c:Array Value),eQ=.box cs/\new=.box (xs.map .p)/\v=.pointer (some ⟨g,0,none⟩)/\w.heap[g]?=some (.cells c ty (0,0))/\c.size=xs.length/\∀(j:Nat) x u,xs[j]?=some x->c[j]?=some u->u.oneCell'=true/\ay S w x u)\/
  (∃(cs dB:List HC) (g:Nat) (ty:TypeId) (c:Array Value),eQ=.aA cs/\new=.aA dB/\v=.pointer (some ⟨g,0,none⟩)/\yu S w P dB g ty c))/\
  (∀g,hasB w new v g->¬S g/\cq w args fin vs i g)
theorem F7.lift{S:Nat->Prop}{w:World}{P:Program}{fin:List Fin}{i:Nat}{v:Value}{m new:AB}{u:List Arg}{z:List Fin}{D:List Value}{I:Nat}(h:∀g,cq w xs fin vs i g->cq w u z D I g)(hb:F7 S w P xs fin vs i v m new):F7 S w P u z D I v m new:=
 hb.imp id fun hb=>⟨hb.1,fun g J=>⟨(hb.2 g J).1,h g (hb.2 g J).2⟩⟩
theorem iF{S:Nat->Prop}{w:World}{P:Program}{h:Nat->AB}{ids:List (Nat×AB)}(H:dO L rho h xs vs ids):
  ∀(fin:List Fin) fe,eV S w P xs fin vs->ee ids fin=some fe->fe.map (·.1)=ids.map (·.1)/\∀id new,(id,new)∈fe->∃z i,(id,z)∈ids/\tr xs ids i id/\F7 S w P xs fin vs i (rho id) z new:=by
 induction H with
 | nil=>
  intro fin fe cG m;cases fin with
  | nil=>simp[ee]at m;subst m;exact⟨rfl,by simp⟩
  | cons f fin=>simp[ee]at m
 | pv x v hr ih=>
  intro fin fe cG m;obtain⟨D,I⟩:=ih fin fe cG m;refine⟨D,fun id new J=>?_⟩;obtain⟨z,i,N,O,R⟩:=I id new J;exact⟨z,i+1,N,O,R.lift fun g h=>h⟩
 | @row i e es xs vs ids hL hid hr ih=>
  intro fin fe cG m;cases fin with
  | nil=>exact cG.elim
  | cons f fin=>
   obtain⟨u,k_⟩:=(show jk S w P (.row e es) f (rho i)/\eV S w P xs fin vs from cG);cases f with
   | gone=>
    simp only[ee]at m;obtain⟨W,Y,rfl⟩:=az.1 m;obtain⟨D,I⟩:=ih fin W k_ Y;refine⟨by simp[D],fun id new J=>?_⟩;rcases fK.1 J with e' | e'
    ·injection e' with Z e2;subst Z e2;exact⟨.row e es,0,by simp,rfl,.inl rfl⟩
    obtain⟨z,k,N,O,R⟩:=I id new e';exact⟨z,k+1,by simp[N],O,R.lift fun g h=>h⟩
   | row bW=>
    simp only[ee]at m;obtain⟨W,Y,rfl⟩:=az.1 m;obtain⟨D,I⟩:=ih fin W k_ Y;refine⟨by simp[D],fun id new J=>?_⟩;rcases fK.1 J with e' | e'
    ·injection e' with Z e2;subst Z e2;exact⟨_,0,by simp,rfl,.inr ⟨.inl (.inl ⟨e,es,bW,rfl,rfl,u.1⟩),fun g U=>⟨u.2 g (al rfl U),rfl,.inl (al rfl U)⟩⟩⟩
    obtain⟨z,k,N,O,R⟩:=I id new e';exact⟨z,k+1,by simp[N],O,R.lift fun g h=>h⟩
   | map bW=>exact u.elim
   | box cs=>exact u.elim
   | aA cs=>exact u.elim
 | @map i mk es xs vs ids hL hid hr ih=>
  intro fin fe cG m;cases fin with
  | nil=>exact cG.elim
  | cons f fin=>
   obtain⟨u,k_⟩:=(show jk S w P (.map mk es) f (rho i)/\eV S w P xs fin vs from cG);cases f with
   | gone=>
    simp only[ee]at m;obtain⟨W,Y,rfl⟩:=az.1 m;obtain⟨D,I⟩:=ih fin W k_ Y;refine⟨by simp[D],fun id new J=>?_⟩;rcases fK.1 J with e' | e'
    ·injection e' with Z e2;subst Z e2;exact⟨.map mk es,0,by simp,rfl,.inl rfl⟩
    obtain⟨z,k,N,O,R⟩:=I id new e';exact⟨z,k+1,by simp[N],O,R.lift fun g h=>h⟩
   | map bW=>
    simp only[ee]at m;obtain⟨W,Y,rfl⟩:=az.1 m;obtain⟨D,I⟩:=ih fin W k_ Y;refine⟨by simp[D],fun id new J=>?_⟩;rcases fK.1 J with e' | e'
    ·injection e' with Z e2;subst Z e2;exact⟨_,0,by simp,rfl,.inr ⟨.inl (.inr ⟨mk,es,bW,rfl,rfl,u.1⟩),fun g U=>⟨u.2 g (al rfl U),rfl,.inl (al rfl U)⟩⟩⟩
    obtain⟨z,k,N,O,R⟩:=I id new e';exact⟨z,k+1,by simp[N],O,R.lift fun g h=>h⟩
   | row bW=>exact u.elim
   | box cs=>exact u.elim
   | aA cs=>exact u.elim
 | @box i cs ys xs vs ids hL hid hy hr ih=>
  intro fin fe cG m;cases fin with
  | nil=>exact cG.elim
  | cons f fin=>
   obtain⟨u,k_⟩:=(show jk S w P (.box ys) f (rho i)/\eV S w P xs fin vs from cG);cases f with
   | gone=>
    simp only[ee]at m;obtain⟨W,Y,rfl⟩:=az.1 m;obtain⟨D,I⟩:=ih fin W k_ Y;refine⟨by simp[D],fun id new J=>?_⟩;rcases fK.1 J with e' | e'
    ·injection e' with Z e2;subst Z e2;exact⟨.box cs,0,by simp,rfl,.inl rfl⟩
    obtain⟨z,k,N,O,R⟩:=I id new e';exact⟨z,k+1,by simp[N],O,R.lift fun g h=>h⟩
   | row es=>exact u.elim
   | map es=>exact u.elim
   | aA es=>exact u.elim
   | box kS=>
    simp only[ee]at m;obtain⟨W,Y,rfl⟩:=az.1 m;obtain⟨D,I⟩:=ih fin W k_ Y;refine⟨by simp[D],fun id new J=>?_⟩;rcases fK.1 J with e' | e'
    ·injection e' with Z e2;subst Z e2;obtain⟨g,ty,c,m1,m2,m3,m4,m5⟩:=u;refine⟨_,0,by simp,rfl,.inr ⟨.inr (.inl ⟨cs,kS,g,ty,c,rfl,rfl,m1,m2,m3,m5⟩),fun g' U=>?_⟩⟩;have U:=al rfl U;refine⟨?_,rfl,.inl U⟩;rw[m1]at U;injection U with U;exact U▸m4
    obtain⟨z,k,N,O,R⟩:=I id new e';exact⟨z,k+1,by simp[N],O,R.lift fun g h=>h⟩
 | @aA i cs xs vs ids hL hid hr ih=>
  intro fin fe cG m;cases fin with
  | nil=>exact cG.elim
  | cons f fin=>
   obtain⟨u,k_⟩:=(show jk S w P (.aA cs) f (rho i)/\eV S w P xs fin vs from cG);cases f with
   | gone=>
    simp only[ee]at m;obtain⟨W,Y,rfl⟩:=az.1 m;obtain⟨D,I⟩:=ih fin W k_ Y;refine⟨by simp[D],fun id new J=>?_⟩;rcases fK.1 J with e' | e'
    ·injection e' with Z e2;subst Z e2;exact⟨.aA cs,0,by simp,rfl,.inl rfl⟩
    obtain⟨z,k,N,O,R⟩:=I id new e';exact⟨z,k+1,by simp[N],O,R.lift fun g h=>h⟩
   | row es=>exact u.elim
   | map es=>exact u.elim
   | box es=>exact u.elim
   | aA dB=>
    simp only[ee]at m;obtain⟨W,Y,rfl⟩:=az.1 m;obtain⟨D,I⟩:=ih fin W k_ Y;refine⟨by simp[D],fun id new J=>?_⟩;rcases fK.1 J with e' | e'
    ·injection e' with Z e2;subst Z e2;obtain⟨g,ty,c,m1,m2,m3⟩:=u;exact⟨_,0,by simp,rfl,.inr ⟨.inr (.inr ⟨cs,dB,g,ty,c,rfl,rfl,m1,m2⟩),fun g' U=>⟨m3 g' U,rfl,U⟩⟩⟩
    obtain⟨z,k,N,O,R⟩:=I id new e';exact⟨z,k+1,by simp[N],O,R.lift fun g h=>h⟩
theorem dx(fe:List (Nat×AB))(h:Nat->AB)(id:Nat):(∃b,(id,b)∈fe/\app h fe id=b)\/((∀p∈fe,p.1≠id)/\app h fe id=h id):=by
 induction fe generalizing h with
 | nil=>exact .inr ⟨by simp,rfl⟩
 | cons x fe ih=>
  rcases ih (ax h x.1 x.2) with⟨b,u,m⟩ | ⟨u,m⟩
  ·exact .inl ⟨b,by simp[u],m⟩
  by_cases e:x.1=id
  ·refine .inl ⟨x.2,by rw[<-e];simp,?_⟩;show app (ax h x.1 x.2) fe id=x.2;rw[m,e,ak]
  refine .inr ⟨fun p hp=>?_,?_⟩
  ·rcases fK.1 hp with h | h
   ·rw[h];exact e
   exact u p h
  show app (ax h x.1 x.2) fe id=h id;rw[m,au _ _ (fun e'=>e e'.symm)]
theorem oc{w:World}{b:AB}{v:Value}{g:Nat}{x:Arg}(h:((∃e es,x=.row e es/\b=.row e es)\/∃mk es,x=.map mk es/\b=.map mk es)\/(∃cs ys,x=.box ys/\b=.box cs/\cE cs=some ys)\/∃cs,x=.aA cs/\b=.aA cs):hasB w (tc x) v g↔hasB w b v g:=by
 rcases h with (⟨e,es,rfl,rfl⟩ | ⟨mk,es,rfl,rfl⟩) | ⟨cs,ys,rfl,rfl,_⟩ | ⟨cs,rfl,rfl⟩
 ·exact⟨fun h=>.inl (al rfl h),fun h=>.inl (al rfl h)⟩
 ·exact⟨fun h=>.inl (al rfl h),fun h=>.inl (al rfl h)⟩
 ·exact⟨fun h=>.inl (al rfl h),fun h=>.inl (al rfl h)⟩
 exact dU
theorem dO.form{h:Nat->AB}{ids:List (Nat×AB)}(H:dO L rho h xs vs ids):∀id b,(id,b)∈ids->∃(j:Nat) (x:Arg),xs[j]?=some x/\vs[j]?=some (rho id)/\x.handed=true/\(((∃e es,x=.row e es/\b=.row e es)\/∃mk es,x=.map mk es/\b=.map mk es)\/(∃cs ys,x=.box ys/\b=.box cs/\cE cs=some ys)\/∃cs,x=.aA cs/\b=.aA cs):=by
 induction H with
 | nil=>intro id b h;cases h
 | pv y u hr ih=>intro id b h;obtain⟨j,x,m⟩:=ih id b h;exact⟨j+1,x,by simpa using m⟩
 | row i e es z hid hr ih=>
  intro id b h;rcases fK.1 h with h | h
  ·injection h with h1 h2;subst h1 h2;exact⟨0,_,rfl,rfl,rfl,.inl (.inl ⟨e,es,rfl,rfl⟩)⟩
  obtain⟨j,x,m⟩:=ih id b h;exact⟨j+1,x,by simpa using m⟩
 | map i mk es z hid hr ih=>
  intro id b h;rcases fK.1 h with h | h
  ·injection h with h1 h2;subst h1 h2;exact⟨0,_,rfl,rfl,rfl,.inl (.inr ⟨mk,es,rfl,rfl⟩)⟩
  obtain⟨j,x,m⟩:=ih id b h;exact⟨j+1,x,by simpa using m⟩
 | box i cs ys z hid hy hr ih=>
  intro id b h;rcases fK.1 h with h | h
  ·injection h with h1 h2;subst h1 h2;exact⟨0,_,rfl,rfl,rfl,.inr (.inl ⟨cs,ys,rfl,rfl,hy⟩)⟩
  obtain⟨j,x,m⟩:=ih id b h;exact⟨j+1,x,by simpa using m⟩
 | aA i cs z hid hr ih=>
  intro id b h;rcases fK.1 h with h | h
  ·injection h with h1 h2;subst h1 h2;exact⟨0,_,rfl,rfl,rfl,.inr (.inr ⟨cs,rfl,rfl⟩)⟩
  obtain⟨j,x,m⟩:=ih id b h;exact⟨j+1,x,by simpa using m⟩
theorem dO.mv{h:Nat->AB}{w:World}{vs:Array Value}{ids:List (Nat×AB)}(H:dO L rho h xs vs.toList ids)(g:Nat):Mv w xs vs g↔∃id b,(id,b)∈ids/\hasB w b (rho id) g:=by
 constructor
 ·rintro⟨j,x,v,m,u,z,D⟩;obtain⟨id,b,I,_,_,J,N⟩:=H.at j x v m (by simpa using u) z;exact⟨id,b,I,by rw[<-J];exact (oc N).1 D⟩
 rintro⟨id,b,m,u⟩;obtain⟨j,x,z,D,I,J⟩:=H.form id b m;exact⟨j,x,_,z,by simpa using D,I,(oc J).2 u⟩
theorem aU.handed{S2:Nat->Prop}{t:Nat->AV}{a:Act}{w:World}{h m:Nat->AB}(hC:aL A.C)(D:aU A V L S2 rho ⟨t,m⟩ a w){vs:Array Value}{ids fe:List (Nat×AB)}{fin:List Fin}(H:dO L rho h xs vs.toList ids)(hh:∀id b,(id,b)∈ids->m id=h id)
  (hf:Fr (Mv w xs vs) w w') (hS:∀b,S2 b->S' b) (wL:∀b,S' b->b<w'.heap.size) (IM:∀b,S' b->S2 b\/w.heap.size<=b\/Mv w xs vs b) (cG:eV S' w' A.C.P xs fin vs.toList) (hok:p6 w w' xs fin vs) (kZ:ee ids fin=some fe):
  aU A V L S' rho ⟨t,app m fe⟩ a w':=by
 obtain⟨hk,hb⟩:=iF H fin fe cG kZ;have DS:∀id,(∃b,(id,b)∈ids)↔∃b,(id,b)∈fe:=by
  intro id;have:id∈ids.map (·.1)↔id∈fe.map (·.1):=by rw[hk]
  simpa using this
 have own:∀id b,(id,b)∈ids->L id/\(m id).live/\m id=b:=fun id b hm=>by
  obtain⟨O,J,Z,_⟩:=H.back id b hm;have:=hh id b hm;exact⟨O,by rw[this,J];exact Z,by rw[this,J]⟩
 have MZ:∀g,Mv w xs vs g->¬S2 g/\(A.mv g\/A.w0.heap.size<=g):=fun g R=>by
  obtain⟨id,b,O,J⟩:=H.mv g |>.1 R;obtain⟨Z,I,h6⟩:=own id b O;exact (D.lv id g Z I (by show hasB w (m id) _ _;rw[h6];exact J)).2
 have eE:∀b,S2 b->w'.heap[b]?=w.heap[b]?:=fun k hk=>hf.block k (D.st k hk) fun hm=>(MZ k hm).1 hk;have T:fu S2 S' w w' L L rho rho m (app m fe):=by
  refine⟨hS,eE,fun id ht=>⟨?_,fun hl=>⟨hl,rfl⟩⟩,fun id e U=>?_⟩
  ·rcases dx fe m id with⟨b,O,J⟩ | ⟨_,J⟩
   ·obtain⟨b',dM⟩:=(DS id).2 ⟨b,O⟩;obtain⟨_,Z,_⟩:=own id b' dM;cases hx:m id<;>rw[hx]at Z<;>first | trivial | exact Z.elim
   rw[J]at ht;exact ht
  rcases dx fe m id with⟨b,O,J⟩ | ⟨_,J⟩
  ·rw[J]at U;obtain⟨eQ,i,Z,_,I⟩:=hb id b O;obtain⟨_,_,h6⟩:=own id eQ Z;rcases I with I | ⟨I | I | I,_⟩
   ·rw[I]at U;cases U
   ·rcases I with I | I
    ·obtain⟨e',M0,jo,h7,W,_⟩:=I;rw[W]at U;injection U with U;rw[h6,h7,U];rfl
    obtain⟨mk,M0,jo,h7,W,_⟩:=I;rw[W]at U;cases U
   ·obtain⟨cs,ys,g,ty,c,h7,W,_⟩:=I;rw[W]at U;cases U
   obtain⟨cs,ys,g,ty,c,h7,W,_⟩:=I;rw[W]at U;cases U
  rw[J]at U;exact U
 have cM:∀id,(app m fe id).live->(m id).live:=by
  intro id hl;rcases dx fe m id with⟨b,O,J⟩ | ⟨_,J⟩
  ·obtain⟨b',dM⟩:=(DS id).2 ⟨b,O⟩;exact (own id b' dM).2.1
  rw[J]at hl;exact hl
 have same:∀id g,L id->(m id).live->(∀p∈fe,p.1≠id)->hasB w (m id) (rho id) g->¬Mv w xs vs g:=fun id g hl N O R hm=>by
  obtain⟨s9,b',Z,I⟩:=H.mv g |>.1 hm;obtain⟨h6,h7,W⟩:=own s9 b' Z;have:=D.dj id s9 g hl h6 N h7 R (by show hasB w (m s9) _ _;rw[W];exact I);subst this;obtain⟨b2,o9⟩:=(DS id).1 ⟨b',Z⟩;exact O _ o9 rfl
 have old:∀id g,L id->(m id).live->(∀p∈fe,p.1≠id)->hasB w' (m id) (rho id) g->hasB w (m id) (rho id) g:=fun id g hl N O R=>
  b_ (fun k hk=>hf.block k (D.lv id k hl N hk).1 (same id k hl N O hk)) R
 have back:∀id b,(id,b)∈fe->(app m fe id).live->app m fe id=b->∃i,tr xs ids i id/\∀g,hasB w' b (rho id) g->¬S' g/\cq w' xs fin vs.toList i g:=fun id b hm hl U=>by
  obtain⟨eQ,i,_,nG,J⟩:=hb id b hm;rcases J with J | ⟨_,J⟩
  ·rw[U,J]at hl;exact hl.elim
  exact⟨i,nG,J⟩
 exact
 {tm:=fun j hj=>(D.tm j hj).bA T
  sz:=D.sz,df:=D.df,nb:=D.nb,pn:=D.pn
  ev:=hC.env _ _ _ _ D.ev hS eE hf.size
  s0:=fun b hb=>hS b (D.s0 b hb)
  st:=wL
  sb:=fun b hb=>by
   rcases IM b hb with h | h | h
   ·exact D.sb b h
   ·exact .inr (.inr (bM D.fr.size h))
   exact .inr (MZ b h).2
  hp:=fun id hl=>by
   show cd _ _ _ _ _ _ _ (app m fe id);rcases dx fe m id with⟨b,O,J⟩ | ⟨O,J⟩
   ·rw[J];obtain⟨eQ,i,Z,_,I⟩:=hb id b O;rcases I with I | ⟨I | I | I,_⟩
    ·rw[I];trivial
    ·rcases I with I | I
     ·obtain⟨e',M0,jo,h7,W,h9⟩:=I;rw[W];exact h9
     obtain⟨mk,M0,jo,h7,W,h9⟩:=I;rw[W];exact h9
    ·obtain⟨cs,ys,g,ty,c,h7,W,h9,Le,Q3,PO⟩:=I;rw[W];refine⟨g,ty,c,h9,Le,by simpa using Q3,fun j x u hj hu=>?_⟩;rw[ao]at hj;obtain⟨z,hz,rfl⟩:=az.1 hj;exact⟨(PO j z u hz hu).1,.p _ _ (PO j z u hz hu).2⟩
    obtain⟨cs,dB,g,ty,c,h7,W,h9,Le⟩:=I;rw[W];exact⟨g,ty,c,h9,Le⟩
   rw[J];exact (D.hp id hl).bA T (fun N g R=>hf.block g (D.lv id g hl N R).1 (same id g hl N O R)) (fun _=>rfl)
  dj:=fun i j g hi hj N lj cK Y=>by
   have one:∀i j,L i->L j->(app m fe i).live->(app m fe j).live->hasB w' (app m fe i) (rho i) g->hasB w' (app m fe j) (rho j) g->(∃b,(i,b)∈fe/\app m fe i=b)->((∀p∈fe,p.1≠j)/\app m fe j=m j)->False:=by
    rintro i j hi hj N lj cK Y ⟨b,m1,m2⟩ ⟨n1,n2⟩;rw[n2]at Y lj;have Y:=old j g hj lj n1 Y;obtain⟨k,_,iS⟩:=back i b m1 N m2;rw[m2]at cK;rcases (hok.1 k g (iS g cK).2).2 with h | h
    ·have:=(D.lv j g hj lj Y).1;exact absurd this (by omega)
    exact same j g hj lj n1 Y h
   rcases dx fe m i with ci | ci
   ·rcases dx fe m j with cj | cj
    ·obtain⟨b,m1,m2⟩:=ci;obtain⟨c,n1,n2⟩:=cj;obtain⟨k1,p1,q1⟩:=back i b m1 N m2;obtain⟨k2,p2,q2⟩:=back j c n1 lj n2;have cK:hasB w' (app m fe i) (rho i) g:=cK;have Y:hasB w' (app m fe j) (rho j) g:=Y;rw[m2]at cK;rw[n2]at Y;have:=hok.2 k1 k2 g (q1 g cK).2 (q2 g Y).2;subst this;exact p1.uniq p2
    exact (one i j hi hj N lj cK Y ci cj).elim
   rcases dx fe m j with cj | cj
   ·exact (one j i hj hi lj N Y cK cj ci).elim
   have cK:hasB w' (app m fe i) (rho i) g:=cK;have Y:hasB w' (app m fe j) (rho j) g:=Y;have N:(app m fe i).live:=N;have lj:(app m fe j).live:=lj;rw[ci.2]at cK N;rw[cj.2]at Y lj;exact D.dj i j g hi hj N lj (old i g hi N ci.1 cK) (old j g hj lj cj.1 Y)
  lv:=fun id g hl N R=>by
   have R:hasB w' (app m fe id) (rho id) g:=R;have N:(app m fe id).live:=N;rcases dx fe m id with⟨b,O,J⟩ | ⟨O,J⟩
   ·obtain⟨k,_,q⟩:=back id b O N J;rw[J]at R;obtain⟨q1,q2⟩:=q g R;obtain⟨r1,r2⟩:=hok.1 k g q2;refine⟨r1,q1,?_⟩;rcases r2 with h | h
    ·exact .inr (bM D.fr.size h)
    exact (MZ g h).2
   rw[J]at R N;have R:=old id g hl N O R;obtain⟨Z,I,h6⟩:=D.lv id g hl N R;refine⟨bg Z hf.size,fun hs=>?_,h6⟩;rcases IM g hs with h | h | h
   ·exact I h
   ·omega
   exact same id g hl N O R h
  fr:=D.fr.next hf.os hf.tape hf.output hf.size fun k hk hn=>hf.block k (bg hk D.fr.size) fun hm=>by
   rcases (MZ k hm).2 with h | h
   ·exact hn h
   omega }
variable {Q:Exit->Act->World->Prop}
theorem gM{P:Program}{o:Oper}{a:Act}{w:World}{f:FuncId}{vs:Array Value}{next:Act->World->Prop}{R:Ending->World->Prop}(h:(execOp a.eval o).run P w=.ok (.enter f vs) w)(m:Calls P f vs w R)
  (u:∀e w',R e w'->∃v,e=.returned v/\next (a.put o.dst v) w'):o.wp P a w next Q:=by
 unfold Oper.wp;rw[h];refine m.mono fun e w' z=>?_;obtain⟨v,rfl,D⟩:=u e w' z;exact D
theorem yW(hC:aL A.C){o:Oper}{S:Nat->Prop}{a:Act}{w:World}{K:KK}{next:Act->World->Prop}(sim:aU A V L S rho s a w)(hd:∀d,o.dst=some d->d<A.n)
  (hn:∀v eff b,K v eff (some b)->¬L (o.dst.getD 0)/\s.h (o.dst.getD 0)=b)
  (hnext:∀v eff new S' rho' a' w',K v eff new->aU A (mG V o.dst) (nR L new (o.dst.getD 0)) S' rho' ⟨cU s.t o.dst v,app s.h eff⟩ a' w'->next a' w')
  (f:FuncId) (cT:List AV) (vs:Array Value) (hl:cT.length=vs.size)
  (hrep:∀(S2:Nat->Prop) (h2:Nat->AB),aU A V L S2 rho ⟨s.t,h2⟩ a w->∀(i:Nat) x v,cT[i]?=some x->vs.toList[i]?=some v->aE S2 w A.C.P L rho h2 x v)
  (hrun : (∃ fn : Func, A.C.P.funcs[f]? = some fn ∧ (fn.name == "runtime.NumGoroutine") = false ∧ fn.body.isNone = false) → (execOp a.eval o).run A.C.P w = .ok (.enter f vs) w) (hq : jY A.C s.h (o.dst.getD 0) f cT K) : o.wp A.C.P a w next Q := by
 unfold jY at hq;obtain⟨xs,ids,fz,S2,⟨r,fin,dX,hq⟩,aJ,nX,hF,wU,hlen,H,hpv⟩:=BX hC cT vs.toList 0 s.h S _ (by simpa using hl) sim (kM.refl _) hrep (fun _ h=>h) hq;split at hq
 ·rename_i fe kZ;split at hq
  ·rename_i hok;obtain⟨Q4,Fz⟩:=yU hok;have hh:∀id b,(id,b)∈ids->(app s.h fz) id=s.h id:=fun id b hm=>iD (Q4 (id,b) hm);have own:∀id b,(id,b)∈ids->L id/\(app s.h fz id).live/\app s.h fz id=b:=fun id b hm=>by
    obtain⟨h1,h3,h4,_⟩:=H.back id b hm;have:=hh id b hm;exact⟨h1,by rw[this,h3];exact h4,by rw[this,h3]⟩
   have key:=dX.2 S2 w vs aJ.ev aJ.st (by simpa using hlen) (fun j x v hj hv=>by
     have yB:vs.toList[j]?=some v:=by simpa using hv
     cases hx:x.handed with
     | false=>
      cases x with
      | pv y=>exact hpv j y v hj yB
      | row=>cases hx
      | map=>cases hx
      | box=>cases hx
      | aA=>cases hx
     | true=>
      obtain⟨id,b,h1,h2,h3,h4,h5⟩:=H.at j x v hj yB hx;obtain⟨h6,h7,h8⟩:=own id b h1;have hp:=aJ.hp id h6;have hp:cd S2 w A.C.P L rho (app s.h fz) id (app s.h fz id):=hp;rw[h8]at hp;rcases h5 with (⟨e,es,rfl,rfl⟩ | ⟨mk,es,rfl,rfl⟩) | ⟨cs,ys,rfl,rfl,hy⟩ | ⟨cs,rfl,rfl⟩
      ·rw[h4];exact⟨hp,fun g hg=>(aJ.mO id g h6 h7 hg).2.1⟩
      ·rw[h4];exact⟨hp,fun g hg=>(aJ.mO id g h6 h7 hg).2.1⟩
      ·obtain⟨g,ty,c,k1,k2,k3,k4⟩:=hp;obtain⟨k5,k6⟩:=dz hy;rw[h4];refine⟨g,ty,c,k1,k2,by rw[k3,k5],(aJ.mO id g h6 h7 (by rw[k1];rfl)).2.1,fun i x u hi hu=>?_⟩;obtain⟨y,hy⟩:∃y,cs[i]?=some y:=⟨_,aM (by rw[k5];exact ah hi)⟩;obtain⟨k7,k8⟩:=k4 i y u hy hu;exact⟨k7,k8.qS (k6 i y x hy hi)⟩
      obtain⟨g,ty,c,k1,k2⟩:=hp;rw[h4];exact⟨g,ty,c,k1,k2,fun k hk=>by obtain⟨q1,q2,_⟩:=aJ.lv id k h6 h7 (by show hasB w (app s.h fz id) _ _;rw[h8];exact hk);exact⟨q2,q1⟩⟩)
    (fun i j x y v u g hi hj hv hu hx hy hg eY=>by
     by_cases F8:i=j
     ·exact F8
     obtain⟨yT,iu,b1,b2,k1,k2,k3,k4,k5,f1,f2⟩:=H.inj Fz i j x y v u hi hj (by simpa using hv) (by simpa using hu) hx hy F8;obtain⟨l1,v1,o1⟩:=own yT b1 k2;obtain⟨l2,v2,o2⟩:=own iu b2 k3;exact absurd (aJ.dj yT iu g l1 l2 v1 v2 (by show hasB w (app s.h fz yT) _ _;rw[<-k4,o1];exact (oc f1).1 hg) (by show hasB w (app s.h fz iu) _ _;rw[<-k5,o2];exact (oc f2).1 eY)) k1)
   refine gM (hrun dX.1) key fun e w' fM=>?_;obtain⟨v,S',rfl,hf,NX,wL,IM,hr,cG,F9,hown⟩:=fM;refine⟨v,rfl,?_⟩;split at hq
   ·rename_i dY;simp only[aw]at dY;have hids:ids=[]:=by cases ids with | nil=>rfl | cons p ids=>cases dY.2
    subst hids;have NY:Fr (fun _=>False) w w':=⟨hf.os,hf.tape,hf.output,hf.size,fun k hk _=>hf.block k hk fun hm=>by
     obtain⟨id,b,h1,_⟩:=(H.mv k).1 hm;cases h1⟩
    have cF:=sim.grow hC w' NY;refine hnext _ _ _ S rho _ _ hq (cF.value o.dst hd _ _ ?_);cases r with
    | p x=>exact .p _ _ (gk dY.1 hr)
    | own e es=>cases dY.1
    | hown cs=>cases dY.1
    | tu ys=>
     obtain⟨us,rfl,h1,h2⟩:=hr;refine .tu _ us (by simpa using h1) fun i c u hi hu=>?_;rw[ao]at hi;obtain⟨z,hz,rfl⟩:=az.1 hi;exact .p _ _ (gk (cC.1 dY.1 z (aj hz)) (h2 i z u hz hu))
   have cF:=aU.handed hC aJ H hh hf NX wL IM cG F9 kZ;have cF:aU A V L S' rho ⟨s.t,app s.h (fz++fe)⟩ a w':=by rw[bJ];exact cF
   cases r with
   | p x=>exact hnext _ _ _ S' rho _ _ hq (cF.value o.dst hd _ _ (.p _ _ hr))
   | tu ys=>
    refine hnext _ _ _ S' rho _ _ hq (cF.value o.dst hd _ _ ?_);obtain⟨us,rfl,h1,h2⟩:=hr;refine .tu _ us (by simpa using h1) fun i c u hi hu=>?_;rw[ao]at hi;obtain⟨z,hz,rfl⟩:=az.1 hi;exact .p _ _ (h2 i z u hz hu)
   | own e es=>
    obtain⟨hL,hb⟩:=hn _ _ _ hq;have HB:app s.h (fz++fe) (o.dst.getD 0)=.row e es:=by
     rw[fo (fun p hp (e:p.1=_)=>?_),hb];rcases cX.1 hp with h | h
     ·exact hL (by rw[<-e];exact wU p h)
     obtain⟨hk,_⟩:=iF H fin fe cG kZ;have:p.1∈ids.map (·.1):=by rw[<-hk];exact aR.2 ⟨p,h,rfl⟩
     obtain⟨q,vq,NZ⟩:=aR.1 this;obtain⟨N0,_⟩:=own q.1 q.2 vq;exact hL (by rw[<-e,<-NZ];exact N0)
    have tt:=cF.jA hC (o.dst.getD 0) (AB.row e es) (cF.gT hd) hL HB w' rfl rfl rfl (aC _) (fun k=>hasB w' (AB.row e es) v k) (fun _ _ _=>rfl) (fun k hk=>by
      have FZ:=al rfl hk;obtain⟨h1,h2,h3⟩:=hown k rfl (.inl FZ);refine⟨hr.2 k FZ,fun i hi li cK=>?_,?_⟩
      ·have fE:(app s.h (fz++fe) i).live:=li;rw[bJ]at fE;have cK:hasB w' (app s.h (fz++fe) i) (rho i) k:=cK;rw[bJ]at cK;rcases dx fe (app s.h fz) i with⟨b,m1,m2⟩ | ⟨m1,m2⟩
       ·obtain⟨iS,o9⟩:=iF H fin fe cG kZ;obtain⟨eQ,n,m3,_,m4⟩:=o9 i b m1;rcases m4 with m4 | ⟨_,m4⟩
        ·rw[m2,m4]at fE;exact fE
        rw[m2]at cK;exact h3 n (m4 k cK).2
       rw[m2]at fE cK;have Lf:∀g,hasB w (app s.h fz i) (rho i) g->¬Mv w xs vs g:=fun g hg hm=>by
        obtain⟨s9,b',m3,m4⟩:=(H.mv g).1 hm;obtain⟨m5,m6,m7⟩:=own s9 b' m3;have:=aJ.dj i s9 g hi m5 fE m6 hg (by show hasB w (app s.h fz s9) _ _;rw[m7];exact m4);subst this;obtain⟨iS,_⟩:=iF H fin fe cG kZ;have:i∈fe.map (·.1):=by rw[iS];exact aR.2 ⟨_,m3,rfl⟩
        obtain⟨p,hp,Lg⟩:=aR.1 this;exact m1 p hp Lg
       have cK:=b_ (fun g hg=>hf.block g (aJ.lv i g hi fE hg).1 (Lf g hg)) cK;obtain⟨q1,q2,q3⟩:=aJ.lv i k hi fE cK;rcases h2 with h2 | h2
       ·omega
       exact Lf k cK h2
      ·rcases h2 with h2 | h2
       ·exact .inr (bM aJ.fr.size h2)
       obtain⟨s9,b',m3,m4⟩:=(H.mv k).1 h2;obtain⟨m5,m6,m7⟩:=own s9 b' m3;exact (aJ.lv s9 k m5 m6 (by show hasB w (app s.h fz s9) _ _;rw[m7];exact m4)).2.2) v (fun g hg=>⟨(hown g rfl (.inl (al rfl hg))).1,.inr hg⟩) (fun T=>by
      show an _ _ _ e es (ax rho (o.dst.getD 0) v (o.dst.getD 0));rw[ak];exact hr.1)
    exact hnext _ _ _ S' _ _ _ hq (tt.value o.dst hd _ _ (.ow _ _ fun _=>⟨.inr rfl,(ak _ _ _).symm⟩))
   | hown cs=>
    obtain⟨hL,hb⟩:=hn _ _ _ hq;obtain⟨g0,Q5,c0,IN,FA,jb⟩:=hr;have HB:app s.h (fz++fe) (o.dst.getD 0)=.aA cs:=by
     rw[fo (fun p hp (e:p.1=_)=>?_),hb];rcases cX.1 hp with h | h
     ·exact hL (by rw[<-e];exact wU p h)
     obtain⟨hk,_⟩:=iF H fin fe cG kZ;have:p.1∈ids.map (·.1):=by rw[<-hk];exact aR.2 ⟨p,h,rfl⟩
     obtain⟨q,vq,NZ⟩:=aR.1 this;obtain⟨N0,_⟩:=own q.1 q.2 vq;exact hL (by rw[<-e,<-NZ];exact N0)
    have tt:=cF.jA hC (o.dst.getD 0) (AB.aA cs) (cF.gT hd) hL HB w' rfl rfl rfl (aC _) (fun k=>hasB w' (AB.aA cs) v k) (fun _ _ _=>rfl) (fun k hk=>by
      obtain⟨h1,h2,h3⟩:=hown k rfl hk;refine⟨jb k hk,fun i hi li cK=>?_,?_⟩
      ·have fE:(app s.h (fz++fe) i).live:=li;rw[bJ]at fE;have cK:hasB w' (app s.h (fz++fe) i) (rho i) k:=cK;rw[bJ]at cK;rcases dx fe (app s.h fz) i with⟨b,m1,m2⟩ | ⟨m1,m2⟩
       ·obtain⟨iS,o9⟩:=iF H fin fe cG kZ;obtain⟨eQ,n,m3,_,m4⟩:=o9 i b m1;rcases m4 with m4 | ⟨_,m4⟩
        ·rw[m2,m4]at fE;exact fE
        rw[m2]at cK;exact h3 n (m4 k cK).2
       rw[m2]at fE cK;have Lf:∀g,hasB w (app s.h fz i) (rho i) g->¬Mv w xs vs g:=fun g hg hm=>by
        obtain⟨s9,b',m3,m4⟩:=(H.mv g).1 hm;obtain⟨m5,m6,m7⟩:=own s9 b' m3;have:=aJ.dj i s9 g hi m5 fE m6 hg (by show hasB w (app s.h fz s9) _ _;rw[m7];exact m4);subst this;obtain⟨iS,_⟩:=iF H fin fe cG kZ;have:i∈fe.map (·.1):=by rw[iS];exact aR.2 ⟨_,m3,rfl⟩
        obtain⟨p,hp,Lg⟩:=aR.1 this;exact m1 p hp Lg
       have cK:=b_ (fun g hg=>hf.block g (aJ.lv i g hi fE hg).1 (Lf g hg)) cK;obtain⟨q1,q2,q3⟩:=aJ.lv i k hi fE cK;rcases h2 with h2 | h2
       ·omega
       exact Lf k cK h2
      ·rcases h2 with h2 | h2
       ·exact .inr (bM aJ.fr.size h2)
       obtain⟨s9,b',m3,m4⟩:=(H.mv k).1 h2;obtain⟨m5,m6,m7⟩:=own s9 b' m3;exact (aJ.lv s9 k m5 m6 (by show hasB w (app s.h fz s9) _ _;rw[m7];exact m4)).2.2) v (fun g hg=>⟨(hown g rfl hg).1,.inr hg⟩) (fun T=>by
      exact⟨g0,Q5,c0,by rw[ak];exact IN,FA⟩)
    exact hnext _ _ _ S' _ _ _ hq (tt.value o.dst hd _ _ (.bx _ _ _ fun _=>⟨.inr rfl,g0,by rw[ak];exact IN,IN⟩))
  exact hq.elim
 exact hq.elim
theorem ju.rep(hC:aL A.C){S:Nat->Prop}{a:Act}{w:World}(J:aU A V L S rho s a w){x:AV}{y:PV}{v:Value}(hv:ju s.h x y)(z:aE S w A.C.P L rho s.h x v):
  ay (fun b=>S b\/∃id,L id/\(s.h id).live/\hasB w (s.h id) (rho id) b) w y v:=by
 have hS:∀b,S b->S b\/∃id,L id/\(s.h id).live/\hasB w (s.h id) (rho id) b:=fun b h=>.inl h;cases hv with
 | p=>exact z.cb.mono hS (fun _ _=>rfl)
 | nl=>cases z;exact .nil _ _
 | row id e es m=>
  obtain⟨D,rfl⟩:=z.bu (by rw[m];trivial);have I:=J.hp id D;rw[m]at I;exact an.yG I hS fun g W=>.inr ⟨id,D,by rw[m];trivial,.inl W⟩
 | f_ id es m=>
  obtain⟨D,rfl⟩:=z.bu (by rw[m];trivial);have I:=J.hp id D;rw[m]at I;exact ay.mono I hS (fun _ _=>rfl)
 | ai id e es ps m hp=>
  obtain⟨D,rfl⟩:=z.bu (by rw[m];trivial);have I:=J.hp id D;rw[m]at I;obtain⟨Z,_⟩:=I;have aN:(s.h id).live:=by rw[m];trivial
  have K1:an A.C.P w (ay (fun b=>S b\/∃id,L id/\(s.h id).live/\hasB w (s.h id) (rho id) b) w) e ps (rho id):=by
   have Q6:=Z;obtain⟨i,ws,h1,h2,h3,h4,h5,h6⟩:=Q6;have old:∀{a:Nat} {q:List PV},ps[a]?=some q->∃r,es[a]?=some r:=fun {a q} R=>⟨_,aM (by rw[<-hp.len];exact ah R)⟩;refine⟨i,ws,h1,h2,by rw[hp.len];exact h3,fun q hq=>?_,h5,fun k q j y R hj=>?_⟩
   ·obtain⟨k,hk⟩:=cf.1 hq;obtain⟨r,m⟩:=old hk;rw[(hp.row k r q m hk).1];exact h4 r (aj m)
   obtain⟨r,Y⟩:=old R;obtain⟨hlen,N⟩:=hp.row k r q Y R;obtain⟨x,z⟩:∃x,r[j]?=some x:=⟨_,aM (by rw[<-hlen];exact ah hj)⟩;obtain⟨u,hu,O⟩:=h6 k r j x Y z;refine⟨u,hu,?_⟩;have:=N j x y z hj;cases this with
   | p x=>exact (aE.cb O).mono hS (fun _ _=>rfl)
   | nl=>
    have O:aE S w A.C.P L rho s.h .nl u:=O;cases O;exact .nil _ _
   | row e' xs=>
    have O:an A.C.P w (ay S w) e' xs u:=O;refine an.yG O hS fun b hb=>.inr ⟨id,D,aN,?_⟩;obtain⟨g,u2,g1,g2,_⟩:=Z.rE Y z;have:u2=u:=by
     obtain⟨_,_,_,_,_,U⟩:=(gj h3 h4 g1).1 g2;rw[hu]at U;injection U with U;exact U.symm
    subst this;rw[m];exact .inr (.inr (.inl ⟨_,_,_,_,_,_,rfl,g1,g2,hb⟩))
  exact an.yG K1 (fun _ h=>h) fun g W=>.inr ⟨id,D,aN,.inl W⟩
theorem jZ.at{h:Nat->AB}{as:List AV}{xs:List PV}(z:jZ h as xs):as.length=xs.length/\∀(i:Nat) a x,as[i]?=some a->xs[i]?=some x->ju h a x:=by
 induction z with
 | nil=>exact⟨rfl,fun i a x h=>by simp at h⟩
 | cons h1 h2 ih=>
  refine⟨by simp[ih.1],fun i a x m u=>?_⟩;cases i with
  | zero=>simp at m u;subst m u;exact h1
  | succ i=>exact ih.2 i a x (by simpa using m) (by simpa using u)
theorem View.rep(hC:aL A.C){S:Nat->Prop}{a:Act}{w:World}(m:aU A V L S rho s a w){x:AV}{y:PV}{v:Value}(I:View s.h x y)(W:aE S w A.C.P L rho s.h x v):
  ay (fun b=>S b\/∃id,L id/\(s.h id).live/\hasB w (s.h id) (rho id) b) w y v:=by
 have hS:∀b,S b->S b\/∃id,L id/\(s.h id).live/\hasB w (s.h id) (rho id) b:=fun b h=>.inl h;cases I with
 | one h1=>exact h1.rep hC m W
 | box id off cs xs hb o8=>
  obtain⟨O,g,R,I⟩:=W.dt (by rw[hb];trivial);have J:=m.hp id O;rw[hb]at J;obtain⟨g',ty,c,z,k2,k3,k4⟩:=J;rw[R]at z;injection z with z;injection z with z;injection z with z;subst z;obtain⟨hl,BC⟩:=o8.at;have Z:∀(i:Nat) x,xs[i]?=some x->∃u,c[i]?=some u/\u.oneCell'=true/\ay (fun b=>S b\/∃id,L id/\(s.h id).live/\hasB w (s.h id) (rho id) b) w x u:=by
   intro i x D;obtain⟨y,Y⟩:∃y,cs[i]?=some y:=⟨_,aM (by rw[hl];exact ah D)⟩;obtain⟨u,hu⟩:=fJ k3.symm (ah Y);obtain⟨N,U⟩:=k4 _ _ _ Y hu;exact⟨u,hu,N,(BC i y x Y D).rep hC m U⟩
  have:ay (fun b=>S b\/∃id,L id/\(s.h id).live/\hasB w (s.h id) (rho id) b) w (.ip xs) (.pointer (some ⟨g,0,none⟩)):=by
   refine .ip xs g 0 (fun i=>(c[i]?).getD undef) (.inr ⟨id,O,by rw[hb];trivial,.inl (by rw[R];rfl)⟩) (fun i x D=>?_) fun i x D=>?_
   ·obtain⟨u,N,U,h7⟩:=Z i x D;rw[cV,cell_of_row w g i c ty (0,0) k2,N];exact⟨rfl,U⟩
   obtain⟨u,N,U,h7⟩:=Z i x D;rw[N];exact h7
  rw[I];exact this.nV rfl
 | jt id off xs hb=>
  obtain⟨O,g,R,I⟩:=W.dt (by rw[hb];trivial);have J:=m.hp id O;rw[hb]at J;have Dq:ay _ w (.ip xs) (rho id):=J;rw[I];exact (Dq.nV R).mono hS (fun _ _=>rfl)
theorem nM.at{h:Nat->AB}{as:List AV}{xs:List PV}(z:nM h as xs):as.length=xs.length/\∀(i:Nat) a x,as[i]?=some a->xs[i]?=some x->View h a x:=by
 induction z with
 | nil=>exact⟨rfl,fun i a x h=>by simp at h⟩
 | cons h1 h2 ih=>
  refine⟨by simp[ih.1],fun i a x m u=>?_⟩;cases i with
  | zero=>simp at m u;subst m u;exact h1
  | succ i=>exact ih.2 i a x (by simpa using m) (by simpa using u)
theorem w9{h:Nat->AB}{c:AV}(u:pe h c=true):(∃es,c=.p (.sl es))\/(∃a m n,c=.p (.im (.slice a m n)))\/(∃i e es,c=.ow i/\h i=.row e es)\/c=.nl:=by
 unfold pe at u;split at u
 ·exact .inl ⟨_,rfl⟩
 ·exact .inr (.inl ⟨_,_,_,rfl⟩)
 ·split at u
  ·rename_i z;exact .inr (.inr (.inl ⟨_,_,_,rfl,z⟩))
  cases u
 ·exact .inr (.inr (.inr rfl))
 cases u
def DT(a:AV)(u:Value):PV:=match a with
 | .p x=>x
 | _=>.im u
theorem rQ{S:Nat->Prop}{w:World}{g:Nat}{c:Array Value}{O:TypeId}(W:w.heap[g]?=some (.cells c O (0,0)))(Y:∀(j:Nat) u,c[j]?=some u->∀k n,u≠.int k n)(hS:∀b,S b->S' b\/b=g){x:PV}{v:Value}(D:Il x)(h:ay S w x v):ay S' w x v:=by
 cases h with
 | im=>exact .im _
 | nil a c=>exact .nil a c
 | ag cs vs hl m h=>exact D.elim
 | ip cs b off U hS hcell h=>exact D.elim
 | fn f cap vs hl h=>exact D.elim
 | mp=>exact D.elim
 | ifc=>exact D.elim
 | sl es k b off Z U BY hb hk hcell h=>
  have J:∀(i:Nat) e (j:Nat) x,es[i]?=some e->e[j]?=some x->∃I n,x=.im (.int I n):=fun i e j x m z=>by
   obtain⟨I,n,N⟩:=D e (aj m);subst N;cases j with
   | zero=>simp at z;exact⟨I,n,z.symm⟩
   | succ j=>simp at z
  cases es with
  | nil=>exact .nil _ _
  | cons e es=>
   rcases hS b hb with hb | hb
   ·refine .sl _ k b off Z U BY hb hk hcell fun i e j x m z=>?_;obtain⟨I,n,hx⟩:=J i e j x m z;have R:=h i e j x m z;subst hx;generalize U i j=u at R ⊢;cases R;exact .im _
   subst hb;obtain⟨I,n,N⟩:=D e aW;subst N;have m:=(hcell 0 _ 0 _ rfl rfl).1;have z:=h 0 _ 0 _ rfl rfl;generalize U 0 0=u0 at m z;cases z;rw[cell_of_row w b _ c O (0,0) W]at m;exact absurd rfl (Y _ _ m I n)
theorem DU{S:Nat->Prop}{w:World}{g:Nat}{c:Array Value}{J:TypeId}(z:w.heap[g]?=some (.cells c J (0,0)))(D:∀(j:Nat) u,c[j]?=some u->∀k n,u≠.int k n)(hS:∀b,S b->S' b\/b=g){x:PV}{v:Value}(m:KL x)(h:ay S w x v):ay S' w x v:=by
 cases x with
 | ag cs=>
  cases h with
  | ag cs vs hl h1 h=>exact .ag cs vs hl h1 fun i a u I N=>rQ z D hS (m a (aj I)) (h i a u I N)
 | im x=>exact rQ z D hS m h
 | sl es=>exact rQ z D hS m h
 | ip cs=>exact m.elim
 | fn f cap=>exact m.elim
 | mp mk es=>exact m.elim
 | ifc t x=>exact m.elim
variable {e:TypeId}
theorem DV{S:Nat->Prop}{P:Program}{w:World}{es:List (List PV)}{v:Value}(h:an P w (ay S w) e es v)(hS:∀b,S b->S' b):an P w (ay S' w) e es v:=by
 obtain⟨i,xs,m,z,D,I,J,N⟩:=h;exact⟨i,xs,m,z,D,I,J,fun a r j x O R=>by obtain⟨u,U,W⟩:=N a r j x O R;exact⟨u,U,W.mono hS fun _ _=>rfl⟩⟩
theorem rR{S:Nat->Prop}{P:Program}{w:World}{es:List (List PV)}{v:Value}(h:an P w (ay S w) e es v)(I:∀r∈es,∀z∈r,nL z=true):an P w (ay S' w) e es v:=by
 obtain⟨i,xs,J,N,O,R,U,W⟩:=h;exact⟨i,xs,J,N,O,R,U,fun a r j x m D=>by obtain⟨u,Y,Z⟩:=W a r j x m D;exact⟨u,Y,gk (I r (aj m) x (aj D)) Z⟩⟩
theorem BZ(hC:aL A.C){o:Oper}{S:Nat->Prop}{a:Act}{w:World}{K:KK}{next:Act->World->Prop}(sim:aU A V L S rho s a w)(hd:∀d,o.dst=some d->d<A.n)
  (hnext:∀v eff new S' rho' a' w',K v eff new->aU A (mG V o.dst) (nR L new (o.dst.getD 0)) S' rho' ⟨cU s.t o.dst v,app s.h eff⟩ a' w'->next a' w')
  (f:FuncId) (cT:List AV) (vs:Array Value) (hl:cT.length=vs.size)
  (hrep:∀(S2:Nat->Prop) (h2:Nat->AB),aU A V L S2 rho ⟨s.t,h2⟩ a w->∀(i:Nat) x v,cT[i]?=some x->vs.toList[i]?=some v->aE S2 w A.C.P L rho h2 x v)
  (hrun : (∃ fn : Func, A.C.P.funcs[f]? = some fn ∧ (fn.name == "runtime.NumGoroutine") = false ∧ fn.body.isNone = false) → (execOp a.eval o).run A.C.P w = .ok (.enter f vs) w) (hq : rB A.C s.h f cT K) : o.wp A.C.P a w next Q := by
 unfold rB at hq;split at hq
 ·rename_i id y cZ;split at hq
  ·rename_i cs e es hb hr;obtain⟨x,bW,dX,Q7,hint,Q8,hk⟩:=hq;obtain⟨v0,v1,v2,rfl⟩:∃v0 v1 v2,vs=#[v0,v1,v2]:=by
    obtain⟨l⟩:=vs
    match l,hl with
    | [v0,v1,v2],_=>exact⟨v0,v1,v2,rfl⟩
   have r0:=hrep S s.h sim 0 _ v0 rfl rfl;have r1:=(hrep S s.h sim 1 _ v1 rfl rfl).cb;obtain⟨Lh,rfl⟩:=(hrep S s.h sim 2 _ v2 rfl rfl).bu (by rw[hr];trivial);obtain⟨hL,g,hg,rfl⟩:=r0.dt (by rw[hb];trivial);have hh:=sim.hp id hL;rw[hb]at hh;obtain⟨g',ty,c,k1,k2,k3,k4⟩:=hh;rw[hg]at k1;injection k1 with k1;injection k1 with k1;injection k1 with k1;subst k1;have ai:=sim.hp cZ Lh;rw[hr]at ai;have ai:an A.C.P w (ay S w) e es (rho cZ):=ai;have bO:id≠cZ:=fun e=>by rw[e,hr]at hb;cases hb
   have tQ:(s.h id).live:=by rw[hb];trivial
   have w_:(s.h cZ).live:=by rw[hr];trivial
   have PQ:∀b,bH (rho cZ)=some b->b≠g:=fun b dM e=>bO (sim.KM id cZ g hL Lh tQ w_ (by rw[hg];rfl) (by rw[<-e];exact dM));obtain⟨mH,Km,_⟩:=sim.mO id g hL tQ (by rw[hg];rfl);have Li:∀(j:Nat) u,c[j]?=some u->∀k n,u≠.int k n:=fun j u hu k n hn=>by
    obtain⟨av,o_⟩:∃av,cs[j]?=some av:=⟨_,aM (by rw[<-k3];exact (nZ.1 hu).1)⟩;have h1:=Q7 av (aj o_);have h2:=(k4 j av u o_ hu).2;subst hn;rcases w9 h1 with⟨zs,rfl⟩ | ⟨_,_,_,rfl⟩ | ⟨i,e2,jo,rfl,jb⟩ | rfl
    ·have:=h2.cb;cases this
    ·have:=h2.cb;cases this
    ·obtain⟨Q9,h3⟩:=h2.bu (by rw[jb];trivial);have h4:=sim.hp i Q9;rw[jb]at h4;obtain⟨_,_,_,_,h5,_⟩:=h4;obtain⟨_,_,h6⟩:=bP h5;rw[<-h3]at h6;cases h6
    cases h2
   have Lj:∀(j:Nat) z,(List.zipWith DT cs c.toList)[j]?=some z->∃u,c[j]?=some u/\u.oneCell'=true/\ay S w z u:=fun j z hz=>by
    rw[vm]at hz;cases h1:cs[j]? with
    | none=>rw[h1]at hz;cases hz
    | some av=>
     cases h2:c.toList[j]? with
     | none=>rw[h1,h2]at hz;cases hz
     | some u=>
      rw[h1,h2]at hz;simp only[Option.some.injEq]at hz;have hu:c[j]?=some u:=by rw[<-gy];exact h2
      obtain⟨q1,q2⟩:=k4 j av u h1 hu;refine⟨u,hu,q1,?_⟩;rw[<-hz];unfold DT;split
      ·exact q2.cb
      exact .im _
   have N2:Ht cs (List.zipWith DT cs c.toList):=⟨by simp[l5,k3],fun j z hz=>by
    obtain⟨u,hu⟩:∃u,c.toList[j]?=some u:=⟨_,aM (by have:=ah hz;simp[k3];exact this)⟩;rw[vm,hz,hu];rfl⟩
   obtain⟨S1,Lk⟩:∃S1:Nat->Prop,S1=fun b=>S b\/b=g:=⟨_,rfl⟩;have nX:∀b,S b->S1 b:=fun b h=>by rw[Lk];exact .inl h
   have dX:=dX _ N2;have key:=dX.2 S1 w #[.pointer (some ⟨g,0,none⟩),v1,rho cZ] (hC.env _ _ _ _ sim.ev nX (fun _ _=>rfl) (aC _)) (fun b h=>by
     rw[Lk]at h;rcases h with h | h
     ·exact sim.st b h
     ·rw[h];exact mH) rfl (fun j z v hj hv=>by
     match j with
     | 0=>
      simp only[fL,Option.some.injEq]at hj;have hv:Value.pointer (some ⟨g,0,none⟩)=v:=by simpa using hv
      subst hj;subst hv;refine .ip _ g 0 (fun i=>(c[i]?).getD undef) (by rw[Lk];exact .inr rfl) (fun i z hi=>?_) fun i z hi=>?_
      ·obtain⟨u,h5,h6,h7⟩:=Lj i z hi;rw[cV,cell_of_row w g i c ty (0,0) k2,h5];exact⟨rfl,h6⟩
      obtain⟨u,h5,h6,h7⟩:=Lj i z hi;rw[h5];exact h7.mono nX fun _ _=>rfl
     | 1=>
      simp only[qJ,fL,Option.some.injEq]at hj;have hv:v1=v:=by simpa using hv
      subst hj;subst hv;exact r1.mono nX fun _ _=>rfl
     | 2=>
      simp only[qJ,fL,Option.some.injEq]at hj;have hv:rho cZ=v:=by simpa using hv
      subst hj;subst hv;refine⟨DV ai nX,fun b dM h=>?_⟩;rw[Lk]at h;rcases h with h | h
      ·exact (sim.mO cZ b Lh w_ dM).2.1 h
      exact PQ b dM h
     | j+3=>simp at hj) (fun i j z z' v u b hi hj hv hu hx hy _ _=>by
     match i,j with
     | 2,2=>rfl
     | 0,_=>simp at hi;subst hi;cases hx
     | 1,_=>simp at hi;subst hi;cases hx
     | i+3,_=>simp at hi
     | _,0=>simp at hj;subst hj;cases hy
     | _,1=>simp at hj;subst hj;cases hy
     | _,j+3=>simp at hj)
   have H:dO L rho s.h [.pv (.ip (List.zipWith DT cs c.toList)),.pv y,.row e es] [.pointer (some ⟨g,0,none⟩),v1,rho cZ] [(cZ,.row e es)]:=.pv _ _ (.pv _ _ (.row cZ e es Lh hr .nil));refine gM (hrun dX.1) key fun e' w' fM=>?_;obtain⟨v,S',rfl,hf,NX,wL,IM,FQ,cG,F9,hown⟩:=fM;refine⟨v,rfl,?_⟩;have N3:∀b,Mv w [.pv (.ip (List.zipWith DT cs c.toList)),.pv y,.row e es] #[.pointer (some ⟨g,0,none⟩),v1,rho cZ] b->bH (rho cZ)=some b:=fun b hm=>by
    obtain⟨s9,b',h1,h2⟩:=(H.mv b).1 hm;simp only[jc,Prod.mk.injEq]at h1;obtain⟨rfl,rfl⟩:=h1;exact al rfl h2
   have eY:w'.heap[g]?=some (.cells c ty (0,0)):=by
    rw[hf.block g mH fun hm=>PQ g (N3 g hm) rfl];exact k2
   have C4:jk S' w' A.C.P (.row e es) (.row bW) (rho cZ):=cG.1;obtain⟨S2,Ll⟩:∃S2:Nat->Prop,S2=fun b=>S b\/(S' b/\w.heap.size<=b):=⟨_,rfl⟩;have Lm:∀b,S b->S2 b:=fun b h=>by rw[Ll];exact .inl h
   have hx:ay S2 w' x v:=DU eY Li (fun b h=>by
    rcases IM b h with h1 | h1 | h1
    ·rw[Lk]at h1;rcases h1 with h1 | h1
     ·exact .inl (Lm b h1)
     exact .inr h1
    ·rw[Ll];exact .inl (.inr ⟨h,h1⟩)
    exact absurd h (C4.2 b (N3 b h1))) hint FQ
   have cF:=aU.handed (S':=S2) hC sim H (fun _ _ _=>rfl) hf Lm (fun b h=>by
    rw[Ll]at h;rcases h with h | h
    ·exact bg (sim.st b h) hf.size
    ·exact wL b h.1) (fun b h=>by
    rw[Ll]at h;rcases h with h | h
    ·exact .inl h
    ·exact .inr (.inl h.2)) (fin:=[.row bW]) (show jk S2 w' A.C.P (.row e es) (.row bW) (rho cZ)/\True from ⟨⟨rR C4.1 Q8,fun b dM h=>by
    rw[Ll]at h;rcases h with h | h
    ·exact (sim.mO cZ b Lh w_ dM).2.1 h
    exact C4.2 b dM h.1⟩,trivial⟩) F9 (fe:=[(cZ,.row e bW)]) rfl
   exact hnext _ _ _ S2 rho _ _ hk (cF.value o.dst hd _ _ (.p _ _ hx))
  exact hq.elim
 exact hq.elim
theorem yX(hC:aL A.C){o:Oper}{S:Nat->Prop}{a:Act}{w:World}{K:KK}{next:Act->World->Prop}(sim:aU A V L S rho s a w)(hd:∀d,o.dst=some d->d<A.n)
  (hn:∀v eff b,K v eff (some b)->¬L (o.dst.getD 0)/\s.h (o.dst.getD 0)=b)
  (hnext:∀v eff new S' rho' a' w',K v eff new->aU A (mG V o.dst) (nR L new (o.dst.getD 0)) S' rho' ⟨cU s.t o.dst v,app s.h eff⟩ a' w'->next a' w')
  (f:FuncId) (cT:List AV) (vs:Array Value) (hl:cT.length=vs.size)
  (hrep:∀(S2:Nat->Prop) (h2:Nat->AB),aU A V L S2 rho ⟨s.t,h2⟩ a w->∀(i:Nat) x v,cT[i]?=some x->vs.toList[i]?=some v->aE S2 w A.C.P L rho h2 x v)
  (hrun : (∃ fn : Func, A.C.P.funcs[f]? = some fn ∧ (fn.name == "runtime.NumGoroutine") = false ∧ fn.body.isNone = false) → (execOp a.eval o).run A.C.P w = .ok (.enter f vs) w) (hq : j3 A.C s.h (o.dst.getD 0) f cT K) : o.wp A.C.P a w next Q := by
 unfold j3 at hq;split at hq
 ·exact yW hC sim hd hn hnext f cT vs hl hrep hrun hq
 split at hq;rotate_left
 ·exact BZ hC sim hd hnext f cT vs hl hrep hrun hq
 obtain⟨xs,r,wV,dX,dY,hq⟩:=hq;obtain⟨K8,IP⟩:=wV.at;have key:=dX.2 (fun b=>S b\/∃id,L id/\(s.h id).live/\hasB w (s.h id) (rho id) b) w vs (hC.env _ _ _ _ sim.ev (fun b h=>.inl h) (fun _ _=>rfl) (aC _)) (fun b h=>h.elim (sim.st b) fun ⟨id,h1,h2,h3⟩=>(sim.lv id b h1 h2 h3).1) (by simp[<-K8,hl]) (fun j x v hj hv=>by
   rw[ao]at hj;obtain⟨y,hy,rfl⟩:=az.1 hj;obtain⟨av,o_⟩:∃av,cT[j]?=some av:=⟨_,aM (by rw[K8];exact ah hy)⟩;exact (IP j av y o_ hy).rep hC sim (hrep S s.h sim j av v o_ (by simpa using hv))) (fun i j x y v u g hi hj hv hu hx=>by
   rw[ao]at hi;obtain⟨z,_,rfl⟩:=az.1 hi;cases hx)
 refine gM (hrun dX.1) key fun e w' fM=>?_;obtain⟨v,S',rfl,hf,NX,wL,IM,hr,cG,F9,hown⟩:=fM;refine⟨v,rfl,?_⟩;have NY:Fr (fun _=>False) w w':=⟨hf.os,hf.tape,hf.output,hf.size,fun k hk _=>hf.block k hk fun ⟨j,x,v,hj,_,hx,_⟩=>by
  rw[ao]at hj;obtain⟨z,_,rfl⟩:=az.1 hj;cases hx⟩
 have cF:=sim.grow hC w' NY;refine hnext _ _ _ S rho _ _ hq (cF.value o.dst hd _ _ ?_);cases r with
 | p x=>exact .p _ _ (gk dY hr)
 | own e es=>cases dY
 | hown cs=>cases dY
 | tu ys=>
  obtain⟨us,rfl,h1,h2⟩:=hr;refine .tu _ us (by simpa using h1) fun i c u hi hu=>?_;rw[ao]at hi;obtain⟨z,hz,rfl⟩:=az.1 hi;exact .p _ _ (gk (cC.1 dY z (aj hz)) (h2 i z u hz hu))
theorem xb:∀(m:List (Nat×Value)) (c:Array Value),(Kg m c).size=c.size
 | [],c=>rfl
 | (j,v)::r,c=>by rw[Kg,xb r,qK]
theorem AG:∀(m:List (Nat×Value)) (c:List PV),(Db m c).length=c.length
 | [],c=>rfl
 | (j,v)::r,c=>by rw[Db,AG r,aF]
theorem HE:∀(D:List (Nat×Value)) (c:Array Value) (cs:List PV) (j:Nat) x u,c.size=cs.length->(Db D cs)[j]?=some x->(Kg D c)[j]?=some u->(∃v,(∃k,(k,v)∈D)/\x=.im v/\u=v)\/(cs[j]?=some x/\c[j]?=some u)
 | [],c,cs,j,x,u,_,hx,hu=>.inr ⟨hx,hu⟩
 | (k,v)::r,c,cs,j,x,u,hl,hx,hu=>by
  rw[Db]at hx;rw[Kg]at hu;rcases HE r (c.setIfInBounds k v) (cs.set k (.im v)) j x u (by rw[qK,aF,hl]) hx hu with⟨I,⟨J,m⟩,z⟩ | ⟨m,z⟩
  ·exact .inl ⟨I,⟨J,cg _ m⟩,z⟩
  by_cases e:j=k
  ·subst e;have N:j<cs.length:=by have:=ah m;rwa [aF]at this
   rw[aP N]at m;rw[fg,ae rfl,ae (by omega)]at z;injection m with m;injection z with z;exact .inl ⟨v,⟨j,aW ..⟩,m.symm,z.symm⟩
  rw[bw (fun h=>e h.symm)]at m;rw[fg,af (fun h=>e h.symm)]at z;exact .inr ⟨m,z⟩
theorem xc:∀{z:List (Nat×Value)} {k:Nat} {v:Value},FL z=true->(k,v)∈z->v.oneCell'=true
 | (j,u)::r,k,v,h,m=>by
  rw[FL,aw]at h;rcases fK.1 m with e | m
  ·injection e with _ e;exact e▸h.1
  exact xc h.2 m
theorem AH{ys:List PV}:∀{z:List (Nat×Value)},Io ys z->∀p∈z,ys[p.1]?=some (.im p.2)
 | (j,u)::r,h,p,m=>by
  rcases fK.1 m with e | m
  ·subst e;exact h.1
  exact AH h.2 p m
theorem B0(hC:aL A.C){o:Oper}{S:Nat->Prop}{a:Act}{w:World}{K:KK}{next:Act->World->Prop}(sim:aU A V L S rho s a w)(hd:∀d,o.dst=some d->d<A.n)
  (hn:∀v eff b,K v eff (some b)->¬L (o.dst.getD 0)/\s.h (o.dst.getD 0)=b)
  (hnext:∀v eff new S' rho' a' w',K v eff new->aU A (mG V o.dst) (nR L new (o.dst.getD 0)) S' rho' ⟨cU s.t o.dst v,app s.h eff⟩ a' w'->next a' w')
  (f:FuncId) (cT:List AV) (vs:Array Value) (hl:cT.length=vs.size)
  (hrep:∀(S2:Nat->Prop) (h2:Nat->AB),aU A V L S2 rho ⟨s.t,h2⟩ a w->∀(i:Nat) x v,cT[i]?=some x->vs.toList[i]?=some v->aE S2 w A.C.P L rho h2 x v)
  (hrun : (∃ fn : Func, A.C.P.funcs[f]? = some fn ∧ (fn.name == "runtime.NumGoroutine") = false ∧ fn.body.isNone = false) → (execOp a.eval o).run A.C.P w = .ok (.enter f vs) w) (hq : rC A.C s.h f cT K) : o.wp A.C.P a w next Q := by
 unfold rC at hq;split at hq
 case h_2=>exact hq.elim
 rename_i id y iu off;split at hq
 case h_2=>exact hq.elim
 rename_i cs BL hb;split at hq
 case h_2=>exact hq.elim
 rename_i ys hy;obtain⟨rd,wr,r,dX,Kn,Q_,hk⟩:=hq;have e2:iu=id:=bq BL;subst e2;obtain⟨v0,v1,v2,rfl⟩:∃v0 v1 v2,vs=#[v0,v1,v2]:=by
  obtain⟨l⟩:=vs
  match l,hl with
  | [v0,v1,v2],_=>exact⟨v0,v1,v2,rfl⟩
 have r0:=hrep S s.h sim 0 _ v0 rfl rfl;have r1:=(hrep S s.h sim 1 _ v1 rfl rfl).cb;have r2:=hrep S s.h sim 2 _ v2 rfl rfl;obtain⟨hL,g,hg,rfl⟩:=r0.dt (by rw[hb];trivial);obtain⟨_,g2,xd,rfl⟩:=r2.dt (by rw[hb];trivial);rw[hg]at xd;injection xd with xd;injection xd with xd;injection xd with xd;subst xd;have tQ:(s.h iu).live:=by rw[hb];trivial
 have hh:=sim.hp iu hL;rw[hb]at hh;obtain⟨g',ty,c,k1,k2,k3,k4⟩:=hh;rw[hg]at k1;injection k1 with k1;injection k1 with k1;injection k1 with k1;subst k1;obtain⟨mH,Km,_⟩:=sim.mO iu g hL tQ (by rw[hg];rfl);obtain⟨N4,N5⟩:=dz hy;have hcell:∀(j:Nat) x u,ys[j]?=some x->c[j]?=some u->u.oneCell'=true/\ay S w x u:=fun j x u hx hu=>by
  obtain⟨av,o_⟩:∃av,cs[j]?=some av:=⟨_,aM (by rw[N4];exact ah hx)⟩;obtain⟨h1,h2⟩:=k4 j av u o_ hu;refine⟨h1,?_⟩;rcases N5 j av x o_ hx with e | ⟨e,e'⟩
  ·subst e;exact h2.cb
  subst e;subst e';cases h2;exact .nil _ _
 have key:=dX.2 S w v1 g c ty sim.ev sim.st r1 k2 (by omega) Km (fun p hp=>by
  have h1:=AH Kn p hp;obtain⟨u,hu⟩:∃u,c[p.1]?=some u:=⟨_,bE (by have:=ah h1;omega)⟩;have h2:=(hcell _ _ u h1 hu).2;rw[hu,h2.bc])
 refine gM (hrun dX.1) key fun e' w' fM=>?_;obtain⟨rfl,hf,hw⟩:=fM;refine⟨r,rfl,?_⟩;have H:dO L rho s.h [.box ys] [rho iu] [(iu,.box cs)]:=.box iu cs ys hL hb hy .nil;have Ln:∀k,k=g->Mv w [.box ys] #[rho iu] k:=fun k e=>⟨0,_,_,rfl,rfl,rfl,.inl (by rw[hg,e];rfl)⟩;have N3:∀k,Mv w [.box ys] #[rho iu] k->k=g:=fun k ⟨j,x,v,h1,h2,_,h3⟩=>by
  match j,h1,h2 with
  | 0,h1,h2=>
   simp only[fL,Option.some.injEq]at h1;subst h1;have h2:rho iu=v:=by simpa using h2
   subst h2;have:=al (x:=tc (.box ys)) rfl h3;rw[hg]at this;injection this with this;exact this.symm
  | j+1,h1,_=>simp at h1
 have Ra:Fr (Mv w [.box ys] #[rho iu]) w w':=⟨hf.os,hf.tape,hf.output,hf.size,fun k hk hn=>hf.block k hk fun e=>hn (Ln k e)⟩;have cF:=aU.handed (S':=S) hC sim H (fun _ _ _=>rfl) Ra (fun _ h=>h) (fun b h=>bg (sim.st b h) hf.size) (fun b h=>.inl h) (fin:=[.box (Db wr ys)])
  (show jk S w' A.C.P (.box ys) (.box (Db wr ys)) (rho iu)/\True from ⟨⟨g,ty,_,hg,hw,by rw[xb,AG];omega,Km,fun j x u hx hu=>by
   rcases HE wr c ys j x u (by omega) hx hu with⟨v,⟨k,hm⟩,e1,e2⟩ | ⟨h1,h2⟩
   ·subst e1;subst e2;exact⟨xc Q_ hm,.im _⟩
   obtain⟨h3,h4⟩:=hcell j x u h1 h2;exact⟨h3,h4.mono (fun _ h=>h) fun b dM=>hf.block b (sim.st b dM) fun e=>Km (e▸dM)⟩⟩,trivial⟩)
  (by
   have only:∀i k,cq w' [.box ys] [.box (Db wr ys)] [rho iu] i k->i=0/\k=g:=fun i k hk=>by
    match i,hk with
    | 0,hk=>
     have:=al (x:=FK (.box (Db wr ys))) rfl hk.2;rw[hg]at this;injection this with this;exact⟨rfl,this.symm⟩
    | i+1,hk=>exact hk.elim
   exact⟨fun i k hk=>by
    obtain⟨_,rfl⟩:=only i k hk;exact⟨bg mH hf.size,.inr (Ln _ rfl)⟩,fun i j k hi hj=>by rw[(only i k hi).1,(only j k hj).1]⟩) (fe:=[(iu,.box ((Db wr ys).map .p))]) rfl
 exact hnext _ _ _ S rho _ _ hk (cF.value o.dst hd _ _ (.p _ _ (.im r)))
theorem aU.od{S:Nat->Prop}{a:Act}{w:World}(m:aU A V L S rho s a w)(hC:aL A.C){L':Nat->Prop}{rho':Nat->Value}{h':Nat->AB}(D:Nat->Prop)
  (hf:Fr (fun g=>∃i,D i/\L i/\(s.h i).live/\hasB w (s.h i) (rho i) g) w w')
  (hids:∀i,(h' i).there->(s.h i).there/\(L i->L' i/\rho' i=rho i)) (Lo:∀i e,(h' i).fD=some e->(s.h i).fD=some e)
  (N:∀i,¬D i->h' i=s.h i/\(L' i->L i)/\rho' i=rho i) (Rb:∀i,100000<=i->rho' i=rho i)
  (hhp:fu S S w w' L L' rho rho' s.h h'->∀i,D i->L' i->cd S w' A.C.P L' rho' h' i (h' i))
  (hown:∀i g,D i->L' i->(h' i).live->hasB w' (h' i) (rho' i) g->g<w'.heap.size/\(w.heap.size<=g\/∃j,D j/\L j/\(s.h j).live/\hasB w (s.h j) (rho j) g))
  (hdj:∀i j g,D i->D j->L' i->L' j->(h' i).live->(h' j).live->hasB w' (h' i) (rho' i) g->hasB w' (h' j) (rho' j) g->i=j):aU A V L' S rho' ⟨s.t,h'⟩ a w':=by
 have eE:∀b,S b->w'.heap[b]?=w.heap[b]?:=fun b hb=>hf.block b (m.st b hb) fun ⟨i,_,hl,u,O⟩=>(m.lv i b hl u O).2.1 hb;have T:fu S S w w' L L' rho rho' s.h h':=⟨fun _ h=>h,eE,hids,Lo⟩;have stay:∀i,¬D i->L i->(s.h i).live->∀g,hasB w (s.h i) (rho i) g->w'.heap[g]?=w.heap[g]?:=fun i z hl u g O=>hf.block g (m.lv i g hl u O).1 fun ⟨j,R,Lp,I,J⟩=>z (m.dj i j g hl Lp u I O J▸R);have oh:∀i,¬D i->L i->(s.h i).live->∀g,hasB w' (s.h i) (rho i) g->hasB w (s.h i) (rho i) g:=fun i z hl u g O=>b_ (fun b hb=>stay i z hl u b hb) O;exact
 {tm:=fun j R=>(m.tm j R).bA T
  sz:=m.sz,df:=m.df,nb:=m.nb
  pn:=fun i z=>(Rb i z).trans (m.pn i z)
  ev:=hC.env _ _ _ _ m.ev (fun _ h=>h) eE hf.size
  s0:=m.s0
  st:=fun b hb=>bg (m.st b hb) hf.size
  sb:=m.sb
  hp:=fun i z=>by
   show cd _ _ _ _ _ _ _ (h' i);by_cases hD:D i
   ·exact hhp T i hD z
   obtain⟨W,U,h3⟩:=N i hD;rw[W];exact (m.hp i (U z)).bA T (stay i hD (U z)) (fun _=>h3)
  dj:=fun i j g z R u I Z J=>by
   have u:(h' i).live:=u;have I:(h' j).live:=I;have Z:hasB w' (h' i) (rho' i) g:=Z;have J:hasB w' (h' j) (rho' j) g:=J;have Y:∀i j,D i->¬D j->L' i->L' j->(h' i).live->(h' j).live->hasB w' (h' i) (rho' i) g->hasB w' (h' j) (rho' j) g->False:=fun i j IQ F_ z R u I Z J=>by
    obtain⟨W,U,h3⟩:=N j F_;rw[W]at I;rw[W,h3]at J;have J:=oh j F_ (U R) I g J;rcases (hown i g IQ z u Z).2 with h | ⟨k,hk,N6,lk,M1⟩
    ·have:=(m.lv j g (U R) I J).1;omega
    exact F_ (m.dj j k g (U R) N6 I lk J M1▸hk)
   by_cases IQ:D i<;>by_cases F_:D j
   ·exact hdj i j g IQ F_ z R u I Z J
   ·exact (Y i j IQ F_ z R u I Z J).elim
   ·exact (Y j i F_ IQ R z I u J Z).elim
   obtain⟨W,U,h3⟩:=N i IQ;obtain⟨k1,k2,k3⟩:=N j F_;rw[W]at u;rw[k1]at I;rw[W,h3]at Z;rw[k1,k3]at J;exact m.dj i j g (U z) (k2 R) u I (oh i IQ (U z) u g Z) (oh j F_ (k2 R) I g J)
  lv:=fun i g z u O=>by
   have u:(h' i).live:=u;have O:hasB w' (h' i) (rho' i) g:=O;by_cases hD:D i
   ·obtain⟨W,U⟩:=hown i g hD z u O;rcases U with h | ⟨j,R,Lp,I,J⟩
    ·exact⟨W,fun hs=>by have:=m.st g hs;omega,.inr (bM m.fr.size h)⟩
    exact⟨W,(m.lv j g Lp I J).2.1,(m.lv j g Lp I J).2.2⟩
   obtain⟨W,U,h3⟩:=N i hD;rw[W]at u;rw[W,h3]at O;obtain⟨p1,p2,p3⟩:=m.lv i g (U z) u (oh i hD (U z) u g O);exact⟨bg p1 hf.size,p2,p3⟩
  fr:=m.fr.trans hf fun b ⟨i,_,hl,u,O⟩=>(m.lv i b hl u O).2.2 }
variable {α:Type}
theorem ey{l:List α}{i a:Nat}{x y:α}(h:(l.set i x)[a]?=some y):(a=i/\y=x/\i<l.length)\/(a≠i/\l[a]?=some y):=by
 by_cases e:a=i
 ·subst e;have hl:=ah h;rw[aF]at hl;rw[aP hl]at h;injection h with h;exact .inl ⟨rfl,h.symm,hl⟩
 rw[bw (fun e'=>e e'.symm)]at h;exact .inr ⟨e,h⟩
theorem B1(l:List α)(p k:Nat)(v:α):(l.set p v).take k=(l.take k).set p v:=by
 apply fj;intro j;rw[cB];by_cases e:j=p
 ·subst e;by_cases h:j<k
  ·rw[ae h];by_cases hl:j<l.length
   ·rw[aP hl,aP (by simp;omega)]
   rw[dI (by simp;omega),dI (by simp;omega)]
  rw[af h,dI (by simp;omega)]
 rw[bw (fun h=>e h.symm),bw (fun h=>e h.symm),cB]
theorem an.inner{P:Program}{w:World}{R R':HX->Value->Prop}{es:List (List HX)}{g n c:Nat}{m:TypeInfo}(h:an P w R e es (.slice (some ⟨g,0,none⟩) n c))(pf:P.info? e=some m){I:Array Value}(hg:w.heap[g]?=some (.cells I e (0,0)))
  {i z:Nat} {r:List HX} (Z:es[i]?=some r) (tv:z<r.length) {x:HX} {W:Value} (h1:W.oneCell'=true) (eY:w'.heap[g]?=some (.cells (I.setIfInBounds (i*m.size+z) W) e (0,0)))
  (hx:R' x W) (N:∀a r1 j y u,es[a]?=some r1->r1[j]?=some y->¬(a=i/\j=z)->I[a*m.size+j]?=some u->R y u->R' y u):an P w' R' e (es.set i (r.set z x)) (.slice (some ⟨g,0,none⟩) n c):=by
 obtain⟨ie,xs,k1,k2,k3,k4,k5,k6⟩:=h;rw[pf]at k1;injection k1 with k1;subst k1;rcases k3.2 with⟨J,_⟩ | ⟨g',cap,Ds,J,_,U,k9,Kj,Fv,Hv⟩
 ·cases J
 injection J with J kn kc;injection J with J;injection J with J;subst J kn kc;rw[hg]at U;injection U with U;injection U with U;subst U;have hi:=ah Z;have nP:=k4 r (aj Z);have IA:i*m.size+m.size<=es.length*m.size:=by rw[<-bR];exact ba _ hi
 have Hw:es.length*m.size<=I.size:=by rw[Fv];exact ba _ k9
 have FW:xs.length=es.length*m.size:=k3.1;have hp:i*m.size+z<es.length*m.size:=by omega
 refine⟨m,xs.set (i*m.size+z) W,pf,k2,⟨by rw[aF,FW,aF],.inr ⟨g,c,_,by rw[aF],bd _,eY,by rw[aF];exact k9,Kj,by rw[qK];exact Fv,?_⟩⟩,?_,?_,?_⟩
 ·rw[uU,aF,B1,Hv]
 ·intro q Az;rcases cw Az with h | h
  ·exact k4 q h
  rw[h,aF];exact nP
 ·intro u D;rcases cw D with h | h
  ·exact k5 u h
  rw[h];exact h1
 intro b r1 j y hb O;have Y:∀(a j:Nat) u,xs[a*m.size+j]?=some u->I[a*m.size+j]?=some u:=fun a j u D=>by
  rw[<-Hv,cB]at D;split at D
  ·simpa using D
  cases D
 rcases ey hb with⟨rfl,rfl,_⟩ | ⟨Ga,hb⟩
 ·rcases ey O with⟨rfl,rfl,_⟩ | ⟨MU,O⟩
  ·exact⟨W,by rw[aP (by rw[FW];exact hp)],hx⟩
  obtain⟨u,D,nF⟩:=k6 _ _ _ _ Z O;exact⟨u,by rw[bw (by omega)];exact D,N _ _ _ _ _ Z O (fun h=>MU h.2) (Y _ _ _ D) nF⟩
 obtain⟨u,D,nF⟩:=k6 _ _ _ _ hb O;have kX:=ah O;rw[k4 r1 (aj hb)]at kX;refine⟨u,?_,N _ _ _ _ _ hb O (fun h=>Ga h.1) (Y _ _ _ D) nF⟩;rw[bw]
 ·exact D
 intro he;rcases lW Ga with h | h
 ·have:=ba m.size (dy h);rw[bR]at this;omega
 have:=ba m.size (dy h);rw[bR]at this;omega
theorem B2(hC:aL A.C){o:Oper}{S:Nat->Prop}{a:Act}{w:World}{K:KK}{next:Act->World->Prop}(sim:aU A V L S rho s a w)(hd:∀d,o.dst=some d->d<A.n)
  (hn:∀v eff b,K v eff (some b)->¬L (o.dst.getD 0)/\s.h (o.dst.getD 0)=b)
  (hnext:∀v eff new S' rho' a' w',K v eff new->aU A (mG V o.dst) (nR L new (o.dst.getD 0)) S' rho' ⟨cU s.t o.dst v,app s.h eff⟩ a' w'->next a' w')
  (f:FuncId) (cT:List AV) (vs:Array Value) (hl:cT.length=vs.size)
  (hrep:∀(S2:Nat->Prop) (h2:Nat->AB),aU A V L S2 rho ⟨s.t,h2⟩ a w->∀(i:Nat) x v,cT[i]?=some x->vs.toList[i]?=some v->aE S2 w A.C.P L rho h2 x v)
  (hrun : (∃ fn : Func, A.C.P.funcs[f]? = some fn ∧ (fn.name == "runtime.NumGoroutine") = false ∧ fn.body.isNone = false) → (execOp a.eval o).run A.C.P w = .ok (.enter f vs) w) (hq : p7 A.C s.h (o.dst.getD 0) f cT K) : o.wp A.C.P a w next Q := by
 unfold p7 at hq;split at hq
 case h_2=>exact hq.elim
 rename_i t av as;split at hq
 case h_2=>exact hq.elim
 rename_i ys Dx;obtain⟨v0,us,wV⟩:∃v0 us,vs.toList=v0::us:=by
  obtain⟨l⟩:=vs
  match l,hl with
  | x::r,_=>exact⟨x,r,rfl⟩
 have IP:vs=(v0::us).toArray:=by rw[<-wV]
 have Sv:as.length=us.length:=by
  have h1:vs.size=us.length+1:=by rw[IP];simp
  simp only[cD]at hl;omega
 obtain⟨N4,N5⟩:=dz Dx;have hargs:∀(j:Nat) x u,ys[j]?=some x->us[j]?=some u->ay S w x u:=fun j x u hx hu=>by
  obtain⟨b,hb⟩:∃b,as[j]?=some b:=⟨_,aM (by rw[N4];exact ah hx)⟩;have h1:=hrep S s.h sim (j+1) b u (by simpa using hb) (by rw[wV];simpa using hu);rcases N5 j b x hb hx with e | ⟨e,e'⟩
  ·subst e;exact h1.cb
  subst e;subst e';cases h1;exact .nil _ _
 obtain⟨u0,rfl,r0⟩:=(hrep S s.h sim 0 _ v0 rfl (by rw[wV];rfl)).Ay;split at hq
 ·rename_i id off;split at hq
  case h_2=>exact hq.elim
  rename_i cs hb;split at hq
  case h_2=>exact hq.elim
  rename_i cZ tv;split at hq
  case h_2=>exact hq.elim
  rename_i e l hr;split at hq
  ·exact hq.elim
  rename_i bO;have bO:id≠cZ:=fun e=>by rw[e]at bO;simp at bO
  obtain⟨r,l',dX,dY,Ko,hk⟩:=hq;obtain⟨M3,hdb⟩:=hn _ _ _ hk;obtain⟨d,N7⟩:∃d:Nat,o.dst.getD 0=d:=⟨_,rfl⟩;have Rc:d<100000:=by rw[<-N7];exact sim.gT hd
  rw[N7]at M3 hdb hk;obtain⟨hL,g,hg,rfl⟩:=r0.dt (by rw[hb];trivial);have hh:=sim.hp id hL;rw[hb]at hh;obtain⟨g',ty,c,k1,k2,k3,k4⟩:=hh;rw[hg]at k1;injection k1 with k1;injection k1 with k1;injection k1 with k1;subst k1;have HF:=ah tv;obtain⟨v,hv⟩:∃v,c[off]?=some v:=⟨_,bE (by omega)⟩;obtain⟨o1,l1⟩:=k4 off _ v tv hv;obtain⟨Kp,IS⟩:=l1.bu (by rw[hr];trivial);have ai:=sim.hp cZ Kp;rw[hr]at ai;have ai:an A.C.P w (ay S w) e l (rho cZ):=ai;rw[<-IS]at ai;have tQ:(s.h id).live:=by rw[hb];trivial
  have w_:(s.h cZ).live:=by rw[hr];trivial
  have xe:d≠id:=fun e=>M3 (by rw[e];exact hL);have DW:d≠cZ:=fun e=>M3 (by rw[e];exact Kp);obtain⟨p1,p2,p3⟩:=sim.mO id g hL tQ (by rw[hg];rfl);have rb:∀k,bH v=some k->¬S k/\k≠g/\k<w.heap.size:=fun k hk=>by
   obtain⟨q1,q2,q3⟩:=sim.mO cZ k Kp w_ (by rw[<-IS];exact hk);exact⟨q2,fun e=>bO (sim.KM id cZ g hL Kp tQ w_ (by rw[hg];rfl) (by rw[<-IS,<-e];exact hk)),q1⟩
  have key:=dX.2 S w us g off c ty v sim.ev sim.st (by omega) hargs k2 hv ai p2 rb;rw[<-IP]at key;refine gM (hrun dX.1) key fun e' w' fM=>?_;obtain⟨u,v',S',rfl,hf,hres,hw,kD,dM⟩:=fM;refine⟨u,rfl,?_⟩;have kD:an A.C.P w' (ay S w') e l' v':=rR kD Ko;have N8:v'.oneCell'=true:=by
   obtain⟨_,_,_,_,h3,_⟩:=kD;rcases h3.2 with⟨h4,_⟩ | ⟨_,_,_,h4,_⟩<;>rw[h4]<;>rfl
  have Gb:ax (ax s.h cZ .none) id (.box (cs.set off (.ow d))) id=.box (cs.set off (.ow d)):=ak _ _ _;have xf:ax (ax s.h cZ .none) id (.box (cs.set off (.ow d))) cZ=.none:=by rw[au _ _ bO.symm,ak]
  have Gc:∀i,i≠id->i≠cZ->ax (ax s.h cZ .none) id (.box (cs.set off (.ow d))) i=s.h i:=fun i h1 h2=>by rw[au _ _ h1,au _ _ h2]
  have IT:ax (ax s.h cZ .none) id (.box (cs.set off (.ow d))) d=.row e l':=(Gc d xe DW).trans hdb;have cF:=sim.od hC (L':=fun i=>L i\/i=d) (rho':=fun i=>if i=d then v' else rho i) (h':=ax (ax s.h cZ .none) id (.box (cs.set off (.ow d)))) (w':=w') (fun i=>i=id\/i=cZ\/i=d)
   ⟨hf.os,hf.tape,hf.output,hf.size,fun k hk tP=>hf.block k hk fun h=>tP (h.elim (fun e=>⟨id,.inl rfl,hL,tQ,.inl (by rw[hg,e];rfl)⟩) fun e=>⟨cZ,.inr (.inl rfl),Kp,w_,.inl (by rw[<-IS];exact e)⟩)⟩
   (fun i hi=>by
    by_cases e1:i=id
    ·subst e1;exact⟨by rw[hb];trivial,fun hl=>⟨.inl hl,af fun e=>xe e.symm⟩⟩
    by_cases e2:i=cZ
    ·subst e2;rw[xf]at hi;exact hi.elim
    rw[Gc i e1 e2]at hi;exact⟨hi,fun hl=>⟨.inl hl,af fun e=>M3 (by rw[<-e];exact hl)⟩⟩)
   (fun i QU hi=>by
    by_cases e1:i=id
    ·subst e1;rw[Gb]at hi;cases hi
    by_cases e2:i=cZ
    ·subst e2;rw[xf]at hi;cases hi
    rw[Gc i e1 e2]at hi;exact hi)
   (fun i hi=>⟨Gc i (fun e=>hi (.inl e)) fun e=>hi (.inr (.inl e)),fun h=>h.elim (fun h=>h) fun e=>absurd (.inr (.inr e)) hi,af fun e=>hi (.inr (.inr e))⟩)
   (fun i hi=>af (by omega))
   (fun T i hi hl=>by
    by_cases e1:i=id
    ·subst e1;rw[Gb];refine⟨g,ty,_,(af fun e=>xe e.symm).trans hg,hw,by simp[k3],fun j x u hx hu=>?_⟩;rcases ey hx with⟨rfl,rfl,_⟩ | ⟨hj,hx⟩
     ·rw[fg,ae rfl,ae (by omega)]at hu;injection hu with hu;subst hu;exact⟨N8,.ow d _ fun _=>⟨.inr rfl,(ae rfl).symm⟩⟩
     rw[fg,af fun e=>hj e.symm]at hu;exact⟨(k4 j x u hx hu).1,(k4 j x u hx hu).2.bA T⟩
    by_cases e2:i=cZ
    ·subst e2;rw[xf];trivial
    have e3:i=d:=(hi.resolve_left e1).resolve_left e2;subst e3;rw[IT];show an _ _ _ _ _ (if i=i then v' else rho i);rw[ae rfl];exact kD)
   (fun i k hi hl li eY=>by
    by_cases e1:i=id
    ·subst e1;rw[Gb]at eY;have eY:=al rfl eY;simp only[af (Ne.symm xe),hg]at eY;injection eY with eY;subst eY;exact⟨bg p1 hf.size,.inr ⟨i,.inl rfl,hL,tQ,.inl (by rw[hg];rfl)⟩⟩
    by_cases e2:i=cZ
    ·subst e2;rw[xf]at li;exact li.elim
    have e3:i=d:=(hi.resolve_left e1).resolve_left e2;subst e3;rw[IT]at eY;have eY:=al rfl eY;simp only[ae]at eY;obtain⟨q1,q2,q3⟩:=dM k eY;exact⟨q1,q3.elim (fun h=>.inr ⟨cZ,.inr (.inl rfl),Kp,w_,.inl (by rw[<-IS];exact h)⟩) .inl⟩)
   (fun i j k hi hj Sw Lp li lj cK dW=>by
    have own:∀i,(i=id\/i=cZ\/i=d)->(ax (ax s.h cZ .none) id (.box (cs.set off (.ow d))) i).live->hasB w' (ax (ax s.h cZ .none) id (.box (cs.set off (.ow d))) i) (if i=d then v' else rho i) k->(i=id/\k=g)\/(i=d/\k≠g):=fun i hi li eY=>by
     by_cases e1:i=id
     ·subst e1;rw[Gb]at eY;have eY:=al rfl eY;simp only[af (Ne.symm xe),hg]at eY;injection eY with eY;exact .inl ⟨rfl,eY.symm⟩
     by_cases e2:i=cZ
     ·subst e2;rw[xf]at li;exact li.elim
     have e3:i=d:=(hi.resolve_left e1).resolve_left e2;subst e3;rw[IT]at eY;have eY:=al rfl eY;simp only[ae]at eY;exact .inr ⟨rfl,(dM k eY).2.1⟩
    rcases own i hi li cK with⟨a1,a2⟩ | ⟨a1,a2⟩<;>rcases own j hj lj dW with⟨b1,b2⟩ | ⟨b1,b2⟩
    ·rw[a1,b1]
    ·exact absurd a2 b2
    ·exact absurd b2 a2
    rw[a1,b1])
  refine hnext _ _ _ S (fun i=>if i=d then v' else rho i) _ w' hk ?_;rw[N7];exact cF.value o.dst hd _ _ (.p _ _ (gk dY hres))
 ·rename_i id i off;split at hq
  case h_2=>exact hq.elim
  rename_i e' es hb;obtain⟨q,xg,hq⟩:=hq;split at hq
  case h_2=>exact hq.elim
  rename_i e l tv;obtain⟨r,l',dX,dY,Ko,hk⟩:=hq;obtain⟨hL,g,n,cp,tj,eZ,pf,rfl⟩:=r0.lZ hb;have hh:=sim.hp id hL;rw[hb]at hh;obtain⟨hR,hS⟩:=hh;rw[eZ]at hR hS;obtain⟨cur,mJ,hsz,hlen,hpos⟩:=hR.block pf;have HF:=ah tv;have Fw:=hlen q (aj xg);obtain⟨v,hv,o1,ai⟩:=hR.cell pf i q off _ xg tv;have ai:an A.C.P w (ay S w) e l v:=ai;have MY:cur[i*tj.size+off]?=some v:=by rw[cell_of_row w g _ cur e' (0,0) mJ]at hv;exact hv
  have tQ:(s.h id).live:=by rw[hb];trivial
  have Kq:bI w es g i off v:=⟨q,e,l,cur,_,_,xg,tv,mJ,by rw[Fw];exact MY⟩;obtain⟨p1,p2,p3⟩:=sim.mO id g hL tQ (by rw[eZ];rfl);have IU:bH (rho id)=some g:=by rw[eZ];rfl
  have inner:∀a j u k,bI w es g a j u->bH u=some k->hasB w (s.h id) (rho id) k:=fun a j u k h1 h2=>by rw[hb];exact bN.2 (.inr ⟨g,a,j,u,IU,h1,h2⟩)
  have rb:∀k,bH v=some k->¬S k/\k≠g/\k<w.heap.size:=fun k hk=>by
   obtain⟨q1,q2,q3⟩:=sim.lv id k hL tQ (inner _ _ _ _ Kq hk);exact⟨q2,hS.top g i off v k rfl Kq hk,q1⟩
  have key:=dX.2 S w us g (i*tj.size+off) cur e' v sim.ev sim.st (by omega) hargs mJ MY ai p2 rb;rw[<-IP]at key;refine gM (hrun dX.1) key fun e2 w' fM=>?_;obtain⟨u,v',S',rfl,hf,hres,hw,kD,dM⟩:=fM;refine⟨u,rfl,?_⟩;have kD:an A.C.P w' (ay S w') e l' v':=rR kD Ko;have N8:v'.oneCell'=true:=by
   obtain⟨_,_,_,_,h3,_⟩:=kD;rcases h3.2 with⟨h4,_⟩ | ⟨_,_,_,h4,_⟩<;>rw[h4]<;>rfl
  have cc:∀a j u,bI w' (es.set i (q.set off (.row e l'))) g a j u->(a=i/\j=off/\u=v')\/(¬(a=i/\j=off)/\bI w es g a j u):=by
   rintro a j u ⟨r1,e1,IV,c1,N9,m1,h1,h2,h3,h4⟩;rw[hw]at h3;injection h3 with h3;injection h3 with h3 h3' NA;rcases ey h1 with⟨rfl,rfl,_⟩ | ⟨ha,h1⟩
   ·rw[aF,Fw,<-h3]at h4;rcases ey h2 with⟨rfl,_,_⟩ | ⟨hj,h2⟩
    ·rw[fg,ae rfl]at h4;split at h4
     ·injection h4 with h4;exact .inl ⟨rfl,rfl,h4.symm⟩
     cases h4
    rw[fg,af (by omega)]at h4;exact .inr ⟨fun h=>hj h.2,q,e1,IV,cur,_,_,xg,h2,mJ,by rw[Fw];exact h4⟩
   have kX:=ah h2;have nP:=hlen r1 (aj h1);rw[nP,<-h3]at h4;rw[fg,af]at h4
   ·exact .inr ⟨fun h=>ha h.1,r1,e1,IV,cur,_,_,h1,h2,mJ,by rw[nP];exact h4⟩
   intro he;rcases lW ha with h | h
   ·have:=ba tj.size (dy h);rw[bR]at this;omega
   have:=ba tj.size (dy h);rw[bR]at this;omega
  have apart:∀a j u k,¬(a=i/\j=off)->bI w es g a j u->bH u=some k->bH v'=some k->False:=fun a j u k hn h1 h2 h3=>by
   rcases (dM k h3).2.2 with h | h
   ·exact hn (hS.dis g a j i off u v k rfl h1 Kq h2 h)
   have:=(sim.lv id k hL tQ (inner _ _ _ _ h1 h2)).1;omega
  have cF:=sim.od hC (L':=L) (rho':=rho) (h':=ax s.h id (.ai e' (es.set i (q.set off (.row e l'))))) (w':=w') (fun i=>i=id)
   ⟨hf.os,hf.tape,hf.output,hf.size,fun k hk tP=>hf.block k hk fun h=>tP (h.elim (fun e=>⟨id,rfl,hL,tQ,.inl (by rw[IU,e])⟩) fun e=>⟨id,rfl,hL,tQ,inner _ _ _ _ Kq e⟩)⟩
   (fun j hj=>by
    by_cases e1:j=id
    ·subst e1;exact⟨by rw[hb];trivial,fun hl=>⟨hl,rfl⟩⟩
    rw[au _ _ e1]at hj;exact⟨hj,fun hl=>⟨hl,rfl⟩⟩)
   (fun j e1 hj=>by
    by_cases e2:j=id
    ·subst e2;rw[ak]at hj;rw[hb];exact hj
    rw[au _ _ e2]at hj;exact hj)
   (fun j hj=>⟨au _ _ hj,fun h=>h,rfl⟩) (fun _ _=>rfl)
   (fun T j hj hl=>by
    subst hj;rw[ak];show an _ _ _ _ _ (rho j)/\kU _ _ (rho j);rw[eZ];refine⟨hR.inner pf mJ xg HF N8 hw kD fun a r1 k y u h1 h2 hn h3 h4=>?_,fun g' a k u b h1 h2 h3=>?_,fun g' a k a' k' u u' b h1 h2 h3 h4 h5=>?_⟩
    ·cases y with
     | av y=>exact aE.bA T h4
     | row e1 IV=>
      have iQ:bI w es g a k u:=⟨r1,e1,IV,cur,_,_,h1,h2,mJ,by rw[hlen r1 (aj h1)];exact h3⟩;refine an.bA h4 (fun b o9=>hf.block b (sim.lv j b hL tQ (inner _ _ _ _ iQ o9)).1 fun h=>?_) (fun x u hu=>hu.mono T.hS T.keep);rcases h with h | h
      ·exact hS.top g a k u b rfl iQ o9 h
      exact hn (hS.dis g a k i off u v b rfl iQ Kq o9 h)
    ·obtain rfl:=ed.1 h1;rcases cc a k u h2 with⟨_,_,rfl⟩ | ⟨_,h2⟩
     ·exact (dM b h3).2.1
     exact hS.top _ a k u b rfl h2 h3
    obtain rfl:=ed.1 h1;rcases cc a k u h2 with⟨e1,e2,e3⟩ | ⟨hn,m2⟩<;>rcases cc a' k' u' h3 with⟨Re,Rf,Rg⟩ | ⟨wM,m3⟩
    ·exact⟨e1.trans Re.symm,e2.trans Rf.symm⟩
    ·rw[e3]at h4;exact (apart _ _ _ _ wM m3 h5 h4).elim
    ·rw[Rg]at h5;exact (apart _ _ _ _ hn m2 h4 h5).elim
    exact hS.dis _ a k a' k' u u' b rfl m2 m3 h4 h5)
   (fun j k hj hl lj iS=>by
    subst hj;rw[ak]at iS;rcases bN.1 iS with h | ⟨g',a,m,u,h1,h2,h3⟩
    ·rw[IU]at h;injection h with h;subst h;exact⟨bg p1 hf.size,.inr ⟨j,rfl,hL,tQ,.inl IU⟩⟩
    rw[IU]at h1;injection h1 with h1;subst h1;rcases cc a m u h2 with⟨_,_,rfl⟩ | ⟨_,h2⟩
    ·obtain⟨q1,q2,q3⟩:=dM k h3;exact⟨q1,q3.elim (fun h=>.inr ⟨j,rfl,hL,tQ,inner _ _ _ _ Kq h⟩) .inl⟩
    have:=inner _ _ _ _ h2 h3;exact⟨bg (sim.lv j k hL tQ this).1 hf.size,.inr ⟨j,rfl,hL,tQ,this⟩⟩)
   (fun i j k hi hj _ _ _ _ _ _=>by rw[hi,hj])
  exact hnext _ _ _ S rho _ w' hk (cF.value o.dst hd _ _ (.p _ _ (gk dY hres)))
 exact hq.elim
theorem yY(hC:aL A.C){o:Oper}{S:Nat->Prop}{a:Act}{w:World}{K:KK}{next:Act->World->Prop}(sim:aU A V L S rho s a w)(hd:∀d,o.dst=some d->d<A.n)
  (hn:∀v eff b,K v eff (some b)->¬L (o.dst.getD 0)/\s.h (o.dst.getD 0)=b)
  (hnext:∀v eff new S' rho' a' w',K v eff new->aU A (mG V o.dst) (nR L new (o.dst.getD 0)) S' rho' ⟨cU s.t o.dst v,app s.h eff⟩ a' w'->next a' w')
  (f:FuncId) (cT:List AV) (vs:Array Value) (hl:cT.length=vs.size)
  (hrep:∀(S2:Nat->Prop) (h2:Nat->AB),aU A V L S2 rho ⟨s.t,h2⟩ a w->∀(i:Nat) x v,cT[i]?=some x->vs.toList[i]?=some v->aE S2 w A.C.P L rho h2 x v)
  (hrun : (∃ fn : Func, A.C.P.funcs[f]? = some fn ∧ (fn.name == "runtime.NumGoroutine") = false ∧ fn.body.isNone = false) → (execOp a.eval o).run A.C.P w = .ok (.enter f vs) w) (hq : kV A.C s.h (o.dst.getD 0) f cT K) : o.wp A.C.P a w next Q := by
 unfold kV at hq;split at hq
 ·exact yX hC sim hd hn hnext f cT vs hl hrep hrun hq
 exact B0 hC sim hd hn hnext f cT vs hl hrep hrun hq
theorem B3(hC:aL A.C){o:Oper}{S:Nat->Prop}{a:Act}{w:World}{K:KK}{next:Act->World->Prop}(sim:aU A V L S rho s a w)(hd:∀d,o.dst=some d->d<A.n)
  (hn:∀v eff b,K v eff (some b)->¬L (o.dst.getD 0)/\s.h (o.dst.getD 0)=b)
  (hnext:∀v eff new S' rho' a' w',K v eff new->aU A (mG V o.dst) (nR L new (o.dst.getD 0)) S' rho' ⟨cU s.t o.dst v,app s.h eff⟩ a' w'->next a' w')
  (f:FuncId) (cT:List AV) (vs:Array Value) (hl:cT.length=vs.size)
  (hrep:∀(S2:Nat->Prop) (h2:Nat->AB),aU A V L S2 rho ⟨s.t,h2⟩ a w->∀(i:Nat) x v,cT[i]?=some x->vs.toList[i]?=some v->aE S2 w A.C.P L rho h2 x v)
  (hrun : (∃ fn : Func, A.C.P.funcs[f]? = some fn ∧ (fn.name == "runtime.NumGoroutine") = false ∧ fn.body.isNone = false) → (execOp a.eval o).run A.C.P w = .ok (.enter f vs) w) (hq : p8 A.C s.h (o.dst.getD 0) f cT K) : o.wp A.C.P a w next Q := by
 unfold p8 at hq;split at hq
 ·exact yY hC sim hd hn hnext f cT vs hl hrep hrun hq
 exact B2 hC sim hd hn hnext f cT vs hl hrep hrun hq
theorem j9 {P : Program} {w : World} {f : FuncId} {vs : Array Value} (h : ∃ fn : Func, P.funcs[f]? = some fn ∧ (fn.name == "runtime.NumGoroutine") = false ∧ fn.body.isNone = false) : (callFunc f vs).run P w = .ok (.enter f vs) w := by
 obtain⟨fn,h1,h2,h3⟩:=h
 have nG : ¬ fn.name = "runtime.NumGoroutine" := by simpa using h2
 cases hb:fn.body with
 | none=>rw[hb]at h3;cases h3
 | some b=>simp[callFunc,Sem.run,program,h1,nG,hb]
theorem xh{a:Array α}(h:isNil a.toList=true):a=#[]:=by
 obtain⟨l⟩:=a;cases l with
 | nil=>rfl
 | cons y l=>cases h
theorem mQ{S:Nat->Prop}{w:World}{P:Program}{h:Nat->AB}{x:AV}{v:Value}{f:FuncId}{D:List AV}(m:rD x=some (f,D))(I:aE S w P L rho h x v):∃us:Array Value,v=.func (.func f) #[] us/\D.length=us.size/\∀(i:Nat) c u,D[i]?=some c->us[i]?=some u->aE S w P L rho h c u:=by
 cases x<;>simp only[rD]at m<;>try (cases m;done)
 ·rename_i y;have I:=I.cb;cases y<;>simp only[Ar]at m<;>try (cases m;done)
  ·rename_i z;obtain rfl:=I.bc;unfold Aq at m;split at m
   ·rename_i fn first N
    split at m
    ·rename_i J;simp only[aw]at J;have O:=xh J.1;have R:=xh J.2;subst O R;cases fn<;>simp only[Ap]at m<;>try (cases m;done)
     injection m with m;injection m with h1 h2;subst h1 h2;exact⟨#[],rfl,rfl,by simp⟩
    cases m
   cases m
  rename_i g N;injection m with m;injection m with h1 h2;subst h1 h2;cases I;rename_i us hl U;refine⟨us,rfl,by simpa using hl,fun i c u m W=>?_⟩;rw[ao]at m;obtain⟨z,Y,rfl⟩:=az.1 m;exact .p _ _ (U i z u Y W)
 injection m with m;injection m with h1 h2;subst h1 h2;cases I;exact⟨_,rfl,by assumption,by assumption⟩
theorem aU.loose{S:Nat->Prop}{a:Act}{w:World}(m:aU A V L S rho s a w)(hC:aL A.C)(w':World)(R:Nat->Prop)(u:Fr R w w')(N:∀k,R k->¬S k/\(∀i,L i->(s.h i).live->¬hasB w (s.h i) (rho i) k)/\(A.mv k\/A.w0.heap.size<=k)):aU A V L S rho s a w':=by
 have W:∀b,S b->w'.heap[b]?=w.heap[b]?:=fun k z=>u.block k (m.st k z) (fun h=>(N k h).1 z);have T:fu S S w w' L L rho rho s.h s.h:=⟨fun b h=>h,W,fun j D=>⟨D,fun hl=>⟨hl,rfl⟩⟩,fun j e' D=>D⟩;exact
 {tm:=fun j D=>(m.tm j D).bA T
  sz:=m.sz,df:=m.df,nb:=m.nb,pn:=m.pn
  ev:=hC.env _ _ _ _ m.ev (fun b h=>h) W u.size
  s0:=m.s0
  st:=fun b hb=>bg (m.st b hb) u.size
  sb:=m.sb
  hp:=fun j D=>(m.hp j D).bA T (fun I g O=>u.block g (m.lv j g D I O).1 (fun h=>(N g h).2.1 j D I O)) (fun _=>rfl)
  dj:=fun i j g J D I U Y Z=>m.dj i j g J D I U (b_ (fun k z=>u.block k (m.lv i k J I z).1 (fun h=>(N k h).2.1 i J I z)) Y) (b_ (fun k z=>u.block k (m.lv j k D U z).1 (fun h=>(N k h).2.1 j D U z)) Z)
  lv:=fun i g J I O=>by obtain⟨h1,h2⟩:=m.lv i g J I (b_ (fun k z=>u.block k (m.lv i k J I z).1 (fun h=>(N k h).2.1 i J I z)) O);exact⟨bg h1 u.size,h2⟩
  fr:=m.fr.next u.os u.tape u.output u.size fun k z hn=>u.block k (bg z m.fr.size) fun h=>by
   rcases (N k h).2.2 with h | h
   ·exact hn h
   omega }
theorem lf:∀{l:List AV} {as:List AV} {z:AV},lY l=some (as,z)->l=as++[z]
 | [],_,_,h=>by cases h
 | [x],_,_,h=>by cases h;rfl
 | x::y::r,as,z,h=>by
  rw[lY]at h;split at h
  ·rename_i l z' m;cases h;rw[lf m];rfl
  cases h
theorem Gd{h:Nat->AB}{d:Nat}:∀{fz:List (Nat×AB)},(∀p∈fz,p.1≠d)->app h fz d=h d:=by
 intro fz
 induction fz generalizing h with
 | nil=>intro _;rfl
 | cons p fz ih=>
  intro hp;obtain⟨i,b⟩:=p;show app (ax h i b) fz d=h d;rw[ih fun q m=>hp q (by simp[m]),au _ _ (fun e=>hp (i,b) (by simp) e.symm)]
theorem B4(hC:aL A.C){o:Oper}{S:Nat->Prop}{a:Act}{w:World}{K:KK}{next:Act->World->Prop}(sim:aU A V L S rho s a w)(hd:∀d,o.dst=some d->d<A.n)
  (hn:∀v eff b,K v eff (some b)->¬L (o.dst.getD 0)/\s.h (o.dst.getD 0)=b)
  (hnext:∀v eff new S' rho' a' w',K v eff new->aU A (mG V o.dst) (nR L new (o.dst.getD 0)) S' rho' ⟨cU s.t o.dst v,app s.h eff⟩ a' w'->next a' w')
  (f:FuncId) (cT:List AV) (vs:Array Value) (hl:cT.length=vs.size)
  (hrep:∀(S2:Nat->Prop) (h2:Nat->AB),aU A V L S2 rho ⟨s.t,h2⟩ a w->∀(i:Nat) x v,cT[i]?=some x->vs.toList[i]?=some v->aE S2 w A.C.P L rho h2 x v)
  (hrun : (∃ fn : Func, A.C.P.funcs[f]? = some fn ∧ (fn.name == "runtime.NumGoroutine") = false ∧ fn.body.isNone = false) → (execOp a.eval o).run A.C.P w = .ok (.enter f vs) w) (hq : p_ A.C s.h (o.dst.getD 0) f cT K) : o.wp A.C.P a w next Q := by
 unfold p_ at hq;split at hq
 case h_2=>exact hq.elim
 rename_i as id BC;have Ge:=lf BC;split at hq
 case h_2=>exact hq.elim
 rename_i ty c cZ aA;split at hq
 case h_2=>exact hq.elim
 rename_i AI;split at hq
 case h_2=>exact hq.elim
 rename_i e es ai;obtain⟨ws,vb,wV,F0⟩:∃ws vb,vs.toList=ws++[vb]/\as.length=ws.length:=by
  have bO:vs.toList≠[]:=fun e=>by
   have:vs.size=0:=by simpa using aa List.length e
   rw[Ge]at hl;simp at hl;omega
  refine⟨vs.toList.dropLast,vs.toList.getLast bO,(List.dropLast_concat_getLast bO).symm,?_⟩;rw[Ge]at hl;simp at hl ⊢;omega
 have DX:=hrep S s.h sim as.length (.bx id 0) vb (by rw[Ge];simp) (by rw[wV,F0];simp);have N_:∀(i:Nat) c v,as[i]?=some c->ws[i]?=some v->aE S w A.C.P L rho s.h c v:=fun i c v h1 h2=>hrep S s.h sim i c v (by rw[Ge,bQ (cL.1 h1).1];exact h1) (by rw[wV,bQ (cL.1 h2).1];exact h2);obtain⟨eO,g0,eZ,Rh⟩:L id/\∃g,rho id=.pointer (some ⟨g,0,none⟩)/\vb=.pointer (some ⟨g,0,none⟩):=by
  cases DX with
  | bx _ _ _ hv=>exact hv (by rw[aA];trivial)
 obtain⟨xs,fz,S2,⟨r,ch,bW,dX,hq⟩,aJ,hpv,nX,hF,wU,hlen⟩:=tL (t:=s.t) hC as ws S s.h F0 sim (kM.refl _) N_ hq;split at hq
 case h_2=>exact hq.elim
 rename_i hok;simp only[aw,vn]at hok;obtain⟨dY,M4,xi,bO⟩:=hok;have bO:id≠cZ:=fun e=>by rw[e]at bO;simp at bO
 have DY:(app s.h fz) id=.eN ty [c,.ow cZ]:=by rw[iD M4,aA]
 have DZ:(app s.h fz) cZ=.row e es:=by rw[iD xi,ai]
 have M5:=aJ.hp id eO;have M5:cd S2 w A.C.P L rho (app s.h fz) id (app s.h fz id):=M5;rw[DY]at M5;obtain⟨g,cells,k1,k2,k3,k4⟩:=M5;rw[eZ]at k1;obtain rfl:g0=g:=by injection k1 with k1;injection k1 with k1;injection k1
 obtain⟨u0,u1,dN⟩:∃u0 u1,cells=#[u0,u1]:=by
  obtain⟨cl⟩:=cells
  match cl,k3 with
  | [x,y],_=>exact⟨x,y,rfl⟩
 subst dN;obtain⟨o0,l0⟩:=k4 0 c u0 rfl rfl;obtain⟨o1,l1⟩:=k4 1 (.ow cZ) u1 rfl rfl;obtain⟨tR,Lq⟩:L cZ/\u1=rho cZ:=by
  cases l1 with
  | ow _ _ hv=>exact hv (by rw[DZ];trivial)
 have Ri:u0=.pointer none\/u0=.pointer (some ⟨g0,0,none⟩):=by
  unfold Hu at AI;split at AI
  ·cases l0 with
   | p _ _ hx=>cases hx;exact .inl rfl
  ·have hi:=bq AI;subst hi;cases l0 with
   | bx _ _ _ hv=>
    obtain⟨_,g',e1,e2⟩:=hv (by rw[DY];trivial);rw[eZ]at e1;injection e1 with e1;injection e1 with e1;injection e1 with e1;subst e1;exact .inr e2
  cases AI
 have F3:=aJ.hp cZ tR;have F3:cd S2 w A.C.P L rho (app s.h fz) cZ (app s.h fz cZ):=F3;rw[DZ]at F3;have F3:an A.C.P w (ay S2 w) e es (rho cZ):=F3;rw[<-Lq]at F3;have yZ:(app s.h fz id).live:=by rw[DY];trivial
 have qW:(app s.h fz cZ).live:=by rw[DZ];trivial
 have y8:=aJ.mO id g0 eO yZ (by rw[eZ];rfl);have om:∀k,bH u1=some k->k<w.heap.size/\¬S2 k/\(A.mv k\/A.w0.heap.size<=k)/\k≠g0:=fun k hk=>by
  obtain⟨a1,a2,a3⟩:=aJ.mO cZ k tR qW (by rw[<-Lq];exact hk);refine⟨a1,a2,a3,fun e=>bO ?_⟩;subst e;exact aJ.KM id cZ k eO tR yZ qW (by rw[eZ];rfl) (by rw[<-Lq];exact hk)
 have IP:vs=(ws++[Value.pointer (some ⟨g0,0,none⟩)]).toArray:=by
  rw[<-Rh,<-wV]
 have key:=dX.2 S2 w ws g0 u0 u1 aJ.ev aJ.st hlen hpv k2 Ri F3 y8.2.1 (fun k hk=>⟨(om k hk).2.1,(om k hk).2.2.2,(om k hk).1⟩);rw[<-IP]at key;refine gM (hrun dX.1) key fun e' w' fM=>?_;obtain⟨v,rfl,hf,hr,fM⟩:=fM;refine⟨v,rfl,?_⟩;have hval:∀{L':Nat->Prop} {rho':Nat->Value} {h':Nat->AB},aE S2 w' A.C.P L' rho' h' (Ke (o.dst.getD 0) r) v:=by
  intro L' rho' h';cases r with
  | p x=>exact .p _ _ hr
  | own e es=>cases dY
  | hown cs=>cases dY
  | tu ys=>
   obtain⟨us,rfl,q1,q2⟩:=hr;refine .tu _ us (by simpa using q1) fun i c u hi hu=>?_;rw[ao]at hi;obtain⟨z,hz,rfl⟩:=az.1 hi;exact .p _ _ (q2 i z u hz hu)
 split at hq
 case h_2=>
  have cF:=(aJ.kill cZ).kill id;have tt:=cF.loose hC w' (fun k=>k=g0\/bH u1=some k) hf (fun k hk=>by
   have dead:∀i,(ax (ax (app s.h fz) cZ .none) id .none i).live->i≠id/\i≠cZ/\(app s.h fz i).live:=fun i li=>by
    rcases aD (ax (app s.h fz) cZ .none) id .none i with⟨rfl,h⟩ | ⟨h1,h⟩
    ·rw[h]at li;exact li.elim
    rw[h]at li;rcases aD (app s.h fz) cZ .none i with⟨rfl,h3⟩ | ⟨h2,h3⟩
    ·rw[h3]at li;exact li.elim
    rw[h3]at li;exact⟨h1,h2,li⟩
   have HH:∀i,(ax (ax (app s.h fz) cZ .none) id .none i).live->hasB w (ax (ax (app s.h fz) cZ .none) id .none i) (rho i) k->hasB w (app s.h fz i) (rho i) k:=fun i li hg=>cx (dead i li).2.1 (cx (dead i li).1 hg);rcases hk with rfl | hk
   ·exact⟨y8.2.1,fun i hi li cK=>(dead i li).1 (aJ.dj i id k hi eO (dead i li).2.2 yZ (HH i li cK) (.inl (by rw[eZ];rfl))),y8.2.2⟩
   exact⟨(om k hk).2.1,fun i hi li cK=>(dead i li).2.1 (aJ.dj i cZ k hi tR (dead i li).2.2 qW (HH i li cK) (.inl (by rw[<-Lq];exact hk))),(om k hk).2.2.1⟩)
  have e6:ax (ax (app s.h fz) cZ .none) id .none=app s.h (fz++[(cZ,.none),(id,.none)]):=by rw[bJ];rfl
  have tt:aU A V L S2 rho ⟨s.t,ax (ax (app s.h fz) cZ .none) id .none⟩ a w':=tt;rw[e6]at tt;exact hnext _ _ _ S2 rho _ w' hq (tt.value o.dst hd _ _ hval)
 rename_i bW;obtain⟨u1',Lr,kD,BJ⟩:=fM;obtain⟨hL,hb⟩:=hn _ _ _ hq;have xe:o.dst.getD 0≠id:=fun e=>hL (e▸eO);have DW:o.dst.getD 0≠cZ:=fun e=>hL (e▸tR);have Rj:g0<w'.heap.size:=bg y8.1 hf.size;obtain⟨w1,FB⟩:∃w1:World,w1={ w' with heap:=w'.heap.setIfInBounds g0 (.cells #[u0,u1] ty (0,0)) }:=⟨_,rfl⟩;have Rk:w1.heap[g0]?=some (.cells #[u0,u1] ty (0,0)):=by rw[FB];simp[Rj]
 have M6:∀k,k≠g0->w1.heap[k]?=w'.heap[k]?:=fun k hk=>by rw[FB];simp[fg,hk.symm]
 have Oa:w1.heap.size=w'.heap.size:=by rw[FB];simp
 have Rl:∀k,bH u1'=some k->k≠g0:=fun k hk=>by
  rcases (BJ k hk).2 with h | h
  ·exact (om k h).2.2.2
  have:=y8.1;omega
 have cF:=aJ.kill cZ;have tt:=cF.new hC (o.dst.getD 0) (.row e bW) (aJ.gT hd) hL (by
   show ax (app s.h fz) cZ .none (o.dst.getD 0)=_;rw[au _ _ DW,Gd fun p hp e=>hL (by rw[<-e];exact wU p hp),hb]) w1 (by rw[FB];exact hf.os) (by rw[FB];exact hf.tape) (by rw[FB];exact hf.output) (by rw[Oa];exact hf.size) (fun k=>bH u1=some k)
  (fun k hk K7=>by
   by_cases e:k=g0
   ·subst e;rw[Rk,k2]
   rw[M6 k e];exact hf.block k hk (fun h=>h.elim e K7))
  (fun k hk=>by
   refine⟨(om k hk).2.1,fun i hi li cK=>?_,(om k hk).2.2.1⟩;have fE:(ax (app s.h fz) cZ .none i).live:=li;rcases aD (app s.h fz) cZ .none i with⟨rfl,h⟩ | ⟨Ls,h⟩
   ·rw[h]at fE;exact fE.elim
   rw[h]at fE;exact Ls (aJ.dj i cZ k hi tR fE qW (cx Ls cK) (.inl (by rw[<-Lq];exact hk))))
  u1' (fun k hk=>by rw[Oa];exact⟨(BJ k hk).1,(BJ k hk).2.symm⟩)
  (fun T=>by
   show an A.C.P w1 (ay S2 w1) e bW (ax rho (o.dst.getD 0) u1' (o.dst.getD 0));rw[ak];exact kD.bA (fun k hk=>M6 k (Rl k hk)) (fun x u hx=>hx.mono (fun _ h=>h) fun k hk=>M6 k fun e=>y8.2.1 (e▸hk)))
 have Ob:(ax (app s.h fz) cZ .none) id=.eN ty [c,.ow cZ]:=by rw[au _ _ bO,DY]
 have IW:ax rho (o.dst.getD 0) u1' id=.pointer (some ⟨g0,0,none⟩):=by rw[au _ _ xe.symm,eZ]
 have xj:=tt.write hC id (.inl eO) (by show ((ax (app s.h fz) cZ .none) id).live;rw[Ob];trivial) (.eN ty [p9 ch id c,.ow (o.dst.getD 0)]) (fun _ h=>by cases h) w' (by rw[FB]) (by rw[FB]) (by rw[FB]) Oa.symm
  (fun k hk=>(M6 k fun e=>hk (by rw[IW,e];rfl)).symm)
  (fun T=>by
   refine⟨g0,_,IW,Lr,rfl,fun j x u hj hu=>?_⟩
   match j,hj,hu with
   | 0,hj,hu=>
    cases hj;cases ch with
    | true=>
     cases hu;exact⟨rfl,.bx id 0 _ fun _=>⟨.inl eO,g0,IW,rfl⟩⟩
    | false=>
     cases hu;exact⟨o0,(l0.bA (S':=S2) (w':=w') (L':=fun i=>L i\/i=o.dst.getD 0) (rho':=ax rho (o.dst.getD 0) u1') (h':=ax (ax (app s.h fz) cZ .none) id (.eN ty [p9 false id c,.ow (o.dst.getD 0)])) ⟨fun _ h=>h,fun k hk=>hf.block k (aJ.st k hk) (fun h=>h.elim (fun e=>y8.2.1 (e▸hk)) (fun h=>(om k h).2.1 hk)),fun j hj=>by
       rcases aD (ax (app s.h fz) cZ .none) id (.eN ty [p9 false id c,.ow (o.dst.getD 0)]) j with⟨rfl,h⟩ | ⟨M7,h⟩
       ·exact⟨by rw[DY];trivial,fun hl=>⟨.inl hl,au _ _ xe.symm⟩⟩
       ·rw[h]at hj;rcases aD (app s.h fz) cZ .none j with⟨rfl,h3⟩ | ⟨wR,h3⟩
        ·rw[h3]at hj;exact hj.elim
        rw[h3]at hj;exact⟨hj,fun hl=>⟨.inl hl,au _ _ fun e=>hL (e▸hl)⟩⟩,fun j e2 hj=>by
       rcases aD (ax (app s.h fz) cZ .none) id (.eN ty [p9 false id c,.ow (o.dst.getD 0)]) j with⟨rfl,h⟩ | ⟨M7,h⟩
       ·rw[h]at hj;cases hj
       rw[h]at hj;rcases aD (app s.h fz) cZ .none j with⟨rfl,h3⟩ | ⟨wR,h3⟩
       ·rw[h3]at hj;cases hj
       rw[h3]at hj;exact hj⟩)⟩
   | 1,hj,hu=>
    cases hj;cases hu;obtain⟨i0,Sx,Fy,_,hown,_⟩:=kD;refine⟨?_,.ow _ _ fun _=>⟨.inr rfl,(ak _ _ _).symm⟩⟩;obtain⟨a0,c0,IJ⟩:=bP hown;rw[IJ];rfl
   | n+2,hj,hu=>cases hj)
 have e6:ax (ax (app s.h fz) cZ .none) id (.eN ty [p9 ch id c,.ow (o.dst.getD 0)])=app s.h (fz++[(cZ,.none),(id,.eN ty [p9 ch id c,.ow (o.dst.getD 0)])]):=by rw[bJ];rfl
 have xj:aU A V (fun i=>L i\/i=o.dst.getD 0) S2 (ax rho (o.dst.getD 0) u1') ⟨s.t,ax (ax (app s.h fz) cZ .none) id (.eN ty [p9 ch id c,.ow (o.dst.getD 0)])⟩ a w':=xj;rw[e6]at xj;exact hnext _ _ _ S2 (ax rho (o.dst.getD 0) u1') _ w' hq (xj.value o.dst hd _ _ hval)
theorem Gf{o:Oper}(c:Call)(g:Operand)(aq:o.op=.call c)(hc:c.callee=.value g):eD A o:=by
 intro V L S rho s a w K next Q hC sim hV hd hq hn hnext
 obtain⟨callee,args,argTypes⟩:=c;simp only at hc;subst hc;simp only[aZ,aq,dk]at hq;have hg:=aH sim g fun j hj=>hV j (by simp[aq,Op.operands,Call.operands,hj]);have hargs:∀(S2:Nat->Prop) (h2:Nat->AB),aU A V L S2 rho ⟨s.t,h2⟩ a w->∀x∈args.toList,aE S2 w A.C.P L rho h2 (ev s.t x) (a.eval x):=fun S2 h2 aJ x hx=>aH aJ x fun j hj=>hV j (by simp[aq,Op.operands,Call.operands];rw[<-hj];exact .inr (bD.1 hx));have tq:∀(S2:Nat->Prop) (h2:Nat->AB),aU A V L S2 rho ⟨s.t,h2⟩ a w->∀(i:Nat) x v,(args.toList.map (ev s.t))[i]?=some x->(args.map a.eval).toList[i]?=some v->aE S2 w A.C.P L rho h2 x v:=by
  intro S2 h2 aJ i x v hx hv;rw[ao]at hx;obtain⟨y,hy,rfl⟩:=az.1 hx;rw[qO,ao,hy]at hv;simp at hv;rw[<-hv];exact hargs S2 h2 aJ y (aj hy)
 split at hq
 case h_2=>exact hq.elim
 rename_i f cap PR;obtain⟨us,he,hl,_⟩:=mQ PR hg
 have AJ : (∀ (S2 : Nat → Prop) (h2 : Nat → AB), aU A V L S2 rho ⟨s.t, h2⟩ a w → ∀ (i : Nat) x v, (args.toList.map (ev s.t) ++ cap)[i]? = some x → (args.map a.eval ++ us).toList[i]? = some v → aE S2 w A.C.P L rho h2 x v) ∧ ((∃ fn : Func, A.C.P.funcs[f]? = some fn ∧ (fn.name == "runtime.NumGoroutine") = false ∧ fn.body.isNone = false) → (execOp a.eval o).run A.C.P w = .ok (.enter f (args.map a.eval ++ us)) w) := by
  refine⟨fun S2 h2 aJ i x v hx hv=>?_,fun hfn=>?_⟩
  ·rw[n5]at hv;by_cases hi:i<args.size
   ·rw[bQ (by simpa using hi)]at hx;rw[bQ (by simpa using hi)]at hv;exact tq S2 h2 aJ i x v hx hv
   rw[bY (by simp;omega)]at hx;rw[bY (by simp;omega)]at hv;simp only[aB,gx,qO]at hx hv;have xd:=aH aJ g fun j hj=>hV j (by simp[aq,Op.operands,Call.operands,hj]);obtain⟨Sy,j6,_,jb⟩:=mQ PR xd;rw[he]at j6;injection j6 with _ _ j6;subst j6;exact jb _ x v hx (by simpa using hv)
  simp[execOp,aq,resolve,he,Deferred.ofValue,invoke,j9 hfn]
 split at hq
 ·exact B3 hC sim hd hn hnext f _ (args.map a.eval++us) (by simp[hl]) AJ.1 AJ.2 hq
 exact B4 hC sim hd hn hnext f _ (args.map a.eval++us) (by simp[hl]) AJ.1 AJ.2 hq
end Go.AM
namespace Go.AM
open Go.RowKit
def Ext(h h':Nat->AB):Prop:=∀id,h id=.none\/h' id=h id
variable {h':Nat->AB} {id:Nat} {e:TypeId}
theorem Ext.row{h:Nat->AB}(H:Ext h h'){es:List (List PV)}(m:h id=.row e es):h' id=.row e es:=by
 rcases H id with u | u
 ·rw[u]at m;cases m
 rw[u,m]
theorem Ext.f_{h:Nat->AB}(H:Ext h h'){es:List (List PV)}(m:h id=.f_ es):h' id=.f_ es:=by
 rcases H id with u | u
 ·rw[u]at m;cases m
 rw[u,m]
theorem Ext.box{h:Nat->AB}(H:Ext h h'){cs:List AV}(m:h id=.box cs):h' id=.box cs:=by
 rcases H id with u | u
 ·rw[u]at m;cases m
 rw[u,m]
theorem Ext.aA{h:Nat->AB}(H:Ext h h'){cs:List HC}(m:h id=.aA cs):h' id=.aA cs:=by
 rcases H id with u | u
 ·rw[u]at m;cases m
 rw[u,m]
theorem Ext.eN{h:Nat->AB}(H:Ext h h'){z:TypeId}{cs:List AV}(m:h id=.eN z cs):h' id=.eN z cs:=by
 rcases H id with u | u
 ·rw[u]at m;cases m
 rw[u,m]
theorem Ext.jt{h:Nat->AB}(H:Ext h h'){cs:List PV}(m:h id=.jt cs):h' id=.jt cs:=by
 rcases H id with u | u
 ·rw[u]at m;cases m
 rw[u,m]
theorem Ext.map{h:Nat->AB}(H:Ext h h'){mk:MK}{es:List (Value×PV)}(m:h id=.map mk es):h' id=.map mk es:=by
 rcases H id with u | u
 ·rw[u]at m;cases m
 rw[u,m]
theorem Ext.iter{h:Nat->AB}(H:Ext h h'){mk:MK}{es:List (Value×Value)}{k:Nat}{c:Option (Value×Value)}(m:h id=.iter mk es k c):h' id=.iter mk es k c:=by
 rcases H id with h | h
 ·rw[h]at m;cases m
 rw[h];exact m
theorem Ext.cell{h:Nat->AB}(H:Ext h h'){u:Array Value}{z:TypeId}{a:AV}(D:h id=.cell u z a):h' id=.cell u z a:=by
 rcases H id with m | m
 ·rw[D]at m;cases m
 rw[m,D]
theorem Ext.ai{h:Nat->AB}(H:Ext h h'){es:List (List HX)}(m:h id=.ai e es):h' id=.ai e es:=by
 rcases H id with u | u
 ·rw[u]at m;cases m
 rw[u,m]
theorem B5{h:Nat->AB}(H:Ext h h'){a:AV}{n:Nat}(m:hlen h a=some n):hlen h' a=some n:=by
 unfold hlen at m ⊢;split at m
 ·rename_i id;split at m
  ·rename_i e es u;rw[H.ai u];exact m
  cases m
 ·rename_i id lo hi;split at m
  ·rename_i e es u;rw[H.row u];exact m
  cases m
 cases m
theorem y9{h:Nat->AB}(H:Ext h h'){a:AV}{ys:List (List HX)}(m:nd h e a=some ys):nd h' e a=some ys:=by
 cases a with
 | ow id=>
  unfold nd at m ⊢;simp only at m ⊢;cases hr:h id with
  | ai e' es=>rw[hr]at m;rw[H.ai hr];exact m
  | _=>rw[hr]at m;cases m
 | _=>cases m
theorem xl{h:Nat->AB}(H:Ext h h'){a:AV}{K:List (List PV)->Prop}(m:dV h a K):nd h' e a=none:=by
 unfold dV at m;unfold nd;split at m
 ·rfl
 ·rfl
 ·rename_i id;simp only;split at m
  ·rename_i u;rw[H.row u]
  ·rename_i u;rw[H.f_ u]
  exact m.elim
 exact m.elim
theorem B6{h:Nat->AB}(H:Ext h h'){a:AV}{K:List (List PV)->Prop}(m:dV h a K):hlen h' a=none:=by
 unfold dV at m;unfold hlen;split at m
 ·rfl
 ·rfl
 ·rename_i id;simp only;split at m
  ·rename_i u;rw[H.row u]
  ·rename_i u;rw[H.f_ u]
  exact m.elim
 exact m.elim
theorem jC{h:Nat->AB}(H:Ext h h'){a:AV}(m:kL h a=true):kL h' a=true:=by
 cases a with
 | p x=>cases x<;>exact m
 | nl=>rfl
 | ow id=>
  unfold kL at m ⊢;simp only at m ⊢;split at m
  ·rename_i u;rw[H.row u]
  ·rename_i u;rw[H.ai u]
  ·rename_i u;rw[H.f_ u]
  ·rename_i u;rw[H.map u]
  cases m
 | bx id off=>
  unfold kL at m ⊢;simp only at m ⊢;split at m
  ·cases m
  rename_i D;rcases H id with z | z
  ·exact absurd z (by simpa using D)
  rw[z];split
  ·rename_i I;exact absurd I (by simpa using D)
  rfl
 | vw id lo hi=>
  unfold kL at m ⊢;simp only at m ⊢;split at m
  ·rename_i u;rw[H.row u]
  cases m
 | ifp t a=>exact m
 | rp id i off=>
  unfold kL at m ⊢;simp only at m ⊢;split at m
  ·rename_i u;rw[H.row u]
  ·rename_i u;rw[H.ai u]
  cases m
 | fn f cap=>rfl
 | tu xs=>exact m
 | st xs=>exact m
 | junk=>exact m
theorem tS{h:Nat->AB}(H:Ext h h'){a:AV}{K:PV->List (Nat×AB)->Prop}(m:iC h a K):∃x fz,K x fz/\∀u:PV->List (Nat×AB)->Prop,u x fz->iC h' a u:=by
 unfold iC at m;split at m
 ·exact⟨_,_,m,fun u h=>h⟩
 ·exact⟨_,_,m,fun u h=>h⟩
 ·split at m
  ·rename_i z;exact⟨_,_,m,fun u h=>by simp only[iC,H.row z];exact h⟩
  ·rename_i z;exact⟨_,_,m,fun u h=>by simp only[iC,H.f_ z];exact h⟩
  exact m.elim
 ·split at m
  ·rename_i z;split at m
   ·rename_i D;exact⟨_,_,m,fun u h=>by simp only[iC,H.box z,D];exact h⟩
   exact m.elim
  ·rename_i z;exact⟨_,_,m,fun u h=>by simp only[iC,H.jt z];exact h⟩
  exact m.elim
 exact m.elim
theorem tT{h:Nat->AB}(H:Ext h h'):∀{as:List AV} {K:List PV->List (Nat×AB)->Prop},pZ h as K->∃xs fz,K xs fz/\∀u:List PV->List (Nat×AB)->Prop,u xs fz->pZ h' as u:=by
 intro as
 induction as with
 | nil=>intro K m;exact⟨_,_,m,fun u h=>h⟩
 | cons a as ih=>
  intro K m;unfold pZ at m;obtain⟨x,fz,m,z⟩:=tS H m;obtain⟨xs,jr,m,D⟩:=ih m;refine⟨_,_,m,fun u h=>?_⟩;unfold pZ;exact z _ (D _ h)
theorem e9{h:Nat->AB}(H:Ext h h'){a:AV}{K:PV->List (Nat×AB)->Prop}(m:g_ h a K):∃x fz,K x fz/\∀u:PV->List (Nat×AB)->Prop,u x fz->g_ h' a u:=by
 unfold g_ at m;split at m
 ·obtain⟨xs,fz,m,z⟩:=tT H m;exact⟨_,_,m,fun u h=>z _ h⟩
 rename_i D;obtain⟨x,fz,m,z⟩:=tS H m;refine⟨x,fz,m,fun u h=>?_⟩;unfold g_;split
 ·exact absurd rfl (D _ _)
 exact z _ h
theorem rS{h:Nat->AB}(H:Ext h h'){a:AV}{K:List (List PV)->Prop}(m:dV h a K):∃es,K es/\∀u:List (List PV)->Prop,u es->dV h' a u:=by
 unfold dV at m;split at m
 ·exact⟨_,m,fun u h=>h⟩
 ·exact⟨_,m,fun u h=>h⟩
 ·split at m
  ·rename_i z;exact⟨_,m,fun u h=>by simp only[dV,H.row z];exact h⟩
  ·rename_i z;exact⟨_,m,fun u h=>by simp only[dV,H.f_ z];exact h⟩
  exact m.elim
 exact m.elim
variable {rho:Operand->AV}
theorem B7{h:Nat->AB}(H:Ext h h'){I:List (Nat×Nat×Bool)}:∀{u:List (Nat×Operand)} {cs:List PV} {K:List PV->List (Nat×AB)->Prop},gd h I rho u cs K->∃x fz,K x fz/\∀D:List PV->List (Nat×AB)->Prop,D x fz->gd h' I rho u cs D:=by
 intro u
 induction u with
 | nil=>intro cs K m;exact⟨_,_,m,fun D h=>h⟩
 | cons p u ih=>
  intro cs K m;obtain⟨i,x⟩:=p;unfold gd at m;split at m
  ·rename_i J;obtain⟨y,fz,m,N⟩:=e9 H m;split at m
   ·rename_i ys O;split at m
    ·rename_i R;obtain⟨z,U,m,W⟩:=ih m;refine⟨z,fz++U,m,fun D h=>?_⟩;simp only[gd,J];refine N _ ?_;simp only[O,R];exact W _ h
    exact m.elim
   exact m.elim
  exact m.elim
theorem tU{h:Nat->AB}(H:Ext h h'){U:List (Nat×Nat×Bool)}:∀{I:List (Nat×Operand)} {cs:List AV} {K:List AV->Prop},gf h U rho I cs K->∃z,K z/\∀u:List AV->Prop,u z->gf h' U rho I cs u:=by
 intro I
 induction I with
 | nil=>intro cs K m;exact⟨cs,m,fun u h=>h⟩
 | cons p I ih=>
  intro cs K m;obtain⟨i,x⟩:=p;unfold gf at m;split at m
  ·rename_i W;split at m
   ·rename_i ys J;split at m
    case h_2=>exact m.elim
    rename_i D;obtain⟨z,N,O⟩:=ih m;refine⟨z,N,fun u R=>?_⟩;unfold gf;simp only[W,J,D];exact O u R
   rename_i J;split at m
   ·rename_i D;obtain⟨z,N,O⟩:=ih m;refine⟨z,N,fun u R=>?_⟩;unfold gf;simp only[aw]at D;simp only[W,J,D.1.1,D.1.2,jC H D.2,er];exact O u R
   exact m.elim
  exact m.elim
theorem B8{h:Nat->AB}(H:Ext h h'){b:Bool}{a:AV}{K:PV->List (Nat×AB)->Prop}(u:qa b h a K):∃x fz,K x fz/\∀m:PV->List (Nat×AB)->Prop,m x fz->qa b h' a m:=by
 unfold qa at u;split at u
 ·exact⟨_,_,u,fun m h=>h⟩
 rename_i z;obtain⟨x,fz,D,I⟩:=e9 H u;refine⟨x,fz,D,fun m h=>?_⟩;unfold qa;split
 ·exact (z rfl rfl).elim
 exact I m h
theorem rT{h:Nat->AB}(H:Ext h h'){b:Bool}{size:Nat}:∀{u:List (Nat×Operand)} {cs:List (List PV)} {K:List (List PV)->List (Nat×AB)->Prop},eC b h size rho u cs K->∃x fz,K x fz/\∀D:List (List PV)->List (Nat×AB)->Prop,D x fz->eC b h' size rho u cs D:=by
 intro u
 induction u with
 | nil=>intro cs K m;exact⟨_,_,m,fun D h=>h⟩
 | cons p u ih=>
  intro cs K m;obtain⟨i,x⟩:=p;unfold eC at m;obtain⟨y,fz,m,I⟩:=B8 H m;split at m
  ·rename_i ys J;split at m
   ·rename_i N;obtain⟨z,O,m,R⟩:=ih m;refine⟨z,fz++O,m,fun D h=>?_⟩;simp only[eC];refine I _ ?_;simp only[J,N];exact R _ h
   exact m.elim
  exact m.elim
theorem B9{h:Nat->AB}(H:Ext h h'){md:Nat->Bool}:∀{as:List AV} {j:Nat} {K:List Arg->List (Nat×AB)->List (Nat×AB)->Prop},eB md h j as K->∃xs ids fz,K xs ids fz/\∀z:List Arg->List (Nat×AB)->List (Nat×AB)->Prop,z xs ids fz->eB md h' j as z:=by
 intro as
 induction as with
 | nil=>intro j K m;exact⟨_,_,_,m,fun z h=>h⟩
 | cons a as ih=>
  intro j K m;unfold eB at m;split at m
  ·rename_i I;obtain⟨y,fz,m,N⟩:=e9 H m;obtain⟨xs,ids,J,m,u⟩:=ih m;refine⟨_,_,_,m,fun z h=>?_⟩;simp only[eB,I];exact N _ (u _ h)
  rename_i I;split at m
  ·split at m
   ·rename_i D;obtain⟨xs,ids,J,m,u⟩:=ih m;refine⟨_,_,_,m,fun z h=>?_⟩;simp only[eB,I,H.row D];exact u _ h
   ·rename_i D;obtain⟨xs,ids,J,m,u⟩:=ih m;refine⟨_,_,_,m,fun z h=>?_⟩;simp only[eB,I,H.f_ D];exact u _ h
   ·rename_i D;obtain⟨xs,ids,J,m,u⟩:=ih m;refine⟨_,_,_,m,fun z h=>?_⟩;simp only[eB,I,H.map D];exact u _ h
   exact m.elim
  ·obtain⟨xs,ids,J,m,u⟩:=ih m;refine⟨_,_,_,m,fun z h=>?_⟩;simp only[eB,I];exact u _ h
  ·split at m
   ·rename_i D;split at m
    ·rename_i O;obtain⟨xs,ids,J,m,u⟩:=ih m;refine⟨_,_,_,m,fun z h=>?_⟩;simp only[eB,I,H.box D,O];exact u _ h
    exact m.elim
   ·rename_i D;obtain⟨xs,ids,J,m,u⟩:=ih m;refine⟨_,_,_,m,fun z h=>?_⟩;simp only[eB,I,H.aA D];exact u _ h
   exact m.elim
  exact m.elim
variable {d:Nat} {as:List AV}
theorem y_{C:Ctx}{h:Nat->AB}(H:Ext h h'){f:FuncId}{K:KK}(m:jY C h d f as K):∃v e n,K v e n/\∀u:KK,u v e n->jY C h' d f as u:=by
 unfold jY at m;obtain⟨xs,ids,fz,⟨r,fin,D,m⟩,I⟩:=B9 H m;split at m
 ·rename_i J;split at m
  ·rename_i N;split at m
   ·rename_i z;refine⟨_,_,_,m,fun u h=>?_⟩;unfold jY;refine I _ ⟨r,fin,D,?_⟩;simp only[J,N,z];exact h
   rename_i z;refine⟨_,_,_,m,fun u h=>?_⟩;unfold jY;refine I _ ⟨r,fin,D,?_⟩;simp only[J,N,z];exact h
  exact m.elim
 exact m.elim
theorem ju.ext{h:Nat->AB}(H:Ext h h'){a:AV}{x:PV}(m:ju h a x):ju h' a x:=by
 cases m with
 | p=>exact .p _
 | nl=>exact .nl
 | row id e es hr=>exact .row id e es (H.row hr)
 | f_ id es hr=>exact .f_ id es (H.f_ hr)
 | ai id e es ps hr hp=>exact .ai id e es ps (H.ai hr) hp
theorem jZ.ext{h:Nat->AB}(H:Ext h h'){xs:List PV}(m:jZ h as xs):jZ h' as xs:=by
 induction m with
 | nil=>exact .nil
 | cons h1 _ ih=>exact .cons (h1.ext H) ih
theorem View.ext{h:Nat->AB}(H:Ext h h'){a:AV}{x:PV}(m:View h a x):View h' a x:=by
 cases m with
 | one h1=>exact .one (h1.ext H)
 | box id off cs xs hb hx=>exact .box id off cs xs (H.box hb) (hx.ext H)
 | jt id off xs hb=>exact .jt id off xs (H.jt hb)
theorem nM.ext{h:Nat->AB}(H:Ext h h'){xs:List PV}(m:nM h as xs):nM h' as xs:=by
 induction m with
 | nil=>exact .nil
 | cons h1 _ ih=>exact .cons (h1.ext H) ih
theorem za{h:Nat->AB}(H:Ext h h'):∀{as:List AV},td (cY h) as=true->td (cY h') as=true:=by
 intro as
 induction as with
 | nil=>intro h;cases h
 | cons a as ih=>
  intro u;unfold td at u ⊢;split at u
  ·rename_i m;have:cY h' a=true:=by
    unfold cY at m ⊢;split at m
    ·split at m
     ·rename_i hb;simp only[H.box hb];exact m
     cases m
    ·split at m
     ·rename_i hb;simp only[H.ai hb]
     cases m
    cases m
   rw[this]
  cases cY h' a with
  | true=>rfl
  | false=>exact ih u
theorem B_{h:Nat->AB}(H:Ext h h'){a:AV}{K:PV->List (Nat×AB)->Prop}(z:cY h a=false)(u:g_ h a K):cY h' a=false:=by
 cases a with
 | ow id=>
  simp only[g_,iC]at u;simp only[cY]at z ⊢;split at u
  ·rename_i m;rw[H.row m]
  ·rename_i m;rw[H.f_ m]
  exact u.elim
 | bx id off=>
  simp only[g_,iC]at u;simp only[cY]at z ⊢;split at u
  ·rename_i m;rw[m]at z;rw[H.box m];exact z
  ·rename_i m;rw[H.jt m]
  exact u.elim
 | _=>rfl
theorem zc{h:Nat->AB}(H:Ext h h'){md:Nat->Bool}:∀{as:List AV} {j:Nat} {K:List Arg->List (Nat×AB)->List (Nat×AB)->Prop},eB md h j as K->td (cY h) as=false->td (cY h') as=false:=by
 intro as
 induction as with
 | nil=>intro _ _ _ _;rfl
 | cons a as ih=>
  intro j K m z;unfold td at z ⊢;split at z
  ·cases z
  rename_i D;have:cY h' a=false/\∃(j:Nat) (K:List Arg->List (Nat×AB)->List (Nat×AB)->Prop),eB md h j as K:=by
   unfold eB at m;split at m
   ·obtain⟨x,fz,I,_⟩:=e9 (fun _=>.inr rfl) m;exact⟨B_ H D m,_,_,I⟩
   split at m
   ·rename_i id;split at m
    ·rename_i u;exact⟨by simp only[cY];rw[H.row u],_,_,m⟩
    ·rename_i u;exact⟨by simp only[cY];rw[H.f_ u],_,_,m⟩
    ·rename_i u;exact⟨by simp only[cY];rw[H.map u],_,_,m⟩
    exact m.elim
   ·exact⟨rfl,_,_,m⟩
   ·rename_i id;split at m
    ·rename_i u;split at m
     ·refine⟨?_,_,_,m⟩;simp only[cY]at D ⊢;rw[u]at D;rw[H.box u];exact D
     exact m.elim
    ·rename_i u;exact⟨by simp only[cY];rw[H.aA u],_,_,m⟩
    exact m.elim
   exact m.elim
  obtain⟨J,j',K',N⟩:=this;rw[J];exact ih N z
theorem zf{h:Nat->AB}(H:Ext h h'){c:AV}(m:pe h c=true):pe h' c=true:=by
 unfold pe at m ⊢;split at m
 ·rfl
 ·rfl
 ·split at m
  ·rename_i u;rw[H.row u]
  cases m
 ·rfl
 cases m
theorem Ca{C:Ctx}{h:Nat->AB}(H:Ext h h'){f:FuncId}{K:KK}(m:rB C h f as K):∃v e n,K v e n/\∀u:KK,u v e n->rB C h' f as u:=by
 unfold rB at m;split at m
 ·split at m
  ·rename_i hb z;obtain⟨x,D,I,J,N,O,R⟩:=m;refine⟨_,_,_,R,fun u U=>?_⟩;unfold rB;simp only[H.box hb,H.row z];exact⟨x,D,I,fun c W=>zf H (J c W),N,O,U⟩
  exact m.elim
 exact m.elim
theorem zg{C:Ctx}{h:Nat->AB}(H:Ext h h'){f:FuncId}{K:KK}(m:j3 C h d f as K):∃v e n,K v e n/\∀u:KK,u v e n->j3 C h' d f as u:=by
 unfold j3 at m;split at m
 ·rename_i N;have J:td (cY h') as=false:=zc H (by unfold jY at m;exact m) N;obtain⟨v,e,n,z,D⟩:=y_ H m;exact⟨v,e,n,z,fun u I=>by unfold j3;rw[J];exact D u I⟩
 rename_i N;have J:=za H N;split at m
 ·rename_i O;obtain⟨xs,r,z,D,R,U⟩:=m;exact⟨_,_,_,U,fun u I=>by unfold j3;rw[J,O];exact⟨xs,r,z.ext H,D,R,I⟩⟩
 rename_i O;obtain⟨v,e,n,z,D⟩:=Ca H m;exact⟨v,e,n,z,fun u I=>by unfold j3;rw[J,O];exact D u I⟩
theorem Cb{C:Ctx}{h:Nat->AB}(H:Ext h h'){f:FuncId}{K:KK}(m:rC C h f as K):∃v e n,K v e n/\∀u:KK,u v e n->rC C h' f as u:=by
 unfold rC at m;split at m
 ·split at m
  ·rename_i hb z;split at m
   ·rename_i ys D;obtain⟨I,J,r,N,O,R,U⟩:=m;refine⟨_,_,_,U,fun u W=>?_⟩;unfold rC;simp only[hb,H.box z,D];exact⟨I,J,r,N,O,R,W⟩
   exact m.elim
  exact m.elim
 exact m.elim
theorem zh{C:Ctx}{h:Nat->AB}(H:Ext h h'){f:FuncId}{K:KK}(u:kV C h d f as K):∃v e n,K v e n/\∀m:KK,m v e n->kV C h' d f as m:=by
 unfold kV at u;split at u
 ·rename_i z;obtain⟨v,e,n,D,I⟩:=zg H u;exact⟨v,e,n,D,fun m J=>by unfold kV;rw[z];exact I m J⟩
 rename_i z;obtain⟨v,e,n,D,I⟩:=Cb H u;exact⟨v,e,n,D,fun m J=>by unfold kV;rw[z];exact I m J⟩
theorem Cc{C:Ctx}{h:Nat->AB}(H:Ext h h'){f:FuncId}{K:KK}(m:p7 C h d f as K):∃v e n,K v e n/\∀u:KK,u v e n->p7 C h' d f as u:=by
 unfold p7 at m;split at m
 case h_2=>exact m.elim
 split at m
 case h_2=>exact m.elim
 rename_i R;split at m
 ·split at m
  case h_2=>exact m.elim
  rename_i z;split at m
  case h_2=>exact m.elim
  rename_i D;split at m
  case h_2=>exact m.elim
  rename_i U;split at m
  ·exact m.elim
  rename_i W;obtain⟨r,I,J,N,O,m⟩:=m;refine⟨_,_,_,m,fun u h=>?_⟩;simp only[p7,R,H.box z,D,H.row U,W];exact⟨r,I,J,N,O,h⟩
 ·split at m
  case h_2=>exact m.elim
  rename_i z;obtain⟨q,Y,m⟩:=m;split at m
  case h_2=>exact m.elim
  rename_i D;obtain⟨r,I,J,N,O,m⟩:=m;refine⟨_,_,_,m,fun u h=>?_⟩;simp only[p7,R,H.ai z];refine⟨q,Y,?_⟩;simp only[D];exact⟨r,I,J,N,O,h⟩
 exact m.elim
theorem Cd{C:Ctx}{h:Nat->AB}(H:Ext h h'){f:FuncId}{K:KK}(u:p8 C h d f as K):∃v e n,K v e n/\∀m:KK,m v e n->p8 C h' d f as m:=by
 unfold p8 at u;split at u
 ·rename_i z;obtain⟨v,e,n,D,I⟩:=zh H u;exact⟨v,e,n,D,fun m J=>by unfold p8;rw[z];exact I m J⟩
 rename_i z;obtain⟨v,e,n,D,I⟩:=Cc H u;exact⟨v,e,n,D,fun m J=>by unfold p8;rw[z];exact I m J⟩
theorem Ce{C:Ctx}{h:Nat->AB}(H:Ext h h'){f:FuncId}{K:KK}(m:p_ C h d f as K):∃v e n,K v e n/\∀u:KK,u v e n->p_ C h' d f as u:=by
 unfold p_ at m;split at m
 case h_2=>exact m.elim
 rename_i z;split at m
 case h_2=>exact m.elim
 rename_i D;split at m
 case h_2=>exact m.elim
 rename_i I;split at m
 case h_2=>exact m.elim
 rename_i J;obtain⟨xs,fz,⟨r,N,bW,O,m⟩,R⟩:=tT H m;split at m
 case h_2=>exact m.elim
 rename_i U;split at m
 ·refine⟨_,_,_,m,fun u h=>?_⟩;unfold p_;simp only[z,H.eN D,I,H.row J];refine R _ ⟨r,N,_,O,?_⟩;simp only[U];exact h
 refine⟨_,_,_,m,fun u h=>?_⟩;unfold p_;simp only[z,H.eN D,I,H.row J];refine R _ ⟨r,N,_,O,?_⟩;simp only[U];exact h
theorem jD{k:IntKind}{n:Int}{K:Value->Prop}(m:pd k n K):∃v,K v/\∀u:Value->Prop,u v->pd k n u:=by
 unfold pd at m;split at m
 ·rename_i h;exact⟨_,m.2,fun u z=>by simp only[pd,h];exact⟨m.1,z⟩⟩
 rename_i h;exact⟨_,m,fun u z=>by simp only[pd,h];exact z⟩
theorem xm{T:TypeId->Option TI}{op:BinOp}{t:TypeId}{x:PV}{K:Value->Prop}(m:By T op t x K):∃v,K v/\∀u:Value->Prop,u v->By T op t x u:=by
 unfold By at m;split at m
 case h_2=>exact m.elim
 split at m
 case h_1=>exact m.elim
 rename_i z;split at m
 case h_2=>exact m.elim
 rename_i D;split at m<;>first
  | exact m.elim
  | exact⟨_,m,fun u h=>by simp only[By,z,D];exact h⟩
theorem xn{T:TypeId->Option TI}{op:BinOp}{t:TypeId}{x y:PV}{K:Value->Prop}(m:na T op t x y K):∃v,K v/\∀u:Value->Prop,u v->na T op t x y u:=by
 unfold na at m;split at m
 ·split at m
  ·rename_i hs;exact⟨_,m.2,fun u h=>by simp only[na,hs];exact⟨m.1,h⟩⟩
  rename_i hs;split at m
  ·exact m.elim
  rename_i z;split at m<;>first
   | exact m.elim
   | (obtain⟨v,I,J⟩:=jD m;exact⟨v,I,fun u h=>by simp only[na,z,hs];exact J u h⟩)
   | (obtain⟨v,I,J⟩:=jD m.2;exact⟨v,I,fun u h=>by simp only[na,z,hs];exact⟨m.1,J u h⟩⟩)
   | exact⟨_,m,fun u h=>by simp only[na,z,hs];exact h⟩
   | exact⟨_,m.2,fun u h=>by simp only[na,z,hs];exact⟨m.1,h⟩⟩
 ·split at m<;>first
   | exact m.elim
   | exact⟨_,m,fun u h=>by simp only[na];exact h⟩
   | exact⟨_,m.2,fun u h=>by simp only[na];exact⟨m.1,h⟩⟩
 ·split at m
  ·rename_i D;split at m<;>first
    | exact m.elim
    | exact⟨_,m,fun u h=>by simp only[na,D];exact h⟩
  exact m.elim
 ·split at m
  ·rename_i D;split at m
   ·exact m.elim
   rename_i O;split at m
   ·split at m
    ·rename_i N;exact⟨_,m,fun u h=>by simp only[na,D,O,N];exact h⟩
    exact m.elim
   ·split at m
    ·rename_i N;exact⟨_,m,fun u h=>by simp only[na,D,O,N];exact h⟩
    exact m.elim
   exact m.elim
  exact m.elim
 exact m.elim
theorem nm{h:Nat->AB}(H:Ext h h'){C:Ctx}{t:TypeId}{x:Operand}{O R:Option Operand}{K:KK}(m:ef C rho h t x O R K):∃v e n,K v e n/\∀u:KK,u v e n->ef C rho h' t x O R u:=by
 simp only[ef]at m;split at m
 ·rename_i D;split at m
  ·rename_i I;split at m
   ·rename_i J N;exact⟨_,_,_,m.2,fun u h=>by simp only[ef,D,I,J,N];exact⟨m.1,h⟩⟩
   exact m.elim
  exact m.elim
 ·rename_i D;split at m
  ·exact m.elim
  rename_i I;obtain⟨z,fz,m,U⟩:=e9 H m;split at m
  ·split at m
   ·rename_i J N;refine⟨_,_,_,m.2,fun u h=>?_⟩;simp only[ef,D,I];refine U _ ?_;simp only[J,N];exact⟨m.1,h⟩
   exact m.elim
  exact m.elim
 exact m.elim
theorem Cf{C:Ctx}{t:TypeId}{z D:Option Operand}{e':TypeId}{es:List (List PV)}{K:KK}(m:nN C rho t z D id e' es K):∃v e n,K v e n/\∀u:KK,u v e n->nN C rho t z D id e' es u:=by
 unfold nN at m;split at m
 ·rename_i I;split at m
  ·rename_i J;split at m
   ·rename_i N O;exact⟨_,_,_,m.2,fun u h=>by simp only[nN,I,J,N,O];exact⟨m.1,h⟩⟩
   exact m.elim
  exact m.elim
 exact m.elim
theorem l6{C:Ctx}{o:Oper}{h:Nat->AB}(H:Ext h h'){K:KK}(u:aZ C o rho h K):∃v e n,K v e n/\∀N:KK,N v e n->aZ C o rho h' N:=by
 cases O:o.op<;>simp only[aZ,O]at u
 case move x=>exact⟨_,_,_,u,fun N h=>by simp only[aZ,O];exact h⟩
 case assign x=>exact⟨_,_,_,u,fun N h=>by simp only[aZ,O];exact h⟩
 case pick c a b=>
  split at u
  ·rename_i D;split at u
   ·exact⟨_,_,_,u,fun N h=>by simp only[aZ,O,D];exact h⟩
   exact⟨_,_,_,u,fun N h=>by simp only[aZ,O,D];exact h⟩
  exact u.elim
 case alloc e=>
  split at u
  ·rename_i D;split at u
   ·rename_i I;exact⟨_,_,_,u,fun N h=>by simp only[aZ,O,D,I];exact h⟩
   rename_i I;exact⟨_,_,_,u,fun N h=>by simp only[aZ,O,D,I];exact h⟩
  exact u.elim
 case box e x=>
  split at u
  ·rename_i D;exact⟨_,_,_,u,fun N h=>by simp only[aZ,O,D];exact h⟩
  ·rename_i D;exact⟨_,_,_,u,fun N h=>by simp only[aZ,O,D];exact h⟩
  rename_i D mP;split at u
  ·rename_i I;have J:=jC H I;refine⟨_,_,_,u,fun N h=>?_⟩;simp only[aZ,O];cases M8:rho x with
   | p y=>
    cases y with
    | ag cs=>exact (D cs M8).elim
    | _=>rw[M8]at J h;simp only[J];exact h
   | st xs=>exact (mP xs M8).elim
   | _=>rw[M8]at J h;simp only[J];exact h
  exact u.elim
 case binOp op t x y t'=>
  split at u
  ·rename_i D I;obtain⟨v,J,R⟩:=xn u;exact⟨_,_,_,J,fun N h=>by simp only[aZ,O,D,I];exact R _ h⟩
  ·rename_i D I;obtain⟨v,J,R⟩:=xm u;exact⟨_,_,_,J,fun N h=>by simp only[aZ,O,D,I];exact R _ h⟩
  exact u.elim
 case unOp op t x=>
  split at u
  ·rename_i D;exact⟨_,_,_,u,fun N h=>by simp only[aZ,O,D];exact h⟩
  ·rename_i D;obtain⟨v,J,R⟩:=jD u;exact⟨_,_,_,J,fun N h=>by simp only[aZ,O,D];exact R _ h⟩
  exact u.elim
 case convert src dst x=>
  split at u
  ·rename_i D I J;obtain⟨v,Y,R⟩:=jD u;exact⟨_,_,_,Y,fun N h=>by simp only[aZ,O,D,I,J];exact R _ h⟩
  ·rename_i D I J;exact⟨_,_,_,u,fun N h=>by simp only[aZ,O,D,I,J];exact h⟩
  ·rename_i D I J;exact⟨_,_,_,u,fun N h=>by simp only[aZ,O,D,I,J];exact h⟩
  exact u.elim
 case nilCheck x=>
  split at u
  ·rename_i D;exact⟨_,_,_,u,fun N h=>by simp only[aZ,O,D];exact h⟩
  ·rename_i D;split at u
   ·rename_i I;exact⟨_,_,_,u,fun N h=>by simp only[aZ,O,D,H.box I];exact h⟩
   ·rename_i I;exact⟨_,_,_,u,fun N h=>by simp only[aZ,O,D,H.jt I];exact h⟩
   exact u.elim
  ·rename_i D;split at u
   ·rename_i I;exact⟨_,_,_,u,fun N h=>by simp only[aZ,O,D,H.row I];exact h⟩
   ·rename_i I;exact⟨_,_,_,u,fun N h=>by simp only[aZ,O,D,H.ai I];exact h⟩
   exact u.elim
  ·rename_i D;split at u
   ·rename_i I;exact⟨_,_,_,u,fun N h=>by simp only[aZ,O,D,H.cell I];exact h⟩
   exact u.elim
  exact u.elim
 case makeInterface t x=>
  split at u
  ·rename_i D;split at u
   ·rename_i I;exact⟨_,_,_,u,fun N h=>by simp only[aZ,O,D,I];exact h⟩
   exact u.elim
  rename_i D;split at u
  ·rename_i I;refine⟨_,_,_,u,fun N h=>?_⟩;simp only[aZ,O,I];generalize rho x=z at D h ⊢;cases z<;>first | exact absurd rfl (D _) | exact h
  exact u.elim
 case typeAssert x xt t ok=>
  cases ok with
  | true=>exact u.elim
  | false=>
   simp only at u;split at u
   ·rename_i D;split at u
    ·rename_i I J;exact⟨_,_,_,u,fun N h=>by simp only[aZ,O,D,I,J];exact h⟩
    exact u.elim
   exact u.elim
 case extract x i=>
  split at u
  ·rename_i D;split at u
   ·rename_i I;exact⟨_,_,_,u,fun N h=>by simp only[aZ,O,D,I];exact h⟩
   exact u.elim
  exact u.elim
 case load t x=>
  split at u
  ·exact u.elim
  rename_i U;split at u
  ·rename_i D;split at u
   ·rename_i I;split at u
    ·rename_i J;exact⟨_,_,_,u,fun N h=>by simp only[aZ,O,U,D,I,J];exact h⟩
    exact u.elim
   rename_i I;split at u
   ·exact⟨_,_,_,u,fun N h=>by simp only[aZ,O,U,D,I];exact h⟩
   exact u.elim
  ·rename_i D;split at u
   ·rename_i I;split at u
    ·rename_i J;split at u
     ·rename_i R Y;exact⟨_,_,_,u,fun N h=>by simp only[aZ,O,U,D,H.box I,J,R,Y];exact h⟩
     exact u.elim
    rename_i J;split at u
    ·rename_i R;exact⟨_,_,_,u,fun N h=>by simp only[aZ,O,U,D,H.box I,J,R];exact h⟩
    exact u.elim
   ·rename_i I;split at u
    ·rename_i J;split at u
     ·rename_i R;exact⟨_,_,_,u,fun N h=>by simp only[aZ,O,U,D,H.jt I,J,R];exact h⟩
     exact u.elim
    rename_i J;split at u
    ·rename_i R;exact⟨_,_,_,u,fun N h=>by simp only[aZ,O,U,D,H.jt I,J,R];exact h⟩
    exact u.elim
   exact u.elim
  ·rename_i D;split at u
   ·rename_i I;obtain⟨r,Z,u⟩:=u;split at u
    ·rename_i J;split at u
     ·rename_i R;exact⟨_,_,_,u,fun N h=>by simp only[aZ,O,U,D,H.row I];refine⟨r,Z,?_⟩;simp only[J,R];exact h⟩
     exact u.elim
    rename_i J;split at u
    ·rename_i R;exact⟨_,_,_,u,fun N h=>by simp only[aZ,O,U,D,H.row I];refine⟨r,Z,?_⟩;simp only[J,R];exact h⟩
    exact u.elim
   ·rename_i I;obtain⟨r,Z,u⟩:=u;split at u
    ·exact u.elim
    rename_i J;split at u
    ·rename_i R;exact⟨_,_,_,u,fun N h=>by simp only[aZ,O,U,D,H.ai I];refine⟨r,Z,?_⟩;simp only[J,R];exact h⟩
    exact u.elim
   exact u.elim
  ·rename_i D;split at u
   ·rename_i I J;exact⟨_,_,_,u,fun N h=>by simp only[aZ,O,U,D,H.cell I,J];exact h⟩
   exact u.elim
  exact u.elim
 case store t x y=>
  split at u
  ·exact u.elim
  rename_i U;split at u
  ·rename_i D;split at u
   ·rename_i I;split at u
    ·rename_i J;obtain⟨z,fz,u,W⟩:=e9 H u;split at u
     ·split at u
      ·rename_i R;refine⟨_,_,_,u,fun N h=>?_⟩;simp only[aZ,O,U,D,H.box I,J];refine W _ ?_;simp only[R];exact h
      exact u.elim
     exact u.elim
    rename_i J;split at u
    ·rename_i R;simp only[aw]at R;have Y:=jC H R.2;refine⟨_,_,_,u,fun N h=>?_⟩;simp only[aZ,O,U,D,H.box I,J,R.1.1,R.1.2,Y,er];exact h
    exact u.elim
   exact u.elim
  ·rename_i D;split at u
   ·rename_i I;obtain⟨r,Z,u⟩:=u;obtain⟨z,fz,u,W⟩:=e9 H u;split at u
    ·rename_i J;split at u
     ·rename_i R;refine⟨_,_,_,u,fun N h=>?_⟩;simp only[aZ,O,U,D,H.row I];refine⟨r,Z,W _ ?_⟩;simp only[J,R];exact h
     exact u.elim
    exact u.elim
   ·rename_i I;obtain⟨r,Z,u⟩:=u;split at u
    ·exact u.elim
    rename_i J;split at u
    ·rename_i R;simp only[aw]at R;have Y:=jC H R.2;refine⟨_,_,_,u,fun N h=>?_⟩;simp only[aZ,O,U,D,H.ai I];refine⟨r,Z,?_⟩;simp only[J,R.1.1,R.1.2,Y,er];exact h
    exact u.elim
   exact u.elim
  ·rename_i D;split at u
   ·rename_i I J;split at u
    ·rename_i R;simp only[aw]at R;have Y:=jC H R.2;refine⟨_,_,_,u,fun N h=>?_⟩;simp only[aZ,O,U,D,H.cell I,J,R.1,Y,er];exact h
    exact u.elim
   exact u.elim
  exact u.elim
 case fieldAddr t x f=>
  split at u
  ·rename_i U;split at u
   ·rename_i D;split at u
    ·rename_i I;exact⟨_,_,_,u,fun N h=>by simp only[aZ,O,U,D,I];exact h⟩
    ·rename_i id o' I;split at u
     ·exact u.elim
     rename_i bO;refine⟨_,_,_,u,fun N h=>?_⟩;simp only[aZ,O,U,D,I];rcases H id with R | R
     ·exact absurd R (by simpa using bO)
     rw[R];split
     ·rename_i Y;exact absurd Y (by simpa using bO)
     exact h
    ·rename_i I;split at u
     ·rename_i J;exact⟨_,_,_,u,fun N h=>by simp only[aZ,O,U,D,I,H.row J];exact h⟩
     ·rename_i J;exact⟨_,_,_,u,fun N h=>by simp only[aZ,O,U,D,I,H.ai J];exact h⟩
     exact u.elim
    exact u.elim
   exact u.elim
  exact u.elim
 case field t x f=>
  split at u
  ·rename_i U HI;split at u
   ·rename_i D;split at u
    ·split at u
     ·rename_i J;exact⟨_,_,_,u,fun N h=>by simp only[aZ,O,U,HI,D,J];exact h⟩
     exact u.elim
    split at u
    ·rename_i J;exact⟨_,_,_,u,fun N h=>by simp only[aZ,O,U,HI,D,J];exact h⟩
    exact u.elim
   exact u.elim
  exact u.elim
 case indexAddr t x ix=>
  split at u
  ·rename_i U HI;split at u
   ·exact u.elim
   rename_i D;split at u
   ·rename_i I;obtain⟨r,Z,u⟩:=u;split at u
    ·rename_i J;exact⟨_,_,_,u,fun N h=>by simp only[aZ,O,U,HI,D,I];refine⟨r,Z,?_⟩;simp only[J];exact h⟩
    exact u.elim
   ·rename_i I;split at u
    ·rename_i J;split at u
     ·rename_i R;exact⟨_,_,_,u.2,fun N h=>by simp only[aZ,O,U,HI,D,I,H.row J,R];exact⟨u.1,h⟩⟩
     exact u.elim
    ·rename_i J;split at u
     ·rename_i R;exact⟨_,_,_,u.2,fun N h=>by simp only[aZ,O,U,HI,D,I,H.ai J,R];exact⟨u.1,h⟩⟩
     exact u.elim
    ·rename_i J;obtain⟨r,Z,u⟩:=u;split at u
     ·rename_i R;exact⟨_,_,_,u,fun N h=>by simp only[aZ,O,U,HI,D,I,H.f_ J];refine⟨r,Z,?_⟩;simp only[R];exact h⟩
     exact u.elim
    exact u.elim
   ·rename_i I;split at u
    ·rename_i J;split at u
     ·rename_i R;exact⟨_,_,_,u.2,fun N h=>by simp only[aZ,O,U,HI,D,I,H.row J,R];exact⟨u.1,h⟩⟩
     exact u.elim
    exact u.elim
   exact u.elim
  exact u.elim
 case index t x ix=>
  split at u
  ·rename_i U D I;obtain⟨b,hb,u⟩:=u;exact⟨_,_,_,u,fun N h=>by simp only[aZ,O,U,D,I];exact⟨b,hb,h⟩⟩
  exact u.elim
 case slice t x lo hi mx=>
  cases mx with
  | some m=>exact u.elim
  | none=>
   simp only at u;split at u
   ·rename_i id hid;split at u
    ·rename_i e' es Z;rcases u with u | u
     ·obtain⟨v,e,n,u,W⟩:=Cf u;exact⟨v,e,n,u,fun N h=>by simp only[aZ,O,hid,H.row Z];exact .inl (W _ h)⟩
     obtain⟨v,e,n,u,W⟩:=nm H u;exact⟨v,e,n,u,fun N h=>by simp only[aZ,O,hid,H.row Z];exact .inr (W _ h)⟩
    rename_i bO;obtain⟨v,e,n,u,W⟩:=nm H u;refine⟨v,e,n,u,fun N h=>?_⟩;simp only[aZ,O,hid];split
    ·exact .inr (W _ h)
    exact W _ h
   rename_i bO;obtain⟨v,e,n,u,W⟩:=nm H u;refine⟨v,e,n,u,fun N h=>?_⟩;simp only[aZ,O]
   first
    | exact W _ h
    | (
      split
      ·rename_i id hid;exact absurd hid (bO id)
      exact W _ h)
 case makeMap t r=>
  cases r with
  | some _=>exact u.elim
  | none=>
   simp only at u;split at u
   ·rename_i U;split at u
    ·rename_i D;split at u
     ·rename_i I;exact⟨_,_,_,u,fun N h=>by simp only[aZ,O,U,D,I];exact h⟩
     exact u.elim
    exact u.elim
   exact u.elim
 case lookup t x i ck=>
  split at u
  case h_2=>exact u.elim
  rename_i U;split at u
  case h_2=>exact u.elim
  rename_i D I;split at u
  case h_2=>exact u.elim
  rename_i J;split at u
  ·rename_i R;split at u
   case h_2=>exact u.elim
   rename_i Y;split at u
   case h_2=>exact u.elim
   rename_i h6;split at u
   case h_2=>exact u.elim
   rename_i h7;obtain⟨r,Z,u⟩:=u;cases ck with
   | true=>exact⟨_,_,_,u,fun N h=>by simp only[aZ,O,U,D,I,J,R,H.map Y,h6,h7];exact⟨r,Z,h⟩⟩
   | false=>exact⟨_,_,_,u,fun N h=>by simp only[aZ,O,U,D,I,J,R,H.map Y,h6,h7];exact⟨r,Z,h⟩⟩
  ·rename_i R;split at u
   case h_2=>exact u.elim
   rename_i h6;split at u
   case h_2=>exact u.elim
   rename_i h7;obtain⟨r,Z,u⟩:=u;cases ck with
   | true=>exact⟨_,_,_,u,fun N h=>by simp only[aZ,O,U,D,I,J,R,h6,h7];exact⟨r,Z,h⟩⟩
   | false=>exact⟨_,_,_,u,fun N h=>by simp only[aZ,O,U,D,I,J,R,h6,h7];exact⟨r,Z,h⟩⟩
  exact u.elim
 case range t x=>
  split at u
  case h_2=>exact u.elim
  rename_i U;split at u
  case h_2=>exact u.elim
  rename_i D;exact⟨_,_,_,u,fun N h=>by simp only[aZ,O,U,D];exact h⟩
 case entry x=>
  split at u
  case h_2=>exact u.elim
  rename_i U;split at u
  case h_2=>exact u.elim
  rename_i D;exact⟨_,_,_,u,fun N h=>by simp only[aZ,O,U,H.iter D];exact h⟩
 case mapUpdate t x i y=>
  split at u
  case h_2=>exact u.elim
  rename_i U;split at u
  case h_2=>exact u.elim
  rename_i D;split at u
  case h_2=>exact u.elim
  rename_i J;split at u
  case h_2=>exact u.elim
  rename_i R;split at u
  case h_2=>exact u.elim
  rename_i Y;split at u
  case h_2=>exact u.elim
  rename_i h6;split at u
  case h_2=>exact u.elim
  rename_i h7;obtain⟨z,fz,u,W⟩:=e9 H u;split at u
  case h_2=>exact u.elim
  rename_i h8;refine⟨_,_,_,u,fun N h=>?_⟩;simp only[aZ,O,U,D,J,R,H.map Y,h6,h7];refine W _ ?_;simp only[h8];exact h
 case build t ps=>
  split at u
  ·rename_i U;split at u
   ·rename_i D;obtain⟨z,fz,u,W⟩:=B7 H u;exact⟨_,_,_,u,fun N h=>by simp only[aZ,O,U,D];exact W _ h⟩
   rename_i D;obtain⟨z,u,W⟩:=tU H u;exact⟨_,_,_,u,fun N h=>by simp only[aZ,O,U,D];exact W _ h⟩
  exact u.elim
 case buildSlice t len ps=>
  split at u
  ·rename_i U;split at u
   ·rename_i D;split at u
    ·rename_i I;split at u
     ·rename_i K9;split at u
      case h_2=>exact u.elim
      rename_i x hps;split at u
      case h_2=>exact u.elim
      rename_i J;simp only[aw]at J;refine⟨_,_,_,u,fun N h=>?_⟩;simp only[aZ,O,U,D,I,K9,hps,J.1,jC H J.2,er];exact h
     rename_i K9;split at u
     ·rename_i J;obtain⟨z,fz,u,W⟩:=rT H u;exact⟨_,_,_,u,fun N h=>by simp only[aZ,O,U,D,I,K9,J];exact W _ h⟩
     rename_i J;obtain⟨z,fz,u,W⟩:=rT H u;exact⟨_,_,_,u,fun N h=>by simp only[aZ,O,U,D,I,K9,J];exact W _ h⟩
    exact u.elim
   exact u.elim
  exact u.elim
 case makeSlice t n c=>
  split at u
  ·rename_i U D I;split at u
   ·rename_i J;split at u
    ·rename_i R;exact⟨_,_,_,u.2,fun N h=>by simp only[aZ,O,U,D,I,J,R];exact⟨u.1,h⟩⟩
    exact u.elim
   exact u.elim
  exact u.elim
 case makeFunc fn first cap=>
  cases fn with
  | func f=>
   simp only at u;split at u
   ·rename_i D;exact⟨_,_,_,u,fun N h=>by simp only[aZ,O,D];exact h⟩
   exact u.elim
  | _=>exact u.elim
 case call c=>
  split at u
  ·rename_i U;split at u
   ·rename_i D I;split at u
    ·rename_i J;split at u
     ·rename_i R;exact⟨_,_,_,u,fun N h=>by simp only[aZ,O,U,D,I,J,R];exact h⟩
     exact u.elim
    ·rename_i J;split at u
     ·rename_i m hm;exact⟨_,_,_,u,fun N h=>by simp only[aZ,O,U,D,I,J,B5 H hm];exact h⟩
     have hn:=B6 H u;obtain⟨es,u,W⟩:=rS H u;exact⟨_,_,_,u,fun N h=>by simp only[aZ,O,U,D,I,J,hn];exact W _ h⟩
    ·rename_i J;split at u
     ·rename_i R;split at u
      ·rename_i Y;exact⟨_,_,_,u,fun N h=>by simp only[aZ,O,U,D,I,J,R,H.map Y];exact h⟩
      exact u.elim
     ·rename_i R;exact⟨_,_,_,u,fun N h=>by simp only[aZ,O,U,D,I,J,R];exact h⟩
     exact u.elim
    exact u.elim
   exact u.elim
  ·rename_i U;split at u
   case h_2=>exact u.elim
   rename_i D I;split at u
   case h_2=>exact u.elim
   rename_i J;split at u
   case h_2=>exact u.elim
   rename_i R;split at u
   case h_2=>exact u.elim
   rename_i Y;split at u
   case h_2=>exact u.elim
   rename_i h6;split at u
   case h_2=>exact u.elim
   rename_i h7;exact⟨_,_,_,u.2,fun N h=>by simp only[aZ,O,U,D,I,J,R,Y,H.row h6,h7];exact⟨u.1,h⟩⟩
  ·rename_i U;split at u
   ·rename_i D;split at u
    ·rename_i I J;exact⟨_,_,_,u,fun N h=>by simp only[aZ,O,U,D,I,J];exact h⟩
    exact u.elim
   exact u.elim
  ·rename_i U;split at u
   ·rename_i D;split at u
    ·rename_i I J;exact⟨_,_,_,u,fun N h=>by simp only[aZ,O,U,D,I,J];exact h⟩
    exact u.elim
   ·rename_i D;split at u
    ·rename_i I J R;exact⟨_,_,_,u,fun N h=>by simp only[aZ,O,U,D,I,J,R];exact h⟩
    exact u.elim
   ·rename_i D;split at u
    ·rename_i I J R Y h6;exact⟨_,_,_,u,fun N h=>by simp only[aZ,O,U,D,I,J,R,Y,h6];exact h⟩
    exact u.elim
   exact u.elim
  ·rename_i U;split at u
   ·rename_i D I;split at u
    ·rename_i J R;split at u
     ·rename_i Y;split at u
      ·rename_i h6;split at u
       ·rename_i ys o_;split at u
        case h_2=>exact u.elim
        rename_i h7;split at u
        case h_2=>exact u.elim
        rename_i h8;split at u
        case h_2=>exact u.elim
        rename_i h9;refine⟨_,_,_,u.2,fun N h=>?_⟩;simp only[aZ,O,U,D,I,J,R,Y,h6,y9 H o_,h7,H.ai h8,h9];exact⟨u.1,h⟩
       have o_:=fun e=>xl (e:=e) H u;obtain⟨es,u,W⟩:=rS H u;split at u
       ·rename_i h7;refine⟨_,_,_,u.2,fun N h=>?_⟩;simp only[aZ,O,U,D,I,J,R,Y,h6,o_];refine W _ ?_;simp only[h7];exact⟨u.1,h⟩
       ·rename_i h7;split at u
        ·rename_i h8;split at u
         ·rename_i h9;refine⟨_,_,_,u.2,fun N h=>?_⟩;simp only[aZ,O,U,D,I,J,R,Y,h6,o_];refine W _ ?_;simp only[h7,H.row h8,h9];exact⟨u.1,h⟩
         exact u.elim
        ·rename_i h8;split at u
         ·rename_i h9;refine⟨_,_,_,u.2,fun N h=>?_⟩;simp only[aZ,O,U,D,I,J,R,Y,h6,o_];refine W _ ?_;simp only[h7,H.ai h8,h9];exact⟨u.1,h⟩
         exact u.elim
        exact u.elim
       exact u.elim
      exact u.elim
     exact u.elim
    exact u.elim
   exact u.elim
  ·rename_i U;split at u
   ·rename_i D;split at u
    ·rename_i I;obtain⟨v,e,n,u,W⟩:=Cd H u;exact⟨_,_,_,u,fun N h=>by simp only[aZ,O,U,D,I];exact W _ h⟩
    rename_i I;obtain⟨v,e,n,u,W⟩:=Ce H u;exact⟨_,_,_,u,fun N h=>by simp only[aZ,O,U,D,I];exact W _ h⟩
   exact u.elim
  exact u.elim
 all_goals exact u.elim
theorem D0(A:jR)(o:Oper):eD A o:=by
 cases u:o.op
 case move x=>exact FM x u
 case assign x=>exact BB x u
 case pick c x y=>exact FN c x y u
 case alloc e=>exact Dr e u
 case box e x=>exact Iz e x u
 case build t ps=>exact DH t ps u
 case buildSlice t n ps=>exact tl t n ps u
 case load t x=>exact FT t x u
 case store t x y=>exact Dv t x y u
 case nilCheck x=>exact wS x u
 case binOp op t x y t'=>exact Dj op t x y t' u
 case unOp op t x=>exact FR op t x u
 case makeInterface t x=>exact pg t x u
 case typeAssert x xt t ok=>
  cases ok with
  | false=>exact tf x xt t u
  | true=>intro V L S rho s a w K next Q hC z I J D;simp only[aZ,u]at D
 case convert s d x=>exact yF s d x u
 case makeFunc fn first cap=>
  cases fn with
  | func f=>exact wT f first cap u
  | _=>intro V L S rho s a w K next Q hC z I J D;simp only[aZ,u]at D
 case makeSlice t n c=>exact vh t n c u
 case makeMap t r=>
  cases r with
  | none=>exact yR t u
  | some r=>intro V L S rho s a w K next Q hC z I J D;simp only[aZ,u]at D
 case lookup t x i ck=>exact BQ t x i ck u
 case range t x=>exact DO t x u
 case entry x=>exact DP x u
 case mapUpdate t x i y=>exact vk t x i y u
 case slice t x lo hi mx=>
  cases mx with
  | none=>exact ok_slice t x lo hi u
  | some m=>intro V L S rho s a w K next Q hC z I J D;simp only[aZ,u]at D
 case fieldAddr t x f=>exact vd t x f u
 case field t x f=>exact Dl t x f u
 case indexAddr t x ix=>exact ve t x ix u
 case index t x ix=>exact Dm t x ix u
 case extract x i=>exact yC x i u
 case call c=>
  cases hc:c.callee with
  | value g=>exact Gf c g u hc
  | invoke r m=>intro V L S rho s a w K next Q hC z I J D;simp only[aZ,u,hc,dk,dK]at D
  | builtin b=>
   cases b
   case len=>exact IC c u hc
   case min=>exact ID c u hc
   case max=>exact IE c u hc
   case append=>exact BK c u hc
   case clear=>exact DQ c u hc
   all_goals (intro V L S rho s a w K next Q hC z I J D;simp only[aZ,u,hc,dk,dK]at D)
 all_goals (intro V L S rho s a w K next Q hC z I J D;simp only[aZ,u]at D)
end Go.AM
namespace Go.AM
open Go.RowKit
def tw(f:FX->FX)(l:List (Nat×FX)):List (Nat×FX):=l.map fun x=>(x.1,f x.2)
def HX.eS(f:AV->AV):HX->HX
 | .av x=>.av (f x)
 | .row e es=>.row e es
def bk:Nat->Prop:=fun _=>True
theorem rU{f:FX->FX}{l:List (Nat×FX)}{m:Nat}{x:FX}(h:(m,x)∈tw f l):∃y,(m,y)∈l/\x=f y:=by
 obtain⟨⟨g',y⟩,u,e⟩:=aR.1 h;injection e with z e2;subst z;exact⟨y,u,e2.symm⟩
theorem e_{f:FX->FX}{l:List (Nat×FX)}{m:Nat}:qA (tw f l) m↔qA l m:=by
 constructor
 ·intro h p hp;exact h (p.1,f p.2) (aR.2 ⟨p,hp,rfl⟩)
 intro h p hp;obtain⟨q,u,rfl⟩:=aR.1 hp;exact h q u
variable {k:Nat}
theorem fN{w:World}{l:List (Nat×List HC)}{out:List (Nat×FX)}{v:Value}:hasB w (.fam l out) v k↔bH v=some k\/∃(m g:Nat) (cs:List HC),l[m]?=some (g,cs)/\qA out m/\mE w cs g k:=by
 constructor
 ·rintro (h | ⟨_,_,h,_⟩ | ⟨_,_,_,_,_,_,h,_⟩ | ⟨l',Rn,m,g,cs,h,u⟩)
  ·exact .inl h
  ·cases h
  ·cases h
  injection h with h h';subst h;subst h';exact .inr ⟨m,g,cs,u⟩
 rintro (h | ⟨m,g,cs,h⟩)
 ·exact .inl h
 exact .inr (.inr (.inr ⟨l,out,m,g,cs,rfl,h⟩))
theorem pj{w:World}{f:FX->FX}{l:List (Nat×List HC)}{out:List (Nat×FX)}{v:Value}:hasB w (.fam l (tw f out)) v k↔hasB w (.fam l out) v k:=by
 rw[fN,fN];simp only[e_]
theorem j_{w:World}{f:AV->AV}{es:List (List HX)}{g a j:Nat}{u:Value}:bI w (es.map fun r=>r.map (HX.eS f)) g a j u↔bI w es g a j u:=by
 constructor
 ·rintro⟨r,e,xs,c,N,m,D,I,O,J⟩;rw[ao]at D;obtain⟨q,R,rfl⟩:=az.1 D;rw[ao]at I;obtain⟨z,U,W⟩:=az.1 I;rw[aB]at J;cases z with
  | av x=>cases W
  | row e' Y=>exact⟨q,e',Y,c,N,m,R,U,O,J⟩
 rintro⟨r,e,xs,c,N,m,D,I,O,J⟩;exact⟨r.map (HX.eS f),e,xs,c,N,m,by rw[ao,D];rfl,by rw[ao,I];rfl,O,by rw[aB];exact J⟩
theorem kU.map{w:World}{f:AV->AV}{es:List (List HX)}{v:Value}(h:kU w es v):kU w (es.map fun r=>r.map (HX.eS f)) v:=
 ⟨fun g a j u b m z D=>h.top g a j u b m (j_.1 z) D,fun g a j I j' u J b m z D N O=>h.dis g a j I j' u J b m (j_.1 z) (j_.1 D) N O⟩
theorem an.map{P:Program}{w:World}{R I:HX->Value->Prop}{f:AV->AV}{e:TypeId}{es:List (List HX)}{v:Value}(h:an P w R e es v)(O:∀x u,R x u->I (HX.eS f x) u):an P w I e (es.map fun r=>r.map (HX.eS f)) v:=by
 obtain⟨i,xs,U,W,Y,Z,h5,h6⟩:=h;refine⟨i,xs,U,W,by rw[aB];exact Y,fun r m=>?_,h5,fun a r j x J N=>?_⟩
 ·obtain⟨q,D,rfl⟩:=aR.1 m;rw[aB];exact Z q D
 rw[ao]at J;obtain⟨q,D,rfl⟩:=az.1 J;rw[ao]at N;obtain⟨z,hz,rfl⟩:=az.1 N;obtain⟨u,hu,m⟩:=h6 a q j z D hz;exact⟨u,hu,O _ _ m⟩
theorem pk{w:World}{f:AV->AV}{e:TypeId}{es:List (List HX)}{v:Value}:hasB w (.ai e (es.map fun r=>r.map (HX.eS f))) v k↔hasB w (.ai e es) v k:=by
 rw[bN,bN];simp only[j_]
mutual
def AV.ez(σ:Nat->Option Nat):AV->AV
 | .p x=>.p x
 | .nl=>.nl
 | .ow k=>match σ k with
  | some m=>.ow m
  | none=>.junk
 | .rp k a b=>match σ k with
  | some m=>.rp m a b
  | none=>.junk
 | .bx k a=>match σ k with
  | some m=>.bx m a
  | none=>.junk
 | .vw k a b=>match σ k with
  | some m=>.vw m a b
  | none=>.junk
 | .fn f cap=>.fn f (xo σ cap)
 | .tu xs=>.tu (xo σ xs)
 | .st xs=>.st (xo σ xs)
 | .ifp t a=>.ifp t (AV.ez σ a)
 | .junk=>.junk
def xo(σ:Nat->Option Nat):List AV->List AV
 | []=>[]
 | x::r=>AV.ez σ x::xo σ r
end
theorem lh(σ:Nat->Option Nat):∀xs:List AV,xo σ xs=xs.map (AV.ez σ)
 | []=>by simp[xo]
 | x::r=>by rw[xo,lh σ r];rfl
def FX.ez(σ:Nat->Option Nat):FX->FX
 | some n=>σ n
 | none=>none
def AB.ez(σ:Nat->Option Nat):AB->AB
 | .ai e es=>.ai e (es.map fun r=>r.map (HX.eS (AV.ez σ)))
 | .box cs=>.box (cs.map (AV.ez σ))
 | .eN ty cs=>.eN ty (cs.map (AV.ez σ))
 | .cell c0 ty a=>.cell c0 ty (AV.ez σ a)
 | .fam l out=>.fam l (tw (FX.ez σ) out)
 | b=>b
theorem AB.l7(σ:Nat->Option Nat)(b:AB):(b.ez σ).there↔b.there:=by cases b<;>rfl
theorem AB.dZ(σ:Nat->Option Nat)(b:AB):(b.ez σ).live↔b.live:=by cases b<;>rfl
theorem AB.lp(σ:Nat->Option Nat)(b:AB):(b.ez σ).fD=b.fD:=by cases b<;>rfl
theorem AB.fp{w:World}(σ:Nat->Option Nat)(b:AB)(v:Value)(g:Nat):hasB w (b.ez σ) v g↔hasB w b v g:=by
 cases b with
 | ai e es=>exact pk
 | box cs=>exact⟨fun h=>.inl (al rfl h),fun h=>.inl (al rfl h)⟩
 | eN ty cs=>exact⟨fun h=>.inl (al rfl h),fun h=>.inl (al rfl h)⟩
 | cell c0 ty a=>exact⟨fun h=>.inl (al rfl h),fun h=>.inl (al rfl h)⟩
 | fam l out=>exact pj
 | _=>exact dU
structure tV(S S':Nat->Prop)(w w':World)(L L':Nat->Prop)(rho rho':Nat->Value)(h h':Nat->AB)(σ:Nat->Option Nat):Prop where
 hS:∀b,S b->S' b
 keep:∀b,S b->w'.heap[b]?=w.heap[b]?
 ids:∀k m,σ k=some m->(h' m).there->(h k).there/\(L k->L' m)/\rho' m=rho k
 rows:∀k m e,σ k=some m->(h' m).fD=some e->(h k).fD=some e
variable {rho:Nat->Value}
theorem aE.ez{S S':Nat->Prop}{w w':World}{P:Program}{L L':Nat->Prop}{rho':Nat->Value}{h h':Nat->AB}{σ:Nat->Option Nat}(T:tV S S' w w' L L' rho rho' h h' σ){x:AV}{v:Value}(hx:aE S w P L rho h x v):aE S' w' P L' rho' h' (x.ez σ) v:=by
 have J:∀{D:List AV} {i:Nat} {c:AV},(xo σ D)[i]?=some c->∃z,D[i]?=some z/\c=z.ez σ:=fun {D i c} hc=>by
  rw[lh,ao]at hc;obtain⟨z,N,e⟩:=az.1 hc;exact⟨z,N,e.symm⟩
 induction hx with
 | p x v hx=>rw[AV.ez];exact .p x v (hx.mono T.hS T.keep)
 | nl=>rw[AV.ez];exact .nl
 | ow k v hv=>
  rw[AV.ez];split
  ·rename_i m I;refine .ow m v fun ht=>?_;obtain⟨O,R,U⟩:=T.ids k m I ht;exact⟨R (hv O).1,by rw[U];exact (hv O).2⟩
  exact .junk v
 | rp k a b v hv=>
  rw[AV.ez];split
  ·rename_i m I;refine .rp m a b v fun e W=>?_;obtain⟨O,R,U⟩:=T.ids k m I (fv W);obtain⟨q1,q2⟩:=hv e (T.rows k m e I W);exact⟨R q1,by rw[U];exact q2⟩
  exact .junk v
 | bx k a v hv=>
  rw[AV.ez];split
  ·rename_i m I;refine .bx m a v fun ht=>?_;obtain⟨O,R,U⟩:=T.ids k m I ht;exact⟨R (hv O).1,by rw[U];exact (hv O).2⟩
  exact .junk v
 | vw k a b v hv=>
  rw[AV.ez];split
  ·rename_i m I;refine .vw m a b v fun e W=>?_;obtain⟨O,R,U⟩:=T.ids k m I (fv W);obtain⟨q1,q2⟩:=hv e (T.rows k m e I W);exact⟨R q1,by rw[U];exact q2⟩
  exact .junk v
 | fn f D vs hl hc ih=>
  rw[AV.ez];exact .fn f _ vs (by rw[lh,aB];exact hl) fun i c u Y Z=>by
   obtain⟨z,N,rfl⟩:=J Y;exact ih i z u N Z
 | tu xs vs hl hc ih=>
  rw[AV.ez];exact .tu _ vs (by rw[lh,aB];exact hl) fun i c u Y Z=>by
   obtain⟨z,N,rfl⟩:=J Y;exact ih i z u N Z
 | st xs vs hl h0 hc ih=>
  rw[AV.ez];exact .st _ vs (by rw[lh,aB];exact hl) h0 fun i c u Y Z=>by
   obtain⟨z,N,rfl⟩:=J Y;exact ih i z u N Z
 | ifp t a u hc ih=>rw[AV.ez];exact .ifp t _ u ih
 | junk v=>rw[AV.ez];exact .junk v
theorem cd.ez{S S':Nat->Prop}{w w':World}{P:Program}{L L':Nat->Prop}{rho':Nat->Value}{h h':Nat->AB}{σ:Nat->Option Nat}(T:tV S S' w w' L L' rho rho' h h' σ){k m:Nat}{x:AB}
  (hb:x.live->∀g,hasB w x (rho k) g->w'.heap[g]?=w.heap[g]?) (O:x.there->rho' m=rho k) (D:cd S w P L rho h k x):cd S' w' P L' rho' h' m (x.ez σ):=by
 have T0:fu S S' w w' L L rho rho h h:=⟨T.hS,T.keep,fun id ht=>⟨ht,fun hl=>⟨hl,rfl⟩⟩,fun _ _ he=>he⟩;have D:=cd.bA T0 hb (fun _=>rfl) D;have T1:tV S' S' w' w' L L' rho rho' h h' σ:=⟨fun _ h=>h,fun _ _=>rfl,T.ids,T.rows⟩;cases x with
 | none=>trivial
 | row e es=>show an _ _ _ _ _ (rho' m);rw[O trivial];exact D
 | f_ es=>show ay _ _ _ (rho' m);rw[O trivial];exact D
 | jt es=>show ay _ _ _ (rho' m);rw[O trivial];exact D
 | map mk es=>
  obtain⟨g,ms,I,J,N⟩:=D;exact⟨g,ms,I,by rw[O trivial];exact J,N⟩
 | iter mk es n cur=>
  obtain⟨g,mg,ms,I,U,J,N⟩:=D;exact⟨g,mg,ms,I,U,by rw[O trivial];exact J,N⟩
 | aA cs=>
  obtain⟨g,W,c,J,N⟩:=D;exact⟨g,W,c,by rw[O trivial];exact J,N⟩
 | box cs=>
  obtain⟨g,W,c,J,N,Y,R⟩:=D;refine⟨g,W,c,by rw[O trivial];exact J,N,by simpa using Y,fun j x u Z hu=>?_⟩;rw[ao]at Z;obtain⟨z,hz,rfl⟩:=az.1 Z;exact⟨(R j z u hz hu).1,(R j z u hz hu).2.ez T1⟩
 | eN W cs=>
  obtain⟨g,c,J,N,Y,R⟩:=D;refine⟨g,c,by rw[O trivial];exact J,N,by simpa using Y,fun j x u Z hu=>?_⟩;rw[ao]at Z;obtain⟨z,hz,rfl⟩:=az.1 Z;exact⟨(R j z u hz hu).1,(R j z u hz hu).2.ez T1⟩
 | cell c0 W a=>
  obtain⟨g,off,v,J,N,Y,R,h5⟩:=D;exact⟨g,off,v,by rw[O trivial];exact J,N,Y,R,h5.ez T1⟩
 | fam l out=>
  obtain⟨J,hF⟩:=D;refine⟨by rw[O trivial];exact J,fun m g cs hm ho=>hF.mem m g cs hm (e_.1 ho),fun m m' g g' cs dB k hm mD ho u_=>hF.dis m m' g g' cs dB k hm mD (e_.1 ho) (e_.1 u_),fun m n g cs hm hl ht=>?_⟩;obtain⟨y,k1,k2⟩:=rU hm;cases y with
  | none=>cases k2
  | some n'=>
   obtain⟨t1,t2,t3⟩:=T.ids n' n k2.symm ht;obtain⟨t4,t5⟩:=hF.out m n' g cs k1 hl t1;exact⟨t2 t4,t3.trans t5⟩
 | ai e es=>
  obtain⟨J,N⟩:=D;show an _ _ _ _ _ (rho' m)/\kU _ _ (rho' m);rw[O trivial];refine⟨an.map J fun x u D=>?_,N.map⟩;cases x with
  | av x=>exact aE.ez T1 D
  | row e' bW=>exact D
def bp:List (Nat×AB)->Nat->AB
 | [],_=>.none
 | (n,b)::r,k=>match Nat.beq k n with
  | true=>b
  | false=>bp r k
structure Lu(S:Nat->Prop)(w:World)(P:Program)(rho:Nat->Value)(h:Nat->AB):Prop where
 hp:∀id,cd S w P bk rho h id (h id)
 dj:∀i j g,(h i).live->(h j).live->hasB w (h i) (rho i) g->hasB w (h j) (rho j) g->i=j
 lv:∀i g,(h i).live->hasB w (h i) (rho i) g->g<w.heap.size/\¬S g
def po(w:World)(rho:Nat->Value)(h:Nat->AB)(g:Nat):Prop:=∃i,(h i).live/\hasB w (h i) (rho i) g
def cR(C:Ctx)(f:FuncId)(args:List AV)(bX:List (Nat×AB))(r:AV)(fin:List (Nat×AB)):Prop:=
 (∃ fn : Func, C.P.funcs[f]? = some fn ∧ (fn.name == "runtime.NumGoroutine") = false ∧ fn.body.isNone = false) ∧
 ∀(S:Nat->Prop) (w:World) (vs:Array Value) (rho:Nat->Value),C.E S w->(∀b,S b->b<w.heap.size)->args.length=vs.size->Lu S w C.P rho (bp bX)->
  (∀(j:Nat) x v,args[j]?=some x->vs[j]?=some v->aE S w C.P bk rho (bp bX) x v)->
  Calls C.P f vs w fun e w'=>∃v S' rho',e=.returned v/\Fr (po w rho (bp bX)) w w'/\(∀b,S b->S' b)/\(∀b,S' b->b<w'.heap.size)/\(∀b,S' b->S b\/w.heap.size<=b\/po w rho (bp bX) b)/\
   (∀n,100000<=n->rho' n=rho n)/\Lu S' w' C.P rho' (bp fin)/\aE S' w' C.P bk rho' (bp fin) r v/\∀g,po w' rho' (bp fin) g->w.heap.size<=g\/po w rho (bp bX) g
def rV:List (Nat×Nat)->Nat->Option Nat
 | [],_=>none
 | (m,n)::r,k=>match Nat.beq k m with
  | true=>some n
  | false=>rV r k
def jE:List (Nat×Nat)->Nat->Option Nat
 | [],_=>none
 | (m,n)::r,k=>match Nat.beq k n with
  | true=>some m
  | false=>jE r k
def mR(mp:List (Nat×Nat))(k:Nat):Option Nat:=match rV mp k with
 | none=>some k
 | some n=>match Nat.ble 100000 n with
  | true=>some k
  | false=>none
def xq(mp:List (Nat×Nat))(fin:List (Nat×AB)):List (Nat×Nat)->(Nat->AB)->Nat->AB
 | [],h=>h
 | (m,n)::r,h=>ax (xq mp fin r h) m ((bp fin n).ez (jE mp))
structure Rp(mp:List (Nat×Nat))(bX fin:List (Nat×AB)):Prop where
 c1:(mp.map (·.1)).Nodup
 c2:(mp.map (·.2)).Nodup
 ob:∀x∈bX,x.1∈mp.map (·.2)
 fi:∀x∈fin,x.1∈mp.map (·.2)
 pn:∀x∈mp,100000<=x.1->100000<=x.2
 ro:∀x∈mp,100000<=x.2->(bp fin x.2).fD=none\/(bp fin x.2).fD=(bp bX x.2).fD
 th:∀x∈mp,100000<=x.2->(bp bX x.2).there
def Rq:AB->Bool
 | .none=>false
 | _=>true
def HJ:Option TypeId->Option TypeId->Bool
 | none,_=>true
 | some a,some b=>Nat.beq a b
 | _,_=>false
def M9(mp:List (Nat×Nat))(bX fin:List (Nat×AB)):Bool:=
 decide (mp.map (·.1)).Nodup&&(decide (mp.map (·.2)).Nodup&&(decide (∀x∈bX.map (·.1),x∈mp.map (·.2))&&(decide (∀x∈fin.map (·.1),x∈mp.map (·.2)) &&
  mp.all fun x=>(!Nat.ble 100000 x.1||Nat.ble 100000 x.2)&&(!Nat.ble 100000 x.2||(HJ (bp fin x.2).fD (bp bX x.2).fD&&Rq (bp bX x.2))))))
variable {mp:List (Nat×Nat)}
theorem D1{u fin:List (Nat×AB)}(h:M9 mp u fin=true):Rp mp u fin:=by
 simp only[M9,aw,dS,cC,qV,vn]at h;obtain⟨D,I,J,N,z⟩:=h;refine⟨D,I,fun x m=>J _ (aR.2 ⟨x,m,rfl⟩),fun x m=>N _ (aR.2 ⟨x,m,rfl⟩),fun x m hl=>?_,fun x m hl=>?_,fun x m hl=>?_⟩
 ·rcases (z x m).1 with h | h
  ·rw[n9 hl]at h;cases h
  exact dT h
 ·rcases (z x m).2 with h | h
  ·rw[n9 hl]at h;cases h
  have:=h.1;unfold HJ at this;split at this
  ·rename_i e;exact .inl e
  ·rename_i a b O R;exact .inr (by rw[O,R,bq this])
  cases this
 rcases (z x m).2 with h | h
 ·rw[n9 hl]at h;cases h
 have h:=h.2;cases hb:bp u x.2 with
 | none=>rw[hb]at h;cases h
 | _=>trivial
def Gg(mp:List (Nat×Nat))(bX:List (Nat×AB))(h:Nat->AB):List (Nat×Nat)->Prop
 | []=>True
 | (m,n)::r=>(h m).ez (rV mp)=bp bX n/\Gg mp bX h r
theorem AK{z:List (Nat×AB)}{h:Nat->AB}:∀{l:List (Nat×Nat)},Gg mp z h l->∀x∈l,(h x.1).ez (rV mp)=bp z x.2
 | (m,n)::r,hg,x,u=>by
  rcases fK.1 u with e | u
  ·subst e;exact hg.1
  exact AK hg.2 x u
theorem fO:∀{mp:List (Nat×Nat)} {k n:Nat},rV mp k=some n->(k,n)∈mp
 | (m,n')::r,k,n,h=>by
  unfold rV at h;split at h
  ·rename_i e;injection h with h;rw[bq e,h];exact aW
  exact cg _ (fO h)
theorem pq:∀{mp:List (Nat×Nat)} {k m:Nat},jE mp k=some m->(m,k)∈mp
 | (m',n')::r,k,m,h=>by
  unfold jE at h;split at h
  ·rename_i e;injection h with h;rw[bq e,h];exact aW
  exact cg _ (pq h)
theorem vu{a b:Nat}(h:a≠b):Nat.beq a b=false:=by
 rw[cr];intro e;exact h (bq e)
theorem tW(a:Nat):Nat.beq a a=true:=by simp
theorem lu:∀{mp:List (Nat×Nat)} {k n:Nat},(mp.map (·.1)).Nodup->(k,n)∈mp->rV mp k=some n
 | (m,n')::r,k,n,u,h=>by
  unfold rV;rcases fK.1 h with e | h
  ·injection e with z e2;subst z;subst e2;rw[tW]
  rw[aV,ca]at u;rw[vu fun e=>u.1 (by rw[<-e];exact aR.2 ⟨_,h,rfl⟩)];exact lu u.2 h
theorem oo:∀{mp:List (Nat×Nat)} {k m:Nat},(mp.map (·.2)).Nodup->(m,k)∈mp->jE mp k=some m
 | (m',n')::r,k,m,u,h=>by
  unfold jE;rcases fK.1 h with e | h
  ·injection e with z e2;subst z;subst e2;rw[tW]
  rw[aV,ca]at u;rw[vu fun e=>u.1 (by rw[<-e];exact aR.2 ⟨_,h,rfl⟩)];exact oo u.2 h
theorem AL{fin:List (Nat×AB)}{h:Nat->AB}:∀{l:List (Nat×Nat)} {k n:Nat},(l.map (·.1)).Nodup->(k,n)∈l->xq mp fin l h k=(bp fin n).ez (jE mp)
 | (m,n')::r,k,n,z,u=>by
  unfold xq;rcases fK.1 u with e | u
  ·injection e with D e2;subst D;subst e2;rw[ak]
  rw[aV,ca]at z;rw[au _ _ fun e=>z.1 (by rw[<-e];exact aR.2 ⟨_,u,rfl⟩)];exact AL z.2 u
theorem xr{fin:List (Nat×AB)}{h:Nat->AB}:∀{l:List (Nat×Nat)} {k:Nat},(∀n,(k,n) ∉ l)->xq mp fin l h k=h k
 | [],k,_=>rfl
 | (m,u)::r,k,hn=>by
  unfold xq;rw[au _ _ fun e=>hn u (by rw[e];exact aW)];exact xr fun n z=>hn n (cg _ z)
theorem lx:∀{u:List (Nat×AB)} {n:Nat},(bp u n).there->n∈u.map (·.1)
 | (m,b)::r,n,h=>by
  unfold bp at h;split at h
  ·rename_i e;rw[bq e];exact aW
  exact cg _ (lx h)
theorem eF{b:AB}(h:b.live):b.there:=by cases b<;>first | trivial | exact h.elim
def pr(C:Ctx)(f:FuncId)(cT:List AV)(d:Option Tmp)(K:AS->Prop)(s:AS):Prop:=
 ∃(mp:List (Nat×Nat)) (args:List AV) (bX:List (Nat×AB)) (r:AV) (fin:List (Nat×AB)),cR C f args bX r fin/\(M9 mp bX fin=true/\cT.map (AV.ez (rV mp))=args/\Gg mp bX s.h mp)/\
  K ⟨cU (fun j=>(s.t j).ez (mR mp)) d (r.ez (jE mp)),xq mp fin mp fun k=>(s.h k).ez (mR mp)⟩
theorem tX{A:jR}{o:Oper}{S:Nat->Prop}{s:AS}{a:Act}{w:World}{K:AS->Prop}{next:Act->World->Prop}{Q:Exit->Act->World->Prop}(hC:aL A.C)(hd:∀d,o.dst=some d->d<A.n)(sim:aU A bk bk S rho s a w)
  (hnext:∀s' S' rho' a' w',K s'->aU A bk bk S' rho' s' a' w'->next a' w')
  (f:FuncId) (cT:List AV) (vs:Array Value) (hl:cT.length=vs.size) (hrep:∀(i:Nat) x v,cT[i]?=some x->vs[i]?=some v->aE S w A.C.P bk rho s.h x v)
  (hrun : (∃ fn : Func, A.C.P.funcs[f]? = some fn ∧ (fn.name == "runtime.NumGoroutine") = false ∧ fn.body.isNone = false) → (execOp a.eval o).run A.C.P w = .ok (.enter f vs) w) (hq : pr A.C f cT o.dst K s) : o.wp A.C.P a w next Q := by
 obtain⟨mp,args,bX,r,fin,dX,⟨hok,o_,rK⟩,hk⟩:=hq;have ok:=D1 hok;have Gh:=AK rK;obtain⟨rn,Rr⟩:∃rn:Nat->Value,rn=fun n=>match jE mp n with
  | some m=>rho m
  | none=>.tuple #[]:=⟨_,rfl⟩
 have qe:∀m n,(m,n)∈mp->rn n=rho m:=fun m n h=>by rw[Rr];simp only[oo ok.c2 h]
 have nh:∀n,(bp bX n).there->∃m,(m,n)∈mp:=fun n h=>by
  obtain⟨x,hx,rfl⟩:=aR.1 (lx h);obtain⟨y,hy,e⟩:=aR.1 (ok.ob x hx);exact⟨y.1,by rw[<-e];exact hy⟩
 have Oc:∀n,(bp fin n).there->∃m,(m,n)∈mp:=fun n h=>by
  obtain⟨x,hx,rfl⟩:=aR.1 (lx h);obtain⟨y,hy,e⟩:=aR.1 (ok.fi x hx);exact⟨y.1,by rw[<-e];exact hy⟩
 have T1:tV S S w w bk bk rho rn s.h (bp bX) (rV mp):=
  ⟨fun _ h=>h,fun _ _=>rfl,fun k m hm ht=>by
   have dq:=fO hm;have:=Gh _ dq;simp only at this;rw[<-this,AB.l7]at ht;exact⟨ht,fun h=>h,qe k m dq⟩,fun k m e hm he=>by
   have:=Gh _ (fO hm);simp only at this;rw[<-this,AB.lp]at he;exact he⟩
 have HK:Lu S w A.C.P rn (bp bX):=by
  refine⟨fun n=>?_,fun i j g li lj hi hj=>?_,fun i g li hi=>?_⟩
  ·by_cases ht:(bp bX n).there
   ·obtain⟨m,hm⟩:=nh n ht;have:=Gh _ hm;simp only at this;rw[<-this];exact cd.ez T1 (fun _ _ _=>rfl) (fun _=>qe m n hm) (sim.hp m trivial)
   cases hb:bp bX n with
   | none=>trivial
   | _=>rw[hb]at ht;exact absurd trivial ht
  ·obtain⟨m,hm⟩:=nh i (eF li);obtain⟨m',mD⟩:=nh j (eF lj);have e1:=Gh _ hm;have e2:=Gh _ mD;simp only at e1 e2;rw[<-e1,AB.dZ]at li;rw[<-e2,AB.dZ]at lj;rw[<-e1,AB.fp,qe m i hm]at hi;rw[<-e2,AB.fp,qe m' j mD]at hj;have:=sim.dj m m' g trivial trivial li lj hi hj;subst this;have a1:=lu ok.c1 hm;rw[lu ok.c1 mD]at a1;exact (Option.some.inj a1).symm
  obtain⟨m,hm⟩:=nh i (eF li);have e1:=Gh _ hm;simp only at e1;rw[<-e1,AB.dZ]at li;rw[<-e1,AB.fp,qe m i hm]at hi;obtain⟨h1,h2,_⟩:=sim.lv m g trivial li hi;exact⟨h1,h2⟩
 have nn:∀g,po w rn (bp bX) g->∃m n,(m,n)∈mp/\(s.h m).live/\hasB w (s.h m) (rho m) g:=fun g ⟨i,li,hi⟩=>by
  obtain⟨m,hm⟩:=nh i (eF li);have e1:=Gh _ hm;simp only at e1;rw[<-e1,AB.dZ]at li;rw[<-e1,AB.fp,qe m i hm]at hi;exact⟨m,i,hm,li,hi⟩
 have key:=dX.2 S w vs rn sim.ev sim.st (by rw[<-o_,aB];exact hl) HK (fun j x v hx hv=>by
  rw[<-o_,ao]at hx;obtain⟨y,hy,rfl⟩:=az.1 hx;exact (hrep j y v hy hv).ez T1)
 refine gM (hrun dX.1) key fun e' w' fM=>?_;obtain⟨v,S',rho',rfl,hf,nX,PS,Od,D2,xu,hres,hown⟩:=fM;refine⟨v,rfl,?_⟩;obtain⟨r2,jb⟩:∃r2:Nat->Value,r2=fun k=>match rV mp k with
  | some n=>rho' n
  | none=>rho k:=⟨_,rfl⟩
 obtain⟨h2,Dq⟩:∃h2:Nat->AB,h2=xq mp fin mp fun k=>(s.h k).ez (mR mp):=⟨_,rfl⟩;have qf:∀m n,(m,n)∈mp->r2 m=rho' n:=fun m n h=>by rw[jb];simp only[lu ok.c1 h]
 have np:∀k,rV mp k=none->r2 k=rho k:=fun k h=>by rw[jb];simp only[h]
 have kE:∀m n,(m,n)∈mp->h2 m=(bp fin n).ez (jE mp):=fun m n h=>by rw[Dq];exact AL ok.c1 h
 have iG:∀k,rV mp k=none->h2 k=(s.h k).ez (mR mp):=fun k h=>by
  rw[Dq];exact xr fun n hm=>by rw[lu ok.c1 hm]at h;cases h
 have eE:∀b,S b->w'.heap[b]?=w.heap[b]?:=fun b hb=>hf.block b (sim.st b hb) fun ho=>by
  obtain⟨m,n,_,li,hi⟩:=nn b ho;exact (sim.lv m b trivial li hi).2.1 hb
 have T2:tV S S' w w' bk bk rho r2 s.h h2 (mR mp):=by
  refine⟨nX,eE,fun k m hm ht=>?_,fun k m e hm he=>?_⟩
  ·unfold mR at hm;split at hm
   ·rename_i hn;injection hm with hm;subst hm;rw[iG k hn,AB.l7]at ht;exact⟨ht,fun h=>h,np k hn⟩
   rename_i n hn;split at hm
   ·rename_i hp;injection hm with hm;subst hm;have dq:=fO hn;have hp:=dT hp;have Oe:=ok.th _ dq hp;simp only at Oe;have e1:=Gh _ dq;simp only at e1;rw[<-e1,AB.l7]at Oe;exact⟨Oe,fun h=>h,by rw[qf k n dq,D2 n hp,qe k n dq]⟩
   cases hm
  unfold mR at hm;split at hm
  ·rename_i hn;injection hm with hm;subst hm;rw[iG k hn,AB.lp]at he;exact he
  rename_i n hn;split at hm
  ·rename_i hp;injection hm with hm;subst hm;have dq:=fO hn;have hp:=dT hp;rw[kE k n dq,AB.lp]at he;have e1:=Gh _ dq;simp only at e1;rcases ok.ro _ dq hp with h | h
   ·simp only at h;rw[h]at he;cases he
   simp only at h;rw[h,<-e1,AB.lp]at he;exact he
  cases hm
 have T3:tV S' S' w' w' bk bk rho' r2 (bp fin) h2 (jE mp):=
  ⟨fun _ h=>h,fun _ _=>rfl,fun n m hm ht=>by
   have dq:=pq hm;rw[kE m n dq,AB.l7]at ht;exact⟨ht,fun h=>h,qf m n dq⟩,fun n m e hm he=>by
   have dq:=pq hm;rw[kE m n dq,AB.lp]at he;exact he⟩
 have stay:∀k,rV mp k=none->(s.h k).live->∀g,hasB w (s.h k) (rho k) g->w'.heap[g]?=w.heap[g]?:=fun k hk li g hg=>hf.block g (sim.lv k g trivial li hg).1 fun ho=>by
  obtain⟨m,n,hm,fE,mI⟩:=nn g ho;have:=sim.dj k m g trivial trivial li fE hg mI;subst this;rw[lu ok.c1 hm]at hk;cases hk
 have oh:∀k,rV mp k=none->(s.h k).live->∀g,hasB w' (s.h k) (rho k) g->hasB w (s.h k) (rho k) g:=fun k hk li g hg=>b_ (fun b hb=>stay k hk li b hb) hg;have aQ:aU A bk bk S' r2 ⟨fun j=>(s.t j).ez (mR mp),h2⟩ a w':=
 {tm:=fun j _=>(sim.tm j trivial).ez T2
  sz:=sim.sz,df:=sim.df,nb:=sim.nb
  pn:=fun id hid=>by
   cases hn:rV mp id with
   | none=>rw[np id hn];exact sim.pn id hid
   | some n=>
    have dq:=fO hn;rw[qf id n dq,D2 n (ok.pn _ dq hid),qe id n dq];exact sim.pn id hid
  ev:=hC.env _ _ _ _ sim.ev nX eE hf.size
  s0:=fun b h=>nX b (sim.s0 b h)
  st:=PS
  sb:=fun b hb=>by
   rcases Od b hb with h | h | h
   ·exact sim.sb b h
   ·exact .inr (.inr (bM sim.fr.size h))
   obtain⟨m,n,_,li,hi⟩:=nn b h;exact .inr (sim.lv m b trivial li hi).2.2
  hp:=fun k _=>by
   show cd _ _ _ _ _ _ _ (h2 k);cases hn:rV mp k with
   | none=>
    rw[iG k hn];exact cd.ez T2 (stay k hn) (fun _=>np k hn) (sim.hp k trivial)
   | some n=>
    have dq:=fO hn;rw[kE k n dq];exact cd.ez T3 (fun _ _ _=>rfl) (fun _=>qf k n dq) (xu.hp n)
  dj:=fun i j g _ _ li lj hi hj=>by
   have li:(h2 i).live:=li;have lj:(h2 j).live:=lj;have hi:hasB w' (h2 i) (r2 i) g:=hi;have hj:hasB w' (h2 j) (r2 j) g:=hj;have mixed:∀k n m,rV mp k=none->(s.h k).live->hasB w (s.h k) (rho k) g->(m,n)∈mp->(bp fin n).live->hasB w' (bp fin n) (rho' n) g->False:=fun k n m hk lk hg hm ln hn=>by
    rcases hown g ⟨n,ln,hn⟩ with h | h
    ·have:=(sim.lv k g trivial lk hg).1;omega
    obtain⟨m',n',mD,fE,mI⟩:=nn g h;have:=sim.dj k m' g trivial trivial lk fE hg mI;subst this;rw[lu ok.c1 mD]at hk;cases hk
   cases hn:rV mp i with
   | none=>
    rw[iG i hn,AB.dZ]at li;rw[iG i hn,AB.fp,np i hn]at hi;have hi:=oh i hn li g hi;cases xi:rV mp j with
    | none=>
     rw[iG j xi,AB.dZ]at lj;rw[iG j xi,AB.fp,np j xi]at hj;exact sim.dj i j g trivial trivial li lj hi (oh j xi lj g hj)
    | some n=>
     have dq:=fO xi;rw[kE j n dq,AB.dZ]at lj;rw[kE j n dq,AB.fp,qf j n dq]at hj;exact (mixed i n j hn li hi dq lj hj).elim
   | some n=>
    have dq:=fO hn;rw[kE i n dq,AB.dZ]at li;rw[kE i n dq,AB.fp,qf i n dq]at hi;cases xi:rV mp j with
    | none=>
     rw[iG j xi,AB.dZ]at lj;rw[iG j xi,AB.fp,np j xi]at hj;exact (mixed j n i xi lj (oh j xi lj g hj) dq li hi).elim
    | some n2=>
     have AN:=fO xi;rw[kE j n2 AN,AB.dZ]at lj;rw[kE j n2 AN,AB.fp,qf j n2 AN]at hj;have:=xu.dj n n2 g li lj hi hj;subst this;have a1:=oo ok.c2 dq;rw[oo ok.c2 AN]at a1;exact (Option.some.inj a1).symm
  lv:=fun k g _ lk hk=>by
   have lk:(h2 k).live:=lk;have hk:hasB w' (h2 k) (r2 k) g:=hk;cases hn:rV mp k with
   | none=>
    rw[iG k hn,AB.dZ]at lk;rw[iG k hn,AB.fp,np k hn]at hk;have hk:=oh k hn lk g hk;obtain⟨p1,p2,p3⟩:=sim.lv k g trivial lk hk;refine⟨bg p1 hf.size,fun hs=>?_,p3⟩;rcases Od g hs with h | h | h
    ·exact p2 h
    ·omega
    obtain⟨m',n',mD,fE,mI⟩:=nn g h;have:=sim.dj k m' g trivial trivial lk fE hk mI;subst this;rw[lu ok.c1 mD]at hn;cases hn
   | some n=>
    have dq:=fO hn;rw[kE k n dq,AB.dZ]at lk;rw[kE k n dq,AB.fp,qf k n dq]at hk;obtain⟨p1,p2⟩:=xu.lv n g lk hk;refine⟨p1,p2,?_⟩;rcases hown g ⟨n,lk,hk⟩ with h | h
    ·exact .inr (bM sim.fr.size h)
    obtain⟨m,n',_,li,hi⟩:=nn g h;exact (sim.lv m g trivial li hi).2.2
  fr:=sim.fr.trans hf fun b hb=>by
   obtain⟨m,n,_,li,hi⟩:=nn b hb;exact (sim.lv m b trivial li hi).2.2 }
 refine hnext _ S' r2 _ w' hk ?_;have hv:=aQ.value o.dst hd (r.ez (jE mp)) v (hres.ez T3);rw[<-Dq];exact { hv with tm:=fun j _=>hv.tm j (.inl trivial) }
def D3(d:Bool)(id:Nat)(x:AV):AV:=match d with
 | true=>x
 | false=>.ow id
def nq(C:Ctx)(o:Oper):Bool:=match o.op with
 | .call c=>match c.callee with
  | .invoke _ _=>true
  | .value g=>match g with
   | .func f=>C.nc f
   | _=>false
  | _=>false
 | _=>false
def nS(C:Ctx)(o:Oper)(K:AS->Prop)(s:AS):Prop:=match o.op with
 | .call c=>match c.callee with
  | .invoke r name=>match ev s.t r with
   | .ifp t (.ow id)=>match s.h id with
    | .cell _ _ x=>∃f d,u9 C.P t name f d/\pr C f (D3 d id x::c.args.toList.map (ev s.t)) o.dst K s
    | _=>False
   | _=>False
  | .value g=>match g with
   | .func f=>pr C f (c.args.toList.map (ev s.t)) o.dst K s
   | _=>False
  | _=>False
 | _=>False
theorem zi{P:Program}{w:World}{recv:Value}{t:TypeId}{u:Value}{name:String}{f:FuncId}{rv:Value}{args:Array Value}(hr:recv=.iface t u)(hm:(method (P.types.size+Made.depth) t u name).run P w=.ok (f,rv) w)
  (hfn : ∃ fn : Func, P.funcs[f]? = some fn ∧ (fn.name == "runtime.NumGoroutine") = false ∧ fn.body.isNone = false) : (invoke (.fn (.method name) #[]) (#[recv] ++ args)).run P w = .ok (.enter f (#[rv] ++ args)) w := by
 subst hr;have e0:(#[Value.iface t u]++args)[0]?=some (Value.iface t u):=by
  rw[AF (by simp)];rfl
 have e1:(#[Value.iface t u]++args).extract 1 (#[Value.iface t u]++args).size=args:=by
  apply gV;simp
 unfold invoke;simp only[e0,e1,callMethod,aI];have hp:(program:Sem Program).run P w=.ok P w:=rfl;rw[hp];simp only[br,hm,aI];exact j9 hfn
theorem D4{A:jR}(hC:aL A.C){o:Oper}{S:Nat->Prop}{s:AS}{a:Act}{w:World}{K:AS->Prop}{next:Act->World->Prop}{Q:Exit->Act->World->Prop}(hd:∀d,o.dst=some d->d<A.n)(D:aU A bk bk S rho s a w)(m:nS A.C o K s)
  (I:∀s' S' rho' a' w',K s'->aU A bk bk S' rho' s' a' w'->next a' w'):o.wp A.C.P a w next Q:=by
 unfold nS at m;split at m
 case h_2=>exact m.elim
 rename_i c aq;obtain⟨callee,args,argTypes⟩:=c;have tq:∀(i:Nat) x v,(args.toList.map (ev s.t))[i]?=some x->(args.map a.eval)[i]?=some v->aE S w A.C.P bk rho s.h x v:=by
  intro i x v U J;rw[ao]at U;obtain⟨y,hy,rfl⟩:=az.1 U;have qb:args[i]?=some y:=by simpa using hy
  rw[uT,qb]at J;simp at J;rw[<-J];exact aH D y fun _ _=>trivial
 split at m
 ·rename_i r name R;simp only at R;subst R;have hr:=aH D r fun _ _=>trivial;split at m
  case h_2=>exact m.elim
  rename_i t id Rs;split at m
  case h_2=>exact m.elim
  rename_i c0 ty y N;obtain⟨f,d,hm,m⟩:=m;rw[Rs]at hr;obtain⟨u,J,hu⟩:=hr.Ay;obtain⟨hL,HL⟩:=hu.bu (by rw[N];trivial);have hh:=D.hp id hL;rw[N]at hh;obtain⟨g,Y,cv,k1,k2,k3,k4,k5⟩:=hh;obtain⟨W,U,Rt⟩:∃W,aE S w A.C.P bk rho s.h (D3 d id y) W/\(method (A.C.P.types.size+Made.depth) t u name).run A.C.P w=.ok (f,W) w:=by
   cases d with
   | false=>exact⟨u,hu,by rw[HL,k1];exact hm _ w⟩
   | true=>exact⟨cv,k5,by rw[HL,k1];exact hm _ cv w (by rw[cell_of_row w g Y _ ty (0,0) k3,fg,ae rfl,ae k2])⟩
  refine tX hC hd D I f _ (#[W]++args.map a.eval) (by simp;omega) (fun i z v Z J=>?_) (fun O=>?_) m
  ·cases i with
   | zero=>
    rw[AF (by simp)]at J;simp at Z J;subst Z;subst J;exact U
   | succ i=>
    refine tq i z v (by simpa using Z) ?_;rw[j8 (by simp)]at J;simpa using J
  have:=zi (args:=args.map a.eval) J Rt O;simp only[execOp,aq,resolve,aI,ct,br];exact this
 ·rename_i g R;simp only at R;subst R;split at m
  case h_2=>exact m.elim
  rename_i f;refine tX hC hd D I f _ (args.map a.eval) (by simp) tq (fun O=>?_) m;have:a.eval (.func f)=.func (.func f) #[] #[]:=rfl;simp[execOp,aq,resolve,this,Deferred.ofValue,invoke,j9 O]
 exact m.elim
end Go.AM
namespace Go.AM
open Go.RowKit
def bB(a b:Nat):Bool:=Nat.beq a b
theorem aG{a b:Nat}:bB a b=true↔a=b:=by unfold bB;exact⟨bq,fun h=>by subst h;simp⟩
mutual
def kN(d:Nat):AV->Bool
 | .ow i=>bB i d
 | .rp i _ _=>bB i d
 | .bx i _=>bB i d
 | .vw i _ _=>bB i d
 | .fn _ cap=>eG d cap
 | .tu xs=>eG d xs
 | .st xs=>eG d xs
 | .ifp _ a=>kN d a
 | _=>false
def eG(d:Nat):List AV->Bool
 | []=>false
 | x::r=>kN d x||eG d r
end
def rn(i d:Nat):AV->AV
 | .ow k=>match bB k i with
  | true=>.ow d
  | false=>match bB k d with
   | true=>.junk
   | false=>.ow k
 | .rp k a b=>match bB k i with
  | true=>.rp d a b
  | false=>match bB k d with
   | true=>.junk
   | false=>.rp k a b
 | .bx k a=>match bB k i with
  | true=>.bx d a
  | false=>match bB k d with
   | true=>.junk
   | false=>.bx k a
 | .vw k a b=>match bB k i with
  | true=>.vw d a b
  | false=>match bB k d with
   | true=>.junk
   | false=>.vw k a b
 | .fn f cap=>match eG i cap||eG d cap with
  | true=>.junk
  | false=>.fn f cap
 | .tu xs=>match eG i xs||eG d xs with
  | true=>.junk
  | false=>.tu xs
 | .st xs=>match eG i xs||eG d xs with
  | true=>.junk
  | false=>.st xs
 | .ifp t a=>match kN i a||kN d a with
  | true=>.junk
  | false=>.ifp t a
 | x=>x
def Of(i d:Nat):FX->FX
 | some n=>match bB n i with
  | true=>some d
  | false=>match bB n d with
   | true=>none
   | false=>some n
 | none=>none
def Kr(d:Nat):FX->FX
 | some n=>match bB n d with
  | true=>none
  | false=>some n
 | none=>none
def D5(i d:Nat):AB->AB
 | .ai e es=>.ai e (es.map fun r=>r.map (HX.eS (rn i d)))
 | .box cs=>.box (cs.map (rn i d))
 | .eN ty cs=>.eN ty (cs.map (rn i d))
 | .cell c0 ty a=>.cell c0 ty (rn i d a)
 | .fam l out=>.fam l (tw (Of i d) out)
 | b=>b
def iT(i d:Nat)(s:AS):AS:=⟨fun j=>rn i d (s.t j),fun j=>match bB j d with
 | true=>D5 i d (s.h i)
 | false=>match bB j i with
  | true=>.none
  | false=>D5 i d (s.h j)⟩
def sc(d:Nat):AV->AV
 | .p x=>.p x
 | .nl=>.nl
 | .ow i=>match bB i d with
  | true=>.junk
  | false=>.ow i
 | .rp i a b=>match bB i d with
  | true=>.junk
  | false=>.rp i a b
 | .bx i a=>match bB i d with
  | true=>.junk
  | false=>.bx i a
 | .vw i a b=>match bB i d with
  | true=>.junk
  | false=>.vw i a b
 | .fn f cap=>match eG d cap with
  | true=>.junk
  | false=>.fn f cap
 | .tu xs=>match eG d xs with
  | true=>.junk
  | false=>.tu xs
 | .st xs=>match eG d xs with
  | true=>.junk
  | false=>.st xs
 | .ifp t a=>match kN d a with
  | true=>.junk
  | false=>.ifp t a
 | .junk=>.junk
theorem D6(d:Nat)(x:AV):sc d x=match kN d x with
  | true=>.junk
  | false=>x:=by cases x<;>rfl
def qX(d:Nat):AB->AB
 | .ai e es=>.ai e (es.map fun r=>r.map (HX.eS (sc d)))
 | .box cs=>.box (cs.map (sc d))
 | .eN ty cs=>.eN ty (cs.map (sc d))
 | .cell c0 ty a=>.cell c0 ty (sc d a)
 | .fam l out=>.fam l (tw (Kr d) out)
 | b=>b
def dH(d:Nat)(s:AS):AS:=⟨fun j=>sc d (s.t j),ax (fun k=>qX d (s.h k)) d .none⟩
theorem pw(i d:Nat)(b:AB):(D5 i d b).there↔b.there:=by cases b<;>rfl
theorem xv(i d:Nat)(b:AB):(D5 i d b).live↔b.live:=by cases b<;>rfl
structure rW(L L':Nat->Prop)(rho rho':Nat->Value)(h h':Nat->AB)(i d:Nat):Prop where
 old:∀k,k≠i->k≠d->((h' k).there->(h k).there)/\(L k->L' k)/\rho' k=rho k/\(∀e,(h' k).fD=some e->(h k).fD=some e)
 new:i≠d->((h' d).there->(h i).there)/\(L i->L' d)/\rho' d=rho i/\(∀e,(h' d).fD=some e->(h i).fD=some e)
variable {d:Nat}
theorem b9:∀{xs:List AV},eG d xs=false->∀x∈xs,kN d x=false:=by
 intro xs
 induction xs with
 | nil=>intro _ x m;cases m
 | cons y xs ih=>
  intro h x m;simp only[eG,vo]at h;rcases fK.1 m with e | e
  ·rw[e];exact h.1
  exact ih h.2 x e
variable {L L':Nat->Prop} {rho rho':Nat->Value} {h':Nat->AB}
theorem aE.ka{S:Nat->Prop}{w:World}{P:Program}{h:Nat->AB}{i:Nat}(T:rW L L' rho rho' h h' i d){x:AV}{v:Value}(Z:aE S w P L rho h x v)(m:kN i x=false)(z:kN d x=false):aE S w P L' rho' h' x v:=by
 induction Z with
 | p x v Z=>exact .p x v Z
 | nl=>exact .nl
 | ow k v hv=>
  have I:k≠i:=fun e=>by rw[kN,aG.2 e]at m;cases m
  have J:k≠d:=fun e=>by rw[kN,aG.2 e]at z;cases z
  obtain⟨N,O,R,U⟩:=T.old k I J;exact .ow k v fun W=>⟨O (hv (N W)).1,by rw[R];exact (hv (N W)).2⟩
 | rp k a b v hv=>
  have I:k≠i:=fun e=>by rw[kN,aG.2 e]at m;cases m
  have J:k≠d:=fun e=>by rw[kN,aG.2 e]at z;cases z
  obtain⟨N,O,R,U⟩:=T.old k I J;exact .rp k a b v fun e he=>by obtain⟨q1,q2⟩:=hv e (U e he);exact⟨O q1,by rw[R];exact q2⟩
 | bx k a v hv=>
  have I:k≠i:=fun e=>by rw[kN,aG.2 e]at m;cases m
  have J:k≠d:=fun e=>by rw[kN,aG.2 e]at z;cases z
  obtain⟨N,O,R,U⟩:=T.old k I J;exact .bx k a v fun W=>⟨O (hv (N W)).1,by rw[R];exact (hv (N W)).2⟩
 | vw k a b v hv=>
  have I:k≠i:=fun e=>by rw[kN,aG.2 e]at m;cases m
  have J:k≠d:=fun e=>by rw[kN,aG.2 e]at z;cases z
  obtain⟨N,O,R,U⟩:=T.old k I J;exact .vw k a b v fun e he=>by obtain⟨q1,q2⟩:=hv e (U e he);exact⟨O q1,by rw[R];exact q2⟩
 | fn f cap vs hl hc ih=>exact .fn f cap vs hl fun j c u D Y=>ih j c u D Y (b9 m c (aj D)) (b9 z c (aj D))
 | tu xs vs hl hc ih=>exact .tu xs vs hl fun j c u D Y=>ih j c u D Y (b9 m c (aj D)) (b9 z c (aj D))
 | st xs vs hl h0 hc ih=>exact .st xs vs hl h0 fun j c u D Y=>ih j c u D Y (b9 m c (aj D)) (b9 z c (aj D))
 | ifp t a u hc ih=>exact .ifp t a u (ih m z)
 | junk v=>exact .junk v
theorem aE.rn{S:Nat->Prop}{w:World}{P:Program}{h:Nat->AB}{i:Nat}(T:rW L L' rho rho' h h' i d)(hid:i≠d\/∀k,k=d->¬(h' k).there ){x:AV}{v:Value}(hx:aE S w P L rho h x v):aE S w P L' rho' h' (rn i d x) v:=by
 have D:i=d->¬(h' d).there:=fun e=>hid.resolve_left (fun h=>h e) d rfl;cases hx with
 | p x v hx=>exact .p x v hx
 | nl=>exact .nl
 | ow k v hv=>
  unfold AM.rn;simp only;split
  ·rename_i m;have m:=aG.1 m;subst m;refine .ow d v fun J=>?_;by_cases e:k=d
   ·exact absurd J (D e)
   obtain⟨N,O,R,W⟩:=T.new e;exact⟨O (hv (N J)).1,by rw[R];exact (hv (N J)).2⟩
  rename_i m;split
  ·exact .junk v
  rename_i U;exact aE.ka T (.ow k v hv) (by simpa [kN] using m) (by simpa [kN] using U)
 | rp k a b v hv=>
  unfold AM.rn;simp only;split
  ·rename_i m;have m:=aG.1 m;subst m;refine .rp d a b v fun e Y=>?_;by_cases e':k=d
   ·exact absurd (fv Y) (D e')
   obtain⟨N,O,R,W⟩:=T.new e';obtain⟨q1,q2⟩:=hv e (W e Y);exact⟨O q1,by rw[R];exact q2⟩
  rename_i m;split
  ·exact .junk v
  rename_i U;exact aE.ka T (.rp k a b v hv) (by simpa [kN] using m) (by simpa [kN] using U)
 | vw k a b v hv=>
  unfold AM.rn;simp only;split
  ·rename_i m;have m:=aG.1 m;subst m;refine .vw d a b v fun e Y=>?_;by_cases e':k=d
   ·exact absurd (fv Y) (D e')
   obtain⟨N,O,R,W⟩:=T.new e';obtain⟨q1,q2⟩:=hv e (W e Y);exact⟨O q1,by rw[R];exact q2⟩
  rename_i m;split
  ·exact .junk v
  rename_i U;exact aE.ka T (.vw k a b v hv) (by simpa [kN] using m) (by simpa [kN] using U)
 | bx k a v hv=>
  unfold AM.rn;simp only;split
  ·rename_i m;have m:=aG.1 m;subst m;refine .bx d a v fun J=>?_;by_cases e:k=d
   ·exact absurd J (D e)
   obtain⟨N,O,R,W⟩:=T.new e;exact⟨O (hv (N J)).1,by rw[R];exact (hv (N J)).2⟩
  rename_i m;split
  ·exact .junk v
  rename_i U;exact aE.ka T (.bx k a v hv) (by simpa [kN] using m) (by simpa [kN] using U)
 | fn f cap vs hl hc=>
  unfold AM.rn;simp only;split
  ·exact .junk _
  rename_i z;simp only[vo]at z;exact .fn f cap vs hl fun j c u I Z=>(hc j c u I Z).ka T (b9 z.1 c (aj I)) (b9 z.2 c (aj I))
 | tu xs vs hl hc=>
  unfold AM.rn;simp only;split
  ·exact .junk _
  rename_i z;simp only[vo]at z;exact .tu xs vs hl fun j c u I Z=>(hc j c u I Z).ka T (b9 z.1 c (aj I)) (b9 z.2 c (aj I))
 | st xs vs hl h0 hc=>
  unfold AM.rn;simp only;split
  ·exact .junk _
  rename_i z;simp only[vo]at z;exact .st xs vs hl h0 fun j c u I Z=>(hc j c u I Z).ka T (b9 z.1 c (aj I)) (b9 z.2 c (aj I))
 | ifp t a u hc=>
  unfold AM.rn;simp only;split
  ·exact .junk _
  rename_i z;simp only[vo]at z;exact .ifp t a u (hc.ka T z.1 z.2)
 | junk v=>exact .junk v
theorem mY.rn{S:Nat->Prop}{w:World}{P:Program}{h:Nat->AB}{i:Nat}(T:rW L L' rho rho' h h' i d)(hid:i≠d){l:List (Nat×List HC)}{out:List (Nat×FX)}(I:mY S w P L rho h l out):mY S w P L' rho' h' l (tw (Of i d) out):=by
 refine⟨fun m g cs D J=>I.mem m g cs D (e_.1 J),fun m m' g g' cs dB k D mD J u_=>I.dis m m' g g' cs dB k D mD (e_.1 J) (e_.1 u_),fun m n g cs D hl Y=>?_⟩;obtain⟨y,Z,u⟩:=rU D;cases y with
 | none=>cases u
 | some n'=>
  unfold Of at u;simp only at u;split at u
  ·rename_i z;have z:=aG.1 z;subst z;injection u with u;subst u;obtain⟨N,O,R,_⟩:=T.new hid;obtain⟨U,W⟩:=I.out m n' g cs Z hl (N Y);exact⟨O U,R.trans W⟩
  rename_i z;split at u
  ·cases u
  rename_i iS;injection u with u;subst u;obtain⟨N,O,R,_⟩:=T.old n (fun e=>by rw[aG.2 e]at z;cases z) (fun e=>by rw[aG.2 e]at iS;cases iS);obtain⟨U,W⟩:=I.out m n g cs Z hl (N Y);exact⟨O U,R.trans W⟩
theorem mY.sc{S:Nat->Prop}{w:World}{P:Program}{h:Nat->AB}(T:rW L L' rho rho h h' d d){l:List (Nat×List HC)}{out:List (Nat×FX)}(D:mY S w P L rho h l out):mY S w P L' rho h' l (tw (Kr d) out):=by
 refine⟨fun m g cs z I=>D.mem m g cs z (e_.1 I),fun m O g R cs U k z W I Y=>D.dis m O g R cs U k z W (e_.1 I) (e_.1 Y),fun m n g cs z hl Z=>?_⟩;obtain⟨y,k1,u⟩:=rU z;cases y with
 | none=>cases u
 | some n'=>
  unfold Kr at u;simp only at u;split at u
  ·cases u
  rename_i J;injection u with u;subst u;have N:n≠d:=fun e=>by rw[aG.2 e]at J;cases J
  obtain⟨t1,t2,t3,_⟩:=T.old n N N;obtain⟨t4,t5⟩:=D.out m n g cs k1 hl (t1 Z);exact⟨t2 t4,t5⟩
theorem AO{w:World}(i d:Nat)(b:AB)(v:Value)(g:Nat):hasB w (D5 i d b) v g↔hasB w b v g:=by
 cases b with
 | ai e es=>exact pk
 | cell c0 ty a=>exact⟨fun h=>.inl (al rfl h),fun h=>.inl (al rfl h)⟩
 | fam l out=>exact pj
 | box cs=>exact⟨fun h=>.inl (al rfl h),fun h=>.inl (al rfl h)⟩
 | eN ty cs=>exact⟨fun h=>.inl (al rfl h),fun h=>.inl (al rfl h)⟩
 | _=>exact dU
variable {A:jR} {s:AS}
theorem aU.rename{S:Nat->Prop}{a:Act}{w:World}(m:aU A bk bk S rho s a w)(i d:Nat)(hid:i≠d)(hdb:d<100000):aU A bk bk S (fun j=>if j=d then rho i else rho j) (iT i d s) a w:=by
 have hd:(iT i d s).h d=D5 i d (s.h i):=by simp[iT,bB]
 have hi:(iT i d s).h i=.none:=by
  have:bB i d=false:=by rw[cr];intro e;exact hid (aG.1 e)
  simp only[iT,this,aG.2 rfl]
 have ho:∀k,k≠i->k≠d->(iT i d s).h k=D5 i d (s.h k):=fun k D I=>by
  have e1:bB k d=false:=by rw[cr];intro e;exact I (aG.1 e)
  have e2:bB k i=false:=by rw[cr];intro e;exact D (aG.1 e)
  simp[iT,e1,e2]
 have row:∀b e,(D5 i d b).fD=some e->b.fD=some e:=fun b e h=>by cases b<;>exact h
 have T:rW bk bk rho (fun j=>if j=d then rho i else rho j) s.h (iT i d s).h i d:=
  ⟨fun k D I=>by rw[ho k D I];exact⟨(pw _ _ _).1,fun h=>h,af I,row _⟩,fun _=>by rw[hd];exact⟨(pw _ _ _).1,fun h=>h,ae rfl,row _⟩⟩
 have Og:∀k,((iT i d s).h k).live->∃J,(s.h J).live/\(if k=d then rho i else rho k)=rho J/\(J=if k=d then i else k)/\∀v g,hasB w ((iT i d s).h k) v g↔hasB w (s.h J) v g:=by
  intro k hl;by_cases e:k=d
  ·subst e;rw[hd,xv]at hl;exact⟨i,hl,ae rfl,(ae rfl).symm,fun v g=>by rw[hd,AO]⟩
  by_cases e':k=i
  ·subst e';rw[hi]at hl;exact hl.elim
  rw[ho k e' e,xv]at hl;exact⟨k,hl,af e,(af e).symm,fun v g=>by rw[ho k e' e,AO]⟩
 have W:∀k b,cd S w A.C.P bk rho s.h k b->∀J,(if J=d then rho i else rho J)=rho k->cd S w A.C.P bk (fun j=>if j=d then rho i else rho j) (iT i d s).h J (D5 i d b):=by
  intro k b hb J O;cases b with
  | none=>trivial
  | row e es=>show an _ _ _ _ _ (if J=d then rho i else rho J);rw[O];exact hb
  | f_ es=>show ay _ _ _ (if J=d then rho i else rho J);rw[O];exact hb
  | jt es=>show ay _ _ _ (if J=d then rho i else rho J);rw[O];exact hb
  | map mk es=>
   obtain⟨g,ms,N,D,I⟩:=hb;exact⟨g,ms,N,by simp only;rw[O];exact D,I⟩
  | iter mk es n cur=>
   obtain⟨g,mg,ms,N,Z,D,I⟩:=hb;exact⟨g,mg,ms,N,Z,by simp only;rw[O];exact D,I⟩
  | box cs=>
   obtain⟨g,ty,c,D,I,R,U⟩:=hb;refine⟨g,ty,c,by simp only;rw[O];exact D,I,by simpa using R,fun j x u Y hu=>?_⟩;rw[ao]at Y;obtain⟨z,hz,rfl⟩:=az.1 Y;exact⟨(U j z u hz hu).1,(U j z u hz hu).2.rn T (.inl hid)⟩
  | eN ty cs=>
   obtain⟨g,c,D,I,R,U⟩:=hb;refine⟨g,c,by simp only;rw[O];exact D,I,by simpa using R,fun j x u Y hu=>?_⟩;rw[ao]at Y;obtain⟨z,hz,rfl⟩:=az.1 Y;exact⟨(U j z u hz hu).1,(U j z u hz hu).2.rn T (.inl hid)⟩
  | cell c0 ty a=>
   obtain⟨g,off,v,D,I,R,U,h5⟩:=hb;exact⟨g,off,v,by simp only;rw[O];exact D,I,R,U,h5.rn T (.inl hid)⟩
  | fam l out=>
   obtain⟨D,hF⟩:=hb;exact⟨by simp only;rw[O];exact D,hF.rn T hid⟩
  | aA cs=>
   obtain⟨g,ty,c,D,I⟩:=hb;exact⟨g,ty,c,by simp only;rw[O];exact D,I⟩
  | ai e es=>
   obtain⟨D,I⟩:=hb;show an _ _ _ _ _ (if J=d then rho i else rho J)/\kU _ _ (if J=d then rho i else rho J);rw[O];refine⟨an.map D fun x u hx=>?_,I.map⟩;cases x with
   | av x=>exact aE.rn T (.inl hid) hx
   | row e' bW=>exact hx
 exact
 {tm:=fun j Y=>(m.tm j Y).rn T (.inl hid)
  sz:=m.sz,df:=m.df,nb:=m.nb,pn:=fun id h=>by show (if id=d then rho i else rho id)=_;rw[af (by omega)];exact m.pn id h,ev:=m.ev,s0:=m.s0,st:=m.st,sb:=m.sb
  hp:=fun k _=>by
   by_cases e:k=d
   ·subst e;rw[hd];exact W i _ (m.hp i trivial) k (ae rfl)
   by_cases e':k=i
   ·subst e';rw[hi];trivial
   rw[ho k e' e];exact W k _ (m.hp k trivial) k (af e)
  dj:=fun a b g _ _ la lb ha hb=>by
   obtain⟨a',D,I,R,h7⟩:=Og a la;obtain⟨b',U,h5,h6,h8⟩:=Og b lb;have:=m.dj a' b' g trivial trivial D U (by rw[<-h7,<-I];exact ha) (by rw[<-h8,<-h5];exact hb);rw[R,h6]at this;by_cases ea:a=d<;>by_cases eb:b=d
   ·rw[ea,eb]
   ·rw[ae ea,af eb]at this;rw[<-this]at lb;rw[hi]at lb;exact lb.elim
   ·rw[af ea,ae eb]at this;rw[this]at la;rw[hi]at la;exact la.elim
   rwa [af ea,af eb]at this
  lv:=fun k g _ lk O=>by
   obtain⟨J,D,I,_,R⟩:=Og k lk;exact m.lv J g trivial D (by rw[<-R,<-I];exact O)
  fr:=m.fr }
theorem aE.sc{S:Nat->Prop}{w:World}{P:Program}{h:Nat->AB}(T:rW L L' rho rho h h' d d){x:AV}{v:Value}(u:aE S w P L rho h x v):aE S w P L' rho h' (sc d x) v:=by
 rw[D6];split
 ·exact .junk v
 rename_i m;exact u.ka T m m
theorem Cg(d:Nat)(b:AB):(qX d b).there↔b.there:=by cases b<;>rfl
theorem oq(d:Nat)(b:AB):(qX d b).live↔b.live:=by cases b<;>rfl
theorem qY{w:World}(d:Nat)(b:AB)(v:Value)(g:Nat):hasB w (qX d b) v g↔hasB w b v g:=by
 cases b with
 | ai e es=>exact pk
 | cell c0 ty a=>exact⟨fun h=>.inl (al rfl h),fun h=>.inl (al rfl h)⟩
 | fam l out=>exact pj
 | box cs=>exact⟨fun h=>.inl (al rfl h),fun h=>.inl (al rfl h)⟩
 | eN ty cs=>exact⟨fun h=>.inl (al rfl h),fun h=>.inl (al rfl h)⟩
 | _=>exact dU
theorem aU.HM{S:Nat->Prop}{a:Act}{w:World}(m:aU A bk L S rho s a w)(d:Nat)(b:AB):aU A bk (fun k=>L k/\k≠d) S rho ⟨(dH d s).t,ax (dH d s).h d b⟩ a w:=by
 have N:∀k,k≠d->ax (dH d s).h d b k=qX d (s.h k):=fun k W=>by rw[au _ _ W];show ax (fun k=>qX d (s.h k)) d AB.none k=_;rw[au _ _ W]
 have row:∀x e,(qX d x).fD=some e->x.fD=some e:=fun x e h=>by cases x<;>exact h
 have T:rW L (fun k=>L k/\k≠d) rho rho s.h (ax (dH d s).h d b) d d:=
  ⟨fun k I _=>by rw[N k I];exact⟨(Cg _ _).1,fun h=>⟨h,I⟩,rfl,row _⟩,fun h=>absurd rfl h⟩
 exact
 {tm:=fun j J=>(m.tm j J).sc T
  sz:=m.sz,df:=m.df,nb:=m.nb,pn:=m.pn,ev:=m.ev,s0:=m.s0,st:=m.st,sb:=m.sb
  hp:=fun k W=>by
   show cd _ _ _ _ _ _ _ (ax (dH d s).h d b k);rw[N k W.2];have D:=m.hp k W.1;cases hb:s.h k with
   | none=>trivial
   | row e es=>rw[hb]at D;exact D
   | f_ es=>rw[hb]at D;exact D
   | jt es=>rw[hb]at D;exact D
   | map mk es=>rw[hb]at D;exact D
   | iter mk es n cur=>rw[hb]at D;exact D
   | box cs=>
    rw[hb]at D;obtain⟨g,ty,c,I,O,Y,R⟩:=D;refine⟨g,ty,c,I,O,by simpa using Y,fun j x u J Z=>?_⟩;rw[ao]at J;obtain⟨z,hz,rfl⟩:=az.1 J;exact⟨(R j z u hz Z).1,(R j z u hz Z).2.sc T⟩
   | eN ty cs=>
    rw[hb]at D;obtain⟨g,c,I,O,Y,R⟩:=D;refine⟨g,c,I,O,by simpa using Y,fun j x u J Z=>?_⟩;rw[ao]at J;obtain⟨z,hz,rfl⟩:=az.1 J;exact⟨(R j z u hz Z).1,(R j z u hz Z).2.sc T⟩
   | aA cs=>rw[hb]at D;exact D
   | cell c0 ty a=>
    rw[hb]at D;obtain⟨g,off,v,I,O,Y,R,h5⟩:=D;exact⟨g,off,v,I,O,Y,R,h5.sc T⟩
   | fam l out=>
    rw[hb]at D;obtain⟨I,hF⟩:=D;exact⟨I,hF.sc T⟩
   | ai e es=>
    rw[hb]at D;obtain⟨I,O⟩:=D;refine⟨an.map I fun x u hx=>?_,O.map⟩;cases x with
    | av x=>exact aE.sc T hx
    | row e' bW=>exact hx
  dj:=fun i j g U J li lj cK dW=>by
   have fE:(ax (dH d s).h d b i).live:=li;have Lv:(ax (dH d s).h d b j).live:=lj;have cK:hasB w (ax (dH d s).h d b i) (rho i) g:=cK;have dW:hasB w (ax (dH d s).h d b j) (rho j) g:=dW;rw[N i U.2,oq]at fE;rw[N j J.2,oq]at Lv;rw[N i U.2,qY]at cK;rw[N j J.2,qY]at dW;exact m.dj i j g U.1 J.1 fE Lv cK dW
  lv:=fun i g U li hg=>by
   have fE:(ax (dH d s).h d b i).live:=li;have hg:hasB w (ax (dH d s).h d b i) (rho i) g:=hg;rw[N i U.2,oq]at fE;rw[N i U.2,qY]at hg;exact m.lv i g U.1 fE hg
  fr:=m.fr }
theorem aU.jF{V V' S:Nat->Prop}{a:Act}{w:World}(m:aU A V L S rho s a w)(u:∀j,V' j->V j)(z:∀i,L' i↔L i):aU A V' L' S rho s a w:=by
 have e:L'=L:=funext fun i=>propext (z i);subst e;exact { m with tm:=fun j D=>m.tm j (u j D) }
theorem aU.AP{V S:Nat->Prop}{a:Act}{w:World}(d:Nat)(m:aU A V (fun k=>k≠d) S rho s a w)(D:s.h d=.none):aU A V bk S rho s a w:=by
 have T:fu S S w w (fun k=>k≠d) bk rho rho s.h s.h:=⟨fun b h=>h,fun _ _=>rfl,fun k z=>⟨z,fun _=>⟨trivial,rfl⟩⟩,fun k e h=>h⟩;have nl:∀k,(s.h k).live->k≠d:=fun k z e=>by rw[e,D]at z;exact z
 exact
 {tm:=fun j J=>(m.tm j J).bA T
  sz:=m.sz,df:=m.df,nb:=m.nb,pn:=m.pn,ev:=m.ev,s0:=m.s0,st:=m.st,sb:=m.sb
  hp:=fun k _=>by
   by_cases e:k=d
   ·subst e;rw[D];trivial
   exact (m.hp k e).bA T (fun _ _ _=>rfl) (fun _=>rfl)
  dj:=fun i j g _ _ u I=>m.dj i j g (nl i u) (nl j I) u I
  lv:=fun i g _ u=>m.lv i g (nl i u) u
  fr:=m.fr }
theorem aU.free{S:Nat->Prop}{a:Act}{w:World}(m:aU A bk bk S rho s a w)(d:Nat)(b:AB):aU A bk (fun k=>k≠d) S rho ⟨(dH d s).t,ax (dH d s).h d b⟩ a w:=
 (m.HM d b).jF (fun _ _=>trivial) (fun _=>⟨fun h=>⟨trivial,h⟩,fun h=>h.2⟩)
def ly:Op->Bool
 | .box _ _ | .alloc _ | .buildSlice _ _ _ | .makeSlice _ _ _ | .makeMap _ _ | .range _ _=>true
 | .call c=>match c.callee with
  | .builtin .append=>true
  | .value _=>true
  | _=>false
 | _=>false
def jA(h:Nat->AB)(d:Nat):Option AB->Nat->AB
 | none=>h
 | some b=>ax h d b
def rX:AV->Bool
 | .p (.sl [])=>true
 | _=>false
def IX:AV->Bool
 | .nl=>true
 | _=>false
def Oh:BinOp->Bool
 | .eql=>true
 | .neq=>true
 | _=>false
def Gi(C:Ctx)(o:Oper)(t:Nat->AV):Bool:=match o.op with
 | .binOp op ty x y _=>Oh op&&IX (ev t y)&&rX (ev t x)&&(match C.T ty with
  | some { ud:=.sl _,.. }=>true
  | _=>false)
 | _=>false
def AQ(d:Option Tmp)(v:AV)(K:AS->Prop)(s:AS):Prop:=match v with
 | .bx id 0=>match s.h id with
  | .iter mk es k _=>(k=0->K ⟨cU s.t d (.tu [.p (.im (.bool false))]),s.h⟩)/\∀(i:Nat) (p:Value×Value) (k':Nat),es[i]?=some p->k' < k->K ⟨cU s.t d (.tu [.p (.im (.bool true)),.p (.im p.1),.p (.im p.2)]),ax s.h id (.iter mk es k' (some p))⟩
  | _=>False
 | _=>False
def rY(C:Ctx)(o:Oper)(K:AS->Prop)(s:AS):Prop:=
 match ly o.op with
 | true=>aZ C o (ev (dH (o.dst.getD 0) s).t) (dH (o.dst.getD 0) s).h fun v eff new=>K ⟨cU (dH (o.dst.getD 0) s).t o.dst v,match new with
   | none=>ax (app (dH (o.dst.getD 0) s).h eff) (o.dst.getD 0) .none
   | some b=>app (ax (dH (o.dst.getD 0) s).h (o.dst.getD 0) b) eff⟩
 | false=>match o.op,o.dst with
  | .assign x,some d=>match ev s.t x with
   | .ow i=>match s.h i with
    | .row _ _=>match bB i d with
     | true=>K ⟨ax s.t d (.ow i),s.h⟩
     | false=>K ⟨ax (iT i d s).t d (.ow d),(iT i d s).h⟩
    | .ai _ _=>match bB i d with
     | true=>K ⟨ax s.t d (.ow i),s.h⟩
     | false=>K ⟨ax (iT i d s).t d (.ow d),(iT i d s).h⟩
    | _=>K ⟨ax s.t d (.ow i),s.h⟩
   | v=>K ⟨ax s.t d v,s.h⟩
  | .next x false,d=>AQ d (ev s.t x) K s
  | _,_=>aZ C o (ev s.t) s.h fun v eff new=>match new with
   | none=>K ⟨cU s.t o.dst v,app s.h eff⟩
   | some _=>False
def step(C:Ctx)(o:Oper)(K:AS->Prop)(s:AS):Prop:=match Gi C o s.t with
 | true=>K ⟨cU s.t o.dst (.p (.im (.bool true))),s.h⟩/\K ⟨cU s.t o.dst (.p (.im (.bool false))),s.h⟩
 | false=>match nq C o with
  | true=>nS C o K s
  | false=>rY C o K s
def gP(o:Oper)(n:Nat):Prop:=∀d,o.dst=some d->d<n
theorem xw(hC:aL A.C){o:Oper}{S:Nat->Prop}{a:Act}{w:World}{K:AS->Prop}{next:Act->World->Prop}{Q:Exit->Act->World->Prop}(W:gP o A.n)(D:aU A bk bk S rho s a w)(z:rY A.C o K s)
  (m:∀s' S' rho' a' w',K s'->aU A bk bk S' rho' s' a' w'->next a' w'):o.wp A.C.P a w next Q:=by
 have plain:∀K':KK,aZ A.C o (ev s.t) s.h K'->(∀v eff b,¬K' v eff (some b))->(∀v eff,K' v eff none->K ⟨cU s.t o.dst v,app s.h eff⟩)->o.wp A.C.P a w next Q:=by
  intro K' z N h2;refine D0 A o _ _ _ _ _ _ _ K' next Q hC D (fun _ _=>trivial) W z (fun v eff b h=>absurd h (N v eff b)) fun v eff new S' rho' a' w' U aQ=>?_
  cases new with
  | some b=>exact absurd U (N v eff b)
  | none=>exact m _ _ _ _ _ (h2 v eff U) (aQ.jF (fun _ _=>.inl trivial) (fun _=>dU))
 unfold rY at z;split at z
 ·have Oi:∀n,Ext (dH (o.dst.getD 0) s).h (jA (dH (o.dst.getD 0) s).h (o.dst.getD 0) n):=fun n k=>by
   cases n with
   | none=>exact .inr rfl
   | some b=>
    by_cases e:k=o.dst.getD 0
    ·subst e;exact .inl (by show ax (fun k=>qX (o.dst.getD 0) (s.h k)) _ AB.none _=_;rw[ak])
    exact .inr (au _ _ e)
  obtain⟨v,eff,new,U,It⟩:=l6 (fun _=>.inr rfl) z;obtain⟨v2,e2,n2,⟨rfl,rfl,rfl⟩,yE⟩:=l6 (Oi new) (It (fun v' e' n'=>v'=v/\e'=eff/\n'=new) ⟨rfl,rfl,rfl⟩);have kY:=yE (fun v' e' n'=>v'=v2/\e'=e2/\n'=n2) ⟨rfl,rfl,rfl⟩;have gQ:aU A bk (fun k=>k≠o.dst.getD 0) S rho ⟨(dH (o.dst.getD 0) s).t,jA (dH (o.dst.getD 0) s).h (o.dst.getD 0) n2⟩ a w:=by
   have:=D.free (o.dst.getD 0) (match n2 with | none=>.none | some b=>b);cases n2 with
   | some b=>exact this
   | none=>
    have e:ax (dH (o.dst.getD 0) s).h (o.dst.getD 0) .none=(dH (o.dst.getD 0) s).h:=eX _ _ _ (by show ax (fun k=>qX (o.dst.getD 0) (s.h k)) _ AB.none _=_;rw[ak]);simp only at this;rw[e]at this;exact this
  refine D0 A o _ _ _ _ _ _ _ _ next Q hC gQ (fun _ _=>trivial) W kY (fun v eff b h=>?_) fun v eff new S' rho' a' w' mF aQ=>?_
  ·obtain⟨_,_,rfl⟩:=h;exact⟨fun h=>h rfl,ak _ _ _⟩
  obtain⟨rfl,rfl,rfl⟩:=mF;refine m _ S' rho' _ _ U ?_;cases new with
  | some b=>exact aQ.jF (V':=bk) (L':=bk) (fun _ _=>.inl trivial) (fun k=>⟨fun _=>by by_cases e:k=o.dst.getD 0;exact .inr e;exact .inl e,fun _=>trivial⟩)
  | none=>exact ((aQ.kill (o.dst.getD 0)).AP _ (ak _ _ _)).jF (fun _ _=>.inl trivial) (fun _=>dU)
 split at z
 ·rename_i x d aq hZ;have run:(execOp a.eval o).run A.C.P w=.ok (.value (a.eval x)) w:=by simp[execOp,aq]
  have Z:=aH D x (fun _ _=>trivial);have same:∀v,ev s.t x=v->K ⟨ax s.t d v,s.h⟩->o.wp A.C.P a w next Q:=fun v J U=>by
   refine bS run (m _ S rho _ _ U ?_);have:=(D.value o.dst W v _ (by rw[<-J];exact Z)).jF (V':=bk) (L':=bk) (fun _ _=>.inl trivial) (fun _=>dU);rw[hZ]at this ⊢;exact this
  have ez:∀i,ev s.t x=.ow i->bB i d=false->K ⟨ax (iT i d s).t d (.ow d),(iT i d s).h⟩->o.wp A.C.P a w next Q:=fun i R bO z=>by
     have hid:i≠d:=fun e=>by rw[aG.2 e]at bO;cases bO
     refine bS run (m _ S (fun j=>if j=d then rho i else rho j) _ _ z ?_);have gQ:=D.rename i d hid (bg (W d hZ) D.nb);have Oj:aE S w A.C.P bk (fun j=>if j=d then rho i else rho j) (iT i d s).h (.ow d) (a.eval x):=by
      rw[R]at Z;refine .ow d _ fun ht=>⟨trivial,?_⟩;have:(s.h i).there:=by simpa [iT,aG.2 rfl,pw] using ht
      rw[(Z.bu this).2];simp
     have:=(gQ.value o.dst W (.ow d) _ Oj).jF (V':=bk) (L':=bk) (fun _ _=>.inl trivial) (fun _=>dU);rw[hZ]at this ⊢;exact this
  split at z
  ·rename_i i R;split at z
   ·split at z
    ·exact same _ R z
    rename_i bO;exact ez i R bO z
   ·split at z
    ·exact same _ R z
    rename_i bO;exact ez i R bO z
   exact same _ R z
  exact same _ rfl z
 ·rename_i x aq;have Z:=aH D x (fun _ _=>trivial);unfold AQ at z;split at z
  case h_2=>exact z.elim
  rename_i id hid;split at z
  case h_2=>exact z.elim
  rename_i mk es k cur Y;rw[hid]at Z;obtain⟨hL,g',eY,J⟩:=Z.dt (by rw[Y];trivial);have hh:=D.hp id hL;rw[Y]at hh;obtain⟨g,mg,ms,u,I,N,h2,h3,h4,h5,h6,_⟩:=hh;have eg:g'=g:=by rw[eY]at N;injection N with N;injection N with N;injection N
  subst eg;rcases run_next_at (P:=A.C.P) w o.type g' mg u I ms h2 h4 h5.2.2.2 with⟨q1,q2⟩ | ⟨e,he,w1,q1,q2,q3,q4,q5⟩
  ·refine bS (by simp only[execOp,aq,J,aI,q2,br,ct];rfl) (m _ S rho _ _ (z.1 (by rw[<-h6,q1])) ((D.value o.dst W _ _ (.tu _ _ rfl fun i c v O J=>?_)).jF (V':=bk) (L':=bk) (fun _ _=>.inl trivial) (fun _=>dU)))
   match i with
   | 0=>simp at O J;subst O J;exact .p _ _ (.im _)
   | i+1=>simp at O
  have PT:e∈ms.toList:=by
   have:=he;simp[leftOf]at this;simpa using this.1
  obtain⟨i,R⟩:=List.getElem?_of_mem PT;have hX:i<es.length:=by rw[<-h5.1];have:=(cL.1 R).1;simpa using this
  obtain⟨p,hp⟩:∃p,es[i]?=some p:=⟨_,aM hX⟩;obtain⟨k1,k2,k3⟩:=h5.2.1 i p e hp (by simpa using R);have aN:(s.h id).live:=by rw[Y];trivial
  obtain⟨g1,g2⟩:=MapKept.heap_set (o':=.mapIter (some mg) u (I.push e.born) u) h2;have Ru:mg≠g':=fun e=>by rw[e,h2]at h4;cases h4
  have cF:=D.write hC id hL aN (.iter mk es (leftOf ms (I.push e.born)).size (some p)) (fun _ h=>by cases h) { w1 with heap:=w.heap.setIfInBounds g' (.mapIter (some mg) u (I.push e.born) u) } q2 q3 q4 (by simp) (fun k U=>g2 k fun e=>U (by rw[N,e];rfl)) fun T=>
   ⟨g',mg,ms,u,I.push e.born,N,g1,h3,(g2 mg Ru).trans h4,h5,rfl,fun p' FC=>by cases FC;exact⟨e,PT,I,rfl,k1,k3⟩⟩
  refine bS (by simp only[execOp,aq,J,aI,q5,br,ct];rfl) (m _ S rho _ _ (z.2 i p _ hp (by rw[<-h6];exact BS he)) ((cF.value o.dst W _ _ (.tu _ _ rfl fun i c v O J=>?_)).jF (V':=bk) (L':=bk) (fun _ _=>.inl trivial) (fun _=>dU)))
  match i with
  | 0=>simp at O J;subst O J;exact .p _ _ (.im _)
  | 1=>simp at O J;subst O J;rw[k1];exact .p _ _ (.im _)
  | 2=>simp at O J;subst O J;rw[k3];exact .p _ _ (.im _)
  | i+3=>simp at O
 refine plain _ z (fun v eff b h=>h) (fun v eff h=>h)
theorem vv{x:AV}(h:rX x=true):x=.p (.sl []):=by
 unfold rX at h;split at h
 ·rfl
 cases h
theorem D7{x:AV}(h:IX x=true):x=.nl:=by unfold IX at h;split at h;rfl;cases h
theorem zk(hC:aL A.C){o:Oper}{S:Nat->Prop}{a:Act}{w:World}{K:AS->Prop}{next:Act->World->Prop}{Q:Exit->Act->World->Prop}(J:gP o A.n)(u:aU A bk bk S rho s a w)(z:step A.C o K s)
  (m:∀R S' rho' U w',K R->aU A bk bk S' rho' R U w'->next U w'):o.wp A.C.P a w next Q:=by
 unfold step at z;split at z
 ·rename_i D;unfold Gi at D;split at D
  ·rename_i op ty x y Sz W;simp only[aw]at D;obtain⟨⟨⟨h1,h3⟩,h2⟩,Y⟩:=D;split at Y
   case h_2=>cases Y
   rename_i e size bytes zero eq hT;have N:=(hC.eL ty _ hT).under;simp only at N;have Z:=aH u x (fun _ _=>trivial);have O:=aH u y (fun _ _=>trivial);rw[vv h2]at Z;rw[D7 h3]at O;obtain⟨ad,c,hv,_⟩:=Z.cb.j5;have qb:a.eval y=.slice none 0 0:=by generalize a.eval y=v at O;cases O;rfl
   have fin:∀b:Bool,(execOp a.eval o).run A.C.P w=.ok (.value (.bool b)) w->o.wp A.C.P a w next Q:=fun b I=>by
    refine bS I (m ⟨cU s.t o.dst (.p (.im (.bool b))),s.h⟩ S rho _ _ ?_ ?_)
    ·cases b
     ·exact z.2
     exact z.1
    exact (u.value o.dst J (.p (.im (.bool b))) _ (.p _ _ (.im _))).jF (V':=bk) (L':=bk) (fun _ _=>.inl trivial) (fun _=>dU)
   cases op<;>first | (cases h1;done) | skip
   ·refine fin ad.isNone ?_;simp[execOp,W,hv,qb,eqGuard,binOp,dL _ _ _ _ _ _ N]
   refine fin (!ad.isNone) ?_;simp[execOp,W,hv,qb,eqGuard,binOp,dL _ _ _ _ _ _ N]
  cases D
 split at z
 ·exact D4 hC J u z m
 exact xw hC J u z m
end Go.AM
namespace Go.AM
open Go.RowKit
def kF(b:Bool)(p q:Prop):Prop:=match b with
 | true=>p
 | false=>q
def fP(b:Bool):AV:=.p (.im (.bool b))
def mK:AV:=.p (.im undef)
def D8:Value->Option Bool
 | .bool b=>some b
 | _=>none
def Lw(v:Value)(want:Bool):Bool:=D8 v==some want
def kO(C:Ctx)(all:List Oper):List Oper->(AS->Prop)->AS->Prop
 | [],K,s=>K s
 | o::r,K,s=>match o.guard with
  | none=>step C o (kO C all r K) s
  | some (g,want)=>match all[g]? with
   | none=>False
   | some og=>match og.dst with
    | none=>False
    | some tg=>match s.t tg with
     | .p (.im (.bool b))=>kF b
       (match want with
        | true=>step C o (kO C all r K) ⟨ax s.t tg (fP true),s.h⟩
        | false=>kO C all r K ⟨cU (ax s.t tg (fP true)) o.dst mK,s.h⟩)
       (match want with
        | false=>step C o (kO C all r K) ⟨ax s.t tg (fP false),s.h⟩
        | true=>kO C all r K ⟨cU (ax s.t tg (fP false)) o.dst mK,s.h⟩)
     | .p (.im (.tuple _))=>kO C all r K ⟨cU s.t o.dst mK,s.h⟩
     | _=>False
variable {A:jR} {s:AS}
theorem kb{V L S:Nat->Prop}{rho:Nat->Value}{a:Act}{w:World}(u:aU A V L S rho s a w){ops:Array Oper}{g m:Nat}{z:Oper}{v:Value}(J:ops[g]?=some z)(N:z.dst=some m)(O:V m)(R:s.t m=.p (.im v)):yielded ops a.tmps g=D8 v:=by
 have D:=u.tm m O;rw[R]at D;have I:a.tmps.getD m undef=v:=D.bc;rw[lU]at I;subst I;unfold yielded D8;rw[J];simp only[Option.bind_some,N];cases h:a.tmps[m]? with
 | none=>rfl
 | some v=>simp only[Option.getD_some];split<;>simp_all
theorem zl(hC:aL A.C){ops:Array Oper}{Q:Exit->Act->World->Prop}{K:AS->Prop}(cG:∀s S rho a w,K s->aU A bk bk S rho s a w->Q .normal a w):
  ∀(l:List Oper) (k:Nat) (s:AS) (S:Nat->Prop) (rho:Nat->Value) (a:Act) (w:World),(∀j,l[j]?=ops[k+j]?)->(∀o∈l,gP o A.n)->kO A.C ops.toList l K s->aU A bk bk S rho s a w->wpOps A.C.P ops Q (List.range' k l.length) a w:=by
 intro l
 induction l with
 | nil=>intro k s S rho a w _ _ u m;exact cG s S rho a w u m
 | cons o l ih=>
  intro k s S rho a w hl O u m;have h0:ops[k]?=some o:=by simpa using (hl 0).symm
  have R:∀j,l[j]?=ops[k+1+j]?:=fun j=>by have:=hl (j+1);simpa [gv,Nat.add_comm 1 j] using this
  have U:∀o∈l,gP o A.n:=fun o ho=>O o (by simp[ho]);have W:=O o (by simp);rw[cD,List.range'_succ];simp only[wpOps,h0];have run:∀(s:AS),step A.C o (kO A.C ops.toList l K) s->aU A bk bk S rho s a w->o.wp A.C.P a w (wpOps A.C.P ops Q (List.range' (k+1) l.length)) Q:=fun s hs m=>
   zk hC W m hs fun s' S' rho' a' w' hk aQ=>ih (k+1) s' S' rho' a' w' R U hk aQ
  have skip:∀(t:Nat->AV),kO A.C ops.toList l K ⟨cU t o.dst mK,s.h⟩->aU A bk bk S rho ⟨t,s.h⟩ a w->wpOps A.C.P ops Q (List.range' (k+1) l.length) (a.put o.dst undef) w:=fun t hs m=>by
   have:=(m.value o.dst W mK undef (.p _ _ (.im _))).jF (V':=bk) (L':=bk) (fun _ _=>.inl trivial) (fun _=>dU);exact ih (k+1) _ S rho _ w R U hs this
  unfold kO at u;split at u
  ·rename_i D;rw[ae (by simp[Region.wanted,D])];exact .inl (run s u m)
  rename_i g z D;split at u
  ·exact u.elim
  rename_i og Y;split at u
  ·exact u.elim
  rename_i tg Z;split at u
  ·rename_i b hb;have J:=kb m (ops:=ops) (g:=g) (by simpa using Y) Z trivial hb;have I:∀b',b=b'->ax s.t tg (fP b')=s.t:=fun b' e=>eX _ _ _ (by rw[hb,e];rfl);have N:Region.wanted o (yielded ops a.tmps)=(some b==some z):=by simp[Region.wanted,D,J,D8]
   rw[N];cases b<;>cases z<;>simp only[kF]at u
   ·rw[I false rfl]at u;rw[ae (by decide)];exact .inl (run s u m)
   ·rw[I false rfl]at u;rw[af (by decide)];exact skip s.t u m
   ·rw[I true rfl]at u;rw[af (by decide)];exact skip s.t u m
   rw[I true rfl]at u;rw[ae (by decide)];exact .inl (run s u m)
  ·rename_i q hb;have J:=kb m (ops:=ops) (g:=g) (by simpa using Y) Z trivial hb;have N:Region.wanted o (yielded ops a.tmps)=false:=by simp[Region.wanted,D,J,D8]
   rw[N,af (by decide)];exact skip s.t u m
  exact u.elim
def W(A:jR)(c:Code)(K:Exit->AS->Prop)(s:AS):Prop:=
 ∀S rho a w,aU A bk bk S rho s a w->c.wp A.C.P (fun e a' w'=>∃S' rho' s',aU A bk bk S' rho' s' a' w'/\K e s') a w
theorem Lz{x y:Code}{K:Exit->AS->Prop}(h:W A x (fun e m=>match e with | .normal=>W A y K m | e=>K e m) s):W A (.seq x y) K s:=by
 intro S rho a w D;refine wp_seq (wp_mono (h S rho a w D) fun e I w' J=>?_);obtain⟨S',rho',m,u,z⟩:=J;cases e with
 | normal=>exact z S' rho' I w' u
 | exit id=>exact⟨S',rho',m,u,z⟩
 | goto l=>exact⟨S',rho',m,u,z⟩
 | ret=>exact⟨S',rho',m,u,z⟩
 | panic c=>exact⟨S',rho',m,u,z⟩
 | outgrown=>exact⟨S',rho',m,u,z⟩
variable {c:Code}
theorem zm{K u:Exit->AS->Prop}(h:W A c K s)(z:∀e s,K e s->u e s):W A c u s:=
 fun S rho a w m=>wp_mono (h S rho a w m) fun _ _ _ ⟨S',rho',D,I,k⟩=>⟨S',rho',D,I,z _ _ k⟩
theorem I0{c:Operand}{x y:Code}{K:Exit->AS->Prop}{b:Bool}(hb:ev s.t c=.p (.im (.bool b)))(z:b=true->W A x K s)(D:b=false->W A y K s):W A (.cond c x y) K s:=by
 intro S rho a w m;have u:=aH m c (fun _ _=>trivial);rw[hb]at u;refine wp_cond_split u.bc (fun h=>z h S rho a w m) (fun h=>D h S rho a w m)
theorem Gj{id:Nat}{K:Exit->AS->Prop}(h:W A c (fun e m=>match e with | .exit i=>kF (bB i id) (K .normal m) (K (.exit i) m) | e=>K e m) s):W A (.block id c) K s:=by
 intro S rho a w D;refine wp_block (wp_mono (h S rho a w D) fun e a' w' I=>?_);obtain⟨S',rho',m,z,u⟩:=I;cases e with
 | exit i=>
  simp only[Exit.inBlock];simp only at u;by_cases e:i=id
  ·rw[ae e];rw[aG.2 e]at u;exact⟨S',rho',m,z,u⟩
  rw[af e];have:bB i id=false:=by rw[cr];intro h;exact e (aG.1 h)
  rw[this]at u;exact⟨S',rho',m,z,u⟩
 | normal=>exact⟨S',rho',m,z,u⟩
 | goto l=>exact⟨S',rho',m,z,u⟩
 | ret=>exact⟨S',rho',m,z,u⟩
 | panic c=>exact⟨S',rho',m,z,u⟩
 | outgrown=>exact⟨S',rho',m,z,u⟩
def aY(A:jR)(s s':AS):Prop:=∀S rho a w,aU A bk bk S rho s a w->∃S' rho',aU A bk bk S' rho' s' a w
theorem aY.refl(A:jR)(s:AS):aY A s s:=fun S rho _ _ h=>⟨S,rho,h⟩
theorem aY.trans{u z:AS}(h:aY A s u)(k:aY A u z):aY A s z:=fun S rho a w m=>by
 obtain⟨S',rho',D⟩:=h S rho a w m;exact k S' rho' a w D
def Seen(A:jR)(s:AS)(G:AS->Prop):Prop:=∀S rho a w,aU A bk bk S rho s a w->∃S' rho' s',aU A bk bk S' rho' s' a w/\G s'
variable {G:AS->Prop}
theorem Seen.of{s2:AS}(hl:aY A s s2)(q:G s2):Seen A s G:=fun S rho a w m=>by
 obtain⟨S',rho',u⟩:=hl S rho a w m;exact⟨S',rho',s2,u,q⟩
theorem Seen.le{s2:AS}(hl:aY A s s2)(q:Seen A s2 G):Seen A s G:=fun S rho a w m=>by
 obtain⟨S',rho',u⟩:=hl S rho a w m;exact q S' rho' a w u
theorem Seen.mono{u:AS->Prop}(z:∀s,G s->u s)(q:Seen A s G):Seen A s u:=fun S rho a w m=>by
 obtain⟨S',rho',D,I,h⟩:=q S rho a w m;exact⟨S',rho',D,I,z _ h⟩
theorem least{P:Nat->Prop}(h:∃n,P n):∃n,P n/\∀k,P k->n<=k:=by
 obtain⟨n,u⟩:=h
 induction n using Nat.strongRecOn with
 | _ n ih=>
  by_cases m:∃k,k<n/\P k
  ·obtain⟨k,z,D⟩:=m;exact ih k z D
  exact⟨n,u,fun k h=>Nat.le_of_not_lt fun I=>m ⟨k,I,h⟩⟩
theorem I1{K:Exit->AS->Prop}{α:Type}(I:α->AS->Prop)(m:α->Nat)(h0:∃x u,aY A s u/\I x u)
  (D:∀x s,I x s->W A c (fun e u=>match e with | .normal=>∃y R,aY A u R/\I y R/\m y<m x | e=>K e u) s):W A (.loop c) K s:=by
 intro S rho a w Y;let J:Act->World->Nat->Prop:=fun a w n=>∃x S rho s,aU A bk bk S rho s a w/\I x s/\m x=n;have U:∀a w,Decidable (∃n,J a w n):=fun a w=>Classical.propDecidable _;let mu:Act->World->Nat:=fun a w=>@dite _ (∃n,J a w n) (U a w) (fun h=>Classical.choose (least h)) (fun _=>0);have PU:∀a w (h:∃n,J a w n),mu a w=Classical.choose (least h):=fun a w h=>by
  show @dite _ _ (U a w) _ _=_;rw[dif_pos h]
 refine wp_loop (fun a w=>∃n,J a w n) mu ?_ ?_
 ·obtain⟨x,u,N,Z⟩:=h0;obtain⟨S',rho',z⟩:=N S rho a w Y;exact⟨m x,x,S',rho',u,z,Z,rfl⟩
 intro a w hJ;obtain⟨⟨x,S1,Ol,s1,gQ,Z,hm⟩,_⟩:=n_ (least hJ);refine wp_mono (D x s1 Z S1 Ol a w gQ) fun e a' w' hq=>?_;obtain⟨S',rho',u,z,O⟩:=hq;cases e with
 | normal=>
  obtain⟨y,R,N,mI,dv⟩:=O;obtain⟨PW,HN,HO⟩:=N S' rho' a' w' z;have Om:∃n,J a' w' n:=⟨m y,y,PW,HN,R,HO,mI,rfl⟩;refine⟨Om,?_⟩;rw[PU a w hJ,PU a' w' Om,<-hm];exact Nat.lt_of_le_of_lt ((n_ (least Om)).2 (m y) ⟨y,PW,HN,R,HO,mI,rfl⟩) dv
 | exit id=>exact⟨S',rho',u,z,O⟩
 | goto l=>exact⟨S',rho',u,z,O⟩
 | ret=>exact⟨S',rho',u,z,O⟩
 | panic c=>exact⟨S',rho',u,z,O⟩
 | outgrown=>exact⟨S',rho',u,z,O⟩
theorem D9(hC:aL A.C){id:Nat}{ops:Array Oper}{K:Exit->AS->Prop}(z:∀o∈ops.toList,gP o A.n)(h:kO A.C ops.toList ops.toList (K .normal) s):W A (.region id ops false) K s:=by
 intro S rho a w m;refine wp_region ?_;have:=zl hC (ops:=ops) (Q:=fun e D w'=>∃S' rho' u,aU A bk bk S' rho' u D w'/\K e u) (K:=K .normal) (fun s S rho a w I m=>⟨S,rho,s,m,I⟩) ops.toList 0 s S rho a w (fun j=>by simp) z h m;rw[List.range_eq_range'];simpa using this
end Go.AM
namespace Go.AM
open Go.RowKit
def LA(j:Nat):Arg->AV
 | .pv x=>.p x
 | .row _ _=>.ow (100000+j)
 | .map _ _=>.ow (100000+j)
 | .box _=>.bx (100000+j) 0
 | .aA _=>.bx (100000+j) 0
def HP:Arg->AB
 | .pv _=>.none
 | .row e es=>.row e es
 | .map mk es=>.map mk es
 | .box cs=>.box (cs.map .p)
 | .aA cs=>.aA cs
def aS:List AV->List Nat
 | []=>[]
 | .ow n::r=>n::aS r
 | _::r=>aS r
def xx(n:Nat):List Nat->Bool
 | []=>false
 | m::r=>match Nat.beq m n with
  | true=>true
  | false=>xx n r
def cN:List Nat->Bool
 | []=>true
 | n::r=>!xx n r&&(Nat.blt n 100000&&cN r)
def D_:List Arg->Bool
 | []=>true
 | .aA _::_=>false
 | _::r=>D_ r
def qg(h:Nat->AB):List AV->List HC->Prop
 | [],[]=>True
 | .p x::r,.p y::s=>x=y/\qg h r s
 | .ow n::r,.row e es::s=>h n=.row e es/\qg h r s
 | _,_=>False
theorem iH{n:Nat}{l:List Nat}:xx n l=true↔n∈l:=by
 induction l with
 | nil=>simp[xx]
 | cons m l ih=>
  unfold xx;split
  ·rename_i h;have:=bq h;simp[this]
  rename_i h;rw[ih];have:¬n=m:=fun e=>by rw[e]at h;simp at h
  simp[this]
theorem fa{n:Nat}:∀{l:List AV},n∈aS l↔(AV.ow n:AV)∈l
 | []=>by simp[aS]
 | x::l=>by cases x<;>simp[aS,fa (l:=l)]
theorem kd:∀{l:List AV} {i j n:Nat},cN (aS l)=true->l[i]?=some (.ow n)->l[j]?=some (.ow n)->i=j
 | [],i,j,n,_,h,_=>by simp at h
 | x::l,i,j,n,hg,h1,h2=>by
  have tail:cN (aS l)=true:=by
   cases x<;>first | exact hg | (simp[aS,cN]at hg ⊢;exact hg.2.2)
  have m:∀k:Nat,x=AV.ow n->l[k]?=some (AV.ow n)->False:=fun k u z=>by
   subst u;simp[aS,cN]at hg;have:xx n (aS l)=true:=iH.2 (fa.2 (aj z));rw[hg.1]at this;cases this
  cases i with
  | zero=>
   cases j with
   | zero=>rfl
   | succ j=>simp at h1 h2;exact (m j h1 h2).elim
  | succ i=>
   cases j with
   | zero=>simp at h1 h2;exact (m i h2 h1).elim
   | succ j=>simp at h1 h2;rw[kd tail h1 h2]
theorem ke:∀{l:List Nat} {n:Nat},cN l=true->n∈l->n<100000
 | [],n,_,h=>by cases h
 | m::l,n,hg,h=>by
  simp[cN]at hg;rcases fK.1 h with h | h
  ·subst h;have:=hg.2.1
   first | omega | (have:=dT (show Nat.ble (n+1) 100000=true from this);omega) | (simp[Nat.blt]at this;omega)
  exact ke hg.2.2 h
theorem t_{h:Nat->AB}:∀{m:List AV} {cs:List HC},qg h m cs->m.length=cs.length
 | [],[],_=>rfl
 | [],_::_,hp=>hp.elim
 | b::m,[],hp=>by cases b<;>exact hp.elim
 | b::m,c::cs,hp=>by
  cases b<;>cases c<;>first | exact hp.elim | (have:=t_ hp.2;simp[this])
theorem xy{h:Nat->AB}:∀{m:List AV} {cs:List HC} {j:Nat} {x:AV} {y:HC},qg h m cs->m[j]?=some x->cs[j]?=some y->(∃z,x=.p z/\y=.p z)\/∃n e es,x=.ow n/\y=.row e es/\h n=.row e es
 | [],_,j,x,y,_,h1,_=>by simp at h1
 | b::m,[],j,x,y,_,_,h2=>by simp at h2
 | b::m,c::cs,0,x,y,hp,h1,h2=>by
  simp at h1 h2;subst h1 h2;cases b<;>cases c<;>first | exact hp.elim | exact .inl ⟨_,rfl,by rw[hp.1]⟩ | exact .inr ⟨_,_,_,rfl,rfl,hp.1⟩
 | b::m,c::cs,j+1,x,y,hp,h1,h2=>by
  simp at h1 h2;have u:qg h m cs:=by cases b<;>cases c<;>first | exact hp.elim | exact hp.2
  exact xy u h1 h2
variable {A:jR} {rho:Nat->Value} {s:AS}
theorem r8{V L S:Nat->Prop}{a:Act}{w:World}(I:aU A V L S rho s a w){id:Nat}(hL:L id){W:List AV}{cs:List HC}(hb:s.h id=.box W)(hg:cN (aS W)=true)(hp:qg s.h W cs):
  ∃g ty c,rho id=.pointer (some ⟨g,0,none⟩)/\yu S w A.C.P cs g ty c/\∀k,hasB w (.aA cs) (rho id) k->bH (rho id)=some k\/∃n,n∈aS W/\L n/\(s.h n).live/\bH (rho n)=some k:=by
 have hh:=I.hp id hL;rw[hb]at hh;obtain⟨g,ty,c,k1,k2,k3,k4⟩:=hh;have hl:=t_ hp;have aN:(s.h id).live:=by rw[hb];trivial
 have D:∀{j:Nat} {y:HC} {u:Value},cs[j]?=some y->c[j]?=some u->u.oneCell'=true/\Hr S w A.C.P y u/\(y.isRow->∃n,W[j]?=some (.ow n)/\L n/\u=rho n/\(s.h n).live/\n≠id):=by
  intro j y u J O;obtain⟨x,D⟩:∃x,W[j]?=some x:=⟨_,aM (by rw[hl];exact ah J)⟩;obtain⟨o1,o2⟩:=k4 j x u D O;rcases xy hp D J with⟨z,rfl,rfl⟩ | ⟨n,e,es,rfl,rfl,N⟩
  ·exact⟨o1,o2.cb,fun h=>h.elim⟩
  obtain⟨R,rfl⟩:=o2.bu (by rw[N];trivial);have hr:=I.hp n R;rw[N]at hr;exact⟨o1,hr,fun _=>⟨n,D,R,rfl,by rw[N];trivial,fun e=>by rw[e,hb]at N;cases N⟩⟩
 have Ch:bH (rho id)=some g:=by rw[k1];rfl
 refine⟨g,ty,c,k1,⟨k2,by rw[k3,hl],fun j y u J O=>⟨(D J O).1,(D J O).2.1⟩,fun j y u b J O hy dM e=>?_,fun i j x y u v b hi J O hv Rv Rw e1 e2=>?_⟩,fun k hk=>?_⟩
 ·obtain⟨n,_,R,rfl,Z,bO⟩:=(D J O).2.2 hy;subst e;exact bO (I.KM n id b R hL Z aN dM Ch)
 ·obtain⟨n,N,R,rfl,Z,_⟩:=(D hi O).2.2 Rv;obtain⟨m,hm,Rx,rfl,PX,_⟩:=(D J hv).2.2 Rw;have:=I.KM n m b R Rx Z PX e1 e2;subst this;exact kd hg N hm
 rcases hk with hk | ⟨dB,g',U,eY,c',KX,m,j,y,u,Y,q2,q3,q4,q5⟩ | ⟨_,_,_,_,_,_,U,_⟩ | ⟨_,_,_,_,_,U,_⟩
 ·exact .inl hk
 ·injection U with U;subst U;rw[Ch]at eY;injection eY with eY;subst eY;rw[k2]at Y;injection Y with Y;injection Y with Y _ _;subst Y;obtain⟨n,N,R,rfl,Z,_⟩:=(D q2 q4).2.2 q3;exact .inr ⟨n,fa.2 (aj N),R,Z,q5⟩
 ·cases U
 cases U
def qi(args:List Arg)(j:Nat):AV:=match args[j]? with
 | some x=>LA j x
 | none=>.junk
def jG(args:List Arg)(j:Nat):AB:=match Nat.ble 100000 j with
 | true=>match args[j-100000]? with
  | some x=>HP x
  | none=>.none
 | false=>.none
def Eb (a : Tmp) (t : TypeId) : Oper := { dst := none, op := .load t (.tmp a), type := t, pos := "", after := #[], guard := none }
def HQ(C:Ctx)(s:AS):ResultVar->(AV->Prop)->Prop
 | .tmp t,K=>K (s.t t)
 | .cell a t,K=>aZ C (Eb a t) (ev s.t) s.h fun v _ _=>match v with
  | .p x=>K (.p x)
  | _=>False
def vx(C:Ctx)(s:AS):List ResultVar->(List AV->Prop)->Prop
 | [],K=>K []
 | r::rs,K=>HQ C s r fun a=>vx C s rs fun as=>K (a::as)
def zo(h:Nat->AB):List AV->(List PV->(Nat->AB)->Prop)->Prop
 | [],K=>K [] h
 | a::r,K=>g_ h a fun x fz=>zo (app h fz) r fun xs h'=>K (x::xs) h'
def jd:AB->Nat->Bool
 | .box bs,i=>xx i (aS bs)
 | _,_=>false
def iI(h:Nat->AB):Nat->List Arg->List Fin->Nat->Bool
 | j,.pv _::xs,fs,i=>iI h (j+1) xs fs i
 | j,_::xs,f::fs,i=>(f.kept&&(bB j i||jd (h j) i))||iI h (j+1) xs fs i
 | _,_,_,_=>false
def h_(h:Nat->AB):Nat->List Arg->List Fin->Prop
 | _,[],[]=>True
 | j,.pv _::xs,fs=>h_ h (j+1) xs fs
 | j,.row _ _::xs,.gone::fs=>h_ h (j+1) xs fs
 | j,.map _ _::xs,.gone::fs=>h_ h (j+1) xs fs
 | j,.box _::xs,.gone::fs=>h_ h (j+1) xs fs
 | j,.aA _::xs,.gone::fs=>h_ h (j+1) xs fs
 | j,.row e _::xs,.row es::fs=>h j=.row e es/\h_ h (j+1) xs fs
 | j,.map mk _::xs,.map es::fs=>h j=.map mk es/\h_ h (j+1) xs fs
 | j,.box _::xs,.box cs::fs=>(match h j with
  | .box bs=>cE bs=some cs
  | _=>False)/\h_ h (j+1) xs fs
 | j,.aA _::xs,.aA cs::fs=>(match h j with
  | .aA bs=>bs=cs
  | .box bs=>(cN (aS bs)&&D_ xs)=true/\qg h bs cs
  | _=>False)/\h_ h (j+1) xs fs
 | _,_,_=>False
def I2(C:Ctx)(rs:List ResultVar)(args:List Arg)(r:AR)(fin:List Fin)(s:AS):Prop:=
 vx C s rs fun cT=>match r with
  | .own e es=>match cT with
   | [a]=>match a with
    | .ow i=>s.h i=.row e es/\iI s.h 100000 args fin i=false/\h_ s.h 100000 args fin
    | .vw i lo hi=>match lo with
     | 0=>match s.h i with
      | .row e' xs=>match bB e' e with
       | true=>es=xs.take hi/\iI s.h 100000 args fin i=false/\h_ s.h 100000 args fin
       | false=>False
      | _=>False
     | _+1=>False
    | .nl=>match C.T e with
     | some ti=>match Nat.blt 0 ti.size with
      | true=>es=[]/\h_ s.h 100000 args fin
      | false=>False
     | none=>False
    | _=>False
   | _=>False
  | .hown cs=>match cT with
   | [a]=>match a with
    | .bx i off=>match off with
     | 0=>s.h i=.aA cs/\iI s.h 100000 args fin i=false/\h_ s.h 100000 args fin
     | _+1=>False
    | _=>False
   | _=>False
  | .p x=>match cT with
   | [a]=>g_ s.h a fun y fz=>y=x/\h_ (app s.h fz) 100000 args fin
   | _=>False
  | .tu xs=>match cT with
   | [_]=>False
   | _=>zo s.h cT fun ys h'=>ys=xs/\h_ h' 100000 args fin
def Ci(C:Ctx)(rs:List ResultVar)(args:List Arg)(r:AR)(fin:List Fin)(e:Exit)(s:AS):Prop:=match e with
 | .normal=>I2 C rs args r fin s
 | .ret=>I2 C rs args r fin s
 | _=>False
def xz(tmps:Array Value):ResultVar->Sem Value
 | .tmp t=>pure (tmps.getD t undef)
 | .cell b t=>do loadVar t (<-asAddr (tmps.getD b undef))
theorem Cj(hC:aL A.C){S:Nat->Prop}{a:Act}{w:World}(D:aU A bk bk S rho s a w)(r:ResultVar){K:AV->Prop}(J:HQ A.C s r K):
  ∃av v,K av/\(xz a.tmps r).run A.C.P w=.ok v w /\
   (∀(m:Nat->Prop) (u:Nat->AB),(∀b,S b->m b)->aU A bk bk m rho ⟨s.t,u⟩ a w->aE m w A.C.P bk rho u av v):=by
 cases r with
 | tmp t=>exact⟨s.t t,a.tmps.getD t undef,J,rfl,fun m u _ N=>N.tm t trivial⟩
 | cell b t=>
  obtain⟨av,v,I,u,O⟩:=wQ (o:=Eb b t) (K:=fun v _ _=>match v with | .p x=>K (.p x) | _=>False) t (.tmp b) rfl hC D (fun _ _=>trivial) J;split at I
  ·rename_i x;refine⟨_,v,I,?_,fun m nG hS N=>.p _ _ (u.cb.mono hS (fun _ _=>rfl))⟩;have z:(Instr.loadAt t (a.tmps.getD b undef)).run A.C.P w=.ok v w:=O;cases hv:a.tmps.getD b undef with
   | pointer p=>
    rw[hv]at z;cases p with
    | none=>simp[Instr.loadAt,Instr.sureAddr,stuck,Sem.run]at z
    | some R=>
     have U:(loadVar t R).run A.C.P w=.ok v w:=by simpa [Instr.loadAt,Instr.sureAddr] using z
     show (xz a.tmps (.cell b t)).run _ _=_;unfold xz;simp only[hv];exact U
   | _=>rw[hv]at z;simp[Instr.loadAt,Instr.sureAddr,stuck,Sem.run]at z
  exact I.elim
theorem r9(hC:aL A.C){S:Nat->Prop}{a:Act}{w:World}(J:aU A bk bk S rho s a w):∀(z:List ResultVar) {K:List AV->Prop},vx A.C s z K ->
  ∃cT vs,K cT/\cT.length=vs.length/\(z.mapM (xz a.tmps)).run A.C.P w=.ok vs w/\vs.length=z.length /\
   (∀(D:Nat->Prop) (I:Nat->AB),(∀b,S b->D b)->aU A bk bk D rho ⟨s.t,I⟩ a w->∀(i:Nat) av v,cT[i]?=some av->vs[i]?=some v->aE D w A.C.P bk rho I av v):=by
 intro z
 induction z with
 | nil=>intro K m;exact⟨[],[],m,rfl,rfl,rfl,by simp⟩
 | cons r z ih=>
  intro K m;obtain⟨av,v,m,W,I⟩:=Cj hC J r m;obtain⟨cT,vs,m,Y,Z,h5,h6⟩:=ih m;refine⟨av::cT,v::vs,m,by simp[Y],?_,by simp[h5],fun D R hS U i x u N O=>?_⟩
  ·rw[uX,aI,W,br,aI,Z];rfl
  cases i with
  | zero=>simp at N O;subst N O;exact I D R hS U
  | succ i=>exact h6 D R hS U i x u (by simpa using N) (by simpa using O)
theorem zp(hC:aL A.C){t:Nat->AV}{a:Act}{w:World}:∀(cT:List AV) (vs:List Value) (S:Nat->Prop) (h:Nat->AB) {K:List PV->(Nat->AB)->Prop},cT.length=vs.length->aU A bk bk S rho ⟨t,h⟩ a w ->
  (∀(I:Nat->Prop) (R:Nat->AB),(∀b,S b->I b)->aU A bk bk I rho ⟨t,R⟩ a w->∀(i:Nat) av v,cT[i]?=some av->vs[i]?=some v->aE I w A.C.P bk rho R av v)->zo h cT K ->
  ∃ys h' S',K ys h'/\aU A bk bk S' rho ⟨t,h'⟩ a w/\(∀b,S b->S' b)/\ys.length=vs.length/\∀(i:Nat) y v,ys[i]?=some y->vs[i]?=some v->ay S' w y v:=by
 intro cT
 induction cT with
 | nil=>
  intro vs S h K hl m _ J;have:vs=[]:=cW hl.symm;subst this;exact⟨[],h,S,J,m,fun _ h=>h,rfl,by simp⟩
 | cons av cT ih=>
  intro vs S h K hl m D J;cases vs with
  | nil=>simp at hl
  | cons v vs=>
   obtain⟨y,fz,I,J,Y,hp,U,_,_⟩:=e8 hC m (kM.refl h) (D S h (fun _ h=>h) m 0 av v rfl rfl) J;obtain⟨ys,h',S',Z,k2,W,k4,k5⟩:=ih vs I (app h fz) (by simpa using hl) Y (fun S3 h3 hS cF i x u hx N=>D S3 h3 (fun b hb=>hS b (U b hb)) cF (i+1) x u (by simpa using hx) (by simpa using N)) J;refine⟨y::ys,h',S',Z,k2,fun b hb=>W b (U b hb),by simp[k4],fun i z u O N=>?_⟩;cases i with
   | zero=>simp at O N;subst O N;exact hp.mono W (fun _ _=>rfl)
   | succ i=>exact k5 i z u (by simpa using O) (by simpa using N)
theorem l8{h:Nat->AB}{j:Nat}{x:Arg}{xs:List Arg}{f:Fin}{u:List Fin}(z:x.handed=true)(m:h_ h j (x::xs) (f::u)):h_ h (j+1) xs u:=by
 cases x<;>cases f<;>first | (cases z;done) | exact m.elim | exact m.2 | exact m
def ua(h:Nat->AB)(j id:Nat):Prop:=id=j\/jd (h j) id=true
theorem Ec{S:Nat->Prop}{t:Nat->AV}{h:Nat->AB}{a:Act}{w:World}(z:aU A bk bk S rho ⟨t,h⟩ a w):∀(args:List Arg) (fin:List Fin) (vs:List Value) (j:Nat),args.length=vs.length->(∀i v,vs[i]?=some v->(∃x,args[i]?=some x/\x.handed=true)->v=rho (j+i))->h_ h j args fin ->
  eV S w A.C.P args fin vs/\∀i g,cq w args fin vs i g->∃id,ua h (j+i) id/\(h id).live/\hasB w (h id) (rho id) g/\iI h j args fin id=true:=by
 intro args
 induction args with
 | nil=>intro fin vs j hl _ m;have:vs=[]:=cW hl.symm;subst this;cases fin with | nil=>exact⟨trivial,fun i g h=>h.elim⟩ | cons f fin=>exact m.elim
 | cons x args ih=>
  intro fin vs j hl hv m;cases vs with
  | nil=>simp at hl
  | cons v vs=>
   have Lx:args.length=vs.length:=by simpa using hl
   have yB:∀i v,vs[i]?=some v->(∃x,args[i]?=some x/\x.handed=true)->v=rho (j+1+i):=fun i u h1 ⟨y,h2,h3⟩=>by
    have:=hv (i+1) u (by simpa using h1) ⟨y,by simpa using h2,h3⟩;rw[this];congr 1;omega
   cases hx:x.handed with
   | false=>
    cases x with
    | pv y=>
     obtain⟨r1,r2⟩:=ih fin vs (j+1) Lx yB m;refine⟨r1,fun i g N=>?_⟩;cases i with
     | zero=>exact N.elim
     | succ i=>
      obtain⟨id,R,q2,q3,q4⟩:=r2 i g N;exact⟨id,by rw[show j+(i+1)=j+1+i by omega];exact R,q2,q3,q4⟩
    | row=>cases hx
    | map=>cases hx
    | box=>cases hx
    | aA=>cases hx
   | true=>
    have II:v=rho j:=hv 0 v rfl ⟨_,rfl,hx⟩;cases fin with
    | nil=>cases x<;>first | (cases hx;done) | exact m.elim
    | cons f fin=>
     obtain⟨r1,r2⟩:=ih fin vs (j+1) Lx yB (l8 hx m);have mk:jk S w A.C.P x f v->(∀g,f.kept=true->hasB w (FK f) v g->∃id,ua h j id/\(h id).live/\hasB w (h id) (rho id) g)->eV S w A.C.P (x::args) (f::fin) (v::vs)/\∀i g,cq w (x::args) (f::fin) (v::vs) i g->∃id,ua h (j+i) id/\(h id).live/\hasB w (h id) (rho id) g/\iI h j (x::args) (f::fin) id=true:=by
      intro m1 m2;refine⟨by cases x<;>first | (cases hx;done) | exact⟨m1,r1⟩,fun i g N=>?_⟩;cases i with
      | zero=>
       obtain⟨g1,g2⟩:f.kept=true/\hasB w (FK f) v g:=by cases x<;>first | (cases hx;done) | exact N
       obtain⟨id,R,q2,q3⟩:=m2 g g1 g2;refine⟨id,R,q2,q3,?_⟩;have:(bB j id||jd (h j) id)=true:=by
        rcases R with R | R
        ·rw[R,aG.2 rfl];rfl
        rw[R];simp
       cases x<;>first | (cases hx;done) | (simp only[iI,g1,this,oa,Bool.true_or])
      | succ i=>
       have eY:cq w args fin vs i g:=by cases x<;>first | (cases hx;done) | exact N
       obtain⟨id,R,q2,q3,q4⟩:=r2 i g eY;refine⟨id,by rw[show j+(i+1)=j+1+i by omega];exact R,q2,q3,?_⟩;cases x<;>first | (cases hx;done) | (simp only[iI,q4,eP])
     refine mk ?_ ?_
     ·rw[II];cases x with
      | pv y=>cases hx
      | row e es=>
       cases f with
       | gone=>trivial
       | row I=>
        have J:=z.hp j trivial;have J:cd S w A.C.P bk rho h j (h j):=J;rw[m.1]at J;exact⟨J,fun g N=>(z.mO j g trivial (by show (h j).live;rw[m.1];trivial) N).2.1⟩
       | map I=>exact m.elim
       | box cs=>exact m.elim
       | aA cs=>exact m.elim
      | map mk es=>
       cases f with
       | gone=>trivial
       | map I=>
        have J:=z.hp j trivial;have J:cd S w A.C.P bk rho h j (h j):=J;rw[m.1]at J;exact⟨J,fun g N=>(z.mO j g trivial (by show (h j).live;rw[m.1];trivial) N).2.1⟩
       | row I=>exact m.elim
       | box cs=>exact m.elim
       | aA cs=>exact m.elim
      | box ys=>
       cases f with
       | gone=>trivial
       | row I=>exact m.elim
       | map I=>exact m.elim
       | aA I=>exact m.elim
       | box cs=>
        obtain⟨D,kY⟩:=m;split at D
        ·rename_i W hb;have J:=z.hp j trivial;have J:cd S w A.C.P bk rho h j (h j):=J;rw[hb]at J;obtain⟨g,Y,c,U,Z,k3,k4⟩:=J;obtain⟨k5,k6⟩:=dz D;refine⟨g,Y,c,U,Z,by rw[k3,k5],(z.mO j g trivial (by show (h j).live;rw[hb];trivial) (by rw[U];rfl)).2.1,fun i x u hi hu=>?_⟩;obtain⟨y,hy⟩:∃y,W[i]?=some y:=⟨_,aM (by rw[k5];exact ah hi)⟩;obtain⟨k7,k8⟩:=k4 i y u hy hu;exact⟨k7,k8.qS (k6 i y x hy hi)⟩
        exact D.elim
      | aA ys=>
       cases f with
       | gone=>trivial
       | row I=>exact m.elim
       | map I=>exact m.elim
       | box I=>exact m.elim
       | aA cs=>
        obtain⟨D,kY⟩:=m;split at D
        ·rename_i W hb;subst D;have J:=z.hp j trivial;have J:cd S w A.C.P bk rho h j (h j):=J;rw[hb]at J;obtain⟨g,Y,c,U,Z⟩:=J;exact⟨g,Y,c,U,Z,fun k O=>(z.lv j k trivial (by show (h j).live;rw[hb];trivial) (by show hasB w (h j) _ _;rw[hb];exact O)).2.1⟩
        ·rename_i W hb;simp only[aw]at D;obtain⟨g,Y,c,U,Z,k3⟩:=r8 z (id:=j) trivial hb D.1.1 D.2;refine⟨g,Y,c,U,Z,fun k O=>?_⟩;rcases k3 k O with O | ⟨n,_,hn,Gk,O⟩
         ·exact (z.mO j k trivial (by show (h j).live;rw[hb];trivial) O).2.1
         exact (z.mO n k hn Gk O).2.1
        exact D.elim
     intro g hf N;rw[II]at N;cases x with
     | pv y=>cases hx
     | row e es=>
      cases f with
      | gone=>cases hf
      | row I=>exact⟨j,.inl rfl,by rw[m.1];trivial,.inl (al rfl N)⟩
      | map I=>exact m.elim
      | box cs=>exact m.elim
      | aA cs=>exact m.elim
     | map mk es=>
      cases f with
      | gone=>cases hf
      | map I=>exact⟨j,.inl rfl,by rw[m.1];trivial,.inl (al rfl N)⟩
      | row I=>exact m.elim
      | box cs=>exact m.elim
      | aA cs=>exact m.elim
     | box ys=>
      cases f with
      | gone=>cases hf
      | row I=>exact m.elim
      | map I=>exact m.elim
      | aA I=>exact m.elim
      | box cs=>
       obtain⟨D,kY⟩:=m;split at D
       ·rename_i W hb;exact⟨j,.inl rfl,by rw[hb];trivial,.inl (al rfl N)⟩
       exact D.elim
     | aA ys=>
      cases f with
      | gone=>cases hf
      | row I=>exact m.elim
      | map I=>exact m.elim
      | box I=>exact m.elim
      | aA cs=>
       obtain⟨D,kY⟩:=m;split at D
       ·rename_i W hb;subst D;exact⟨j,.inl rfl,by rw[hb];trivial,by rw[hb];exact N⟩
       ·rename_i W hb;simp only[aw]at D;obtain⟨g',Y,c,U,Z,k3⟩:=r8 z (id:=j) trivial hb D.1.1 D.2;rcases k3 g N with O | ⟨n,hm,hn,Gk,O⟩
        ·exact⟨j,.inl rfl,by rw[hb];trivial,.inl O⟩
        exact⟨n,.inr (by rw[hb];exact iH.2 hm),Gk,.inl O⟩
       exact D.elim
theorem Ck{h:Nat->AB}:∀(args:List Arg) (fin:List Fin) (w:World) (vs:List Value) (u:Nat),100000<=u->h_ h u args fin->∀i k id g,cq w args fin vs i g->cq w args fin vs k g->ua h (u+i) id->ua h (u+k) id->i=k:=by
 have I:∀(args:List Arg) (fin:List Fin) (w:World) (vs:List Value) (u:Nat),h_ h u args fin->∀i g id,cq w args fin vs i g->jd (h (u+i)) id=true->id<100000/\D_ args=false/\(∀m,i=m+1->∀x xs,args=x::xs->D_ xs=false):=by
  intro args
  induction args with
  | nil=>intro fin w vs u _ i g id J;exact J.elim
  | cons x args ih=>
   intro fin w vs u z i g id J D;cases vs with
   | nil=>cases fin<;>exact J.elim
   | cons v vs=>
    cases hx:x.handed with
    | false=>
     cases x with
     | pv y=>
      cases i with
      | zero=>exact J.elim
      | succ i=>
       obtain⟨h1,U,_⟩:=ih fin w vs (u+1) z i g id J (by rw[show u+1+i=u+(i+1) by omega];exact D);exact⟨h1,U,fun m hm x xs W=>by injection W with _ W;rw[<-W];exact U⟩
     | row=>cases hx
     | map=>cases hx
     | box=>cases hx
     | aA=>cases hx
    | true=>
     cases fin with
     | nil=>cases x<;>first | (cases hx;done) | exact J.elim
     | cons f fin=>
      cases i with
      | succ i=>
       have eY:cq w args fin vs i g:=by cases x<;>first | (cases hx;done) | exact J
       obtain⟨h1,U,_⟩:=ih fin w vs (u+1) (l8 hx z) i g id eY (by rw[show u+1+i=u+(i+1) by omega];exact D);exact⟨h1,by cases x<;>first | exact U | rfl,fun m hm x xs W=>by injection W with _ W;rw[<-W];exact U⟩
      | zero=>
       have R:f.kept=true:=by cases x<;>first | (cases hx;done) | exact J.1
       have D:jd (h u) id=true:=D;cases x with
       | pv y=>cases hx
       | row e es=>cases f<;>first | (cases R;done) | exact z.elim | (rw[z.1]at D;cases D)
       | map mk es=>cases f<;>first | (cases R;done) | exact z.elim | (rw[z.1]at D;cases D)
       | box ys=>
        cases f with
        | gone=>cases R
        | row O=>exact z.elim
        | map O=>exact z.elim
        | aA O=>exact z.elim
        | box cs=>
         obtain⟨N,kY⟩:=z;split at N
         ·rename_i bs hb;rw[hb]at D;obtain⟨k5,k6⟩:=dz N;obtain⟨n,hn⟩:=cf.1 (fa.1 (iH.1 D));obtain⟨y,hy⟩:∃y,cs[n]?=some y:=⟨_,aM (by rw[<-k5];exact ah hn)⟩;have:=k6 n _ y hn hy;rcases this with h | h
          ·cases h
          cases h.1
         exact N.elim
       | aA ys=>
        cases f with
        | gone=>cases R
        | row O=>exact z.elim
        | map O=>exact z.elim
        | box O=>exact z.elim
        | aA cs=>
         obtain⟨N,kY⟩:=z;split at N
         ·rename_i bs hb;rw[hb]at D;cases D
         ·rename_i bs hb;rw[hb]at D;simp only[aw]at N;exact⟨ke N.1.1 (iH.1 D),rfl,fun m hm=>by omega⟩
         exact N.elim
 have later:∀(args:List Arg) (fin:List Fin) (w:World) (vs:List Value) (u:Nat),h_ h u args fin->∀i k g Y id,cq w args fin vs i g->cq w args fin vs k Y->jd (h (u+i)) id=true->jd (h (u+k)) id=true->i<k->False:=by
  intro args
  induction args with
  | nil=>intro fin w vs u _ i k g Y id J;exact J.elim
  | cons x args ih=>
   intro fin w vs u z i k g Y id J eY D Z dv;cases vs with
   | nil=>cases fin<;>exact J.elim
   | cons v vs=>
    obtain⟨k,rfl⟩:∃m,k=m+1:=⟨k-1,by omega⟩;cases hx:x.handed with
    | false=>
     cases x with
     | pv y=>
      cases i with
      | zero=>exact J.elim
      | succ i=>exact ih fin w vs (u+1) z i k g Y id J eY (by rw[show u+1+i=u+(i+1) by omega];exact D) (by rw[show u+1+k=u+(k+1) by omega];exact Z) (by omega)
     | row=>cases hx
     | map=>cases hx
     | box=>cases hx
     | aA=>cases hx
    | true=>
     cases fin with
     | nil=>cases x<;>first | (cases hx;done) | exact J.elim
     | cons f fin=>
      have xd:cq w args fin vs k Y:=by cases x<;>first | (cases hx;done) | exact eY
      cases i with
      | succ i=>
       have On:cq w args fin vs i g:=by cases x<;>first | (cases hx;done) | exact J
       exact ih fin w vs (u+1) (l8 hx z) i k g Y id On xd (by rw[show u+1+i=u+(i+1) by omega];exact D) (by rw[show u+1+k=u+(k+1) by omega];exact Z) (by omega)
      | zero=>
       have U:=(I args fin w vs (u+1) (l8 hx z) k Y id xd (by rw[show u+1+k=u+(k+1) by omega];exact Z)).2.1;have R:f.kept=true:=by cases x<;>first | (cases hx;done) | exact J.1
       have D:jd (h u) id=true:=D;have h3:=I (x::args) (f::fin) w (v::vs) u z 0 g id J D;cases x with
       | pv y=>cases hx
       | row e es=>cases f<;>first | (cases R;done) | exact z.elim | (rw[z.1]at D;cases D)
       | map mk es=>cases f<;>first | (cases R;done) | exact z.elim | (rw[z.1]at D;cases D)
       | box ys=>exact (by
         have:D_ (.box ys::args)=false:=h3.2.1;cases f with
         | gone=>cases R
         | row O=>exact z.elim
         | map O=>exact z.elim
         | aA O=>exact z.elim
         | box cs=>
          obtain⟨N,kY⟩:=z;split at N
          ·rename_i bs hb;rw[hb]at D;obtain⟨k5,k6⟩:=dz N;obtain⟨n,hn⟩:=cf.1 (fa.1 (iH.1 D));obtain⟨y,hy⟩:∃y,cs[n]?=some y:=⟨_,aM (by rw[<-k5];exact ah hn)⟩;rcases k6 n _ y hn hy with h | h
           ·cases h
           cases h.1
          exact N.elim)
       | aA ys=>
        cases f with
        | gone=>cases R
        | row O=>exact z.elim
        | map O=>exact z.elim
        | box O=>exact z.elim
        | aA cs=>
         obtain⟨N,kY⟩:=z;split at N
         ·rename_i bs hb;rw[hb]at D;cases D
         ·rename_i bs hb;simp only[aw]at N;rw[N.1.2]at U;cases U
         exact N.elim
 intro args fin w vs u hj z i k id g D Z ki kk;rcases ki with ki | ki<;>rcases kk with kk | kk
 ·omega
 ·have:=(I args fin w vs u z k g id Z kk).1;omega
 ·have:=(I args fin w vs u z i g id D ki).1;omega
 rcases vp i k with h | h | h
 ·exact (later args fin w vs u z i k g g id D Z ki kk h).elim
 ·exact h
 exact (later args fin w vs u z k i g g id Z D kk ki h).elim
theorem an.front{P:Program}{S:Nat->Prop}{w:World}{e:TypeId}{xs:List (List PV)}{v u:Value}{a:Option Addr}{n c z:Nat}(h:an P w (ay S w) e xs v)(J:v=.slice a n c)(U:z<=n)(Y:u=.slice a z c):an P w (ay S w) e (xs.take z) u:=by
 obtain⟨i,ys,Z,h2,N,h4,h5,h6⟩:=h;have hF:Flat S w i.size xs ys:=⟨N.1,h4,h5,h6⟩;have LB:n=xs.length:=by
  rcases N.2 with⟨m,O⟩ | ⟨g,D,I,m,_⟩
  ·rw[J]at m;injection m with _ m _;omega
  rw[J]at m;injection m
 subst LB;have W:=hF.take z U;have hl:(xs.take z).length=z:=by rw[cu];omega
 refine an.of_flat Z h2 ?_ W;refine⟨W.len,?_⟩;rw[hl,Y];rcases N.2 with⟨m,O⟩ | ⟨g,D,I,m,O,R,g4,g5,g6,g7⟩
 ·rw[J]at m;injection m with m _ R;exact .inl ⟨by rw[m,R];congr 1;omega,by omega⟩
 rw[J]at m;injection m with m _ g8;refine .inr ⟨g,D,I,by rw[m,g8],O,R,by omega,g5,g6,?_⟩;rw[<-g7,List.take_take,jV (ba _ U)]
theorem r_(args:List Arg)(j:Nat):jG args (100000+j)=match args[j]? with
  | some x=>HP x
  | none=>.none:=by
 have m:Nat.ble 100000 (100000+j)=true:=n9 (by omega);have u:100000+j-100000=j:=by omega
 simp only[jG,m,u]
theorem xA(args:List Arg)(k:Nat)(h:k<100000):jG args k=.none:=by
 have m:Nat.ble 100000 k=false:=by
  rw[cr];intro u;have:=dT u;omega
 simp only[jG,m]
theorem Ed{C:Ctx}{S:Nat->Prop}{w:World}{args:List Arg}{vs:Array Value}(m:Nat)(hm:vs.size+m<=100000)(hE:C.E S w)(hS:∀b,S b->b<w.heap.size)(hl:args.length=vs.size)(O:∀(j:Nat) x v,args[j]?=some x->vs[j]?=some v->yz S w C.P x v)
  (hdis:∀(i j:Nat) x y v u g,args[i]?=some x->args[j]?=some y->vs[i]?=some v->vs[j]?=some u->x.handed=true->y.handed=true->hasB w (tc x) v g->hasB w (tc y) u g->i=j):
  aU ⟨C,w,Mv w args vs,S,vs.size+m,fun k=>vs.getD (k-100000) undef⟩ bk bk S (fun k=>vs.getD (k-100000) undef) ⟨qi args,jG args⟩ { tmps:=vs++Array.replicate m undef,defers:=[] } w:=by
 have rK:∀j v,vs[j]?=some v->vs.getD j undef=v:=fun j v h=>by rw[lU,h];rfl
 have R:∀j,vs.getD (100000+j-100000) undef=vs.getD j undef:=fun j=>by rw[l9]
 have at_:∀j x,args[j]?=some x->∃v,vs[j]?=some v/\vs.getD j undef=v:=fun j x h=>by
  obtain⟨v,hv⟩:=fJ hl (ah h);exact⟨v,hv,rK j v hv⟩
 have live:∀k,(jG args k).live->∃j x v,k=100000+j/\args[j]?=some x/\vs[j]?=some v/\vs.getD (k-100000) undef=v/\x.handed=true:=by
  intro k U;by_cases dv:k<100000
  ·rw[xA _ _ dv]at U;exact U.elim
  obtain⟨j,rfl⟩:∃j,k=100000+j:=⟨k-100000,by omega⟩;rw[r_]at U;cases h:args[j]? with
  | none=>rw[h]at U;exact U.elim
  | some x=>
   rw[h]at U;obtain⟨v,J,I⟩:=at_ j x h;refine⟨j,x,v,rfl,h,J,by rw[R];exact I,?_⟩;cases x with
   | pv y=>exact U.elim
   | row=>rfl
   | map=>rfl
   | box=>rfl
   | aA=>rfl
 have Oo:∀(j:Nat) (x:Arg) (v:Value) (g:Nat),args[j]?=some x->vs[j]?=some v->x.handed=true->hasB w (tc x) v g->g<w.heap.size/\¬S g:=by
  intro j x v g J I Y D;have:=O j x v J I;cases x with
  | pv y=>cases Y
  | map mk es=>
   have D:=al rfl D;obtain⟨⟨g',ms,cl,rfl,k2,_⟩,hn⟩:=this;have wI:=D;injection D with D;subst D;exact⟨(nZ.1 k2).1,hn _ wI⟩
  | row e es=>
   have D:=al rfl D;obtain⟨⟨i,xs,_,_,ho,_⟩,hn⟩:=this;exact⟨(ho.lt g (by rw[cm (bP ho).choose_spec.choose_spec];exact D)).2,hn g D⟩
  | box cs=>
   have D:=al rfl D;obtain⟨g',Z,c,rfl,k2,_,k4,_⟩:=this;injection D with D;subst D;exact⟨(nZ.1 k2).1,k4⟩
  | aA cs=>
   obtain⟨g',Z,c,_,_,k⟩:=this;exact⟨(k g D).2,(k g D).1⟩
 have px:∀(j:Nat) (x:Arg) (v:Value) (g:Nat),args[j]?=some x->x.handed=true->(hasB w (jG args (100000+j)) v g↔hasB w (tc x) v g):=by
  intro j x v g J I;rw[r_,J];cases x with
  | pv y=>cases I
  | row e es=>exact⟨fun h=>.inl (al rfl h),fun h=>.inl (al rfl h)⟩
  | map mk es=>exact⟨fun h=>.inl (al rfl h),fun h=>.inl (al rfl h)⟩
  | box cs=>exact⟨fun h=>.inl (al rfl h),fun h=>.inl (al rfl h)⟩
  | aA cs=>exact dU
 exact
 {tm:=fun j _=>by
   show aE _ _ _ _ _ _ (qi args j) ((vs++Array.replicate m undef).getD j undef);unfold qi;cases h:args[j]? with
   | none=>exact .junk _
   | some x=>
    obtain⟨v,J,I⟩:=at_ j x h;have hj:j<vs.size:=by rw[<-hl];exact ah h
    have Y:(vs++Array.replicate m undef).getD j undef=v:=by
     rw[lU,AF hj,J];rfl
    rw[Y];have W:=O j x v h J;cases x with
    | pv y=>exact .p _ _ W
    | row e es=>exact .ow _ v fun _=>⟨trivial,by rw[R];exact I.symm⟩
    | map mk es=>exact .ow _ v fun _=>⟨trivial,by rw[R];exact I.symm⟩
    | box cs=>
     obtain⟨g,Z,c,N,_⟩:=W;exact .bx _ 0 v fun _=>⟨trivial,g,by rw[R,I];exact N,N⟩
    | aA cs=>
     obtain⟨g,Z,c,N,_⟩:=W;exact .bx _ 0 v fun _=>⟨trivial,g,by rw[R,I];exact N,N⟩
  sz:=by simp
  df:=rfl,nb:=hm,pn:=fun _ _=>rfl,ev:=hE,s0:=fun _ h=>h,st:=hS,sb:=fun b h=>.inl h
  hp:=fun k _=>by
   show cd _ _ _ _ _ _ k (jG args k);by_cases dv:k<100000
   ·rw[xA _ _ dv];trivial
   obtain⟨j,rfl⟩:∃j,k=100000+j:=⟨k-100000,by omega⟩;rw[r_];cases h:args[j]? with
   | none=>trivial
   | some x=>
    obtain⟨v,J,I⟩:=at_ j x h;have W:=O j x v h J;cases x with
    | pv y=>trivial
    | row e es=>show an _ _ _ _ _ (vs.getD (100000+j-100000) undef);rw[R,I];exact W.1
    | map mk es=>show u7 _ _ _ _ (vs.getD (100000+j-100000) undef);rw[R,I];exact W.1
    | box cs=>
     obtain⟨g,Z,c,N,e2,e3,e4,e5⟩:=W;refine⟨g,Z,c,by simp only;rw[R,I];exact N,e2,by simpa using e3,fun i x u hi hu=>?_⟩;rw[ao]at hi;obtain⟨z,hz,rfl⟩:=az.1 hi;exact⟨(e5 i z u hz hu).1,.p _ _ (e5 i z u hz hu).2⟩
    | aA cs=>
     obtain⟨g,Z,c,N,e2,_⟩:=W;exact⟨g,Z,c,by simp only;rw[R,I];exact N,e2⟩
  dj:=fun i j g _ _ li lj hi hj=>by
   obtain⟨i',x,v,N,J,I,Y,D⟩:=live i li;obtain⟨j',y,u,e2,k1,k2,k3,k4⟩:=live j lj;have:=hdis i' j' x y v u g J k1 I k2 D k4 (by rw[<-px i' x v g J D,<-N,<-Y];exact hi) (by rw[<-px j' y u g k1 k4,<-e2,<-k3];exact hj);omega
  lv:=fun k g _ lk U=>by
   obtain⟨j,x,v,N,J,I,Y,D⟩:=live k lk;have mF:hasB w (tc x) v g:=by rw[<-px j x v g J D,<-N,<-Y];exact U
   obtain⟨h5,h6⟩:=Oo j x v g J I D mF;exact⟨h5,h6,.inl ⟨j,x,v,J,I,D,mF⟩⟩
  fr:=Fr.refl _ _ }
variable {fn:Func}
theorem qj{P:Program}{tmps:Array Value}{w:World}{vs:List Value}(h:(fn.results.toList.mapM (xz tmps)).run P w=.ok vs w):
  (results fn tmps).run P w=.ok (if h:vs.toArray.size=1 then vs.toArray[0] else .tuple vs.toArray) w:=by
 have e:results fn tmps=(do let vs <-fn.results.mapM (xz tmps);pure (if h:vs.size=1 then vs[0] else .tuple vs)):=by
  unfold results xz;rfl
 rw[e,<-fm (xs:=fn.results),List.mapM_toArray,aI];have:(Functor.map List.toArray (fn.results.toList.mapM (xz tmps))).run P w=.ok vs.toArray w:=by
  rw[map_eq_pure_bind,aI,h];rfl
 rw[this];rfl
theorem I3 {C : Ctx} (hC : aL C) {f : FuncId} {c : Code} (hf : C.P.funcs[f]? = some fn) (hb : fn.body = some c) (mS : (fn.name == "runtime.NumGoroutine") = false) {args : List Arg} {r : AR} {fin : List Fin} (hn : args.length + (fn.ntmps - args.length) ≤ 100000)
  (h:∀A:jR,A.C=C->A.n=args.length+(fn.ntmps-args.length)->W A c (Ci C fn.results.toList args r fin) ⟨qi args,jG args⟩):aT C f args r fin:=by
 refine⟨⟨fn,hf,mS,by rw[hb];rfl⟩,fun S w vs hE hS hl hrep hdis=>?_⟩;have sim:=Ed (fn.ntmps-vs.size) (by rw[<-hl];exact hn) hE hS hl hrep hdis;refine calls_of_wp hf hb ?_;have hw:=h ⟨C,w,Mv w args vs,S,vs.size+(fn.ntmps-vs.size),fun k=>vs.getD (k-100000) undef⟩ rfl (by rw[hl]);refine wp_mono (hw S _ _ w sim) fun e a' w' hq=>?_;obtain⟨S',rho',s',aQ,hk⟩:=hq;have w8:I2 C fn.results.toList args r fin s'->a'.defers=[]/\∃v,(results fn a'.tmps).run C.P w'=.ok v w'/\∃v0 S',Ending.returned v=.returned v0/\Fr (Mv w args vs) w w'/\(∀b,S b->S' b)/\(∀b,S' b->b<w'.heap.size)/\(∀b,S' b->S b\/w.heap.size<=b\/Mv w args vs b)/\
   Da S' w' C.P r v0/\eV S' w' C.P args fin vs.toList/\p6 w w' args fin vs/\(∀g,r.owns=true->hasB w' r.ab v0 g->g<w'.heap.size/\(w.heap.size<=g\/Mv w args vs g)/\∀i,¬cq w' args fin vs.toList i g):=by
  intro hk;refine⟨aQ.df,?_⟩;obtain⟨cT,us,hk,h1,h2,h3,h4⟩:=r9 (A:=⟨C,w,Mv w args vs,S,vs.size+(fn.ntmps-vs.size),fun k=>vs.getD (k-100000) undef⟩) hC aQ fn.results.toList hk;have hrun:=qj h2;have yE:args.length=vs.toList.length:=by simpa using hl
  have Oq:∀(S2:Nat->Prop) (h2:Nat->AB),aU ⟨C,w,Mv w args vs,S,vs.size+(fn.ntmps-vs.size),fun k=>vs.getD (k-100000) undef⟩ bk bk S2 rho' ⟨s'.t,h2⟩ a' w'->∀i u,vs.toList[i]?=some u->(∃x,args[i]?=some x/\x.handed=true)->u=rho' (100000+i):=fun S2 h2 aJ i u hu _=>by
   rw[aJ.pn (100000+i) (by omega)];have ni:vs[i]?=some u:=by simpa using hu
   show u=vs.getD (100000+i-100000) undef;rw[l9,lU,ni];rfl
  have fk:∀(S2:Nat->Prop) (h2:Nat->AB),aU ⟨C,w,Mv w args vs,S,vs.size+(fn.ntmps-vs.size),fun k=>vs.getD (k-100000) undef⟩ bk bk S2 rho' ⟨s'.t,h2⟩ a' w'->h_ h2 100000 args fin->eV S2 w' C.P args fin vs.toList/\(∀i g,cq w' args fin vs.toList i g->∃id,ua h2 (100000+i) id/\(h2 id).live/\hasB w' (h2 id) (rho' id) g/\iI h2 100000 args fin id=true)/\p6 w w' args fin vs:=by
   intro S2 h2 aJ cG;obtain⟨r1,r2⟩:=Ec aJ args fin vs.toList 100000 yE (Oq S2 h2 aJ) cG;refine⟨r1,r2,fun i g hg=>?_,fun i j g hi hj=>?_⟩
   ·obtain⟨id,_,q2,q3,_⟩:=r2 i g hg;obtain⟨p1,_,p3⟩:=aJ.lv id g trivial q2 q3;exact⟨p1,p3.symm⟩
   obtain⟨id,q1,q2,q3,_⟩:=r2 i g hi;obtain⟨s9,p1,p2,p3,_⟩:=r2 j g hj;have:=aJ.dj id s9 g trivial trivial q2 p2 q3 p3;subst this;exact Ck args fin w' vs.toList 100000 (aC _) cG i j id g hi hj q1 p1
  have outer:∀(S2:Nat->Prop) (h2:Nat->AB) (v:Value),aU ⟨C,w,Mv w args vs,S,vs.size+(fn.ntmps-vs.size),fun k=>vs.getD (k-100000) undef⟩ bk bk S2 rho' ⟨s'.t,h2⟩ a' w'->(results fn a'.tmps).run C.P w'=.ok v w'->Da S2 w' C.P r v->h_ h2 100000 args fin->(∀g,r.owns=true->hasB w' r.ab v g->g<w'.heap.size/\(w.heap.size<=g\/Mv w args vs g)/\∀i,¬cq w' args fin vs.toList i g)->
    ∃v,(results fn a'.tmps).run C.P w'=.ok v w'/\∃v0 S',Ending.returned v=.returned v0/\Fr (Mv w args vs) w w'/\(∀b,S b->S' b)/\(∀b,S' b->b<w'.heap.size)/\(∀b,S' b->S b\/w.heap.size<=b\/Mv w args vs b)/\
   Da S' w' C.P r v0/\eV S' w' C.P args fin vs.toList/\p6 w w' args fin vs/\(∀g,r.owns=true->hasB w' r.ab v0 g->g<w'.heap.size/\(w.heap.size<=g\/Mv w args vs g)/\∀i,¬cq w' args fin vs.toList i g):=by
   intro S2 h2 v aJ hr LC cG hown;refine⟨v,hr,v,S2,rfl,aJ.fr,aJ.s0,aJ.st,fun b hb=>?_,LC,(fk S2 h2 aJ cG).1,(fk S2 h2 aJ cG).2.2,hown⟩;rcases aJ.sb b hb with h | h | h
   ·exact .inl h
   ·exact .inr (.inr h)
   exact .inr (.inl h)
  cases r with
  | own e es=>
   simp only at hk;split at hk
   ·rename_i av;obtain⟨u,rfl⟩:∃u,us=[u]:=by
     match us,h1 with
     | [u],_=>exact⟨u,rfl⟩
    have sa:(results fn a'.tmps).run C.P w'=.ok u w':=hrun;split at hk
    ·rename_i i;obtain⟨k1,k2,k3⟩:=hk;have hu:=h4 S' s'.h (fun _ h=>h) aQ 0 _ u rfl rfl;obtain⟨_,hv⟩:=hu.bu (by rw[k1];trivial);have hh:=aQ.hp i trivial;rw[k1]at hh;have aN:(s'.h i).live:=by rw[k1];trivial
     refine outer S' s'.h u aQ sa ⟨by rw[hv];exact hh,fun g hg=>(aQ.mO i g trivial aN (by rw[<-hv];exact hg)).2.1⟩ k3 fun g _ HR=>?_;have hg:bH u=some g:=al rfl HR;have eY:bH (rho' i)=some g:=by rw[<-hv];exact hg
     obtain⟨l1,l2,l3⟩:=aQ.mO i g trivial aN eY;refine⟨l1,l3.symm,fun n LD=>?_⟩;obtain⟨i',_,m1,m2,m3⟩:=(fk S' s'.h aQ k3).2.1 n g LD;have:=aQ.dj i i' g trivial trivial aN m1 (.inl eY) m2;subst this;rw[k2]at m3;cases m3
    ·rename_i i lo hi;have Ry:lo=0/\∃xs,s'.h i=.row e xs/\es=xs.take hi/\iI s'.h 100000 args fin i=false/\h_ s'.h 100000 args fin:=by
      cases lo with
      | succ n=>exact hk.elim
      | zero=>
       cases hr:s'.h i with
       | row e' xs=>
        rw[hr]at hk;simp only at hk;split at hk
        ·rename_i ng;rw[aG.1 ng];exact⟨rfl,xs,rfl,hk⟩
        exact hk.elim
       | _=>rw[hr]at hk;exact hk.elim
     obtain⟨rfl,xs,ai,k1,k2,k3⟩:=Ry;have hu:=h4 S' s'.h (fun _ h=>h) aQ 0 _ u rfl rfl;obtain⟨_,n,cp,ad,ti,q1,q2,_,q3,q4,hv⟩:=hu.rJ ai;have hh:=aQ.hp i trivial;rw[ai]at hh;have hh:an C.P w' (ay S' w') e xs (rho' i):=hh;have aN:(s'.h i).live:=by rw[ai];trivial
     have hblk:∀g,bH u=some g->bH (rho' i)=some g:=by
      intro g hg;rw[hv]at hg;rw[q1];split at hg
      ·cases ad<;>exact hg
      cases ad with
      | none=>cases hg
      | some a0=>
       simp only[eM,Nat.zero_mul,Addr.add,ae]at hg;exact hg
     refine outer S' s'.h u aQ sa ⟨?_,fun g hg=>(aQ.mO i g trivial aN (hblk g hg)).2.1⟩ k3 fun g _ HR=>?_
     ·rw[k1];exact an.front hh q1 q3 (by rw[hv];simp[Addr.add])
     have hg:bH u=some g:=al rfl HR;obtain⟨l1,l2,l3⟩:=aQ.mO i g trivial aN (hblk g hg);refine⟨l1,l3.symm,fun n LD=>?_⟩;obtain⟨i',_,m1,m2,m3⟩:=(fk S' s'.h aQ k3).2.1 n g LD;have:=aQ.dj i i' g trivial trivial aN m1 (.inl (hblk g hg)) m2;subst this;rw[k2]at m3;cases m3
    ·split at hk
     case h_2=>exact hk.elim
     rename_i ti hT;split at hk
     case h_2=>exact hk.elim
     rename_i hpos;obtain⟨k1,k3⟩:=hk;subst k1;obtain⟨info,z,g1,g2,_⟩:=hC.eL e ti hT;have hu:=h4 S' s'.h (fun _ h=>h) aQ 0 _ u rfl rfl;have ni:u=.slice none 0 0:=by cases hu;rfl
     subst ni;exact outer S' s'.h _ aQ sa ⟨⟨info,[],g1,by have:=dT hpos;omega,World.ownsRow_nil _ _ _ _,by simp,by simp,by simp⟩,fun g hg=>by cases hg⟩ k3 fun g _ hg=>by cases al rfl hg
    exact hk.elim
   exact hk.elim
  | hown cs=>
   simp only at hk;split at hk
   ·rename_i av;obtain⟨u,rfl⟩:∃u,us=[u]:=by
     match us,h1 with
     | [u],_=>exact⟨u,rfl⟩
    have sa:(results fn a'.tmps).run C.P w'=.ok u w':=hrun;split at hk
    ·rename_i i off;cases off with
     | succ n=>exact hk.elim
     | zero=>
      obtain⟨k1,k2,k3⟩:=hk;have hu:=h4 S' s'.h (fun _ h=>h) aQ 0 _ u rfl rfl;obtain⟨_,g0,HR,hv⟩:=hu.dt (by rw[k1];trivial);have Ks:u=rho' i:=by rw[hv,HR]
      have hh:=aQ.hp i trivial;rw[k1]at hh;obtain⟨g1,ty,c,e1,e2⟩:=hh;have aN:(s'.h i).live:=by rw[k1];trivial
      have PY:∀k,hasB w' (.aA cs) u k->hasB w' (s'.h i) (rho' i) k:=fun k hk=>by rw[k1,<-Ks];exact hk
      refine outer S' s'.h u aQ sa ⟨g1,ty,c,by rw[Ks];exact e1,e2,fun k hk=>(aQ.lv i k trivial aN (PY k hk)).2.1⟩ k3 fun g _ hg=>?_;have eY:=PY g hg;obtain⟨l1,l2,l3⟩:=aQ.lv i g trivial aN eY;refine⟨l1,l3.symm,fun n LD=>?_⟩;obtain⟨i',_,m1,m2,m3⟩:=(fk S' s'.h aQ k3).2.1 n g LD;have:=aQ.dj i i' g trivial trivial aN m1 eY m2;subst this;rw[k2]at m3;cases m3
    exact hk.elim
   exact hk.elim
  | p x=>
   simp only at hk;split at hk
   ·rename_i av;obtain⟨u,rfl⟩:∃u,us=[u]:=by
     match us,h1 with
     | [u],_=>exact⟨u,rfl⟩
    have sa:(results fn a'.tmps).run C.P w'=.ok u w':=hrun;obtain⟨y,fz,S2,⟨rfl,cG⟩,aJ,hp,nX,_,_⟩:=e8 hC (s:=⟨s'.t,s'.h⟩) aQ (kM.refl s'.h) (h4 S' s'.h (fun _ h=>h) aQ 0 _ u rfl rfl) hk;exact outer S2 _ u aJ sa hp cG (fun g h=>by cases h)
   exact hk.elim
  | tu xs=>
   simp only at hk;split at hk
   ·exact hk.elim
   rename_i bO;obtain⟨ys,h',S2,⟨rfl,cG⟩,aJ,nX,hlen,hp⟩:=zp hC cT us S' s'.h h1 aQ (fun S2 h2 hS aJ=>h4 S2 h2 hS aJ) hk;have Ot:us.toArray.size≠1:=by
    intro e;have e1:us.length=1:=by simpa using e
    obtain⟨q,hq⟩:=List.length_eq_one_iff.1 (h1.trans e1);exact bO q hq
   rw[dif_neg Ot]at hrun;refine outer S2 h' _ aJ hrun ⟨us.toArray,rfl,by simpa using hlen,fun i x u hx hu=>hp i x u hx (by simpa using hu)⟩ cG (fun g h=>by cases h)
 cases e with
 | normal=>exact w8 hk
 | ret=>exact w8 hk
 | exit id=>exact hk.elim
 | goto l=>exact hk.elim
 | panic c=>exact hk.elim
 | outgrown=>exact hk.elim
def nT(args:List AV)(j:Nat):AV:=match args[j]? with
 | some x=>x
 | none=>.junk
def I4:List (Nat×AB)->(Nat->AB)->Prop
 | [],_=>True
 | (n,b)::r,h=>h n=b/\I4 r h
def HS(cT:List AV)(r:AV):Prop:=match r with
 | .junk=>True
 | r=>match cT with
  | [a]=>a=r
  | _=>AV.tu cT=r
def Ee(C:Ctx)(rs:List ResultVar)(r:AV)(fin:List (Nat×AB))(s:AS):Prop:=vx C s rs fun cT=>HS cT r/\I4 fin s.h
def xB(C:Ctx)(rs:List ResultVar)(r:AV)(fin:List (Nat×AB))(e:Exit)(s:AS):Prop:=match e with
 | .normal=>Ee C rs r fin s
 | .ret=>Ee C rs r fin s
 | _=>False
theorem ub:∀{fin:List (Nat×AB)} {h:Nat->AB},I4 fin h->∀k,bp fin k=.none\/bp fin k=h k
 | [],_,_,_=>.inl rfl
 | (n,b)::r,h,hf,k=>by
  unfold bp;split
  ·rename_i e;rw[bq e];exact .inr hf.1.symm
  exact ub hf.2 k
theorem Gl {C : Ctx} (hC : aL C) {f : FuncId} {c : Code} (hf : C.P.funcs[f]? = some fn) (hb : fn.body = some c) (mS : (fn.name == "runtime.NumGoroutine") = false) {args : List AV} {bX : List (Nat × AB)} {r : AV} {fin : List (Nat × AB)} (hn : args.length + (fn.ntmps - args.length) ≤ 100000)
  (h:∀A:jR,A.C=C->A.n=args.length+(fn.ntmps-args.length)->W A c (xB C fn.results.toList r fin) ⟨nT args,bp bX⟩):cR C f args bX r fin:=by
 refine⟨⟨fn,hf,mS,by rw[hb];rfl⟩,fun S w vs rho hE hS hl HK hrep=>?_⟩;have sim:aU ⟨C,w,po w rho (bp bX),S,vs.size+(fn.ntmps-vs.size),rho⟩ bk bk S rho ⟨nT args,bp bX⟩ { tmps:=vs++Array.replicate (fn.ntmps-vs.size) undef,defers:=[] } w:=
  {tm:=fun j _=>by
    show aE _ _ _ _ _ _ (nT args j) ((vs++Array.replicate (fn.ntmps-vs.size) undef).getD j undef);unfold nT;split
    ·rename_i x hx;obtain⟨v,hv⟩:=fJ hl (ah hx);have hj:=(nZ.1 hv).1;rw[lU,AF hj,hv];exact hrep j x v hx hv
    exact .junk _
   sz:=by simp
   df:=rfl
   nb:=by show vs.size+(fn.ntmps-vs.size)<=100000;rw[<-hl];exact hn
   pn:=fun _ _=>rfl
   ev:=hE,s0:=fun _ h=>h,st:=hS,sb:=fun _ h=>.inl h
   hp:=fun id _=>HK.hp id
   dj:=fun i j g _ _ li lj hi hj=>HK.dj i j g li lj hi hj
   lv:=fun i g _ li hi=>⟨(HK.lv i g li hi).1,(HK.lv i g li hi).2,.inl ⟨i,li,hi⟩⟩
   fr:=Fr.refl _ _ }
 refine calls_of_wp hf hb ?_;have hw:=h ⟨C,w,po w rho (bp bX),S,vs.size+(fn.ntmps-vs.size),rho⟩ rfl (by rw[hl]);refine wp_mono (hw S _ _ w sim) fun e a' w' hq=>?_;obtain⟨S',rho',s',aQ,hk⟩:=hq;have w8:Ee C fn.results.toList r fin s'->a'.defers=[]/\∃v,(results fn a'.tmps).run C.P w'=.ok v w'/\∃v0 S' rho',Ending.returned v=.returned v0/\Fr (po w rho (bp bX)) w w'/\(∀b,S b->S' b)/\(∀b,S' b->b<w'.heap.size)/\(∀b,S' b->S b\/w.heap.size<=b\/po w rho (bp bX) b)/\
   (∀n,100000<=n->rho' n=rho n)/\Lu S' w' C.P rho' (bp fin)/\aE S' w' C.P bk rho' (bp fin) r v0/\∀g,po w' rho' (bp fin) g->w.heap.size<=g\/po w rho (bp bX) g:=by
  intro hk;refine⟨aQ.df,?_⟩;obtain⟨cT,us,⟨hr,cG⟩,h1,h2,h3,h4⟩:=r9 (A:=⟨C,w,po w rho (bp bX),S,vs.size+(fn.ntmps-vs.size),rho⟩) hC aQ fn.results.toList hk;have hrun:=qj h2;have hh:=ub cG;have there:∀k,(bp fin k).there->bp fin k=s'.h k:=fun k ht=>(hh k).resolve_left fun e=>by rw[e]at ht;exact ht
  have T:fu S' S' w' w' bk bk rho' rho' s'.h (bp fin):=⟨fun _ h=>h,fun _ _=>rfl,fun k ht=>⟨by rw[<-there k ht];exact ht,fun _=>⟨trivial,rfl⟩⟩,fun k e he=>by rw[<-there k (fv he)];exact he⟩;have hres:=h4 S' s'.h (fun _ h=>h) aQ;refine⟨_,hrun,_,S',rho',rfl,aQ.fr,aQ.s0,aQ.st,fun b hb=>?_,aQ.pn,⟨fun id=>?_,fun i j g li lj hi hj=>?_,fun i g li hi=>?_⟩,?_,fun g ⟨i,li,hi⟩=>?_⟩
  ·rcases aQ.sb b hb with h | h | h
   ·exact .inl h
   ·exact .inr (.inr h)
   exact .inr (.inl h)
  ·rcases hh id with e | e
   ·rw[e];trivial
   rw[e];exact (aQ.hp id trivial).bA T (fun _ _ _=>rfl) (fun _=>rfl)
  ·have e1:=there i (eF li);have e2:=there j (eF lj);rw[e1]at li hi;rw[e2]at lj hj;exact aQ.dj i j g trivial trivial li lj hi hj
  ·have e1:=there i (eF li);rw[e1]at li hi;exact⟨(aQ.lv i g trivial li hi).1,(aQ.lv i g trivial li hi).2.1⟩
  ·unfold HS at hr;split at hr
   ·exact .junk _
   split at hr
   ·rename_i av;obtain⟨u,rfl⟩:∃u,us=[u]:=by
     match us,h1 with
     | [u],_=>exact⟨u,rfl⟩
    subst hr;exact (hres 0 _ u rfl rfl).bA T
   rename_i bO;subst hr;have Ot:us.toArray.size≠1:=by
    intro e;have e1:us.length=1:=by simpa using e
    obtain⟨q,hq⟩:=List.length_eq_one_iff.1 (h1.trans e1);exact bO q hq
   rw[dif_neg Ot];exact .tu _ us.toArray (by simpa using h1) fun i x u hx hu=>(hres i x u hx (by simpa using hu)).bA T
  have e1:=there i (eF li);rw[e1]at li hi;exact (aQ.lv i g trivial li hi).2.2.symm
 cases e with
 | normal=>exact w8 hk
 | ret=>exact w8 hk
 | exit id=>exact hk.elim
 | goto l=>exact hk.elim
 | panic c=>exact hk.elim
 | outgrown=>exact hk.elim
theorem jm.of{C:Ctx}{f:FuncId}{t:TypeId}{xs:List PV}{e:TypeId}{l:List (List PV)}{r:PV}{l':List (List PV)}
  (h:∀(c0:Array Value) (I:TypeId),cR C f (.ifp t (.ow 100000)::xs.map .p) [(100000,.cell c0 I (.ow 90001)),(90001,.row e l)] (.p r) [(100000,.cell c0 I (.ow 90001)),(90001,.row e l')]):jm C f t xs e l r l':=by
 refine⟨(h #[] 0).1,fun S w vs g m c I v hE hS hl W hg hv ai Km hb=>?_⟩;obtain⟨rho,eZ⟩:∃rho:Nat->Value,rho=fun n=>if n=100000 then .pointer (some ⟨g,m,none⟩) else v:=⟨_,rfl⟩;have Z:rho 100000=.pointer (some ⟨g,m,none⟩):=by rw[eZ];rfl
 have r1:rho 90001=v:=by rw[eZ];rfl
 have bX:∀n,bp [(100000,.cell c I (.ow 90001)),(90001,.row e l)] n=(if n=100000 then .cell c I (.ow 90001) else if n=90001 then .row e l else .none):=fun n=>by
  by_cases D:n=100000
  ·subst D;rfl
  by_cases N:n=90001
  ·subst N;rfl
  simp only[bp,vu D,vu N,af D,af N]
 have o1:v.oneCell'=true:=by
  obtain⟨_,_,_,_,h3,_⟩:=ai;rcases h3.2 with⟨h4,_⟩ | ⟨_,_,_,h4,_⟩<;>rw[h4]<;>rfl
 have tv:m<c.size:=(nZ.1 hv).1;have Ef:c.setIfInBounds m v=c:=by
  apply Array.ext_getElem?;intro i;rw[fg];split
  ·rename_i e;subst e;first | exact hv.symm | (rw[ae tv];exact hv.symm)
  rfl
 have own:∀i z,(bp [(100000,.cell c I (.ow 90001)),(90001,.row e l)] i).live->hasB w (bp [(100000,.cell c I (.ow 90001)),(90001,.row e l)] i) (rho i) z->(i=100000/\z=g)\/(i=90001/\bH v=some z):=fun i z O J=>by
  rw[bX]at O J;by_cases D:i=100000
  ·subst D;rw[ae rfl]at J;have:=al rfl J;rw[Z]at this;injection this with this;exact .inl ⟨rfl,this.symm⟩
  by_cases N:i=90001
  ·subst N;have:=al rfl J;rw[r1]at this;exact .inr ⟨rfl,this⟩
  rw[af D,af N]at O;exact O.elim
 have HK:Lu S w C.P rho (bp [(100000,.cell c I (.ow 90001)),(90001,.row e l)]):=by
  refine⟨fun id=>?_,fun i j z O lj J hj=>?_,fun i z O J=>?_⟩
  ·by_cases D:id=100000
   ·subst D;exact⟨g,m,v,Z,tv,by rw[Ef];exact hg,o1,.ow _ _ fun _=>⟨trivial,r1.symm⟩⟩
   by_cases N:id=90001
   ·subst N;show an _ _ _ _ _ (rho 90001);rw[r1];exact ai
   rw[bX,af D,af N];trivial
  ·rcases own i z O J with⟨a1,R⟩ | ⟨a1,R⟩<;>rcases own j z lj hj with⟨b1,b2⟩ | ⟨b1,b2⟩
   ·rw[a1,b1]
   ·exact absurd R (hb z b2).2.1
   ·exact absurd b2 (hb z R).2.1
   rw[a1,b1]
  rcases own i z O J with⟨a1,R⟩ | ⟨a1,R⟩
  ·subst R;refine⟨?_,Km⟩;have:=(nZ.1 hg).1;exact this
  exact⟨(hb z R).2.2,(hb z R).1⟩
 have key:=(h c I).2 S w (Value.iface t (.pointer (some ⟨g,m,none⟩))::vs).toArray rho hE hS (by simp[hl]) HK (fun j x u Y hu=>by
  cases j with
  | zero=>
   simp at Y hu;subst Y;subst hu;exact .ifp _ _ _ (.ow _ _ fun _=>⟨trivial,Z.symm⟩)
  | succ j=>
   have Y:(xs.map AV.p)[j]?=some x:=by simpa using Y
   have hu:vs[j]?=some u:=by simpa using hu
   rw[ao]at Y;obtain⟨y,hy,rfl⟩:=az.1 Y;exact .p _ _ (W j y u hy hu))
 refine key.mono fun e' w' fM=>?_;obtain⟨u,S',rho',rfl,hf,nX,PS,Od,D2,xu,hres,hown⟩:=fM;have q0:=xu.hp 100000;obtain⟨g2,Rz,v',U,k2,k3,k4,k5⟩:=q0;rw[D2 100000 (aC _),Z]at U;injection U with U;injection U with U;injection U with U RA;subst U;subst RA;have k5:=(k5.bu (by trivial)).2;have q1:an C.P w' (ay S' w') e l' (rho' 90001):=xu.hp 90001;rw[<-k5]at q1;have HT:∀k,po w rho (bp [(100000,.cell c I (.ow 90001)),(90001,.row e l)]) k->k=g\/bH v=some k:=fun k ⟨i,O,J⟩=>(own i k O J).elim (fun h=>.inl h.2) fun h=>.inr h.2;refine⟨u,v',S',rfl,⟨hf.os,hf.tape,hf.output,hf.size,fun k hk tP=>hf.block k hk fun h=>tP (HT k h)⟩,hres.cb,k3,q1,fun k hk=>?_⟩;have mF:hasB w' (AB.row e l') (rho' 90001) k:=.inl (by rw[<-k5];exact hk);have bO:k≠g:=fun D=>by
  have:=xu.dj 90001 100000 k trivial trivial mF (.inl (by rw[D2 100000 (aC _),Z,D];rfl));cases this
 refine⟨(xu.lv 90001 k trivial mF).1,bO,?_⟩;rcases hown k ⟨90001,trivial,mF⟩ with h1 | h1
 ·exact .inr h1
 rcases HT k h1 with h2 | h2
 ·exact absurd h2 bO
 exact .inl h2
end Go.AM
