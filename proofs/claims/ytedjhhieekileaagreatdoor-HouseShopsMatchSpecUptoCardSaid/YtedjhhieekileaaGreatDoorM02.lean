/- Part 2 of the proof of HouseShopsMatchSpec. -/
import Derived.Test.YtedjhhieekileaaGreatDoorM01
set_option linter.unusedVariables false
set_option linter.unusedSimpArgs false
set_option maxRecDepth 100000
set_option maxHeartbeats 8000000
namespace Go
abbrev l5:=@Nat.add_right_cancel_iff
abbrev fL:=@List.mem_cons
abbrev jc:=@List.nodup_cons
abbrev vn:=@Array.getElem?_eq_some_iff
abbrev W4:=@List.getElem?_zipWith
abbrev er:=@List.length_zipWith
abbrev qV:=@List.getElem?_cons_zero
abbrev n9:=@List.mem_singleton
abbrev AF:=@List.dropLast_concat_getLast
abbrev j8:=@Bool.not_eq_true'
abbrev vo:=@Array.toList_append
abbrev n_:=@Bool.and_self
abbrev oa:=@Bool.or_eq_true
abbrev eP:=@Nat.ble_eq_true_of_le
abbrev vp:=@Array.getElem?_append_left
abbrev l9:=@Array.getElem?_append_right
abbrev fQ:=@Bool.or_eq_false_iff
abbrev fR:=@Option.getD_some
abbrev vy:=@Classical.choose_spec
abbrev ia:=@Bool.true_and
abbrev ou:=@Bool.or_true
abbrev gC:=@Nat.lt_trichotomy
abbrev qZ:=@Nat.add_sub_cancel_left
end Go
namespace Go.AM
open Go.RowKit
variable {S':Nat->Prop} {w':World}
theorem gk{S:Nat->Prop}{w:World}{x:PV}{v:Value}(h:nL x=true)(z:ay S w x v):ay S' w' x v:=by
 induction z with
 | im=>exact .im _
 | ag cs vs hl h1 hc=>
  refine .ag cs vs hl h1 fun i c v D I=>?_;have J:=aj D;have:=cC.1 h c J;have N:=hc i c v D I;cases c with
  | im y=>cases N;exact .im _
  | _=>cases this
 | nil=>cases h
 | sl=>cases h
 | ip=>cases h
 | fn=>cases h
 | mp=>cases h
 | ifc t x v z ih=>exact .ifc t _ _ (ih h)
variable {A:jR} {V L:Nat->Prop} {rho:Nat->Value} {s:AS}
theorem aU.grow{S:Nat->Prop}{a:Act}{w:World}(z:aU A V L S rho s a w)(hC:aL A.C)(w':World)(D:Fr (fun _=>False) w w'):aU A V L S rho s a w':=by
 have Y:∀b,S b->w'.heap[b]?=w.heap[b]?:=fun k J=>D.block k (z.st k J) (fun h=>h);have T:fu S S w w' L L rho rho s.h s.h:=⟨fun b h=>h,Y,fun j I=>⟨I,fun hl=>⟨hl,rfl⟩⟩,fun j e' I=>I⟩;exact
 {tm:=fun j I=>(z.tm j I).bA T
  sz:=z.sz,df:=z.df,nb:=z.nb,pn:=z.pn
  ev:=hC.env _ _ _ _ z.ev (fun b h=>h) Y D.size
  s0:=z.s0
  st:=fun b hb=>bg (z.st b hb) D.size
  sb:=z.sb
  hp:=fun j I=>(z.hp j I).bA T (fun N g U=>D.block g (z.lv j g I N U).1 (fun h=>h)) (fun _=>rfl)
  dj:=fun i j g O I N Z cK dW=>z.dj i j g O I N Z (b_ (fun k J=>D.block k (z.lv i k O N J).1 (fun h=>h)) cK) (b_ (fun k J=>D.block k (z.lv j k I Z J).1 (fun h=>h)) dW)
  lv:=fun i g O N U=>by obtain⟨h1,h2⟩:=z.lv i g O N (b_ (fun k J=>D.block k (z.lv i k O N J).1 (fun h=>h)) U);exact⟨bg h1 D.size,h2⟩
  fr:=z.fr.next D.os D.tape D.output D.size fun k J _=>D.block k (bg J z.fr.size) (fun h=>h) }
inductive dO(L:Nat->Prop)(rho:Nat->Value)(h:Nat->AB):List Arg->List Value->List (Nat×AB)->Prop
 | nil:dO L rho h [] [] []
 | pv (x:PV) (v:Value) {xs:List Arg} {vs:List Value} {ids:List (Nat×AB)} (hr:dO L rho h xs vs ids):dO L rho h (.pv x::xs) (v::vs) ids
 | row (id:Nat) (e:TypeId) (es:List (List PV)) {xs:List Arg} {vs:List Value} {ids:List (Nat×AB)} (hL:L id) (hid:h id=.row e es) (hr:dO L rho h xs vs ids):dO L rho h (.row e es::xs) (rho id::vs) ((id,.row e es)::ids)
 | map (id:Nat) (mk:MK) (es:List (Value×PV)) {xs:List Arg} {vs:List Value} {ids:List (Nat×AB)} (hL:L id) (hid:h id=.map mk es) (hr:dO L rho h xs vs ids):dO L rho h (.map mk es::xs) (rho id::vs) ((id,.map mk es)::ids)
 | box (id:Nat) (cs:List AV) (ys:List PV) {xs:List Arg} {vs:List Value} {ids:List (Nat×AB)} (hL:L id) (hid:h id=.box cs) (hy:cE cs=some ys) (hr:dO L rho h xs vs ids):dO L rho h (.box ys::xs) (rho id::vs) ((id,.box cs)::ids)
 | aA (id:Nat) (cs:List HC) {xs:List Arg} {vs:List Value} {ids:List (Nat×AB)} (hL:L id) (hid:h id=.aA cs) (hr:dO L rho h xs vs ids):dO L rho h (.aA cs::xs) (rho id::vs) ((id,.aA cs)::ids)
theorem BX(hC:aL A.C){t:Nat->AV}{a:Act}{w:World}{h:Nat->AB}{md:Nat->Bool}:
  ∀(cT:List AV) (vs:List Value) (j:Nat) (h':Nat->AB) (S:Nat->Prop) (K:List Arg->List (Nat×AB)->List (Nat×AB)->Prop),cT.length=vs.length->aU A V L S rho ⟨t,h'⟩ a w->kM h h' ->
   (∀(S2:Nat->Prop) (D:Nat->AB),aU A V L S2 rho ⟨t,D⟩ a w->∀(i:Nat) x v,cT[i]?=some x->vs[i]?=some v->aE S2 w A.C.P L rho D x v)->
   (∀id,(h' id).there->(h id).there)->eB md h j cT K ->
  ∃xs ids fz S',K xs ids fz/\aU A V L S' rho ⟨t,app h' fz⟩ a w/\(∀b,S b->S' b)/\kM h (app h' fz)/\(∀p∈fz,L p.1)/\xs.length=vs.length/\dO L rho h xs vs ids/\(∀(i:Nat) x v,xs[i]?=some (.pv x)->vs[i]?=some v->ay S' w x v):=by
 intro cT
 induction cT with
 | nil=>
  intro vs j h' S K hl J Y hrep _ N;have:vs=[]:=gw hl.symm;subst this;exact⟨[],[],[],S,N,J,fun _ h=>h,Y,by simp,rfl,.nil,by simp⟩
 | cons x cT ih=>
  intro vs j h' S K hl J Y hrep Z N;cases vs with
  | nil=>simp at hl
  | cons v vs=>
   simp only[bw,l5]at hl;have hx:aE S w A.C.P L rho h' x v:=hrep S h' J 0 x v rfl rfl;have rP:∀(S2:Nat->Prop) (D:Nat->AB),aU A V L S2 rho ⟨t,D⟩ a w->∀(i:Nat) x v,cT[i]?=some x->vs[i]?=some v->aE S2 w A.C.P L rho D x v:=fun S2 D s2 i x v I O=>hrep S2 D s2 (i+1) x v (by simpa using I) (by simpa using O);unfold eB at N;split at N
   ·obtain⟨y,fz,S2,N,aJ,hp,nX,C3,wU⟩:=e8 hC J Y hx N;have NW:∀id,(app h' fz id).there->(h id).there:=fun id ht=>by
     rcases C3 id with z | ⟨e',xs,z,D⟩ | ⟨cs,xs,z,_,D⟩
     ·rw[z]at ht;exact ht
     ·rw[z];trivial
     rw[z];trivial
    obtain⟨xs,ids,jr,S',k1,k2,U,k4,k5,k6,k7,k8⟩:=ih vs (j+1) (app h' fz) S2 _ hl aJ C3 rP NW N;refine⟨.pv y::xs,ids,fz++jr,S',k1,by rw[bJ];exact k2,fun b hb=>U b (nX b hb),by rw[bJ];exact k4,fun p hp=>(cD.1 hp).elim (wU p) (k5 p),by simp[k6],.pv y v k7,fun i x u I O=>?_⟩;cases i with
    | zero=>simp at I O;subst I O;exact hp.mono U (fun _ _=>rfl)
    | succ i=>exact k8 i x u (by simpa using I) (by simpa using O)
   split at N
   ·rename_i id;split at N
    ·rename_i e es ai;obtain⟨xs,ids,jr,S',k1,k2,U,k4,k5,k6,k7,k8⟩:=ih vs (j+1) h' S _ hl J Y rP Z N;have ht:(h' id).there:=by
      rcases Y id with z | ⟨e',xs,z,D⟩ | ⟨cs,xs,z,_,D⟩
      ·rw[z,ai];trivial
      ·rw[D];trivial
      rw[D];trivial
     obtain⟨hL,rfl⟩:=hx.bu ht;refine⟨.row e es::xs,(id,.row e es)::ids,jr,S',k1,k2,U,k4,k5,by simp[k6],.row id e es hL ai k7,fun i x u I O=>?_⟩;cases i with
     | zero=>simp at I
     | succ i=>exact k8 i x u (by simpa using I) (by simpa using O)
    ·rename_i es C4;obtain⟨xs,ids,jr,S',k1,k2,U,k4,k5,k6,k7,k8⟩:=ih vs (j+1) h' S _ hl J Y rP Z N;have he:h' id=.f_ es:=by
      rcases Y id with z | ⟨e',xs,z,D⟩ | ⟨cs,xs,z,_,D⟩
      ·rw[z,C4]
      ·rw[C4]at z;cases z
      rw[C4]at z;cases z
     obtain⟨hL,rfl⟩:=hx.bu (by rw[he];trivial);have hh:=J.hp id hL;have hh:cd S w A.C.P L rho h' id (h' id):=hh;rw[he]at hh;refine⟨.pv (.sl es)::xs,ids,jr,S',k1,k2,U,k4,k5,by simp[k6],.pv _ _ k7,fun i x u I O=>?_⟩;cases i with
     | zero=>simp at I O;subst I O;exact ay.mono hh U (fun _ _=>rfl)
     | succ i=>exact k8 i x u (by simpa using I) (by simpa using O)
    ·rename_i mk es ai;obtain⟨xs,ids,jr,S',k1,k2,U,k4,k5,k6,k7,k8⟩:=ih vs (j+1) h' S _ hl J Y rP Z N;have ht:(h' id).there:=by
      rcases Y id with z | ⟨e',xs,z,D⟩ | ⟨cs,xs,z,_,D⟩
      ·rw[z,ai];trivial
      ·rw[D];trivial
      rw[D];trivial
     obtain⟨hL,rfl⟩:=hx.bu ht;refine⟨.map mk es::xs,(id,.map mk es)::ids,jr,S',k1,k2,U,k4,k5,by simp[k6],.map id mk es hL ai k7,fun i x u I O=>?_⟩;cases i with
     | zero=>simp at I
     | succ i=>exact k8 i x u (by simpa using I) (by simpa using O)
    exact N.elim
   ·obtain⟨xs,ids,jr,S',k1,k2,U,k4,k5,k6,k7,k8⟩:=ih vs (j+1) h' S _ hl J Y rP Z N;refine⟨.pv _::xs,ids,jr,S',k1,k2,U,k4,k5,by simp[k6],.pv _ _ k7,fun i x u I O=>?_⟩;cases i with
    | zero=>simp at I O;subst I O;exact hx.cb.mono U (fun _ _=>rfl)
    | succ i=>exact k8 i x u (by simpa using I) (by simpa using O)
   ·rename_i id;split at N
    ·rename_i cs aA;split at N
     ·rename_i ys Dx;obtain⟨xs,ids,jr,S',k1,k2,U,k4,k5,k6,k7,k8⟩:=ih vs (j+1) h' S _ hl J Y rP Z N;have ht:(h' id).there:=by
       rcases Y id with z | ⟨e',xs,z,D⟩ | ⟨cs,xs,z,_,D⟩
       ·rw[z,aA];trivial
       ·rw[D];trivial
       rw[D];trivial
      obtain⟨hL,g,hg,hv⟩:=hx.dt ht;have yB:v=rho id:=by rw[hv,hg]
      subst yB;refine⟨.box ys::xs,(id,.box cs)::ids,jr,S',k1,k2,U,k4,k5,by simp[k6],.box id cs ys hL aA Dx k7,fun i x u I O=>?_⟩;cases i with
      | zero=>simp at I
      | succ i=>exact k8 i x u (by simpa using I) (by simpa using O)
     exact N.elim
    ·rename_i cs aA;obtain⟨xs,ids,jr,S',k1,k2,U,k4,k5,k6,k7,k8⟩:=ih vs (j+1) h' S _ hl J Y rP Z N;have ht:(h' id).there:=by
      rcases Y id with z | ⟨e',xs,z,D⟩ | ⟨cs,xs,z,_,D⟩
      ·rw[z,aA];trivial
      ·rw[D];trivial
      rw[D];trivial
     obtain⟨hL,g,hg,hv⟩:=hx.dt ht;have yB:v=rho id:=by rw[hv,hg]
     subst yB;refine⟨.aA cs::xs,(id,.aA cs)::ids,jr,S',k1,k2,U,k4,k5,by simp[k6],.aA id cs hL aA k7,fun i x u I O=>?_⟩;cases i with
     | zero=>simp at I
     | succ i=>exact k8 i x u (by simpa using I) (by simpa using O)
    exact N.elim
   exact N.elim
variable {xs:List Arg} {vs:List Value}
theorem dO.at{h:Nat->AB}{ids:List (Nat×AB)}(H:dO L rho h xs vs ids):∀(j:Nat) x v,xs[j]?=some x->vs[j]?=some v->x.handed=true->∃id b,(id,b)∈ids/\L id/\h id=b/\v=rho id/\(((∃e es,x=.row e es/\b=.row e es)\/∃mk es,x=.map mk es/\b=.map mk es)\/(∃cs ys,x=.box ys/\b=.box cs/\cE cs=some ys)\/∃cs,x=.aA cs/\b=.aA cs):=by
 induction H with
 | nil=>intro j x v z;simp at z
 | pv y u hr ih=>
  intro j x v z D I;cases j with
  | zero=>simp at z;subst z;cases I
  | succ j=>exact ih j x v (by simpa using z) (by simpa using D) I
 | row id e es J hid hr ih=>
  intro j x v z D I;cases j with
  | zero=>simp at z D;subst z D;exact⟨id,_,by simp,J,hid,rfl,.inl (.inl ⟨e,es,rfl,rfl⟩)⟩
  | succ j=>obtain⟨i,b,m,r⟩:=ih j x v (by simpa using z) (by simpa using D) I;exact⟨i,b,by simp[m],r⟩
 | map id mk es J hid hr ih=>
  intro j x v z D I;cases j with
  | zero=>simp at z D;subst z D;exact⟨id,_,by simp,J,hid,rfl,.inl (.inr ⟨mk,es,rfl,rfl⟩)⟩
  | succ j=>obtain⟨i,b,m,r⟩:=ih j x v (by simpa using z) (by simpa using D) I;exact⟨i,b,by simp[m],r⟩
 | box id cs ys J hid hy hr ih=>
  intro j x v z D I;cases j with
  | zero=>simp at z D;subst z D;exact⟨id,_,by simp,J,hid,rfl,.inr (.inl ⟨cs,ys,rfl,rfl,hy⟩)⟩
  | succ j=>obtain⟨i,b,m,r⟩:=ih j x v (by simpa using z) (by simpa using D) I;exact⟨i,b,by simp[m],r⟩
 | aA id cs J hid hr ih=>
  intro j x v z D I;cases j with
  | zero=>simp at z D;subst z D;exact⟨id,_,by simp,J,hid,rfl,.inr (.inr ⟨cs,rfl,rfl⟩)⟩
  | succ j=>obtain⟨i,b,m,r⟩:=ih j x v (by simpa using z) (by simpa using D) I;exact⟨i,b,by simp[m],r⟩
theorem dO.back{h:Nat->AB}{ids:List (Nat×AB)}(H:dO L rho h xs vs ids):∀id b,(id,b)∈ids->L id/\h id=b/\b.live/\∃(j:Nat) (x:Arg),xs[j]?=some x/\vs[j]?=some (rho id)/\x.handed=true:=by
 induction H with
 | nil=>intro id b h;cases h
 | pv y u hr ih=>intro id b h;obtain⟨z,D,I,j,x,J⟩:=ih id b h;exact⟨z,D,I,j+1,x,by simpa using J⟩
 | row i e es N hid hr ih=>
  intro id b h;rcases fL.1 h with h | h
  ·injection h with z D;subst z D;exact⟨N,hid,trivial,0,_,rfl,rfl,rfl⟩
  obtain⟨z,D,I,j,x,J⟩:=ih id b h;exact⟨z,D,I,j+1,x,by simpa using J⟩
 | map i mk es N hid hr ih=>
  intro id b h;rcases fL.1 h with h | h
  ·injection h with z D;subst z D;exact⟨N,hid,trivial,0,_,rfl,rfl,rfl⟩
  obtain⟨z,D,I,j,x,J⟩:=ih id b h;exact⟨z,D,I,j+1,x,by simpa using J⟩
 | box i cs ys N hid hy hr ih=>
  intro id b h;rcases fL.1 h with h | h
  ·injection h with z D;subst z D;exact⟨N,hid,trivial,0,_,rfl,rfl,rfl⟩
  obtain⟨z,D,I,j,x,J⟩:=ih id b h;exact⟨z,D,I,j+1,x,by simpa using J⟩
 | aA i cs N hid hr ih=>
  intro id b h;rcases fL.1 h with h | h
  ·injection h with z D;subst z D;exact⟨N,hid,trivial,0,_,rfl,rfl,rfl⟩
  obtain⟨z,D,I,j,x,J⟩:=ih id b h;exact⟨z,D,I,j+1,x,by simpa using J⟩
theorem dO.inj{h:Nat->AB}{ids:List (Nat×AB)}(H:dO L rho h xs vs ids)(hn:(ids.map (·.1)).Nodup):∀(i j:Nat) x y v u,xs[i]?=some x->xs[j]?=some y->vs[i]?=some v->vs[j]?=some u->x.handed=true->y.handed=true->i≠j ->
  ∃yT I b1 D,yT≠I/\(yT,b1)∈ids/\(I,D)∈ids/\v=rho yT/\u=rho I/\(((∃e es,x=.row e es/\b1=.row e es)\/∃mk es,x=.map mk es/\b1=.map mk es)\/(∃cs ys,x=.box ys/\b1=.box cs/\cE cs=some ys)\/∃cs,x=.aA cs/\b1=.aA cs)/\(((∃e es,y=.row e es/\D=.row e es)\/∃mk es,y=.map mk es/\D=.map mk es)\/(∃cs ys,y=.box ys/\D=.box cs/\cE cs=some ys)\/∃cs,y=.aA cs/\D=.aA cs):=by
 have step:∀(i0:Nat) (b0:AB) {xs:List Arg} {vs:List Value} {ids:List (Nat×AB)} (H:dO L rho h xs vs ids) (hn:(((i0,b0)::ids).map (·.1)).Nodup) (j:Nat) (y:Arg) (u:Value),xs[j]?=some y->vs[j]?=some u->y.handed=true->∃id b,id≠i0/\(id,b)∈ids/\u=rho id/\(((∃e es,y=.row e es/\b=.row e es)\/∃mk es,y=.map mk es/\b=.map mk es)\/(∃cs ys,y=.box ys/\b=.box cs/\cE cs=some ys)\/∃cs,y=.aA cs/\b=.aA cs):=by
  intro i0 b0 xs vs ids H hn j y u J N U;obtain⟨id,b,O,_,_,h5,hf⟩:=H.at j y u J N U;simp only[qO,jc]at hn;exact⟨id,b,fun e=>hn.1 (fh.2 ⟨(id,b),O,e⟩),O,h5,hf⟩
 induction H with
 | nil=>intro i j x y v u J;simp at J
 | pv z v0 hr ih=>
  intro i j x y v u J N U O h5 h6 h7;cases i with
  | zero=>simp at J;subst J;cases h5
  | succ i=>
   cases j with
   | zero=>simp at N;subst N;cases h6
   | succ j=>exact ih hn i j x y v u (by simpa using J) (by simpa using N) (by simpa using U) (by simpa using O) h5 h6 (by omega)
 | row id e es hL hid hr ih=>
  intro i j x y v u J N U O h5 h6 h7;have wM:=hn;simp only[qO,jc]at wM;cases i with
  | zero=>
   cases j with
   | zero=>exact absurd rfl h7
   | succ j=>
    obtain⟨I,D,Y,Z,k3,hf⟩:=step id (.row e es) hr hn j y u (by simpa using N) (by simpa using O) h6;simp at J U;exact⟨id,I,.row e es,D,Y.symm,by simp,by simp[Z],U.symm,k3,J▸.inl (.inl ⟨e,es,rfl,rfl⟩),hf⟩
  | succ i=>
   cases j with
   | zero=>
    obtain⟨I,D,Y,Z,k3,hf⟩:=step id (.row e es) hr hn i x v (by simpa using J) (by simpa using U) h5;simp at N O;exact⟨I,id,D,.row e es,Y,by simp[Z],by simp,k3,O.symm,hf,N▸.inl (.inl ⟨e,es,rfl,rfl⟩)⟩
   | succ j=>
    obtain⟨yT,I,b1,D,Y,Z,k3,k4,k5⟩:=ih wM.2 i j x y v u (by simpa using J) (by simpa using N) (by simpa using U) (by simpa using O) h5 h6 (by omega);exact⟨yT,I,b1,D,Y,by simp[Z],by simp[k3],k4,k5⟩
 | map id mk es hL hid hr ih=>
  intro i j x y v u J N U O h5 h6 h7;have wM:=hn;simp only[qO,jc]at wM;cases i with
  | zero=>
   cases j with
   | zero=>exact absurd rfl h7
   | succ j=>
    obtain⟨I,D,Y,Z,k3,hf⟩:=step id (.map mk es) hr hn j y u (by simpa using N) (by simpa using O) h6;simp at J U;exact⟨id,I,.map mk es,D,Y.symm,by simp,by simp[Z],U.symm,k3,J▸.inl (.inr ⟨mk,es,rfl,rfl⟩),hf⟩
  | succ i=>
   cases j with
   | zero=>
    obtain⟨I,D,Y,Z,k3,hf⟩:=step id (.map mk es) hr hn i x v (by simpa using J) (by simpa using U) h5;simp at N O;exact⟨I,id,D,.map mk es,Y,by simp[Z],by simp,k3,O.symm,hf,N▸.inl (.inr ⟨mk,es,rfl,rfl⟩)⟩
   | succ j=>
    obtain⟨yT,I,b1,D,Y,Z,k3,k4,k5⟩:=ih wM.2 i j x y v u (by simpa using J) (by simpa using N) (by simpa using U) (by simpa using O) h5 h6 (by omega);exact⟨yT,I,b1,D,Y,by simp[Z],by simp[k3],k4,k5⟩
 | box id cs ys hL hid hy hr ih=>
  intro i j x y v u J N U O h5 h6 h7;have wM:=hn;simp only[qO,jc]at wM;cases i with
  | zero=>
   cases j with
   | zero=>exact absurd rfl h7
   | succ j=>
    obtain⟨I,D,Y,Z,k3,hf⟩:=step id (.box cs) hr hn j y u (by simpa using N) (by simpa using O) h6;simp at J U;exact⟨id,I,.box cs,D,Y.symm,by simp,by simp[Z],U.symm,k3,J▸.inr (.inl ⟨cs,ys,rfl,rfl,hy⟩),hf⟩
  | succ i=>
   cases j with
   | zero=>
    obtain⟨I,D,Y,Z,k3,hf⟩:=step id (.box cs) hr hn i x v (by simpa using J) (by simpa using U) h5;simp at N O;exact⟨I,id,D,.box cs,Y,by simp[Z],by simp,k3,O.symm,hf,N▸.inr (.inl ⟨cs,ys,rfl,rfl,hy⟩)⟩
   | succ j=>
    obtain⟨yT,I,b1,D,Y,Z,k3,k4,k5⟩:=ih wM.2 i j x y v u (by simpa using J) (by simpa using N) (by simpa using U) (by simpa using O) h5 h6 (by omega);exact⟨yT,I,b1,D,Y,by simp[Z],by simp[k3],k4,k5⟩
 | aA id cs hL hid hr ih=>
  intro i j x y v u J N U O h5 h6 h7;have wM:=hn;simp only[qO,jc]at wM;cases i with
  | zero=>
   cases j with
   | zero=>exact absurd rfl h7
   | succ j=>
    obtain⟨I,D,Y,Z,k3,hf⟩:=step id (.aA cs) hr hn j y u (by simpa using N) (by simpa using O) h6;simp at J U;exact⟨id,I,.aA cs,D,Y.symm,by simp,by simp[Z],U.symm,k3,J▸.inr (.inr ⟨cs,rfl,rfl⟩),hf⟩
  | succ i=>
   cases j with
   | zero=>
    obtain⟨I,D,Y,Z,k3,hf⟩:=step id (.aA cs) hr hn i x v (by simpa using J) (by simpa using U) h5;simp at N O;exact⟨I,id,D,.aA cs,Y,by simp[Z],by simp,k3,O.symm,hf,N▸.inr (.inr ⟨cs,rfl,rfl⟩)⟩
   | succ j=>
    obtain⟨yT,I,b1,D,Y,Z,k3,k4,k5⟩:=ih wM.2 i j x y v u (by simpa using J) (by simpa using N) (by simpa using U) (by simpa using O) h5 h6 (by omega);exact⟨yT,I,b1,D,Y,by simp[Z],by simp[k3],k4,k5⟩
theorem DR{id:Nat}:∀{fz:List (Nat×AB)},m_ id fz=true->∀p∈fz,p.1≠id:=by
 intro fz
 induction fz with
 | nil=>intro _ p hp;cases hp
 | cons x fz ih=>
  intro z p hp;unfold m_ at z;split at z
  ·cases z
  rename_i D;rcases fL.1 hp with h | h
  ·subst h;intro e;rw[e]at D;simp at D
  exact ih z p h
theorem yU:∀{ids fz:List (Nat×AB)},Ao ids fz=true->(∀p∈ids,m_ p.1 fz=true)/\(ids.map (·.1)).Nodup:=by
 intro ids
 induction ids with
 | nil=>intro fz _;simp
 | cons x ids ih=>
  intro fz h;obtain⟨i,b⟩:=x;simp only[Ao,fH]at h;obtain⟨⟨z,D⟩,I⟩:=h;obtain⟨J,N⟩:=ih I;refine⟨fun p hp=>?_,?_⟩
  ·rcases fL.1 hp with h | h
   ·subst h;exact z
   exact J p h
  simp only[qO,jc];refine⟨fun O=>?_,N⟩;obtain⟨p,hp,U⟩:=fh.1 O;exact DR D p hp U
def Up:List Arg->List (Nat×AB)->Nat->Nat->Prop
 | x::xs,ids,i,id=>match x.handed with
  | false=>match i with
   | 0=>False
   | i+1=>Up xs ids i id
  | true=>match ids with
   | (id0,_)::ids=>match i with
    | 0=>id=id0
    | i+1=>Up xs ids i id
   | []=>False
 | _,_,_,_=>False
theorem Up.uniq:∀{xs:List Arg} {ids:List (Nat×AB)} {i a b:Nat},Up xs ids i a->Up xs ids i b->a=b
 | [],_,_,_,_,h,_=>h.elim
 | x::xs,ids,i,a,b,h,k=>by
  unfold Up at h k;split at h
  ·rename_i z;simp only[z]at k;cases i with
   | zero=>exact h.elim
   | succ i=>exact Up.uniq h k
  rename_i z;simp only[z]at k;cases ids with
  | nil=>exact h.elim
  | cons p ids=>
   cases i with
   | zero=>exact h.trans k.symm
   | succ i=>exact Up.uniq (xs:=xs) (ids:=ids) h k
def F7(S:Nat->Prop)(w:World)(P:Program)(args:List Arg)(fin:List Fin)(vs:List Value)(i:Nat)(v:Value)(eQ new:AB):Prop:=
 new=.none\/(((∃e es bW,eQ=.row e es/\new=.row e bW/\an P w (ay S w) e bW v)\/∃mk es bW,eQ=.map mk es/\new=.map mk bW/\u7 S w mk bW v)\/(∃(cs:List AV) (xs:List PV) (g:Nat) (ty:TypeId) (c:Array Value),eQ=.box cs/\new=.box (xs.map .p)/\v=.pointer (some ⟨g,0,none⟩)/\w.heap[g]?=some (.cells c ty (0,0))/\c.size=xs.length/\∀(j:Nat) x u,xs[j]?=some x->c[j]?=some u->u.oneCell'=true/\ay S w x u)\/
  (∃(cs dB:List HC) (g:Nat) (ty:TypeId) (c:Array Value),eQ=.aA cs/\new=.aA dB/\v=.pointer (some ⟨g,0,none⟩)/\yu S w P dB g ty c))/\
  (∀g,hasB w new v g->¬S g/\cq w args fin vs i g)
theorem F7.lift{S:Nat->Prop}{w:World}{P:Program}{fin:List Fin}{i:Nat}{v:Value}{z new:AB}{D:List Arg}{I:List Fin}{J:List Value}{i':Nat}(h:∀g,cq w xs fin vs i g->cq w D I J i' g)(hb:F7 S w P xs fin vs i v z new):F7 S w P D I J i' v z new:=
 hb.imp id fun hb=>⟨hb.1,fun g N=>⟨(hb.2 g N).1,h g (hb.2 g N).2⟩⟩
theorem iF{S:Nat->Prop}{w:World}{P:Program}{h:Nat->AB}{ids:List (Nat×AB)}(H:dO L rho h xs vs ids):
  ∀(fin:List Fin) fe,eV S w P xs fin vs->ee ids fin=some fe->fe.map (·.1)=ids.map (·.1)/\∀id new,(id,new)∈fe->∃I i,(id,I)∈ids/\Up xs ids i id/\F7 S w P xs fin vs i (rho id) I new:=by
 induction H with
 | nil=>
  intro fin fe cG z;cases fin with
  | nil=>simp[ee]at z;subst z;exact⟨rfl,by simp⟩
  | cons f fin=>simp[ee]at z
 | pv x v hr ih=>
  intro fin fe cG z;obtain⟨J,N⟩:=ih fin fe cG z;refine⟨J,fun id new O=>?_⟩;obtain⟨I,i,U,Y,Z⟩:=N id new O;exact⟨I,i+1,U,Y,Z.lift fun g h=>h⟩
 | @row i e es xs vs ids hL hid hr ih=>
  intro fin fe cG z;cases fin with
  | nil=>exact cG.elim
  | cons f fin=>
   obtain⟨D,k_⟩:=(show jk S w P (.row e es) f (rho i)/\eV S w P xs fin vs from cG);cases f with
   | gone=>
    simp only[ee]at z;obtain⟨yV,h1,rfl⟩:=az.1 z;obtain⟨J,N⟩:=ih fin yV k_ h1;refine⟨by simp[J],fun id new O=>?_⟩;rcases fL.1 O with e' | e'
    ·injection e' with e1 e2;subst e1 e2;exact⟨.row e es,0,by simp,rfl,.inl rfl⟩
    obtain⟨I,k,U,Y,Z⟩:=N id new e';exact⟨I,k+1,by simp[U],Y,Z.lift fun g h=>h⟩
   | row bW=>
    simp only[ee]at z;obtain⟨yV,h1,rfl⟩:=az.1 z;obtain⟨J,N⟩:=ih fin yV k_ h1;refine⟨by simp[J],fun id new O=>?_⟩;rcases fL.1 O with e' | e'
    ·injection e' with e1 e2;subst e1 e2;exact⟨_,0,by simp,rfl,.inr ⟨.inl (.inl ⟨e,es,bW,rfl,rfl,D.1⟩),fun g hg=>⟨D.2 g (al rfl hg),rfl,.inl (al rfl hg)⟩⟩⟩
    obtain⟨I,k,U,Y,Z⟩:=N id new e';exact⟨I,k+1,by simp[U],Y,Z.lift fun g h=>h⟩
   | map bW=>exact D.elim
   | box cs=>exact D.elim
   | aA cs=>exact D.elim
 | @map i mk es xs vs ids hL hid hr ih=>
  intro fin fe cG z;cases fin with
  | nil=>exact cG.elim
  | cons f fin=>
   obtain⟨D,k_⟩:=(show jk S w P (.map mk es) f (rho i)/\eV S w P xs fin vs from cG);cases f with
   | gone=>
    simp only[ee]at z;obtain⟨yV,h1,rfl⟩:=az.1 z;obtain⟨J,N⟩:=ih fin yV k_ h1;refine⟨by simp[J],fun id new O=>?_⟩;rcases fL.1 O with e' | e'
    ·injection e' with e1 e2;subst e1 e2;exact⟨.map mk es,0,by simp,rfl,.inl rfl⟩
    obtain⟨I,k,U,Y,Z⟩:=N id new e';exact⟨I,k+1,by simp[U],Y,Z.lift fun g h=>h⟩
   | map bW=>
    simp only[ee]at z;obtain⟨yV,h1,rfl⟩:=az.1 z;obtain⟨J,N⟩:=ih fin yV k_ h1;refine⟨by simp[J],fun id new O=>?_⟩;rcases fL.1 O with e' | e'
    ·injection e' with e1 e2;subst e1 e2;exact⟨_,0,by simp,rfl,.inr ⟨.inl (.inr ⟨mk,es,bW,rfl,rfl,D.1⟩),fun g hg=>⟨D.2 g (al rfl hg),rfl,.inl (al rfl hg)⟩⟩⟩
    obtain⟨I,k,U,Y,Z⟩:=N id new e';exact⟨I,k+1,by simp[U],Y,Z.lift fun g h=>h⟩
   | row bW=>exact D.elim
   | box cs=>exact D.elim
   | aA cs=>exact D.elim
 | @box i cs ys xs vs ids hL hid hy hr ih=>
  intro fin fe cG z;cases fin with
  | nil=>exact cG.elim
  | cons f fin=>
   obtain⟨D,k_⟩:=(show jk S w P (.box ys) f (rho i)/\eV S w P xs fin vs from cG);cases f with
   | gone=>
    simp only[ee]at z;obtain⟨yV,h1,rfl⟩:=az.1 z;obtain⟨J,N⟩:=ih fin yV k_ h1;refine⟨by simp[J],fun id new O=>?_⟩;rcases fL.1 O with e' | e'
    ·injection e' with e1 e2;subst e1 e2;exact⟨.box cs,0,by simp,rfl,.inl rfl⟩
    obtain⟨I,k,U,Y,Z⟩:=N id new e';exact⟨I,k+1,by simp[U],Y,Z.lift fun g h=>h⟩
   | row es=>exact D.elim
   | map es=>exact D.elim
   | aA es=>exact D.elim
   | box kS=>
    simp only[ee]at z;obtain⟨yV,h1,rfl⟩:=az.1 z;obtain⟨J,N⟩:=ih fin yV k_ h1;refine⟨by simp[J],fun id new O=>?_⟩;rcases fL.1 O with e' | e'
    ·injection e' with e1 e2;subst e1 e2;obtain⟨g,ty,c,m1,m2,m3,m4,m5⟩:=D;refine⟨_,0,by simp,rfl,.inr ⟨.inr (.inl ⟨cs,kS,g,ty,c,rfl,rfl,m1,m2,m3,m5⟩),fun g' hg=>?_⟩⟩;have hg:=al rfl hg;refine⟨?_,rfl,.inl hg⟩;rw[m1]at hg;injection hg with hg;exact hg▸m4
    obtain⟨I,k,U,Y,Z⟩:=N id new e';exact⟨I,k+1,by simp[U],Y,Z.lift fun g h=>h⟩
 | @aA i cs xs vs ids hL hid hr ih=>
  intro fin fe cG z;cases fin with
  | nil=>exact cG.elim
  | cons f fin=>
   obtain⟨D,k_⟩:=(show jk S w P (.aA cs) f (rho i)/\eV S w P xs fin vs from cG);cases f with
   | gone=>
    simp only[ee]at z;obtain⟨yV,h1,rfl⟩:=az.1 z;obtain⟨J,N⟩:=ih fin yV k_ h1;refine⟨by simp[J],fun id new O=>?_⟩;rcases fL.1 O with e' | e'
    ·injection e' with e1 e2;subst e1 e2;exact⟨.aA cs,0,by simp,rfl,.inl rfl⟩
    obtain⟨I,k,U,Y,Z⟩:=N id new e';exact⟨I,k+1,by simp[U],Y,Z.lift fun g h=>h⟩
   | row es=>exact D.elim
   | map es=>exact D.elim
   | box es=>exact D.elim
   | aA dB=>
    simp only[ee]at z;obtain⟨yV,h1,rfl⟩:=az.1 z;obtain⟨J,N⟩:=ih fin yV k_ h1;refine⟨by simp[J],fun id new O=>?_⟩;rcases fL.1 O with e' | e'
    ·injection e' with e1 e2;subst e1 e2;obtain⟨g,ty,c,m1,m2,m3⟩:=D;exact⟨_,0,by simp,rfl,.inr ⟨.inr (.inr ⟨cs,dB,g,ty,c,rfl,rfl,m1,m2⟩),fun g' hg=>⟨m3 g' hg,rfl,hg⟩⟩⟩
    obtain⟨I,k,U,Y,Z⟩:=N id new e';exact⟨I,k+1,by simp[U],Y,Z.lift fun g h=>h⟩
theorem dx(fe:List (Nat×AB))(h:Nat->AB)(id:Nat):(∃b,(id,b)∈fe/\app h fe id=b)\/((∀p∈fe,p.1≠id)/\app h fe id=h id):=by
 induction fe generalizing h with
 | nil=>exact .inr ⟨by simp,rfl⟩
 | cons x fe ih=>
  rcases ih (ax h x.1 x.2) with⟨b,D,z⟩ | ⟨D,z⟩
  ·exact .inl ⟨b,by simp[D],z⟩
  by_cases e:x.1=id
  ·refine .inl ⟨x.2,by rw[<-e];simp,?_⟩;show app (ax h x.1 x.2) fe id=x.2;rw[z,e,ak]
  refine .inr ⟨fun p hp=>?_,?_⟩
  ·rcases fL.1 hp with h | h
   ·rw[h];exact e
   exact D p h
  show app (ax h x.1 x.2) fe id=h id;rw[z,au _ _ (fun e'=>e e'.symm)]
theorem oc{w:World}{b:AB}{v:Value}{g:Nat}{x:Arg}(h:((∃e es,x=.row e es/\b=.row e es)\/∃mk es,x=.map mk es/\b=.map mk es)\/(∃cs ys,x=.box ys/\b=.box cs/\cE cs=some ys)\/∃cs,x=.aA cs/\b=.aA cs):hasB w (tc x) v g↔hasB w b v g:=by
 rcases h with (⟨e,es,rfl,rfl⟩ | ⟨mk,es,rfl,rfl⟩) | ⟨cs,ys,rfl,rfl,_⟩ | ⟨cs,rfl,rfl⟩
 ·exact⟨fun h=>.inl (al rfl h),fun h=>.inl (al rfl h)⟩
 ·exact⟨fun h=>.inl (al rfl h),fun h=>.inl (al rfl h)⟩
 ·exact⟨fun h=>.inl (al rfl h),fun h=>.inl (al rfl h)⟩
 exact jU
theorem dO.form{h:Nat->AB}{ids:List (Nat×AB)}(H:dO L rho h xs vs ids):∀id b,(id,b)∈ids->∃(j:Nat) (x:Arg),xs[j]?=some x/\vs[j]?=some (rho id)/\x.handed=true/\(((∃e es,x=.row e es/\b=.row e es)\/∃mk es,x=.map mk es/\b=.map mk es)\/(∃cs ys,x=.box ys/\b=.box cs/\cE cs=some ys)\/∃cs,x=.aA cs/\b=.aA cs):=by
 induction H with
 | nil=>intro id b h;cases h
 | pv y u hr ih=>intro id b h;obtain⟨j,x,z⟩:=ih id b h;exact⟨j+1,x,by simpa using z⟩
 | row i e es D hid hr ih=>
  intro id b h;rcases fL.1 h with h | h
  ·injection h with h1 h2;subst h1 h2;exact⟨0,_,rfl,rfl,rfl,.inl (.inl ⟨e,es,rfl,rfl⟩)⟩
  obtain⟨j,x,z⟩:=ih id b h;exact⟨j+1,x,by simpa using z⟩
 | map i mk es D hid hr ih=>
  intro id b h;rcases fL.1 h with h | h
  ·injection h with h1 h2;subst h1 h2;exact⟨0,_,rfl,rfl,rfl,.inl (.inr ⟨mk,es,rfl,rfl⟩)⟩
  obtain⟨j,x,z⟩:=ih id b h;exact⟨j+1,x,by simpa using z⟩
 | box i cs ys D hid hy hr ih=>
  intro id b h;rcases fL.1 h with h | h
  ·injection h with h1 h2;subst h1 h2;exact⟨0,_,rfl,rfl,rfl,.inr (.inl ⟨cs,ys,rfl,rfl,hy⟩)⟩
  obtain⟨j,x,z⟩:=ih id b h;exact⟨j+1,x,by simpa using z⟩
 | aA i cs D hid hr ih=>
  intro id b h;rcases fL.1 h with h | h
  ·injection h with h1 h2;subst h1 h2;exact⟨0,_,rfl,rfl,rfl,.inr (.inr ⟨cs,rfl,rfl⟩)⟩
  obtain⟨j,x,z⟩:=ih id b h;exact⟨j+1,x,by simpa using z⟩
theorem dO.mv{h:Nat->AB}{w:World}{vs:Array Value}{ids:List (Nat×AB)}(H:dO L rho h xs vs.toList ids)(g:Nat):Mv w xs vs g↔∃id b,(id,b)∈ids/\hasB w b (rho id) g:=by
 constructor
 ·rintro⟨j,x,v,z,D,I,J⟩;obtain⟨id,b,N,_,_,O,U⟩:=H.at j x v z (by simpa using D) I;exact⟨id,b,N,by rw[<-O];exact (oc U).1 J⟩
 rintro⟨id,b,z,D⟩;obtain⟨j,x,I,J,N,O⟩:=H.form id b z;exact⟨j,x,_,I,by simpa using J,N,(oc O).2 D⟩
theorem aU.handed{S2:Nat->Prop}{t:Nat->AV}{a:Act}{w:World}{h D:Nat->AB}(hC:aL A.C)(I:aU A V L S2 rho ⟨t,D⟩ a w){vs:Array Value}{ids fe:List (Nat×AB)}{fin:List Fin}(H:dO L rho h xs vs.toList ids)(hh:∀id b,(id,b)∈ids->D id=h id)
  (hf:Fr (Mv w xs vs) w w') (hS:∀b,S2 b->S' b) (wL:∀b,S' b->b<w'.heap.size) (IM:∀b,S' b->S2 b\/w.heap.size<=b\/Mv w xs vs b) (cG:eV S' w' A.C.P xs fin vs.toList) (hok:T4 w w' xs fin vs) (kZ:ee ids fin=some fe):
  aU A V L S' rho ⟨t,app D fe⟩ a w':=by
 obtain⟨hk,hb⟩:=iF H fin fe cG kZ;have DS:∀id,(∃b,(id,b)∈ids)↔∃b,(id,b)∈fe:=by
  intro id;have:id∈ids.map (·.1)↔id∈fe.map (·.1):=by rw[hk]
  simpa using this
 have own:∀id b,(id,b)∈ids->L id/\(D id).live/\D id=b:=fun id b hm=>by
  obtain⟨U,N,h4,_⟩:=H.back id b hm;have:=hh id b hm;exact⟨U,by rw[this,N];exact h4,by rw[this,N]⟩
 have MZ:∀g,Mv w xs vs g->¬S2 g/\(A.mv g\/A.w0.heap.size<=g):=fun g Y=>by
  obtain⟨id,b,U,N⟩:=H.mv g |>.1 Y;obtain⟨h4,J,h6⟩:=own id b U;exact (I.lv id g h4 J (by show hasB w (D id) _ _;rw[h6];exact N)).2
 have eE:∀b,S2 b->w'.heap[b]?=w.heap[b]?:=fun k hk=>hf.block k (I.st k hk) fun hm=>(MZ k hm).1 hk;have T:fu S2 S' w w' L L rho rho D (app D fe):=by
  refine⟨hS,eE,fun id ht=>⟨?_,fun hl=>⟨hl,rfl⟩⟩,fun id e Z=>?_⟩
  ·rcases dx fe D id with⟨b,U,N⟩ | ⟨_,N⟩
   ·obtain⟨b',dM⟩:=(DS id).2 ⟨b,U⟩;obtain⟨_,h4,_⟩:=own id b' dM;cases hx:D id<;>rw[hx]at h4<;>first | trivial | exact h4.elim
   rw[N]at ht;exact ht
  rcases dx fe D id with⟨b,U,N⟩ | ⟨_,N⟩
  ·rw[N]at Z;obtain⟨eQ,i,h4,_,J⟩:=hb id b U;obtain⟨_,_,h6⟩:=own id eQ h4;rcases J with J | ⟨J | J | J,_⟩
   ·rw[J]at Z;cases Z
   ·rcases J with J | J
    ·obtain⟨e',M0,jo,h7,h8,_⟩:=J;rw[h8]at Z;injection Z with Z;rw[h6,h7,Z];rfl
    obtain⟨mk,M0,jo,h7,h8,_⟩:=J;rw[h8]at Z;cases Z
   ·obtain⟨cs,ys,g,ty,c,h7,h8,_⟩:=J;rw[h8]at Z;cases Z
   obtain⟨cs,ys,g,ty,c,h7,h8,_⟩:=J;rw[h8]at Z;cases Z
  rw[N]at Z;exact Z
 have cM:∀id,(app D fe id).live->(D id).live:=by
  intro id hl;rcases dx fe D id with⟨b,U,N⟩ | ⟨_,N⟩
  ·obtain⟨b',dM⟩:=(DS id).2 ⟨b,U⟩;exact (own id b' dM).2.1
  rw[N]at hl;exact hl
 have same:∀id g,L id->(D id).live->(∀p∈fe,p.1≠id)->hasB w (D id) (rho id) g->¬Mv w xs vs g:=fun id g hl O U Y hm=>by
  obtain⟨s9,b',h4,J⟩:=H.mv g |>.1 hm;obtain⟨h6,h7,h8⟩:=own s9 b' h4;have:=I.dj id s9 g hl h6 O h7 Y (by show hasB w (D s9) _ _;rw[h8];exact J);subst this;obtain⟨b2,o9⟩:=(DS id).1 ⟨b',h4⟩;exact U _ o9 rfl
 have old:∀id g,L id->(D id).live->(∀p∈fe,p.1≠id)->hasB w' (D id) (rho id) g->hasB w (D id) (rho id) g:=fun id g hl O U Y=>
  b_ (fun k hk=>hf.block k (I.lv id k hl O hk).1 (same id k hl O U hk)) Y
 have back:∀id b,(id,b)∈fe->(app D fe id).live->app D fe id=b->∃i,Up xs ids i id/\∀g,hasB w' b (rho id) g->¬S' g/\cq w' xs fin vs.toList i g:=fun id b hm hl Z=>by
  obtain⟨eQ,i,_,nG,N⟩:=hb id b hm;rcases N with N | ⟨_,N⟩
  ·rw[Z,N]at hl;exact hl.elim
  exact⟨i,nG,N⟩
 exact
 {tm:=fun j hj=>(I.tm j hj).bA T
  sz:=I.sz,df:=I.df,nb:=I.nb,pn:=I.pn
  ev:=hC.env _ _ _ _ I.ev hS eE hf.size
  s0:=fun b hb=>hS b (I.s0 b hb)
  st:=wL
  sb:=fun b hb=>by
   rcases IM b hb with h | h | h
   ·exact I.sb b h
   ·exact .inr (.inr (bM I.fr.size h))
   exact .inr (MZ b h).2
  hp:=fun id hl=>by
   show cd _ _ _ _ _ _ _ (app D fe id);rcases dx fe D id with⟨b,U,N⟩ | ⟨U,N⟩
   ·rw[N];obtain⟨eQ,i,h4,_,J⟩:=hb id b U;rcases J with J | ⟨J | J | J,_⟩
    ·rw[J];trivial
    ·rcases J with J | J
     ·obtain⟨e',M0,jo,h7,h8,h9⟩:=J;rw[h8];exact h9
     obtain⟨mk,M0,jo,h7,h8,h9⟩:=J;rw[h8];exact h9
    ·obtain⟨cs,ys,g,ty,c,h7,h8,h9,Le,Q3,PO⟩:=J;rw[h8];refine⟨g,ty,c,h9,Le,by simpa using Q3,fun j x u hj hu=>?_⟩;rw[ao]at hj;obtain⟨z,hz,rfl⟩:=az.1 hj;exact⟨(PO j z u hz hu).1,.p _ _ (PO j z u hz hu).2⟩
    obtain⟨cs,dB,g,ty,c,h7,h8,h9,Le⟩:=J;rw[h8];exact⟨g,ty,c,h9,Le⟩
   rw[N];exact (I.hp id hl).bA T (fun O g Y=>hf.block g (I.lv id g hl O Y).1 (same id g hl O U Y)) (fun _=>rfl)
  dj:=fun i j g hi hj O lj cK dW=>by
   have one:∀i j,L i->L j->(app D fe i).live->(app D fe j).live->hasB w' (app D fe i) (rho i) g->hasB w' (app D fe j) (rho j) g->(∃b,(i,b)∈fe/\app D fe i=b)->((∀p∈fe,p.1≠j)/\app D fe j=D j)->False:=by
    rintro i j hi hj O lj cK dW ⟨b,m1,m2⟩ ⟨n1,n2⟩;rw[n2]at dW lj;have dW:=old j g hj lj n1 dW;obtain⟨k,_,iS⟩:=back i b m1 O m2;rw[m2]at cK;rcases (hok.1 k g (iS g cK).2).2 with h | h
    ·have:=(I.lv j g hj lj dW).1;exact absurd this (by omega)
    exact same j g hj lj n1 dW h
   rcases dx fe D i with ci | ci
   ·rcases dx fe D j with cj | cj
    ·obtain⟨b,m1,m2⟩:=ci;obtain⟨c,n1,n2⟩:=cj;obtain⟨k1,p1,q1⟩:=back i b m1 O m2;obtain⟨k2,p2,q2⟩:=back j c n1 lj n2;have cK:hasB w' (app D fe i) (rho i) g:=cK;have dW:hasB w' (app D fe j) (rho j) g:=dW;rw[m2]at cK;rw[n2]at dW;have:=hok.2 k1 k2 g (q1 g cK).2 (q2 g dW).2;subst this;exact p1.uniq p2
    exact (one i j hi hj O lj cK dW ci cj).elim
   rcases dx fe D j with cj | cj
   ·exact (one j i hj hi lj O dW cK cj ci).elim
   have cK:hasB w' (app D fe i) (rho i) g:=cK;have dW:hasB w' (app D fe j) (rho j) g:=dW;have O:(app D fe i).live:=O;have lj:(app D fe j).live:=lj;rw[ci.2]at cK O;rw[cj.2]at dW lj;exact I.dj i j g hi hj O lj (old i g hi O ci.1 cK) (old j g hj lj cj.1 dW)
  lv:=fun id g hl O Y=>by
   have Y:hasB w' (app D fe id) (rho id) g:=Y;have O:(app D fe id).live:=O;rcases dx fe D id with⟨b,U,N⟩ | ⟨U,N⟩
   ·obtain⟨k,_,q⟩:=back id b U O N;rw[N]at Y;obtain⟨q1,q2⟩:=q g Y;obtain⟨r1,r2⟩:=hok.1 k g q2;refine⟨r1,q1,?_⟩;rcases r2 with h | h
    ·exact .inr (bM I.fr.size h)
    exact (MZ g h).2
   rw[N]at Y O;have Y:=old id g hl O U Y;obtain⟨h4,J,h6⟩:=I.lv id g hl O Y;refine⟨bg h4 hf.size,fun hs=>?_,h6⟩;rcases IM g hs with h | h | h
   ·exact J h
   ·omega
   exact same id g hl O U Y h
  fr:=I.fr.next hf.os hf.tape hf.output hf.size fun k hk hn=>hf.block k (bg hk I.fr.size) fun hm=>by
   rcases (MZ k hm).2 with h | h
   ·exact hn h
   omega }
variable {Q:Exit->Act->World->Prop}
theorem gM{P:Program}{o:Oper}{a:Act}{w:World}{f:FuncId}{vs:Array Value}{next:Act->World->Prop}{R:Ending->World->Prop}(h:(execOp a.eval o).run P w=.ok (.enter f vs) w)(z:Calls P f vs w R)
  (D:∀e w',R e w'->∃v,e=.returned v/\next (a.put o.dst v) w'):o.wp P a w next Q:=by
 unfold Oper.wp;rw[h];refine z.mono fun e w' I=>?_;obtain⟨v,rfl,J⟩:=D e w' I;exact J
theorem yW(hC:aL A.C){o:Oper}{S:Nat->Prop}{a:Act}{w:World}{K:KK}{next:Act->World->Prop}(sim:aU A V L S rho s a w)(hd:∀d,o.dst=some d->d<A.n)
  (hn:∀v eff b,K v eff (some b)->¬L (o.dst.getD 0)/\s.h (o.dst.getD 0)=b)
  (hnext:∀v eff new S' rho' a' w',K v eff new->aU A (mG V o.dst) (nR L new (o.dst.getD 0)) S' rho' ⟨cU s.t o.dst v,app s.h eff⟩ a' w'->next a' w')
  (f:FuncId) (cT:List AV) (vs:Array Value) (hl:cT.length=vs.size)
  (hrep:∀(S2:Nat->Prop) (h2:Nat->AB),aU A V L S2 rho ⟨s.t,h2⟩ a w->∀(i:Nat) x v,cT[i]?=some x->vs.toList[i]?=some v->aE S2 w A.C.P L rho h2 x v)
  (hrun : (∃ fn : Func, A.C.P.funcs[f]? = some fn ∧ (fn.name == "runtime.NumGoroutine") = false ∧ fn.body.isNone = false) → (execOp a.eval o).run A.C.P w = .ok (.enter f vs) w) (hq : jY A.C s.h (o.dst.getD 0) f cT K) : o.wp A.C.P a w next Q := by
 unfold jY at hq;obtain⟨xs,ids,fz,S2,⟨r,fin,dX,hq⟩,aJ,nX,hF,wU,hlen,H,hpv⟩:=BX hC cT vs.toList 0 s.h S _ (by simpa using hl) sim (kM.refl _) hrep (fun _ h=>h) hq;split at hq
 ·rename_i fe kZ;split at hq
  ·rename_i hok;obtain⟨Q4,Fz⟩:=yU hok;have hh:∀id b,(id,b)∈ids->(app s.h fz) id=s.h id:=fun id b hm=>iD (Q4 (id,b) hm);have own:∀id b,(id,b)∈ids->L id/\(app s.h fz id).live/\app s.h fz id=b:=fun id b hm=>by
    obtain⟨h1,h3,h4,_⟩:=H.back id b hm;have:=hh id b hm;exact⟨h1,by rw[this,h3];exact h4,by rw[this,h3]⟩
   have key:=dX.2 S2 w vs aJ.ev aJ.st (by simpa using hlen) (fun j x v hj hv=>by
     have yB:vs.toList[j]?=some v:=by simpa using hv
     cases hx:x.handed with
     | false=>
      cases x with
      | pv y=>exact hpv j y v hj yB
      | row=>cases hx
      | map=>cases hx
      | box=>cases hx
      | aA=>cases hx
     | true=>
      obtain⟨id,b,h1,h2,h3,h4,h5⟩:=H.at j x v hj yB hx;obtain⟨h6,h7,h8⟩:=own id b h1;have hp:=aJ.hp id h6;have hp:cd S2 w A.C.P L rho (app s.h fz) id (app s.h fz id):=hp;rw[h8]at hp;rcases h5 with (⟨e,es,rfl,rfl⟩ | ⟨mk,es,rfl,rfl⟩) | ⟨cs,ys,rfl,rfl,hy⟩ | ⟨cs,rfl,rfl⟩
      ·rw[h4];exact⟨hp,fun g hg=>(aJ.mO id g h6 h7 hg).2.1⟩
      ·rw[h4];exact⟨hp,fun g hg=>(aJ.mO id g h6 h7 hg).2.1⟩
      ·obtain⟨g,ty,c,k1,k2,k3,k4⟩:=hp;obtain⟨k5,k6⟩:=dz hy;rw[h4];refine⟨g,ty,c,k1,k2,by rw[k3,k5],(aJ.mO id g h6 h7 (by rw[k1];rfl)).2.1,fun i x u hi hu=>?_⟩;obtain⟨y,hy⟩:∃y,cs[i]?=some y:=⟨_,aM (by rw[k5];exact ah hi)⟩;obtain⟨k7,k8⟩:=k4 i y u hy hu;exact⟨k7,k8.qS (k6 i y x hy hi)⟩
      obtain⟨g,ty,c,k1,k2⟩:=hp;rw[h4];exact⟨g,ty,c,k1,k2,fun k hk=>by obtain⟨q1,q2,_⟩:=aJ.lv id k h6 h7 (by show hasB w (app s.h fz id) _ _;rw[h8];exact hk);exact⟨q2,q1⟩⟩)
    (fun i j x y v u g hi hj hv hu hx hy hg eY=>by
     by_cases F8:i=j
     ·exact F8
     obtain⟨yT,iu,b1,b2,k1,k2,k3,k4,k5,f1,f2⟩:=H.inj Fz i j x y v u hi hj (by simpa using hv) (by simpa using hu) hx hy F8;obtain⟨l1,v1,o1⟩:=own yT b1 k2;obtain⟨l2,v2,o2⟩:=own iu b2 k3;exact absurd (aJ.dj yT iu g l1 l2 v1 v2 (by show hasB w (app s.h fz yT) _ _;rw[<-k4,o1];exact (oc f1).1 hg) (by show hasB w (app s.h fz iu) _ _;rw[<-k5,o2];exact (oc f2).1 eY)) k1)
   refine gM (hrun dX.1) key fun e w' fM=>?_;obtain⟨v,S',rfl,hf,NX,wL,IM,hr,cG,F9,hown⟩:=fM;refine⟨v,rfl,?_⟩;split at hq
   ·rename_i dY;simp only[fH]at dY;have hids:ids=[]:=by cases ids with | nil=>rfl | cons p ids=>cases dY.2
    subst hids;have NY:Fr (fun _=>False) w w':=⟨hf.os,hf.tape,hf.output,hf.size,fun k hk _=>hf.block k hk fun hm=>by
     obtain⟨id,b,h1,_⟩:=(H.mv k).1 hm;cases h1⟩
    have cF:=sim.grow hC w' NY;refine hnext _ _ _ S rho _ _ hq (cF.value o.dst hd _ _ ?_);cases r with
    | p x=>exact .p _ _ (gk dY.1 hr)
    | own e es=>cases dY.1
    | hown cs=>cases dY.1
    | tu ys=>
     obtain⟨us,rfl,h1,h2⟩:=hr;refine .tu _ us (by simpa using h1) fun i c u hi hu=>?_;rw[ao]at hi;obtain⟨z,hz,rfl⟩:=az.1 hi;exact .p _ _ (gk (cC.1 dY.1 z (aj hz)) (h2 i z u hz hu))
   have cF:=aU.handed hC aJ H hh hf NX wL IM cG F9 kZ;have cF:aU A V L S' rho ⟨s.t,app s.h (fz++fe)⟩ a w':=by rw[bJ];exact cF
   cases r with
   | p x=>exact hnext _ _ _ S' rho _ _ hq (cF.value o.dst hd _ _ (.p _ _ hr))
   | tu ys=>
    refine hnext _ _ _ S' rho _ _ hq (cF.value o.dst hd _ _ ?_);obtain⟨us,rfl,h1,h2⟩:=hr;refine .tu _ us (by simpa using h1) fun i c u hi hu=>?_;rw[ao]at hi;obtain⟨z,hz,rfl⟩:=az.1 hi;exact .p _ _ (h2 i z u hz hu)
   | own e es=>
    obtain⟨hL,hb⟩:=hn _ _ _ hq;have HB:app s.h (fz++fe) (o.dst.getD 0)=.row e es:=by
     rw[fo (fun p hp (e:p.1=_)=>?_),hb];rcases cD.1 hp with h | h
     ·exact hL (by rw[<-e];exact wU p h)
     obtain⟨hk,_⟩:=iF H fin fe cG kZ;have:p.1∈ids.map (·.1):=by rw[<-hk];exact fh.2 ⟨p,h,rfl⟩
     obtain⟨q,vq,NZ⟩:=fh.1 this;obtain⟨N0,_⟩:=own q.1 q.2 vq;exact hL (by rw[<-e,<-NZ];exact N0)
    have tt:=cF.jA hC (o.dst.getD 0) (AB.row e es) (cF.gT hd) hL HB w' rfl rfl rfl (aC _) (fun k=>hasB w' (AB.row e es) v k) (fun _ _ _=>rfl) (fun k hk=>by
      have FZ:=al rfl hk;obtain⟨h1,h2,h3⟩:=hown k rfl (.inl FZ);refine⟨hr.2 k FZ,fun i hi li cK=>?_,?_⟩
      ·have fE:(app s.h (fz++fe) i).live:=li;rw[bJ]at fE;have cK:hasB w' (app s.h (fz++fe) i) (rho i) k:=cK;rw[bJ]at cK;rcases dx fe (app s.h fz) i with⟨b,m1,m2⟩ | ⟨m1,m2⟩
       ·obtain⟨iS,o9⟩:=iF H fin fe cG kZ;obtain⟨eQ,n,m3,_,m4⟩:=o9 i b m1;rcases m4 with m4 | ⟨_,m4⟩
        ·rw[m2,m4]at fE;exact fE
        rw[m2]at cK;exact h3 n (m4 k cK).2
       rw[m2]at fE cK;have Lf:∀g,hasB w (app s.h fz i) (rho i) g->¬Mv w xs vs g:=fun g hg hm=>by
        obtain⟨s9,b',m3,m4⟩:=(H.mv g).1 hm;obtain⟨m5,m6,m7⟩:=own s9 b' m3;have:=aJ.dj i s9 g hi m5 fE m6 hg (by show hasB w (app s.h fz s9) _ _;rw[m7];exact m4);subst this;obtain⟨iS,_⟩:=iF H fin fe cG kZ;have:i∈fe.map (·.1):=by rw[iS];exact fh.2 ⟨_,m3,rfl⟩
        obtain⟨p,hp,Lg⟩:=fh.1 this;exact m1 p hp Lg
       have cK:=b_ (fun g hg=>hf.block g (aJ.lv i g hi fE hg).1 (Lf g hg)) cK;obtain⟨q1,q2,q3⟩:=aJ.lv i k hi fE cK;rcases h2 with h2 | h2
       ·omega
       exact Lf k cK h2
      ·rcases h2 with h2 | h2
       ·exact .inr (bM aJ.fr.size h2)
       obtain⟨s9,b',m3,m4⟩:=(H.mv k).1 h2;obtain⟨m5,m6,m7⟩:=own s9 b' m3;exact (aJ.lv s9 k m5 m6 (by show hasB w (app s.h fz s9) _ _;rw[m7];exact m4)).2.2) v (fun g hg=>⟨(hown g rfl (.inl (al rfl hg))).1,.inr hg⟩) (fun T=>by
      show an _ _ _ e es (ax rho (o.dst.getD 0) v (o.dst.getD 0));rw[ak];exact hr.1)
    exact hnext _ _ _ S' _ _ _ hq (tt.value o.dst hd _ _ (.ow _ _ fun _=>⟨.inr rfl,(ak _ _ _).symm⟩))
   | hown cs=>
    obtain⟨hL,hb⟩:=hn _ _ _ hq;obtain⟨g0,Q5,c0,IN,FA,jb⟩:=hr;have HB:app s.h (fz++fe) (o.dst.getD 0)=.aA cs:=by
     rw[fo (fun p hp (e:p.1=_)=>?_),hb];rcases cD.1 hp with h | h
     ·exact hL (by rw[<-e];exact wU p h)
     obtain⟨hk,_⟩:=iF H fin fe cG kZ;have:p.1∈ids.map (·.1):=by rw[<-hk];exact fh.2 ⟨p,h,rfl⟩
     obtain⟨q,vq,NZ⟩:=fh.1 this;obtain⟨N0,_⟩:=own q.1 q.2 vq;exact hL (by rw[<-e,<-NZ];exact N0)
    have tt:=cF.jA hC (o.dst.getD 0) (AB.aA cs) (cF.gT hd) hL HB w' rfl rfl rfl (aC _) (fun k=>hasB w' (AB.aA cs) v k) (fun _ _ _=>rfl) (fun k hk=>by
      obtain⟨h1,h2,h3⟩:=hown k rfl hk;refine⟨jb k hk,fun i hi li cK=>?_,?_⟩
      ·have fE:(app s.h (fz++fe) i).live:=li;rw[bJ]at fE;have cK:hasB w' (app s.h (fz++fe) i) (rho i) k:=cK;rw[bJ]at cK;rcases dx fe (app s.h fz) i with⟨b,m1,m2⟩ | ⟨m1,m2⟩
       ·obtain⟨iS,o9⟩:=iF H fin fe cG kZ;obtain⟨eQ,n,m3,_,m4⟩:=o9 i b m1;rcases m4 with m4 | ⟨_,m4⟩
        ·rw[m2,m4]at fE;exact fE
        rw[m2]at cK;exact h3 n (m4 k cK).2
       rw[m2]at fE cK;have Lf:∀g,hasB w (app s.h fz i) (rho i) g->¬Mv w xs vs g:=fun g hg hm=>by
        obtain⟨s9,b',m3,m4⟩:=(H.mv g).1 hm;obtain⟨m5,m6,m7⟩:=own s9 b' m3;have:=aJ.dj i s9 g hi m5 fE m6 hg (by show hasB w (app s.h fz s9) _ _;rw[m7];exact m4);subst this;obtain⟨iS,_⟩:=iF H fin fe cG kZ;have:i∈fe.map (·.1):=by rw[iS];exact fh.2 ⟨_,m3,rfl⟩
        obtain⟨p,hp,Lg⟩:=fh.1 this;exact m1 p hp Lg
       have cK:=b_ (fun g hg=>hf.block g (aJ.lv i g hi fE hg).1 (Lf g hg)) cK;obtain⟨q1,q2,q3⟩:=aJ.lv i k hi fE cK;rcases h2 with h2 | h2
       ·omega
       exact Lf k cK h2
      ·rcases h2 with h2 | h2
       ·exact .inr (bM aJ.fr.size h2)
       obtain⟨s9,b',m3,m4⟩:=(H.mv k).1 h2;obtain⟨m5,m6,m7⟩:=own s9 b' m3;exact (aJ.lv s9 k m5 m6 (by show hasB w (app s.h fz s9) _ _;rw[m7];exact m4)).2.2) v (fun g hg=>⟨(hown g rfl hg).1,.inr hg⟩) (fun T=>by
      exact⟨g0,Q5,c0,by rw[ak];exact IN,FA⟩)
    exact hnext _ _ _ S' _ _ _ hq (tt.value o.dst hd _ _ (.bx _ _ _ fun _=>⟨.inr rfl,g0,by rw[ak];exact IN,IN⟩))
  exact hq.elim
 exact hq.elim
theorem ju.rep(hC:aL A.C){S:Nat->Prop}{a:Act}{w:World}(N:aU A V L S rho s a w){x:AV}{y:PV}{v:Value}(hv:ju s.h x y)(D:aE S w A.C.P L rho s.h x v):
  ay (fun b=>S b\/∃id,L id/\(s.h id).live/\hasB w (s.h id) (rho id) b) w y v:=by
 have hS:∀b,S b->S b\/∃id,L id/\(s.h id).live/\hasB w (s.h id) (rho id) b:=fun b h=>.inl h;cases hv with
 | p=>exact D.cb.mono hS (fun _ _=>rfl)
 | nl=>cases D;exact .nil _ _
 | row id e es z=>
  obtain⟨I,rfl⟩:=D.bu (by rw[z];trivial);have J:=N.hp id I;rw[z]at J;exact an.yG J hS fun g hg=>.inr ⟨id,I,by rw[z];trivial,.inl hg⟩
 | f_ id es z=>
  obtain⟨I,rfl⟩:=D.bu (by rw[z];trivial);have J:=N.hp id I;rw[z]at J;exact ay.mono J hS (fun _ _=>rfl)
 | ai id e es ps z hp=>
  obtain⟨I,rfl⟩:=D.bu (by rw[z];trivial);have J:=N.hp id I;rw[z]at J;obtain⟨hR,_⟩:=J;have aN:(s.h id).live:=by rw[z];trivial
  have K1:an A.C.P w (ay (fun b=>S b\/∃id,L id/\(s.h id).live/\hasB w (s.h id) (rho id) b) w) e ps (rho id):=by
   have Q6:=hR;obtain⟨i,ws,h1,h2,h3,h4,h5,h6⟩:=Q6;have old:∀{a:Nat} {q:List PV},ps[a]?=some q->∃r,es[a]?=some r:=fun {a q} Y=>⟨_,aM (by rw[<-hp.len];exact ah Y)⟩;refine⟨i,ws,h1,h2,by rw[hp.len];exact h3,fun q hq=>?_,h5,fun k q j y Y hj=>?_⟩
   ·obtain⟨k,hk⟩:=uU.1 hq;obtain⟨r,z⟩:=old hk;rw[(hp.row k r q z hk).1];exact h4 r (aj z)
   obtain⟨r,N1⟩:=old Y;obtain⟨hlen,O⟩:=hp.row k r q N1 Y;obtain⟨x,D⟩:∃x,r[j]?=some x:=⟨_,aM (by rw[<-hlen];exact ah hj)⟩;obtain⟨u,hu,U⟩:=h6 k r j x N1 D;refine⟨u,hu,?_⟩;have:=O j x y D hj;cases this with
   | p x=>exact (aE.cb U).mono hS (fun _ _=>rfl)
   | nl=>
    have U:aE S w A.C.P L rho s.h .nl u:=U;cases U;exact .nil _ _
   | row e' xs=>
    have U:an A.C.P w (ay S w) e' xs u:=U;refine an.yG U hS fun b hb=>.inr ⟨id,I,aN,?_⟩;obtain⟨g,u2,g1,g2,_⟩:=hR.rE N1 D;have:u2=u:=by
     obtain⟨_,_,_,_,_,Z⟩:=(gj h3 h4 g1).1 g2;rw[hu]at Z;injection Z with Z;exact Z.symm
    subst this;rw[z];exact .inr (.inr (.inl ⟨_,_,_,_,_,_,rfl,g1,g2,hb⟩))
  exact an.yG K1 (fun _ h=>h) fun g hg=>.inr ⟨id,I,aN,.inl hg⟩
theorem jZ.at{h:Nat->AB}{as:List AV}{xs:List PV}(I:jZ h as xs):as.length=xs.length/\∀(i:Nat) a x,as[i]?=some a->xs[i]?=some x->ju h a x:=by
 induction I with
 | nil=>exact⟨rfl,fun i a x h=>by simp at h⟩
 | cons h1 h2 ih=>
  refine⟨by simp[ih.1],fun i a x z D=>?_⟩;cases i with
  | zero=>simp at z D;subst z D;exact h1
  | succ i=>exact ih.2 i a x (by simpa using z) (by simpa using D)
theorem View.rep(hC:aL A.C){S:Nat->Prop}{a:Act}{w:World}(z:aU A V L S rho s a w){x:AV}{y:PV}{v:Value}(J:View s.h x y)(hx:aE S w A.C.P L rho s.h x v):
  ay (fun b=>S b\/∃id,L id/\(s.h id).live/\hasB w (s.h id) (rho id) b) w y v:=by
 have hS:∀b,S b->S b\/∃id,L id/\(s.h id).live/\hasB w (s.h id) (rho id) b:=fun b h=>.inl h;cases J with
 | one h1=>exact h1.rep hC z hx
 | box id off cs xs hb o8=>
  obtain⟨U,g,Y,J⟩:=hx.dt (by rw[hb];trivial);have N:=z.hp id U;rw[hb]at N;obtain⟨g',ty,c,D,k2,k3,k4⟩:=N;rw[Y]at D;injection D with D;injection D with D;injection D with D;subst D;obtain⟨hl,BC⟩:=o8.at;have hU:∀(i:Nat) x,xs[i]?=some x->∃u,c[i]?=some u/\u.oneCell'=true/\ay (fun b=>S b\/∃id,L id/\(s.h id).live/\hasB w (s.h id) (rho id) b) w x u:=by
   intro i x I;obtain⟨y,hy⟩:∃y,cs[i]?=some y:=⟨_,aM (by rw[hl];exact ah I)⟩;obtain⟨u,hu⟩:=fJ k3.symm (ah hy);obtain⟨O,Z⟩:=k4 _ _ _ hy hu;exact⟨u,hu,O,(BC i y x hy I).rep hC z Z⟩
  have:ay (fun b=>S b\/∃id,L id/\(s.h id).live/\hasB w (s.h id) (rho id) b) w (.ip xs) (.pointer (some ⟨g,0,none⟩)):=by
   refine .ip xs g 0 (fun i=>(c[i]?).getD undef) (.inr ⟨id,U,by rw[hb];trivial,.inl (by rw[Y];rfl)⟩) (fun i x I=>?_) fun i x I=>?_
   ·obtain⟨u,O,Z,h7⟩:=hU i x I;rw[ae,cell_of_row w g i c ty (0,0) k2,O];exact⟨rfl,Z⟩
   obtain⟨u,O,Z,h7⟩:=hU i x I;rw[O];exact h7
  rw[J];exact this.nV rfl
 | jt id off xs hb=>
  obtain⟨U,g,Y,J⟩:=hx.dt (by rw[hb];trivial);have N:=z.hp id U;rw[hb]at N;have Dq:ay _ w (.ip xs) (rho id):=N;rw[J];exact (Dq.nV Y).mono hS (fun _ _=>rfl)
theorem nM.at{h:Nat->AB}{as:List AV}{xs:List PV}(I:nM h as xs):as.length=xs.length/\∀(i:Nat) a x,as[i]?=some a->xs[i]?=some x->View h a x:=by
 induction I with
 | nil=>exact⟨rfl,fun i a x h=>by simp at h⟩
 | cons h1 h2 ih=>
  refine⟨by simp[ih.1],fun i a x z D=>?_⟩;cases i with
  | zero=>simp at z D;subst z D;exact h1
  | succ i=>exact ih.2 i a x (by simpa using z) (by simpa using D)
theorem w9{h:Nat->AB}{c:AV}(z:pe h c=true):(∃es,c=.p (.sl es))\/(∃a m n,c=.p (.im (.slice a m n)))\/(∃i e es,c=.ow i/\h i=.row e es)\/c=.nl:=by
 unfold pe at z;split at z
 ·exact .inl ⟨_,rfl⟩
 ·exact .inr (.inl ⟨_,_,_,rfl⟩)
 ·split at z
  ·rename_i D;exact .inr (.inr (.inl ⟨_,_,_,rfl,D⟩))
  cases z
 ·exact .inr (.inr (.inr rfl))
 cases z
def DT(a:AV)(u:Value):PV:=match a with
 | .p x=>x
 | _=>.im u
theorem rQ{S:Nat->Prop}{w:World}{g:Nat}{c:Array Value}{Y:TypeId}(hg:w.heap[g]?=some (.cells c Y (0,0)))(hc:∀(j:Nat) u,c[j]?=some u->∀k n,u≠.int k n)(hS:∀b,S b->S' b\/b=g){x:PV}{v:Value}(I:Il x)(h:ay S w x v):ay S' w x v:=by
 cases h with
 | im=>exact .im _
 | nil a c=>exact .nil a c
 | ag cs vs hl z h=>exact I.elim
 | ip cs b off U hS hcell h=>exact I.elim
 | fn f cap vs hl h=>exact I.elim
 | mp=>exact I.elim
 | ifc=>exact I.elim
 | sl es k b off cp U BY hb hk hcell h=>
  have N:∀(i:Nat) e (j:Nat) x,es[i]?=some e->e[j]?=some x->∃J n,x=.im (.int J n):=fun i e j x z D=>by
   obtain⟨J,n,O⟩:=I e (aj z);subst O;cases j with
   | zero=>simp at D;exact⟨J,n,D.symm⟩
   | succ j=>simp at D
  cases es with
  | nil=>exact .nil _ _
  | cons e es=>
   rcases hS b hb with hb | hb
   ·refine .sl _ k b off cp U BY hb hk hcell fun i e j x z D=>?_;obtain⟨J,n,hx⟩:=N i e j x z D;have Z:=h i e j x z D;subst hx;generalize U i j=u at Z ⊢;cases Z;exact .im _
   subst hb;obtain⟨J,n,O⟩:=I e dJ;subst O;have z:=(hcell 0 _ 0 _ rfl rfl).1;have D:=h 0 _ 0 _ rfl rfl;generalize U 0 0=u0 at z D;cases D;rw[cell_of_row w b _ c Y (0,0) hg]at z;exact absurd rfl (hc _ _ z J n)
theorem DU{S:Nat->Prop}{w:World}{g:Nat}{c:Array Value}{N:TypeId}(D:w.heap[g]?=some (.cells c N (0,0)))(I:∀(j:Nat) u,c[j]?=some u->∀k n,u≠.int k n)(hS:∀b,S b->S' b\/b=g){x:PV}{v:Value}(z:KL x)(h:ay S w x v):ay S' w x v:=by
 cases x with
 | ag cs=>
  cases h with
  | ag cs vs hl h1 h=>exact .ag cs vs hl h1 fun i a u J O=>rQ D I hS (z a (aj J)) (h i a u J O)
 | im x=>exact rQ D I hS z h
 | sl es=>exact rQ D I hS z h
 | ip cs=>exact z.elim
 | fn f cap=>exact z.elim
 | mp mk es=>exact z.elim
 | ifc t x=>exact z.elim
variable {e:TypeId}
theorem DV{S:Nat->Prop}{P:Program}{w:World}{es:List (List PV)}{v:Value}(h:an P w (ay S w) e es v)(hS:∀b,S b->S' b):an P w (ay S' w) e es v:=by
 obtain⟨i,xs,z,D,I,J,N,O⟩:=h;exact⟨i,xs,z,D,I,J,N,fun a r j x U Y=>by obtain⟨u,Z,hr⟩:=O a r j x U Y;exact⟨u,Z,hr.mono hS fun _ _=>rfl⟩⟩
theorem rR{S:Nat->Prop}{P:Program}{w:World}{es:List (List PV)}{v:Value}(h:an P w (ay S w) e es v)(J:∀r∈es,∀z∈r,nL z=true):an P w (ay S' w) e es v:=by
 obtain⟨i,xs,N,O,U,Y,Z,h6⟩:=h;exact⟨i,xs,N,O,U,Y,Z,fun a r j x D I=>by obtain⟨u,hu,hr⟩:=h6 a r j x D I;exact⟨u,hu,gk (J r (aj D) x (aj I)) hr⟩⟩
theorem BZ(hC:aL A.C){o:Oper}{S:Nat->Prop}{a:Act}{w:World}{K:KK}{next:Act->World->Prop}(sim:aU A V L S rho s a w)(hd:∀d,o.dst=some d->d<A.n)
  (hnext:∀v eff new S' rho' a' w',K v eff new->aU A (mG V o.dst) (nR L new (o.dst.getD 0)) S' rho' ⟨cU s.t o.dst v,app s.h eff⟩ a' w'->next a' w')
  (f:FuncId) (cT:List AV) (vs:Array Value) (hl:cT.length=vs.size)
  (hrep:∀(S2:Nat->Prop) (h2:Nat->AB),aU A V L S2 rho ⟨s.t,h2⟩ a w->∀(i:Nat) x v,cT[i]?=some x->vs.toList[i]?=some v->aE S2 w A.C.P L rho h2 x v)
  (hrun : (∃ fn : Func, A.C.P.funcs[f]? = some fn ∧ (fn.name == "runtime.NumGoroutine") = false ∧ fn.body.isNone = false) → (execOp a.eval o).run A.C.P w = .ok (.enter f vs) w) (hq : rB A.C s.h f cT K) : o.wp A.C.P a w next Q := by
 unfold rB at hq;split at hq
 ·rename_i id y cZ;split at hq
  ·rename_i cs e es hb hr;obtain⟨x,bW,dX,Q7,hint,Q8,hk⟩:=hq;obtain⟨v0,v1,v2,rfl⟩:∃v0 v1 v2,vs=#[v0,v1,v2]:=by
    obtain⟨l⟩:=vs
    match l,hl with
    | [v0,v1,v2],_=>exact⟨v0,v1,v2,rfl⟩
   have r0:=hrep S s.h sim 0 _ v0 rfl rfl;have r1:=(hrep S s.h sim 1 _ v1 rfl rfl).cb;obtain⟨Lh,rfl⟩:=(hrep S s.h sim 2 _ v2 rfl rfl).bu (by rw[hr];trivial);obtain⟨hL,g,hg,rfl⟩:=r0.dt (by rw[hb];trivial);have hh:=sim.hp id hL;rw[hb]at hh;obtain⟨g',ty,c,k1,k2,k3,k4⟩:=hh;rw[hg]at k1;injection k1 with k1;injection k1 with k1;injection k1 with k1;subst k1;have ai:=sim.hp cZ Lh;rw[hr]at ai;have ai:an A.C.P w (ay S w) e es (rho cZ):=ai;have bO:id≠cZ:=fun e=>by rw[e,hr]at hb;cases hb
   have tQ:(s.h id).live:=by rw[hb];trivial
   have w_:(s.h cZ).live:=by rw[hr];trivial
   have PQ:∀b,bH (rho cZ)=some b->b≠g:=fun b dM e=>bO (sim.KM id cZ g hL Lh tQ w_ (by rw[hg];rfl) (by rw[<-e];exact dM));obtain⟨mH,Km,_⟩:=sim.mO id g hL tQ (by rw[hg];rfl);have Li:∀(j:Nat) u,c[j]?=some u->∀k n,u≠.int k n:=fun j u hu k n hn=>by
    obtain⟨av,o_⟩:∃av,cs[j]?=some av:=⟨_,aM (by rw[<-k3];exact (vn.1 hu).1)⟩;have h1:=Q7 av (aj o_);have h2:=(k4 j av u o_ hu).2;subst hn;rcases w9 h1 with⟨zs,rfl⟩ | ⟨_,_,_,rfl⟩ | ⟨i,e2,jo,rfl,jb⟩ | rfl
    ·have:=h2.cb;cases this
    ·have:=h2.cb;cases this
    ·obtain⟨Q9,h3⟩:=h2.bu (by rw[jb];trivial);have h4:=sim.hp i Q9;rw[jb]at h4;obtain⟨_,_,_,_,h5,_⟩:=h4;obtain⟨_,_,h6⟩:=bP h5;rw[<-h3]at h6;cases h6
    cases h2
   have Lj:∀(j:Nat) z,(List.zipWith DT cs c.toList)[j]?=some z->∃u,c[j]?=some u/\u.oneCell'=true/\ay S w z u:=fun j z hz=>by
    rw[W4]at hz;cases h1:cs[j]? with
    | none=>rw[h1]at hz;cases hz
    | some av=>
     cases h2:c.toList[j]? with
     | none=>rw[h1,h2]at hz;cases hz
     | some u=>
      rw[h1,h2]at hz;simp only[Option.some.injEq]at hz;have hu:c[j]?=some u:=by rw[<-uZ];exact h2
      obtain⟨q1,q2⟩:=k4 j av u h1 hu;refine⟨u,hu,q1,?_⟩;rw[<-hz];unfold DT;split
      ·exact q2.cb
      exact .im _
   have N2:Ht cs (List.zipWith DT cs c.toList):=⟨by simp[er,k3],fun j z hz=>by
    obtain⟨u,hu⟩:∃u,c.toList[j]?=some u:=⟨_,aM (by have:=ah hz;simp[k3];exact this)⟩;rw[W4,hz,hu];rfl⟩
   obtain⟨S1,Lk⟩:∃S1:Nat->Prop,S1=fun b=>S b\/b=g:=⟨_,rfl⟩;have nX:∀b,S b->S1 b:=fun b h=>by rw[Lk];exact .inl h
   have dX:=dX _ N2;have key:=dX.2 S1 w #[.pointer (some ⟨g,0,none⟩),v1,rho cZ] (hC.env _ _ _ _ sim.ev nX (fun _ _=>rfl) (aC _)) (fun b h=>by
     rw[Lk]at h;rcases h with h | h
     ·exact sim.st b h
     ·rw[h];exact mH) rfl (fun j z v hj hv=>by
     match j with
     | 0=>
      simp only[qV,Option.some.injEq]at hj;have hv:Value.pointer (some ⟨g,0,none⟩)=v:=by simpa using hv
      subst hj;subst hv;refine .ip _ g 0 (fun i=>(c[i]?).getD undef) (by rw[Lk];exact .inr rfl) (fun i z hi=>?_) fun i z hi=>?_
      ·obtain⟨u,h5,h6,h7⟩:=Lj i z hi;rw[ae,cell_of_row w g i c ty (0,0) k2,h5];exact⟨rfl,h6⟩
      obtain⟨u,h5,h6,h7⟩:=Lj i z hi;rw[h5];exact h7.mono nX fun _ _=>rfl
     | 1=>
      simp only[gY,qV,Option.some.injEq]at hj;have hv:v1=v:=by simpa using hv
      subst hj;subst hv;exact r1.mono nX fun _ _=>rfl
     | 2=>
      simp only[gY,qV,Option.some.injEq]at hj;have hv:rho cZ=v:=by simpa using hv
      subst hj;subst hv;refine⟨DV ai nX,fun b dM h=>?_⟩;rw[Lk]at h;rcases h with h | h
      ·exact (sim.mO cZ b Lh w_ dM).2.1 h
      exact PQ b dM h
     | j+3=>simp at hj) (fun i j z z' v u b hi hj hv hu hx hy _ _=>by
     match i,j with
     | 2,2=>rfl
     | 0,_=>simp at hi;subst hi;cases hx
     | 1,_=>simp at hi;subst hi;cases hx
     | i+3,_=>simp at hi
     | _,0=>simp at hj;subst hj;cases hy
     | _,1=>simp at hj;subst hj;cases hy
     | _,j+3=>simp at hj)
   have H:dO L rho s.h [.pv (.ip (List.zipWith DT cs c.toList)),.pv y,.row e es] [.pointer (some ⟨g,0,none⟩),v1,rho cZ] [(cZ,.row e es)]:=.pv _ _ (.pv _ _ (.row cZ e es Lh hr .nil));refine gM (hrun dX.1) key fun e' w' fM=>?_;obtain⟨v,S',rfl,hf,NX,wL,IM,FQ,cG,F9,hown⟩:=fM;refine⟨v,rfl,?_⟩;have N3:∀b,Mv w [.pv (.ip (List.zipWith DT cs c.toList)),.pv y,.row e es] #[.pointer (some ⟨g,0,none⟩),v1,rho cZ] b->bH (rho cZ)=some b:=fun b hm=>by
    obtain⟨s9,b',h1,h2⟩:=(H.mv b).1 hm;simp only[n9,Prod.mk.injEq]at h1;obtain⟨rfl,rfl⟩:=h1;exact al rfl h2
   have eY:w'.heap[g]?=some (.cells c ty (0,0)):=by
    rw[hf.block g mH fun hm=>PQ g (N3 g hm) rfl];exact k2
   have C4:jk S' w' A.C.P (.row e es) (.row bW) (rho cZ):=cG.1;obtain⟨S2,Ll⟩:∃S2:Nat->Prop,S2=fun b=>S b\/(S' b/\w.heap.size<=b):=⟨_,rfl⟩;have Lm:∀b,S b->S2 b:=fun b h=>by rw[Ll];exact .inl h
   have hx:ay S2 w' x v:=DU eY Li (fun b h=>by
    rcases IM b h with h1 | h1 | h1
    ·rw[Lk]at h1;rcases h1 with h1 | h1
     ·exact .inl (Lm b h1)
     exact .inr h1
    ·rw[Ll];exact .inl (.inr ⟨h,h1⟩)
    exact absurd h (C4.2 b (N3 b h1))) hint FQ
   have cF:=aU.handed (S':=S2) hC sim H (fun _ _ _=>rfl) hf Lm (fun b h=>by
    rw[Ll]at h;rcases h with h | h
    ·exact bg (sim.st b h) hf.size
    ·exact wL b h.1) (fun b h=>by
    rw[Ll]at h;rcases h with h | h
    ·exact .inl h
    ·exact .inr (.inl h.2)) (fin:=[.row bW]) (show jk S2 w' A.C.P (.row e es) (.row bW) (rho cZ)/\True from ⟨⟨rR C4.1 Q8,fun b dM h=>by
    rw[Ll]at h;rcases h with h | h
    ·exact (sim.mO cZ b Lh w_ dM).2.1 h
    exact C4.2 b dM h.1⟩,trivial⟩) F9 (fe:=[(cZ,.row e bW)]) rfl
   exact hnext _ _ _ S2 rho _ _ hk (cF.value o.dst hd _ _ (.p _ _ hx))
  exact hq.elim
 exact hq.elim
theorem yX(hC:aL A.C){o:Oper}{S:Nat->Prop}{a:Act}{w:World}{K:KK}{next:Act->World->Prop}(sim:aU A V L S rho s a w)(hd:∀d,o.dst=some d->d<A.n)
  (hn:∀v eff b,K v eff (some b)->¬L (o.dst.getD 0)/\s.h (o.dst.getD 0)=b)
  (hnext:∀v eff new S' rho' a' w',K v eff new->aU A (mG V o.dst) (nR L new (o.dst.getD 0)) S' rho' ⟨cU s.t o.dst v,app s.h eff⟩ a' w'->next a' w')
  (f:FuncId) (cT:List AV) (vs:Array Value) (hl:cT.length=vs.size)
  (hrep:∀(S2:Nat->Prop) (h2:Nat->AB),aU A V L S2 rho ⟨s.t,h2⟩ a w->∀(i:Nat) x v,cT[i]?=some x->vs.toList[i]?=some v->aE S2 w A.C.P L rho h2 x v)
  (hrun : (∃ fn : Func, A.C.P.funcs[f]? = some fn ∧ (fn.name == "runtime.NumGoroutine") = false ∧ fn.body.isNone = false) → (execOp a.eval o).run A.C.P w = .ok (.enter f vs) w) (hq : Tt A.C s.h (o.dst.getD 0) f cT K) : o.wp A.C.P a w next Q := by
 unfold Tt at hq;split at hq
 ·exact yW hC sim hd hn hnext f cT vs hl hrep hrun hq
 split at hq;rotate_left
 ·exact BZ hC sim hd hnext f cT vs hl hrep hrun hq
 obtain⟨xs,r,wV,dX,dY,hq⟩:=hq;obtain⟨K8,IP⟩:=wV.at;have key:=dX.2 (fun b=>S b\/∃id,L id/\(s.h id).live/\hasB w (s.h id) (rho id) b) w vs (hC.env _ _ _ _ sim.ev (fun b h=>.inl h) (fun _ _=>rfl) (aC _)) (fun b h=>h.elim (sim.st b) fun ⟨id,h1,h2,h3⟩=>(sim.lv id b h1 h2 h3).1) (by simp[<-K8,hl]) (fun j x v hj hv=>by
   rw[ao]at hj;obtain⟨y,hy,rfl⟩:=az.1 hj;obtain⟨av,o_⟩:∃av,cT[j]?=some av:=⟨_,aM (by rw[K8];exact ah hy)⟩;exact (IP j av y o_ hy).rep hC sim (hrep S s.h sim j av v o_ (by simpa using hv))) (fun i j x y v u g hi hj hv hu hx=>by
   rw[ao]at hi;obtain⟨z,_,rfl⟩:=az.1 hi;cases hx)
 refine gM (hrun dX.1) key fun e w' fM=>?_;obtain⟨v,S',rfl,hf,NX,wL,IM,hr,cG,F9,hown⟩:=fM;refine⟨v,rfl,?_⟩;have NY:Fr (fun _=>False) w w':=⟨hf.os,hf.tape,hf.output,hf.size,fun k hk _=>hf.block k hk fun ⟨j,x,v,hj,_,hx,_⟩=>by
  rw[ao]at hj;obtain⟨z,_,rfl⟩:=az.1 hj;cases hx⟩
 have cF:=sim.grow hC w' NY;refine hnext _ _ _ S rho _ _ hq (cF.value o.dst hd _ _ ?_);cases r with
 | p x=>exact .p _ _ (gk dY hr)
 | own e es=>cases dY
 | hown cs=>cases dY
 | tu ys=>
  obtain⟨us,rfl,h1,h2⟩:=hr;refine .tu _ us (by simpa using h1) fun i c u hi hu=>?_;rw[ao]at hi;obtain⟨z,hz,rfl⟩:=az.1 hi;exact .p _ _ (gk (cC.1 dY z (aj hz)) (h2 i z u hz hu))
theorem xb:∀(z:List (Nat×Value)) (c:Array Value),(Kg z c).size=c.size
 | [],c=>rfl
 | (j,v)::r,c=>by rw[Kg,xb r,qL]
theorem AG:∀(z:List (Nat×Value)) (c:List PV),(Db z c).length=c.length
 | [],c=>rfl
 | (j,v)::r,c=>by rw[Db,AG r,cu]
theorem HE:∀(I:List (Nat×Value)) (c:Array Value) (cs:List PV) (j:Nat) x u,c.size=cs.length->(Db I cs)[j]?=some x->(Kg I c)[j]?=some u->(∃v,(∃k,(k,v)∈I)/\x=.im v/\u=v)\/(cs[j]?=some x/\c[j]?=some u)
 | [],c,cs,j,x,u,_,hx,hu=>.inr ⟨hx,hu⟩
 | (k,v)::r,c,cs,j,x,u,hl,hx,hu=>by
  rw[Db]at hx;rw[Kg]at hu;rcases HE r (c.setIfInBounds k v) (cs.set k (.im v)) j x u (by rw[qL,cu,hl]) hx hu with⟨J,⟨k',z⟩,D⟩ | ⟨z,D⟩
  ·exact .inl ⟨J,⟨k',An _ z⟩,D⟩
  by_cases e:j=k
  ·subst e;have N:j<cs.length:=by have:=ah z;rwa [cu]at this
   rw[bQ N]at z;rw[fg,qH rfl,qH (by omega)]at D;injection z with z;injection D with D;exact .inl ⟨v,⟨j,dJ ..⟩,z.symm,D.symm⟩
  rw[bY (fun h=>e h.symm)]at z;rw[fg,af (fun h=>e h.symm)]at D;exact .inr ⟨z,D⟩
theorem xc:∀{D:List (Nat×Value)} {k:Nat} {v:Value},FL D=true->(k,v)∈D->v.oneCell'=true
 | (j,u)::r,k,v,h,z=>by
  rw[FL,fH]at h;rcases fL.1 z with e | z
  ·injection e with _ e;exact e▸h.1
  exact xc h.2 z
theorem AH{ys:List PV}:∀{D:List (Nat×Value)},Io ys D->∀p∈D,ys[p.1]?=some (.im p.2)
 | (j,u)::r,h,p,z=>by
  rcases fL.1 z with e | z
  ·subst e;exact h.1
  exact AH h.2 p z
theorem B0(hC:aL A.C){o:Oper}{S:Nat->Prop}{a:Act}{w:World}{K:KK}{next:Act->World->Prop}(sim:aU A V L S rho s a w)(hd:∀d,o.dst=some d->d<A.n)
  (hn:∀v eff b,K v eff (some b)->¬L (o.dst.getD 0)/\s.h (o.dst.getD 0)=b)
  (hnext:∀v eff new S' rho' a' w',K v eff new->aU A (mG V o.dst) (nR L new (o.dst.getD 0)) S' rho' ⟨cU s.t o.dst v,app s.h eff⟩ a' w'->next a' w')
  (f:FuncId) (cT:List AV) (vs:Array Value) (hl:cT.length=vs.size)
  (hrep:∀(S2:Nat->Prop) (h2:Nat->AB),aU A V L S2 rho ⟨s.t,h2⟩ a w->∀(i:Nat) x v,cT[i]?=some x->vs.toList[i]?=some v->aE S2 w A.C.P L rho h2 x v)
  (hrun : (∃ fn : Func, A.C.P.funcs[f]? = some fn ∧ (fn.name == "runtime.NumGoroutine") = false ∧ fn.body.isNone = false) → (execOp a.eval o).run A.C.P w = .ok (.enter f vs) w) (hq : rC A.C s.h f cT K) : o.wp A.C.P a w next Q := by
 unfold rC at hq;split at hq
 case h_2=>exact hq.elim
 rename_i id y iu off;split at hq
 case h_2=>exact hq.elim
 rename_i cs BL hb;split at hq
 case h_2=>exact hq.elim
 rename_i ys hy;obtain⟨rd,wr,r,dX,Kn,Q_,hk⟩:=hq;have e2:iu=id:=bq BL;subst e2;obtain⟨v0,v1,v2,rfl⟩:∃v0 v1 v2,vs=#[v0,v1,v2]:=by
  obtain⟨l⟩:=vs
  match l,hl with
  | [v0,v1,v2],_=>exact⟨v0,v1,v2,rfl⟩
 have r0:=hrep S s.h sim 0 _ v0 rfl rfl;have r1:=(hrep S s.h sim 1 _ v1 rfl rfl).cb;have r2:=hrep S s.h sim 2 _ v2 rfl rfl;obtain⟨hL,g,hg,rfl⟩:=r0.dt (by rw[hb];trivial);obtain⟨_,g2,xd,rfl⟩:=r2.dt (by rw[hb];trivial);rw[hg]at xd;injection xd with xd;injection xd with xd;injection xd with xd;subst xd;have tQ:(s.h iu).live:=by rw[hb];trivial
 have hh:=sim.hp iu hL;rw[hb]at hh;obtain⟨g',ty,c,k1,k2,k3,k4⟩:=hh;rw[hg]at k1;injection k1 with k1;injection k1 with k1;injection k1 with k1;subst k1;obtain⟨mH,Km,_⟩:=sim.mO iu g hL tQ (by rw[hg];rfl);obtain⟨N4,N5⟩:=dz hy;have hcell:∀(j:Nat) x u,ys[j]?=some x->c[j]?=some u->u.oneCell'=true/\ay S w x u:=fun j x u hx hu=>by
  obtain⟨av,o_⟩:∃av,cs[j]?=some av:=⟨_,aM (by rw[N4];exact ah hx)⟩;obtain⟨h1,h2⟩:=k4 j av u o_ hu;refine⟨h1,?_⟩;rcases N5 j av x o_ hx with e | ⟨e,e'⟩
  ·subst e;exact h2.cb
  subst e;subst e';cases h2;exact .nil _ _
 have key:=dX.2 S w v1 g c ty sim.ev sim.st r1 k2 (by omega) Km (fun p hp=>by
  have h1:=AH Kn p hp;obtain⟨u,hu⟩:∃u,c[p.1]?=some u:=⟨_,bE (by have:=ah h1;omega)⟩;have h2:=(hcell _ _ u h1 hu).2;rw[hu,h2.bc])
 refine gM (hrun dX.1) key fun e' w' fM=>?_;obtain⟨rfl,hf,hw⟩:=fM;refine⟨r,rfl,?_⟩;have H:dO L rho s.h [.box ys] [rho iu] [(iu,.box cs)]:=.box iu cs ys hL hb hy .nil;have Ln:∀k,k=g->Mv w [.box ys] #[rho iu] k:=fun k e=>⟨0,_,_,rfl,rfl,rfl,.inl (by rw[hg,e];rfl)⟩;have N3:∀k,Mv w [.box ys] #[rho iu] k->k=g:=fun k ⟨j,x,v,h1,h2,_,h3⟩=>by
  match j,h1,h2 with
  | 0,h1,h2=>
   simp only[qV,Option.some.injEq]at h1;subst h1;have h2:rho iu=v:=by simpa using h2
   subst h2;have:=al (x:=tc (.box ys)) rfl h3;rw[hg]at this;injection this with this;exact this.symm
  | j+1,h1,_=>simp at h1
 have Ra:Fr (Mv w [.box ys] #[rho iu]) w w':=⟨hf.os,hf.tape,hf.output,hf.size,fun k hk hn=>hf.block k hk fun e=>hn (Ln k e)⟩;have cF:=aU.handed (S':=S) hC sim H (fun _ _ _=>rfl) Ra (fun _ h=>h) (fun b h=>bg (sim.st b h) hf.size) (fun b h=>.inl h) (fin:=[.box (Db wr ys)])
  (show jk S w' A.C.P (.box ys) (.box (Db wr ys)) (rho iu)/\True from ⟨⟨g,ty,_,hg,hw,by rw[xb,AG];omega,Km,fun j x u hx hu=>by
   rcases HE wr c ys j x u (by omega) hx hu with⟨v,⟨k,hm⟩,e1,e2⟩ | ⟨h1,h2⟩
   ·subst e1;subst e2;exact⟨xc Q_ hm,.im _⟩
   obtain⟨h3,h4⟩:=hcell j x u h1 h2;exact⟨h3,h4.mono (fun _ h=>h) fun b dM=>hf.block b (sim.st b dM) fun e=>Km (e▸dM)⟩⟩,trivial⟩)
  (by
   have only:∀i k,cq w' [.box ys] [.box (Db wr ys)] [rho iu] i k->i=0/\k=g:=fun i k hk=>by
    match i,hk with
    | 0,hk=>
     have:=al (x:=FK (.box (Db wr ys))) rfl hk.2;rw[hg]at this;injection this with this;exact⟨rfl,this.symm⟩
    | i+1,hk=>exact hk.elim
   exact⟨fun i k hk=>by
    obtain⟨_,rfl⟩:=only i k hk;exact⟨bg mH hf.size,.inr (Ln _ rfl)⟩,fun i j k hi hj=>by rw[(only i k hi).1,(only j k hj).1]⟩) (fe:=[(iu,.box ((Db wr ys).map .p))]) rfl
 exact hnext _ _ _ S rho _ _ hk (cF.value o.dst hd _ _ (.p _ _ (.im r)))
theorem aU.od{S:Nat->Prop}{a:Act}{w:World}(z:aU A V L S rho s a w)(hC:aL A.C){L':Nat->Prop}{rho':Nat->Value}{h':Nat->AB}(D:Nat->Prop)
  (hf:Fr (fun g=>∃i,D i/\L i/\(s.h i).live/\hasB w (s.h i) (rho i) g) w w')
  (hids:∀i,(h' i).there->(s.h i).there/\(L i->L' i/\rho' i=rho i)) (Lo:∀i e,(h' i).fD=some e->(s.h i).fD=some e)
  (U:∀i,¬D i->h' i=s.h i/\(L' i->L i)/\rho' i=rho i) (Rb:∀i,100000<=i->rho' i=rho i)
  (hhp:fu S S w w' L L' rho rho' s.h h'->∀i,D i->L' i->cd S w' A.C.P L' rho' h' i (h' i))
  (hown:∀i g,D i->L' i->(h' i).live->hasB w' (h' i) (rho' i) g->g<w'.heap.size/\(w.heap.size<=g\/∃j,D j/\L j/\(s.h j).live/\hasB w (s.h j) (rho j) g))
  (hdj:∀i j g,D i->D j->L' i->L' j->(h' i).live->(h' j).live->hasB w' (h' i) (rho' i) g->hasB w' (h' j) (rho' j) g->i=j):aU A V L' S rho' ⟨s.t,h'⟩ a w':=by
 have eE:∀b,S b->w'.heap[b]?=w.heap[b]?:=fun b hb=>hf.block b (z.st b hb) fun ⟨i,_,hl,I,Y⟩=>(z.lv i b hl I Y).2.1 hb;have T:fu S S w w' L L' rho rho' s.h h':=⟨fun _ h=>h,eE,hids,Lo⟩;have stay:∀i,¬D i->L i->(s.h i).live->∀g,hasB w (s.h i) (rho i) g->w'.heap[g]?=w.heap[g]?:=fun i J hl I g Y=>hf.block g (z.lv i g hl I Y).1 fun ⟨j,Z,Lp,N,O⟩=>J (z.dj i j g hl Lp I N Y O▸Z);have oh:∀i,¬D i->L i->(s.h i).live->∀g,hasB w' (s.h i) (rho i) g->hasB w (s.h i) (rho i) g:=fun i J hl I g Y=>b_ (fun b hb=>stay i J hl I b hb) Y;exact
 {tm:=fun j Z=>(z.tm j Z).bA T
  sz:=z.sz,df:=z.df,nb:=z.nb
  pn:=fun i J=>(Rb i J).trans (z.pn i J)
  ev:=hC.env _ _ _ _ z.ev (fun _ h=>h) eE hf.size
  s0:=z.s0
  st:=fun b hb=>bg (z.st b hb) hf.size
  sb:=z.sb
  hp:=fun i J=>by
   show cd _ _ _ _ _ _ _ (h' i);by_cases hD:D i
   ·exact hhp T i hD J
   obtain⟨h1,h2,h3⟩:=U i hD;rw[h1];exact (z.hp i (h2 J)).bA T (stay i hD (h2 J)) (fun _=>h3)
  dj:=fun i j g J Z I N cK O=>by
   have I:(h' i).live:=I;have N:(h' j).live:=N;have cK:hasB w' (h' i) (rho' i) g:=cK;have O:hasB w' (h' j) (rho' j) g:=O;have mixed:∀i j,D i->¬D j->L' i->L' j->(h' i).live->(h' j).live->hasB w' (h' i) (rho' i) g->hasB w' (h' j) (rho' j) g->False:=fun i j IQ F_ J Z I N cK O=>by
    obtain⟨h1,h2,h3⟩:=U j F_;rw[h1]at N;rw[h1,h3]at O;have O:=oh j F_ (h2 Z) N g O;rcases (hown i g IQ J I cK).2 with h | ⟨k,hk,N6,lk,M1⟩
    ·have:=(z.lv j g (h2 Z) N O).1;omega
    exact F_ (z.dj j k g (h2 Z) N6 N lk O M1▸hk)
   by_cases IQ:D i<;>by_cases F_:D j
   ·exact hdj i j g IQ F_ J Z I N cK O
   ·exact (mixed i j IQ F_ J Z I N cK O).elim
   ·exact (mixed j i F_ IQ Z J N I O cK).elim
   obtain⟨h1,h2,h3⟩:=U i IQ;obtain⟨k1,k2,k3⟩:=U j F_;rw[h1]at I;rw[k1]at N;rw[h1,h3]at cK;rw[k1,k3]at O;exact z.dj i j g (h2 J) (k2 Z) I N (oh i IQ (h2 J) I g cK) (oh j F_ (k2 Z) N g O)
  lv:=fun i g J I Y=>by
   have I:(h' i).live:=I;have Y:hasB w' (h' i) (rho' i) g:=Y;by_cases hD:D i
   ·obtain⟨h1,h2⟩:=hown i g hD J I Y;rcases h2 with h | ⟨j,Z,Lp,N,O⟩
    ·exact⟨h1,fun hs=>by have:=z.st g hs;omega,.inr (bM z.fr.size h)⟩
    exact⟨h1,(z.lv j g Lp N O).2.1,(z.lv j g Lp N O).2.2⟩
   obtain⟨h1,h2,h3⟩:=U i hD;rw[h1]at I;rw[h1,h3]at Y;obtain⟨p1,p2,p3⟩:=z.lv i g (h2 J) I (oh i hD (h2 J) I g Y);exact⟨bg p1 hf.size,p2,p3⟩
  fr:=z.fr.trans hf fun b ⟨i,_,hl,I,Y⟩=>(z.lv i b hl I Y).2.2 }
variable {α:Type}
theorem ey{l:List α}{i a:Nat}{x y:α}(h:(l.set i x)[a]?=some y):(a=i/\y=x/\i<l.length)\/(a≠i/\l[a]?=some y):=by
 by_cases e:a=i
 ·subst e;have hl:=ah h;rw[cu]at hl;rw[bQ hl]at h;injection h with h;exact .inl ⟨rfl,h.symm,hl⟩
 rw[bY (fun e'=>e e'.symm)]at h;exact .inr ⟨e,h⟩
theorem Vj(l:List α)(p k:Nat)(v:α):(l.set p v).take k=(l.take k).set p v:=by
 apply lW;intro j;rw[cB];by_cases e:j=p
 ·subst e;by_cases h:j<k
  ·rw[qH h];by_cases hl:j<l.length
   ·rw[bQ hl,bQ (by simp;omega)]
   rw[dy (by simp;omega),dy (by simp;omega)]
  rw[af h,dy (by simp;omega)]
 rw[bY (fun h=>e h.symm),bY (fun h=>e h.symm),cB]
theorem an.inner{P:Program}{w:World}{R R':HX->Value->Prop}{es:List (List HX)}{g n c:Nat}{z:TypeInfo}(h:an P w R e es (.slice (some ⟨g,0,none⟩) n c))(pf:P.info? e=some z){J:Array Value}(hg:w.heap[g]?=some (.cells J e (0,0)))
  {i D:Nat} {r:List HX} (hr:es[i]?=some r) (tv:D<r.length) {x:HX} {Z:Value} (h1:Z.oneCell'=true) (eY:w'.heap[g]?=some (.cells (J.setIfInBounds (i*z.size+D) Z) e (0,0)))
  (hx:R' x Z) (O:∀a r1 j y u,es[a]?=some r1->r1[j]?=some y->¬(a=i/\j=D)->J[a*z.size+j]?=some u->R y u->R' y u):an P w' R' e (es.set i (r.set D x)) (.slice (some ⟨g,0,none⟩) n c):=by
 obtain⟨ie,xs,k1,k2,k3,k4,k5,k6⟩:=h;rw[pf]at k1;injection k1 with k1;subst k1;rcases k3.2 with⟨N,_⟩ | ⟨g',cap,Ds,N,_,Y,k9,Kj,Fv,Hv⟩
 ·cases N
 injection N with N kn kc;injection N with N;injection N with N;subst N kn kc;rw[hg]at Y;injection Y with Y;injection Y with Y;subst Y;have hi:=ah hr;have nP:=k4 r (aj hr);have IA:i*z.size+z.size<=es.length*z.size:=by rw[<-lV];exact bZ _ hi
 have Hw:es.length*z.size<=J.size:=by rw[Fv];exact bZ _ k9
 have FW:xs.length=es.length*z.size:=k3.1;have hp:i*z.size+D<es.length*z.size:=by omega
 refine⟨z,xs.set (i*z.size+D) Z,pf,k2,⟨by rw[cu,FW,cu],.inr ⟨g,c,_,by rw[cu],nI _,eY,by rw[cu];exact k9,Kj,by rw[qL];exact Fv,?_⟩⟩,?_,?_,?_⟩
 ·rw[qK,cu,Vj,Hv]
 ·intro q Az;rcases nJ Az with h | h
  ·exact k4 q h
  rw[h,cu];exact nP
 ·intro u I;rcases nJ I with h | h
  ·exact k5 u h
  rw[h];exact h1
 intro b r1 j y hb U;have low:∀(a j:Nat) u,xs[a*z.size+j]?=some u->J[a*z.size+j]?=some u:=fun a j u I=>by
  rw[<-Hv,cB]at I;split at I
  ·simpa using I
  cases I
 rcases ey hb with⟨rfl,rfl,_⟩ | ⟨Ga,hb⟩
 ·rcases ey U with⟨rfl,rfl,_⟩ | ⟨MU,U⟩
  ·exact⟨Z,by rw[bQ (by rw[FW];exact hp)],hx⟩
  obtain⟨u,I,nF⟩:=k6 _ _ _ _ hr U;exact⟨u,by rw[bY (by omega)];exact I,O _ _ _ _ _ hr U (fun h=>MU h.2) (low _ _ _ I) nF⟩
 obtain⟨u,I,nF⟩:=k6 _ _ _ _ hb U;have kX:=ah U;rw[k4 r1 (aj hb)]at kX;refine⟨u,?_,O _ _ _ _ _ hb U (fun h=>Ga h.1) (low _ _ _ I) nF⟩;rw[bY]
 ·exact I
 intro he;rcases jV Ga with h | h
 ·have:=bZ z.size (uV h);rw[lV]at this;omega
 have:=bZ z.size (uV h);rw[lV]at this;omega
theorem Vk(hC:aL A.C){o:Oper}{S:Nat->Prop}{a:Act}{w:World}{K:KK}{next:Act->World->Prop}(sim:aU A V L S rho s a w)(hd:∀d,o.dst=some d->d<A.n)
  (hn:∀v eff b,K v eff (some b)->¬L (o.dst.getD 0)/\s.h (o.dst.getD 0)=b)
  (hnext:∀v eff new S' rho' a' w',K v eff new->aU A (mG V o.dst) (nR L new (o.dst.getD 0)) S' rho' ⟨cU s.t o.dst v,app s.h eff⟩ a' w'->next a' w')
  (f:FuncId) (cT:List AV) (vs:Array Value) (hl:cT.length=vs.size)
  (hrep:∀(S2:Nat->Prop) (h2:Nat->AB),aU A V L S2 rho ⟨s.t,h2⟩ a w->∀(i:Nat) x v,cT[i]?=some x->vs.toList[i]?=some v->aE S2 w A.C.P L rho h2 x v)
  (hrun : (∃ fn : Func, A.C.P.funcs[f]? = some fn ∧ (fn.name == "runtime.NumGoroutine") = false ∧ fn.body.isNone = false) → (execOp a.eval o).run A.C.P w = .ok (.enter f vs) w) (hq : T5 A.C s.h (o.dst.getD 0) f cT K) : o.wp A.C.P a w next Q := by
 unfold T5 at hq;split at hq
 case h_2=>exact hq.elim
 rename_i t av as;split at hq
 case h_2=>exact hq.elim
 rename_i ys Dx;obtain⟨v0,us,wV⟩:∃v0 us,vs.toList=v0::us:=by
  obtain⟨l⟩:=vs
  match l,hl with
  | x::r,_=>exact⟨x,r,rfl⟩
 have IP:vs=(v0::us).toArray:=by rw[<-wV]
 have Sv:as.length=us.length:=by
  have h1:vs.size=us.length+1:=by rw[IP];simp
  simp only[bw]at hl;omega
 obtain⟨N4,N5⟩:=dz Dx;have hargs:∀(j:Nat) x u,ys[j]?=some x->us[j]?=some u->ay S w x u:=fun j x u hx hu=>by
  obtain⟨b,hb⟩:∃b,as[j]?=some b:=⟨_,aM (by rw[N4];exact ah hx)⟩;have h1:=hrep S s.h sim (j+1) b u (by simpa using hb) (by rw[wV];simpa using hu);rcases N5 j b x hb hx with e | ⟨e,e'⟩
  ·subst e;exact h1.cb
  subst e;subst e';cases h1;exact .nil _ _
 obtain⟨u0,rfl,r0⟩:=(hrep S s.h sim 0 _ v0 rfl (by rw[wV];rfl)).Ay;split at hq
 ·rename_i id off;split at hq
  case h_2=>exact hq.elim
  rename_i cs hb;split at hq
  case h_2=>exact hq.elim
  rename_i cZ tv;split at hq
  case h_2=>exact hq.elim
  rename_i e l hr;split at hq
  ·exact hq.elim
  rename_i bO;have bO:id≠cZ:=fun e=>by rw[e]at bO;simp at bO
  obtain⟨r,l',dX,dY,Ko,hk⟩:=hq;obtain⟨M3,hdb⟩:=hn _ _ _ hk;obtain⟨d,N7⟩:∃d:Nat,o.dst.getD 0=d:=⟨_,rfl⟩;have Rc:d<100000:=by rw[<-N7];exact sim.gT hd
  rw[N7]at M3 hdb hk;obtain⟨hL,g,hg,rfl⟩:=r0.dt (by rw[hb];trivial);have hh:=sim.hp id hL;rw[hb]at hh;obtain⟨g',ty,c,k1,k2,k3,k4⟩:=hh;rw[hg]at k1;injection k1 with k1;injection k1 with k1;injection k1 with k1;subst k1;have HF:=ah tv;obtain⟨v,hv⟩:∃v,c[off]?=some v:=⟨_,bE (by omega)⟩;obtain⟨o1,l1⟩:=k4 off _ v tv hv;obtain⟨Kp,IS⟩:=l1.bu (by rw[hr];trivial);have ai:=sim.hp cZ Kp;rw[hr]at ai;have ai:an A.C.P w (ay S w) e l (rho cZ):=ai;rw[<-IS]at ai;have tQ:(s.h id).live:=by rw[hb];trivial
  have w_:(s.h cZ).live:=by rw[hr];trivial
  have xe:d≠id:=fun e=>M3 (by rw[e];exact hL);have DW:d≠cZ:=fun e=>M3 (by rw[e];exact Kp);obtain⟨p1,p2,p3⟩:=sim.mO id g hL tQ (by rw[hg];rfl);have rb:∀k,bH v=some k->¬S k/\k≠g/\k<w.heap.size:=fun k hk=>by
   obtain⟨q1,q2,q3⟩:=sim.mO cZ k Kp w_ (by rw[<-IS];exact hk);exact⟨q2,fun e=>bO (sim.KM id cZ g hL Kp tQ w_ (by rw[hg];rfl) (by rw[<-IS,<-e];exact hk)),q1⟩
  have key:=dX.2 S w us g off c ty v sim.ev sim.st (by omega) hargs k2 hv ai p2 rb;rw[<-IP]at key;refine gM (hrun dX.1) key fun e' w' fM=>?_;obtain⟨u,v',S',rfl,hf,hres,hw,kD,dM⟩:=fM;refine⟨u,rfl,?_⟩;have kD:an A.C.P w' (ay S w') e l' v':=rR kD Ko;have N8:v'.oneCell'=true:=by
   obtain⟨_,_,_,_,h3,_⟩:=kD;rcases h3.2 with⟨h4,_⟩ | ⟨_,_,_,h4,_⟩<;>rw[h4]<;>rfl
  have Gb:ax (ax s.h cZ .none) id (.box (cs.set off (.ow d))) id=.box (cs.set off (.ow d)):=ak _ _ _;have xf:ax (ax s.h cZ .none) id (.box (cs.set off (.ow d))) cZ=.none:=by rw[au _ _ bO.symm,ak]
  have Gc:∀i,i≠id->i≠cZ->ax (ax s.h cZ .none) id (.box (cs.set off (.ow d))) i=s.h i:=fun i h1 h2=>by rw[au _ _ h1,au _ _ h2]
  have IT:ax (ax s.h cZ .none) id (.box (cs.set off (.ow d))) d=.row e l':=(Gc d xe DW).trans hdb;have cF:=sim.od hC (L':=fun i=>L i\/i=d) (rho':=fun i=>if i=d then v' else rho i) (h':=ax (ax s.h cZ .none) id (.box (cs.set off (.ow d)))) (w':=w') (fun i=>i=id\/i=cZ\/i=d)
   ⟨hf.os,hf.tape,hf.output,hf.size,fun k hk tP=>hf.block k hk fun h=>tP (h.elim (fun e=>⟨id,.inl rfl,hL,tQ,.inl (by rw[hg,e];rfl)⟩) fun e=>⟨cZ,.inr (.inl rfl),Kp,w_,.inl (by rw[<-IS];exact e)⟩)⟩
   (fun i hi=>by
    by_cases e1:i=id
    ·subst e1;exact⟨by rw[hb];trivial,fun hl=>⟨.inl hl,af fun e=>xe e.symm⟩⟩
    by_cases e2:i=cZ
    ·subst e2;rw[xf]at hi;exact hi.elim
    rw[Gc i e1 e2]at hi;exact⟨hi,fun hl=>⟨.inl hl,af fun e=>M3 (by rw[<-e];exact hl)⟩⟩)
   (fun i QU hi=>by
    by_cases e1:i=id
    ·subst e1;rw[Gb]at hi;cases hi
    by_cases e2:i=cZ
    ·subst e2;rw[xf]at hi;cases hi
    rw[Gc i e1 e2]at hi;exact hi)
   (fun i hi=>⟨Gc i (fun e=>hi (.inl e)) fun e=>hi (.inr (.inl e)),fun h=>h.elim (fun h=>h) fun e=>absurd (.inr (.inr e)) hi,af fun e=>hi (.inr (.inr e))⟩)
   (fun i hi=>af (by omega))
   (fun T i hi hl=>by
    by_cases e1:i=id
    ·subst e1;rw[Gb];refine⟨g,ty,_,(af fun e=>xe e.symm).trans hg,hw,by simp[k3],fun j x u hx hu=>?_⟩;rcases ey hx with⟨rfl,rfl,_⟩ | ⟨hj,hx⟩
     ·rw[fg,qH rfl,qH (by omega)]at hu;injection hu with hu;subst hu;exact⟨N8,.ow d _ fun _=>⟨.inr rfl,(qH rfl).symm⟩⟩
     rw[fg,af fun e=>hj e.symm]at hu;exact⟨(k4 j x u hx hu).1,(k4 j x u hx hu).2.bA T⟩
    by_cases e2:i=cZ
    ·subst e2;rw[xf];trivial
    have e3:i=d:=(hi.resolve_left e1).resolve_left e2;subst e3;rw[IT];show an _ _ _ _ _ (if i=i then v' else rho i);rw[qH rfl];exact kD)
   (fun i k hi hl li eY=>by
    by_cases e1:i=id
    ·subst e1;rw[Gb]at eY;have eY:=al rfl eY;simp only[af (Ne.symm xe),hg]at eY;injection eY with eY;subst eY;exact⟨bg p1 hf.size,.inr ⟨i,.inl rfl,hL,tQ,.inl (by rw[hg];rfl)⟩⟩
    by_cases e2:i=cZ
    ·subst e2;rw[xf]at li;exact li.elim
    have e3:i=d:=(hi.resolve_left e1).resolve_left e2;subst e3;rw[IT]at eY;have eY:=al rfl eY;simp only[qH]at eY;obtain⟨q1,q2,q3⟩:=dM k eY;exact⟨q1,q3.elim (fun h=>.inr ⟨cZ,.inr (.inl rfl),Kp,w_,.inl (by rw[<-IS];exact h)⟩) .inl⟩)
   (fun i j k hi hj Sw Lp li lj cK dW=>by
    have own:∀i,(i=id\/i=cZ\/i=d)->(ax (ax s.h cZ .none) id (.box (cs.set off (.ow d))) i).live->hasB w' (ax (ax s.h cZ .none) id (.box (cs.set off (.ow d))) i) (if i=d then v' else rho i) k->(i=id/\k=g)\/(i=d/\k≠g):=fun i hi li eY=>by
     by_cases e1:i=id
     ·subst e1;rw[Gb]at eY;have eY:=al rfl eY;simp only[af (Ne.symm xe),hg]at eY;injection eY with eY;exact .inl ⟨rfl,eY.symm⟩
     by_cases e2:i=cZ
     ·subst e2;rw[xf]at li;exact li.elim
     have e3:i=d:=(hi.resolve_left e1).resolve_left e2;subst e3;rw[IT]at eY;have eY:=al rfl eY;simp only[qH]at eY;exact .inr ⟨rfl,(dM k eY).2.1⟩
    rcases own i hi li cK with⟨a1,a2⟩ | ⟨a1,a2⟩<;>rcases own j hj lj dW with⟨b1,b2⟩ | ⟨b1,b2⟩
    ·rw[a1,b1]
    ·exact absurd a2 b2
    ·exact absurd b2 a2
    rw[a1,b1])
  refine hnext _ _ _ S (fun i=>if i=d then v' else rho i) _ w' hk ?_;rw[N7];exact cF.value o.dst hd _ _ (.p _ _ (gk dY hres))
 ·rename_i id i off;split at hq
  case h_2=>exact hq.elim
  rename_i e' es hb;obtain⟨q,xg,hq⟩:=hq;split at hq
  case h_2=>exact hq.elim
  rename_i e l tv;obtain⟨r,l',dX,dY,Ko,hk⟩:=hq;obtain⟨hL,g,n,cp,tj,eZ,pf,rfl⟩:=r0.lZ hb;have hh:=sim.hp id hL;rw[hb]at hh;obtain⟨hR,hS⟩:=hh;rw[eZ]at hR hS;obtain⟨cur,mJ,hsz,hlen,hpos⟩:=hR.block pf;have HF:=ah tv;have Fw:=hlen q (aj xg);obtain⟨v,hv,o1,ai⟩:=hR.cell pf i q off _ xg tv;have ai:an A.C.P w (ay S w) e l v:=ai;have MY:cur[i*tj.size+off]?=some v:=by rw[cell_of_row w g _ cur e' (0,0) mJ]at hv;exact hv
  have tQ:(s.h id).live:=by rw[hb];trivial
  have Kq:bI w es g i off v:=⟨q,e,l,cur,_,_,xg,tv,mJ,by rw[Fw];exact MY⟩;obtain⟨p1,p2,p3⟩:=sim.mO id g hL tQ (by rw[eZ];rfl);have IU:bH (rho id)=some g:=by rw[eZ];rfl
  have inner:∀a j u k,bI w es g a j u->bH u=some k->hasB w (s.h id) (rho id) k:=fun a j u k h1 h2=>by rw[hb];exact bN.2 (.inr ⟨g,a,j,u,IU,h1,h2⟩)
  have rb:∀k,bH v=some k->¬S k/\k≠g/\k<w.heap.size:=fun k hk=>by
   obtain⟨q1,q2,q3⟩:=sim.lv id k hL tQ (inner _ _ _ _ Kq hk);exact⟨q2,hS.top g i off v k rfl Kq hk,q1⟩
  have key:=dX.2 S w us g (i*tj.size+off) cur e' v sim.ev sim.st (by omega) hargs mJ MY ai p2 rb;rw[<-IP]at key;refine gM (hrun dX.1) key fun e2 w' fM=>?_;obtain⟨u,v',S',rfl,hf,hres,hw,kD,dM⟩:=fM;refine⟨u,rfl,?_⟩;have kD:an A.C.P w' (ay S w') e l' v':=rR kD Ko;have N8:v'.oneCell'=true:=by
   obtain⟨_,_,_,_,h3,_⟩:=kD;rcases h3.2 with⟨h4,_⟩ | ⟨_,_,_,h4,_⟩<;>rw[h4]<;>rfl
  have cc:∀a j u,bI w' (es.set i (q.set off (.row e l'))) g a j u->(a=i/\j=off/\u=v')\/(¬(a=i/\j=off)/\bI w es g a j u):=by
   rintro a j u ⟨r1,e1,IV,c1,N9,m1,h1,h2,h3,h4⟩;rw[hw]at h3;injection h3 with h3;injection h3 with h3 h3' NA;rcases ey h1 with⟨rfl,rfl,_⟩ | ⟨ha,h1⟩
   ·rw[cu,Fw,<-h3]at h4;rcases ey h2 with⟨rfl,_,_⟩ | ⟨hj,h2⟩
    ·rw[fg,qH rfl]at h4;split at h4
     ·injection h4 with h4;exact .inl ⟨rfl,rfl,h4.symm⟩
     cases h4
    rw[fg,af (by omega)]at h4;exact .inr ⟨fun h=>hj h.2,q,e1,IV,cur,_,_,xg,h2,mJ,by rw[Fw];exact h4⟩
   have kX:=ah h2;have nP:=hlen r1 (aj h1);rw[nP,<-h3]at h4;rw[fg,af]at h4
   ·exact .inr ⟨fun h=>ha h.1,r1,e1,IV,cur,_,_,h1,h2,mJ,by rw[nP];exact h4⟩
   intro he;rcases jV ha with h | h
   ·have:=bZ tj.size (uV h);rw[lV]at this;omega
   have:=bZ tj.size (uV h);rw[lV]at this;omega
  have apart:∀a j u k,¬(a=i/\j=off)->bI w es g a j u->bH u=some k->bH v'=some k->False:=fun a j u k hn h1 h2 h3=>by
   rcases (dM k h3).2.2 with h | h
   ·exact hn (hS.dis g a j i off u v k rfl h1 Kq h2 h)
   have:=(sim.lv id k hL tQ (inner _ _ _ _ h1 h2)).1;omega
  have cF:=sim.od hC (L':=L) (rho':=rho) (h':=ax s.h id (.ai e' (es.set i (q.set off (.row e l'))))) (w':=w') (fun i=>i=id)
   ⟨hf.os,hf.tape,hf.output,hf.size,fun k hk tP=>hf.block k hk fun h=>tP (h.elim (fun e=>⟨id,rfl,hL,tQ,.inl (by rw[IU,e])⟩) fun e=>⟨id,rfl,hL,tQ,inner _ _ _ _ Kq e⟩)⟩
   (fun j hj=>by
    by_cases e1:j=id
    ·subst e1;exact⟨by rw[hb];trivial,fun hl=>⟨hl,rfl⟩⟩
    rw[au _ _ e1]at hj;exact⟨hj,fun hl=>⟨hl,rfl⟩⟩)
   (fun j e1 hj=>by
    by_cases e2:j=id
    ·subst e2;rw[ak]at hj;rw[hb];exact hj
    rw[au _ _ e2]at hj;exact hj)
   (fun j hj=>⟨au _ _ hj,fun h=>h,rfl⟩) (fun _ _=>rfl)
   (fun T j hj hl=>by
    subst hj;rw[ak];show an _ _ _ _ _ (rho j)/\kU _ _ (rho j);rw[eZ];refine⟨hR.inner pf mJ xg HF N8 hw kD fun a r1 k y u h1 h2 hn h3 h4=>?_,fun g' a k u b h1 h2 h3=>?_,fun g' a k a' k' u u' b h1 h2 h3 h4 h5=>?_⟩
    ·cases y with
     | av y=>exact aE.bA T h4
     | row e1 IV=>
      have iQ:bI w es g a k u:=⟨r1,e1,IV,cur,_,_,h1,h2,mJ,by rw[hlen r1 (aj h1)];exact h3⟩;refine an.bA h4 (fun b o9=>hf.block b (sim.lv j b hL tQ (inner _ _ _ _ iQ o9)).1 fun h=>?_) (fun x u hu=>hu.mono T.hS T.keep);rcases h with h | h
      ·exact hS.top g a k u b rfl iQ o9 h
      exact hn (hS.dis g a k i off u v b rfl iQ Kq o9 h)
    ·obtain rfl:=ed.1 h1;rcases cc a k u h2 with⟨_,_,rfl⟩ | ⟨_,h2⟩
     ·exact (dM b h3).2.1
     exact hS.top _ a k u b rfl h2 h3
    obtain rfl:=ed.1 h1;rcases cc a k u h2 with⟨e1,e2,e3⟩ | ⟨hn,m2⟩<;>rcases cc a' k' u' h3 with⟨Re,Rf,Rg⟩ | ⟨wM,m3⟩
    ·exact⟨e1.trans Re.symm,e2.trans Rf.symm⟩
    ·rw[e3]at h4;exact (apart _ _ _ _ wM m3 h5 h4).elim
    ·rw[Rg]at h5;exact (apart _ _ _ _ hn m2 h4 h5).elim
    exact hS.dis _ a k a' k' u u' b rfl m2 m3 h4 h5)
   (fun j k hj hl lj iS=>by
    subst hj;rw[ak]at iS;rcases bN.1 iS with h | ⟨g',a,m,u,h1,h2,h3⟩
    ·rw[IU]at h;injection h with h;subst h;exact⟨bg p1 hf.size,.inr ⟨j,rfl,hL,tQ,.inl IU⟩⟩
    rw[IU]at h1;injection h1 with h1;subst h1;rcases cc a m u h2 with⟨_,_,rfl⟩ | ⟨_,h2⟩
    ·obtain⟨q1,q2,q3⟩:=dM k h3;exact⟨q1,q3.elim (fun h=>.inr ⟨j,rfl,hL,tQ,inner _ _ _ _ Kq h⟩) .inl⟩
    have:=inner _ _ _ _ h2 h3;exact⟨bg (sim.lv j k hL tQ this).1 hf.size,.inr ⟨j,rfl,hL,tQ,this⟩⟩)
   (fun i j k hi hj _ _ _ _ _ _=>by rw[hi,hj])
  exact hnext _ _ _ S rho _ w' hk (cF.value o.dst hd _ _ (.p _ _ (gk dY hres)))
 exact hq.elim
theorem yY(hC:aL A.C){o:Oper}{S:Nat->Prop}{a:Act}{w:World}{K:KK}{next:Act->World->Prop}(sim:aU A V L S rho s a w)(hd:∀d,o.dst=some d->d<A.n)
  (hn:∀v eff b,K v eff (some b)->¬L (o.dst.getD 0)/\s.h (o.dst.getD 0)=b)
  (hnext:∀v eff new S' rho' a' w',K v eff new->aU A (mG V o.dst) (nR L new (o.dst.getD 0)) S' rho' ⟨cU s.t o.dst v,app s.h eff⟩ a' w'->next a' w')
  (f:FuncId) (cT:List AV) (vs:Array Value) (hl:cT.length=vs.size)
  (hrep:∀(S2:Nat->Prop) (h2:Nat->AB),aU A V L S2 rho ⟨s.t,h2⟩ a w->∀(i:Nat) x v,cT[i]?=some x->vs.toList[i]?=some v->aE S2 w A.C.P L rho h2 x v)
  (hrun : (∃ fn : Func, A.C.P.funcs[f]? = some fn ∧ (fn.name == "runtime.NumGoroutine") = false ∧ fn.body.isNone = false) → (execOp a.eval o).run A.C.P w = .ok (.enter f vs) w) (hq : kV A.C s.h (o.dst.getD 0) f cT K) : o.wp A.C.P a w next Q := by
 unfold kV at hq;split at hq
 ·exact yX hC sim hd hn hnext f cT vs hl hrep hrun hq
 exact B0 hC sim hd hn hnext f cT vs hl hrep hrun hq
theorem B3(hC:aL A.C){o:Oper}{S:Nat->Prop}{a:Act}{w:World}{K:KK}{next:Act->World->Prop}(sim:aU A V L S rho s a w)(hd:∀d,o.dst=some d->d<A.n)
  (hn:∀v eff b,K v eff (some b)->¬L (o.dst.getD 0)/\s.h (o.dst.getD 0)=b)
  (hnext:∀v eff new S' rho' a' w',K v eff new->aU A (mG V o.dst) (nR L new (o.dst.getD 0)) S' rho' ⟨cU s.t o.dst v,app s.h eff⟩ a' w'->next a' w')
  (f:FuncId) (cT:List AV) (vs:Array Value) (hl:cT.length=vs.size)
  (hrep:∀(S2:Nat->Prop) (h2:Nat->AB),aU A V L S2 rho ⟨s.t,h2⟩ a w->∀(i:Nat) x v,cT[i]?=some x->vs.toList[i]?=some v->aE S2 w A.C.P L rho h2 x v)
  (hrun : (∃ fn : Func, A.C.P.funcs[f]? = some fn ∧ (fn.name == "runtime.NumGoroutine") = false ∧ fn.body.isNone = false) → (execOp a.eval o).run A.C.P w = .ok (.enter f vs) w) (hq : p8 A.C s.h (o.dst.getD 0) f cT K) : o.wp A.C.P a w next Q := by
 unfold p8 at hq;split at hq
 ·exact yY hC sim hd hn hnext f cT vs hl hrep hrun hq
 exact Vk hC sim hd hn hnext f cT vs hl hrep hrun hq
theorem j9 {P : Program} {w : World} {f : FuncId} {vs : Array Value} (h : ∃ fn : Func, P.funcs[f]? = some fn ∧ (fn.name == "runtime.NumGoroutine") = false ∧ fn.body.isNone = false) : (callFunc f vs).run P w = .ok (.enter f vs) w := by
 obtain⟨fn,h1,h2,h3⟩:=h
 have nG : ¬ fn.name = "runtime.NumGoroutine" := by simpa using h2
 cases hb:fn.body with
 | none=>rw[hb]at h3;cases h3
 | some b=>simp[callFunc,Sem.run,program,h1,nG,hb]
theorem xh{a:Array α}(h:isNil a.toList=true):a=#[]:=by
 obtain⟨l⟩:=a;cases l with
 | nil=>rfl
 | cons y l=>cases h
theorem mQ{S:Nat->Prop}{w:World}{P:Program}{h:Nat->AB}{x:AV}{v:Value}{f:FuncId}{I:List AV}(D:rD x=some (f,I))(J:aE S w P L rho h x v):∃us:Array Value,v=.func (.func f) #[] us/\I.length=us.size/\∀(i:Nat) c u,I[i]?=some c->us[i]?=some u->aE S w P L rho h c u:=by
 cases x<;>simp only[rD]at D<;>try (cases D;done)
 ·rename_i y;have J:=J.cb;cases y<;>simp only[Ar]at D<;>try (cases D;done)
  ·rename_i z;obtain rfl:=J.bc;unfold Aq at D;split at D
   ·rename_i fn first O
    split at D
    ·rename_i N;simp only[fH]at N;have U:=xh N.1;have Y:=xh N.2;subst U Y;cases fn<;>simp only[Ap]at D<;>try (cases D;done)
     injection D with D;injection D with h1 h2;subst h1 h2;exact⟨#[],rfl,rfl,by simp⟩
    cases D
   cases D
  rename_i g O;injection D with D;injection D with h1 h2;subst h1 h2;cases J;rename_i us hl Z;refine⟨us,rfl,by simpa using hl,fun i c u D hu=>?_⟩;rw[ao]at D;obtain⟨z,hz,rfl⟩:=az.1 D;exact .p _ _ (Z i z u hz hu)
 injection D with D;injection D with h1 h2;subst h1 h2;cases J;exact⟨_,rfl,by assumption,by assumption⟩
theorem aU.loose{S:Nat->Prop}{a:Act}{w:World}(z:aU A V L S rho s a w)(hC:aL A.C)(w':World)(R:Nat->Prop)(D:Fr R w w')(U:∀k,R k->¬S k/\(∀i,L i->(s.h i).live->¬hasB w (s.h i) (rho i) k)/\(A.mv k\/A.w0.heap.size<=k)):aU A V L S rho s a w':=by
 have eE:∀b,S b->w'.heap[b]?=w.heap[b]?:=fun k I=>D.block k (z.st k I) (fun h=>(U k h).1 I);have T:fu S S w w' L L rho rho s.h s.h:=⟨fun b h=>h,eE,fun j J=>⟨J,fun hl=>⟨hl,rfl⟩⟩,fun j e' J=>J⟩;exact
 {tm:=fun j J=>(z.tm j J).bA T
  sz:=z.sz,df:=z.df,nb:=z.nb,pn:=z.pn
  ev:=hC.env _ _ _ _ z.ev (fun b h=>h) eE D.size
  s0:=z.s0
  st:=fun b hb=>bg (z.st b hb) D.size
  sb:=z.sb
  hp:=fun j J=>(z.hp j J).bA T (fun N g Y=>D.block g (z.lv j g J N Y).1 (fun h=>(U g h).2.1 j J N Y)) (fun _=>rfl)
  dj:=fun i j g O J N Z cK dW=>z.dj i j g O J N Z (b_ (fun k I=>D.block k (z.lv i k O N I).1 (fun h=>(U k h).2.1 i O N I)) cK) (b_ (fun k I=>D.block k (z.lv j k J Z I).1 (fun h=>(U k h).2.1 j J Z I)) dW)
  lv:=fun i g O N Y=>by obtain⟨h1,h2⟩:=z.lv i g O N (b_ (fun k I=>D.block k (z.lv i k O N I).1 (fun h=>(U k h).2.1 i O N I)) Y);exact⟨bg h1 D.size,h2⟩
  fr:=z.fr.next D.os D.tape D.output D.size fun k I hn=>D.block k (bg I z.fr.size) fun h=>by
   rcases (U k h).2.2 with h | h
   ·exact hn h
   omega }
theorem WS:∀{l:List AV} {as:List AV} {z:AV},lY l=some (as,z)->l=as++[z]
 | [],_,_,h=>by cases h
 | [x],_,_,h=>by cases h;rfl
 | x::y::r,as,z,h=>by
  rw[lY]at h;split at h
  ·rename_i l z' D;cases h;rw[WS D];rfl
  cases h
theorem Gd{h:Nat->AB}{d:Nat}:∀{fz:List (Nat×AB)},(∀p∈fz,p.1≠d)->app h fz d=h d:=by
 intro fz
 induction fz generalizing h with
 | nil=>intro _;rfl
 | cons p fz ih=>
  intro hp;obtain⟨i,b⟩:=p;show app (ax h i b) fz d=h d;rw[ih fun q z=>hp q (by simp[z]),au _ _ (fun e=>hp (i,b) (by simp) e.symm)]
theorem B4(hC:aL A.C){o:Oper}{S:Nat->Prop}{a:Act}{w:World}{K:KK}{next:Act->World->Prop}(sim:aU A V L S rho s a w)(hd:∀d,o.dst=some d->d<A.n)
  (hn:∀v eff b,K v eff (some b)->¬L (o.dst.getD 0)/\s.h (o.dst.getD 0)=b)
  (hnext:∀v eff new S' rho' a' w',K v eff new->aU A (mG V o.dst) (nR L new (o.dst.getD 0)) S' rho' ⟨cU s.t o.dst v,app s.h eff⟩ a' w'->next a' w')
  (f:FuncId) (cT:List AV) (vs:Array Value) (hl:cT.length=vs.size)
  (hrep:∀(S2:Nat->Prop) (h2:Nat->AB),aU A V L S2 rho ⟨s.t,h2⟩ a w->∀(i:Nat) x v,cT[i]?=some x->vs.toList[i]?=some v->aE S2 w A.C.P L rho h2 x v)
  (hrun : (∃ fn : Func, A.C.P.funcs[f]? = some fn ∧ (fn.name == "runtime.NumGoroutine") = false ∧ fn.body.isNone = false) → (execOp a.eval o).run A.C.P w = .ok (.enter f vs) w) (hq : p_ A.C s.h (o.dst.getD 0) f cT K) : o.wp A.C.P a w next Q := by
 unfold p_ at hq;split at hq
 case h_2=>exact hq.elim
 rename_i as id BC;have Ge:=WS BC;split at hq
 case h_2=>exact hq.elim
 rename_i ty c cZ aA;split at hq
 case h_2=>exact hq.elim
 rename_i AI;split at hq
 case h_2=>exact hq.elim
 rename_i e es ai;obtain⟨ws,vb,wV,F0⟩:∃ws vb,vs.toList=ws++[vb]/\as.length=ws.length:=by
  have bO:vs.toList≠[]:=fun e=>by
   have:vs.size=0:=by simpa using iX List.length e
   rw[Ge]at hl;simp at hl;omega
  refine⟨vs.toList.dropLast,vs.toList.getLast bO,(AF bO).symm,?_⟩;rw[Ge]at hl;simp at hl ⊢;omega
 have DX:=hrep S s.h sim as.length (.bx id 0) vb (by rw[Ge];simp) (by rw[wV,F0];simp);have N_:∀(i:Nat) c v,as[i]?=some c->ws[i]?=some v->aE S w A.C.P L rho s.h c v:=fun i c v h1 h2=>hrep S s.h sim i c v (by rw[Ge,ba (cL.1 h1).1];exact h1) (by rw[wV,ba (cL.1 h2).1];exact h2);obtain⟨eO,g0,eZ,Rh⟩:L id/\∃g,rho id=.pointer (some ⟨g,0,none⟩)/\vb=.pointer (some ⟨g,0,none⟩):=by
  cases DX with
  | bx _ _ _ hv=>exact hv (by rw[aA];trivial)
 obtain⟨xs,fz,S2,⟨r,ch,bW,dX,hq⟩,aJ,hpv,nX,hF,wU,hlen⟩:=tL (t:=s.t) hC as ws S s.h F0 sim (kM.refl _) N_ hq;split at hq
 case h_2=>exact hq.elim
 rename_i hok;simp only[fH,j8]at hok;obtain⟨dY,M4,xi,bO⟩:=hok;have bO:id≠cZ:=fun e=>by rw[e]at bO;simp at bO
 have DY:(app s.h fz) id=.eN ty [c,.ow cZ]:=by rw[iD M4,aA]
 have DZ:(app s.h fz) cZ=.row e es:=by rw[iD xi,ai]
 have M5:=aJ.hp id eO;have M5:cd S2 w A.C.P L rho (app s.h fz) id (app s.h fz id):=M5;rw[DY]at M5;obtain⟨g,cells,k1,k2,k3,k4⟩:=M5;rw[eZ]at k1;obtain rfl:g0=g:=by injection k1 with k1;injection k1 with k1;injection k1
 obtain⟨u0,u1,dN⟩:∃u0 u1,cells=#[u0,u1]:=by
  obtain⟨cl⟩:=cells
  match cl,k3 with
  | [x,y],_=>exact⟨x,y,rfl⟩
 subst dN;obtain⟨o0,l0⟩:=k4 0 c u0 rfl rfl;obtain⟨o1,l1⟩:=k4 1 (.ow cZ) u1 rfl rfl;obtain⟨tR,Lq⟩:L cZ/\u1=rho cZ:=by
  cases l1 with
  | ow _ _ hv=>exact hv (by rw[DZ];trivial)
 have Ri:u0=.pointer none\/u0=.pointer (some ⟨g0,0,none⟩):=by
  unfold Hu at AI;split at AI
  ·cases l0 with
   | p _ _ hx=>cases hx;exact .inl rfl
  ·have hi:=bq AI;subst hi;cases l0 with
   | bx _ _ _ hv=>
    obtain⟨_,g',e1,e2⟩:=hv (by rw[DY];trivial);rw[eZ]at e1;injection e1 with e1;injection e1 with e1;injection e1 with e1;subst e1;exact .inr e2
  cases AI
 have Yv:=aJ.hp cZ tR;have Yv:cd S2 w A.C.P L rho (app s.h fz) cZ (app s.h fz cZ):=Yv;rw[DZ]at Yv;have Yv:an A.C.P w (ay S2 w) e es (rho cZ):=Yv;rw[<-Lq]at Yv;have yZ:(app s.h fz id).live:=by rw[DY];trivial
 have qW:(app s.h fz cZ).live:=by rw[DZ];trivial
 have y8:=aJ.mO id g0 eO yZ (by rw[eZ];rfl);have om:∀k,bH u1=some k->k<w.heap.size/\¬S2 k/\(A.mv k\/A.w0.heap.size<=k)/\k≠g0:=fun k hk=>by
  obtain⟨a1,a2,a3⟩:=aJ.mO cZ k tR qW (by rw[<-Lq];exact hk);refine⟨a1,a2,a3,fun e=>bO ?_⟩;subst e;exact aJ.KM id cZ k eO tR yZ qW (by rw[eZ];rfl) (by rw[<-Lq];exact hk)
 have IP:vs=(ws++[Value.pointer (some ⟨g0,0,none⟩)]).toArray:=by
  rw[<-Rh,<-wV]
 have key:=dX.2 S2 w ws g0 u0 u1 aJ.ev aJ.st hlen hpv k2 Ri Yv y8.2.1 (fun k hk=>⟨(om k hk).2.1,(om k hk).2.2.2,(om k hk).1⟩);rw[<-IP]at key;refine gM (hrun dX.1) key fun e' w' fM=>?_;obtain⟨v,rfl,hf,hr,fM⟩:=fM;refine⟨v,rfl,?_⟩;have hval:∀{L':Nat->Prop} {rho':Nat->Value} {h':Nat->AB},aE S2 w' A.C.P L' rho' h' (Ke (o.dst.getD 0) r) v:=by
  intro L' rho' h';cases r with
  | p x=>exact .p _ _ hr
  | own e es=>cases dY
  | hown cs=>cases dY
  | tu ys=>
   obtain⟨us,rfl,q1,q2⟩:=hr;refine .tu _ us (by simpa using q1) fun i c u hi hu=>?_;rw[ao]at hi;obtain⟨z,hz,rfl⟩:=az.1 hi;exact .p _ _ (q2 i z u hz hu)
 split at hq
 case h_2=>
  have cF:=(aJ.kill cZ).kill id;have tt:=cF.loose hC w' (fun k=>k=g0\/bH u1=some k) hf (fun k hk=>by
   have dead:∀i,(ax (ax (app s.h fz) cZ .none) id .none i).live->i≠id/\i≠cZ/\(app s.h fz i).live:=fun i li=>by
    rcases aD (ax (app s.h fz) cZ .none) id .none i with⟨rfl,h⟩ | ⟨h1,h⟩
    ·rw[h]at li;exact li.elim
    rw[h]at li;rcases aD (app s.h fz) cZ .none i with⟨rfl,h3⟩ | ⟨h2,h3⟩
    ·rw[h3]at li;exact li.elim
    rw[h3]at li;exact⟨h1,h2,li⟩
   have HH:∀i,(ax (ax (app s.h fz) cZ .none) id .none i).live->hasB w (ax (ax (app s.h fz) cZ .none) id .none i) (rho i) k->hasB w (app s.h fz i) (rho i) k:=fun i li hg=>cx (dead i li).2.1 (cx (dead i li).1 hg);rcases hk with rfl | hk
   ·exact⟨y8.2.1,fun i hi li cK=>(dead i li).1 (aJ.dj i id k hi eO (dead i li).2.2 yZ (HH i li cK) (.inl (by rw[eZ];rfl))),y8.2.2⟩
   exact⟨(om k hk).2.1,fun i hi li cK=>(dead i li).2.1 (aJ.dj i cZ k hi tR (dead i li).2.2 qW (HH i li cK) (.inl (by rw[<-Lq];exact hk))),(om k hk).2.2.1⟩)
  have e6:ax (ax (app s.h fz) cZ .none) id .none=app s.h (fz++[(cZ,.none),(id,.none)]):=by rw[bJ];rfl
  have tt:aU A V L S2 rho ⟨s.t,ax (ax (app s.h fz) cZ .none) id .none⟩ a w':=tt;rw[e6]at tt;exact hnext _ _ _ S2 rho _ w' hq (tt.value o.dst hd _ _ hval)
 rename_i bW;obtain⟨u1',Lr,kD,BJ⟩:=fM;obtain⟨hL,hb⟩:=hn _ _ _ hq;have xe:o.dst.getD 0≠id:=fun e=>hL (e▸eO);have DW:o.dst.getD 0≠cZ:=fun e=>hL (e▸tR);have Rj:g0<w'.heap.size:=bg y8.1 hf.size;obtain⟨w1,FB⟩:∃w1:World,w1={ w' with heap:=w'.heap.setIfInBounds g0 (.cells #[u0,u1] ty (0,0)) }:=⟨_,rfl⟩;have Rk:w1.heap[g0]?=some (.cells #[u0,u1] ty (0,0)):=by rw[FB];simp[Rj]
 have M6:∀k,k≠g0->w1.heap[k]?=w'.heap[k]?:=fun k hk=>by rw[FB];simp[fg,hk.symm]
 have Oa:w1.heap.size=w'.heap.size:=by rw[FB];simp
 have Rl:∀k,bH u1'=some k->k≠g0:=fun k hk=>by
  rcases (BJ k hk).2 with h | h
  ·exact (om k h).2.2.2
  have:=y8.1;omega
 have cF:=aJ.kill cZ;have tt:=cF.new hC (o.dst.getD 0) (.row e bW) (aJ.gT hd) hL (by
   show ax (app s.h fz) cZ .none (o.dst.getD 0)=_;rw[au _ _ DW,Gd fun p hp e=>hL (by rw[<-e];exact wU p hp),hb]) w1 (by rw[FB];exact hf.os) (by rw[FB];exact hf.tape) (by rw[FB];exact hf.output) (by rw[Oa];exact hf.size) (fun k=>bH u1=some k)
  (fun k hk K7=>by
   by_cases e:k=g0
   ·subst e;rw[Rk,k2]
   rw[M6 k e];exact hf.block k hk (fun h=>h.elim e K7))
  (fun k hk=>by
   refine⟨(om k hk).2.1,fun i hi li cK=>?_,(om k hk).2.2.1⟩;have fE:(ax (app s.h fz) cZ .none i).live:=li;rcases aD (app s.h fz) cZ .none i with⟨rfl,h⟩ | ⟨Ls,h⟩
   ·rw[h]at fE;exact fE.elim
   rw[h]at fE;exact Ls (aJ.dj i cZ k hi tR fE qW (cx Ls cK) (.inl (by rw[<-Lq];exact hk))))
  u1' (fun k hk=>by rw[Oa];exact⟨(BJ k hk).1,(BJ k hk).2.symm⟩)
  (fun T=>by
   show an A.C.P w1 (ay S2 w1) e bW (ax rho (o.dst.getD 0) u1' (o.dst.getD 0));rw[ak];exact kD.bA (fun k hk=>M6 k (Rl k hk)) (fun x u hx=>hx.mono (fun _ h=>h) fun k hk=>M6 k fun e=>y8.2.1 (e▸hk)))
 have Ob:(ax (app s.h fz) cZ .none) id=.eN ty [c,.ow cZ]:=by rw[au _ _ bO,DY]
 have IW:ax rho (o.dst.getD 0) u1' id=.pointer (some ⟨g0,0,none⟩):=by rw[au _ _ xe.symm,eZ]
 have xj:=tt.write hC id (.inl eO) (by show ((ax (app s.h fz) cZ .none) id).live;rw[Ob];trivial) (.eN ty [p9 ch id c,.ow (o.dst.getD 0)]) (fun _ h=>by cases h) w' (by rw[FB]) (by rw[FB]) (by rw[FB]) Oa.symm
  (fun k hk=>(M6 k fun e=>hk (by rw[IW,e];rfl)).symm)
  (fun T=>by
   refine⟨g0,_,IW,Lr,rfl,fun j x u hj hu=>?_⟩
   match j,hj,hu with
   | 0,hj,hu=>
    cases hj;cases ch with
    | true=>
     cases hu;exact⟨rfl,.bx id 0 _ fun _=>⟨.inl eO,g0,IW,rfl⟩⟩
    | false=>
     cases hu;exact⟨o0,(l0.bA (S':=S2) (w':=w') (L':=fun i=>L i\/i=o.dst.getD 0) (rho':=ax rho (o.dst.getD 0) u1') (h':=ax (ax (app s.h fz) cZ .none) id (.eN ty [p9 false id c,.ow (o.dst.getD 0)])) ⟨fun _ h=>h,fun k hk=>hf.block k (aJ.st k hk) (fun h=>h.elim (fun e=>y8.2.1 (e▸hk)) (fun h=>(om k h).2.1 hk)),fun j hj=>by
       rcases aD (ax (app s.h fz) cZ .none) id (.eN ty [p9 false id c,.ow (o.dst.getD 0)]) j with⟨rfl,h⟩ | ⟨M7,h⟩
       ·exact⟨by rw[DY];trivial,fun hl=>⟨.inl hl,au _ _ xe.symm⟩⟩
       ·rw[h]at hj;rcases aD (app s.h fz) cZ .none j with⟨rfl,h3⟩ | ⟨wR,h3⟩
        ·rw[h3]at hj;exact hj.elim
        rw[h3]at hj;exact⟨hj,fun hl=>⟨.inl hl,au _ _ fun e=>hL (e▸hl)⟩⟩,fun j e2 hj=>by
       rcases aD (ax (app s.h fz) cZ .none) id (.eN ty [p9 false id c,.ow (o.dst.getD 0)]) j with⟨rfl,h⟩ | ⟨M7,h⟩
       ·rw[h]at hj;cases hj
       rw[h]at hj;rcases aD (app s.h fz) cZ .none j with⟨rfl,h3⟩ | ⟨wR,h3⟩
       ·rw[h3]at hj;cases hj
       rw[h3]at hj;exact hj⟩)⟩
   | 1,hj,hu=>
    cases hj;cases hu;obtain⟨i0,Sx,Fy,_,hown,_⟩:=kD;refine⟨?_,.ow _ _ fun _=>⟨.inr rfl,(ak _ _ _).symm⟩⟩;obtain⟨a0,c0,IJ⟩:=bP hown;rw[IJ];rfl
   | n+2,hj,hu=>cases hj)
 have e6:ax (ax (app s.h fz) cZ .none) id (.eN ty [p9 ch id c,.ow (o.dst.getD 0)])=app s.h (fz++[(cZ,.none),(id,.eN ty [p9 ch id c,.ow (o.dst.getD 0)])]):=by rw[bJ];rfl
 have xj:aU A V (fun i=>L i\/i=o.dst.getD 0) S2 (ax rho (o.dst.getD 0) u1') ⟨s.t,ax (ax (app s.h fz) cZ .none) id (.eN ty [p9 ch id c,.ow (o.dst.getD 0)])⟩ a w':=xj;rw[e6]at xj;exact hnext _ _ _ S2 (ax rho (o.dst.getD 0) u1') _ w' hq (xj.value o.dst hd _ _ hval)
theorem Gf{o:Oper}(c:Call)(g:Operand)(aq:o.op=.call c)(hc:c.callee=.value g):eD A o:=by
 intro V L S rho s a w K next Q hC sim hV hd hq hn hnext
 obtain⟨callee,args,argTypes⟩:=c;simp only at hc;subst hc;simp only[aZ,aq,Ta]at hq;have hg:=aH sim g fun j hj=>hV j (by simp[aq,Op.operands,Call.operands,hj]);have hargs:∀(S2:Nat->Prop) (h2:Nat->AB),aU A V L S2 rho ⟨s.t,h2⟩ a w->∀x∈args.toList,aE S2 w A.C.P L rho h2 (ev s.t x) (a.eval x):=fun S2 h2 aJ x hx=>aH aJ x fun j hj=>hV j (by simp[aq,Op.operands,Call.operands];rw[<-hj];exact .inr (nK.1 hx));have tq:∀(S2:Nat->Prop) (h2:Nat->AB),aU A V L S2 rho ⟨s.t,h2⟩ a w->∀(i:Nat) x v,(args.toList.map (ev s.t))[i]?=some x->(args.map a.eval).toList[i]?=some v->aE S2 w A.C.P L rho h2 x v:=by
  intro S2 h2 aJ i x v hx hv;rw[ao]at hx;obtain⟨y,hy,rfl⟩:=az.1 hx;rw[aW,ao,hy]at hv;simp at hv;rw[<-hv];exact hargs S2 h2 aJ y (aj hy)
 split at hq
 case h_2=>exact hq.elim
 rename_i f cap PR;obtain⟨us,he,hl,_⟩:=mQ PR hg
 have AJ : (∀ (S2 : Nat → Prop) (h2 : Nat → AB), aU A V L S2 rho ⟨s.t, h2⟩ a w → ∀ (i : Nat) x v, (args.toList.map (ev s.t) ++ cap)[i]? = some x → (args.map a.eval ++ us).toList[i]? = some v → aE S2 w A.C.P L rho h2 x v) ∧ ((∃ fn : Func, A.C.P.funcs[f]? = some fn ∧ (fn.name == "runtime.NumGoroutine") = false ∧ fn.body.isNone = false) → (execOp a.eval o).run A.C.P w = .ok (.enter f (args.map a.eval ++ us)) w) := by
  refine⟨fun S2 h2 aJ i x v hx hv=>?_,fun hfn=>?_⟩
  ·rw[vo]at hv;by_cases hi:i<args.size
   ·rw[ba (by simpa using hi)]at hx;rw[ba (by simpa using hi)]at hv;exact tq S2 h2 aJ i x v hx hv
   rw[bd (by simp;omega)]at hx;rw[bd (by simp;omega)]at hv;simp only[ct,cf,aW]at hx hv;have xd:=aH aJ g fun j hj=>hV j (by simp[aq,Op.operands,Call.operands,hj]);obtain⟨Sy,j6,_,jb⟩:=mQ PR xd;rw[he]at j6;injection j6 with _ _ j6;subst j6;exact jb _ x v hx (by simpa using hv)
  simp[execOp,aq,resolve,he,Deferred.ofValue,invoke,j9 hfn]
 split at hq
 ·exact B3 hC sim hd hn hnext f _ (args.map a.eval++us) (by simp[hl]) AJ.1 AJ.2 hq
 exact B4 hC sim hd hn hnext f _ (args.map a.eval++us) (by simp[hl]) AJ.1 AJ.2 hq
end Go.AM
namespace Go.AM
open Go.RowKit
def Ext(h h':Nat->AB):Prop:=∀id,h id=.none\/h' id=h id
variable {h':Nat->AB} {id:Nat} {e:TypeId}
theorem Ext.row{h:Nat->AB}(H:Ext h h'){es:List (List PV)}(z:h id=.row e es):h' id=.row e es:=by
 rcases H id with D | D
 ·rw[D]at z;cases z
 rw[D,z]
theorem Ext.f_{h:Nat->AB}(H:Ext h h'){es:List (List PV)}(z:h id=.f_ es):h' id=.f_ es:=by
 rcases H id with D | D
 ·rw[D]at z;cases z
 rw[D,z]
theorem Ext.box{h:Nat->AB}(H:Ext h h'){cs:List AV}(z:h id=.box cs):h' id=.box cs:=by
 rcases H id with D | D
 ·rw[D]at z;cases z
 rw[D,z]
theorem Ext.aA{h:Nat->AB}(H:Ext h h'){cs:List HC}(z:h id=.aA cs):h' id=.aA cs:=by
 rcases H id with D | D
 ·rw[D]at z;cases z
 rw[D,z]
theorem Ext.eN{h:Nat->AB}(H:Ext h h'){I:TypeId}{cs:List AV}(z:h id=.eN I cs):h' id=.eN I cs:=by
 rcases H id with D | D
 ·rw[D]at z;cases z
 rw[D,z]
theorem Ext.jt{h:Nat->AB}(H:Ext h h'){cs:List PV}(z:h id=.jt cs):h' id=.jt cs:=by
 rcases H id with D | D
 ·rw[D]at z;cases z
 rw[D,z]
theorem Ext.map{h:Nat->AB}(H:Ext h h'){mk:MK}{es:List (Value×PV)}(z:h id=.map mk es):h' id=.map mk es:=by
 rcases H id with D | D
 ·rw[D]at z;cases z
 rw[D,z]
theorem Ext.iter{h:Nat->AB}(H:Ext h h'){mk:MK}{es:List (Value×Value)}{k:Nat}{c:Option (Value×Value)}(z:h id=.iter mk es k c):h' id=.iter mk es k c:=by
 rcases H id with h | h
 ·rw[h]at z;cases z
 rw[h];exact z
theorem Ext.cell{h:Nat->AB}(H:Ext h h'){D:Array Value}{I:TypeId}{a:AV}(J:h id=.cell D I a):h' id=.cell D I a:=by
 rcases H id with z | z
 ·rw[J]at z;cases z
 rw[z,J]
theorem Ext.ai{h:Nat->AB}(H:Ext h h'){es:List (List HX)}(z:h id=.ai e es):h' id=.ai e es:=by
 rcases H id with D | D
 ·rw[D]at z;cases z
 rw[D,z]
theorem B5{h:Nat->AB}(H:Ext h h'){a:AV}{n:Nat}(z:hlen h a=some n):hlen h' a=some n:=by
 unfold hlen at z ⊢;split at z
 ·rename_i id;split at z
  ·rename_i e es D;rw[H.ai D];exact z
  cases z
 ·rename_i id lo hi;split at z
  ·rename_i e es D;rw[H.row D];exact z
  cases z
 cases z
theorem y9{h:Nat->AB}(H:Ext h h'){a:AV}{ys:List (List HX)}(z:nd h e a=some ys):nd h' e a=some ys:=by
 cases a with
 | ow id=>
  unfold nd at z ⊢;simp only at z ⊢;cases hr:h id with
  | ai e' es=>rw[hr]at z;rw[H.ai hr];exact z
  | _=>rw[hr]at z;cases z
 | _=>cases z
theorem xl{h:Nat->AB}(H:Ext h h'){a:AV}{K:List (List PV)->Prop}(z:dV h a K):nd h' e a=none:=by
 unfold dV at z;unfold nd;split at z
 ·rfl
 ·rfl
 ·rename_i id;simp only;split at z
  ·rename_i D;rw[H.row D]
  ·rename_i D;rw[H.f_ D]
  exact z.elim
 exact z.elim
theorem B6{h:Nat->AB}(H:Ext h h'){a:AV}{K:List (List PV)->Prop}(z:dV h a K):hlen h' a=none:=by
 unfold dV at z;unfold hlen;split at z
 ·rfl
 ·rfl
 ·rename_i id;simp only;split at z
  ·rename_i D;rw[H.row D]
  ·rename_i D;rw[H.f_ D]
  exact z.elim
 exact z.elim
theorem jC{h:Nat->AB}(H:Ext h h'){a:AV}(z:kL h a=true):kL h' a=true:=by
 cases a with
 | p x=>cases x<;>exact z
 | nl=>rfl
 | ow id=>
  unfold kL at z ⊢;simp only at z ⊢;split at z
  ·rename_i D;rw[H.row D]
  ·rename_i D;rw[H.ai D]
  ·rename_i D;rw[H.f_ D]
  ·rename_i D;rw[H.map D]
  cases z
 | bx id off=>
  unfold kL at z ⊢;simp only at z ⊢;split at z
  ·cases z
  rename_i J;rcases H id with I | I
  ·exact absurd I (by simpa using J)
  rw[I];split
  ·rename_i N;exact absurd N (by simpa using J)
  rfl
 | vw id lo hi=>
  unfold kL at z ⊢;simp only at z ⊢;split at z
  ·rename_i D;rw[H.row D]
  cases z
 | ifp t a=>exact z
 | rp id i off=>
  unfold kL at z ⊢;simp only at z ⊢;split at z
  ·rename_i D;rw[H.row D]
  ·rename_i D;rw[H.ai D]
  cases z
 | fn f cap=>rfl
 | tu xs=>exact z
 | st xs=>exact z
 | junk=>exact z
theorem XD{h:Nat->AB}(H:Ext h h'){n:Nat}{a:AV}{xs:List AV}(z:Wp h n a=some xs):Wp h' n a=some xs:=by
 unfold Wp at z ⊢;split at z
 ·exact z
 split at z
 ·rename_i D;simp only[fH]at D;simp only[D.1,jC H D.2,n_];exact z
 cases z
theorem tS{h:Nat->AB}(H:Ext h h'){a:AV}{K:PV->List (Nat×AB)->Prop}(z:iC h a K):∃x fz,K x fz/\∀D:PV->List (Nat×AB)->Prop,D x fz->iC h' a D:=by
 unfold iC at z;split at z
 ·exact⟨_,_,z,fun D h=>h⟩
 ·exact⟨_,_,z,fun D h=>h⟩
 ·split at z
  ·rename_i I;exact⟨_,_,z,fun D h=>by simp only[iC,H.row I];exact h⟩
  ·rename_i I;exact⟨_,_,z,fun D h=>by simp only[iC,H.f_ I];exact h⟩
  exact z.elim
 ·split at z
  ·rename_i I;split at z
   ·rename_i J;exact⟨_,_,z,fun D h=>by simp only[iC,H.box I,J];exact h⟩
   exact z.elim
  ·rename_i I;exact⟨_,_,z,fun D h=>by simp only[iC,H.jt I];exact h⟩
  exact z.elim
 exact z.elim
theorem tT{h:Nat->AB}(H:Ext h h'):∀{as:List AV} {K:List PV->List (Nat×AB)->Prop},pZ h as K->∃xs fz,K xs fz/\∀D:List PV->List (Nat×AB)->Prop,D xs fz->pZ h' as D:=by
 intro as
 induction as with
 | nil=>intro K z;exact⟨_,_,z,fun D h=>h⟩
 | cons a as ih=>
  intro K z;unfold pZ at z;obtain⟨x,fz,z,I⟩:=tS H z;obtain⟨xs,jr,z,J⟩:=ih z;refine⟨_,_,z,fun D h=>?_⟩;unfold pZ;exact I _ (J _ h)
theorem e9{h:Nat->AB}(H:Ext h h'){a:AV}{K:PV->List (Nat×AB)->Prop}(z:g_ h a K):∃x fz,K x fz/\∀D:PV->List (Nat×AB)->Prop,D x fz->g_ h' a D:=by
 unfold g_ at z;split at z
 ·obtain⟨xs,fz,z,I⟩:=tT H z;exact⟨_,_,z,fun D h=>I _ h⟩
 rename_i J;obtain⟨x,fz,z,I⟩:=tS H z;refine⟨x,fz,z,fun D h=>?_⟩;unfold g_;split
 ·exact absurd rfl (J _ _)
 exact I _ h
theorem rS{h:Nat->AB}(H:Ext h h'){a:AV}{K:List (List PV)->Prop}(z:dV h a K):∃es,K es/\∀D:List (List PV)->Prop,D es->dV h' a D:=by
 unfold dV at z;split at z
 ·exact⟨_,z,fun D h=>h⟩
 ·exact⟨_,z,fun D h=>h⟩
 ·split at z
  ·rename_i I;exact⟨_,z,fun D h=>by simp only[dV,H.row I];exact h⟩
  ·rename_i I;exact⟨_,z,fun D h=>by simp only[dV,H.f_ I];exact h⟩
  exact z.elim
 exact z.elim
variable {rho:Operand->AV}
theorem B7{h:Nat->AB}(H:Ext h h'){J:List (Nat×Nat×Bool)}:∀{ps:List (Nat×Operand)} {cs:List PV} {K:List PV->List (Nat×AB)->Prop},gd h J rho ps cs K->∃x fz,K x fz/\∀I:List PV->List (Nat×AB)->Prop,I x fz->gd h' J rho ps cs I:=by
 intro ps
 induction ps with
 | nil=>intro cs K D;exact⟨_,_,D,fun I h=>h⟩
 | cons p ps ih=>
  intro cs K D;obtain⟨i,x⟩:=p;unfold gd at D;split at D
  ·rename_i N;obtain⟨y,fz,D,O⟩:=e9 H D;split at D
   ·rename_i ys U;split at D
    ·rename_i Y;obtain⟨z,Z,D,vt⟩:=ih D;refine⟨z,fz++Z,D,fun I h=>?_⟩;simp only[gd,N];refine O _ ?_;simp only[U,Y];exact vt _ h
    exact D.elim
   exact D.elim
  exact D.elim
theorem tU{h:Nat->AB}(H:Ext h h'){Y:List (Nat×Nat×Bool)}:∀{ps:List (Nat×Operand)} {cs:List AV} {K:List AV->Prop},gf h Y rho ps cs K->∃z,K z/\∀I:List AV->Prop,I z->gf h' Y rho ps cs I:=by
 intro ps
 induction ps with
 | nil=>intro cs K D;exact⟨cs,D,fun I h=>h⟩
 | cons p ps ih=>
  intro cs K D;obtain⟨i,x⟩:=p;unfold gf at D;split at D
  ·rename_i Z;split at D
   ·rename_i ys h0;split at D
    case h_2=>exact D.elim
    rename_i J;obtain⟨z,N,O⟩:=ih D;refine⟨z,N,fun I U=>?_⟩;unfold gf;simp only[Z,h0,J];exact O I U
   rename_i h0;split at D
   ·rename_i J;obtain⟨z,N,O⟩:=ih D;refine⟨z,N,fun I U=>?_⟩;unfold gf;simp only[fH]at J;simp only[Z,h0,J.1.1,J.1.2,jC H J.2,n_];exact O I U
   exact D.elim
  exact D.elim
theorem B8{h:Nat->AB}(H:Ext h h'){b:Bool}{a:AV}{K:PV->List (Nat×AB)->Prop}(D:qa b h a K):∃x fz,K x fz/\∀z:PV->List (Nat×AB)->Prop,z x fz->qa b h' a z:=by
 unfold qa at D;split at D
 ·exact⟨_,_,D,fun z h=>h⟩
 rename_i I;obtain⟨x,fz,J,N⟩:=e9 H D;refine⟨x,fz,J,fun z h=>?_⟩;unfold qa;split
 ·exact (I rfl rfl).elim
 exact N z h
theorem rT{h:Nat->AB}(H:Ext h h'){b:Bool}{size:Nat}:∀{ps:List (Nat×Operand)} {cs:List (List PV)} {K:List (List PV)->List (Nat×AB)->Prop},eC b h size rho ps cs K->∃x fz,K x fz/\∀I:List (List PV)->List (Nat×AB)->Prop,I x fz->eC b h' size rho ps cs I:=by
 intro ps
 induction ps with
 | nil=>intro cs K D;exact⟨_,_,D,fun I h=>h⟩
 | cons p ps ih=>
  intro cs K D;obtain⟨i,x⟩:=p;unfold eC at D;obtain⟨y,fz,D,J⟩:=B8 H D;split at D
  ·rename_i ys N;split at D
   ·rename_i O;obtain⟨z,U,D,Y⟩:=ih D;refine⟨z,fz++U,D,fun I h=>?_⟩;simp only[eC];refine J _ ?_;simp only[N,O];exact Y _ h
   exact D.elim
  exact D.elim
theorem B9{h:Nat->AB}(H:Ext h h'){md:Nat->Bool}:∀{as:List AV} {j:Nat} {K:List Arg->List (Nat×AB)->List (Nat×AB)->Prop},eB md h j as K->∃xs ids fz,K xs ids fz/\∀I:List Arg->List (Nat×AB)->List (Nat×AB)->Prop,I xs ids fz->eB md h' j as I:=by
 intro as
 induction as with
 | nil=>intro j K z;exact⟨_,_,_,z,fun I h=>h⟩
 | cons a as ih=>
  intro j K z;unfold eB at z;split at z
  ·rename_i N;obtain⟨y,fz,z,U⟩:=e9 H z;obtain⟨xs,ids,O,z,D⟩:=ih z;refine⟨_,_,_,z,fun I h=>?_⟩;simp only[eB,N];exact U _ (D _ h)
  rename_i N;split at z
  ·split at z
   ·rename_i J;obtain⟨xs,ids,O,z,D⟩:=ih z;refine⟨_,_,_,z,fun I h=>?_⟩;simp only[eB,N,H.row J];exact D _ h
   ·rename_i J;obtain⟨xs,ids,O,z,D⟩:=ih z;refine⟨_,_,_,z,fun I h=>?_⟩;simp only[eB,N,H.f_ J];exact D _ h
   ·rename_i J;obtain⟨xs,ids,O,z,D⟩:=ih z;refine⟨_,_,_,z,fun I h=>?_⟩;simp only[eB,N,H.map J];exact D _ h
   exact z.elim
  ·obtain⟨xs,ids,O,z,D⟩:=ih z;refine⟨_,_,_,z,fun I h=>?_⟩;simp only[eB,N];exact D _ h
  ·split at z
   ·rename_i J;split at z
    ·rename_i Y;obtain⟨xs,ids,O,z,D⟩:=ih z;refine⟨_,_,_,z,fun I h=>?_⟩;simp only[eB,N,H.box J,Y];exact D _ h
    exact z.elim
   ·rename_i J;obtain⟨xs,ids,O,z,D⟩:=ih z;refine⟨_,_,_,z,fun I h=>?_⟩;simp only[eB,N,H.aA J];exact D _ h
   exact z.elim
  exact z.elim
variable {d:Nat} {as:List AV}
theorem y_{C:Ctx}{h:Nat->AB}(H:Ext h h'){f:FuncId}{K:KK}(z:jY C h d f as K):∃v e n,K v e n/\∀D:KK,D v e n->jY C h' d f as D:=by
 unfold jY at z;obtain⟨xs,ids,fz,⟨r,fin,J,z⟩,N⟩:=B9 H z;split at z
 ·rename_i O;split at z
  ·rename_i U;split at z
   ·rename_i I;refine⟨_,_,_,z,fun D h=>?_⟩;unfold jY;refine N _ ⟨r,fin,J,?_⟩;simp only[O,U,I];exact h
   rename_i I;refine⟨_,_,_,z,fun D h=>?_⟩;unfold jY;refine N _ ⟨r,fin,J,?_⟩;simp only[O,U,I];exact h
  exact z.elim
 exact z.elim
theorem ju.ext{h:Nat->AB}(H:Ext h h'){a:AV}{x:PV}(z:ju h a x):ju h' a x:=by
 cases z with
 | p=>exact .p _
 | nl=>exact .nl
 | row id e es hr=>exact .row id e es (H.row hr)
 | f_ id es hr=>exact .f_ id es (H.f_ hr)
 | ai id e es ps hr hp=>exact .ai id e es ps (H.ai hr) hp
theorem jZ.ext{h:Nat->AB}(H:Ext h h'){xs:List PV}(z:jZ h as xs):jZ h' as xs:=by
 induction z with
 | nil=>exact .nil
 | cons h1 _ ih=>exact .cons (h1.ext H) ih
theorem View.ext{h:Nat->AB}(H:Ext h h'){a:AV}{x:PV}(z:View h a x):View h' a x:=by
 cases z with
 | one h1=>exact .one (h1.ext H)
 | box id off cs xs hb hx=>exact .box id off cs xs (H.box hb) (hx.ext H)
 | jt id off xs hb=>exact .jt id off xs (H.jt hb)
theorem nM.ext{h:Nat->AB}(H:Ext h h'){xs:List PV}(z:nM h as xs):nM h' as xs:=by
 induction z with
 | nil=>exact .nil
 | cons h1 _ ih=>exact .cons (h1.ext H) ih
theorem za{h:Nat->AB}(H:Ext h h'):∀{as:List AV},td (cY h) as=true->td (cY h') as=true:=by
 intro as
 induction as with
 | nil=>intro h;cases h
 | cons a as ih=>
  intro D;unfold td at D ⊢;split at D
  ·rename_i z;have:cY h' a=true:=by
    unfold cY at z ⊢;split at z
    ·split at z
     ·rename_i hb;simp only[H.box hb];exact z
     cases z
    ·split at z
     ·rename_i hb;simp only[H.ai hb]
     cases z
    cases z
   rw[this]
  cases cY h' a with
  | true=>rfl
  | false=>exact ih D
theorem B_{h:Nat->AB}(H:Ext h h'){a:AV}{K:PV->List (Nat×AB)->Prop}(I:cY h a=false)(D:g_ h a K):cY h' a=false:=by
 cases a with
 | ow id=>
  simp only[g_,iC]at D;simp only[cY]at I ⊢;split at D
  ·rename_i z;rw[H.row z]
  ·rename_i z;rw[H.f_ z]
  exact D.elim
 | bx id off=>
  simp only[g_,iC]at D;simp only[cY]at I ⊢;split at D
  ·rename_i z;rw[z]at I;rw[H.box z];exact I
  ·rename_i z;rw[H.jt z]
  exact D.elim
 | _=>rfl
theorem zc{h:Nat->AB}(H:Ext h h'){md:Nat->Bool}:∀{as:List AV} {j:Nat} {K:List Arg->List (Nat×AB)->List (Nat×AB)->Prop},eB md h j as K->td (cY h) as=false->td (cY h') as=false:=by
 intro as
 induction as with
 | nil=>intro _ _ _ _;rfl
 | cons a as ih=>
  intro j K z I;unfold td at I ⊢;split at I
  ·cases I
  rename_i J;have:cY h' a=false/\∃(j:Nat) (K:List Arg->List (Nat×AB)->List (Nat×AB)->Prop),eB md h j as K:=by
   unfold eB at z;split at z
   ·obtain⟨x,fz,N,_⟩:=e9 (fun _=>.inr rfl) z;exact⟨B_ H J z,_,_,N⟩
   split at z
   ·rename_i id;split at z
    ·rename_i D;exact⟨by simp only[cY];rw[H.row D],_,_,z⟩
    ·rename_i D;exact⟨by simp only[cY];rw[H.f_ D],_,_,z⟩
    ·rename_i D;exact⟨by simp only[cY];rw[H.map D],_,_,z⟩
    exact z.elim
   ·exact⟨rfl,_,_,z⟩
   ·rename_i id;split at z
    ·rename_i D;split at z
     ·refine⟨?_,_,_,z⟩;simp only[cY]at J ⊢;rw[D]at J;rw[H.box D];exact J
     exact z.elim
    ·rename_i D;exact⟨by simp only[cY];rw[H.aA D],_,_,z⟩
    exact z.elim
   exact z.elim
  obtain⟨O,j',K',U⟩:=this;rw[O];exact ih U I
theorem zf{h:Nat->AB}(H:Ext h h'){c:AV}(z:pe h c=true):pe h' c=true:=by
 unfold pe at z ⊢;split at z
 ·rfl
 ·rfl
 ·split at z
  ·rename_i D;rw[H.row D]
  cases z
 ·rfl
 cases z
theorem Ca{C:Ctx}{h:Nat->AB}(H:Ext h h'){f:FuncId}{K:KK}(z:rB C h f as K):∃v e n,K v e n/\∀D:KK,D v e n->rB C h' f as D:=by
 unfold rB at z;split at z
 ·split at z
  ·rename_i hb I;obtain⟨x,J,N,O,U,Y,Z⟩:=z;refine⟨_,_,_,Z,fun D hk=>?_⟩;unfold rB;simp only[H.box hb,H.row I];exact⟨x,J,N,fun c hc=>zf H (O c hc),U,Y,hk⟩
  exact z.elim
 exact z.elim
theorem zg{C:Ctx}{h:Nat->AB}(H:Ext h h'){f:FuncId}{K:KK}(z:Tt C h d f as K):∃v e n,K v e n/\∀D:KK,D v e n->Tt C h' d f as D:=by
 unfold Tt at z;split at z
 ·rename_i U;have O:td (cY h') as=false:=zc H (by unfold jY at z;exact z) U;obtain⟨v,e,n,I,J⟩:=y_ H z;exact⟨v,e,n,I,fun D N=>by unfold Tt;rw[O];exact J D N⟩
 rename_i U;have O:=za H U;split at z
 ·rename_i Y;obtain⟨xs,r,I,J,Z,h4⟩:=z;exact⟨_,_,_,h4,fun D N=>by unfold Tt;rw[O,Y];exact⟨xs,r,I.ext H,J,Z,N⟩⟩
 rename_i Y;obtain⟨v,e,n,I,J⟩:=Ca H z;exact⟨v,e,n,I,fun D N=>by unfold Tt;rw[O,Y];exact J D N⟩
theorem Cb{C:Ctx}{h:Nat->AB}(H:Ext h h'){f:FuncId}{K:KK}(z:rC C h f as K):∃v e n,K v e n/\∀D:KK,D v e n->rC C h' f as D:=by
 unfold rC at z;split at z
 ·split at z
  ·rename_i hb I;split at z
   ·rename_i ys J;obtain⟨N,O,r,U,Y,Z,h5⟩:=z;refine⟨_,_,_,h5,fun D hk=>?_⟩;unfold rC;simp only[hb,H.box I,J];exact⟨N,O,r,U,Y,Z,hk⟩
   exact z.elim
  exact z.elim
 exact z.elim
theorem zh{C:Ctx}{h:Nat->AB}(H:Ext h h'){f:FuncId}{K:KK}(D:kV C h d f as K):∃v e n,K v e n/\∀z:KK,z v e n->kV C h' d f as z:=by
 unfold kV at D;split at D
 ·rename_i I;obtain⟨v,e,n,J,N⟩:=zg H D;exact⟨v,e,n,J,fun z O=>by unfold kV;rw[I];exact N z O⟩
 rename_i I;obtain⟨v,e,n,J,N⟩:=Cb H D;exact⟨v,e,n,J,fun z O=>by unfold kV;rw[I];exact N z O⟩
theorem Cc{C:Ctx}{h:Nat->AB}(H:Ext h h'){f:FuncId}{K:KK}(z:T5 C h d f as K):∃v e n,K v e n/\∀D:KK,D v e n->T5 C h' d f as D:=by
 unfold T5 at z;split at z
 case h_2=>exact z.elim
 split at z
 case h_2=>exact z.elim
 rename_i h0;split at z
 ·split at z
  case h_2=>exact z.elim
  rename_i I;split at z
  case h_2=>exact z.elim
  rename_i J;split at z
  case h_2=>exact z.elim
  rename_i Z;split at z
  ·exact z.elim
  rename_i h4;obtain⟨r,N,O,U,Y,z⟩:=z;refine⟨_,_,_,z,fun D h=>?_⟩;simp only[T5,h0,H.box I,J,H.row Z,h4];exact⟨r,N,O,U,Y,h⟩
 ·split at z
  case h_2=>exact z.elim
  rename_i I;obtain⟨q,Rm,z⟩:=z;split at z
  case h_2=>exact z.elim
  rename_i J;obtain⟨r,N,O,U,Y,z⟩:=z;refine⟨_,_,_,z,fun D h=>?_⟩;simp only[T5,h0,H.ai I];refine⟨q,Rm,?_⟩;simp only[J];exact⟨r,N,O,U,Y,h⟩
 exact z.elim
theorem Cd{C:Ctx}{h:Nat->AB}(H:Ext h h'){f:FuncId}{K:KK}(D:p8 C h d f as K):∃v e n,K v e n/\∀z:KK,z v e n->p8 C h' d f as z:=by
 unfold p8 at D;split at D
 ·rename_i I;obtain⟨v,e,n,J,N⟩:=zh H D;exact⟨v,e,n,J,fun z O=>by unfold p8;rw[I];exact N z O⟩
 rename_i I;obtain⟨v,e,n,J,N⟩:=Cc H D;exact⟨v,e,n,J,fun z O=>by unfold p8;rw[I];exact N z O⟩
theorem Ce{C:Ctx}{h:Nat->AB}(H:Ext h h'){f:FuncId}{K:KK}(z:p_ C h d f as K):∃v e n,K v e n/\∀D:KK,D v e n->p_ C h' d f as D:=by
 unfold p_ at z;split at z
 case h_2=>exact z.elim
 rename_i h0;split at z
 case h_2=>exact z.elim
 rename_i I;split at z
 case h_2=>exact z.elim
 rename_i J;split at z
 case h_2=>exact z.elim
 rename_i N;obtain⟨xs,fz,⟨r,O,bW,U,z⟩,Y⟩:=tT H z;split at z
 case h_2=>exact z.elim
 rename_i Z;split at z
 ·refine⟨_,_,_,z,fun D h=>?_⟩;unfold p_;simp only[h0,H.eN I,J,H.row N];refine Y _ ⟨r,O,_,U,?_⟩;simp only[Z];exact h
 refine⟨_,_,_,z,fun D h=>?_⟩;unfold p_;simp only[h0,H.eN I,J,H.row N];refine Y _ ⟨r,O,_,U,?_⟩;simp only[Z];exact h
theorem jD{k:IntKind}{n:Int}{K:Value->Prop}(z:pd k n K):∃v,K v/\∀D:Value->Prop,D v->pd k n D:=by
 unfold pd at z;split at z
 ·rename_i h;exact⟨_,z.2,fun D I=>by simp only[pd,h];exact⟨z.1,I⟩⟩
 rename_i h;exact⟨_,z,fun D I=>by simp only[pd,h];exact I⟩
theorem xm{T:TypeId->Option TI}{op:BinOp}{t:TypeId}{x:PV}{K:Value->Prop}(z:By T op t x K):∃v,K v/\∀D:Value->Prop,D v->By T op t x D:=by
 unfold By at z;split at z
 case h_2=>exact z.elim
 split at z
 case h_1=>exact z.elim
 rename_i I;split at z
 case h_2=>exact z.elim
 rename_i J;split at z<;>first
  | exact z.elim
  | exact⟨_,z,fun D h=>by simp only[By,I,J];exact h⟩
theorem xn{T:TypeId->Option TI}{op:BinOp}{t:TypeId}{x y:PV}{K:Value->Prop}(z:na T op t x y K):∃v,K v/\∀D:Value->Prop,D v->na T op t x y D:=by
 unfold na at z;split at z
 ·split at z
  ·rename_i hs;exact⟨_,z.2,fun D h=>by simp only[na,hs];exact⟨z.1,h⟩⟩
  rename_i hs;split at z
  ·exact z.elim
  rename_i I;split at z<;>first
   | exact z.elim
   | (obtain⟨v,N,O⟩:=jD z;exact⟨v,N,fun D h=>by simp only[na,I,hs];exact O D h⟩)
   | (obtain⟨v,N,O⟩:=jD z.2;exact⟨v,N,fun D h=>by simp only[na,I,hs];exact⟨z.1,O D h⟩⟩)
   | exact⟨_,z,fun D h=>by simp only[na,I,hs];exact h⟩
   | exact⟨_,z.2,fun D h=>by simp only[na,I,hs];exact⟨z.1,h⟩⟩
 ·split at z<;>first
   | exact z.elim
   | exact⟨_,z,fun D h=>by simp only[na];exact h⟩
   | exact⟨_,z.2,fun D h=>by simp only[na];exact⟨z.1,h⟩⟩
 ·split at z
  ·rename_i J;split at z<;>first
    | exact z.elim
    | exact⟨_,z,fun D h=>by simp only[na,J];exact h⟩
  exact z.elim
 ·split at z
  ·rename_i J;split at z
   ·exact z.elim
   rename_i Y;split at z
   ·split at z
    ·rename_i U;exact⟨_,z,fun D h=>by simp only[na,J,Y,U];exact h⟩
    exact z.elim
   ·split at z
    ·rename_i U;exact⟨_,z,fun D h=>by simp only[na,J,Y,U];exact h⟩
    exact z.elim
   exact z.elim
  exact z.elim
 exact z.elim
theorem nm{h:Nat->AB}(H:Ext h h'){C:Ctx}{t:TypeId}{x:Operand}{U Y:Option Operand}{K:KK}(D:ef C rho h t x U Y K):∃v e n,K v e n/\∀I:KK,I v e n->ef C rho h' t x U Y I:=by
 simp only[ef]at D;split at D
 ·rename_i h0;split at D
  ·rename_i J;split at D
   ·rename_i N O;exact⟨_,_,_,D.2,fun I h=>by simp only[ef,h0,J,N,O];exact⟨D.1,h⟩⟩
   exact D.elim
  exact D.elim
 ·rename_i h0;split at D
  ·exact D.elim
  rename_i J;obtain⟨z,fz,D,Z⟩:=e9 H D;split at D
  ·split at D
   ·rename_i N O;refine⟨_,_,_,D.2,fun I h=>?_⟩;simp only[ef,h0,J];refine Z _ ?_;simp only[N,O];exact⟨D.1,h⟩
   exact D.elim
  exact D.elim
 exact D.elim
theorem Cf{C:Ctx}{t:TypeId}{I J:Option Operand}{e':TypeId}{es:List (List PV)}{K:KK}(z:nN C rho t I J id e' es K):∃v e n,K v e n/\∀D:KK,D v e n->nN C rho t I J id e' es D:=by
 unfold nN at z;split at z
 ·rename_i h0;split at z
  ·rename_i N;split at z
   ·rename_i O U;exact⟨_,_,_,z.2,fun D h=>by simp only[nN,h0,N,O,U];exact⟨z.1,h⟩⟩
   exact z.elim
  exact z.elim
 exact z.elim
theorem l6{C:Ctx}{o:Oper}{h:Nat->AB}(H:Ext h h'){K:KK}(D:aZ C o rho h K):∃v e n,K v e n/\∀O:KK,O v e n->aZ C o rho h' O:=by
 cases U:o.op<;>simp only[aZ,U]at D
 case move x=>exact⟨_,_,_,D,fun O h=>by simp only[aZ,U];exact h⟩
 case assign x=>exact⟨_,_,_,D,fun O h=>by simp only[aZ,U];exact h⟩
 case pick c a b=>
  split at D
  ·rename_i I;split at D
   ·exact⟨_,_,_,D,fun O h=>by simp only[aZ,U,I];exact h⟩
   exact⟨_,_,_,D,fun O h=>by simp only[aZ,U,I];exact h⟩
  exact D.elim
 case alloc e=>
  split at D
  ·rename_i I;split at D
   ·rename_i J;exact⟨_,_,_,D,fun O h=>by simp only[aZ,U,I,J];exact h⟩
   rename_i J;exact⟨_,_,_,D,fun O h=>by simp only[aZ,U,I,J];exact h⟩
  exact D.elim
 case box e x=>
  split at D
  ·rename_i I;exact⟨_,_,_,D,fun O h=>by simp only[aZ,U,I];exact h⟩
  ·rename_i I;exact⟨_,_,_,D,fun O h=>by simp only[aZ,U,I];exact h⟩
  rename_i I mP;split at D
  ·rename_i J;have N:=jC H J;refine⟨_,_,_,D,fun O h=>?_⟩;simp only[aZ,U];cases M8:rho x with
   | p y=>
    cases y with
    | ag cs=>exact (I cs M8).elim
    | _=>rw[M8]at N h;simp only[N];exact h
   | st xs=>exact (mP xs M8).elim
   | _=>rw[M8]at N h;simp only[N];exact h
  exact D.elim
 case binOp op t x y t'=>
  split at D
  ·rename_i I J;obtain⟨v,N,Y⟩:=xn D;exact⟨_,_,_,N,fun O h=>by simp only[aZ,U,I,J];exact Y _ h⟩
  ·rename_i I J;obtain⟨v,N,Y⟩:=xm D;exact⟨_,_,_,N,fun O h=>by simp only[aZ,U,I,J];exact Y _ h⟩
  exact D.elim
 case unOp op t x=>
  split at D
  ·rename_i I;exact⟨_,_,_,D,fun O h=>by simp only[aZ,U,I];exact h⟩
  ·rename_i I;obtain⟨v,N,Y⟩:=jD D;exact⟨_,_,_,N,fun O h=>by simp only[aZ,U,I];exact Y _ h⟩
  exact D.elim
 case convert src dst x=>
  split at D
  ·rename_i I J N;obtain⟨v,h5,Y⟩:=jD D;exact⟨_,_,_,h5,fun O h=>by simp only[aZ,U,I,J,N];exact Y _ h⟩
  ·rename_i I J N;exact⟨_,_,_,D,fun O h=>by simp only[aZ,U,I,J,N];exact h⟩
  ·rename_i I J N;exact⟨_,_,_,D,fun O h=>by simp only[aZ,U,I,J,N];exact h⟩
  exact D.elim
 case nilCheck x=>
  split at D
  ·rename_i I;exact⟨_,_,_,D,fun O h=>by simp only[aZ,U,I];exact h⟩
  ·rename_i I;split at D
   ·rename_i J;exact⟨_,_,_,D,fun O h=>by simp only[aZ,U,I,H.box J];exact h⟩
   ·rename_i J;exact⟨_,_,_,D,fun O h=>by simp only[aZ,U,I,H.jt J];exact h⟩
   exact D.elim
  ·rename_i I;split at D
   ·rename_i J;exact⟨_,_,_,D,fun O h=>by simp only[aZ,U,I,H.row J];exact h⟩
   ·rename_i J;exact⟨_,_,_,D,fun O h=>by simp only[aZ,U,I,H.ai J];exact h⟩
   exact D.elim
  ·rename_i I;split at D
   ·rename_i J;exact⟨_,_,_,D,fun O h=>by simp only[aZ,U,I,H.cell J];exact h⟩
   exact D.elim
  exact D.elim
 case makeInterface t x=>
  split at D
  ·rename_i I;split at D
   ·rename_i J;exact⟨_,_,_,D,fun O h=>by simp only[aZ,U,I,J];exact h⟩
   exact D.elim
  rename_i I;split at D
  ·rename_i J;refine⟨_,_,_,D,fun O h=>?_⟩;simp only[aZ,U,J];generalize rho x=z at I h ⊢;cases z<;>first | exact absurd rfl (I _) | exact h
  exact D.elim
 case typeAssert x xt t ok=>
  cases ok with
  | true=>exact D.elim
  | false=>
   simp only at D;split at D
   ·rename_i I;split at D
    ·rename_i J N;exact⟨_,_,_,D,fun O h=>by simp only[aZ,U,I,J,N];exact h⟩
    exact D.elim
   exact D.elim
 case extract x i=>
  split at D
  ·rename_i I;split at D
   ·rename_i J;exact⟨_,_,_,D,fun O h=>by simp only[aZ,U,I,J];exact h⟩
   exact D.elim
  exact D.elim
 case load t x=>
  split at D
  ·exact D.elim
  rename_i h0;split at D
  ·rename_i I;split at D
   ·rename_i J;split at D
    ·rename_i N;exact⟨_,_,_,D,fun O h=>by simp only[aZ,U,h0,I,J,N];exact h⟩
    exact D.elim
   rename_i J;split at D
   ·exact⟨_,_,_,D,fun O h=>by simp only[aZ,U,h0,I,J];exact h⟩
   exact D.elim
  ·rename_i I;split at D
   ·rename_i J;split at D
    ·rename_i N;split at D
     ·rename_i Y h5;exact⟨_,_,_,D,fun O h=>by simp only[aZ,U,h0,I,H.box J,N,Y,h5];exact h⟩
     ·rename_i Y h5;exact⟨_,_,_,D,fun O h=>by simp only[aZ,U,h0,I,H.box J,N,Y,h5];exact h⟩
     exact D.elim
    rename_i N;split at D
    ·rename_i Y;exact⟨_,_,_,D,fun O h=>by simp only[aZ,U,h0,I,H.box J,N,Y];exact h⟩
    exact D.elim
   ·rename_i J;split at D
    ·rename_i N;split at D
     ·rename_i Y;exact⟨_,_,_,D,fun O h=>by simp only[aZ,U,h0,I,H.jt J,N,Y];exact h⟩
     exact D.elim
    rename_i N;split at D
    ·rename_i Y;exact⟨_,_,_,D,fun O h=>by simp only[aZ,U,h0,I,H.jt J,N,Y];exact h⟩
    exact D.elim
   exact D.elim
  ·rename_i I;split at D
   ·rename_i J;obtain⟨r,hr,D⟩:=D;split at D
    ·rename_i N;split at D
     ·rename_i Y;exact⟨_,_,_,D,fun O h=>by simp only[aZ,U,h0,I,H.row J];refine⟨r,hr,?_⟩;simp only[N,Y];exact h⟩
     exact D.elim
    rename_i N;split at D
    ·rename_i Y;exact⟨_,_,_,D,fun O h=>by simp only[aZ,U,h0,I,H.row J];refine⟨r,hr,?_⟩;simp only[N,Y];exact h⟩
    exact D.elim
   ·rename_i J;obtain⟨r,hr,D⟩:=D;split at D
    ·rename_i N;split at D
     ·rename_i Y;exact⟨_,_,_,D,fun O h=>by simp only[aZ,U,h0,I,H.ai J];refine⟨r,hr,?_⟩;simp only[N,Y];exact h⟩
     exact D.elim
    rename_i N;split at D
    ·rename_i Y;exact⟨_,_,_,D,fun O h=>by simp only[aZ,U,h0,I,H.ai J];refine⟨r,hr,?_⟩;simp only[N,Y];exact h⟩
    exact D.elim
   exact D.elim
  ·rename_i I;split at D
   ·rename_i J N;exact⟨_,_,_,D,fun O h=>by simp only[aZ,U,h0,I,H.cell J,N];exact h⟩
   exact D.elim
  exact D.elim
 case store t x y=>
  split at D
  ·exact D.elim
  rename_i h0;split at D
  ·rename_i I;split at D
   ·rename_i J;split at D
    ·rename_i N;split at D
     ·rename_i hs;split at D
      ·rename_i Y;exact⟨_,_,_,D,fun O h=>by simp only[aZ,U,h0,I,H.box J,N,hs,Y];exact h⟩
      exact D.elim
     rename_i hs;obtain⟨z,fz,D,Z⟩:=e9 H D;split at D
     ·split at D
      ·rename_i Y;refine⟨_,_,_,D,fun O h=>?_⟩;simp only[aZ,U,h0,I,H.box J,N,hs];refine Z _ ?_;simp only[Y];exact h
      exact D.elim
     exact D.elim
    rename_i N;split at D
    ·rename_i Y;simp only[fH]at Y;have h5:=jC H Y.2;refine⟨_,_,_,D,fun O h=>?_⟩;simp only[aZ,U,h0,I,H.box J,N,Y.1.1,Y.1.2,h5,n_];exact h
    exact D.elim
   exact D.elim
  ·rename_i I;split at D
   ·rename_i J;obtain⟨r,hr,D⟩:=D;obtain⟨z,fz,D,Z⟩:=e9 H D;split at D
    ·rename_i N;split at D
     ·rename_i Y;refine⟨_,_,_,D,fun O h=>?_⟩;simp only[aZ,U,h0,I,H.row J];refine⟨r,hr,Z _ ?_⟩;simp only[N,Y];exact h
     exact D.elim
    exact D.elim
   ·rename_i J;obtain⟨r,hr,D⟩:=D;split at D
    ·exact D.elim
    rename_i N;split at D
    ·rename_i Y;simp only[fH]at Y;have h5:=jC H Y.2;refine⟨_,_,_,D,fun O h=>?_⟩;simp only[aZ,U,h0,I,H.ai J];refine⟨r,hr,?_⟩;simp only[N,Y.1.1,Y.1.2,h5,n_];exact h
    exact D.elim
   exact D.elim
  ·rename_i I;split at D
   ·rename_i J N;split at D
    ·rename_i Y;simp only[fH]at Y;have h5:=jC H Y.2;refine⟨_,_,_,D,fun O h=>?_⟩;simp only[aZ,U,h0,I,H.cell J,N,Y.1,h5,n_];exact h
    exact D.elim
   exact D.elim
  exact D.elim
 case fieldAddr t x f=>
  split at D
  ·rename_i h0;split at D
   ·rename_i I;split at D
    ·rename_i J;exact⟨_,_,_,D,fun O h=>by simp only[aZ,U,h0,I,J];exact h⟩
    ·rename_i id o' J;split at D
     ·exact D.elim
     rename_i bO;refine⟨_,_,_,D,fun O h=>?_⟩;simp only[aZ,U,h0,I,J];rcases H id with Y | Y
     ·exact absurd Y (by simpa using bO)
     rw[Y];split
     ·rename_i h5;exact absurd h5 (by simpa using bO)
     exact h
    ·rename_i J;split at D
     ·rename_i N;exact⟨_,_,_,D,fun O h=>by simp only[aZ,U,h0,I,J,H.row N];exact h⟩
     ·rename_i N;exact⟨_,_,_,D,fun O h=>by simp only[aZ,U,h0,I,J,H.ai N];exact h⟩
     exact D.elim
    exact D.elim
   exact D.elim
  exact D.elim
 case field t x f=>
  split at D
  ·rename_i h0 HI;split at D
   ·rename_i I;split at D
    ·split at D
     ·rename_i N;exact⟨_,_,_,D,fun O h=>by simp only[aZ,U,h0,HI,I,N];exact h⟩
     exact D.elim
    split at D
    ·rename_i N;exact⟨_,_,_,D,fun O h=>by simp only[aZ,U,h0,HI,I,N];exact h⟩
    exact D.elim
   exact D.elim
  exact D.elim
 case indexAddr t x ix=>
  split at D
  ·rename_i h0 HI;split at D
   ·exact D.elim
   rename_i I;split at D
   ·rename_i J;obtain⟨r,hr,D⟩:=D;split at D
    ·rename_i N;exact⟨_,_,_,D,fun O h=>by simp only[aZ,U,h0,HI,I,J];refine⟨r,hr,?_⟩;simp only[N];exact h⟩
    exact D.elim
   ·rename_i J;split at D
    ·rename_i N;split at D
     ·rename_i Y;exact⟨_,_,_,D.2,fun O h=>by simp only[aZ,U,h0,HI,I,J,H.row N,Y];exact⟨D.1,h⟩⟩
     exact D.elim
    ·rename_i N;split at D
     ·rename_i Y;exact⟨_,_,_,D.2,fun O h=>by simp only[aZ,U,h0,HI,I,J,H.ai N,Y];exact⟨D.1,h⟩⟩
     exact D.elim
    ·rename_i N;obtain⟨r,hr,D⟩:=D;split at D
     ·rename_i Y;exact⟨_,_,_,D,fun O h=>by simp only[aZ,U,h0,HI,I,J,H.f_ N];refine⟨r,hr,?_⟩;simp only[Y];exact h⟩
     exact D.elim
    exact D.elim
   ·rename_i J;split at D
    ·rename_i N;split at D
     ·rename_i Y;exact⟨_,_,_,D.2,fun O h=>by simp only[aZ,U,h0,HI,I,J,H.row N,Y];exact⟨D.1,h⟩⟩
     exact D.elim
    exact D.elim
   exact D.elim
  exact D.elim
 case index t x ix=>
  split at D
  ·rename_i h0 I J;obtain⟨b,hb,D⟩:=D;exact⟨_,_,_,D,fun O h=>by simp only[aZ,U,h0,I,J];exact⟨b,hb,h⟩⟩
  exact D.elim
 case slice t x lo hi mx=>
  cases mx with
  | some m=>exact D.elim
  | none=>
   simp only at D;split at D
   ·rename_i id hid;split at D
    ·rename_i e' es hr;rcases D with D | D
     ·obtain⟨v,e,n,D,Z⟩:=Cf D;exact⟨v,e,n,D,fun O h=>by simp only[aZ,U,hid,H.row hr];exact .inl (Z _ h)⟩
     obtain⟨v,e,n,D,Z⟩:=nm H D;exact⟨v,e,n,D,fun O h=>by simp only[aZ,U,hid,H.row hr];exact .inr (Z _ h)⟩
    rename_i bO;obtain⟨v,e,n,D,Z⟩:=nm H D;refine⟨v,e,n,D,fun O h=>?_⟩;simp only[aZ,U,hid];split
    ·exact .inr (Z _ h)
    exact Z _ h
   rename_i bO;obtain⟨v,e,n,D,Z⟩:=nm H D;refine⟨v,e,n,D,fun O h=>?_⟩;simp only[aZ,U]
   first
    | exact Z _ h
    | (
      split
      ·rename_i id hid;exact absurd hid (bO id)
      exact Z _ h)
 case makeMap t r=>
  cases r with
  | some _=>exact D.elim
  | none=>
   simp only at D;split at D
   ·rename_i h0;split at D
    ·rename_i I;split at D
     ·rename_i J;exact⟨_,_,_,D,fun O h=>by simp only[aZ,U,h0,I,J];exact h⟩
     exact D.elim
    exact D.elim
   exact D.elim
 case lookup t x i ck=>
  split at D
  case h_2=>exact D.elim
  rename_i h0;split at D
  case h_2=>exact D.elim
  rename_i I J;split at D
  case h_2=>exact D.elim
  rename_i N;split at D
  ·rename_i Y;split at D
   case h_2=>exact D.elim
   rename_i h5;split at D
   case h_2=>exact D.elim
   rename_i h6;split at D
   case h_2=>exact D.elim
   rename_i h7;obtain⟨r,hr,D⟩:=D;cases ck with
   | true=>exact⟨_,_,_,D,fun O h=>by simp only[aZ,U,h0,I,J,N,Y,H.map h5,h6,h7];exact⟨r,hr,h⟩⟩
   | false=>exact⟨_,_,_,D,fun O h=>by simp only[aZ,U,h0,I,J,N,Y,H.map h5,h6,h7];exact⟨r,hr,h⟩⟩
  ·rename_i Y;split at D
   case h_2=>exact D.elim
   rename_i h6;split at D
   case h_2=>exact D.elim
   rename_i h7;obtain⟨r,hr,D⟩:=D;cases ck with
   | true=>exact⟨_,_,_,D,fun O h=>by simp only[aZ,U,h0,I,J,N,Y,h6,h7];exact⟨r,hr,h⟩⟩
   | false=>exact⟨_,_,_,D,fun O h=>by simp only[aZ,U,h0,I,J,N,Y,h6,h7];exact⟨r,hr,h⟩⟩
  exact D.elim
 case range t x=>
  split at D
  case h_2=>exact D.elim
  rename_i h0;split at D
  case h_2=>exact D.elim
  rename_i I;exact⟨_,_,_,D,fun O h=>by simp only[aZ,U,h0,I];exact h⟩
 case entry x=>
  split at D
  case h_2=>exact D.elim
  rename_i h0;split at D
  case h_2=>exact D.elim
  rename_i I;exact⟨_,_,_,D,fun O h=>by simp only[aZ,U,h0,H.iter I];exact h⟩
 case mapUpdate t x i y=>
  split at D
  case h_2=>exact D.elim
  rename_i h0;split at D
  case h_2=>exact D.elim
  rename_i I;split at D
  case h_2=>exact D.elim
  rename_i N;split at D
  case h_2=>exact D.elim
  rename_i Y;split at D
  case h_2=>exact D.elim
  rename_i h5;split at D
  case h_2=>exact D.elim
  rename_i h6;split at D
  case h_2=>exact D.elim
  rename_i h7;obtain⟨z,fz,D,Z⟩:=e9 H D;split at D
  case h_2=>exact D.elim
  rename_i h8;refine⟨_,_,_,D,fun O h=>?_⟩;simp only[aZ,U,h0,I,N,Y,H.map h5,h6,h7];refine Z _ ?_;simp only[h8];exact h
 case build t ps=>
  split at D
  ·rename_i h0;split at D
   ·rename_i I;obtain⟨z,fz,D,Z⟩:=B7 H D;exact⟨_,_,_,D,fun O h=>by simp only[aZ,U,h0,I];exact Z _ h⟩
   rename_i I;obtain⟨z,D,Z⟩:=tU H D;exact⟨_,_,_,D,fun O h=>by simp only[aZ,U,h0,I];exact Z _ h⟩
  exact D.elim
 case buildSlice t len ps=>
  split at D
  ·rename_i h0;split at D
   ·rename_i I;split at D
    ·rename_i J;split at D
     ·rename_i K9;split at D
      case h_2=>exact D.elim
      rename_i x hps;split at D
      case h_2=>exact D.elim
      rename_i ys N;refine⟨_,_,_,D,fun O h=>?_⟩;simp only[aZ,U,h0,I,J,K9,hps,XD H N];exact h
     rename_i K9;split at D
     ·rename_i N;obtain⟨z,fz,D,Z⟩:=rT H D;exact⟨_,_,_,D,fun O h=>by simp only[aZ,U,h0,I,J,K9,N];exact Z _ h⟩
     rename_i N;obtain⟨z,fz,D,Z⟩:=rT H D;exact⟨_,_,_,D,fun O h=>by simp only[aZ,U,h0,I,J,K9,N];exact Z _ h⟩
    exact D.elim
   exact D.elim
  exact D.elim
 case makeSlice t n c=>
  split at D
  ·rename_i h0 I J;split at D
   ·rename_i N;split at D
    ·rename_i Y;exact⟨_,_,_,D.2,fun O h=>by simp only[aZ,U,h0,I,J,N,Y];exact⟨D.1,h⟩⟩
    exact D.elim
   exact D.elim
  exact D.elim
 case makeFunc fn first cap=>
  cases fn with
  | func f=>
   simp only at D;split at D
   ·rename_i I;exact⟨_,_,_,D,fun O h=>by simp only[aZ,U,I];exact h⟩
   exact D.elim
  | _=>exact D.elim
 case call c=>
  split at D
  ·rename_i h0;split at D
   ·rename_i I J;split at D
    ·rename_i N;split at D
     ·rename_i Y;exact⟨_,_,_,D,fun O h=>by simp only[aZ,U,h0,I,J,N,Y];exact h⟩
     exact D.elim
    ·rename_i N;split at D
     ·rename_i m hm;exact⟨_,_,_,D,fun O h=>by simp only[aZ,U,h0,I,J,N,B5 H hm];exact h⟩
     have hn:=B6 H D;obtain⟨es,D,Z⟩:=rS H D;exact⟨_,_,_,D,fun O h=>by simp only[aZ,U,h0,I,J,N,hn];exact Z _ h⟩
    ·rename_i N;split at D
     ·rename_i Y;split at D
      ·rename_i h5;exact⟨_,_,_,D,fun O h=>by simp only[aZ,U,h0,I,J,N,Y,H.map h5];exact h⟩
      exact D.elim
     ·rename_i Y;exact⟨_,_,_,D,fun O h=>by simp only[aZ,U,h0,I,J,N,Y];exact h⟩
     exact D.elim
    exact D.elim
   exact D.elim
  ·rename_i h0;split at D
   case h_2=>exact D.elim
   rename_i I J;split at D
   case h_2=>exact D.elim
   rename_i N;split at D
   case h_2=>exact D.elim
   rename_i Y;split at D
   case h_2=>exact D.elim
   rename_i h5;split at D
   case h_2=>exact D.elim
   rename_i h6;split at D
   case h_2=>exact D.elim
   rename_i h7;exact⟨_,_,_,D.2,fun O h=>by simp only[aZ,U,h0,I,J,N,Y,h5,H.row h6,h7];exact⟨D.1,h⟩⟩
  ·rename_i h0;split at D
   ·rename_i I;split at D
    ·rename_i J N;exact⟨_,_,_,D,fun O h=>by simp only[aZ,U,h0,I,J,N];exact h⟩
    exact D.elim
   exact D.elim
  ·rename_i h0;split at D
   ·rename_i I;split at D
    ·rename_i J N;exact⟨_,_,_,D,fun O h=>by simp only[aZ,U,h0,I,J,N];exact h⟩
    exact D.elim
   ·rename_i I;split at D
    ·rename_i J N Y;exact⟨_,_,_,D,fun O h=>by simp only[aZ,U,h0,I,J,N,Y];exact h⟩
    exact D.elim
   ·rename_i I;split at D
    ·rename_i J N Y h5 h6;exact⟨_,_,_,D,fun O h=>by simp only[aZ,U,h0,I,J,N,Y,h5,h6];exact h⟩
    exact D.elim
   exact D.elim
  ·rename_i h0;split at D
   ·rename_i I J;split at D
    ·rename_i N Y;split at D
     ·rename_i h5;split at D
      ·rename_i h6;split at D
       ·rename_i ys o_;split at D
        case h_2=>exact D.elim
        rename_i h7;split at D
        case h_2=>exact D.elim
        rename_i h8;split at D
        case h_2=>exact D.elim
        rename_i h9;refine⟨_,_,_,D.2,fun O h=>?_⟩;simp only[aZ,U,h0,I,J,N,Y,h5,h6,y9 H o_,h7,H.ai h8,h9];exact⟨D.1,h⟩
       have o_:=fun e=>xl (e:=e) H D;obtain⟨es,D,Z⟩:=rS H D;split at D
       ·rename_i h7;refine⟨_,_,_,D.2,fun O h=>?_⟩;simp only[aZ,U,h0,I,J,N,Y,h5,h6,o_];refine Z _ ?_;simp only[h7];exact⟨D.1,h⟩
       ·rename_i h7;split at D
        ·rename_i h8;split at D
         ·rename_i h9;refine⟨_,_,_,D.2,fun O h=>?_⟩;simp only[aZ,U,h0,I,J,N,Y,h5,h6,o_];refine Z _ ?_;simp only[h7,H.row h8,h9];exact⟨D.1,h⟩
         exact D.elim
        ·rename_i h8;split at D
         ·rename_i h9;refine⟨_,_,_,D.2,fun O h=>?_⟩;simp only[aZ,U,h0,I,J,N,Y,h5,h6,o_];refine Z _ ?_;simp only[h7,H.ai h8,h9];exact⟨D.1,h⟩
         exact D.elim
        exact D.elim
       exact D.elim
      exact D.elim
     exact D.elim
    exact D.elim
   exact D.elim
  ·rename_i h0;split at D
   ·rename_i I;split at D
    ·rename_i J;obtain⟨v,e,n,D,Z⟩:=Cd H D;exact⟨_,_,_,D,fun O h=>by simp only[aZ,U,h0,I,J];exact Z _ h⟩
    rename_i J;obtain⟨v,e,n,D,Z⟩:=Ce H D;exact⟨_,_,_,D,fun O h=>by simp only[aZ,U,h0,I,J];exact Z _ h⟩
   exact D.elim
  exact D.elim
 all_goals exact D.elim
theorem D0(A:jR)(o:Oper):eD A o:=by
 cases z:o.op
 case move x=>exact FM x z
 case assign x=>exact BB x z
 case pick c x y=>exact FN c x y z
 case alloc e=>exact Dr e z
 case box e x=>exact Iz e x z
 case build t ps=>exact DH t ps z
 case buildSlice t n ps=>exact tl t n ps z
 case load t x=>exact FT t x z
 case store t x y=>exact Dv t x y z
 case nilCheck x=>exact wS x z
 case binOp op t x y t'=>exact Dj op t x y t' z
 case unOp op t x=>exact FR op t x z
 case makeInterface t x=>exact pg t x z
 case typeAssert x xt t ok=>
  cases ok with
  | false=>exact tf x xt t z
  | true=>intro V L S rho s a w K next Q hC D J N I;simp only[aZ,z]at I
 case convert s d x=>exact yF s d x z
 case makeFunc fn first cap=>
  cases fn with
  | func f=>exact wT f first cap z
  | _=>intro V L S rho s a w K next Q hC D J N I;simp only[aZ,z]at I
 case makeSlice t n c=>exact vh t n c z
 case makeMap t r=>
  cases r with
  | none=>exact yR t z
  | some r=>intro V L S rho s a w K next Q hC D J N I;simp only[aZ,z]at I
 case lookup t x i ck=>exact BQ t x i ck z
 case range t x=>exact DO t x z
 case entry x=>exact DP x z
 case mapUpdate t x i y=>exact vk t x i y z
 case slice t x lo hi mx=>
  cases mx with
  | none=>exact ok_slice t x lo hi z
  | some m=>intro V L S rho s a w K next Q hC D J N I;simp only[aZ,z]at I
 case fieldAddr t x f=>exact vd t x f z
 case field t x f=>exact Dl t x f z
 case indexAddr t x ix=>exact ve t x ix z
 case index t x ix=>exact Dm t x ix z
 case extract x i=>exact yC x i z
 case call c=>
  cases hc:c.callee with
  | value g=>exact Gf c g z hc
  | invoke r m=>intro V L S rho s a w K next Q hC D J N I;simp only[aZ,z,hc,Ta,dK]at I
  | builtin b=>
   cases b
   case len=>exact IC c z hc
   case min=>exact ID c z hc
   case max=>exact IE c z hc
   case append=>exact BK c z hc
   case clear=>exact DQ c z hc
   all_goals (intro V L S rho s a w K next Q hC D J N I;simp only[aZ,z,hc,Ta,dK]at I)
 all_goals (intro V L S rho s a w K next Q hC D J N I;simp only[aZ,z]at I)
end Go.AM
namespace Go.AM
open Go.RowKit
def tw(f:FX->FX)(l:List (Nat×FX)):List (Nat×FX):=l.map fun x=>(x.1,f x.2)
def HX.Te(f:AV->AV):HX->HX
 | .av x=>.av (f x)
 | .row e es=>.row e es
def bk:Nat->Prop:=fun _=>True
theorem rU{f:FX->FX}{l:List (Nat×FX)}{m:Nat}{x:FX}(h:(m,x)∈tw f l):∃y,(m,y)∈l/\x=f y:=by
 obtain⟨⟨g',y⟩,z,e⟩:=fh.1 h;injection e with D e2;subst D;exact⟨y,z,e2.symm⟩
theorem e_{f:FX->FX}{l:List (Nat×FX)}{m:Nat}:qA (tw f l) m↔qA l m:=by
 constructor
 ·intro h p hp;exact h (p.1,f p.2) (fh.2 ⟨p,hp,rfl⟩)
 intro h p hp;obtain⟨q,z,rfl⟩:=fh.1 hp;exact h q z
variable {k:Nat}
theorem fN{w:World}{l:List (Nat×List HC)}{out:List (Nat×FX)}{v:Value}:hasB w (.fam l out) v k↔bH v=some k\/∃(m g:Nat) (cs:List HC),l[m]?=some (g,cs)/\qA out m/\mE w cs g k:=by
 constructor
 ·rintro (h | ⟨_,_,h,_⟩ | ⟨_,_,_,_,_,_,h,_⟩ | ⟨l',Rn,m,g,cs,h,z⟩)
  ·exact .inl h
  ·cases h
  ·cases h
  injection h with h h';subst h;subst h';exact .inr ⟨m,g,cs,z⟩
 rintro (h | ⟨m,g,cs,h⟩)
 ·exact .inl h
 exact .inr (.inr (.inr ⟨l,out,m,g,cs,rfl,h⟩))
theorem pj{w:World}{f:FX->FX}{l:List (Nat×List HC)}{out:List (Nat×FX)}{v:Value}:hasB w (.fam l (tw f out)) v k↔hasB w (.fam l out) v k:=by
 rw[fN,fN];simp only[e_]
theorem j_{w:World}{f:AV->AV}{es:List (List HX)}{g a j:Nat}{u:Value}:bI w (es.map fun r=>r.map (HX.Te f)) g a j u↔bI w es g a j u:=by
 constructor
 ·rintro⟨r,e,xs,c,N,m,D,I,O,J⟩;rw[ao]at D;obtain⟨q,U,rfl⟩:=az.1 D;rw[ao]at I;obtain⟨z,Y,Z⟩:=az.1 I;rw[ct]at J;cases z with
  | av x=>cases Z
  | row e' kS=>exact⟨q,e',kS,c,N,m,U,Y,O,J⟩
 rintro⟨r,e,xs,c,N,m,D,I,O,J⟩;exact⟨r.map (HX.Te f),e,xs,c,N,m,by rw[ao,D];rfl,by rw[ao,I];rfl,O,by rw[ct];exact J⟩
theorem kU.map{w:World}{f:AV->AV}{es:List (List HX)}{v:Value}(h:kU w es v):kU w (es.map fun r=>r.map (HX.Te f)) v:=
 ⟨fun g a j u b z D I=>h.top g a j u b z (j_.1 D) I,fun g a j J j' u N b z D I O U=>h.dis g a j J j' u N b z (j_.1 D) (j_.1 I) O U⟩
theorem an.map{P:Program}{w:World}{R J:HX->Value->Prop}{f:AV->AV}{e:TypeId}{es:List (List HX)}{v:Value}(h:an P w R e es v)(U:∀x u,R x u->J (HX.Te f x) u):an P w J e (es.map fun r=>r.map (HX.Te f)) v:=by
 obtain⟨i,xs,Y,Z,h3,h4,h5,h6⟩:=h;refine⟨i,xs,Y,Z,by rw[ct];exact h3,fun r D=>?_,h5,fun a r j x N O=>?_⟩
 ·obtain⟨q,I,rfl⟩:=fh.1 D;rw[ct];exact h4 q I
 rw[ao]at N;obtain⟨q,I,rfl⟩:=az.1 N;rw[ao]at O;obtain⟨z,hz,rfl⟩:=az.1 O;obtain⟨u,hu,D⟩:=h6 a q j z I hz;exact⟨u,hu,U _ _ D⟩
theorem pk{w:World}{f:AV->AV}{e:TypeId}{es:List (List HX)}{v:Value}:hasB w (.ai e (es.map fun r=>r.map (HX.Te f))) v k↔hasB w (.ai e es) v k:=by
 rw[bN,bN];simp only[j_]
mutual
def AV.ez(σ:Nat->Option Nat):AV->AV
 | .p x=>.p x
 | .nl=>.nl
 | .ow k=>match σ k with
  | some m=>.ow m
  | none=>.junk
 | .rp k a b=>match σ k with
  | some m=>.rp m a b
  | none=>.junk
 | .bx k a=>match σ k with
  | some m=>.bx m a
  | none=>.junk
 | .vw k a b=>match σ k with
  | some m=>.vw m a b
  | none=>.junk
 | .fn f cap=>.fn f (xo σ cap)
 | .tu xs=>.tu (xo σ xs)
 | .st xs=>.st (xo σ xs)
 | .ifp t a=>.ifp t (AV.ez σ a)
 | .junk=>.junk
def xo(σ:Nat->Option Nat):List AV->List AV
 | []=>[]
 | x::r=>AV.ez σ x::xo σ r
end
theorem lh(σ:Nat->Option Nat):∀xs:List AV,xo σ xs=xs.map (AV.ez σ)
 | []=>by simp[xo]
 | x::r=>by rw[xo,lh σ r];rfl
def FX.ez(σ:Nat->Option Nat):FX->FX
 | some n=>σ n
 | none=>none
def AB.ez(σ:Nat->Option Nat):AB->AB
 | .ai e es=>.ai e (es.map fun r=>r.map (HX.Te (AV.ez σ)))
 | .box cs=>.box (cs.map (AV.ez σ))
 | .eN ty cs=>.eN ty (cs.map (AV.ez σ))
 | .cell c0 ty a=>.cell c0 ty (AV.ez σ a)
 | .fam l out=>.fam l (tw (FX.ez σ) out)
 | b=>b
theorem AB.l7(σ:Nat->Option Nat)(b:AB):(b.ez σ).there↔b.there:=by cases b<;>rfl
theorem AB.dZ(σ:Nat->Option Nat)(b:AB):(b.ez σ).live↔b.live:=by cases b<;>rfl
theorem AB.lp(σ:Nat->Option Nat)(b:AB):(b.ez σ).fD=b.fD:=by cases b<;>rfl
theorem AB.fp{w:World}(σ:Nat->Option Nat)(b:AB)(v:Value)(g:Nat):hasB w (b.ez σ) v g↔hasB w b v g:=by
 cases b with
 | ai e es=>exact pk
 | box cs=>exact⟨fun h=>.inl (al rfl h),fun h=>.inl (al rfl h)⟩
 | eN ty cs=>exact⟨fun h=>.inl (al rfl h),fun h=>.inl (al rfl h)⟩
 | cell c0 ty a=>exact⟨fun h=>.inl (al rfl h),fun h=>.inl (al rfl h)⟩
 | fam l out=>exact pj
 | _=>exact jU
structure tV(S S':Nat->Prop)(w w':World)(L L':Nat->Prop)(rho rho':Nat->Value)(h h':Nat->AB)(σ:Nat->Option Nat):Prop where
 hS:∀b,S b->S' b
 keep:∀b,S b->w'.heap[b]?=w.heap[b]?
 ids:∀k m,σ k=some m->(h' m).there->(h k).there/\(L k->L' m)/\rho' m=rho k
 rows:∀k m e,σ k=some m->(h' m).fD=some e->(h k).fD=some e
variable {rho:Nat->Value}
theorem aE.ez{S S':Nat->Prop}{w w':World}{P:Program}{L L':Nat->Prop}{rho':Nat->Value}{h h':Nat->AB}{σ:Nat->Option Nat}(T:tV S S' w w' L L' rho rho' h h' σ){x:AV}{v:Value}(hx:aE S w P L rho h x v):aE S' w' P L' rho' h' (x.ez σ) v:=by
 have J:∀{D:List AV} {i:Nat} {c:AV},(xo σ D)[i]?=some c->∃z,D[i]?=some z/\c=z.ez σ:=fun {D i c} hc=>by
  rw[lh,ao]at hc;obtain⟨z,N,e⟩:=az.1 hc;exact⟨z,N,e.symm⟩
 induction hx with
 | p x v hx=>rw[AV.ez];exact .p x v (hx.mono T.hS T.keep)
 | nl=>rw[AV.ez];exact .nl
 | ow k v hv=>
  rw[AV.ez];split
  ·rename_i m I;refine .ow m v fun ht=>?_;obtain⟨O,U,Y⟩:=T.ids k m I ht;exact⟨U (hv O).1,by rw[Y];exact (hv O).2⟩
  exact .junk v
 | rp k a b v hv=>
  rw[AV.ez];split
  ·rename_i m I;refine .rp m a b v fun e Z=>?_;obtain⟨O,U,Y⟩:=T.ids k m I (fv Z);obtain⟨q1,q2⟩:=hv e (T.rows k m e I Z);exact⟨U q1,by rw[Y];exact q2⟩
  exact .junk v
 | bx k a v hv=>
  rw[AV.ez];split
  ·rename_i m I;refine .bx m a v fun ht=>?_;obtain⟨O,U,Y⟩:=T.ids k m I ht;exact⟨U (hv O).1,by rw[Y];exact (hv O).2⟩
  exact .junk v
 | vw k a b v hv=>
  rw[AV.ez];split
  ·rename_i m I;refine .vw m a b v fun e Z=>?_;obtain⟨O,U,Y⟩:=T.ids k m I (fv Z);obtain⟨q1,q2⟩:=hv e (T.rows k m e I Z);exact⟨U q1,by rw[Y];exact q2⟩
  exact .junk v
 | fn f D vs hl hc ih=>
  rw[AV.ez];exact .fn f _ vs (by rw[lh,ct];exact hl) fun i c u hi hu=>by
   obtain⟨z,N,rfl⟩:=J hi;exact ih i z u N hu
 | tu xs vs hl hc ih=>
  rw[AV.ez];exact .tu _ vs (by rw[lh,ct];exact hl) fun i c u hi hu=>by
   obtain⟨z,N,rfl⟩:=J hi;exact ih i z u N hu
 | st xs vs hl h0 hc ih=>
  rw[AV.ez];exact .st _ vs (by rw[lh,ct];exact hl) h0 fun i c u hi hu=>by
   obtain⟨z,N,rfl⟩:=J hi;exact ih i z u N hu
 | ifp t a u hc ih=>rw[AV.ez];exact .ifp t _ u ih
 | junk v=>rw[AV.ez];exact .junk v
theorem cd.ez{S S':Nat->Prop}{w w':World}{P:Program}{L L':Nat->Prop}{rho':Nat->Value}{h h':Nat->AB}{σ:Nat->Option Nat}(T:tV S S' w w' L L' rho rho' h h' σ){k m:Nat}{x:AB}
  (hb:x.live->∀g,hasB w x (rho k) g->w'.heap[g]?=w.heap[g]?) (O:x.there->rho' m=rho k) (D:cd S w P L rho h k x):cd S' w' P L' rho' h' m (x.ez σ):=by
 have T0:fu S S' w w' L L rho rho h h:=⟨T.hS,T.keep,fun id ht=>⟨ht,fun hl=>⟨hl,rfl⟩⟩,fun _ _ he=>he⟩;have D:=cd.bA T0 hb (fun _=>rfl) D;have T1:tV S' S' w' w' L L' rho rho' h h' σ:=⟨fun _ h=>h,fun _ _=>rfl,T.ids,T.rows⟩;cases x with
 | none=>trivial
 | row e es=>show an _ _ _ _ _ (rho' m);rw[O trivial];exact D
 | f_ es=>show ay _ _ _ (rho' m);rw[O trivial];exact D
 | jt es=>show ay _ _ _ (rho' m);rw[O trivial];exact D
 | map mk es=>
  obtain⟨g,ms,I,J,N⟩:=D;exact⟨g,ms,I,by rw[O trivial];exact J,N⟩
 | iter mk es n cur=>
  obtain⟨g,mg,ms,I,Y,J,N⟩:=D;exact⟨g,mg,ms,I,Y,by rw[O trivial];exact J,N⟩
 | aA cs=>
  obtain⟨g,Z,c,J,N⟩:=D;exact⟨g,Z,c,by rw[O trivial];exact J,N⟩
 | box cs=>
  obtain⟨g,Z,c,J,N,h3,U⟩:=D;refine⟨g,Z,c,by rw[O trivial];exact J,N,by simpa using h3,fun j x u hj hu=>?_⟩;rw[ao]at hj;obtain⟨z,hz,rfl⟩:=az.1 hj;exact⟨(U j z u hz hu).1,(U j z u hz hu).2.ez T1⟩
 | eN Z cs=>
  obtain⟨g,c,J,N,h3,U⟩:=D;refine⟨g,c,by rw[O trivial];exact J,N,by simpa using h3,fun j x u hj hu=>?_⟩;rw[ao]at hj;obtain⟨z,hz,rfl⟩:=az.1 hj;exact⟨(U j z u hz hu).1,(U j z u hz hu).2.ez T1⟩
 | cell c0 Z a=>
  obtain⟨g,off,v,J,N,h3,U,h5⟩:=D;exact⟨g,off,v,by rw[O trivial];exact J,N,h3,U,h5.ez T1⟩
 | fam l out=>
  obtain⟨J,hF⟩:=D;refine⟨by rw[O trivial];exact J,fun m g cs hm ho=>hF.mem m g cs hm (e_.1 ho),fun m m' g g' cs dB k hm mD ho u_=>hF.dis m m' g g' cs dB k hm mD (e_.1 ho) (e_.1 u_),fun m n g cs hm hl ht=>?_⟩;obtain⟨y,k1,k2⟩:=rU hm;cases y with
  | none=>cases k2
  | some n'=>
   obtain⟨t1,t2,t3⟩:=T.ids n' n k2.symm ht;obtain⟨t4,t5⟩:=hF.out m n' g cs k1 hl t1;exact⟨t2 t4,t3.trans t5⟩
 | ai e es=>
  obtain⟨J,N⟩:=D;show an _ _ _ _ _ (rho' m)/\kU _ _ (rho' m);rw[O trivial];refine⟨an.map J fun x u D=>?_,N.map⟩;cases x with
  | av x=>exact aE.ez T1 D
  | row e' bW=>exact D
def bp:List (Nat×AB)->Nat->AB
 | [],_=>.none
 | (n,b)::r,k=>match Nat.beq k n with
  | true=>b
  | false=>bp r k
structure Lu(S:Nat->Prop)(w:World)(P:Program)(rho:Nat->Value)(h:Nat->AB):Prop where
 hp:∀id,cd S w P bk rho h id (h id)
 dj:∀i j g,(h i).live->(h j).live->hasB w (h i) (rho i) g->hasB w (h j) (rho j) g->i=j
 lv:∀i g,(h i).live->hasB w (h i) (rho i) g->g<w.heap.size/\¬S g
def po(w:World)(rho:Nat->Value)(h:Nat->AB)(g:Nat):Prop:=∃i,(h i).live/\hasB w (h i) (rho i) g
def cR(C:Ctx)(f:FuncId)(args:List AV)(bX:List (Nat×AB))(r:AV)(fin:List (Nat×AB)):Prop:=
 (∃ fn : Func, C.P.funcs[f]? = some fn ∧ (fn.name == "runtime.NumGoroutine") = false ∧ fn.body.isNone = false) ∧
 ∀(S:Nat->Prop) (w:World) (vs:Array Value) (rho:Nat->Value),C.E S w->(∀b,S b->b<w.heap.size)->args.length=vs.size->Lu S w C.P rho (bp bX)->
  (∀(j:Nat) x v,args[j]?=some x->vs[j]?=some v->aE S w C.P bk rho (bp bX) x v)->
  Calls C.P f vs w fun e w'=>∃v S' rho',e=.returned v/\Fr (po w rho (bp bX)) w w'/\(∀b,S b->S' b)/\(∀b,S' b->b<w'.heap.size)/\(∀b,S' b->S b\/w.heap.size<=b\/po w rho (bp bX) b)/\
   (∀n,100000<=n->rho' n=rho n)/\Lu S' w' C.P rho' (bp fin)/\aE S' w' C.P bk rho' (bp fin) r v/\∀g,po w' rho' (bp fin) g->w.heap.size<=g\/po w rho (bp bX) g
def rV:List (Nat×Nat)->Nat->Option Nat
 | [],_=>none
 | (m,n)::r,k=>match Nat.beq k m with
  | true=>some n
  | false=>rV r k
def jE:List (Nat×Nat)->Nat->Option Nat
 | [],_=>none
 | (m,n)::r,k=>match Nat.beq k n with
  | true=>some m
  | false=>jE r k
def mR(mp:List (Nat×Nat))(k:Nat):Option Nat:=match rV mp k with
 | none=>some k
 | some n=>match Nat.ble 100000 n with
  | true=>some k
  | false=>none
def xq(mp:List (Nat×Nat))(fin:List (Nat×AB)):List (Nat×Nat)->(Nat->AB)->Nat->AB
 | [],h=>h
 | (m,n)::r,h=>ax (xq mp fin r h) m ((bp fin n).ez (jE mp))
structure Rp(mp:List (Nat×Nat))(bX fin:List (Nat×AB)):Prop where
 c1:(mp.map (·.1)).Nodup
 c2:(mp.map (·.2)).Nodup
 ob:∀x∈bX,x.1∈mp.map (·.2)
 fi:∀x∈fin,x.1∈mp.map (·.2)
 pn:∀x∈mp,100000<=x.1->100000<=x.2
 ro:∀x∈mp,100000<=x.2->(bp fin x.2).fD=none\/(bp fin x.2).fD=(bp bX x.2).fD
 th:∀x∈mp,100000<=x.2->(bp bX x.2).there
def Rq:AB->Bool
 | .none=>false
 | _=>true
def HJ:Option TypeId->Option TypeId->Bool
 | none,_=>true
 | some a,some b=>Nat.beq a b
 | _,_=>false
def M9(mp:List (Nat×Nat))(bX fin:List (Nat×AB)):Bool:=
 decide (mp.map (·.1)).Nodup&&(decide (mp.map (·.2)).Nodup&&(decide (∀x∈bX.map (·.1),x∈mp.map (·.2))&&(decide (∀x∈fin.map (·.1),x∈mp.map (·.2)) &&
  mp.all fun x=>(!Nat.ble 100000 x.1||Nat.ble 100000 x.2)&&(!Nat.ble 100000 x.2||(HJ (bp fin x.2).fD (bp bX x.2).fD&&Rq (bp bX x.2))))))
variable {mp:List (Nat×Nat)}
theorem D1{D fin:List (Nat×AB)}(h:M9 mp D fin=true):Rp mp D fin:=by
 simp only[M9,fH,dS,cC,oa,j8]at h;obtain⟨J,N,O,U,I⟩:=h;refine⟨J,N,fun x z=>O _ (fh.2 ⟨x,z,rfl⟩),fun x z=>U _ (fh.2 ⟨x,z,rfl⟩),fun x z hl=>?_,fun x z hl=>?_,fun x z hl=>?_⟩
 ·rcases (I x z).1 with h | h
  ·rw[eP hl]at h;cases h
  exact Tj h
 ·rcases (I x z).2 with h | h
  ·rw[eP hl]at h;cases h
  have:=h.1;unfold HJ at this;split at this
  ·rename_i e;exact .inl e
  ·rename_i a b Y Z;exact .inr (by rw[Y,Z,bq this])
  cases this
 rcases (I x z).2 with h | h
 ·rw[eP hl]at h;cases h
 have h:=h.2;cases hb:bp D x.2 with
 | none=>rw[hb]at h;cases h
 | _=>trivial
def Gg(mp:List (Nat×Nat))(bX:List (Nat×AB))(h:Nat->AB):List (Nat×Nat)->Prop
 | []=>True
 | (m,n)::r=>(h m).ez (rV mp)=bp bX n/\Gg mp bX h r
theorem AK{D:List (Nat×AB)}{h:Nat->AB}:∀{l:List (Nat×Nat)},Gg mp D h l->∀x∈l,(h x.1).ez (rV mp)=bp D x.2
 | (m,n)::r,hg,x,z=>by
  rcases fL.1 z with e | z
  ·subst e;exact hg.1
  exact AK hg.2 x z
theorem fO:∀{mp:List (Nat×Nat)} {k n:Nat},rV mp k=some n->(k,n)∈mp
 | (m,n')::r,k,n,h=>by
  unfold rV at h;split at h
  ·rename_i e;injection h with h;rw[bq e,h];exact dJ
  exact An _ (fO h)
theorem pq:∀{mp:List (Nat×Nat)} {k m:Nat},jE mp k=some m->(m,k)∈mp
 | (m',n')::r,k,m,h=>by
  unfold jE at h;split at h
  ·rename_i e;injection h with h;rw[bq e,h];exact dJ
  exact An _ (pq h)
theorem vu{a b:Nat}(h:a≠b):Nat.beq a b=false:=by
 rw[cr];intro e;exact h (bq e)
theorem tW(a:Nat):Nat.beq a a=true:=by simp
theorem lu:∀{mp:List (Nat×Nat)} {k n:Nat},(mp.map (·.1)).Nodup->(k,n)∈mp->rV mp k=some n
 | (m,n')::r,k,n,z,h=>by
  unfold rV;rcases fL.1 h with e | h
  ·injection e with D e2;subst D;subst e2;rw[tW]
  rw[qO,jc]at z;rw[vu fun e=>z.1 (by rw[<-e];exact fh.2 ⟨_,h,rfl⟩)];exact lu z.2 h
theorem oo:∀{mp:List (Nat×Nat)} {k m:Nat},(mp.map (·.2)).Nodup->(m,k)∈mp->jE mp k=some m
 | (m',n')::r,k,m,z,h=>by
  unfold jE;rcases fL.1 h with e | h
  ·injection e with D e2;subst D;subst e2;rw[tW]
  rw[qO,jc]at z;rw[vu fun e=>z.1 (by rw[<-e];exact fh.2 ⟨_,h,rfl⟩)];exact oo z.2 h
theorem AL{fin:List (Nat×AB)}{h:Nat->AB}:∀{l:List (Nat×Nat)} {k n:Nat},(l.map (·.1)).Nodup->(k,n)∈l->xq mp fin l h k=(bp fin n).ez (jE mp)
 | (m,n')::r,k,n,D,z=>by
  unfold xq;rcases fL.1 z with e | z
  ·injection e with I e2;subst I;subst e2;rw[ak]
  rw[qO,jc]at D;rw[au _ _ fun e=>D.1 (by rw[<-e];exact fh.2 ⟨_,z,rfl⟩)];exact AL D.2 z
theorem xr{fin:List (Nat×AB)}{h:Nat->AB}:∀{l:List (Nat×Nat)} {k:Nat},(∀n,(k,n) ∉ l)->xq mp fin l h k=h k
 | [],k,_=>rfl
 | (m,z)::r,k,hn=>by
  unfold xq;rw[au _ _ fun e=>hn z (by rw[e];exact dJ)];exact xr fun n D=>hn n (An _ D)
theorem lx:∀{z:List (Nat×AB)} {n:Nat},(bp z n).there->n∈z.map (·.1)
 | (m,b)::r,n,h=>by
  unfold bp at h;split at h
  ·rename_i e;rw[bq e];exact dJ
  exact An _ (lx h)
theorem eF{b:AB}(h:b.live):b.there:=by cases b<;>first | trivial | exact h.elim
def pr(C:Ctx)(f:FuncId)(cT:List AV)(d:Option Tmp)(K:AS->Prop)(s:AS):Prop:=
 ∃(mp:List (Nat×Nat)) (args:List AV) (bX:List (Nat×AB)) (r:AV) (fin:List (Nat×AB)),cR C f args bX r fin/\(M9 mp bX fin=true/\cT.map (AV.ez (rV mp))=args/\Gg mp bX s.h mp)/\
  K ⟨cU (fun j=>(s.t j).ez (mR mp)) d (r.ez (jE mp)),xq mp fin mp fun k=>(s.h k).ez (mR mp)⟩
theorem tX{A:jR}{o:Oper}{S:Nat->Prop}{s:AS}{a:Act}{w:World}{K:AS->Prop}{next:Act->World->Prop}{Q:Exit->Act->World->Prop}(hC:aL A.C)(hd:∀d,o.dst=some d->d<A.n)(sim:aU A bk bk S rho s a w)
  (hnext:∀s' S' rho' a' w',K s'->aU A bk bk S' rho' s' a' w'->next a' w')
  (f:FuncId) (cT:List AV) (vs:Array Value) (hl:cT.length=vs.size) (hrep:∀(i:Nat) x v,cT[i]?=some x->vs[i]?=some v->aE S w A.C.P bk rho s.h x v)
  (hrun : (∃ fn : Func, A.C.P.funcs[f]? = some fn ∧ (fn.name == "runtime.NumGoroutine") = false ∧ fn.body.isNone = false) → (execOp a.eval o).run A.C.P w = .ok (.enter f vs) w) (hq : pr A.C f cT o.dst K s) : o.wp A.C.P a w next Q := by
 obtain⟨mp,args,bX,r,fin,dX,⟨hok,o_,rK⟩,hk⟩:=hq;have ok:=D1 hok;have Gh:=AK rK;obtain⟨rn,Rr⟩:∃rn:Nat->Value,rn=fun n=>match jE mp n with
  | some m=>rho m
  | none=>.tuple #[]:=⟨_,rfl⟩
 have qe:∀m n,(m,n)∈mp->rn n=rho m:=fun m n h=>by rw[Rr];simp only[oo ok.c2 h]
 have nh:∀n,(bp bX n).there->∃m,(m,n)∈mp:=fun n h=>by
  obtain⟨x,hx,rfl⟩:=fh.1 (lx h);obtain⟨y,hy,e⟩:=fh.1 (ok.ob x hx);exact⟨y.1,by rw[<-e];exact hy⟩
 have Oc:∀n,(bp fin n).there->∃m,(m,n)∈mp:=fun n h=>by
  obtain⟨x,hx,rfl⟩:=fh.1 (lx h);obtain⟨y,hy,e⟩:=fh.1 (ok.fi x hx);exact⟨y.1,by rw[<-e];exact hy⟩
 have T1:tV S S w w bk bk rho rn s.h (bp bX) (rV mp):=
  ⟨fun _ h=>h,fun _ _=>rfl,fun k m hm ht=>by
   have dq:=fO hm;have:=Gh _ dq;simp only at this;rw[<-this,AB.l7]at ht;exact⟨ht,fun h=>h,qe k m dq⟩,fun k m e hm he=>by
   have:=Gh _ (fO hm);simp only at this;rw[<-this,AB.lp]at he;exact he⟩
 have HK:Lu S w A.C.P rn (bp bX):=by
  refine⟨fun n=>?_,fun i j g li lj hi hj=>?_,fun i g li hi=>?_⟩
  ·by_cases ht:(bp bX n).there
   ·obtain⟨m,hm⟩:=nh n ht;have:=Gh _ hm;simp only at this;rw[<-this];exact cd.ez T1 (fun _ _ _=>rfl) (fun _=>qe m n hm) (sim.hp m trivial)
   cases hb:bp bX n with
   | none=>trivial
   | _=>rw[hb]at ht;exact absurd trivial ht
  ·obtain⟨m,hm⟩:=nh i (eF li);obtain⟨m',mD⟩:=nh j (eF lj);have e1:=Gh _ hm;have e2:=Gh _ mD;simp only at e1 e2;rw[<-e1,AB.dZ]at li;rw[<-e2,AB.dZ]at lj;rw[<-e1,AB.fp,qe m i hm]at hi;rw[<-e2,AB.fp,qe m' j mD]at hj;have:=sim.dj m m' g trivial trivial li lj hi hj;subst this;have a1:=lu ok.c1 hm;rw[lu ok.c1 mD]at a1;exact (Option.some.inj a1).symm
  obtain⟨m,hm⟩:=nh i (eF li);have e1:=Gh _ hm;simp only at e1;rw[<-e1,AB.dZ]at li;rw[<-e1,AB.fp,qe m i hm]at hi;obtain⟨h1,h2,_⟩:=sim.lv m g trivial li hi;exact⟨h1,h2⟩
 have nn:∀g,po w rn (bp bX) g->∃m n,(m,n)∈mp/\(s.h m).live/\hasB w (s.h m) (rho m) g:=fun g ⟨i,li,hi⟩=>by
  obtain⟨m,hm⟩:=nh i (eF li);have e1:=Gh _ hm;simp only at e1;rw[<-e1,AB.dZ]at li;rw[<-e1,AB.fp,qe m i hm]at hi;exact⟨m,i,hm,li,hi⟩
 have key:=dX.2 S w vs rn sim.ev sim.st (by rw[<-o_,ct];exact hl) HK (fun j x v hx hv=>by
  rw[<-o_,ao]at hx;obtain⟨y,hy,rfl⟩:=az.1 hx;exact (hrep j y v hy hv).ez T1)
 refine gM (hrun dX.1) key fun e' w' fM=>?_;obtain⟨v,S',rho',rfl,hf,nX,PS,Od,D2,xu,hres,hown⟩:=fM;refine⟨v,rfl,?_⟩;obtain⟨r2,jb⟩:∃r2:Nat->Value,r2=fun k=>match rV mp k with
  | some n=>rho' n
  | none=>rho k:=⟨_,rfl⟩
 obtain⟨h2,Dq⟩:∃h2:Nat->AB,h2=xq mp fin mp fun k=>(s.h k).ez (mR mp):=⟨_,rfl⟩;have qf:∀m n,(m,n)∈mp->r2 m=rho' n:=fun m n h=>by rw[jb];simp only[lu ok.c1 h]
 have np:∀k,rV mp k=none->r2 k=rho k:=fun k h=>by rw[jb];simp only[h]
 have kE:∀m n,(m,n)∈mp->h2 m=(bp fin n).ez (jE mp):=fun m n h=>by rw[Dq];exact AL ok.c1 h
 have iG:∀k,rV mp k=none->h2 k=(s.h k).ez (mR mp):=fun k h=>by
  rw[Dq];exact xr fun n hm=>by rw[lu ok.c1 hm]at h;cases h
 have eE:∀b,S b->w'.heap[b]?=w.heap[b]?:=fun b hb=>hf.block b (sim.st b hb) fun ho=>by
  obtain⟨m,n,_,li,hi⟩:=nn b ho;exact (sim.lv m b trivial li hi).2.1 hb
 have T2:tV S S' w w' bk bk rho r2 s.h h2 (mR mp):=by
  refine⟨nX,eE,fun k m hm ht=>?_,fun k m e hm he=>?_⟩
  ·unfold mR at hm;split at hm
   ·rename_i hn;injection hm with hm;subst hm;rw[iG k hn,AB.l7]at ht;exact⟨ht,fun h=>h,np k hn⟩
   rename_i n hn;split at hm
   ·rename_i hp;injection hm with hm;subst hm;have dq:=fO hn;have hp:=Tj hp;have Oe:=ok.th _ dq hp;simp only at Oe;have e1:=Gh _ dq;simp only at e1;rw[<-e1,AB.l7]at Oe;exact⟨Oe,fun h=>h,by rw[qf k n dq,D2 n hp,qe k n dq]⟩
   cases hm
  unfold mR at hm;split at hm
  ·rename_i hn;injection hm with hm;subst hm;rw[iG k hn,AB.lp]at he;exact he
  rename_i n hn;split at hm
  ·rename_i hp;injection hm with hm;subst hm;have dq:=fO hn;have hp:=Tj hp;rw[kE k n dq,AB.lp]at he;have e1:=Gh _ dq;simp only at e1;rcases ok.ro _ dq hp with h | h
   ·simp only at h;rw[h]at he;cases he
   simp only at h;rw[h,<-e1,AB.lp]at he;exact he
  cases hm
 have T3:tV S' S' w' w' bk bk rho' r2 (bp fin) h2 (jE mp):=
  ⟨fun _ h=>h,fun _ _=>rfl,fun n m hm ht=>by
   have dq:=pq hm;rw[kE m n dq,AB.l7]at ht;exact⟨ht,fun h=>h,qf m n dq⟩,fun n m e hm he=>by
   have dq:=pq hm;rw[kE m n dq,AB.lp]at he;exact he⟩
 have stay:∀k,rV mp k=none->(s.h k).live->∀g,hasB w (s.h k) (rho k) g->w'.heap[g]?=w.heap[g]?:=fun k hk li g hg=>hf.block g (sim.lv k g trivial li hg).1 fun ho=>by
  obtain⟨m,n,hm,fE,mI⟩:=nn g ho;have:=sim.dj k m g trivial trivial li fE hg mI;subst this;rw[lu ok.c1 hm]at hk;cases hk
 have oh:∀k,rV mp k=none->(s.h k).live->∀g,hasB w' (s.h k) (rho k) g->hasB w (s.h k) (rho k) g:=fun k hk li g hg=>b_ (fun b hb=>stay k hk li b hb) hg;have aQ:aU A bk bk S' r2 ⟨fun j=>(s.t j).ez (mR mp),h2⟩ a w':=
 {tm:=fun j _=>(sim.tm j trivial).ez T2
  sz:=sim.sz,df:=sim.df,nb:=sim.nb
  pn:=fun id hid=>by
   cases hn:rV mp id with
   | none=>rw[np id hn];exact sim.pn id hid
   | some n=>
    have dq:=fO hn;rw[qf id n dq,D2 n (ok.pn _ dq hid),qe id n dq];exact sim.pn id hid
  ev:=hC.env _ _ _ _ sim.ev nX eE hf.size
  s0:=fun b h=>nX b (sim.s0 b h)
  st:=PS
  sb:=fun b hb=>by
   rcases Od b hb with h | h | h
   ·exact sim.sb b h
   ·exact .inr (.inr (bM sim.fr.size h))
   obtain⟨m,n,_,li,hi⟩:=nn b h;exact .inr (sim.lv m b trivial li hi).2.2
  hp:=fun k _=>by
   show cd _ _ _ _ _ _ _ (h2 k);cases hn:rV mp k with
   | none=>
    rw[iG k hn];exact cd.ez T2 (stay k hn) (fun _=>np k hn) (sim.hp k trivial)
   | some n=>
    have dq:=fO hn;rw[kE k n dq];exact cd.ez T3 (fun _ _ _=>rfl) (fun _=>qf k n dq) (xu.hp n)
  dj:=fun i j g _ _ li lj hi hj=>by
   have li:(h2 i).live:=li;have lj:(h2 j).live:=lj;have hi:hasB w' (h2 i) (r2 i) g:=hi;have hj:hasB w' (h2 j) (r2 j) g:=hj;have mixed:∀k n m,rV mp k=none->(s.h k).live->hasB w (s.h k) (rho k) g->(m,n)∈mp->(bp fin n).live->hasB w' (bp fin n) (rho' n) g->False:=fun k n m hk lk hg hm ln hn=>by
    rcases hown g ⟨n,ln,hn⟩ with h | h
    ·have:=(sim.lv k g trivial lk hg).1;omega
    obtain⟨m',n',mD,fE,mI⟩:=nn g h;have:=sim.dj k m' g trivial trivial lk fE hg mI;subst this;rw[lu ok.c1 mD]at hk;cases hk
   cases hn:rV mp i with
   | none=>
    rw[iG i hn,AB.dZ]at li;rw[iG i hn,AB.fp,np i hn]at hi;have hi:=oh i hn li g hi;cases xi:rV mp j with
    | none=>
     rw[iG j xi,AB.dZ]at lj;rw[iG j xi,AB.fp,np j xi]at hj;exact sim.dj i j g trivial trivial li lj hi (oh j xi lj g hj)
    | some n=>
     have dq:=fO xi;rw[kE j n dq,AB.dZ]at lj;rw[kE j n dq,AB.fp,qf j n dq]at hj;exact (mixed i n j hn li hi dq lj hj).elim
   | some n=>
    have dq:=fO hn;rw[kE i n dq,AB.dZ]at li;rw[kE i n dq,AB.fp,qf i n dq]at hi;cases xi:rV mp j with
    | none=>
     rw[iG j xi,AB.dZ]at lj;rw[iG j xi,AB.fp,np j xi]at hj;exact (mixed j n i xi lj (oh j xi lj g hj) dq li hi).elim
    | some n2=>
     have AN:=fO xi;rw[kE j n2 AN,AB.dZ]at lj;rw[kE j n2 AN,AB.fp,qf j n2 AN]at hj;have:=xu.dj n n2 g li lj hi hj;subst this;have a1:=oo ok.c2 dq;rw[oo ok.c2 AN]at a1;exact (Option.some.inj a1).symm
  lv:=fun k g _ lk hk=>by
   have lk:(h2 k).live:=lk;have hk:hasB w' (h2 k) (r2 k) g:=hk;cases hn:rV mp k with
   | none=>
    rw[iG k hn,AB.dZ]at lk;rw[iG k hn,AB.fp,np k hn]at hk;have hk:=oh k hn lk g hk;obtain⟨p1,p2,p3⟩:=sim.lv k g trivial lk hk;refine⟨bg p1 hf.size,fun hs=>?_,p3⟩;rcases Od g hs with h | h | h
    ·exact p2 h
    ·omega
    obtain⟨m',n',mD,fE,mI⟩:=nn g h;have:=sim.dj k m' g trivial trivial lk fE hk mI;subst this;rw[lu ok.c1 mD]at hn;cases hn
   | some n=>
    have dq:=fO hn;rw[kE k n dq,AB.dZ]at lk;rw[kE k n dq,AB.fp,qf k n dq]at hk;obtain⟨p1,p2⟩:=xu.lv n g lk hk;refine⟨p1,p2,?_⟩;rcases hown g ⟨n,lk,hk⟩ with h | h
    ·exact .inr (bM sim.fr.size h)
    obtain⟨m,n',_,li,hi⟩:=nn g h;exact (sim.lv m g trivial li hi).2.2
  fr:=sim.fr.trans hf fun b hb=>by
   obtain⟨m,n,_,li,hi⟩:=nn b hb;exact (sim.lv m b trivial li hi).2.2 }
 refine hnext _ S' r2 _ w' hk ?_;have hv:=aQ.value o.dst hd (r.ez (jE mp)) v (hres.ez T3);rw[<-Dq];exact { hv with tm:=fun j _=>hv.tm j (.inl trivial) }
def D3(d:Bool)(id:Nat)(x:AV):AV:=match d with
 | true=>x
 | false=>.ow id
def nq(C:Ctx)(o:Oper):Bool:=match o.op with
 | .call c=>match c.callee with
  | .invoke _ _=>true
  | .value g=>match g with
   | .func f=>C.nc f
   | _=>false
  | _=>false
 | _=>false
def nS(C:Ctx)(o:Oper)(K:AS->Prop)(s:AS):Prop:=match o.op with
 | .call c=>match c.callee with
  | .invoke r name=>match ev s.t r with
   | .ifp t (.ow id)=>match s.h id with
    | .cell _ _ x=>∃f d,u9 C.P t name f d/\pr C f (D3 d id x::c.args.toList.map (ev s.t)) o.dst K s
    | _=>False
   | _=>False
  | .value g=>match g with
   | .func f=>pr C f (c.args.toList.map (ev s.t)) o.dst K s
   | _=>False
  | _=>False
 | _=>False
theorem zi{P:Program}{w:World}{recv:Value}{t:TypeId}{u:Value}{name:String}{f:FuncId}{rv:Value}{args:Array Value}(hr:recv=.iface t u)(hm:(method (P.types.size+Made.depth) t u name).run P w=.ok (f,rv) w)
  (hfn : ∃ fn : Func, P.funcs[f]? = some fn ∧ (fn.name == "runtime.NumGoroutine") = false ∧ fn.body.isNone = false) : (invoke (.fn (.method name) #[]) (#[recv] ++ args)).run P w = .ok (.enter f (#[rv] ++ args)) w := by
 subst hr;have e0:(#[Value.iface t u]++args)[0]?=some (Value.iface t u):=by
  rw[vp (by simp)];rfl
 have e1:(#[Value.iface t u]++args).extract 1 (#[Value.iface t u]++args).size=args:=by
  apply gV;simp
 unfold invoke;simp only[e0,e1,callMethod,aI];have hp:(program:Sem Program).run P w=.ok P w:=rfl;rw[hp];simp only[nH,hm,aI];exact j9 hfn
theorem D4{A:jR}(hC:aL A.C){o:Oper}{S:Nat->Prop}{s:AS}{a:Act}{w:World}{K:AS->Prop}{next:Act->World->Prop}{Q:Exit->Act->World->Prop}(hd:∀d,o.dst=some d->d<A.n)(I:aU A bk bk S rho s a w)(D:nS A.C o K s)
  (J:∀s' S' rho' a' w',K s'->aU A bk bk S' rho' s' a' w'->next a' w'):o.wp A.C.P a w next Q:=by
 unfold nS at D;split at D
 case h_2=>exact D.elim
 rename_i c aq;obtain⟨callee,args,argTypes⟩:=c;have tq:∀(i:Nat) x v,(args.toList.map (ev s.t))[i]?=some x->(args.map a.eval)[i]?=some v->aE S w A.C.P bk rho s.h x v:=by
  intro i x v Z N;rw[ao]at Z;obtain⟨y,hy,rfl⟩:=az.1 Z;have qb:args[i]?=some y:=by simpa using hy
  rw[dU,qb]at N;simp at N;rw[<-N];exact aH I y fun _ _=>trivial
 split at D
 ·rename_i r name Y;simp only at Y;subst Y;have hr:=aH I r fun _ _=>trivial;split at D
  case h_2=>exact D.elim
  rename_i t id Rs;split at D
  case h_2=>exact D.elim
  rename_i c0 ty y O;obtain⟨f,d,hm,D⟩:=D;rw[Rs]at hr;obtain⟨u,N,hu⟩:=hr.Ay;obtain⟨hL,HL⟩:=hu.bu (by rw[O];trivial);have hh:=I.hp id hL;rw[O]at hh;obtain⟨g,off,cv,k1,k2,k3,k4,k5⟩:=hh;obtain⟨rv,Z,Rt⟩:∃rv,aE S w A.C.P bk rho s.h (D3 d id y) rv/\(method (A.C.P.types.size+Made.depth) t u name).run A.C.P w=.ok (f,rv) w:=by
   cases d with
   | false=>exact⟨u,hu,by rw[HL,k1];exact hm _ w⟩
   | true=>exact⟨cv,k5,by rw[HL,k1];exact hm _ cv w (by rw[cell_of_row w g off _ ty (0,0) k3,fg,qH rfl,qH k2])⟩
  refine tX hC hd I J f _ (#[rv]++args.map a.eval) (by simp;omega) (fun i z v hz N=>?_) (fun U=>?_) D
  ·cases i with
   | zero=>
    rw[vp (by simp)]at N;simp at hz N;subst hz;subst N;exact Z
   | succ i=>
    refine tq i z v (by simpa using hz) ?_;rw[l9 (by simp)]at N;simpa using N
  have:=zi (args:=args.map a.eval) N Rt U;simp only[execOp,aq,resolve,aI,jS,nH];exact this
 ·rename_i g Y;simp only at Y;subst Y;split at D
  case h_2=>exact D.elim
  rename_i f;refine tX hC hd I J f _ (args.map a.eval) (by simp) tq (fun U=>?_) D;have:a.eval (.func f)=.func (.func f) #[] #[]:=rfl;simp[execOp,aq,resolve,this,Deferred.ofValue,invoke,j9 U]
 exact D.elim
end Go.AM
namespace Go.AM
open Go.RowKit
def bB(a b:Nat):Bool:=Nat.beq a b
theorem aG{a b:Nat}:bB a b=true↔a=b:=by unfold bB;exact⟨bq,fun h=>by subst h;simp⟩
mutual
def kN(d:Nat):AV->Bool
 | .ow i=>bB i d
 | .rp i _ _=>bB i d
 | .bx i _=>bB i d
 | .vw i _ _=>bB i d
 | .fn _ cap=>eG d cap
 | .tu xs=>eG d xs
 | .st xs=>eG d xs
 | .ifp _ a=>kN d a
 | _=>false
def eG(d:Nat):List AV->Bool
 | []=>false
 | x::r=>kN d x||eG d r
end
def rn(i d:Nat):AV->AV
 | .ow k=>match bB k i with
  | true=>.ow d
  | false=>match bB k d with
   | true=>.junk
   | false=>.ow k
 | .rp k a b=>match bB k i with
  | true=>.rp d a b
  | false=>match bB k d with
   | true=>.junk
   | false=>.rp k a b
 | .bx k a=>match bB k i with
  | true=>.bx d a
  | false=>match bB k d with
   | true=>.junk
   | false=>.bx k a
 | .vw k a b=>match bB k i with
  | true=>.vw d a b
  | false=>match bB k d with
   | true=>.junk
   | false=>.vw k a b
 | .fn f cap=>match eG i cap||eG d cap with
  | true=>.junk
  | false=>.fn f cap
 | .tu xs=>match eG i xs||eG d xs with
  | true=>.junk
  | false=>.tu xs
 | .st xs=>match eG i xs||eG d xs with
  | true=>.junk
  | false=>.st xs
 | .ifp t a=>match kN i a||kN d a with
  | true=>.junk
  | false=>.ifp t a
 | x=>x
def Of(i d:Nat):FX->FX
 | some n=>match bB n i with
  | true=>some d
  | false=>match bB n d with
   | true=>none
   | false=>some n
 | none=>none
def Kr(d:Nat):FX->FX
 | some n=>match bB n d with
  | true=>none
  | false=>some n
 | none=>none
def D5(i d:Nat):AB->AB
 | .ai e es=>.ai e (es.map fun r=>r.map (HX.Te (rn i d)))
 | .box cs=>.box (cs.map (rn i d))
 | .eN ty cs=>.eN ty (cs.map (rn i d))
 | .cell c0 ty a=>.cell c0 ty (rn i d a)
 | .fam l out=>.fam l (tw (Of i d) out)
 | b=>b
def iT(i d:Nat)(s:AS):AS:=⟨fun j=>rn i d (s.t j),fun j=>match bB j d with
 | true=>D5 i d (s.h i)
 | false=>match bB j i with
  | true=>.none
  | false=>D5 i d (s.h j)⟩
def sc(d:Nat):AV->AV
 | .p x=>.p x
 | .nl=>.nl
 | .ow i=>match bB i d with
  | true=>.junk
  | false=>.ow i
 | .rp i a b=>match bB i d with
  | true=>.junk
  | false=>.rp i a b
 | .bx i a=>match bB i d with
  | true=>.junk
  | false=>.bx i a
 | .vw i a b=>match bB i d with
  | true=>.junk
  | false=>.vw i a b
 | .fn f cap=>match eG d cap with
  | true=>.junk
  | false=>.fn f cap
 | .tu xs=>match eG d xs with
  | true=>.junk
  | false=>.tu xs
 | .st xs=>match eG d xs with
  | true=>.junk
  | false=>.st xs
 | .ifp t a=>match kN d a with
  | true=>.junk
  | false=>.ifp t a
 | .junk=>.junk
theorem D6(d:Nat)(x:AV):sc d x=match kN d x with
  | true=>.junk
  | false=>x:=by cases x<;>rfl
def qX(d:Nat):AB->AB
 | .ai e es=>.ai e (es.map fun r=>r.map (HX.Te (sc d)))
 | .box cs=>.box (cs.map (sc d))
 | .eN ty cs=>.eN ty (cs.map (sc d))
 | .cell c0 ty a=>.cell c0 ty (sc d a)
 | .fam l out=>.fam l (tw (Kr d) out)
 | b=>b
def dH(d:Nat)(s:AS):AS:=⟨fun j=>sc d (s.t j),ax (fun k=>qX d (s.h k)) d .none⟩
theorem pw(i d:Nat)(b:AB):(D5 i d b).there↔b.there:=by cases b<;>rfl
theorem xv(i d:Nat)(b:AB):(D5 i d b).live↔b.live:=by cases b<;>rfl
structure rW(L L':Nat->Prop)(rho rho':Nat->Value)(h h':Nat->AB)(i d:Nat):Prop where
 old:∀k,k≠i->k≠d->((h' k).there->(h k).there)/\(L k->L' k)/\rho' k=rho k/\(∀e,(h' k).fD=some e->(h k).fD=some e)
 new:i≠d->((h' d).there->(h i).there)/\(L i->L' d)/\rho' d=rho i/\(∀e,(h' d).fD=some e->(h i).fD=some e)
variable {d:Nat}
theorem nA:∀{xs:List AV},eG d xs=false->∀x∈xs,kN d x=false:=by
 intro xs
 induction xs with
 | nil=>intro _ x z;cases z
 | cons y xs ih=>
  intro h x z;simp only[eG,fQ]at h;rcases fL.1 z with e | e
  ·rw[e];exact h.1
  exact ih h.2 x e
variable {L L':Nat->Prop} {rho rho':Nat->Value} {h':Nat->AB}
theorem aE.ka{S:Nat->Prop}{w:World}{P:Program}{h:Nat->AB}{i:Nat}(T:rW L L' rho rho' h h' i d){x:AV}{v:Value}(hx:aE S w P L rho h x v)(z:kN i x=false)(D:kN d x=false):aE S w P L' rho' h' x v:=by
 induction hx with
 | p x v hx=>exact .p x v hx
 | nl=>exact .nl
 | ow k v hv=>
  have J:k≠i:=fun e=>by rw[kN,aG.2 e]at z;cases z
  have N:k≠d:=fun e=>by rw[kN,aG.2 e]at D;cases D
  obtain⟨O,U,Y,Z⟩:=T.old k J N;exact .ow k v fun ht=>⟨U (hv (O ht)).1,by rw[Y];exact (hv (O ht)).2⟩
 | rp k a b v hv=>
  have J:k≠i:=fun e=>by rw[kN,aG.2 e]at z;cases z
  have N:k≠d:=fun e=>by rw[kN,aG.2 e]at D;cases D
  obtain⟨O,U,Y,Z⟩:=T.old k J N;exact .rp k a b v fun e he=>by obtain⟨q1,q2⟩:=hv e (Z e he);exact⟨U q1,by rw[Y];exact q2⟩
 | bx k a v hv=>
  have J:k≠i:=fun e=>by rw[kN,aG.2 e]at z;cases z
  have N:k≠d:=fun e=>by rw[kN,aG.2 e]at D;cases D
  obtain⟨O,U,Y,Z⟩:=T.old k J N;exact .bx k a v fun ht=>⟨U (hv (O ht)).1,by rw[Y];exact (hv (O ht)).2⟩
 | vw k a b v hv=>
  have J:k≠i:=fun e=>by rw[kN,aG.2 e]at z;cases z
  have N:k≠d:=fun e=>by rw[kN,aG.2 e]at D;cases D
  obtain⟨O,U,Y,Z⟩:=T.old k J N;exact .vw k a b v fun e he=>by obtain⟨q1,q2⟩:=hv e (Z e he);exact⟨U q1,by rw[Y];exact q2⟩
 | fn f cap vs hl hc ih=>exact .fn f cap vs hl fun j c u I hu=>ih j c u I hu (nA z c (aj I)) (nA D c (aj I))
 | tu xs vs hl hc ih=>exact .tu xs vs hl fun j c u I hu=>ih j c u I hu (nA z c (aj I)) (nA D c (aj I))
 | st xs vs hl h0 hc ih=>exact .st xs vs hl h0 fun j c u I hu=>ih j c u I hu (nA z c (aj I)) (nA D c (aj I))
 | ifp t a u hc ih=>exact .ifp t a u (ih z D)
 | junk v=>exact .junk v
theorem aE.rn{S:Nat->Prop}{w:World}{P:Program}{h:Nat->AB}{i:Nat}(T:rW L L' rho rho' h h' i d)(hid:i≠d\/∀k,k=d->¬(h' k).there ){x:AV}{v:Value}(hx:aE S w P L rho h x v):aE S w P L' rho' h' (rn i d x) v:=by
 have I:i=d->¬(h' d).there:=fun e=>hid.resolve_left (fun h=>h e) d rfl;cases hx with
 | p x v hx=>exact .p x v hx
 | nl=>exact .nl
 | ow k v hv=>
  unfold AM.rn;simp only;split
  ·rename_i z;have z:=aG.1 z;subst z;refine .ow d v fun N=>?_;by_cases e:k=d
   ·exact absurd N (I e)
   obtain⟨O,U,Y,t4⟩:=T.new e;exact⟨U (hv (O N)).1,by rw[Y];exact (hv (O N)).2⟩
  rename_i z;split
  ·exact .junk v
  rename_i Z;exact aE.ka T (.ow k v hv) (by simpa [kN] using z) (by simpa [kN] using Z)
 | rp k a b v hv=>
  unfold AM.rn;simp only;split
  ·rename_i z;have z:=aG.1 z;subst z;refine .rp d a b v fun e he=>?_;by_cases e':k=d
   ·exact absurd (fv he) (I e')
   obtain⟨O,U,Y,t4⟩:=T.new e';obtain⟨q1,q2⟩:=hv e (t4 e he);exact⟨U q1,by rw[Y];exact q2⟩
  rename_i z;split
  ·exact .junk v
  rename_i Z;exact aE.ka T (.rp k a b v hv) (by simpa [kN] using z) (by simpa [kN] using Z)
 | vw k a b v hv=>
  unfold AM.rn;simp only;split
  ·rename_i z;have z:=aG.1 z;subst z;refine .vw d a b v fun e he=>?_;by_cases e':k=d
   ·exact absurd (fv he) (I e')
   obtain⟨O,U,Y,t4⟩:=T.new e';obtain⟨q1,q2⟩:=hv e (t4 e he);exact⟨U q1,by rw[Y];exact q2⟩
  rename_i z;split
  ·exact .junk v
  rename_i Z;exact aE.ka T (.vw k a b v hv) (by simpa [kN] using z) (by simpa [kN] using Z)
 | bx k a v hv=>
  unfold AM.rn;simp only;split
  ·rename_i z;have z:=aG.1 z;subst z;refine .bx d a v fun N=>?_;by_cases e:k=d
   ·exact absurd N (I e)
   obtain⟨O,U,Y,t4⟩:=T.new e;exact⟨U (hv (O N)).1,by rw[Y];exact (hv (O N)).2⟩
  rename_i z;split
  ·exact .junk v
  rename_i Z;exact aE.ka T (.bx k a v hv) (by simpa [kN] using z) (by simpa [kN] using Z)
 | fn f cap vs hl hc=>
  unfold AM.rn;simp only;split
  ·exact .junk _
  rename_i D;simp only[fQ]at D;exact .fn f cap vs hl fun j c u J hu=>(hc j c u J hu).ka T (nA D.1 c (aj J)) (nA D.2 c (aj J))
 | tu xs vs hl hc=>
  unfold AM.rn;simp only;split
  ·exact .junk _
  rename_i D;simp only[fQ]at D;exact .tu xs vs hl fun j c u J hu=>(hc j c u J hu).ka T (nA D.1 c (aj J)) (nA D.2 c (aj J))
 | st xs vs hl h0 hc=>
  unfold AM.rn;simp only;split
  ·exact .junk _
  rename_i D;simp only[fQ]at D;exact .st xs vs hl h0 fun j c u J hu=>(hc j c u J hu).ka T (nA D.1 c (aj J)) (nA D.2 c (aj J))
 | ifp t a u hc=>
  unfold AM.rn;simp only;split
  ·exact .junk _
  rename_i D;simp only[fQ]at D;exact .ifp t a u (hc.ka T D.1 D.2)
 | junk v=>exact .junk v
theorem mY.rn{S:Nat->Prop}{w:World}{P:Program}{h:Nat->AB}{i:Nat}(T:rW L L' rho rho' h h' i d)(hid:i≠d){l:List (Nat×List HC)}{out:List (Nat×FX)}(J:mY S w P L rho h l out):mY S w P L' rho' h' l (tw (Of i d) out):=by
 refine⟨fun m g cs I N=>J.mem m g cs I (e_.1 N),fun m m' g g' cs dB k I mD N u_=>J.dis m m' g g' cs dB k I mD (e_.1 N) (e_.1 u_),fun m n g cs I hl ht=>?_⟩;obtain⟨y,k1,z⟩:=rU I;cases y with
 | none=>cases z
 | some n'=>
  unfold Of at z;simp only at z;split at z
  ·rename_i D;have D:=aG.1 D;subst D;injection z with z;subst z;obtain⟨O,U,Y,_⟩:=T.new hid;obtain⟨Z,t5⟩:=J.out m n' g cs k1 hl (O ht);exact⟨U Z,Y.trans t5⟩
  rename_i D;split at z
  ·cases z
  rename_i iS;injection z with z;subst z;obtain⟨O,U,Y,_⟩:=T.old n (fun e=>by rw[aG.2 e]at D;cases D) (fun e=>by rw[aG.2 e]at iS;cases iS);obtain⟨Z,t5⟩:=J.out m n g cs k1 hl (O ht);exact⟨U Z,Y.trans t5⟩
theorem mY.sc{S:Nat->Prop}{w:World}{P:Program}{h:Nat->AB}(T:rW L L' rho rho h h' d d){l:List (Nat×List HC)}{out:List (Nat×FX)}(I:mY S w P L rho h l out):mY S w P L' rho h' l (tw (Kr d) out):=by
 refine⟨fun m g cs D J=>I.mem m g cs D (e_.1 J),fun m U g Y cs Z k D mD J u_=>I.dis m U g Y cs Z k D mD (e_.1 J) (e_.1 u_),fun m n g cs D hl ht=>?_⟩;obtain⟨y,k1,z⟩:=rU D;cases y with
 | none=>cases z
 | some n'=>
  unfold Kr at z;simp only at z;split at z
  ·cases z
  rename_i N;injection z with z;subst z;have O:n≠d:=fun e=>by rw[aG.2 e]at N;cases N
  obtain⟨t1,t2,t3,_⟩:=T.old n O O;obtain⟨t4,t5⟩:=I.out m n g cs k1 hl (t1 ht);exact⟨t2 t4,t5⟩
theorem AO{w:World}(i d:Nat)(b:AB)(v:Value)(g:Nat):hasB w (D5 i d b) v g↔hasB w b v g:=by
 cases b with
 | ai e es=>exact pk
 | cell c0 ty a=>exact⟨fun h=>.inl (al rfl h),fun h=>.inl (al rfl h)⟩
 | fam l out=>exact pj
 | box cs=>exact⟨fun h=>.inl (al rfl h),fun h=>.inl (al rfl h)⟩
 | eN ty cs=>exact⟨fun h=>.inl (al rfl h),fun h=>.inl (al rfl h)⟩
 | _=>exact jU
variable {A:jR} {s:AS}
theorem aU.rename{S:Nat->Prop}{a:Act}{w:World}(D:aU A bk bk S rho s a w)(i d:Nat)(hid:i≠d)(hdb:d<100000):aU A bk bk S (fun j=>if j=d then rho i else rho j) (iT i d s) a w:=by
 have hd:(iT i d s).h d=D5 i d (s.h i):=by simp[iT,bB]
 have hi:(iT i d s).h i=.none:=by
  have:bB i d=false:=by rw[cr];intro e;exact hid (aG.1 e)
  simp only[iT,this,aG.2 rfl]
 have ho:∀k,k≠i->k≠d->(iT i d s).h k=D5 i d (s.h k):=fun k I J=>by
  have e1:bB k d=false:=by rw[cr];intro e;exact J (aG.1 e)
  have e2:bB k i=false:=by rw[cr];intro e;exact I (aG.1 e)
  simp[iT,e1,e2]
 have row:∀b e,(D5 i d b).fD=some e->b.fD=some e:=fun b e h=>by cases b<;>exact h
 have T:rW bk bk rho (fun j=>if j=d then rho i else rho j) s.h (iT i d s).h i d:=
  ⟨fun k I J=>by rw[ho k I J];exact⟨(pw _ _ _).1,fun h=>h,af J,row _⟩,fun _=>by rw[hd];exact⟨(pw _ _ _).1,fun h=>h,qH rfl,row _⟩⟩
 have Og:∀k,((iT i d s).h k).live->∃k',(s.h k').live/\(if k=d then rho i else rho k)=rho k'/\(k'=if k=d then i else k)/\∀v g,hasB w ((iT i d s).h k) v g↔hasB w (s.h k') v g:=by
  intro k hl;by_cases e:k=d
  ·subst e;rw[hd,xv]at hl;exact⟨i,hl,qH rfl,(qH rfl).symm,fun v g=>by rw[hd,AO]⟩
  by_cases e':k=i
  ·subst e';rw[hi]at hl;exact hl.elim
  rw[ho k e' e,xv]at hl;exact⟨k,hl,af e,(af e).symm,fun v g=>by rw[ho k e' e,AO]⟩
 have Z:∀k b,cd S w A.C.P bk rho s.h k b->∀k',(if k'=d then rho i else rho k')=rho k->cd S w A.C.P bk (fun j=>if j=d then rho i else rho j) (iT i d s).h k' (D5 i d b):=by
  intro k b hb k' O;cases b with
  | none=>trivial
  | row e es=>show an _ _ _ _ _ (if k'=d then rho i else rho k');rw[O];exact hb
  | f_ es=>show ay _ _ _ (if k'=d then rho i else rho k');rw[O];exact hb
  | jt es=>show ay _ _ _ (if k'=d then rho i else rho k');rw[O];exact hb
  | map mk es=>
   obtain⟨g,ms,N,I,J⟩:=hb;exact⟨g,ms,N,by simp only;rw[O];exact I,J⟩
  | iter mk es n cur=>
   obtain⟨g,mg,ms,N,seen,I,J⟩:=hb;exact⟨g,mg,ms,N,seen,by simp only;rw[O];exact I,J⟩
  | box cs=>
   obtain⟨g,ty,c,I,J,U,Y⟩:=hb;refine⟨g,ty,c,by simp only;rw[O];exact I,J,by simpa using U,fun j x u hj hu=>?_⟩;rw[ao]at hj;obtain⟨z,hz,rfl⟩:=az.1 hj;exact⟨(Y j z u hz hu).1,(Y j z u hz hu).2.rn T (.inl hid)⟩
  | eN ty cs=>
   obtain⟨g,c,I,J,U,Y⟩:=hb;refine⟨g,c,by simp only;rw[O];exact I,J,by simpa using U,fun j x u hj hu=>?_⟩;rw[ao]at hj;obtain⟨z,hz,rfl⟩:=az.1 hj;exact⟨(Y j z u hz hu).1,(Y j z u hz hu).2.rn T (.inl hid)⟩
  | cell c0 ty a=>
   obtain⟨g,off,v,I,J,U,Y,h5⟩:=hb;exact⟨g,off,v,by simp only;rw[O];exact I,J,U,Y,h5.rn T (.inl hid)⟩
  | fam l out=>
   obtain⟨I,hF⟩:=hb;exact⟨by simp only;rw[O];exact I,hF.rn T hid⟩
  | aA cs=>
   obtain⟨g,ty,c,I,J⟩:=hb;exact⟨g,ty,c,by simp only;rw[O];exact I,J⟩
  | ai e es=>
   obtain⟨I,J⟩:=hb;show an _ _ _ _ _ (if k'=d then rho i else rho k')/\kU _ _ (if k'=d then rho i else rho k');rw[O];refine⟨an.map I fun x u hx=>?_,J.map⟩;cases x with
   | av x=>exact aE.rn T (.inl hid) hx
   | row e' bW=>exact hx
 exact
 {tm:=fun j hj=>(D.tm j hj).rn T (.inl hid)
  sz:=D.sz,df:=D.df,nb:=D.nb,pn:=fun id h=>by show (if id=d then rho i else rho id)=_;rw[af (by omega)];exact D.pn id h,ev:=D.ev,s0:=D.s0,st:=D.st,sb:=D.sb
  hp:=fun k _=>by
   by_cases e:k=d
   ·subst e;rw[hd];exact Z i _ (D.hp i trivial) k (qH rfl)
   by_cases e':k=i
   ·subst e';rw[hi];trivial
   rw[ho k e' e];exact Z k _ (D.hp k trivial) k (af e)
  dj:=fun a b g _ _ la lb ha hb=>by
   obtain⟨a',I,J,U,h7⟩:=Og a la;obtain⟨b',Y,h5,h6,h8⟩:=Og b lb;have:=D.dj a' b' g trivial trivial I Y (by rw[<-h7,<-J];exact ha) (by rw[<-h8,<-h5];exact hb);rw[U,h6]at this;by_cases ea:a=d<;>by_cases eb:b=d
   ·rw[ea,eb]
   ·rw[qH ea,af eb]at this;rw[<-this]at lb;rw[hi]at lb;exact lb.elim
   ·rw[af ea,qH eb]at this;rw[this]at la;rw[hi]at la;exact la.elim
   rwa [af ea,af eb]at this
  lv:=fun k g _ lk O=>by
   obtain⟨k',I,J,_,U⟩:=Og k lk;exact D.lv k' g trivial I (by rw[<-U,<-J];exact O)
  fr:=D.fr }
theorem aE.sc{S:Nat->Prop}{w:World}{P:Program}{h:Nat->AB}(T:rW L L' rho rho h h' d d){x:AV}{v:Value}(D:aE S w P L rho h x v):aE S w P L' rho h' (sc d x) v:=by
 rw[D6];split
 ·exact .junk v
 rename_i z;exact D.ka T z z
theorem Cg(d:Nat)(b:AB):(qX d b).there↔b.there:=by cases b<;>rfl
theorem oq(d:Nat)(b:AB):(qX d b).live↔b.live:=by cases b<;>rfl
theorem qY{w:World}(d:Nat)(b:AB)(v:Value)(g:Nat):hasB w (qX d b) v g↔hasB w b v g:=by
 cases b with
 | ai e es=>exact pk
 | cell c0 ty a=>exact⟨fun h=>.inl (al rfl h),fun h=>.inl (al rfl h)⟩
 | fam l out=>exact pj
 | box cs=>exact⟨fun h=>.inl (al rfl h),fun h=>.inl (al rfl h)⟩
 | eN ty cs=>exact⟨fun h=>.inl (al rfl h),fun h=>.inl (al rfl h)⟩
 | _=>exact jU
theorem aU.HM{S:Nat->Prop}{a:Act}{w:World}(D:aU A bk L S rho s a w)(d:Nat)(b:AB):aU A bk (fun k=>L k/\k≠d) S rho ⟨(dH d s).t,ax (dH d s).h d b⟩ a w:=by
 have O:∀k,k≠d->ax (dH d s).h d b k=qX d (s.h k):=fun k hk=>by rw[au _ _ hk];show ax (fun k=>qX d (s.h k)) d AB.none k=_;rw[au _ _ hk]
 have row:∀x e,(qX d x).fD=some e->x.fD=some e:=fun x e h=>by cases x<;>exact h
 have T:rW L (fun k=>L k/\k≠d) rho rho s.h (ax (dH d s).h d b) d d:=
  ⟨fun k J _=>by rw[O k J];exact⟨(Cg _ _).1,fun h=>⟨h,J⟩,rfl,row _⟩,fun h=>absurd rfl h⟩
 exact
 {tm:=fun j N=>(D.tm j N).sc T
  sz:=D.sz,df:=D.df,nb:=D.nb,pn:=D.pn,ev:=D.ev,s0:=D.s0,st:=D.st,sb:=D.sb
  hp:=fun k hk=>by
   show cd _ _ _ _ _ _ _ (ax (dH d s).h d b k);rw[O k hk.2];have I:=D.hp k hk.1;cases hb:s.h k with
   | none=>trivial
   | row e es=>rw[hb]at I;exact I
   | f_ es=>rw[hb]at I;exact I
   | jt es=>rw[hb]at I;exact I
   | map mk es=>rw[hb]at I;exact I
   | iter mk es n cur=>rw[hb]at I;exact I
   | box cs=>
    rw[hb]at I;obtain⟨g,ty,c,J,U,h3,Y⟩:=I;refine⟨g,ty,c,J,U,by simpa using h3,fun j x u N hu=>?_⟩;rw[ao]at N;obtain⟨z,hz,rfl⟩:=az.1 N;exact⟨(Y j z u hz hu).1,(Y j z u hz hu).2.sc T⟩
   | eN ty cs=>
    rw[hb]at I;obtain⟨g,c,J,U,h3,Y⟩:=I;refine⟨g,c,J,U,by simpa using h3,fun j x u N hu=>?_⟩;rw[ao]at N;obtain⟨z,hz,rfl⟩:=az.1 N;exact⟨(Y j z u hz hu).1,(Y j z u hz hu).2.sc T⟩
   | aA cs=>rw[hb]at I;exact I
   | cell c0 ty a=>
    rw[hb]at I;obtain⟨g,off,v,J,U,h3,Y,h5⟩:=I;exact⟨g,off,v,J,U,h3,Y,h5.sc T⟩
   | fam l out=>
    rw[hb]at I;obtain⟨J,hF⟩:=I;exact⟨J,hF.sc T⟩
   | ai e es=>
    rw[hb]at I;obtain⟨J,U⟩:=I;refine⟨an.map J fun x u hx=>?_,U.map⟩;cases x with
    | av x=>exact aE.sc T hx
    | row e' bW=>exact hx
  dj:=fun i j g Z N li lj cK dW=>by
   have fE:(ax (dH d s).h d b i).live:=li;have Lv:(ax (dH d s).h d b j).live:=lj;have cK:hasB w (ax (dH d s).h d b i) (rho i) g:=cK;have dW:hasB w (ax (dH d s).h d b j) (rho j) g:=dW;rw[O i Z.2,oq]at fE;rw[O j N.2,oq]at Lv;rw[O i Z.2,qY]at cK;rw[O j N.2,qY]at dW;exact D.dj i j g Z.1 N.1 fE Lv cK dW
  lv:=fun i g Z li hg=>by
   have fE:(ax (dH d s).h d b i).live:=li;have hg:hasB w (ax (dH d s).h d b i) (rho i) g:=hg;rw[O i Z.2,oq]at fE;rw[O i Z.2,qY]at hg;exact D.lv i g Z.1 fE hg
  fr:=D.fr }
theorem aU.jF{V V' S:Nat->Prop}{a:Act}{w:World}(z:aU A V L S rho s a w)(D:∀j,V' j->V j)(I:∀i,L' i↔L i):aU A V' L' S rho s a w:=by
 have e:L'=L:=funext fun i=>propext (I i);subst e;exact { z with tm:=fun j J=>z.tm j (D j J) }
theorem aU.AP{V S:Nat->Prop}{a:Act}{w:World}(d:Nat)(z:aU A V (fun k=>k≠d) S rho s a w)(J:s.h d=.none):aU A V bk S rho s a w:=by
 have T:fu S S w w (fun k=>k≠d) bk rho rho s.h s.h:=⟨fun b h=>h,fun _ _=>rfl,fun k I=>⟨I,fun _=>⟨trivial,rfl⟩⟩,fun k e h=>h⟩;have nl:∀k,(s.h k).live->k≠d:=fun k I e=>by rw[e,J]at I;exact I
 exact
 {tm:=fun j O=>(z.tm j O).bA T
  sz:=z.sz,df:=z.df,nb:=z.nb,pn:=z.pn,ev:=z.ev,s0:=z.s0,st:=z.st,sb:=z.sb
  hp:=fun k _=>by
   by_cases e:k=d
   ·subst e;rw[J];trivial
   exact (z.hp k e).bA T (fun _ _ _=>rfl) (fun _=>rfl)
  dj:=fun i j g _ _ D N=>z.dj i j g (nl i D) (nl j N) D N
  lv:=fun i g _ D=>z.lv i g (nl i D) D
  fr:=z.fr }
theorem aU.free{S:Nat->Prop}{a:Act}{w:World}(z:aU A bk bk S rho s a w)(d:Nat)(b:AB):aU A bk (fun k=>k≠d) S rho ⟨(dH d s).t,ax (dH d s).h d b⟩ a w:=
 (z.HM d b).jF (fun _ _=>trivial) (fun _=>⟨fun h=>⟨trivial,h⟩,fun h=>h.2⟩)
def ly:Op->Bool
 | .box _ _ | .alloc _ | .buildSlice _ _ _ | .makeSlice _ _ _ | .makeMap _ _ | .range _ _=>true
 | .call c=>match c.callee with
  | .builtin .append=>true
  | .value _=>true
  | _=>false
 | _=>false
def jA(h:Nat->AB)(d:Nat):Option AB->Nat->AB
 | none=>h
 | some b=>ax h d b
def rX:AV->Bool
 | .p (.sl [])=>true
 | _=>false
def IX:AV->Bool
 | .nl=>true
 | _=>false
def Oh:BinOp->Bool
 | .eql=>true
 | .neq=>true
 | _=>false
def Gi(C:Ctx)(o:Oper)(t:Nat->AV):Bool:=match o.op with
 | .binOp op ty x y _=>Oh op&&IX (ev t y)&&rX (ev t x)&&(match C.T ty with
  | some { ud:=.sl _,.. }=>true
  | _=>false)
 | _=>false
def AQ(d:Option Tmp)(v:AV)(K:AS->Prop)(s:AS):Prop:=match v with
 | .bx id 0=>match s.h id with
  | .iter mk es k _=>(k=0->K ⟨cU s.t d (.tu [.p (.im (.bool false))]),s.h⟩)/\∀(i:Nat) (p:Value×Value) (k':Nat),es[i]?=some p->k' < k->K ⟨cU s.t d (.tu [.p (.im (.bool true)),.p (.im p.1),.p (.im p.2)]),ax s.h id (.iter mk es k' (some p))⟩
  | _=>False
 | _=>False
def rY(C:Ctx)(o:Oper)(K:AS->Prop)(s:AS):Prop:=
 match ly o.op with
 | true=>aZ C o (ev (dH (o.dst.getD 0) s).t) (dH (o.dst.getD 0) s).h fun v eff new=>K ⟨cU (dH (o.dst.getD 0) s).t o.dst v,match new with
   | none=>ax (app (dH (o.dst.getD 0) s).h eff) (o.dst.getD 0) .none
   | some b=>app (ax (dH (o.dst.getD 0) s).h (o.dst.getD 0) b) eff⟩
 | false=>match o.op,o.dst with
  | .assign x,some d=>match ev s.t x with
   | .ow i=>match s.h i with
    | .row _ _=>match bB i d with
     | true=>K ⟨ax s.t d (.ow i),s.h⟩
     | false=>K ⟨ax (iT i d s).t d (.ow d),(iT i d s).h⟩
    | .ai _ _=>match bB i d with
     | true=>K ⟨ax s.t d (.ow i),s.h⟩
     | false=>K ⟨ax (iT i d s).t d (.ow d),(iT i d s).h⟩
    | _=>K ⟨ax s.t d (.ow i),s.h⟩
   | v=>K ⟨ax s.t d v,s.h⟩
  | .next x false,d=>AQ d (ev s.t x) K s
  | _,_=>aZ C o (ev s.t) s.h fun v eff new=>match new with
   | none=>K ⟨cU s.t o.dst v,app s.h eff⟩
   | some _=>False
def step(C:Ctx)(o:Oper)(K:AS->Prop)(s:AS):Prop:=match Gi C o s.t with
 | true=>K ⟨cU s.t o.dst (.p (.im (.bool true))),s.h⟩/\K ⟨cU s.t o.dst (.p (.im (.bool false))),s.h⟩
 | false=>match nq C o with
  | true=>nS C o K s
  | false=>rY C o K s
def gP(o:Oper)(n:Nat):Prop:=∀d,o.dst=some d->d<n
theorem xw(hC:aL A.C){o:Oper}{S:Nat->Prop}{a:Act}{w:World}{K:AS->Prop}{next:Act->World->Prop}{Q:Exit->Act->World->Prop}(hd:gP o A.n)(J:aU A bk bk S rho s a w)(I:rY A.C o K s)
  (z:∀s' S' rho' a' w',K s'->aU A bk bk S' rho' s' a' w'->next a' w'):o.wp A.C.P a w next Q:=by
 have plain:∀K':KK,aZ A.C o (ev s.t) s.h K'->(∀v eff b,¬K' v eff (some b))->(∀v eff,K' v eff none->K ⟨cU s.t o.dst v,app s.h eff⟩)->o.wp A.C.P a w next Q:=by
  intro K' I U h2;refine D0 A o _ _ _ _ _ _ _ K' next Q hC J (fun _ _=>trivial) hd I (fun v eff b h=>absurd h (U v eff b)) fun v eff new S' rho' a' w' hk aQ=>?_
  cases new with
  | some b=>exact absurd hk (U v eff b)
  | none=>exact z _ _ _ _ _ (h2 v eff hk) (aQ.jF (fun _ _=>.inl trivial) (fun _=>jU))
 unfold rY at I;split at I
 ·have Oi:∀n,Ext (dH (o.dst.getD 0) s).h (jA (dH (o.dst.getD 0) s).h (o.dst.getD 0) n):=fun n k=>by
   cases n with
   | none=>exact .inr rfl
   | some b=>
    by_cases e:k=o.dst.getD 0
    ·subst e;exact .inl (by show ax (fun k=>qX (o.dst.getD 0) (s.h k)) _ AB.none _=_;rw[ak])
    exact .inr (au _ _ e)
  obtain⟨v,eff,new,hk,It⟩:=l6 (fun _=>.inr rfl) I;obtain⟨v2,e2,n2,⟨rfl,rfl,rfl⟩,yE⟩:=l6 (Oi new) (It (fun v' e' n'=>v'=v/\e'=eff/\n'=new) ⟨rfl,rfl,rfl⟩);have kY:=yE (fun v' e' n'=>v'=v2/\e'=e2/\n'=n2) ⟨rfl,rfl,rfl⟩;have gQ:aU A bk (fun k=>k≠o.dst.getD 0) S rho ⟨(dH (o.dst.getD 0) s).t,jA (dH (o.dst.getD 0) s).h (o.dst.getD 0) n2⟩ a w:=by
   have:=J.free (o.dst.getD 0) (match n2 with | none=>.none | some b=>b);cases n2 with
   | some b=>exact this
   | none=>
    have e:ax (dH (o.dst.getD 0) s).h (o.dst.getD 0) .none=(dH (o.dst.getD 0) s).h:=eX _ _ _ (by show ax (fun k=>qX (o.dst.getD 0) (s.h k)) _ AB.none _=_;rw[ak]);simp only at this;rw[e]at this;exact this
  refine D0 A o _ _ _ _ _ _ _ _ next Q hC gQ (fun _ _=>trivial) hd kY (fun v eff b h=>?_) fun v eff new S' rho' a' w' mF aQ=>?_
  ·obtain⟨_,_,rfl⟩:=h;exact⟨fun h=>h rfl,ak _ _ _⟩
  obtain⟨rfl,rfl,rfl⟩:=mF;refine z _ S' rho' _ _ hk ?_;cases new with
  | some b=>exact aQ.jF (V':=bk) (L':=bk) (fun _ _=>.inl trivial) (fun k=>⟨fun _=>by by_cases e:k=o.dst.getD 0;exact .inr e;exact .inl e,fun _=>trivial⟩)
  | none=>exact ((aQ.kill (o.dst.getD 0)).AP _ (ak _ _ _)).jF (fun _ _=>.inl trivial) (fun _=>jU)
 split at I
 ·rename_i x d aq hZ;have run:(execOp a.eval o).run A.C.P w=.ok (.value (a.eval x)) w:=by simp[execOp,aq]
  have hx:=aH J x (fun _ _=>trivial);have same:∀v,ev s.t x=v->K ⟨ax s.t d v,s.h⟩->o.wp A.C.P a w next Q:=fun v O hk=>by
   refine bS run (z _ S rho _ _ hk ?_);have:=(J.value o.dst hd v _ (by rw[<-O];exact hx)).jF (V':=bk) (L':=bk) (fun _ _=>.inl trivial) (fun _=>jU);rw[hZ]at this ⊢;exact this
  have ez:∀i,ev s.t x=.ow i->bB i d=false->K ⟨ax (iT i d s).t d (.ow d),(iT i d s).h⟩->o.wp A.C.P a w next Q:=fun i Z bO I=>by
     have hid:i≠d:=fun e=>by rw[aG.2 e]at bO;cases bO
     refine bS run (z _ S (fun j=>if j=d then rho i else rho j) _ _ I ?_);have gQ:=J.rename i d hid (bg (hd d hZ) J.nb);have Oj:aE S w A.C.P bk (fun j=>if j=d then rho i else rho j) (iT i d s).h (.ow d) (a.eval x):=by
      rw[Z]at hx;refine .ow d _ fun ht=>⟨trivial,?_⟩;have:(s.h i).there:=by simpa [iT,aG.2 rfl,pw] using ht
      rw[(hx.bu this).2];simp
     have:=(gQ.value o.dst hd (.ow d) _ Oj).jF (V':=bk) (L':=bk) (fun _ _=>.inl trivial) (fun _=>jU);rw[hZ]at this ⊢;exact this
  split at I
  ·rename_i i Z;split at I
   ·split at I
    ·exact same _ Z I
    rename_i bO;exact ez i Z bO I
   ·split at I
    ·exact same _ Z I
    rename_i bO;exact ez i Z bO I
   exact same _ Z I
  exact same _ rfl I
 ·rename_i x aq;have hx:=aH J x (fun _ _=>trivial);unfold AQ at I;split at I
  case h_2=>exact I.elim
  rename_i id hid;split at I
  case h_2=>exact I.elim
  rename_i mk es k cur hit;rw[hid]at hx;obtain⟨hL,g',eY,O⟩:=hx.dt (by rw[hit];trivial);have hh:=J.hp id hL;rw[hit]at hh;obtain⟨g,mg,ms,D,N,U,h2,h3,h4,h5,h6,_⟩:=hh;have eg:g'=g:=by rw[eY]at U;injection U with U;injection U with U;injection U
  subst eg;rcases run_next_at (P:=A.C.P) w o.type g' mg D N ms h2 h4 h5.2.2.2 with⟨q1,q2⟩ | ⟨e,he,w1,q1,q2,q3,q4,q5⟩
  ·refine bS (by simp only[execOp,aq,O,aI,q2,nH,jS];rfl) (z _ S rho _ _ (I.1 (by rw[<-h6,q1])) ((J.value o.dst hd _ _ (.tu _ _ rfl fun i c v Y O=>?_)).jF (V':=bk) (L':=bk) (fun _ _=>.inl trivial) (fun _=>jU)))
   match i with
   | 0=>simp at Y O;subst Y O;exact .p _ _ (.im _)
   | i+1=>simp at Y
  have PT:e∈ms.toList:=by
   have:=he;simp[leftOf]at this;simpa using this.1
  obtain⟨i,Z⟩:=List.getElem?_of_mem PT;have WC:i<es.length:=by rw[<-h5.1];have:=(cL.1 Z).1;simpa using this
  obtain⟨p,hp⟩:∃p,es[i]?=some p:=⟨_,aM WC⟩;obtain⟨k1,k2,k3⟩:=h5.2.1 i p e hp (by simpa using Z);have aN:(s.h id).live:=by rw[hit];trivial
  obtain⟨g1,g2⟩:=MapKept.heap_set (o':=.mapIter (some mg) D (N.push e.born) D) h2;have Ru:mg≠g':=fun e=>by rw[e,h2]at h4;cases h4
  have cF:=J.write hC id hL aN (.iter mk es (leftOf ms (N.push e.born)).size (some p)) (fun _ h=>by cases h) { w1 with heap:=w.heap.setIfInBounds g' (.mapIter (some mg) D (N.push e.born) D) } q2 q3 q4 (by simp) (fun k hk=>g2 k fun e=>hk (by rw[U,e];rfl)) fun T=>
   ⟨g',mg,ms,D,N.push e.born,U,g1,h3,(g2 mg Ru).trans h4,h5,rfl,fun p' FC=>by cases FC;exact⟨e,PT,N,rfl,k1,k3⟩⟩
  refine bS (by simp only[execOp,aq,O,aI,q5,nH,jS];rfl) (z _ S rho _ _ (I.2 i p _ hp (by rw[<-h6];exact BS he)) ((cF.value o.dst hd _ _ (.tu _ _ rfl fun i c v Y O=>?_)).jF (V':=bk) (L':=bk) (fun _ _=>.inl trivial) (fun _=>jU)))
  match i with
  | 0=>simp at Y O;subst Y O;exact .p _ _ (.im _)
  | 1=>simp at Y O;subst Y O;rw[k1];exact .p _ _ (.im _)
  | 2=>simp at Y O;subst Y O;rw[k3];exact .p _ _ (.im _)
  | i+3=>simp at Y
 refine plain _ I (fun v eff b h=>h) (fun v eff h=>h)
theorem vv{x:AV}(h:rX x=true):x=.p (.sl []):=by
 unfold rX at h;split at h
 ·rfl
 cases h
theorem D7{x:AV}(h:IX x=true):x=.nl:=by unfold IX at h;split at h;rfl;cases h
theorem zk(hC:aL A.C){o:Oper}{S:Nat->Prop}{a:Act}{w:World}{K:AS->Prop}{next:Act->World->Prop}{Q:Exit->Act->World->Prop}(O:gP o A.n)(D:aU A bk bk S rho s a w)(I:step A.C o K s)
  (z:∀Z S' rho' a' w',K Z->aU A bk bk S' rho' Z a' w'->next a' w'):o.wp A.C.P a w next Q:=by
 unfold step at I;split at I
 ·rename_i J;unfold Gi at J;split at J
  ·rename_i op ty x y Sz aq;simp only[fH]at J;obtain⟨⟨⟨h1,h3⟩,h2⟩,h4⟩:=J;split at h4
   case h_2=>cases h4
   rename_i e size bytes zero eq hT;have U:=(hC.eL ty _ hT).under;simp only at U;have hx:=aH D x (fun _ _=>trivial);have Y:=aH D y (fun _ _=>trivial);rw[vv h2]at hx;rw[D7 h3]at Y;obtain⟨ad,c,hv,_⟩:=hx.cb.WN;have qb:a.eval y=.slice none 0 0:=by generalize a.eval y=v at Y;cases Y;rfl
   have fin:∀b:Bool,(execOp a.eval o).run A.C.P w=.ok (.value (.bool b)) w->o.wp A.C.P a w next Q:=fun b N=>by
    refine bS N (z ⟨cU s.t o.dst (.p (.im (.bool b))),s.h⟩ S rho _ _ ?_ ?_)
    ·cases b
     ·exact I.2
     exact I.1
    exact (D.value o.dst O (.p (.im (.bool b))) _ (.p _ _ (.im _))).jF (V':=bk) (L':=bk) (fun _ _=>.inl trivial) (fun _=>jU)
   cases op<;>first | (cases h1;done) | skip
   ·refine fin ad.isNone ?_;simp[execOp,aq,hv,qb,eqGuard,binOp,dL _ _ _ _ _ _ U]
   refine fin (!ad.isNone) ?_;simp[execOp,aq,hv,qb,eqGuard,binOp,dL _ _ _ _ _ _ U]
  cases J
 split at I
 ·exact D4 hC O D I z
 exact xw hC O D I z
end Go.AM
namespace Go.AM
open Go.RowKit
def kF(b:Bool)(p q:Prop):Prop:=match b with
 | true=>p
 | false=>q
def fP(b:Bool):AV:=.p (.im (.bool b))
def mK:AV:=.p (.im undef)
def D8:Value->Option Bool
 | .bool b=>some b
 | _=>none
def Lw(v:Value)(want:Bool):Bool:=D8 v==some want
def kO(C:Ctx)(all:List Oper):List Oper->(AS->Prop)->AS->Prop
 | [],K,s=>K s
 | o::r,K,s=>match o.guard with
  | none=>step C o (kO C all r K) s
  | some (g,want)=>match all[g]? with
   | none=>False
   | some og=>match og.dst with
    | none=>False
    | some tg=>match s.t tg with
     | .p (.im (.bool b))=>kF b
       (match want with
        | true=>step C o (kO C all r K) ⟨ax s.t tg (fP true),s.h⟩
        | false=>kO C all r K ⟨cU (ax s.t tg (fP true)) o.dst mK,s.h⟩)
       (match want with
        | false=>step C o (kO C all r K) ⟨ax s.t tg (fP false),s.h⟩
        | true=>kO C all r K ⟨cU (ax s.t tg (fP false)) o.dst mK,s.h⟩)
     | .p (.im (.tuple _))=>kO C all r K ⟨cU s.t o.dst mK,s.h⟩
     | _=>False
variable {A:jR} {s:AS}
theorem kb{V L S:Nat->Prop}{rho:Nat->Value}{a:Act}{w:World}(D:aU A V L S rho s a w){ops:Array Oper}{g z:Nat}{I:Oper}{v:Value}(O:ops[g]?=some I)(U:I.dst=some z)(Y:V z)(Z:s.t z=.p (.im v)):yielded ops a.tmps g=D8 v:=by
 have J:=D.tm z Y;rw[Z]at J;have N:a.tmps.getD z undef=v:=J.bc;rw[lU]at N;subst N;unfold yielded D8;rw[O];simp only[Option.bind_some,U];cases h:a.tmps[z]? with
 | none=>rfl
 | some v=>simp only[fR];split<;>simp_all
theorem zl(hC:aL A.C){ops:Array Oper}{Q:Exit->Act->World->Prop}{K:AS->Prop}(cG:∀s S rho a w,K s->aU A bk bk S rho s a w->Q .normal a w):
  ∀(l:List Oper) (k:Nat) (s:AS) (S:Nat->Prop) (rho:Nat->Value) (a:Act) (w:World),(∀j,l[j]?=ops[k+j]?)->(∀o∈l,gP o A.n)->kO A.C ops.toList l K s->aU A bk bk S rho s a w->wpOps A.C.P ops Q (List.range' k l.length) a w:=by
 intro l
 induction l with
 | nil=>intro k s S rho a w _ _ D z;exact cG s S rho a w D z
 | cons o l ih=>
  intro k s S rho a w hl Y D z;have h0:ops[k]?=some o:=by simpa using (hl 0).symm
  have Z:∀j,l[j]?=ops[k+1+j]?:=fun j=>by have:=hl (j+1);simpa [br,Nat.add_comm 1 j] using this
  have tY:∀o∈l,gP o A.n:=fun o ho=>Y o (by simp[ho]);have YL:=Y o (by simp);rw[bw,List.range'_succ];simp only[wpOps,h0];have run:∀(s:AS),step A.C o (kO A.C ops.toList l K) s->aU A bk bk S rho s a w->o.wp A.C.P a w (wpOps A.C.P ops Q (List.range' (k+1) l.length)) Q:=fun s hs z=>
   zk hC YL z hs fun s' S' rho' a' w' hk aQ=>ih (k+1) s' S' rho' a' w' Z tY hk aQ
  have skip:∀(t:Nat->AV),kO A.C ops.toList l K ⟨cU t o.dst mK,s.h⟩->aU A bk bk S rho ⟨t,s.h⟩ a w->wpOps A.C.P ops Q (List.range' (k+1) l.length) (a.put o.dst undef) w:=fun t hs z=>by
   have:=(z.value o.dst YL mK undef (.p _ _ (.im _))).jF (V':=bk) (L':=bk) (fun _ _=>.inl trivial) (fun _=>jU);exact ih (k+1) _ S rho _ w Z tY hs this
  unfold kO at D;split at D
  ·rename_i J;rw[qH (by simp[Region.wanted,J])];exact .inl (run s D z)
  rename_i g I J;split at D
  ·exact D.elim
  rename_i og IY;split at D
  ·exact D.elim
  rename_i tg IZ;split at D
  ·rename_i b hb;have O:=kb z (ops:=ops) (g:=g) (by simpa using IY) IZ trivial hb;have N:∀b',b=b'->ax s.t tg (fP b')=s.t:=fun b' e=>eX _ _ _ (by rw[hb,e];rfl);have U:Region.wanted o (yielded ops a.tmps)=(some b==some I):=by simp[Region.wanted,J,O,D8]
   rw[U];cases b<;>cases I<;>simp only[kF]at D
   ·rw[N false rfl]at D;rw[qH (by decide)];exact .inl (run s D z)
   ·rw[N false rfl]at D;rw[af (by decide)];exact skip s.t D z
   ·rw[N true rfl]at D;rw[af (by decide)];exact skip s.t D z
   rw[N true rfl]at D;rw[qH (by decide)];exact .inl (run s D z)
  ·rename_i q hb;have O:=kb z (ops:=ops) (g:=g) (by simpa using IY) IZ trivial hb;have U:Region.wanted o (yielded ops a.tmps)=false:=by simp[Region.wanted,J,O,D8]
   rw[U,af (by decide)];exact skip s.t D z
  exact D.elim
def W(A:jR)(c:Code)(K:Exit->AS->Prop)(s:AS):Prop:=
 ∀S rho a w,aU A bk bk S rho s a w->c.wp A.C.P (fun e a' w'=>∃S' rho' s',aU A bk bk S' rho' s' a' w'/\K e s') a w
theorem Lz{x y:Code}{K:Exit->AS->Prop}(h:W A x (fun e z=>match e with | .normal=>W A y K z | e=>K e z) s):W A (.seq x y) K s:=by
 intro S rho a w J;refine wp_seq (wp_mono (h S rho a w J) fun e N w' O=>?_);obtain⟨S',rho',z,D,I⟩:=O;cases e with
 | normal=>exact I S' rho' N w' D
 | exit id=>exact⟨S',rho',z,D,I⟩
 | goto l=>exact⟨S',rho',z,D,I⟩
 | ret=>exact⟨S',rho',z,D,I⟩
 | panic c=>exact⟨S',rho',z,D,I⟩
 | outgrown=>exact⟨S',rho',z,D,I⟩
variable {c:Code}
theorem zm{K D:Exit->AS->Prop}(h:W A c K s)(I:∀e s,K e s->D e s):W A c D s:=
 fun S rho a w z=>wp_mono (h S rho a w z) fun _ _ _ ⟨S',rho',J,N,k⟩=>⟨S',rho',J,N,I _ _ k⟩
theorem I0{c:Operand}{x y:Code}{K:Exit->AS->Prop}{b:Bool}(hb:ev s.t c=.p (.im (.bool b)))(I:b=true->W A x K s)(J:b=false->W A y K s):W A (.cond c x y) K s:=by
 intro S rho a w z;have D:=aH z c (fun _ _=>trivial);rw[hb]at D;refine wp_cond_split D.bc (fun h=>I h S rho a w z) (fun h=>J h S rho a w z)
theorem Gj{id:Nat}{K:Exit->AS->Prop}(h:W A c (fun e z=>match e with | .exit i=>kF (bB i id) (K .normal z) (K (.exit i) z) | e=>K e z) s):W A (.block id c) K s:=by
 intro S rho a w J;refine wp_block (wp_mono (h S rho a w J) fun e a' w' N=>?_);obtain⟨S',rho',z,I,D⟩:=N;cases e with
 | exit i=>
  simp only[Exit.inBlock];simp only at D;by_cases e:i=id
  ·rw[qH e];rw[aG.2 e]at D;exact⟨S',rho',z,I,D⟩
  rw[af e];have:bB i id=false:=by rw[cr];intro h;exact e (aG.1 h)
  rw[this]at D;exact⟨S',rho',z,I,D⟩
 | normal=>exact⟨S',rho',z,I,D⟩
 | goto l=>exact⟨S',rho',z,I,D⟩
 | ret=>exact⟨S',rho',z,I,D⟩
 | panic c=>exact⟨S',rho',z,I,D⟩
 | outgrown=>exact⟨S',rho',z,I,D⟩
def aY(A:jR)(s s':AS):Prop:=∀S rho a w,aU A bk bk S rho s a w->∃S' rho',aU A bk bk S' rho' s' a w
theorem aY.refl(A:jR)(s:AS):aY A s s:=fun S rho _ _ h=>⟨S,rho,h⟩
theorem aY.trans{D I:AS}(h:aY A s D)(k:aY A D I):aY A s I:=fun S rho a w z=>by
 obtain⟨S',rho',J⟩:=h S rho a w z;exact k S' rho' a w J
def Seen(A:jR)(s:AS)(G:AS->Prop):Prop:=∀S rho a w,aU A bk bk S rho s a w->∃S' rho' s',aU A bk bk S' rho' s' a w/\G s'
variable {G:AS->Prop}
theorem Seen.of{s2:AS}(hl:aY A s s2)(q:G s2):Seen A s G:=fun S rho a w z=>by
 obtain⟨S',rho',D⟩:=hl S rho a w z;exact⟨S',rho',s2,D,q⟩
theorem Seen.le{s2:AS}(hl:aY A s s2)(q:Seen A s2 G):Seen A s G:=fun S rho a w z=>by
 obtain⟨S',rho',D⟩:=hl S rho a w z;exact q S' rho' a w D
theorem Seen.mono{D:AS->Prop}(I:∀s,G s->D s)(q:Seen A s G):Seen A s D:=fun S rho a w z=>by
 obtain⟨S',rho',J,N,h⟩:=q S rho a w z;exact⟨S',rho',J,N,I _ h⟩
theorem least{P:Nat->Prop}(h:∃n,P n):∃n,P n/\∀k,P k->n<=k:=by
 obtain⟨n,D⟩:=h
 induction n using Nat.strongRecOn with
 | _ n ih=>
  by_cases z:∃k,k<n/\P k
  ·obtain⟨k,I,J⟩:=z;exact ih k I J
  exact⟨n,D,fun k h=>Nat.le_of_not_lt fun N=>z ⟨k,N,h⟩⟩
theorem I1{K:Exit->AS->Prop}{α:Type}(I:α->AS->Prop)(m:α->Nat)(h0:∃x z,aY A s z/\I x z)
  (round:∀x s,I x s->W A c (fun e z=>match e with | .normal=>∃y U,aY A z U/\I y U/\m y<m x | e=>K e z) s):W A (.loop c) K s:=by
 intro S rho a w Z;let J:Act->World->Nat->Prop:=fun a w n=>∃x S rho s,aU A bk bk S rho s a w/\I x s/\m x=n;have Y:∀a w,Decidable (∃n,J a w n):=fun a w=>Classical.propDecidable _;let mu:Act->World->Nat:=fun a w=>@dite _ (∃n,J a w n) (Y a w) (fun h=>Classical.choose (least h)) (fun _=>0);have PU:∀a w (h:∃n,J a w n),mu a w=Classical.choose (least h):=fun a w h=>by
  show @dite _ _ (Y a w) _ _=_;rw[dif_pos h]
 refine wp_loop (fun a w=>∃n,J a w n) mu ?_ ?_
 ·obtain⟨x,z,N,hi⟩:=h0;obtain⟨S',rho',D⟩:=N S rho a w Z;exact⟨m x,x,S',rho',z,D,hi,rfl⟩
 intro a w hJ;obtain⟨⟨x,S1,Ol,s1,gQ,hi,hm⟩,_⟩:=vy (least hJ);refine wp_mono (round x s1 hi S1 Ol a w gQ) fun e a' w' hq=>?_;obtain⟨S',rho',z,D,O⟩:=hq;cases e with
 | normal=>
  obtain⟨y,U,N,mI,dv⟩:=O;obtain⟨PW,HN,HO⟩:=N S' rho' a' w' D;have Om:∃n,J a' w' n:=⟨m y,y,PW,HN,U,HO,mI,rfl⟩;refine⟨Om,?_⟩;rw[PU a w hJ,PU a' w' Om,<-hm];exact Nat.lt_of_le_of_lt ((vy (least Om)).2 (m y) ⟨y,PW,HN,U,HO,mI,rfl⟩) dv
 | exit id=>exact⟨S',rho',z,D,O⟩
 | goto l=>exact⟨S',rho',z,D,O⟩
 | ret=>exact⟨S',rho',z,D,O⟩
 | panic c=>exact⟨S',rho',z,D,O⟩
 | outgrown=>exact⟨S',rho',z,D,O⟩
theorem D9(hC:aL A.C){id:Nat}{ops:Array Oper}{K:Exit->AS->Prop}(I:∀o∈ops.toList,gP o A.n)(h:kO A.C ops.toList ops.toList (K .normal) s):W A (.region id ops false) K s:=by
 intro S rho a w z;refine wp_region ?_;have:=zl hC (ops:=ops) (Q:=fun e J w'=>∃S' rho' D,aU A bk bk S' rho' D J w'/\K e D) (K:=K .normal) (fun s S rho a w N z=>⟨S,rho,s,z,N⟩) ops.toList 0 s S rho a w (fun j=>by simp) I h z;rw[List.range_eq_range'];simpa using this
end Go.AM
namespace Go.AM
open Go.RowKit
def LA(j:Nat):Arg->AV
 | .pv x=>.p x
 | .row _ _=>.ow (100000+j)
 | .map _ _=>.ow (100000+j)
 | .box _=>.bx (100000+j) 0
 | .aA _=>.bx (100000+j) 0
def HP:Arg->AB
 | .pv _=>.none
 | .row e es=>.row e es
 | .map mk es=>.map mk es
 | .box cs=>.box (cs.map .p)
 | .aA cs=>.aA cs
def aS:List AV->List Nat
 | []=>[]
 | .ow n::r=>n::aS r
 | _::r=>aS r
def xx(n:Nat):List Nat->Bool
 | []=>false
 | m::r=>match Nat.beq m n with
  | true=>true
  | false=>xx n r
def cN:List Nat->Bool
 | []=>true
 | n::r=>!xx n r&&(Nat.blt n 100000&&cN r)
def D_:List Arg->Bool
 | []=>true
 | .aA _::_=>false
 | _::r=>D_ r
def qg(h:Nat->AB):List AV->List HC->Prop
 | [],[]=>True
 | .p x::r,.p y::s=>x=y/\qg h r s
 | .ow n::r,.row e es::s=>h n=.row e es/\qg h r s
 | _,_=>False
theorem iH{n:Nat}{l:List Nat}:xx n l=true↔n∈l:=by
 induction l with
 | nil=>simp[xx]
 | cons m l ih=>
  unfold xx;split
  ·rename_i h;have:=bq h;simp[this]
  rename_i h;rw[ih];have:¬n=m:=fun e=>by rw[e]at h;simp at h
  simp[this]
theorem Tf{n:Nat}:∀{l:List AV},n∈aS l↔(AV.ow n:AV)∈l
 | []=>by simp[aS]
 | x::l=>by cases x<;>simp[aS,Tf (l:=l)]
theorem kd:∀{l:List AV} {i j n:Nat},cN (aS l)=true->l[i]?=some (.ow n)->l[j]?=some (.ow n)->i=j
 | [],i,j,n,_,h,_=>by simp at h
 | x::l,i,j,n,hg,h1,h2=>by
  have tail:cN (aS l)=true:=by
   cases x<;>first | exact hg | (simp[aS,cN]at hg ⊢;exact hg.2.2)
  have z:∀k:Nat,x=AV.ow n->l[k]?=some (AV.ow n)->False:=fun k D I=>by
   subst D;simp[aS,cN]at hg;have:xx n (aS l)=true:=iH.2 (Tf.2 (aj I));rw[hg.1]at this;cases this
  cases i with
  | zero=>
   cases j with
   | zero=>rfl
   | succ j=>simp at h1 h2;exact (z j h1 h2).elim
  | succ i=>
   cases j with
   | zero=>simp at h1 h2;exact (z i h2 h1).elim
   | succ j=>simp at h1 h2;rw[kd tail h1 h2]
theorem ke:∀{l:List Nat} {n:Nat},cN l=true->n∈l->n<100000
 | [],n,_,h=>by cases h
 | m::l,n,hg,h=>by
  simp[cN]at hg;rcases fL.1 h with h | h
  ·subst h;have:=hg.2.1
   first | omega | (have:=Tj (show Nat.ble (n+1) 100000=true from this);omega) | (simp[Nat.blt]at this;omega)
  exact ke hg.2.2 h
theorem t_{h:Nat->AB}:∀{z:List AV} {cs:List HC},qg h z cs->z.length=cs.length
 | [],[],_=>rfl
 | [],_::_,hp=>hp.elim
 | b::z,[],hp=>by cases b<;>exact hp.elim
 | b::z,c::cs,hp=>by
  cases b<;>cases c<;>first | exact hp.elim | (have:=t_ hp.2;simp[this])
theorem xy{h:Nat->AB}:∀{D:List AV} {cs:List HC} {j:Nat} {x:AV} {y:HC},qg h D cs->D[j]?=some x->cs[j]?=some y->(∃z,x=.p z/\y=.p z)\/∃n e es,x=.ow n/\y=.row e es/\h n=.row e es
 | [],_,j,x,y,_,h1,_=>by simp at h1
 | b::D,[],j,x,y,_,_,h2=>by simp at h2
 | b::D,c::cs,0,x,y,hp,h1,h2=>by
  simp at h1 h2;subst h1 h2;cases b<;>cases c<;>first | exact hp.elim | exact .inl ⟨_,rfl,by rw[hp.1]⟩ | exact .inr ⟨_,_,_,rfl,rfl,hp.1⟩
 | b::D,c::cs,j+1,x,y,hp,h1,h2=>by
  simp at h1 h2;have I:qg h D cs:=by cases b<;>cases c<;>first | exact hp.elim | exact hp.2
  exact xy I h1 h2
variable {A:jR} {rho:Nat->Value} {s:AS}
theorem r8{V L S:Nat->Prop}{a:Act}{w:World}(I:aU A V L S rho s a w){id:Nat}(hL:L id){Z:List AV}{cs:List HC}(hb:s.h id=.box Z)(hg:cN (aS Z)=true)(hp:qg s.h Z cs):
  ∃g ty c,rho id=.pointer (some ⟨g,0,none⟩)/\yu S w A.C.P cs g ty c/\∀k,hasB w (.aA cs) (rho id) k->bH (rho id)=some k\/∃n,n∈aS Z/\L n/\(s.h n).live/\bH (rho n)=some k:=by
 have hh:=I.hp id hL;rw[hb]at hh;obtain⟨g,ty,c,k1,k2,k3,k4⟩:=hh;have hl:=t_ hp;have aN:(s.h id).live:=by rw[hb];trivial
 have D:∀{j:Nat} {y:HC} {u:Value},cs[j]?=some y->c[j]?=some u->u.oneCell'=true/\Hr S w A.C.P y u/\(y.isRow->∃n,Z[j]?=some (.ow n)/\L n/\u=rho n/\(s.h n).live/\n≠id):=by
  intro j y u J O;obtain⟨x,D⟩:∃x,Z[j]?=some x:=⟨_,aM (by rw[hl];exact ah J)⟩;obtain⟨o1,o2⟩:=k4 j x u D O;rcases xy hp D J with⟨z,rfl,rfl⟩ | ⟨n,e,es,rfl,rfl,N⟩
  ·exact⟨o1,o2.cb,fun h=>h.elim⟩
  obtain⟨U,rfl⟩:=o2.bu (by rw[N];trivial);have hr:=I.hp n U;rw[N]at hr;exact⟨o1,hr,fun _=>⟨n,D,U,rfl,by rw[N];trivial,fun e=>by rw[e,hb]at N;cases N⟩⟩
 have Ch:bH (rho id)=some g:=by rw[k1];rfl
 refine⟨g,ty,c,k1,⟨k2,by rw[k3,hl],fun j y u J O=>⟨(D J O).1,(D J O).2.1⟩,fun j y u b J O hy dM e=>?_,fun i j x y u v b hi J O hv Rv Rw e1 e2=>?_⟩,fun k hk=>?_⟩
 ·obtain⟨n,_,U,rfl,Gk,bO⟩:=(D J O).2.2 hy;subst e;exact bO (I.KM n id b U hL Gk aN dM Ch)
 ·obtain⟨n,N,U,rfl,Gk,_⟩:=(D hi O).2.2 Rv;obtain⟨m,hm,Rx,rfl,PX,_⟩:=(D J hv).2.2 Rw;have:=I.KM n m b U Rx Gk PX e1 e2;subst this;exact kd hg N hm
 rcases hk with hk | ⟨dB,g',Y,eY,c',KX,m,j,y,u,q1,q2,q3,q4,q5⟩ | ⟨_,_,_,_,_,_,Y,_⟩ | ⟨_,_,_,_,_,Y,_⟩
 ·exact .inl hk
 ·injection Y with Y;subst Y;rw[Ch]at eY;injection eY with eY;subst eY;rw[k2]at q1;injection q1 with q1;injection q1 with q1 _ _;subst q1;obtain⟨n,N,U,rfl,Gk,_⟩:=(D q2 q4).2.2 q3;exact .inr ⟨n,Tf.2 (aj N),U,Gk,q5⟩
 ·cases Y
 cases Y
def qi(args:List Arg)(j:Nat):AV:=match args[j]? with
 | some x=>LA j x
 | none=>.junk
def jG(args:List Arg)(j:Nat):AB:=match Nat.ble 100000 j with
 | true=>match args[j-100000]? with
  | some x=>HP x
  | none=>.none
 | false=>.none
def Eb (a : Tmp) (t : TypeId) : Oper := { dst := none, op := .load t (.tmp a), type := t, pos := "", after := #[], guard := none }
def HQ(C:Ctx)(s:AS):ResultVar->(AV->Prop)->Prop
 | .tmp t,K=>K (s.t t)
 | .cell a t,K=>aZ C (Eb a t) (ev s.t) s.h fun v _ _=>match v with
  | .p x=>K (.p x)
  | _=>False
def vx(C:Ctx)(s:AS):List ResultVar->(List AV->Prop)->Prop
 | [],K=>K []
 | r::rs,K=>HQ C s r fun a=>vx C s rs fun as=>K (a::as)
def zo(h:Nat->AB):List AV->(List PV->(Nat->AB)->Prop)->Prop
 | [],K=>K [] h
 | a::r,K=>g_ h a fun x fz=>zo (app h fz) r fun xs h'=>K (x::xs) h'
def jd:AB->Nat->Bool
 | .box bs,i=>xx i (aS bs)
 | _,_=>false
def iI(h:Nat->AB):Nat->List Arg->List Fin->Nat->Bool
 | j,.pv _::xs,fs,i=>iI h (j+1) xs fs i
 | j,_::xs,f::fs,i=>(f.kept&&(bB j i||jd (h j) i))||iI h (j+1) xs fs i
 | _,_,_,_=>false
def h_(h:Nat->AB):Nat->List Arg->List Fin->Prop
 | _,[],[]=>True
 | j,.pv _::xs,fs=>h_ h (j+1) xs fs
 | j,.row _ _::xs,.gone::fs=>h_ h (j+1) xs fs
 | j,.map _ _::xs,.gone::fs=>h_ h (j+1) xs fs
 | j,.box _::xs,.gone::fs=>h_ h (j+1) xs fs
 | j,.aA _::xs,.gone::fs=>h_ h (j+1) xs fs
 | j,.row e _::xs,.row es::fs=>h j=.row e es/\h_ h (j+1) xs fs
 | j,.map mk _::xs,.map es::fs=>h j=.map mk es/\h_ h (j+1) xs fs
 | j,.box _::xs,.box cs::fs=>(match h j with
  | .box bs=>cE bs=some cs
  | _=>False)/\h_ h (j+1) xs fs
 | j,.aA _::xs,.aA cs::fs=>(match h j with
  | .aA bs=>bs=cs
  | .box bs=>(cN (aS bs)&&D_ xs)=true/\qg h bs cs
  | _=>False)/\h_ h (j+1) xs fs
 | _,_,_=>False
def I2(C:Ctx)(rs:List ResultVar)(args:List Arg)(r:AR)(fin:List Fin)(s:AS):Prop:=
 vx C s rs fun cT=>match r with
  | .own e es=>match cT with
   | [a]=>match a with
    | .ow i=>s.h i=.row e es/\iI s.h 100000 args fin i=false/\h_ s.h 100000 args fin
    | .vw i lo hi=>match lo with
     | 0=>match s.h i with
      | .row e' xs=>match bB e' e with
       | true=>es=xs.take hi/\iI s.h 100000 args fin i=false/\h_ s.h 100000 args fin
       | false=>False
      | _=>False
     | _+1=>False
    | .nl=>match C.T e with
     | some ti=>match Nat.blt 0 ti.size with
      | true=>es=[]/\h_ s.h 100000 args fin
      | false=>False
     | none=>False
    | _=>False
   | _=>False
  | .hown cs=>match cT with
   | [a]=>match a with
    | .bx i off=>match off with
     | 0=>s.h i=.aA cs/\iI s.h 100000 args fin i=false/\h_ s.h 100000 args fin
     | _+1=>False
    | _=>False
   | _=>False
  | .p x=>match cT with
   | [a]=>g_ s.h a fun y fz=>y=x/\h_ (app s.h fz) 100000 args fin
   | _=>False
  | .tu xs=>match cT with
   | [_]=>False
   | _=>zo s.h cT fun ys h'=>ys=xs/\h_ h' 100000 args fin
def Ci(C:Ctx)(rs:List ResultVar)(args:List Arg)(r:AR)(fin:List Fin)(e:Exit)(s:AS):Prop:=match e with
 | .normal=>I2 C rs args r fin s
 | .ret=>I2 C rs args r fin s
 | _=>False
def xz(tmps:Array Value):ResultVar->Sem Value
 | .tmp t=>pure (tmps.getD t undef)
 | .cell b t=>do loadVar t (<-asAddr (tmps.getD b undef))
theorem Cj(hC:aL A.C){S:Nat->Prop}{a:Act}{w:World}(J:aU A bk bk S rho s a w)(r:ResultVar){K:AV->Prop}(O:HQ A.C s r K):
  ∃av v,K av/\(xz a.tmps r).run A.C.P w=.ok v w /\
   (∀(z:Nat->Prop) (D:Nat->AB),(∀b,S b->z b)->aU A bk bk z rho ⟨s.t,D⟩ a w->aE z w A.C.P bk rho D av v):=by
 cases r with
 | tmp t=>exact⟨s.t t,a.tmps.getD t undef,O,rfl,fun z D _ U=>U.tm t trivial⟩
 | cell b t=>
  obtain⟨av,v,N,D,Y⟩:=wQ (o:=Eb b t) (K:=fun v _ _=>match v with | .p x=>K (.p x) | _=>False) t (.tmp b) rfl hC J (fun _ _=>trivial) O;split at N
  ·rename_i x;refine⟨_,v,N,?_,fun z nG hS U=>.p _ _ (D.cb.mono hS (fun _ _=>rfl))⟩;have I:(Instr.loadAt t (a.tmps.getD b undef)).run A.C.P w=.ok v w:=Y;cases hv:a.tmps.getD b undef with
   | pointer p=>
    rw[hv]at I;cases p with
    | none=>simp[Instr.loadAt,Instr.sureAddr,stuck,Sem.run]at I
    | some Z=>
     have h5:(loadVar t Z).run A.C.P w=.ok v w:=by simpa [Instr.loadAt,Instr.sureAddr] using I
     show (xz a.tmps (.cell b t)).run _ _=_;unfold xz;simp only[hv];exact h5
   | _=>rw[hv]at I;simp[Instr.loadAt,Instr.sureAddr,stuck,Sem.run]at I
  exact N.elim
theorem r9(hC:aL A.C){S:Nat->Prop}{a:Act}{w:World}(N:aU A bk bk S rho s a w):∀(D:List ResultVar) {K:List AV->Prop},vx A.C s D K ->
  ∃cT vs,K cT/\cT.length=vs.length/\(D.mapM (xz a.tmps)).run A.C.P w=.ok vs w/\vs.length=D.length /\
   (∀(I:Nat->Prop) (J:Nat->AB),(∀b,S b->I b)->aU A bk bk I rho ⟨s.t,J⟩ a w->∀(i:Nat) av v,cT[i]?=some av->vs[i]?=some v->aE I w A.C.P bk rho J av v):=by
 intro D
 induction D with
 | nil=>intro K z;exact⟨[],[],z,rfl,rfl,rfl,by simp⟩
 | cons r D ih=>
  intro K z;obtain⟨av,v,z,h1,J⟩:=Cj hC N r z;obtain⟨cT,vs,z,h3,h4,h5,h6⟩:=ih z;refine⟨av::cT,v::vs,z,by simp[h3],?_,by simp[h5],fun I Y hS Z i x u O U=>?_⟩
  ·rw[Am,aI,h1,nH,aI,h4];rfl
  cases i with
  | zero=>simp at O U;subst O U;exact J I Y hS Z
  | succ i=>exact h6 I Y hS Z i x u (by simpa using O) (by simpa using U)
theorem zp(hC:aL A.C){t:Nat->AV}{a:Act}{w:World}:∀(cT:List AV) (vs:List Value) (S:Nat->Prop) (h:Nat->AB) {K:List PV->(Nat->AB)->Prop},cT.length=vs.length->aU A bk bk S rho ⟨t,h⟩ a w ->
  (∀(J:Nat->Prop) (Y:Nat->AB),(∀b,S b->J b)->aU A bk bk J rho ⟨t,Y⟩ a w->∀(i:Nat) av v,cT[i]?=some av->vs[i]?=some v->aE J w A.C.P bk rho Y av v)->zo h cT K ->
  ∃ys h' S',K ys h'/\aU A bk bk S' rho ⟨t,h'⟩ a w/\(∀b,S b->S' b)/\ys.length=vs.length/\∀(i:Nat) y v,ys[i]?=some y->vs[i]?=some v->ay S' w y v:=by
 intro cT
 induction cT with
 | nil=>
  intro vs S h K hl D _ N;have:vs=[]:=gw hl.symm;subst this;exact⟨[],h,S,N,D,fun _ h=>h,rfl,by simp⟩
 | cons av cT ih=>
  intro vs S h K hl D I N;cases vs with
  | nil=>simp at hl
  | cons v vs=>
   obtain⟨y,fz,J,N,aJ,hp,Z,_,_⟩:=e8 hC D (kM.refl h) (I S h (fun _ h=>h) D 0 av v rfl rfl) N;obtain⟨ys,h',S',k1,k2,k3,k4,k5⟩:=ih vs J (app h fz) (by simpa using hl) aJ (fun S3 h3 hS cF i x u hx O=>I S3 h3 (fun b hb=>hS b (Z b hb)) cF (i+1) x u (by simpa using hx) (by simpa using O)) N;refine⟨y::ys,h',S',k1,k2,fun b hb=>k3 b (Z b hb),by simp[k4],fun i z u U O=>?_⟩;cases i with
   | zero=>simp at U O;subst U O;exact hp.mono k3 (fun _ _=>rfl)
   | succ i=>exact k5 i z u (by simpa using U) (by simpa using O)
theorem l8{h:Nat->AB}{j:Nat}{x:Arg}{xs:List Arg}{f:Fin}{D:List Fin}(I:x.handed=true)(z:h_ h j (x::xs) (f::D)):h_ h (j+1) xs D:=by
 cases x<;>cases f<;>first | (cases I;done) | exact z.elim | exact z.2 | exact z
def ua(h:Nat->AB)(j id:Nat):Prop:=id=j\/jd (h j) id=true
theorem Ec{S:Nat->Prop}{t:Nat->AV}{h:Nat->AB}{a:Act}{w:World}(D:aU A bk bk S rho ⟨t,h⟩ a w):∀(args:List Arg) (fin:List Fin) (vs:List Value) (j:Nat),args.length=vs.length->(∀i v,vs[i]?=some v->(∃x,args[i]?=some x/\x.handed=true)->v=rho (j+i))->h_ h j args fin ->
  eV S w A.C.P args fin vs/\∀i g,cq w args fin vs i g->∃id,ua h (j+i) id/\(h id).live/\hasB w (h id) (rho id) g/\iI h j args fin id=true:=by
 intro args
 induction args with
 | nil=>intro fin vs j hl _ z;have:vs=[]:=gw hl.symm;subst this;cases fin with | nil=>exact⟨trivial,fun i g h=>h.elim⟩ | cons f fin=>exact z.elim
 | cons x args ih=>
  intro fin vs j hl hv z;cases vs with
  | nil=>simp at hl
  | cons v vs=>
   have Lx:args.length=vs.length:=by simpa using hl
   have yB:∀i v,vs[i]?=some v->(∃x,args[i]?=some x/\x.handed=true)->v=rho (j+1+i):=fun i u h1 ⟨y,h2,h3⟩=>by
    have:=hv (i+1) u (by simpa using h1) ⟨y,by simpa using h2,h3⟩;rw[this];congr 1;omega
   cases hx:x.handed with
   | false=>
    cases x with
    | pv y=>
     obtain⟨r1,r2⟩:=ih fin vs (j+1) Lx yB z;refine⟨r1,fun i g O=>?_⟩;cases i with
     | zero=>exact O.elim
     | succ i=>
      obtain⟨id,Y,q2,q3,q4⟩:=r2 i g O;exact⟨id,by rw[show j+(i+1)=j+1+i by omega];exact Y,q2,q3,q4⟩
    | row=>cases hx
    | map=>cases hx
    | box=>cases hx
    | aA=>cases hx
   | true=>
    have II:v=rho j:=hv 0 v rfl ⟨_,rfl,hx⟩;cases fin with
    | nil=>cases x<;>first | (cases hx;done) | exact z.elim
    | cons f fin=>
     obtain⟨r1,r2⟩:=ih fin vs (j+1) Lx yB (l8 hx z);have mk:jk S w A.C.P x f v->(∀g,f.kept=true->hasB w (FK f) v g->∃id,ua h j id/\(h id).live/\hasB w (h id) (rho id) g)->eV S w A.C.P (x::args) (f::fin) (v::vs)/\∀i g,cq w (x::args) (f::fin) (v::vs) i g->∃id,ua h (j+i) id/\(h id).live/\hasB w (h id) (rho id) g/\iI h j (x::args) (f::fin) id=true:=by
      intro m1 m2;refine⟨by cases x<;>first | (cases hx;done) | exact⟨m1,r1⟩,fun i g O=>?_⟩;cases i with
      | zero=>
       obtain⟨g1,g2⟩:f.kept=true/\hasB w (FK f) v g:=by cases x<;>first | (cases hx;done) | exact O
       obtain⟨id,Y,q2,q3⟩:=m2 g g1 g2;refine⟨id,Y,q2,q3,?_⟩;have:(bB j id||jd (h j) id)=true:=by
        rcases Y with Y | Y
        ·rw[Y,aG.2 rfl];rfl
        rw[Y];simp
       cases x<;>first | (cases hx;done) | (simp only[iI,g1,this,ia,Bool.true_or])
      | succ i=>
       have eY:cq w args fin vs i g:=by cases x<;>first | (cases hx;done) | exact O
       obtain⟨id,Y,q2,q3,q4⟩:=r2 i g eY;refine⟨id,by rw[show j+(i+1)=j+1+i by omega];exact Y,q2,q3,?_⟩;cases x<;>first | (cases hx;done) | (simp only[iI,q4,ou])
     refine mk ?_ ?_
     ·rw[II];cases x with
      | pv y=>cases hx
      | row e es=>
       cases f with
       | gone=>trivial
       | row J=>
        have N:=D.hp j trivial;have N:cd S w A.C.P bk rho h j (h j):=N;rw[z.1]at N;exact⟨N,fun g O=>(D.mO j g trivial (by show (h j).live;rw[z.1];trivial) O).2.1⟩
       | map J=>exact z.elim
       | box cs=>exact z.elim
       | aA cs=>exact z.elim
      | map mk es=>
       cases f with
       | gone=>trivial
       | map J=>
        have N:=D.hp j trivial;have N:cd S w A.C.P bk rho h j (h j):=N;rw[z.1]at N;exact⟨N,fun g O=>(D.mO j g trivial (by show (h j).live;rw[z.1];trivial) O).2.1⟩
       | row J=>exact z.elim
       | box cs=>exact z.elim
       | aA cs=>exact z.elim
      | box ys=>
       cases f with
       | gone=>trivial
       | row J=>exact z.elim
       | map J=>exact z.elim
       | aA J=>exact z.elim
       | box cs=>
        obtain⟨I,kY⟩:=z;split at I
        ·rename_i bs hb;have N:=D.hp j trivial;have N:cd S w A.C.P bk rho h j (h j):=N;rw[hb]at N;obtain⟨g,ty,c,Z,k2,k3,k4⟩:=N;obtain⟨k5,k6⟩:=dz I;refine⟨g,ty,c,Z,k2,by rw[k3,k5],(D.mO j g trivial (by show (h j).live;rw[hb];trivial) (by rw[Z];rfl)).2.1,fun i x u hi hu=>?_⟩;obtain⟨y,hy⟩:∃y,bs[i]?=some y:=⟨_,aM (by rw[k5];exact ah hi)⟩;obtain⟨k7,k8⟩:=k4 i y u hy hu;exact⟨k7,k8.qS (k6 i y x hy hi)⟩
        exact I.elim
      | aA ys=>
       cases f with
       | gone=>trivial
       | row J=>exact z.elim
       | map J=>exact z.elim
       | box J=>exact z.elim
       | aA cs=>
        obtain⟨I,kY⟩:=z;split at I
        ·rename_i bs hb;subst I;have N:=D.hp j trivial;have N:cd S w A.C.P bk rho h j (h j):=N;rw[hb]at N;obtain⟨g,ty,c,Z,k2⟩:=N;exact⟨g,ty,c,Z,k2,fun k U=>(D.lv j k trivial (by show (h j).live;rw[hb];trivial) (by show hasB w (h j) _ _;rw[hb];exact U)).2.1⟩
        ·rename_i bs hb;simp only[fH]at I;obtain⟨g,ty,c,Z,k2,k3⟩:=r8 D (id:=j) trivial hb I.1.1 I.2;refine⟨g,ty,c,Z,k2,fun k U=>?_⟩;rcases k3 k U with U | ⟨n,_,hn,Gk,U⟩
         ·exact (D.mO j k trivial (by show (h j).live;rw[hb];trivial) U).2.1
         exact (D.mO n k hn Gk U).2.1
        exact I.elim
     intro g hf O;rw[II]at O;cases x with
     | pv y=>cases hx
     | row e es=>
      cases f with
      | gone=>cases hf
      | row J=>exact⟨j,.inl rfl,by rw[z.1];trivial,.inl (al rfl O)⟩
      | map J=>exact z.elim
      | box cs=>exact z.elim
      | aA cs=>exact z.elim
     | map mk es=>
      cases f with
      | gone=>cases hf
      | map J=>exact⟨j,.inl rfl,by rw[z.1];trivial,.inl (al rfl O)⟩
      | row J=>exact z.elim
      | box cs=>exact z.elim
      | aA cs=>exact z.elim
     | box ys=>
      cases f with
      | gone=>cases hf
      | row J=>exact z.elim
      | map J=>exact z.elim
      | aA J=>exact z.elim
      | box cs=>
       obtain⟨I,kY⟩:=z;split at I
       ·rename_i bs hb;exact⟨j,.inl rfl,by rw[hb];trivial,.inl (al rfl O)⟩
       exact I.elim
     | aA ys=>
      cases f with
      | gone=>cases hf
      | row J=>exact z.elim
      | map J=>exact z.elim
      | box J=>exact z.elim
      | aA cs=>
       obtain⟨I,kY⟩:=z;split at I
       ·rename_i bs hb;subst I;exact⟨j,.inl rfl,by rw[hb];trivial,by rw[hb];exact O⟩
       ·rename_i bs hb;simp only[fH]at I;obtain⟨g',ty,c,Z,k2,k3⟩:=r8 D (id:=j) trivial hb I.1.1 I.2;rcases k3 g O with U | ⟨n,hm,hn,Gk,U⟩
        ·exact⟨j,.inl rfl,by rw[hb];trivial,.inl U⟩
        exact⟨n,.inr (by rw[hb];exact iH.2 hm),Gk,.inl U⟩
       exact I.elim
theorem Ck{h:Nat->AB}:∀(args:List Arg) (fin:List Fin) (w:World) (vs:List Value) (z:Nat),100000<=z->h_ h z args fin->∀i k id g,cq w args fin vs i g->cq w args fin vs k g->ua h (z+i) id->ua h (z+k) id->i=k:=by
 have J:∀(args:List Arg) (fin:List Fin) (w:World) (vs:List Value) (z:Nat),h_ h z args fin->∀i g id,cq w args fin vs i g->jd (h (z+i)) id=true->id<100000/\D_ args=false/\(∀m,i=m+1->∀x xs,args=x::xs->D_ xs=false):=by
  intro args
  induction args with
  | nil=>intro fin w vs z _ i g id N;exact N.elim
  | cons x args ih=>
   intro fin w vs z D i g id N I;cases vs with
   | nil=>cases fin<;>exact N.elim
   | cons v vs=>
    cases hx:x.handed with
    | false=>
     cases x with
     | pv y=>
      cases i with
      | zero=>exact N.elim
      | succ i=>
       obtain⟨h1,Z,_⟩:=ih fin w vs (z+1) D i g id N (by rw[show z+1+i=z+(i+1) by omega];exact I);exact⟨h1,Z,fun m hm x xs he=>by injection he with _ he;rw[<-he];exact Z⟩
     | row=>cases hx
     | map=>cases hx
     | box=>cases hx
     | aA=>cases hx
    | true=>
     cases fin with
     | nil=>cases x<;>first | (cases hx;done) | exact N.elim
     | cons f fin=>
      cases i with
      | succ i=>
       have eY:cq w args fin vs i g:=by cases x<;>first | (cases hx;done) | exact N
       obtain⟨h1,Z,_⟩:=ih fin w vs (z+1) (l8 hx D) i g id eY (by rw[show z+1+i=z+(i+1) by omega];exact I);exact⟨h1,by cases x<;>first | exact Z | rfl,fun m hm x xs he=>by injection he with _ he;rw[<-he];exact Z⟩
      | zero=>
       have Y:f.kept=true:=by cases x<;>first | (cases hx;done) | exact N.1
       have I:jd (h z) id=true:=I;cases x with
       | pv y=>cases hx
       | row e es=>cases f<;>first | (cases Y;done) | exact D.elim | (rw[D.1]at I;cases I)
       | map mk es=>cases f<;>first | (cases Y;done) | exact D.elim | (rw[D.1]at I;cases I)
       | box ys=>
        cases f with
        | gone=>cases Y
        | row U=>exact D.elim
        | map U=>exact D.elim
        | aA U=>exact D.elim
        | box cs=>
         obtain⟨O,kY⟩:=D;split at O
         ·rename_i bs hb;rw[hb]at I;obtain⟨k5,k6⟩:=dz O;obtain⟨n,hn⟩:=uU.1 (Tf.1 (iH.1 I));obtain⟨y,hy⟩:∃y,cs[n]?=some y:=⟨_,aM (by rw[<-k5];exact ah hn)⟩;have:=k6 n _ y hn hy;rcases this with h | h
          ·cases h
          cases h.1
         exact O.elim
       | aA ys=>
        cases f with
        | gone=>cases Y
        | row U=>exact D.elim
        | map U=>exact D.elim
        | box U=>exact D.elim
        | aA cs=>
         obtain⟨O,kY⟩:=D;split at O
         ·rename_i bs hb;rw[hb]at I;cases I
         ·rename_i bs hb;rw[hb]at I;simp only[fH]at O;exact⟨ke O.1.1 (iH.1 I),rfl,fun m hm=>by omega⟩
         exact O.elim
 have later:∀(args:List Arg) (fin:List Fin) (w:World) (vs:List Value) (z:Nat),h_ h z args fin->∀i k g g' id,cq w args fin vs i g->cq w args fin vs k g'->jd (h (z+i)) id=true->jd (h (z+k)) id=true->i<k->False:=by
  intro args
  induction args with
  | nil=>intro fin w vs z _ i k g g' id N;exact N.elim
  | cons x args ih=>
   intro fin w vs z D i k g g' id N eY I hk dv;cases vs with
   | nil=>cases fin<;>exact N.elim
   | cons v vs=>
    obtain⟨k,rfl⟩:∃m,k=m+1:=⟨k-1,by omega⟩;cases hx:x.handed with
    | false=>
     cases x with
     | pv y=>
      cases i with
      | zero=>exact N.elim
      | succ i=>exact ih fin w vs (z+1) D i k g g' id N eY (by rw[show z+1+i=z+(i+1) by omega];exact I) (by rw[show z+1+k=z+(k+1) by omega];exact hk) (by omega)
     | row=>cases hx
     | map=>cases hx
     | box=>cases hx
     | aA=>cases hx
    | true=>
     cases fin with
     | nil=>cases x<;>first | (cases hx;done) | exact N.elim
     | cons f fin=>
      have xd:cq w args fin vs k g':=by cases x<;>first | (cases hx;done) | exact eY
      cases i with
      | succ i=>
       have On:cq w args fin vs i g:=by cases x<;>first | (cases hx;done) | exact N
       exact ih fin w vs (z+1) (l8 hx D) i k g g' id On xd (by rw[show z+1+i=z+(i+1) by omega];exact I) (by rw[show z+1+k=z+(k+1) by omega];exact hk) (by omega)
      | zero=>
       have Z:=(J args fin w vs (z+1) (l8 hx D) k g' id xd (by rw[show z+1+k=z+(k+1) by omega];exact hk)).2.1;have Y:f.kept=true:=by cases x<;>first | (cases hx;done) | exact N.1
       have I:jd (h z) id=true:=I;have h3:=J (x::args) (f::fin) w (v::vs) z D 0 g id N I;cases x with
       | pv y=>cases hx
       | row e es=>cases f<;>first | (cases Y;done) | exact D.elim | (rw[D.1]at I;cases I)
       | map mk es=>cases f<;>first | (cases Y;done) | exact D.elim | (rw[D.1]at I;cases I)
       | box ys=>exact (by
         have:D_ (.box ys::args)=false:=h3.2.1;cases f with
         | gone=>cases Y
         | row U=>exact D.elim
         | map U=>exact D.elim
         | aA U=>exact D.elim
         | box cs=>
          obtain⟨O,kY⟩:=D;split at O
          ·rename_i bs hb;rw[hb]at I;obtain⟨k5,k6⟩:=dz O;obtain⟨n,hn⟩:=uU.1 (Tf.1 (iH.1 I));obtain⟨y,hy⟩:∃y,cs[n]?=some y:=⟨_,aM (by rw[<-k5];exact ah hn)⟩;rcases k6 n _ y hn hy with h | h
           ·cases h
           cases h.1
          exact O.elim)
       | aA ys=>
        cases f with
        | gone=>cases Y
        | row U=>exact D.elim
        | map U=>exact D.elim
        | box U=>exact D.elim
        | aA cs=>
         obtain⟨O,kY⟩:=D;split at O
         ·rename_i bs hb;rw[hb]at I;cases I
         ·rename_i bs hb;simp only[fH]at O;rw[O.1.2]at Z;cases Z
         exact O.elim
 intro args fin w vs z hj D i k id g I hk ki kk;rcases ki with ki | ki<;>rcases kk with kk | kk
 ·omega
 ·have:=(J args fin w vs z D k g id hk kk).1;omega
 ·have:=(J args fin w vs z D i g id I ki).1;omega
 rcases gC i k with h | h | h
 ·exact (later args fin w vs z D i k g g id I hk ki kk h).elim
 ·exact h
 exact (later args fin w vs z D k i g g id hk I kk ki h).elim
theorem an.front{P:Program}{S:Nat->Prop}{w:World}{e:TypeId}{xs:List (List PV)}{v u:Value}{a:Option Addr}{n c D:Nat}(h:an P w (ay S w) e xs v)(N:v=.slice a n c)(Z:D<=n)(hu:u=.slice a D c):an P w (ay S w) e (xs.take D) u:=by
 obtain⟨i,ys,h1,h2,O,h4,h5,h6⟩:=h;have hF:Flat S w i.size xs ys:=⟨O.1,h4,h5,h6⟩;have LB:n=xs.length:=by
  rcases O.2 with⟨z,U⟩ | ⟨g,I,J,z,_⟩
  ·rw[N]at z;injection z with _ z _;omega
  rw[N]at z;injection z
 subst LB;have C3:=hF.take D Z;have hl:(xs.take D).length=D:=by rw[dI];omega
 refine an.of_flat h1 h2 ?_ C3;refine⟨C3.len,?_⟩;rw[hl,hu];rcases O.2 with⟨z,U⟩ | ⟨g,I,J,z,U,Y,g4,g5,g6,g7⟩
 ·rw[N]at z;injection z with z _ Y;exact .inl ⟨by rw[z,Y];congr 1;omega,by omega⟩
 rw[N]at z;injection z with z _ g8;refine .inr ⟨g,I,J,by rw[z,g8],U,Y,by omega,g5,g6,?_⟩;rw[<-g7,nZ,bD (bZ _ Z)]
theorem r_(args:List Arg)(j:Nat):jG args (100000+j)=match args[j]? with
  | some x=>HP x
  | none=>.none:=by
 have z:Nat.ble 100000 (100000+j)=true:=eP (by omega);have D:100000+j-100000=j:=by omega
 simp only[jG,z,D]
theorem xA(args:List Arg)(k:Nat)(h:k<100000):jG args k=.none:=by
 have z:Nat.ble 100000 k=false:=by
  rw[cr];intro D;have:=Tj D;omega
 simp only[jG,z]
theorem Ed{C:Ctx}{S:Nat->Prop}{w:World}{args:List Arg}{vs:Array Value}(m:Nat)(hm:vs.size+m<=100000)(hE:C.E S w)(hS:∀b,S b->b<w.heap.size)(hl:args.length=vs.size)(O:∀(j:Nat) x v,args[j]?=some x->vs[j]?=some v->yz S w C.P x v)
  (hdis:∀(i j:Nat) x y v u g,args[i]?=some x->args[j]?=some y->vs[i]?=some v->vs[j]?=some u->x.handed=true->y.handed=true->hasB w (tc x) v g->hasB w (tc y) u g->i=j):
  aU ⟨C,w,Mv w args vs,S,vs.size+m,fun k=>vs.getD (k-100000) undef⟩ bk bk S (fun k=>vs.getD (k-100000) undef) ⟨qi args,jG args⟩ { tmps:=vs++Array.replicate m undef,defers:=[] } w:=by
 have rK:∀j v,vs[j]?=some v->vs.getD j undef=v:=fun j v h=>by rw[lU,h];rfl
 have U:∀j,vs.getD (100000+j-100000) undef=vs.getD j undef:=fun j=>by rw[qZ]
 have at_:∀j x,args[j]?=some x->∃v,vs[j]?=some v/\vs.getD j undef=v:=fun j x h=>by
  obtain⟨v,hv⟩:=fJ hl (ah h);exact⟨v,hv,rK j v hv⟩
 have live:∀k,(jG args k).live->∃j x v,k=100000+j/\args[j]?=some x/\vs[j]?=some v/\vs.getD (k-100000) undef=v/\x.handed=true:=by
  intro k Y;by_cases dv:k<100000
  ·rw[xA _ _ dv]at Y;exact Y.elim
  obtain⟨j,rfl⟩:∃j,k=100000+j:=⟨k-100000,by omega⟩;rw[r_]at Y;cases h:args[j]? with
  | none=>rw[h]at Y;exact Y.elim
  | some x=>
   rw[h]at Y;obtain⟨v,J,I⟩:=at_ j x h;refine⟨j,x,v,rfl,h,J,by rw[U];exact I,?_⟩;cases x with
   | pv y=>exact Y.elim
   | row=>rfl
   | map=>rfl
   | box=>rfl
   | aA=>rfl
 have Oo:∀(j:Nat) (x:Arg) (v:Value) (g:Nat),args[j]?=some x->vs[j]?=some v->x.handed=true->hasB w (tc x) v g->g<w.heap.size/\¬S g:=by
  intro j x v g J I h3 D;have:=O j x v J I;cases x with
  | pv y=>cases h3
  | map mk es=>
   have D:=al rfl D;obtain⟨⟨g',ms,cl,rfl,k2,_⟩,hn⟩:=this;have wI:=D;injection D with D;subst D;exact⟨(vn.1 k2).1,hn _ wI⟩
  | row e es=>
   have D:=al rfl D;obtain⟨⟨i,xs,_,_,ho,_⟩,hn⟩:=this;exact⟨(ho.lt g (by rw[cm (bP ho).choose_spec.choose_spec];exact D)).2,hn g D⟩
  | box cs=>
   have D:=al rfl D;obtain⟨g',ty,c,rfl,k2,_,k4,_⟩:=this;injection D with D;subst D;exact⟨(vn.1 k2).1,k4⟩
  | aA cs=>
   obtain⟨g',ty,c,_,_,k⟩:=this;exact⟨(k g D).2,(k g D).1⟩
 have px:∀(j:Nat) (x:Arg) (v:Value) (g:Nat),args[j]?=some x->x.handed=true->(hasB w (jG args (100000+j)) v g↔hasB w (tc x) v g):=by
  intro j x v g J I;rw[r_,J];cases x with
  | pv y=>cases I
  | row e es=>exact⟨fun h=>.inl (al rfl h),fun h=>.inl (al rfl h)⟩
  | map mk es=>exact⟨fun h=>.inl (al rfl h),fun h=>.inl (al rfl h)⟩
  | box cs=>exact⟨fun h=>.inl (al rfl h),fun h=>.inl (al rfl h)⟩
  | aA cs=>exact jU
 exact
 {tm:=fun j _=>by
   show aE _ _ _ _ _ _ (qi args j) ((vs++Array.replicate m undef).getD j undef);unfold qi;cases h:args[j]? with
   | none=>exact .junk _
   | some x=>
    obtain⟨v,J,I⟩:=at_ j x h;have hj:j<vs.size:=by rw[<-hl];exact ah h
    have h3:(vs++Array.replicate m undef).getD j undef=v:=by
     rw[lU,vp hj,J];rfl
    rw[h3];have Z:=O j x v h J;cases x with
    | pv y=>exact .p _ _ Z
    | row e es=>exact .ow _ v fun _=>⟨trivial,by rw[U];exact I.symm⟩
    | map mk es=>exact .ow _ v fun _=>⟨trivial,by rw[U];exact I.symm⟩
    | box cs=>
     obtain⟨g,ty,c,N,_⟩:=Z;exact .bx _ 0 v fun _=>⟨trivial,g,by rw[U,I];exact N,N⟩
    | aA cs=>
     obtain⟨g,ty,c,N,_⟩:=Z;exact .bx _ 0 v fun _=>⟨trivial,g,by rw[U,I];exact N,N⟩
  sz:=by simp
  df:=rfl,nb:=hm,pn:=fun _ _=>rfl,ev:=hE,s0:=fun _ h=>h,st:=hS,sb:=fun b h=>.inl h
  hp:=fun k _=>by
   show cd _ _ _ _ _ _ k (jG args k);by_cases dv:k<100000
   ·rw[xA _ _ dv];trivial
   obtain⟨j,rfl⟩:∃j,k=100000+j:=⟨k-100000,by omega⟩;rw[r_];cases h:args[j]? with
   | none=>trivial
   | some x=>
    obtain⟨v,J,I⟩:=at_ j x h;have Z:=O j x v h J;cases x with
    | pv y=>trivial
    | row e es=>show an _ _ _ _ _ (vs.getD (100000+j-100000) undef);rw[U,I];exact Z.1
    | map mk es=>show u7 _ _ _ _ (vs.getD (100000+j-100000) undef);rw[U,I];exact Z.1
    | box cs=>
     obtain⟨g,ty,c,N,e2,e3,e4,e5⟩:=Z;refine⟨g,ty,c,by simp only;rw[U,I];exact N,e2,by simpa using e3,fun i x u hi hu=>?_⟩;rw[ao]at hi;obtain⟨z,hz,rfl⟩:=az.1 hi;exact⟨(e5 i z u hz hu).1,.p _ _ (e5 i z u hz hu).2⟩
    | aA cs=>
     obtain⟨g,ty,c,N,e2,_⟩:=Z;exact⟨g,ty,c,by simp only;rw[U,I];exact N,e2⟩
  dj:=fun i j g _ _ li lj hi hj=>by
   obtain⟨i',x,v,N,J,I,h3,D⟩:=live i li;obtain⟨j',y,u,e2,k1,k2,k3,k4⟩:=live j lj;have:=hdis i' j' x y v u g J k1 I k2 D k4 (by rw[<-px i' x v g J D,<-N,<-h3];exact hi) (by rw[<-px j' y u g k1 k4,<-e2,<-k3];exact hj);omega
  lv:=fun k g _ lk Y=>by
   obtain⟨j,x,v,N,J,I,h3,D⟩:=live k lk;have mF:hasB w (tc x) v g:=by rw[<-px j x v g J D,<-N,<-h3];exact Y
   obtain⟨h5,h6⟩:=Oo j x v g J I D mF;exact⟨h5,h6,.inl ⟨j,x,v,J,I,D,mF⟩⟩
  fr:=Fr.refl _ _ }
variable {fn:Func}
theorem qj{P:Program}{tmps:Array Value}{w:World}{vs:List Value}(h:(fn.results.toList.mapM (xz tmps)).run P w=.ok vs w):
  (results fn tmps).run P w=.ok (if h:vs.toArray.size=1 then vs.toArray[0] else .tuple vs.toArray) w:=by
 have e:results fn tmps=(do let vs <-fn.results.mapM (xz tmps);pure (if h:vs.size=1 then vs[0] else .tuple vs)):=by
  unfold results xz;rfl
 rw[e,<-qM (xs:=fn.results),List.mapM_toArray,aI];have:(Functor.map List.toArray (fn.results.toList.mapM (xz tmps))).run P w=.ok vs.toArray w:=by
  rw[map_eq_pure_bind,aI,h];rfl
 rw[this];rfl
theorem I3 {C : Ctx} (hC : aL C) {f : FuncId} {c : Code} (hf : C.P.funcs[f]? = some fn) (hb : fn.body = some c) (mS : (fn.name == "runtime.NumGoroutine") = false) {args : List Arg} {r : AR} {fin : List Fin} (hn : args.length + (fn.ntmps - args.length) ≤ 100000)
  (h:∀A:jR,A.C=C->A.n=args.length+(fn.ntmps-args.length)->W A c (Ci C fn.results.toList args r fin) ⟨qi args,jG args⟩):aT C f args r fin:=by
 refine⟨⟨fn,hf,mS,by rw[hb];rfl⟩,fun S w vs hE hS hl hrep hdis=>?_⟩;have sim:=Ed (fn.ntmps-vs.size) (by rw[<-hl];exact hn) hE hS hl hrep hdis;refine calls_of_wp hf hb ?_;have hw:=h ⟨C,w,Mv w args vs,S,vs.size+(fn.ntmps-vs.size),fun k=>vs.getD (k-100000) undef⟩ rfl (by rw[hl]);refine wp_mono (hw S _ _ w sim) fun e a' w' hq=>?_;obtain⟨S',rho',s',aQ,hk⟩:=hq;have XC:I2 C fn.results.toList args r fin s'->a'.defers=[]/\∃v,(results fn a'.tmps).run C.P w'=.ok v w'/\∃v0 S',Ending.returned v=.returned v0/\Fr (Mv w args vs) w w'/\(∀b,S b->S' b)/\(∀b,S' b->b<w'.heap.size)/\(∀b,S' b->S b\/w.heap.size<=b\/Mv w args vs b)/\
   Da S' w' C.P r v0/\eV S' w' C.P args fin vs.toList/\T4 w w' args fin vs/\(∀g,r.owns=true->hasB w' r.ab v0 g->g<w'.heap.size/\(w.heap.size<=g\/Mv w args vs g)/\∀i,¬cq w' args fin vs.toList i g):=by
  intro hk;refine⟨aQ.df,?_⟩;obtain⟨cT,us,hk,h1,h2,h3,h4⟩:=r9 (A:=⟨C,w,Mv w args vs,S,vs.size+(fn.ntmps-vs.size),fun k=>vs.getD (k-100000) undef⟩) hC aQ fn.results.toList hk;have hrun:=qj h2;have yE:args.length=vs.toList.length:=by simpa using hl
  have Oq:∀(S2:Nat->Prop) (h2:Nat->AB),aU ⟨C,w,Mv w args vs,S,vs.size+(fn.ntmps-vs.size),fun k=>vs.getD (k-100000) undef⟩ bk bk S2 rho' ⟨s'.t,h2⟩ a' w'->∀i u,vs.toList[i]?=some u->(∃x,args[i]?=some x/\x.handed=true)->u=rho' (100000+i):=fun S2 h2 aJ i u hu _=>by
   rw[aJ.pn (100000+i) (by omega)];have ni:vs[i]?=some u:=by simpa using hu
   show u=vs.getD (100000+i-100000) undef;rw[qZ,lU,ni];rfl
  have fk:∀(S2:Nat->Prop) (h2:Nat->AB),aU ⟨C,w,Mv w args vs,S,vs.size+(fn.ntmps-vs.size),fun k=>vs.getD (k-100000) undef⟩ bk bk S2 rho' ⟨s'.t,h2⟩ a' w'->h_ h2 100000 args fin->eV S2 w' C.P args fin vs.toList/\(∀i g,cq w' args fin vs.toList i g->∃id,ua h2 (100000+i) id/\(h2 id).live/\hasB w' (h2 id) (rho' id) g/\iI h2 100000 args fin id=true)/\T4 w w' args fin vs:=by
   intro S2 h2 aJ cG;obtain⟨r1,r2⟩:=Ec aJ args fin vs.toList 100000 yE (Oq S2 h2 aJ) cG;refine⟨r1,r2,fun i g hg=>?_,fun i j g hi hj=>?_⟩
   ·obtain⟨id,_,q2,q3,_⟩:=r2 i g hg;obtain⟨p1,_,p3⟩:=aJ.lv id g trivial q2 q3;exact⟨p1,p3.symm⟩
   obtain⟨id,q1,q2,q3,_⟩:=r2 i g hi;obtain⟨s9,p1,p2,p3,_⟩:=r2 j g hj;have:=aJ.dj id s9 g trivial trivial q2 p2 q3 p3;subst this;exact Ck args fin w' vs.toList 100000 (aC _) cG i j id g hi hj q1 p1
  have outer:∀(S2:Nat->Prop) (h2:Nat->AB) (v:Value),aU ⟨C,w,Mv w args vs,S,vs.size+(fn.ntmps-vs.size),fun k=>vs.getD (k-100000) undef⟩ bk bk S2 rho' ⟨s'.t,h2⟩ a' w'->(results fn a'.tmps).run C.P w'=.ok v w'->Da S2 w' C.P r v->h_ h2 100000 args fin->(∀g,r.owns=true->hasB w' r.ab v g->g<w'.heap.size/\(w.heap.size<=g\/Mv w args vs g)/\∀i,¬cq w' args fin vs.toList i g)->
    ∃v,(results fn a'.tmps).run C.P w'=.ok v w'/\∃v0 S',Ending.returned v=.returned v0/\Fr (Mv w args vs) w w'/\(∀b,S b->S' b)/\(∀b,S' b->b<w'.heap.size)/\(∀b,S' b->S b\/w.heap.size<=b\/Mv w args vs b)/\
   Da S' w' C.P r v0/\eV S' w' C.P args fin vs.toList/\T4 w w' args fin vs/\(∀g,r.owns=true->hasB w' r.ab v0 g->g<w'.heap.size/\(w.heap.size<=g\/Mv w args vs g)/\∀i,¬cq w' args fin vs.toList i g):=by
   intro S2 h2 v aJ hr LC cG hown;refine⟨v,hr,v,S2,rfl,aJ.fr,aJ.s0,aJ.st,fun b hb=>?_,LC,(fk S2 h2 aJ cG).1,(fk S2 h2 aJ cG).2.2,hown⟩;rcases aJ.sb b hb with h | h | h
   ·exact .inl h
   ·exact .inr (.inr h)
   exact .inr (.inl h)
  cases r with
  | own e es=>
   simp only at hk;split at hk
   ·rename_i av;obtain⟨u,rfl⟩:∃u,us=[u]:=by
     match us,h1 with
     | [u],_=>exact⟨u,rfl⟩
    have sa:(results fn a'.tmps).run C.P w'=.ok u w':=hrun;split at hk
    ·rename_i i;obtain⟨k1,k2,k3⟩:=hk;have hu:=h4 S' s'.h (fun _ h=>h) aQ 0 _ u rfl rfl;obtain⟨_,hv⟩:=hu.bu (by rw[k1];trivial);have hh:=aQ.hp i trivial;rw[k1]at hh;have aN:(s'.h i).live:=by rw[k1];trivial
     refine outer S' s'.h u aQ sa ⟨by rw[hv];exact hh,fun g hg=>(aQ.mO i g trivial aN (by rw[<-hv];exact hg)).2.1⟩ k3 fun g _ HR=>?_;have hg:bH u=some g:=al rfl HR;have eY:bH (rho' i)=some g:=by rw[<-hv];exact hg
     obtain⟨l1,l2,l3⟩:=aQ.mO i g trivial aN eY;refine⟨l1,l3.symm,fun n LD=>?_⟩;obtain⟨i',_,m1,m2,m3⟩:=(fk S' s'.h aQ k3).2.1 n g LD;have:=aQ.dj i i' g trivial trivial aN m1 (.inl eY) m2;subst this;rw[k2]at m3;cases m3
    ·rename_i i lo hi;have Ry:lo=0/\∃xs,s'.h i=.row e xs/\es=xs.take hi/\iI s'.h 100000 args fin i=false/\h_ s'.h 100000 args fin:=by
      cases lo with
      | succ n=>exact hk.elim
      | zero=>
       cases hr:s'.h i with
       | row e' xs=>
        rw[hr]at hk;simp only at hk;split at hk
        ·rename_i ng;rw[aG.1 ng];exact⟨rfl,xs,rfl,hk⟩
        exact hk.elim
       | _=>rw[hr]at hk;exact hk.elim
     obtain⟨rfl,xs,ai,k1,k2,k3⟩:=Ry;have hu:=h4 S' s'.h (fun _ h=>h) aQ 0 _ u rfl rfl;obtain⟨_,n,cp,ad,ti,q1,q2,_,q3,q4,hv⟩:=hu.rJ ai;have hh:=aQ.hp i trivial;rw[ai]at hh;have hh:an C.P w' (ay S' w') e xs (rho' i):=hh;have aN:(s'.h i).live:=by rw[ai];trivial
     have hblk:∀g,bH u=some g->bH (rho' i)=some g:=by
      intro g hg;rw[hv]at hg;rw[q1];split at hg
      ·cases ad<;>exact hg
      cases ad with
      | none=>cases hg
      | some a0=>
       simp only[cW,Nat.zero_mul,Addr.add,qH]at hg;exact hg
     refine outer S' s'.h u aQ sa ⟨?_,fun g hg=>(aQ.mO i g trivial aN (hblk g hg)).2.1⟩ k3 fun g _ HR=>?_
     ·rw[k1];exact an.front hh q1 q3 (by rw[hv];simp[Addr.add])
     have hg:bH u=some g:=al rfl HR;obtain⟨l1,l2,l3⟩:=aQ.mO i g trivial aN (hblk g hg);refine⟨l1,l3.symm,fun n LD=>?_⟩;obtain⟨i',_,m1,m2,m3⟩:=(fk S' s'.h aQ k3).2.1 n g LD;have:=aQ.dj i i' g trivial trivial aN m1 (.inl (hblk g hg)) m2;subst this;rw[k2]at m3;cases m3
    ·split at hk
     case h_2=>exact hk.elim
     rename_i ti hT;split at hk
     case h_2=>exact hk.elim
     rename_i hpos;obtain⟨k1,k3⟩:=hk;subst k1;obtain⟨info,z,g1,g2,_⟩:=hC.eL e ti hT;have hu:=h4 S' s'.h (fun _ h=>h) aQ 0 _ u rfl rfl;have ni:u=.slice none 0 0:=by cases hu;rfl
     subst ni;exact outer S' s'.h _ aQ sa ⟨⟨info,[],g1,by have:=Tj hpos;omega,World.ownsRow_nil _ _ _ _,by simp,by simp,by simp⟩,fun g hg=>by cases hg⟩ k3 fun g _ hg=>by cases al rfl hg
    exact hk.elim
   exact hk.elim
  | hown cs=>
   simp only at hk;split at hk
   ·rename_i av;obtain⟨u,rfl⟩:∃u,us=[u]:=by
     match us,h1 with
     | [u],_=>exact⟨u,rfl⟩
    have sa:(results fn a'.tmps).run C.P w'=.ok u w':=hrun;split at hk
    ·rename_i i off;cases off with
     | succ n=>exact hk.elim
     | zero=>
      obtain⟨k1,k2,k3⟩:=hk;have hu:=h4 S' s'.h (fun _ h=>h) aQ 0 _ u rfl rfl;obtain⟨_,g0,HR,hv⟩:=hu.dt (by rw[k1];trivial);have Ks:u=rho' i:=by rw[hv,HR]
      have hh:=aQ.hp i trivial;rw[k1]at hh;obtain⟨g1,ty,c,e1,e2⟩:=hh;have aN:(s'.h i).live:=by rw[k1];trivial
      have PY:∀k,hasB w' (.aA cs) u k->hasB w' (s'.h i) (rho' i) k:=fun k hk=>by rw[k1,<-Ks];exact hk
      refine outer S' s'.h u aQ sa ⟨g1,ty,c,by rw[Ks];exact e1,e2,fun k hk=>(aQ.lv i k trivial aN (PY k hk)).2.1⟩ k3 fun g _ hg=>?_;have eY:=PY g hg;obtain⟨l1,l2,l3⟩:=aQ.lv i g trivial aN eY;refine⟨l1,l3.symm,fun n LD=>?_⟩;obtain⟨i',_,m1,m2,m3⟩:=(fk S' s'.h aQ k3).2.1 n g LD;have:=aQ.dj i i' g trivial trivial aN m1 eY m2;subst this;rw[k2]at m3;cases m3
    exact hk.elim
   exact hk.elim
  | p x=>
   simp only at hk;split at hk
   ·rename_i av;obtain⟨u,rfl⟩:∃u,us=[u]:=by
     match us,h1 with
     | [u],_=>exact⟨u,rfl⟩
    have sa:(results fn a'.tmps).run C.P w'=.ok u w':=hrun;obtain⟨y,fz,S2,⟨rfl,cG⟩,aJ,hp,nX,_,_⟩:=e8 hC (s:=⟨s'.t,s'.h⟩) aQ (kM.refl s'.h) (h4 S' s'.h (fun _ h=>h) aQ 0 _ u rfl rfl) hk;exact outer S2 _ u aJ sa hp cG (fun g h=>by cases h)
   exact hk.elim
  | tu xs=>
   simp only at hk;split at hk
   ·exact hk.elim
   rename_i bO;obtain⟨ys,h',S2,⟨rfl,cG⟩,aJ,nX,hlen,hp⟩:=zp hC cT us S' s'.h h1 aQ (fun S2 h2 hS aJ=>h4 S2 h2 hS aJ) hk;have Ot:us.toArray.size≠1:=by
    intro e;have e1:us.length=1:=by simpa using e
    obtain⟨q,hq⟩:=List.length_eq_one_iff.1 (h1.trans e1);exact bO q hq
   rw[dif_neg Ot]at hrun;refine outer S2 h' _ aJ hrun ⟨us.toArray,rfl,by simpa using hlen,fun i x u hx hu=>hp i x u hx (by simpa using hu)⟩ cG (fun g h=>by cases h)
 cases e with
 | normal=>exact XC hk
 | ret=>exact XC hk
 | exit id=>exact hk.elim
 | goto l=>exact hk.elim
 | panic c=>exact hk.elim
 | outgrown=>exact hk.elim
def nT(args:List AV)(j:Nat):AV:=match args[j]? with
 | some x=>x
 | none=>.junk
def I4:List (Nat×AB)->(Nat->AB)->Prop
 | [],_=>True
 | (n,b)::r,h=>h n=b/\I4 r h
def HS(cT:List AV)(r:AV):Prop:=match r with
 | .junk=>True
 | r=>match cT with
  | [a]=>a=r
  | _=>AV.tu cT=r
def Ee(C:Ctx)(rs:List ResultVar)(r:AV)(fin:List (Nat×AB))(s:AS):Prop:=vx C s rs fun cT=>HS cT r/\I4 fin s.h
def xB(C:Ctx)(rs:List ResultVar)(r:AV)(fin:List (Nat×AB))(e:Exit)(s:AS):Prop:=match e with
 | .normal=>Ee C rs r fin s
 | .ret=>Ee C rs r fin s
 | _=>False
theorem ub:∀{fin:List (Nat×AB)} {h:Nat->AB},I4 fin h->∀k,bp fin k=.none\/bp fin k=h k
 | [],_,_,_=>.inl rfl
 | (n,b)::r,h,hf,k=>by
  unfold bp;split
  ·rename_i e;rw[bq e];exact .inr hf.1.symm
  exact ub hf.2 k
theorem Gl {C : Ctx} (hC : aL C) {f : FuncId} {c : Code} (hf : C.P.funcs[f]? = some fn) (hb : fn.body = some c) (mS : (fn.name == "runtime.NumGoroutine") = false) {args : List AV} {bX : List (Nat × AB)} {r : AV} {fin : List (Nat × AB)} (hn : args.length + (fn.ntmps - args.length) ≤ 100000)
  (h:∀A:jR,A.C=C->A.n=args.length+(fn.ntmps-args.length)->W A c (xB C fn.results.toList r fin) ⟨nT args,bp bX⟩):cR C f args bX r fin:=by
 refine⟨⟨fn,hf,mS,by rw[hb];rfl⟩,fun S w vs rho hE hS hl HK hrep=>?_⟩;have sim:aU ⟨C,w,po w rho (bp bX),S,vs.size+(fn.ntmps-vs.size),rho⟩ bk bk S rho ⟨nT args,bp bX⟩ { tmps:=vs++Array.replicate (fn.ntmps-vs.size) undef,defers:=[] } w:=
  {tm:=fun j _=>by
    show aE _ _ _ _ _ _ (nT args j) ((vs++Array.replicate (fn.ntmps-vs.size) undef).getD j undef);unfold nT;split
    ·rename_i x hx;obtain⟨v,hv⟩:=fJ hl (ah hx);have hj:=(vn.1 hv).1;rw[lU,vp hj,hv];exact hrep j x v hx hv
    exact .junk _
   sz:=by simp
   df:=rfl
   nb:=by show vs.size+(fn.ntmps-vs.size)<=100000;rw[<-hl];exact hn
   pn:=fun _ _=>rfl
   ev:=hE,s0:=fun _ h=>h,st:=hS,sb:=fun _ h=>.inl h
   hp:=fun id _=>HK.hp id
   dj:=fun i j g _ _ li lj hi hj=>HK.dj i j g li lj hi hj
   lv:=fun i g _ li hi=>⟨(HK.lv i g li hi).1,(HK.lv i g li hi).2,.inl ⟨i,li,hi⟩⟩
   fr:=Fr.refl _ _ }
 refine calls_of_wp hf hb ?_;have hw:=h ⟨C,w,po w rho (bp bX),S,vs.size+(fn.ntmps-vs.size),rho⟩ rfl (by rw[hl]);refine wp_mono (hw S _ _ w sim) fun e a' w' hq=>?_;obtain⟨S',rho',s',aQ,hk⟩:=hq;have XC:Ee C fn.results.toList r fin s'->a'.defers=[]/\∃v,(results fn a'.tmps).run C.P w'=.ok v w'/\∃v0 S' rho',Ending.returned v=.returned v0/\Fr (po w rho (bp bX)) w w'/\(∀b,S b->S' b)/\(∀b,S' b->b<w'.heap.size)/\(∀b,S' b->S b\/w.heap.size<=b\/po w rho (bp bX) b)/\
   (∀n,100000<=n->rho' n=rho n)/\Lu S' w' C.P rho' (bp fin)/\aE S' w' C.P bk rho' (bp fin) r v0/\∀g,po w' rho' (bp fin) g->w.heap.size<=g\/po w rho (bp bX) g:=by
  intro hk;refine⟨aQ.df,?_⟩;obtain⟨cT,us,⟨hr,cG⟩,h1,h2,h3,h4⟩:=r9 (A:=⟨C,w,po w rho (bp bX),S,vs.size+(fn.ntmps-vs.size),rho⟩) hC aQ fn.results.toList hk;have hrun:=qj h2;have hh:=ub cG;have there:∀k,(bp fin k).there->bp fin k=s'.h k:=fun k ht=>(hh k).resolve_left fun e=>by rw[e]at ht;exact ht
  have T:fu S' S' w' w' bk bk rho' rho' s'.h (bp fin):=⟨fun _ h=>h,fun _ _=>rfl,fun k ht=>⟨by rw[<-there k ht];exact ht,fun _=>⟨trivial,rfl⟩⟩,fun k e he=>by rw[<-there k (fv he)];exact he⟩;have hres:=h4 S' s'.h (fun _ h=>h) aQ;refine⟨_,hrun,_,S',rho',rfl,aQ.fr,aQ.s0,aQ.st,fun b hb=>?_,aQ.pn,⟨fun id=>?_,fun i j g li lj hi hj=>?_,fun i g li hi=>?_⟩,?_,fun g ⟨i,li,hi⟩=>?_⟩
  ·rcases aQ.sb b hb with h | h | h
   ·exact .inl h
   ·exact .inr (.inr h)
   exact .inr (.inl h)
  ·rcases hh id with e | e
   ·rw[e];trivial
   rw[e];exact (aQ.hp id trivial).bA T (fun _ _ _=>rfl) (fun _=>rfl)
  ·have e1:=there i (eF li);have e2:=there j (eF lj);rw[e1]at li hi;rw[e2]at lj hj;exact aQ.dj i j g trivial trivial li lj hi hj
  ·have e1:=there i (eF li);rw[e1]at li hi;exact⟨(aQ.lv i g trivial li hi).1,(aQ.lv i g trivial li hi).2.1⟩
  ·unfold HS at hr;split at hr
   ·exact .junk _
   split at hr
   ·rename_i av;obtain⟨u,rfl⟩:∃u,us=[u]:=by
     match us,h1 with
     | [u],_=>exact⟨u,rfl⟩
    subst hr;exact (hres 0 _ u rfl rfl).bA T
   rename_i bO;subst hr;have Ot:us.toArray.size≠1:=by
    intro e;have e1:us.length=1:=by simpa using e
    obtain⟨q,hq⟩:=List.length_eq_one_iff.1 (h1.trans e1);exact bO q hq
   rw[dif_neg Ot];exact .tu _ us.toArray (by simpa using h1) fun i x u hx hu=>(hres i x u hx (by simpa using hu)).bA T
  have e1:=there i (eF li);rw[e1]at li hi;exact (aQ.lv i g trivial li hi).2.2.symm
 cases e with
 | normal=>exact XC hk
 | ret=>exact XC hk
 | exit id=>exact hk.elim
 | goto l=>exact hk.elim
 | panic c=>exact hk.elim
 | outgrown=>exact hk.elim
theorem jm.of{C:Ctx}{f:FuncId}{t:TypeId}{xs:List PV}{e:TypeId}{l:List (List PV)}{r:PV}{l':List (List PV)}
  (h:∀(c0:Array Value) (J:TypeId),cR C f (.ifp t (.ow 100000)::xs.map .p) [(100000,.cell c0 J (.ow 90001)),(90001,.row e l)] (.p r) [(100000,.cell c0 J (.ow 90001)),(90001,.row e l')]):jm C f t xs e l r l':=by
 refine⟨(h #[] 0).1,fun S w vs g z c J v hE hS hl hargs hg hv ai Km hb=>?_⟩;obtain⟨rho,eZ⟩:∃rho:Nat->Value,rho=fun n=>if n=100000 then .pointer (some ⟨g,z,none⟩) else v:=⟨_,rfl⟩;have r0:rho 100000=.pointer (some ⟨g,z,none⟩):=by rw[eZ];rfl
 have r1:rho 90001=v:=by rw[eZ];rfl
 have bX:∀n,bp [(100000,.cell c J (.ow 90001)),(90001,.row e l)] n=(if n=100000 then .cell c J (.ow 90001) else if n=90001 then .row e l else .none):=fun n=>by
  by_cases I:n=100000
  ·subst I;rfl
  by_cases O:n=90001
  ·subst O;rfl
  simp only[bp,vu I,vu O,af I,af O]
 have o1:v.oneCell'=true:=by
  obtain⟨_,_,_,_,h3,_⟩:=ai;rcases h3.2 with⟨h4,_⟩ | ⟨_,_,_,h4,_⟩<;>rw[h4]<;>rfl
 have tv:z<c.size:=(vn.1 hv).1;have Ef:c.setIfInBounds z v=c:=by
  apply Array.ext_getElem?;intro i;rw[fg];split
  ·rename_i e;subst e;first | exact hv.symm | (rw[qH tv];exact hv.symm)
  rfl
 have own:∀i D,(bp [(100000,.cell c J (.ow 90001)),(90001,.row e l)] i).live->hasB w (bp [(100000,.cell c J (.ow 90001)),(90001,.row e l)] i) (rho i) D->(i=100000/\D=g)\/(i=90001/\bH v=some D):=fun i D U N=>by
  rw[bX]at U N;by_cases I:i=100000
  ·subst I;rw[qH rfl]at N;have:=al rfl N;rw[r0]at this;injection this with this;exact .inl ⟨rfl,this.symm⟩
  by_cases O:i=90001
  ·subst O;have:=al rfl N;rw[r1]at this;exact .inr ⟨rfl,this⟩
  rw[af I,af O]at U;exact U.elim
 have HK:Lu S w C.P rho (bp [(100000,.cell c J (.ow 90001)),(90001,.row e l)]):=by
  refine⟨fun id=>?_,fun i j D U lj N hj=>?_,fun i D U N=>?_⟩
  ·by_cases I:id=100000
   ·subst I;exact⟨g,z,v,r0,tv,by rw[Ef];exact hg,o1,.ow _ _ fun _=>⟨trivial,r1.symm⟩⟩
   by_cases O:id=90001
   ·subst O;show an _ _ _ _ _ (rho 90001);rw[r1];exact ai
   rw[bX,af I,af O];trivial
  ·rcases own i D U N with⟨a1,Y⟩ | ⟨a1,Y⟩<;>rcases own j D lj hj with⟨b1,b2⟩ | ⟨b1,b2⟩
   ·rw[a1,b1]
   ·exact absurd Y (hb D b2).2.1
   ·exact absurd b2 (hb D Y).2.1
   rw[a1,b1]
  rcases own i D U N with⟨a1,Y⟩ | ⟨a1,Y⟩
  ·subst Y;refine⟨?_,Km⟩;have:=(vn.1 hg).1;exact this
  exact⟨(hb D Y).2.2,(hb D Y).1⟩
 have key:=(h c J).2 S w (Value.iface t (.pointer (some ⟨g,z,none⟩))::vs).toArray rho hE hS (by simp[hl]) HK (fun j x u hx hu=>by
  cases j with
  | zero=>
   simp at hx hu;subst hx;subst hu;exact .ifp _ _ _ (.ow _ _ fun _=>⟨trivial,r0.symm⟩)
  | succ j=>
   have hx:(xs.map AV.p)[j]?=some x:=by simpa using hx
   have hu:vs[j]?=some u:=by simpa using hu
   rw[ao]at hx;obtain⟨y,hy,rfl⟩:=az.1 hx;exact .p _ _ (hargs j y u hy hu))
 refine key.mono fun e' w' fM=>?_;obtain⟨u,S',rho',rfl,hf,nX,PS,Od,D2,xu,hres,hown⟩:=fM;have q0:=xu.hp 100000;obtain⟨g2,Rz,v',Z,k2,k3,k4,k5⟩:=q0;rw[D2 100000 (aC _),r0]at Z;injection Z with Z;injection Z with Z;injection Z with Z RA;subst Z;subst RA;have k5:=(k5.bu (by trivial)).2;have q1:an C.P w' (ay S' w') e l' (rho' 90001):=xu.hp 90001;rw[<-k5]at q1;have HT:∀k,po w rho (bp [(100000,.cell c J (.ow 90001)),(90001,.row e l)]) k->k=g\/bH v=some k:=fun k ⟨i,U,N⟩=>(own i k U N).elim (fun h=>.inl h.2) fun h=>.inr h.2;refine⟨u,v',S',rfl,⟨hf.os,hf.tape,hf.output,hf.size,fun k hk tP=>hf.block k hk fun h=>tP (HT k h)⟩,hres.cb,k3,q1,fun k hk=>?_⟩;have mF:hasB w' (AB.row e l') (rho' 90001) k:=.inl (by rw[<-k5];exact hk);have bO:k≠g:=fun I=>by
  have:=xu.dj 90001 100000 k trivial trivial mF (.inl (by rw[D2 100000 (aC _),r0,I];rfl));cases this
 refine⟨(xu.lv 90001 k trivial mF).1,bO,?_⟩;rcases hown k ⟨90001,trivial,mF⟩ with h1 | h1
 ·exact .inr h1
 rcases HT k h1 with h2 | h2
 ·exact absurd h2 bO
 exact .inl h2
end Go.AM
