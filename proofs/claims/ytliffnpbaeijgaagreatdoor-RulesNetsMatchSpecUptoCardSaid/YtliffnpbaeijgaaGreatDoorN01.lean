/- Part 1 of the proof of RulesNetsMatchSpec. -/
import Derived.StillTail
import Derived.OwnWalk
import Derived.WalkKit
import Derived.Lib.Hide
import Derived.Below
import Derived.Laws.IdiomRangeMap
import Derived.MapKept
set_option linter.unusedVariables false
set_option linter.unusedSimpArgs false
set_option maxRecDepth 100000
set_option maxHeartbeats 8000000
namespace Go
abbrev cu:=@Bool.eq_false_iff
abbrev cY:=@Nat.eq_of_beq_eq_true
abbrev E3:=@Go.World.cell?_of_block
abbrev aG:=@Nat.le_refl
abbrev aS:=@Nat.le_trans
abbrev cB:=@Nat.lt_of_lt_of_le
abbrev aj:=@List.mem_of_getElem?
abbrev az:=@List.getElem?_eq_some_iff
abbrev dM:=@List.getElem?_take
abbrev vW:=@Array.getD_eq_getD_getElem?
abbrev Aw:=@Array.getElem?_setIfInBounds
abbrev aa:=@if_neg
abbrev dY:=@List.all_eq_true
abbrev aD:=@List.getElem?_map
abbrev cC:=@Array.getElem?_eq_getElem
abbrev Ax:=@Bool.eq_iff_iff
abbrev fV:=@decide_eq_true_eq
abbrev db:=@Go.ByteArray.toList_eq
abbrev E4:=@Array.ext'
abbrev qI:=@Option.map_eq_some_iff
abbrev aV:=@Go.Sem.run_bind
abbrev bT:=@Go.Addr.add_lit
abbrev oX:=@List.getElem?_eq_getElem
abbrev aW:=@List.getElem?_drop
abbrev gB:=@Nat.le_of_ble_eq_true
abbrev jK:=@List.getElem?_range
abbrev fX:=@Nat.zero_add
abbrev bp:=@Nat.add_assoc
abbrev lR:=@Go.Result.andThen_ok
abbrev dt:=@Go.Sem.run_pure
abbrev fY:=@List.mem_of_mem_drop
abbrev Ay:=@List.mem_of_mem_take
abbrev tz:=@Nat.add_zero
abbrev mY:=@Nat.add_mul
abbrev mZ:=@Option.map_some
abbrev fB:=@Array.mem_of_getElem?
abbrev Az:=@List.eq_nil_of_length_eq_zero
abbrev cI:=@Iff.rfl
abbrev fC:=@List.mem_append
abbrev b_:=@Nat.le_of_eq
abbrev oY:=@Go.RowKit.Below.heap_alloc
abbrev kv:=@List.length_nil
abbrev bN:=@List.length_cons
abbrev ae:=@if_pos
abbrev jL:=@Nat.sub_self
abbrev dZ:=@List.getElem?_set_self
abbrev vX:=@List.getElem?_cons_succ
abbrev gC:=@List.getElem?_set_ne
abbrev d_:=@List.append_assoc
abbrev dN:=@List.getElem?_append_left
abbrev oZ:=@List.getElem?_take_of_lt
abbrev du:=@List.getElem?_append_right
abbrev dO:=@Nat.succ_mul
abbrev cq:=@Nat.mul_le_mul_right
abbrev aQ:=@List.length_set
abbrev ak:=@Nat.zero_le
abbrev lS:=@List.size_toArray
abbrev bJ:=@List.length_append
abbrev cE:=@List.length_take
abbrev lU:=@List.length_drop
abbrev aaK:=@Array.length_toList
abbrev kz:=@List.ext_getElem?
abbrev iR:=@List.getElem?_eq_none
abbrev m_:=@List.mem_or_eq_of_mem_set
abbrev ca:=@List.mem_iff_getElem?
abbrev AA:=@Nat.lt_or_gt_of_ne
abbrev jM:=@Nat.succ_le_of_lt
abbrev ij:=@List.length_singleton
abbrev aJ:=@Bool.and_eq_true
abbrev cJ:=@Array.mem_toList_iff
abbrev kA:=@Array.toArray_toList
abbrev vY:=@Go.MapKept.run_getObj_map
abbrev ad0:=@Int.max_def
abbrev na:=@List.getElem_mem
abbrev LM:=@Nat.mod_lt
abbrev au:=@List.eq_of_mem_replicate
abbrev E5:=@List.length_map
abbrev AD:=@List.exists_mem_of_ne_nil
abbrev aZ:=@List.mem_map
abbrev bX:=@List.length_replicate
abbrev jN:=@List.foldl_cons
abbrev eH:=@List.map_cons
abbrev E6:=@List.mapM_cons
abbrev AE:=@Array.toList_map
abbrev LN:=@Nat.le_mul_of_pos_right
abbrev kC:=@Array.getElem?_toList
abbrev E7:=@Go.MapKept.bytes_beq
abbrev bW:=@List.mem_cons_self
abbrev cD:=@List.mem_cons_of_mem
abbrev vZ:=@List.all_cons
abbrev qJ:=@Bool.and_true
abbrev E8:=@List.map_append
abbrev af:=@List.pairwise_append
abbrev E9:=@List.pairwise_singleton
abbrev tA:=@Array.getElem?_modify
abbrev dP:=@List.getElem_of_mem
abbrev ar:=@congrArg
abbrev AF:=@Nat.lt_or_ge
abbrev cK:=@Bool.false_eq_true
abbrev AK:=@Nat.min_eq_left
abbrev aq:=@List.append_nil
abbrev nj:=@List.take_append_drop
abbrev cL:=@List.take_take
abbrev kG:=@List.take_of_length_le
end Go
namespace Go.AM
open Go.RowKit
inductive MK where
 | str
 | int (k:IntKind)
 | st (sh:List Nat)
inductive PV where
 | im (x:Value)
 | ag (cs:List PV)
 | sl (es:List (List PV))
 | ip (cs:List PV)
 | fn (f:FuncId) (cap:List PV)
 | mp (mk:MK) (es:List (Value×Value))
inductive AV where
 | p (x:PV)
 | nl
 | ow (id:Nat)
 | rp (id i off:Nat)
 | bx (id off:Nat)
 | vw (id lo hi:Nat)
 | fn (f:FuncId) (cap:List AV)
 | tu (xs:List AV)
 | st (xs:List AV)
 | junk
def JO:Nat->Value->Prop
 | 0,.string _=>True
 | 1,.int k _=>k=.i64
 | 2,.bool _=>True
 | _,_=>False
def nc:List Nat->List Value->Prop
 | [],[]=>True
 | n::s,v::r=>JO n v/\nc s r
 | _,_=>False
def MK.ok:MK->Value->Prop
 | .str,.string _=>True
 | .int k,.int k' _=>k'=k
 | .st sh,.agg xs=>nc sh xs.toList
 | _,_=>False
inductive HC where
 | p (x:PV)
 | row (e:TypeId) (es:List (List PV))
def HC.isRow:HC->Prop
 | .row ..=>True
 | _=>False
inductive HX where
 | av (x:AV)
 | row (e:TypeId) (es:List (List PV))
inductive AB where
 | none
 | row (e:TypeId) (es:List (List PV))
 | lz (es:List (List PV))
 | box (cs:List AV)
 | kr (ty:TypeId) (cs:List AV)
 | nd (cs:List PV)
 | map (mk:MK) (es:List (Value×PV))
 | aU (cs:List HC)
 | aw (e:TypeId) (es:List (List HX))
 | iter (mk:MK) (es:List (Value×Value)) (k:Nat) (cur:Option (Value×Value))
def AB.live:AB->Prop
 | .row .. | .box .. | .kr .. | .map .. | .aU .. | .aw .. | .iter ..=>True
 | _=>False
def AB.qK:AB->Option TypeId
 | .row e _=>some e
 | .aw e _=>some e
 | _=>Option.none
def AB.there:AB->Prop
 | .none=>False
 | _=>True
structure AS where
 t:Nat->AV
 h:Nat->AB
def a8{α:Type}(f:Nat->α)(i:Nat)(x:α)(j:Nat):α:=match Nat.beq j i with | true=>x | false=>f j
variable {α:Type}
theorem aF(f:Nat->α)(i:Nat)(x:α):a8 f i x i=x:=by simp[a8]
theorem bg(f:Nat->α){i j:Nat}(x:α)(h:j≠i):a8 f i x j=f j:=by
 unfold a8;have:Nat.beq j i=false:=by rw[cu];intro e;exact h (cY e)
 rw[this]
theorem kD(f:Nat->α)(i:Nat)(x:α)(h:f i=x):a8 f i x=f:=by
 funext j;by_cases e:j=i
 ·subst e;rw[aF,h]
 rw[bg _ _ e]
def abe(ms:Array MapEntry)(clock:Nat):Prop:=(ms.toList.map (·.born)).Pairwise (· < ·)/\∀m∈ms.toList,m.born<clock
def ahE(mk:MK)(es:List (Value×Value))(ms:Array MapEntry)(clock:Nat):Prop:=ms.size=es.length/\(∀(i:Nat) p m,es[i]?=some p->ms[i]?=some m->m.key=p.1/\mk.ok p.1/\m.val=p.2)/\abe ms clock
inductive aO(S:Nat->Prop)(w:World):PV->Value->Prop
 | im (x:Value):aO S w (.im x) x
 | ag (cs:List PV) (vs:Array Value) (hl:cs.length=vs.size) (h1:∀u∈vs.toList,u.oneCell'=true) (h:∀(i:Nat) c v,cs[i]?=some c->vs[i]?=some v->aO S w c v):aO S w (.ag cs) (.agg vs)
 | nil (a:Option Addr) (c:Nat):aO S w (.sl []) (.slice a 0 c)
 | sl (es:List (List PV)) (k b off c:Nat) (U:Nat->Nat->Value) (hc:es.length<=c) (hS:S b) (hk:∀e∈es,e.length=k)
   (hcell:∀(i:Nat) e (j:Nat) x,es[i]?=some e->e[j]?=some x->w.cell? ⟨b,off+i*k+j,none⟩=some (U i j)/\(U i j).oneCell'=true)
   (h:∀(i:Nat) e (j:Nat) x,es[i]?=some e->e[j]?=some x->aO S w x (U i j)):aO S w (.sl es) (.slice (some ⟨b,off,none⟩) es.length c)
 | ip (cs:List PV) (b off:Nat) (U:Nat->Value) (hS:S b) (hcell:∀(j:Nat) x,cs[j]?=some x->w.cell? ⟨b,off+j,none⟩=some (U j)/\(U j).oneCell'=true)
   (h:∀(j:Nat) x,cs[j]?=some x->aO S w x (U j)):aO S w (.ip cs) (.pointer (some ⟨b,off,none⟩))
 | fn (f:FuncId) (cap:List PV) (vs:Array Value) (hl:cap.length=vs.size) (h:∀(i:Nat) c v,cap[i]?=some c->vs[i]?=some v->aO S w c v):aO S w (.fn f cap) (.func (.func f) #[] vs)
 | mp (mk:MK) (es:List (Value×Value)) (g:Nat) (ms:Array MapEntry) (clock:Nat) (hS:S g) (hb:w.heap[g]?=some (.map ms clock)) (h:ahE mk es ms clock):aO S w (.mp mk es) (.map (some g))
variable {w':World}
theorem aO.mono{S S':Nat->Prop}{w:World}{x:PV}{v:Value}(h:aO S w x v)(hS:∀b,S b->S' b)(z:∀b,S b->w'.heap[b]?=w.heap[b]?):aO S' w' x v:=by
 induction h with
 | im x=>exact .im x
 | ag cs vs hl u h ih=>exact .ag cs vs hl u ih
 | nil a c=>exact .nil a c
 | sl es k b off c U hc hb hk hcell h ih=>exact .sl es k b off c U hc (hS b hb) hk (fun i e j x u D=>⟨(E3 (z b hb)).trans (hcell i e j x u D).1,(hcell i e j x u D).2⟩) ih
 | ip cs b off U hb hcell h ih=>exact .ip cs b off U (hS b hb) (fun j x u=>⟨(E3 (z b hb)).trans (hcell j x u).1,(hcell j x u).2⟩) ih
 | fn f cap vs hl h ih=>exact .fn f cap vs hl ih
 | mp mk es g ms clock hg hb h=>exact .mp mk es g ms clock (hS g hg) ((z g hg).trans hb) h
theorem aO.agi{S:Nat->Prop}{w:World}{mk:MK}{es:List (Value×Value)}{v:Value}(h:aO S w (.mp mk es) v):∃g ms u,v=.map (some g)/\S g/\w.heap[g]?=some (.map ms u)/\ahE mk es ms u:=by
 cases h with
 | mp _ _ g ms u hS hb h=>exact⟨g,ms,u,rfl,hS,hb,h⟩
structure Fr(mv:Nat->Prop)(w w':World):Prop where
 os:w'.os=w.os
 tape:w'.tape=w.tape
 output:w'.output=w.output
 size:w.heap.size<=w'.heap.size
 block:∀k,k<w.heap.size->¬mv k->w'.heap[k]?=w.heap[k]?
theorem Fr.refl(mv:Nat->Prop)(w:World):Fr mv w w:=⟨rfl,rfl,rfl,aG _,fun _ _ _=>rfl⟩
theorem Fr.trans{mv u:Nat->Prop}{a b c:World}(h:Fr mv a b)(k:Fr u b c)(I:∀i,u i->mv i\/a.heap.size<=i):Fr mv a c:=
 ⟨k.os.trans h.os,k.tape.trans h.tape,k.output.trans h.output,aS h.size k.size,fun i hi z=>
  (k.block i (cB hi h.size) (fun J=>by rcases I i J with D | D;exact z D;omega)).trans (h.block i hi z)⟩
def aH{α:Type}(P:Program)(w:World)(R:α->Value->Prop)(e:TypeId)(es:List (List α))(v:Value):Prop:=
 ∃i xs,P.info? e=some i/\0<i.size/\w.ownsRow 0 e i.size v es.length xs/\(∀r∈es,r.length=i.size)/\(∀u∈xs,u.oneCell'=true)/\
  ∀(a:Nat) r (j:Nat) x,es[a]?=some r->r[j]?=some x->∃u,xs[a*i.size+j]?=some u/\R x u
def cF:Value->Option Nat
 | .slice (some a) _ _=>some a.block
 | .pointer (some a)=>some a.block
 | .map (some g)=>some g
 | _=>none
inductive bu(S:Nat->Prop)(w:World)(P:Program)(L:Nat->Prop)(rho:Nat->Value)(h:Nat->AB):AV->Value->Prop
 | p (x:PV) (v:Value) (hx:aO S w x v):bu S w P L rho h (.p x) v
 | nl:bu S w P L rho h .nl (.slice none 0 0)
 | ow (id:Nat) (v:Value) (hv:(h id).there->L id/\v=rho id):bu S w P L rho h (.ow id) v
 | rp (id i off:Nat) (v:Value) (hv:∀e,(h id).qK=some e->L id/\∃g n c ti,rho id=.slice (some ⟨g,0,none⟩) n c/\P.info? e=some ti/\v=.pointer (some ⟨g,i*ti.size+off,none⟩)):bu S w P L rho h (.rp id i off) v
 | bx (id off:Nat) (v:Value) (hv:(h id).there->L id/\∃g,rho id=.pointer (some ⟨g,0,none⟩)/\v=.pointer (some ⟨g,off,none⟩)):bu S w P L rho h (.bx id off) v
 | vw (id lo hi:Nat) (v:Value) (hv:∀e,(h id).qK=some e->L id/\∃n c a ti,rho id=.slice a n c/\P.info? e=some ti/\lo<=hi/\hi<=n/\n<=c/\v=.slice (if c=lo then a else a.map (·.add (lo*ti.size))) (hi-lo) (c-lo)):bu S w P L rho h (.vw id lo hi) v
 | fn (f:FuncId) (cap:List AV) (vs:Array Value) (hl:cap.length=vs.size) (hc:∀(i:Nat) c v,cap[i]?=some c->vs[i]?=some v->bu S w P L rho h c v):bu S w P L rho h (.fn f cap) (.func (.func f) #[] vs)
 | tu (xs:List AV) (vs:Array Value) (hl:xs.length=vs.size) (hc:∀(i:Nat) c v,xs[i]?=some c->vs[i]?=some v->bu S w P L rho h c v):bu S w P L rho h (.tu xs) (.tuple vs)
 | st (xs:List AV) (vs:Array Value) (hl:xs.length=vs.size) (h1:∀u∈vs.toList,u.oneCell'=true) (hc:∀(i:Nat) c v,xs[i]?=some c->vs[i]?=some v->bu S w P L rho h c v):bu S w P L rho h (.st xs) (.agg vs)
 | junk (v:Value):bu S w P L rho h .junk v
def U_(S:Nat->Prop)(w:World)(P:Program):HC->Value->Prop
 | .p x,u=>aO S w x u
 | .row e es,u=>aH P w (aO S w) e es u
structure Nl(S:Nat->Prop)(w:World)(P:Program)(cs:List HC)(g:Nat)(ty:TypeId)(c:Array Value):Prop where
 hp:w.heap[g]?=some (.cells c ty (0,0))
 sz:c.size=cs.length
 cell:∀(j:Nat) x u,cs[j]?=some x->c[j]?=some u->u.oneCell'=true/\U_ S w P x u
 top:∀(j:Nat) x u b,cs[j]?=some x->c[j]?=some u->x.isRow->cF u=some b->b≠g
 dis:∀(i j:Nat) x y u v b,cs[i]?=some x->cs[j]?=some y->c[i]?=some u->c[j]?=some v->x.isRow->y.isRow->cF u=some b->cF v=some b->i=j
def uT(S:Nat->Prop)(w:World)(P:Program)(L:Nat->Prop)(rho:Nat->Value)(h:Nat->AB):HX->Value->Prop
 | .av x,u=>bu S w P L rho h x u
 | .row e es,u=>aH P w (aO S w) e es u
def dT(w:World)(es:List (List HX))(g:Nat)(a j:Nat)(u:Value):Prop:=∃(r:List HX) (e:TypeId) (xs:List (List PV)) (c:Array Value) (ty:TypeId) (m:Nat×Nat),es[a]?=some r/\r[j]?=some (.row e xs)/\w.heap[g]?=some (.cells c ty m)/\c[a*r.length+j]?=some u
structure yt(w:World)(es:List (List HX))(v:Value):Prop where
 top:∀g a j u b,cF v=some g->dT w es g a j u->cF u=some b->b≠g
 dis:∀g a j a' j' u u' b,cF v=some g->dT w es g a j u->dT w es g a' j' u'->cF u=some b->cF u'=some b->a=a'/\j=j'
def abc(w:World)(x:AB)(v:Value)(k:Nat):Prop:=∃e es g a j u,x=.aw e es/\cF v=some g/\dT w es g a j u/\cF u=some k
def abd(w:World)(x:AB)(v:Value)(k:Nat):Prop:=∃cs g,x=.aU cs/\cF v=some g/\∃(c:Array Value) (ty:TypeId) (m:Nat×Nat) (j:Nat) (y:HC) (u:Value),w.heap[g]?=some (.cells c ty m)/\cs[j]?=some y/\y.isRow/\c[j]?=some u/\cF u=some k
def inn(w:World)(x:AB)(v:Value)(k:Nat):Prop:=abd w x v k\/abc w x v k
def hasB(w:World)(x:AB)(v:Value)(k:Nat):Prop:=cF v=some k\/inn w x v k
theorem o7{w:World}{es:List (List HX)}{g a j:Nat}{u:Value}(z:w'.heap[g]?=w.heap[g]?)(h:dT w' es g a j u):dT w es g a j u:=by
 obtain⟨r,e,xs,c,D,m,I,J,N,O⟩:=h;exact⟨r,e,xs,c,D,m,I,J,by rw[<-z];exact N,O⟩
theorem dJ{w:World}{x:AB}{v:Value}{k:Nat}(N:∀g,cF v=some g->w'.heap[g]?=w.heap[g]?)(h:hasB w' x v k):hasB w x v k:=by
 rcases h with h | ⟨cs,g,D,z,c,O,m,j,y,u,I,J⟩ | ⟨e,es,g,a,j,u,D,z,I,J⟩
 ·exact .inl h
 ·exact .inr (.inl ⟨cs,g,D,z,c,O,m,j,y,u,by rw[<-N g z];exact I,J⟩)
 exact .inr (.inr ⟨e,es,g,a,j,u,D,z,o7 (N g z) I,J⟩)
def VZ:AB->Bool
 | .aU _=>false
 | .aw _ _=>false
 | _=>true
theorem aI{w:World}{x:AB}{v:Value}{k:Nat}(z:VZ x=true)(h:hasB w x v k):cF v=some k:=by
 rcases h with h | ⟨cs,g,rfl,_⟩ | ⟨e,es,g,a,j,u,rfl,_⟩
 ·exact h
 ·cases z
 cases z
def fD(S:Nat->Prop)(w:World)(P:Program)(L:Nat->Prop)(rho:Nat->Value)(h:Nat->AB)(id:Nat):AB->Prop
 | .none=>True
 | .row e es=>aH P w (aO S w) e es (rho id)
 | .lz es=>aO S w (.sl es) (rho id)
 | .box cs=>∃g ty c,rho id=.pointer (some ⟨g,0,none⟩)/\w.heap[g]?=some (.cells c ty (0,0))/\c.size=cs.length/\∀(j:Nat) x u,cs[j]?=some x->c[j]?=some u->u.oneCell'=true/\bu S w P L rho h x u
 | .kr ty cs=>∃g c,rho id=.pointer (some ⟨g,0,none⟩)/\w.heap[g]?=some (.cells c ty (0,0))/\c.size=cs.length/\∀(j:Nat) x u,cs[j]?=some x->c[j]?=some u->u.oneCell'=true/\bu S w P L rho h x u
 | .nd cs=>aO S w (.ip cs) (rho id)
 | .aU cs=>∃g ty c,rho id=.pointer (some ⟨g,0,none⟩)/\Nl S w P cs g ty c
 | .aw e es=>aH P w (uT S w P L rho h) e es (rho id)/\yt w es (rho id)
 | .map mk es=>∃g ms clock,rho id=.map (some g)/\w.heap[g]?=some (.map ms clock)/\ms.size=es.length/\(∀(i:Nat) p m,es[i]?=some p->ms[i]?=some m->m.key=p.1/\mk.ok p.1/\aO S w p.2 m.val)/\abe ms clock
 | .iter mk es k cur=>∃g mg ms clock,∃seen:Array Nat,rho id=.pointer (some ⟨g,0,none⟩)/\w.heap[g]?=some (.mapIter (some mg) clock seen clock)/\S mg/\w.heap[mg]?=some (.map ms clock)/\ahE mk es ms clock/\(leftOf ms seen).size=k /\
  ∀p,cur=some p->∃e∈ms.toList,∃aiR:Array Nat,seen=aiR.push e.born/\e.key=p.1/\e.val=p.2
end Go.AM
namespace Go.AM
open Go.RowKit
inductive UD where
 | sc
 | int (k:IntKind)
 | st (fs:List (Nat×Nat×Bool))
 | sl (e:TypeId)
 | str
 | mp (k e:TypeId)
structure TI where
 ud:UD
 size:Nat
 bytes:Nat
 zero:List Value
 eq:Bool:=false
def UD.agg:UD->Bool
 | .st _=>true
 | _=>false
inductive Arg where
 | pv (x:PV)
 | row (e:TypeId) (es:List (List PV))
 | map (mk:MK) (es:List (Value×PV))
 | box (cs:List PV)
 | aU (cs:List HC)
inductive AR where
 | p (x:PV)
 | own (e:TypeId) (es:List (List PV))
 | tu (xs:List PV)
 | hown (cs:List HC)
inductive Fin where
 | gone
 | row (es:List (List PV))
 | map (es:List (Value×PV))
 | box (cs:List PV)
 | aU (cs:List HC)
structure Ctx where
 P:Program
 T:TypeId->Option TI
 md:FuncId->Nat->Bool
 E:(Nat->Prop)->World->Prop
 bl:FuncId->Bool:=fun _=>false
 bt:TypeId->Bool:=fun _=>false
 bn:TypeId->Bool:=fun _=>false
 bo:TypeId->Bool:=fun _=>false
 bf:Nat->Bool:=fun _=>false
def Nn:Value->Value->Bool
 | .string a,.string b=>decide (a=b)
 | .int _ a,.int _ b=>decide (a=b)
 | .bool a,.bool b=>decide (a=b)
 | _,_=>false
def Hj:List Value->List Value->Bool
 | [],[]=>true
 | x::r,y::s=>Nn x y&&Hj r s
 | _,_=>false
def Dj:Value->Value->Bool
 | .string a,.string b=>decide (a=b)
 | .int _ a,.int _ b=>decide (a=b)
 | .agg a,.agg b=>Hj a.toList b.toList
 | _,_=>false
def gz:List (Value×PV)->Value->Option PV
 | [],_=>none
 | (k',v)::r,k=>match Dj k k' with
  | true=>some v
  | false=>gz r k
def iS:List (Value×PV)->Value->PV->List (Value×PV)
 | [],k,v=>[(k,v)]
 | (k',u)::r,k,v=>match Dj k k' with
  | true=>(k,v)::r
  | false=>(k',u)::iS r k v
def E_:List Value->Option (List Nat)
 | []=>some []
 | .string _::r=>(E_ r).map (0::·)
 | .int .i64 _::r=>(E_ r).map (1::·)
 | .bool _::r=>(E_ r).map (2::·)
 | _=>none
def Dr(ti:TI):Option MK:=match ti.ud with
 | .str=>some .str
 | .int k=>some (.int k)
 | .st fs=>match ti.eq,fs.any (·.2.2) with
  | true,false=>(E_ ti.zero).map .st
  | _,_=>none
 | _=>none
def shB:List Nat->List Nat->Bool
 | [],[]=>true
 | a::r,b::s=>match Nat.beq a b with
  | true=>shB r s
  | false=>false
 | _,_=>false
def mkB:MK->MK->Bool
 | .str,.str=>true
 | .int .i64,.int .i64=>true
 | .st a,.st b=>shB a b
 | _,_=>false
def nY:List Nat->List PV->Option (List Value)
 | [],[]=>some []
 | 0::s,.im (.string x)::r=>(nY s r).map (.string x::·)
 | 1::s,.im (.int .i64 x)::r=>(nY s r).map (.int .i64 x::·)
 | 2::s,.im (.bool x)::r=>(nY s r).map (.bool x::·)
 | _,_=>none
def keyOf:MK->AV->Option Value
 | .str,.p (.im (.string s))=>some (.string s)
 | .int .i64,.p (.im (.int .i64 n))=>some (.int .i64 n)
 | .st sh,.p (.ag cs)=>(nY sh cs).map fun l=>.agg l.toArray
 | _,_=>none
abbrev KK:=AV->List (Nat×AB)->Option AB->Prop
def app(h:Nat->AB):List (Nat×AB)->Nat->AB
 | []=>h
 | (i,b)::r=>app (a8 h i b) r
def Ag:Value->PV
 | .slice none 0 0=>.sl []
 | v=>.im v
def X_(b:Bool)(v:Value):PV:=match b with
 | true=>.im v
 | false=>Ag v
def Ya:PV->AV
 | .im (.slice none 0 0)=>.nl
 | x=>.p x
def No:Value->AV
 | .slice none 0 0=>.nl
 | v=>.p (.im v)
def Fa:Value->AV
 | .slice none 0 0=>.nl
 | .agg cs=>match cs.toList.all Value.oneCell' with
  | true=>.p (.ag (cs.toList.map Ag))
  | false=>.junk
 | v=>.p (.im v)
def ev(t:Nat->AV):Operand->AV
 | .tmp j=>t j
 | .const v=>Fa v
 | .global g=>.p (.im (.pointer (some ⟨g,0,none⟩)))
 | .func f=>.p (.im (.func (.func f) #[] #[]))
def gm:List AV->Option (List PV)
 | []=>some []
 | .p x::r=>(gm r).map (x::·)
 | .nl::r=>(gm r).map (.sl []::·)
 | _=>none
def nZ(h:Nat->AB)(a:AV)(K:PV->List (Nat×AB)->Prop):Prop:=
 match a with
 | .p x=>K x []
 | .nl=>K (.sl []) []
 | .ow id=>match h id with
  | .row _ es=>K (.sl es) [(id,.lz es)]
  | .lz es=>K (.sl es) []
  | _=>False
 | .bx id off=>match h id with
  | .box cs=>match gm cs with
   | some xs=>K (.ip (xs.drop off)) [(id,.nd xs)]
   | none=>False
  | .nd xs=>K (.ip (xs.drop off)) []
  | _=>False
 | _=>False
def zu(h:Nat->AB):List AV->(List PV->List (Nat×AB)->Prop)->Prop
 | [],K=>K [] []
 | a::r,K=>nZ h a fun x fz=>zu h r fun xs fz'=>K (x::xs) (fz++fz')
def iT(h:Nat->AB)(a:AV)(K:PV->List (Nat×AB)->Prop):Prop:=
 match a with
 | .fn f cap=>zu h cap fun xs fz=>K (.fn f xs) fz
 | a=>nZ h a K
def vn:PV->Option (List PV)
 | .ag cs=>some cs
 | .im x=>match x.oneCell' with
  | true=>some [.im x]
  | false=>none
 | x=>some [x]
def yu(h:Nat->AB):AV->Bool
 | .p (.im x)=>x.oneCell'
 | .p (.ag _)=>false
 | .p _=>true
 | .nl=>true
 | .ow id=>match h id with
  | .row _ _=>true
  | .aw _ _=>true
  | .lz _=>true
  | _=>false
 | .bx id _=>match h id with
  | .none=>false
  | _=>true
 | .rp id _ _=>match h id with
  | .row _ _=>true
  | .aw _ _=>true
  | _=>false
 | .fn _ _=>true
 | _=>false
def setCells{α:Type}:List α->Nat->List α->List α
 | cs,_,[]=>cs
 | cs,off,x::r=>setCells (cs.set off x) (off+1) r
def vo(id:Nat):List (Nat×AB)->Bool
 | []=>true
 | (i,_)::r=>match Nat.beq i id with
  | true=>false
  | false=>vo id r
def LP(a b:Nat):Bool:=Nat.ble a b
def Dk(a b:Nat):Bool:=Nat.beq a b
def InI(x:Int):Prop:=-9223372036854775808<=x/\x<=9223372036854775807
def V0{α:Type}:List α->Bool
 | []=>true
 | _=>false
def kB(a b:IntKind):Bool:=match a,b with
 | .i8,.i8 | .i16,.i16 | .i32,.i32 | .i64,.i64 | .u8,.u8 | .u16,.u16 | .u32,.u32 | .u64,.u64=>true
 | _,_=>false
def Yt:IntKind->Bool
 | .i64=>true
 | _=>false
def yw(k:IntKind)(n:Int)(K:Value->Prop):Prop:=match Yt k with
 | true=>InI n/\K (.int .i64 n)
 | false=>K (.int k (k.wrap n))
def bU:List Value->List PV->List PV->Option Bool
 | [],[],[]=>some true
 | .int _ _::z,.im (.int k a)::r,.im (.int k' b)::s=>match kB k k' with
  | true=>(bU z r s).map (decide (a=b)&&·)
  | false=>none
 | .string _::z,.im (.string a)::r,.im (.string b)::s=>(bU z r s).map (decide (a=b)&&·)
 | .bool _::z,.im (.bool a)::r,.im (.bool b)::s=>(bU z r s).map (decide (a=b)&&·)
 | _,_,_=>none
def Np(T:TypeId->Option TI)(op:BinOp)(t:TypeId)(x:PV)(K:Value->Prop):Prop:=match x with
 | .sl es=>match V0 es with
  | true=>False
  | false=>match T t with
   | some { ud:=.sl _,.. }=>match op with
    | .eql=>K (.bool false)
    | .neq=>K (.bool true)
    | _=>False
   | _=>False
 | _=>False
def abf:BinOp->Bool
 | .shr=>true
 | _=>false
def vp(T:TypeId->Option TI)(op:BinOp)(t:TypeId)(x y:PV)(K:Value->Prop):Prop:=
 match x,y with
 | .im (.int k a),.im (.int k' b)=>match abf op with
  | true=>(0<=b/\b<64)/\K (.int k (a.fdiv (2 ^ (min b.toNat k.bits))))
  | false=>match kB k k' with
  | false=>False
  | true=>match op with
   | .add=>yw k (a+b) K
   | .sub=>yw k (a-b) K
   | .mul=>yw k (a*b) K
   | .quo=>b≠0/\yw k (a.tdiv b) K
   | .rem=>b≠0/\K (.int k (a.tmod b))
   | .eql=>K (.bool (decide (a=b)))
   | .neq=>K (.bool (!decide (a=b)))
   | .lss=>K (.bool (decide (a<b)))
   | .leq=>K (.bool (decide (a<=b)))
   | .gtr=>K (.bool (decide (a>b)))
   | .geq=>K (.bool (decide (a>=b)))
   | _=>False
 | .im (.string a),.im (.string b)=>match op with
  | .add=>a.size+b.size<=9223372036854775807/\K (.string (a++b))
  | .eql=>K (.bool (decide (a=b)))
  | .neq=>K (.bool (!decide (a=b)))
  | .lss=>K (.bool (Op.bytesLess a.data.toList b.data.toList))
  | .leq=>K (.bool (Op.bytesLess a.data.toList b.data.toList||decide (a=b)))
  | .gtr=>K (.bool !(Op.bytesLess a.data.toList b.data.toList||decide (a=b)))
  | .geq=>K (.bool !(Op.bytesLess a.data.toList b.data.toList))
  | _=>False
 | .im (.bool a),.im (.bool b)=>match T t with
  | some { ud:=.sc,eq:=true,.. }=>match op with
   | .eql=>K (.bool (decide (a=b)))
   | .neq=>K (.bool (!decide (a=b)))
   | _=>False
  | _=>False
 | .ag a,.ag b=>match T t with
  | some { ud:=.st _,eq:=true,size:=n,zero:=z,.. }=>match Dk n a.length with
   | false=>False
   | true=>match op with
    | .eql=>match bU z a b with
     | some r=>K (.bool r)
     | none=>False
    | .neq=>match bU z a b with
     | some r=>K (.bool !r)
     | none=>False
    | _=>False
  | _=>False
 | _,_=>False
def mpE(p:Value×Value):Value×PV:=(p.1,.im p.2)
def Fb(S:Nat->Prop)(w:World)(mk:MK)(es:List (Value×PV))(v:Value):Prop:=∃g ms clock,v=.map (some g)/\w.heap[g]?=some (.map ms clock)/\ms.size=es.length/\(∀(i:Nat) p m,es[i]?=some p->ms[i]?=some m->m.key=p.1/\mk.ok p.1/\aO S w p.2 m.val)/\abe ms clock
def JP(S:Nat->Prop)(w:World)(P:Program):Arg->Value->Prop
 | .pv x,v=>aO S w x v
 | .row e es,v=>aH P w (aO S w) e es v/\∀g,cF v=some g->¬S g
 | .map mk es,v=>Fb S w mk es v/\∀g,cF v=some g->¬S g
 | .box cs,v=>∃g ty c,v=.pointer (some ⟨g,0,none⟩)/\w.heap[g]?=some (.cells c ty (0,0))/\c.size=cs.length/\¬S g/\∀(j:Nat) x u,cs[j]?=some x->c[j]?=some u->u.oneCell'=true/\aO S w x u
 | .aU cs,v=>∃g ty c,v=.pointer (some ⟨g,0,none⟩)/\Nl S w P cs g ty c/\∀k,hasB w (.aU cs) v k->¬S k/\k<w.heap.size
def Ds:Arg->AB
 | .aU cs=>.aU cs
 | _=>.none
def Tb:Fin->AB
 | .aU cs=>.aU cs
 | _=>.none
def Arg.handed:Arg->Bool
 | .pv _=>false
 | _=>true
def Mv(w:World)(args:List Arg)(vs:Array Value)(g:Nat):Prop:=∃(j:Nat) (x:Arg) (v:Value),args[j]?=some x/\vs[j]?=some v/\x.handed=true/\hasB w (Ds x) v g
def pS(S:Nat->Prop)(w:World)(P:Program):Arg->Fin->Value->Prop
 | _,.gone,_=>True
 | .row e _,.row es,v=>aH P w (aO S w) e es v/\∀g,cF v=some g->¬S g
 | .map mk _,.map es,v=>Fb S w mk es v/\∀g,cF v=some g->¬S g
 | .box _,.box cs,v=>∃g ty c,v=.pointer (some ⟨g,0,none⟩)/\w.heap[g]?=some (.cells c ty (0,0))/\c.size=cs.length/\¬S g/\∀(j:Nat) x u,cs[j]?=some x->c[j]?=some u->u.oneCell'=true/\aO S w x u
 | .aU _,.aU cs,v=>∃g ty c,v=.pointer (some ⟨g,0,none⟩)/\Nl S w P cs g ty c/\∀k,hasB w (.aU cs) v k->¬S k
 | _,_,_=>False
def Fin.kept:Fin->Bool
 | .gone=>false
 | _=>true
def PF(S:Nat->Prop)(w:World)(P:Program):AR->Value->Prop
 | .p x,v=>aO S w x v
 | .own e es,v=>aH P w (aO S w) e es v/\∀g,cF v=some g->¬S g
 | .hown cs,v=>∃g ty c,v=.pointer (some ⟨g,0,none⟩)/\Nl S w P cs g ty c/\∀k,hasB w (.aU cs) v k->¬S k
 | .tu xs,v=>∃vs:Array Value,v=.tuple vs/\xs.length=vs.size/\∀(i:Nat) x u,xs[i]?=some x->vs[i]?=some u->aO S w x u
def AR.owns:AR->Bool
 | .own ..=>true
 | .hown ..=>true
 | _=>false
def AR.ab:AR->AB
 | .hown cs=>.aU cs
 | _=>.none
def w9(S:Nat->Prop)(w:World)(P:Program):List Arg->List Fin->List Value->Prop
 | [],[],[]=>True
 | x::xs,fs,v::vs=>match x.handed with
  | false=>w9 S w P xs fs vs
  | true=>match fs with
   | f::fs=>pS S w P x f v/\w9 S w P xs fs vs
   | []=>False
 | _,_,_=>False
def dA(w:World):List Arg->List Fin->List Value->Nat->Nat->Prop
 | x::xs,fs,v::vs,i,g=>match x.handed with
  | false=>match i with
   | 0=>False
   | i+1=>dA w xs fs vs i g
  | true=>match fs with
   | f::fs=>match i with
    | 0=>f.kept=true/\hasB w (Tb f) v g
    | i+1=>dA w xs fs vs i g
   | []=>False
 | _,_,_,_,_=>False
def v7(w w':World)(args:List Arg)(fin:List Fin)(vs:Array Value):Prop:=
 (∀i g,dA w' args fin vs.toList i g->g<w'.heap.size/\(w.heap.size<=g\/Mv w args vs g))/\∀i j g,dA w' args fin vs.toList i g->dA w' args fin vs.toList j g->i=j
def ai(C:Ctx)(f:FuncId)(args:List Arg)(r:AR)(fin:List Fin):Prop:=
 (∃ fn : Func, C.P.funcs[f]? = some fn ∧ (fn.name == "runtime.NumGoroutine") = false ∧ fn.body.isNone = false) ∧
 ∀(S:Nat->Prop) (w:World) (vs:Array Value),C.E S w->(∀b,S b->b<w.heap.size)->args.length=vs.size ->
  (∀(j:Nat) x v,args[j]?=some x->vs[j]?=some v->JP S w C.P x v)->
  (∀(i j:Nat) x y v u g,args[i]?=some x->args[j]?=some y->vs[i]?=some v->vs[j]?=some u->x.handed=true->y.handed=true->hasB w (Ds x) v g->hasB w (Ds y) u g->i=j)->
  Calls C.P f vs w fun e w'=>∃v S',e=.returned v/\Fr (Mv w args vs) w w'/\(∀b,S b->S' b)/\(∀b,S' b->b<w'.heap.size)/\(∀b,S' b->S b\/w.heap.size<=b\/Mv w args vs b)/\
   PF S' w' C.P r v/\w9 S' w' C.P args fin vs.toList/\v7 w w' args fin vs/\(∀g,r.owns=true->hasB w' r.ab v g->g<w'.heap.size/\(w.heap.size<=g\/Mv w args vs g)/\∀i,¬dA w' args fin vs.toList i g)
def iC(md:Nat->Bool)(h:Nat->AB):Nat->List AV->(List Arg->List (Nat×AB)->List (Nat×AB)->Prop)->Prop
 | _,[],K=>K [] [] []
 | j,a::r,K=>match md j with
  | false=>iT h a fun x fz=>iC md h (j+1) r fun xs ids fz'=>K (.pv x::xs) ids (fz++fz')
  | true=>match a with
   | .ow id=>match h id with
    | .row e es=>iC md h (j+1) r fun xs ids fz=>K (.row e es::xs) ((id,.row e es)::ids) fz
    | .lz es=>iC md h (j+1) r fun xs ids fz=>K (.pv (.sl es)::xs) ids fz
    | .map mk es=>iC md h (j+1) r fun xs ids fz=>K (.map mk es::xs) ((id,.map mk es)::ids) fz
    | _=>False
   | .p x=>iC md h (j+1) r fun xs ids fz=>K (.pv x::xs) ids fz
   | .bx id 0=>match h id with
    | .box cs=>match gm cs with
     | some ys=>iC md h (j+1) r fun xs ids fz=>K (.box ys::xs) ((id,.box cs)::ids) fz
     | none=>False
    | .aU cs=>iC md h (j+1) r fun xs ids fz=>K (.aU cs::xs) ((id,.aU cs)::ids) fz
    | _=>False
   | _=>False
def Hk:PV->Bool
 | .im _=>true
 | .ag cs=>cs.all fun | .im _=>true | _=>false
 | _=>false
def AR.free:AR->Bool
 | .p x=>Hk x
 | .tu xs=>xs.all Hk
 | .own ..=>false
 | .hown ..=>false
def gZ:List (Nat×AB)->List Fin->Option (List (Nat×AB))
 | [],[]=>some []
 | (id,_)::ids,.gone::fs=>(gZ ids fs).map ((id,.none)::·)
 | (id,.row e _)::ids,.row es::fs=>(gZ ids fs).map ((id,.row e es)::·)
 | (id,.map mk _)::ids,.map es::fs=>(gZ ids fs).map ((id,.map mk es)::·)
 | (id,.box _)::ids,.box cs::fs=>(gZ ids fs).map ((id,.box (cs.map .p))::·)
 | (id,.aU _)::ids,.aU cs::fs=>(gZ ids fs).map ((id,.aU cs)::·)
 | _,_=>none
def abg:AR->Option AB
 | .own e es=>some (.row e es)
 | .hown cs=>some (.aU cs)
 | _=>none
def Yb(d:Nat):AR->AV
 | .p x=>.p x
 | .own ..=>.ow d
 | .hown _=>.bx d 0
 | .tu xs=>.tu (xs.map .p)
def isNil{α:Type}:List α->Bool
 | []=>true
 | _=>false
def LQ:List (Nat×AB)->List (Nat×AB)->Bool
 | [],_=>true
 | (i,_)::r,fz=>vo i fz&&vo i r&&LQ r fz
def qL(C:Ctx)(h:Nat->AB)(d:Nat)(f:FuncId)(args:List AV)(K:KK):Prop:=
 iC (C.md f) h 0 args fun xs ids fz=>∃r fin,ai C f xs r fin/\match gZ ids fin with
  | some fe=>match LQ ids fz with
   | true=>match r.free&&isNil ids with
    | true=>K (Yb d r) [] none
    | false=>K (Yb d r) (fz++fe) (abg r)
   | false=>False
  | none=>False
inductive Yc:HX->PV->Prop
 | p (x:PV):Yc (.av (.p x)) x
 | nl:Yc (.av .nl) (.sl [])
 | row (e:TypeId) (xs:List (List PV)):Yc (.row e xs) (.sl xs)
structure SU(es:List (List HX))(ps:List (List PV)):Prop where
 len:ps.length=es.length
 row:∀(a:Nat) r q,es[a]?=some r->ps[a]?=some q->q.length=r.length/\∀(j:Nat) x y,r[j]?=some x->q[j]?=some y->Yc x y
inductive qb(h:Nat->AB):AV->PV->Prop
 | p (x:PV):qb h (.p x) x
 | nl:qb h .nl (.sl [])
 | row (id:Nat) (e:TypeId) (es:List (List PV)) (hr:h id=.row e es):qb h (.ow id) (.sl es)
 | lz (id:Nat) (es:List (List PV)) (hr:h id=.lz es):qb h (.ow id) (.sl es)
 | aw (id:Nat) (e:TypeId) (es:List (List HX)) (ps:List (List PV)) (hr:h id=.aw e es) (hp:SU es ps):qb h (.ow id) (.sl ps)
inductive qM(h:Nat->AB):List AV->List PV->Prop
 | nil:qM h [] []
 | cons {a:AV} {x:PV} {as:List AV} {xs:List PV} (h1:qb h a x) (h2:qM h as xs):qM h (a::as) (x::xs)
inductive View(h:Nat->AB):AV->PV->Prop
 | one {a:AV} {x:PV} (h1:qb h a x):View h a x
 | box (id off:Nat) (cs:List AV) (xs:List PV) (hb:h id=.box cs) (hx:qM h cs xs):View h (.bx id off) (.ip (xs.drop off))
 | nd (id off:Nat) (xs:List PV) (hb:h id=.nd xs):View h (.bx id off) (.ip (xs.drop off))
inductive v8(h:Nat->AB):List AV->List PV->Prop
 | nil:v8 h [] []
 | cons {a:AV} {x:PV} {as:List AV} {xs:List PV} (h1:View h a x) (h2:v8 h as xs):v8 h (a::as) (x::xs)
def Yu(C:Ctx)(h:Nat->AB)(d:Nat)(f:FuncId)(args:List AV)(K:KK):Prop:=∃xs r,v8 h args xs/\ai C f (xs.map .pv) r []/\r.free=true/\K (Yb d r) [] none
def abh:AV->Bool
 | .ow _=>true
 | _=>false
def Dt{α:Type}(f:α->Bool):List α->Bool
 | []=>false
 | x::r=>match f x with
  | true=>true
  | false=>Dt f r
def eI(h:Nat->AB):AV->Bool
 | .bx id _=>match h id with
  | .box cs=>Dt abh cs
  | _=>false
 | .ow id=>match h id with
  | .aw _ _=>true
  | _=>false
 | _=>false
def Va(cs:List AV)(ys:List PV):Prop:=ys.length=cs.length/\∀(j:Nat) x,cs[j]?=some (.p x)->ys[j]?=some x
def yx(h:Nat->AB):AV->Bool
 | .p (.sl _)=>true
 | .p (.im (.slice _ _ _))=>true
 | .ow id=>match h id with
  | .row _ _=>true
  | _=>false
 | .nl=>true
 | _=>false
def V1:PV->Prop
 | .im _=>True
 | .sl es=>∀r∈es,∃k n,r=[.im (.int k n)]
 | _=>False
def Yv:PV->Prop
 | .ag cs=>∀c∈cs,V1 c
 | x=>V1 x
def Bl(C:Ctx)(h:Nat->AB)(f:FuncId)(args:List AV)(K:KK):Prop:=match args with
 | [.bx id 0,.p y,.ow iU]=>match h id,h iU with
  | .box cs,.row e es=>∃x dv,(∀ys,Va cs ys->ai C f [.pv (.ip ys),.pv y,.row e es] (.p x) [.row dv])/\(∀c∈cs,yx h c=true)/\Yv x/\(∀r∈dv,∀z∈r,Hk z=true)/\K (.p x) [(iU,.row e dv)] none
  | _,_=>False
 | _=>False
def qN(C:Ctx)(h:Nat->AB)(d:Nat)(f:FuncId)(args:List AV)(K:KK):Prop:=match Dt (eI h) args with
 | false=>qL C h d f args K
 | true=>match C.md f 90 with
  | false=>Yu C h d f args K
  | true=>Bl C h f args K
def Yd:List (Nat×Value)->Array Value->Array Value
 | [],c=>c
 | (j,v)::r,c=>Yd r (c.setIfInBounds j v)
def LR:List (Nat×Value)->List PV->List PV
 | [],c=>c
 | (j,v)::r,c=>LR r (c.set j (.im v))
def vq(C:Ctx)(f:FuncId)(n off:Nat)(y:PV)(rd wr:List (Nat×Value))(r:Value):Prop:=
 (∃ fn : Func, C.P.funcs[f]? = some fn ∧ (fn.name == "runtime.NumGoroutine") = false ∧ fn.body.isNone = false) ∧
 ∀(S:Nat->Prop) (w:World) (v1:Value) (b:Nat) (c:Array Value) (ty:TypeId),C.E S w->(∀k,S k->k<w.heap.size)->aO S w y v1->w.heap[b]?=some (.cells c ty (0,0))->c.size=n->¬S b->(∀p∈rd,c[p.1]?=some p.2)->
  Calls C.P f #[.pointer (some ⟨b,0,none⟩),v1,.pointer (some ⟨b,off,none⟩)] w fun e' w'=>e'=.returned r/\Fr (fun k=>k=b) w w'/\w'.heap[b]?=some (.cells (Yd wr c) ty (0,0))
def JQ:List (Nat×Value)->Bool
 | []=>true
 | (_,v)::r=>v.oneCell'&&JQ r
def Nq(ys:List PV):List (Nat×Value)->Prop
 | []=>True
 | (j,v)::r=>ys[j]?=some (.im v)/\Nq ys r
def Bm(C:Ctx)(h:Nat->AB)(f:FuncId)(args:List AV)(K:KK):Prop:=match args with
 | [.bx id 0,.p y,.bx nO off]=>match Nat.beq nO id,h id with
  | true,.box cs=>match gm cs with
   | some ys=>∃rd wr r,vq C f ys.length off y rd wr r/\Nq ys rd/\JQ wr=true/\K (.p (.im r)) [(id,.box ((LR wr ys).map .p))] none
   | none=>False
  | _,_=>False
 | _=>False
def zv(C:Ctx)(h:Nat->AB)(d:Nat)(f:FuncId)(args:List AV)(K:KK):Prop:=match C.md f 91 with
 | false=>qN C h d f args K
 | true=>Bm C h f args K
def V2(C:Ctx)(f:FuncId)(xs:List PV)(ty e:TypeId)(es:List (List PV))(r:AR)(ch:Bool)(dv:Option (List (List PV))):Prop:=
 (∃ fn : Func, C.P.funcs[f]? = some fn ∧ (fn.name == "runtime.NumGoroutine") = false ∧ fn.body.isNone = false) ∧
 ∀(S:Nat->Prop) (w:World) (vs:List Value) (b:Nat) (u0 u1:Value),C.E S w->(∀k,S k->k<w.heap.size)->xs.length=vs.length ->
  (∀(j:Nat) x v,xs[j]?=some x->vs[j]?=some v->aO S w x v)->w.heap[b]?=some (.cells #[u0,u1] ty (0,0))->(u0=.pointer none\/u0=.pointer (some ⟨b,0,none⟩))->
  aH C.P w (aO S w) e es u1->¬S b->(∀g,cF u1=some g->¬S g/\g≠b/\g<w.heap.size)->
  Calls C.P f (vs++[Value.pointer (some ⟨b,0,none⟩)]).toArray w fun e' w'=>∃v,e'=.returned v/\Fr (fun k=>k=b\/cF u1=some k) w w'/\PF S w' C.P r v/\match dv with
   | none=>True
   | some dv=>∃u1',w'.heap[b]?=some (.cells #[(match ch with | true=>Value.pointer (some ⟨b,0,none⟩) | false=>u0),u1'] ty (0,0))/\aH C.P w' (aO S w') e dv u1'/\∀g,cF u1'=some g->g<w'.heap.size/\(cF u1=some g\/w.heap.size<=g)
def tB:List AV->Option (List AV×AV)
 | []=>none
 | [x]=>some ([],x)
 | x::y::r=>match tB (y::r) with
  | some (l,z)=>some (x::l,z)
  | none=>none
def Vb(id:Nat):AV->Bool
 | .p (.im (.pointer none))=>true
 | .bx i 0=>Nat.beq i id
 | _=>false
def zw(ch:Bool)(id:Nat)(c:AV):AV:=match ch with
 | true=>.bx id 0
 | false=>c
def zx(C:Ctx)(h:Nat->AB)(d:Nat)(f:FuncId)(args:List AV)(K:KK):Prop:=
 match tB args with
 | some (as,.bx id 0)=>match h id with
  | .kr ty [c,.ow iU]=>match Vb id c with
   | true=>match h iU with
    | .row e es=>zu h as fun xs fz=>∃r ch dv,V2 C f xs ty e es r ch dv/\match r.free&&(vo id fz&&(vo iU fz&&!Nat.beq id iU)) with
     | true=>match dv with
      | some dv=>K (Yb d r) (fz++[(iU,.none),(id,.kr ty [zw ch id c,.ow d])]) (some (.row e dv))
      | none=>K (Yb d r) (fz++[(iU,.none),(id,.none)]) none
     | false=>False
    | _=>False
   | false=>False
  | _=>False
 | _=>False
def lA(h:Nat->AB)(fs:List (Nat×Nat×Bool))(rho:Operand->AV):List (Nat×Operand)->List PV->(List PV->List (Nat×AB)->Prop)->Prop
 | [],cs,K=>K cs []
 | (i,x)::r,cs,K=>match fs[i]? with
  | some (off,size,_)=>iT h (rho x) fun y fz=>match vn y with
   | some ys=>match Dk ys.length size&&LP (off+size) cs.length with
    | true=>lA h fs rho r (setCells cs off ys) fun oM fz'=>K oM (fz++fz')
    | false=>False
   | none=>False
  | none=>False
def mU(h:Nat->AB)(fs:List (Nat×Nat×Bool))(rho:Operand->AV):List (Nat×Operand)->List AV->(List AV->Prop)->Prop
 | [],cs,K=>K cs
 | (i,x)::r,cs,K=>match fs[i]? with
  | some (off,size,_)=>match Dk size 1&&LP (off+1) cs.length&&yu h (rho x) with
   | true=>mU h fs rho r (cs.set off (rho x)) K
   | false=>False
  | none=>False
def zy(b:Bool)(h:Nat->AB)(a:AV)(K:PV->List (Nat×AB)->Prop):Prop:=match b,a with
 | true,.nl=>K (.im (.slice none 0 0)) []
 | _,a=>iT h a K
def iD(b:Bool)(h:Nat->AB)(size:Nat)(rho:Operand->AV):List (Nat×Operand)->List (List PV)->(List (List PV)->List (Nat×AB)->Prop)->Prop
 | [],es,K=>K es []
 | (i,x)::r,es,K=>zy b h (rho x) fun y fz=>match vn y with
  | some ys=>match Dk ys.length size&&Nat.blt i es.length with
   | true=>iD b h size rho r (es.set i ys) fun dv fz'=>K dv (fz++fz')
   | false=>False
  | none=>False
def iE(h:Nat->AB)(a:AV)(K:List (List PV)->Prop):Prop:=match a with
 | .p (.sl es)=>K es
 | .nl=>K []
 | .ow id=>match h id with
  | .row _ es=>K es
  | .lz es=>K es
  | _=>False
 | _=>False
inductive CK where
 | len
 | clear
 | min
 | max
 | append
 | val (g:Operand)
 | other
def fZ:Builtin->CK
 | .len=>.len
 | .clear=>.clear
 | .min=>.min
 | .max=>.max
 | .append=>.append
 | _=>.other
def fc:Callee->CK
 | .builtin b=>fZ b
 | .value g=>.val g
 | .invoke _ _=>.other
def LS:Fn->Option FuncId
 | .func f=>some f
 | _=>none
def LU:Value->Option (FuncId×List AV)
 | .func fn first cap=>match isNil first.toList&&isNil cap.toList with
  | true=>match LS fn with
   | some f=>some (f,[])
   | none=>none
  | false=>none
 | _=>none
def LV:PV->Option (FuncId×List AV)
 | .im v=>LU v
 | .fn f cap=>some (f,cap.map .p)
 | _=>none
def Bn:AV->Option (FuncId×List AV)
 | .p x=>LV x
 | .fn f cap=>some (f,cap)
 | _=>none
def Bo(ti:TI):PV:=match ti.ud.agg with
 | true=>.ag (ti.zero.map Ag)
 | false=>match ti.zero with
  | z::_=>Ag z
  | []=>.im undef
def g_(C:Ctx)(rho:Operand->AV)(h:Nat->AB)(t:TypeId)(x:Operand)(lo hi:Option Operand)(K:KK):Prop:=
  let l:=match lo with | some y=>rho y | none=>.p (.im (.int .i64 0))
  match C.T t with
  | some { ud:=.str,.. }=>match rho x with
   | .p (.im (.string s))=>
    match l,(match hi with | some y=>rho y | none=>.p (.im (.int .i64 s.size))) with
    | .p (.im (.int _ a)),.p (.im (.int _ b))=>(0<=a/\a<=b/\b<=s.size)/\K (.p (.im (.string (s.extract a.toNat b.toNat)))) [] none
    | _,_=>False
   | _=>False
  | some { ud:=.sl e,.. }=>match C.T e with
   | none=>False
   | some te=>iT h (rho x) fun y fz=>match y with
    | .sl es=>match l,(match hi with | some y=>rho y | none=>.p (.im (.int .i64 es.length))) with
     | .p (.im (.int _ a)),.p (.im (.int _ b))=>(0<=a/\a<=b/\b<=es.length/\∀r∈es,r.length=te.size)/\K (.p (.sl ((es.take b.toNat).drop a.toNat))) fz none
     | _,_=>False
    | _=>False
  | _=>False
def v_(C:Ctx)(rho:Operand->AV)(t:TypeId)(lo hi:Option Operand)(id:Nat)(e':TypeId)(es:List (List PV))(K:KK):Prop:=
 match C.T t with
 | some { ud:=.sl e,.. }=>match Dk e' e with
  | true=>match (match lo with | some y=>rho y | none=>.p (.im (.int .i64 0))),(match hi with | some y=>rho y | none=>.p (.im (.int .i64 es.length))) with
   | .p (.im (.int _ a)),.p (.im (.int _ b))=>(0<=a/\a<=b/\b<=es.length)/\K (.vw id a.toNat b.toNat) [] none
   | _,_=>False
  | false=>False
 | _=>False
def hlen(h:Nat->AB):AV->Option Nat
 | .ow id=>match h id with
  | .aw _ es=>some es.length
  | _=>none
 | .vw id lo hi=>match h id with
  | .row _ _=>some (hi-lo)
  | _=>none
 | _=>none
def uN(r:List PV):List HX:=r.map fun x=>.av (Ya x)
def cc(C:Ctx)(o:Oper)(rho:Operand->AV)(h:Nat->AB)(K:KK):Prop:=
 let d:=o.dst.getD 0
 match o.op with
 | .move x=>K (rho x) [] none
 | .assign x=>K (rho x) [] none
 | .pick c a b=>match rho c with
  | .p (.im (.bool t))=>match t with
   | true=>K (rho a) [] none
   | false=>K (rho b) [] none
  | _=>False
 | .binOp op t x y _=>match rho x,rho y with
  | .p a,.p b=>vp C.T op t a b fun v=>K (.p (.im v)) [] none
  | .p a,.nl=>Np C.T op t a fun v=>K (.p (.im v)) [] none
  | _,_=>False
 | .unOp op _ x=>match op,rho x with
  | .not,.p (.im (.bool b))=>K (.p (.im (.bool !b))) [] none
  | .neg,.p (.im (.int k n))=>yw k (0-n) fun v=>K (.p (.im v)) [] none
  | _,_=>False
 | .convert src dst x=>match rho x,C.T src,C.T dst with
  | .p (.im (.int _ n)),some _,some { ud:=.int k,.. }=>yw k n fun v=>K (.p (.im v)) [] none
  | .p (.im (.string s)),some { ud:=.str,.. },some { ud:=.str,.. }=>K (.p (.im (.string s))) [] none
  | .p (.im (.int _ n)),some { ud:=.int _,.. },some { ud:=.str,.. }=>K (.p (.im (.string (Utf8.encode n)))) [] none
  | _,_,_=>False
 | .nilCheck x=>match rho x with
  | .p (.ip cs)=>K (.p (.ip cs)) [] none
  | .bx id off=>match h id with
   | .box _=>K (.bx id off) [] none
   | .nd _=>K (.bx id off) [] none
   | _=>False
  | .rp id i off=>match h id with
   | .row _ _=>K (.rp id i off) [] none
   | .aw _ _=>K (.rp id i off) [] none
   | _=>False
  | _=>False
 | .extract x i=>match rho x with
  | .tu xs=>match xs[i]? with
   | some a=>K a [] none
   | none=>False
  | _=>False
 | .box _ x=>match rho x with
  | .p (.ag cs)=>K (.bx d 0) [] (some (.box (cs.map .p)))
  | .st xs=>K (.bx d 0) [] (some (.box xs))
  | a=>match yu h a with
   | true=>K (.bx d 0) [] (some (.box [a]))
   | false=>False
 | .alloc e=>match C.T e with
  | some ti=>match C.bt e with
   | false=>K (.bx d 0) [] (some (.box (ti.zero.map No)))
   | true=>K (.bx d 0) [] (some (.kr e (ti.zero.map No)))
  | none=>False
 | .load t a=>match C.T t with
  | none=>False
  | some ti=>match rho a with
   | .p (.ip cs)=>match ti.ud.agg with
    | true=>match LP ti.size cs.length with
     | true=>K (.p (.ag (cs.take ti.size))) [] none
     | false=>False
    | false=>match cs with
     | c::_=>K (.p c) [] none
     | []=>False
   | .bx id off=>match h id with
    | .box cs=>match ti.ud.agg with
     | true=>match LP (off+ti.size) cs.length,gm ((cs.drop off).take ti.size) with
      | true,some xs=>K (.p (.ag xs)) [] none
      | _,_=>False
     | false=>match cs.drop off with
      | c::_=>K c [] none
      | []=>False
    | .nd cs=>match ti.ud.agg with
     | true=>match LP (off+ti.size) cs.length with
      | true=>K (.p (.ag ((cs.drop off).take ti.size))) [] none
      | _=>False
     | false=>match cs.drop off with
      | c::_=>K (.p c) [] none
      | []=>False
    | _=>False
   | .rp id i off=>match h id with
    | .row _ es=>∃r,es[i]?=some r/\match ti.ud.agg with
     | true=>match LP (off+ti.size) r.length with
      | true=>K (.p (.ag ((r.drop off).take ti.size))) [] none
      | _=>False
     | false=>match r.drop off with
      | c::_=>K (.p c) [] none
      | []=>False
    | .aw _ es=>∃r,es[i]?=some r/\match ti.ud.agg with
     | true=>False
     | false=>match r.drop off with
      | .av c::_=>K c [] none
      | _=>False
    | _=>False
   | _=>False
 | .store t a x=>match C.T t with
  | none=>False
  | some ti=>match rho a with
   | .bx id off=>match h id with
    | .box cs=>match ti.ud.agg with
     | true=>iT h (rho x) fun y fz=>match y with
      | .ag ys=>match Dk ys.length ti.size&&LP (off+ti.size) cs.length&&vo id fz with
       | true=>K .junk (fz++[(id,.box (setCells cs off (ys.map Ya)))]) none
       | false=>False
      | _=>False
     | false=>match LP (off+1) cs.length&&Dk ti.size 1&&yu h (rho x) with
      | true=>K .junk [(id,.box (cs.set off (rho x)))] none
      | false=>False
    | _=>False
   | .rp id i off=>match h id with
    | .row e es=>∃r,es[i]?=some r/\iT h (rho x) fun y fz=>match vn y with
     | some ys=>match Dk ys.length ti.size&&LP (off+ti.size) r.length&&vo id fz with
      | true=>K .junk (fz++[(id,.row e (es.set i (setCells r off ys)))]) none
      | false=>False
     | none=>False
    | .aw e es=>∃r,es[i]?=some r/\match ti.ud.agg with
     | true=>False
     | false=>match LP (off+1) r.length&&Dk ti.size 1&&yu h (rho x) with
      | true=>K .junk [(id,.aw e (es.set i (r.set off (.av (rho x)))))] none
      | false=>False
    | _=>False
   | _=>False
 | .fieldAddr t x f=>match C.T t with
  | some { ud:=.st fs,.. }=>match fs[f]? with
   | some (off,_,_)=>match rho x with
    | .p (.ip cs)=>K (.p (.ip (cs.drop off))) [] none
    | .bx id o=>match h id with
     | .none=>False
     | _=>K (.bx id (o+off)) [] none
    | .rp id i o=>match h id with
     | .row _ _=>K (.rp id i (o+off)) [] none
     | .aw _ _=>K (.rp id i (o+off)) [] none
     | _=>False
    | _=>False
   | none=>False
  | _=>False
 | .field t x f=>match C.T t,rho x with
  | some { ud:=.st fs,.. },.p (.ag cs)=>match fs[f]? with
   | some (off,size,agg)=>match agg with
    | true=>match LP (off+size) cs.length with
     | true=>K (.p (.ag ((cs.drop off).take size))) [] none
     | false=>False
    | false=>match cs.drop off with
     | c::_=>K (.p c) [] none
     | []=>False
   | none=>False
  | _,_=>False
 | .indexAddr t x ix=>match C.T t,rho ix with
  | some { ud:=.sl e,.. },.p (.im (.int _ i))=>match C.T e with
   | none=>False
   | some te=>match rho x with
    | .p (.sl es)=>∃r,(0<=i/\es[i.toNat]?=some r)/\match Dk r.length te.size with
     | true=>K (.p (.ip r)) [] none
     | false=>False
    | .ow id=>match h id with
     | .row e' es=>match Dk e' e with
      | true=>(0<=i/\i.toNat<es.length)/\K (.rp id i.toNat 0) [] none
      | false=>False
     | .aw e' es=>match Dk e' e with
      | true=>(0<=i/\i.toNat<es.length)/\K (.rp id i.toNat 0) [] none
      | false=>False
     | .lz es=>∃r,(0<=i/\es[i.toNat]?=some r)/\match Dk r.length te.size with
      | true=>K (.p (.ip r)) [] none
      | false=>False
     | _=>False
    | .vw id lo hi=>match h id with
     | .row e' es=>match Dk e' e with
      | true=>(0<=i/\i.toNat<hi-lo)/\K (.rp id (lo+i.toNat) 0) [] none
      | false=>False
     | _=>False
    | _=>False
  | _,_=>False
 | .index t x ix=>match C.T t,rho x,rho ix with
  | some { ud:=.str,.. },.p (.im (.string s)),.p (.im (.int _ i))=>∃b,(0<=i/\s[i.toNat]?=some b)/\K (.p (.im (.int .u8 b.toNat))) [] none
  | _,_,_=>False
 | .slice t x lo hi none=>match rho x with
  | .ow id=>match h id with
   | .row e' es=>v_ C rho t lo hi id e' es K\/g_ C rho h t x lo hi K
   | _=>g_ C rho h t x lo hi K
  | _=>g_ C rho h t x lo hi K
 | .makeMap t none=>match C.T t with
  | some { ud:=.mp kt _,.. }=>match C.T kt with
   | some tk=>match Dr tk with
    | some mk=>K (.ow d) [] (some (.map mk []))
    | none=>False
   | none=>False
  | _=>False
 | .lookup t x i ck=>match C.T t with
  | some { ud:=.mp kt et,.. }=>match C.T kt,C.T et with
   | some tk,some te=>match Dr tk with
    | some mk=>match rho x with
     | .ow id=>match h id with
      | .map mk' es=>match mkB mk mk' with
       | true=>match keyOf mk (rho i) with
        | some k=>∃r,gz es k=r/\match ck with
         | true=>K (.tu [.p (r.getD (Bo te)),.p (.im (.bool r.isSome))]) [] none
         | false=>K (.p (r.getD (Bo te))) [] none
        | none=>False
       | false=>False
      | _=>False
     | .p (.mp mk' es)=>match mkB mk mk' with
      | true=>match keyOf mk (rho i) with
       | some k=>∃r,gz (es.map mpE) k=r/\match ck with
        | true=>K (.tu [.p (r.getD (Bo te)),.p (.im (.bool r.isSome))]) [] none
        | false=>K (.p (r.getD (Bo te))) [] none
       | none=>False
      | false=>False
     | _=>False
    | none=>False
   | _,_=>False
  | _=>False
 | .range t x=>match C.T t with
  | some { ud:=.mp _ _,.. }=>match rho x with
   | .p (.mp mk es)=>K (.bx d 0) [] (some (.iter mk es es.length none))
   | _=>False
  | _=>False
 | .entry x=>match rho x with
  | .bx id 0=>match h id with
   | .iter _ _ _ (some p)=>K (.tu [.p (.im p.1),.p (.im p.2)]) [] none
   | _=>False
  | _=>False
 | .mapUpdate t x i y=>match C.T t with
  | some { ud:=.mp kt _,.. }=>match C.T kt with
   | some tk=>match Dr tk with
    | some mk=>match rho x with
     | .ow id=>match h id with
      | .map mk' es=>match mkB mk mk' with
       | true=>match keyOf mk (rho i) with
        | some k=>iT h (rho y) fun v fz=>match vo id fz with
         | true=>K .junk (fz++[(id,.map mk' (iS es k v))]) none
         | false=>False
        | none=>False
       | false=>False
      | _=>False
     | _=>False
    | none=>False
   | none=>False
  | _=>False
 | .build t ps=>match C.T t with
  | some { ud:=.st fs,zero:=z,.. }=>match C.bo t with
   | false=>lA h fs rho ps.toList (z.map (X_ (C.bn t))) fun cs fz=>K (.p (.ag cs)) fz none
   | true=>mU h fs rho ps.toList (z.map No) fun cs=>K (.st cs) [] none
  | _=>False
 | .buildSlice t len ps=>match C.T t with
  | some { ud:=.sl e,.. }=>match C.T e with
   | some ti=>match Nat.blt 0 ti.size&&LP (len*ti.size) 16777216 with
    | true=>match C.bf d with
     | false=>iD (C.bn t) h ti.size rho ps.toList (List.replicate len (ti.zero.map Ag)) fun es fz=>K (.ow d) fz (some (.row e es))
     | true=>iD (C.bn t) h ti.size rho ps.toList (List.replicate len (ti.zero.map Ag)) fun es fz=>K (.ow d) fz (some (.lz es))
    | false=>False
   | none=>False
  | _=>False
 | .makeSlice t n c=>match C.T t,rho n,rho c with
  | some { ud:=.sl e,.. },.p (.im (.int _ n)),.p (.im (.int _ c))=>match C.T e with
   | some ti=>match Nat.blt 0 ti.size with
    | true=>(0<=n/\n<=c/\c*ti.bytes<=140737488355328/\c<=9223372036854775807)/\K (.ow d) [] (some (.row e (List.replicate n.toNat (ti.zero.map (X_ (C.bn t))))))
    | false=>False
   | none=>False
  | _,_,_=>False
 | .makeFunc (.func f) first cap=>match isNil first.toList with
  | true=>K (.fn f (cap.toList.map rho)) [] none
  | false=>False
 | .call c=>match fc c.callee with
  | .len=>match c.args.toList,c.argTypes.toList with
   | [x],[t]=>match C.T t with
    | some { ud:=.str,.. }=>match rho x with
     | .p (.im (.string s))=>K (.p (.im (.int .i64 s.size))) [] none
     | _=>False
    | some { ud:=.sl _,.. }=>match hlen h (rho x) with
     | some n=>K (.p (.im (.int .i64 n))) [] none
     | none=>iE h (rho x) fun es=>K (.p (.im (.int .i64 es.length))) [] none
    | some { ud:=.mp _ _,.. }=>match rho x with
     | .ow id=>match h id with
      | .map _ es=>K (.p (.im (.int .i64 es.length))) [] none
      | _=>False
     | .p (.mp _ es)=>K (.p (.im (.int .i64 es.length))) [] none
     | _=>False
    | _=>False
   | _,_=>False
  | .clear=>match c.args.toList,c.argTypes.toList with
   | [x],[t]=>match C.T t with
    | some { ud:=.sl e,.. }=>match C.T e with
     | some ti=>match rho x with
      | .vw id lo hi=>match h id with
       | .row e' es=>match Dk e' e&&Nat.blt 0 ti.size with
        | true=>(lo<=hi/\hi<=es.length)/\K (.tu []) [(id,.row e' (es.take lo++List.replicate (hi-lo) (ti.zero.map Ag)++es.drop hi))] none
        | false=>False
       | _=>False
      | _=>False
     | none=>False
    | _=>False
   | _,_=>False
  | .min=>match c.args.toList with
   | [x,y]=>match rho x,rho y with
    | .p (.im (.int k a)),.p (.im (.int _ b))=>K (.p (.im (.int k (min a b)))) [] none
    | _,_=>False
   | _=>False
  | .max=>match c.args.toList with
   | [x,y]=>match rho x,rho y with
    | .p (.im (.int k a)),.p (.im (.int _ b))=>K (.p (.im (.int k (max a b)))) [] none
    | _,_=>False
   | [x,y,z]=>match rho x,rho y,rho z with
    | .p (.im (.int k a)),.p (.im (.int _ b)),.p (.im (.int _ c))=>K (.p (.im (.int k (max (max a b) c)))) [] none
    | _,_,_=>False
   | [x,y,z,u,v]=>match rho x,rho y,rho z,rho u,rho v with
    | .p (.im (.int k a)),.p (.im (.int _ b)),.p (.im (.int _ c)),.p (.im (.int _ d)),.p (.im (.int _ e))=>K (.p (.im (.int k (max (max (max (max a b) c) d) e)))) [] none
    | _,_,_,_,_=>False
   | _=>False
  | .append=>match c.args.toList,c.argTypes.toList with
   | [x,y],[t,t']=>match Dk t t',C.T t with
    | true,some { ud:=.sl e,.. }=>match C.T e with
     | some ti=>match Nat.blt 0 ti.size with
      | true=>iE h (rho y) fun ys=>match rho x with
       | .nl=>((∀r∈ys,r.length=ti.size)/\ys.length*ti.bytes<=140737488355328/\ys.length<=140737488355328)/\K (.ow d) [] (some (.row e ys))
       | .ow id=>match h id with
        | .row e' xs=>match Dk e' e with
         | true=>((∀r∈ys,r.length=ti.size)/\(xs.length+ys.length)*ti.bytes<=140737488355328/\xs.length+ys.length<=140737488355328)/\K (.ow d) [(id,.none)] (some (.row e (xs++ys)))
         | false=>False
        | .aw e' xs=>match Dk e' e with
         | true=>((∀r∈ys,r.length=ti.size)/\(xs.length+ys.length)*ti.bytes<=140737488355328/\xs.length+ys.length<=140737488355328)/\K (.ow d) [(id,.none)] (some (.aw e (xs++ys.map uN)))
         | false=>False
        | _=>False
       | _=>False
      | false=>False
     | none=>False
    | _,_=>False
   | _,_=>False
  | .val g=>match Bn (rho g) with
   | some (f,cap)=>match C.bl f with
    | false=>zv C h d f (c.args.toList.map rho++cap) K
    | true=>zx C h d f (c.args.toList.map rho++cap) K
   | none=>False
  | _=>False
 | _=>False
end Go.AM
namespace Go.AM
open Go.RowKit
def qc(P:Program)(t:TypeId)(ti:TI):Prop:=
 ∃info z,P.info? t=some info/\info.size=ti.size/\info.bytes=ti.bytes/\info.zero=some z/\z.cells=ti.zero.toArray/\ti.zero.length=ti.size/\(∀v∈ti.zero,v.oneCell'=true)/\
  match ti.ud with
  | .sc=>(∃d,P.underlying t=some d/\(match d with | .struct _ | .array _ _=>False | _=>True))/\(ti.eq=true->P.underlying t=some .bool)
  | .int k=>P.underlying t=some (.int k)
  | .st fs=>∃gs,P.underlying t=some (.struct gs)/\fs.length=gs.size/\(∀(i:Nat) f g,fs[i]?=some f->gs[i]?=some g->f.1=g.offset/\f.2.1≠0/\(∃i2,P.info? g.type=some i2/\i2.size=f.2.1)/\
    (∃d,P.underlying g.type=some d/\f.2.2=(match d with | .struct _ | .array _ _=>true | _=>false)))
  | .sl e=>P.underlying t=some (.slice e)
  | .str=>P.underlying t=some .string
  | .mp k e=>P.underlying t=some (.map k e)
def PG:Value->Bool
 | .agg _=>true
 | _=>false
def JR(P:Program)(t:TypeId)(ti:TI):Prop:=∃info z,P.info? t=some info/\info.zero=some z/\PG z=ti.ud.agg
def uU(k:Value):List MapEntry->Nat->Option (Nat×Value)
 | [],_=>none
 | m::r,i=>match Dj k m.key with
  | true=>some (i,m.val)
  | false=>uU k r (i+1)
structure PH(P:Program)(kt:TypeId)(mk:MK):Prop where
 check:∀(e:Bool) (k:Value) (w:World),mk.ok k->(Instr.checkKey e 10000 kt k).run P w=.ok () w
 find:∀(k:Value) (w:World) (ms:List MapEntry),mk.ok k->(∀m∈ms,mk.ok m.key)->(Instr.findKey kt k ms).run P w=.ok (uU k ms 0) w
structure bP(C:Ctx):Prop where
 zs:∀t ti,C.T t=some ti->JR C.P t ti
 jw:∀t ti,C.T t=some ti->qc C.P t ti
 env:∀S S' w w',C.E S w->(∀b,S b->S' b)->(∀b,S b->w'.heap[b]?=w.heap[b]?)->w.heap.size<=w'.heap.size->C.E S' w'
 any:C.P.follows .mixedOrders=true
 eqs:∀t ti op a b r,C.T t=some ti->ti.eq=true->(∃fs,ti.ud=.st fs)->bU ti.zero a b=some r->∀(xs ys:Array Value) w,(∀(i:Nat) x v,a[i]?=some x->xs[i]?=some v->x=.im v)->(∀(i:Nat) x v,b[i]?=some x->ys[i]?=some v->x=.im v)->
  a.length=xs.size->b.length=ys.size->ti.size=a.length->(op=.eql\/op=.neq)->∀(x y:Operand),(do eqGuard op t x y (.agg xs) (.agg ys);binOp op t (.agg xs) (.agg ys):Sem Value).run C.P w=.ok (.bool (if op=.eql then r else !r)) w
 keys:∀kt tk sh,C.T kt=some tk->Dr tk=some (.st sh)->PH C.P kt (.st sh)
structure rZ where
 C:Ctx
 w0:World
 mv:Nat->Prop
 s0:Nat->Prop
 n:Nat
 pin:Nat->Value
structure cn(A:rZ)(V L:Nat->Prop)(S:Nat->Prop)(rho:Nat->Value)(s:AS)(a:Act)(w:World):Prop where
 tm:∀j,V j->bu S w A.C.P L rho s.h (s.t j) (a.tmps.getD j undef)
 sz:a.tmps.size=A.n
 df:a.defers=[]
 nb:A.n<=100000
 pn:∀id,100000<=id->rho id=A.pin id
 ev:A.C.E S w
 s0:∀b,A.s0 b->S b
 st:∀b,S b->b<w.heap.size
 sb:∀b,S b->A.s0 b\/A.mv b\/A.w0.heap.size<=b
 hp:∀id,L id->fD S w A.C.P L rho s.h id (s.h id)
 dj:∀i j g,L i->L j->(s.h i).live->(s.h j).live->hasB w (s.h i) (rho i) g->hasB w (s.h j) (rho j) g->i=j
 lv:∀i g,L i->(s.h i).live->hasB w (s.h i) (rho i) g->g<w.heap.size/\¬S g/\(A.mv g\/A.w0.heap.size<=g)
 fr:Fr A.mv A.w0 w
variable {A:rZ} {V L:Nat->Prop} {rho:Nat->Value} {s:AS}
theorem cn.Yw{S:Nat->Prop}{a:Act}{w:World}(u:cn A V L S rho s a w)(i j g:Nat)(hi:L i)(z:L j)(D:(s.h i).live)(I:(s.h j).live)(J:cF (rho i)=some g)(N:cF (rho j)=some g):i=j:=u.dj i j g hi z D I (.inl J) (.inl N)
theorem cn.qd{S:Nat->Prop}{a:Act}{w:World}(u:cn A V L S rho s a w)(i g:Nat)(hi:L i)(z:(s.h i).live)(D:cF (rho i)=some g):g<w.heap.size/\¬S g/\(A.mv g\/A.w0.heap.size<=g):=u.lv i g hi z (.inl D)
structure ng(S S':Nat->Prop)(w w':World)(L L':Nat->Prop)(rho rho':Nat->Value)(h h':Nat->AB):Prop where
 hS:∀b,S b->S' b
 keep:∀b,S b->w'.heap[b]?=w.heap[b]?
 ids:∀id,(h' id).there->(h id).there/\(L id->L' id/\rho' id=rho id)
 rows:∀id e,(h' id).qK=some e->(h id).qK=some e
variable {e:TypeId}
theorem qO{b:AB}(h:b.qK=some e):b.there:=by cases b<;>first | trivial | cases h
variable {S' L':Nat->Prop} {w':World} {rho':Nat->Value} {h':Nat->AB}
theorem bu.de{S:Nat->Prop}{w:World}{P:Program}{h:Nat->AB}(T:ng S S' w w' L L' rho rho' h h'){x:AV}{v:Value}
  (R:bu S w P L rho h x v):bu S' w' P L' rho' h' x v:=by
 induction R with
 | p x v R=>exact .p x v (R.mono T.hS T.keep)
 | nl=>exact .nl
 | ow id v hv=>
  refine .ow id v fun U=>?_;obtain⟨I,W⟩:=T.ids id U;obtain⟨u,z⟩:=hv I;obtain⟨D,J⟩:=W u;exact⟨D,by rw[J];exact z⟩
 | rp id i off v hv=>
  refine .rp id i off v fun e N=>?_;obtain⟨u,g,n,c,ti,z,D,J⟩:=hv e (T.rows id e N);obtain⟨O,Y⟩:=(T.ids id (qO N)).2 u;exact⟨O,g,n,c,ti,by rw[Y];exact z,D,J⟩
 | bx id off v hv=>
  refine .bx id off v fun U=>?_;obtain⟨I,W⟩:=T.ids id U;obtain⟨u,g,z,O⟩:=hv I;obtain⟨D,J⟩:=W u;exact⟨D,g,by rw[J];exact z,O⟩
 | vw id lo hi v hv=>
  refine .vw id lo hi v fun e N=>?_;obtain⟨u,n,c,a,ti,z,D⟩:=hv e (T.rows id e N);obtain⟨O,Y⟩:=(T.ids id (qO N)).2 u;exact⟨O,n,c,a,ti,by rw[Y];exact z,D⟩
 | fn f cap vs hl hc ih=>exact .fn f cap vs hl ih
 | tu xs vs hl hc ih=>exact .tu xs vs hl ih
 | st xs vs hl I hc ih=>exact .st xs vs hl I ih
 | junk v=>exact .junk v
theorem wa{w:World}{base:Nat}{size:Nat}{v:Value}{n:Nat}{xs:List Value}(h:w.ownsRow base e size v n xs)(hb:∀g,cF v=some g->w'.heap[g]?=w.heap[g]?):w'.ownsRow base e size v n xs:=by
 refine⟨h.1,?_⟩;rcases h.2 with I | ⟨g,u,z,D,J,N,r⟩
 ·exact .inl I
 exact .inr ⟨g,u,z,D,J,by rw[hb g (by rw[D];rfl)];exact N,r⟩
theorem aH.de{α:Type}{P:Program}{w:World}{R z:α->Value->Prop}{es:List (List α)}{v:Value}(h:aH P w R e es v)(hb:∀g,cF v=some g->w'.heap[g]?=w.heap[g]?)(D:∀x u,R x u->z x u):aH P w' z e es v:=by
 obtain⟨i,xs,I,J,N,O,U,W⟩:=h;exact⟨i,xs,I,J,wa N hb,O,U,fun a r j x Y Z=>by obtain⟨u,hu,hr⟩:=W a r j x Y Z;exact⟨u,hu,D x u hr⟩⟩
theorem yt.de{w:World}{es:List (List HX)}{v:Value}(h:yt w es v)(hb:∀g,cF v=some g->w'.heap[g]?=w.heap[g]?):yt w' es v:=
 ⟨fun g a j u b z D I=>h.top g a j u b z (o7 (hb g z) D) I,fun g a j J N u O b z D I R U=>h.dis g a j J N u O b z (o7 (hb g z) D) (o7 (hb g z) I) R U⟩
theorem aH.Hl{P:Program}{w:World}{R:HX->Value->Prop}{es:List (List HX)}{v:Value}(h:aH P w R e es v){a j:Nat}{r:List HX}{e':TypeId}{I:List (List PV)}(z:es[a]?=some r)(J:r[j]?=some (.row e' I)):
  ∃g u,cF v=some g/\dT w es g a j u/\R (.row e' I) u:=by
 obtain⟨i,xs,h1,h2,N,O,h5,U⟩:=h;obtain⟨u,D,W⟩:=U a r j _ z J;have Y:=O r (aj z);rcases N.2 with⟨hn,hz⟩ | ⟨g,cap,cur,Z,hg,Hc,k1,k2,k3,k4⟩
 ·have:=(az.1 z).1;omega
 refine⟨g,u,by rw[Z];rfl,⟨r,e',I,_,_,_,z,J,Hc,?_⟩,W⟩;rw[Y];rw[<-k4,dM]at D;split at D
 ·simpa using D
 cases D
theorem fD.de{S:Nat->Prop}{w:World}{P:Program}{h:Nat->AB}(T:ng S S' w w' L L' rho rho' h h'){id:Nat}{x:AB}
  (hb:x.live->∀g,hasB w x (rho id) g->w'.heap[g]?=w.heap[g]?) (O:x.there->rho' id=rho id) (Y:fD S w P L rho h id x):fD S' w' P L' rho' h' id x:=by
 cases x with
 | none=>trivial
 | row e es=>
  show aH P w' (aO S' w') e es (rho' id);rw[O trivial];exact aH.de Y (fun g R=>hb trivial g (.inl R)) (fun x u z=>z.mono T.hS T.keep)
 | lz es=>
  show aO S' w' (.sl es) (rho' id);rw[O trivial];exact aO.mono Y T.hS T.keep
 | box cs=>
  obtain⟨g,ty,c,D,Z,J,U⟩:=Y;refine⟨g,ty,c,by rw[O trivial];exact D,by rw[hb trivial g (.inl (by rw[D];rfl))];exact Z,J,fun j x u hj z=>?_⟩;obtain⟨N,W⟩:=U j x u hj z;exact⟨N,W.de T⟩
 | kr ty cs=>
  obtain⟨g,c,D,Z,J,U⟩:=Y;refine⟨g,c,by rw[O trivial];exact D,by rw[hb trivial g (.inl (by rw[D];rfl))];exact Z,J,fun j x u hj z=>?_⟩;obtain⟨N,W⟩:=U j x u hj z;exact⟨N,W.de T⟩
 | nd cs=>
  show aO S' w' (.ip cs) (rho' id);rw[O trivial];exact aO.mono Y T.hS T.keep
 | map mk es=>
  obtain⟨g,ms,I,D,Z,J,U,hbo⟩:=Y;refine⟨g,ms,I,by rw[O trivial];exact D,by rw[hb trivial g (.inl (by rw[D];rfl))];exact Z,J,fun i p m hi hm=>?_,hbo⟩;obtain⟨N,W,h7⟩:=U i p m hi hm;exact⟨N,W,h7.mono T.hS T.keep⟩
 | iter mk es k cur=>
  obtain⟨g,mg,ms,I,seen,D,Z,J,U,N⟩:=Y;exact⟨g,mg,ms,I,seen,by rw[O trivial];exact D,by rw[hb trivial g (.inl (by rw[D];rfl))];exact Z,T.hS _ J,(T.keep _ J).trans U,N⟩
 | aU cs=>
  obtain⟨g,ty,c,D,hB⟩:=Y;have R:cF (rho id)=some g:=by rw[D];rfl
  refine⟨g,ty,c,by rw[O trivial];exact D,⟨by rw[hb trivial g (.inl R)];exact hB.hp,hB.sz,fun j x u hj z=>?_,hB.top,hB.dis⟩⟩;obtain⟨N,W⟩:=hB.cell j x u hj z;refine⟨N,?_⟩;cases x with
  | p x=>exact aO.mono W T.hS T.keep
  | row e es=>exact aH.de W (fun k hk=>hb trivial k (.inr (.inl ⟨cs,g,rfl,R,c,ty,_,j,_,u,hB.hp,hj,trivial,z,hk⟩))) (fun x u z=>z.mono T.hS T.keep)
 | aw e es=>
  obtain⟨hR,hS⟩:=Y;have R:∀g,cF (rho id)=some g->w'.heap[g]?=w.heap[g]?:=fun g R=>hb trivial g (.inl R);refine⟨?_,by rw[O trivial];exact hS.de R⟩;rw[O trivial];obtain⟨i,xs,D,Z,J,U,N,W⟩:=hR;refine⟨i,xs,D,Z,wa J R,U,N,fun a r j x ha hj=>?_⟩;obtain⟨u,z,Du⟩:=W a r j x ha hj;refine⟨u,z,?_⟩;cases x with
  | av x=>exact bu.de T Du
  | row e' uV=>
   refine aH.de Du (fun k hk=>hb trivial k (.inr (.inr ?_))) (fun x u z=>z.mono T.hS T.keep);have Ah:=U r (aj ha);rcases J.2 with⟨hn,hz⟩ | ⟨g,cap,cur,hv,R,Hc,k1,k2,k3,k4⟩
   ·have:=(az.1 ha).1;omega
   refine⟨e,es,g,a,j,u,rfl,by rw[hv];rfl,⟨r,e',uV,_,_,_,ha,hj,Hc,?_⟩,hk⟩;rw[Ah];rw[<-k4,dM]at z;split at z
   ·simpa using z
   cases z
theorem Fr.next{mv:Nat->Prop}{w0 w:World}(h:Fr mv w0 w)(z:w'.os=w.os)(D:w'.tape=w.tape)(I:w'.output=w.output)(J:w.heap.size<=w'.heap.size)(hb:∀k,k<w0.heap.size->¬mv k->w'.heap[k]?=w.heap[k]?):Fr mv w0 w':=
 ⟨z.trans h.os,D.trans h.tape,I.trans h.output,aS h.size J,fun k hk u=>(hb k hk u).trans (h.block k hk u)⟩
def fE(t:Nat->AV)(d:Option Tmp)(v:AV):Nat->AV:=match d with
 | some d=>a8 t d v
 | none=>t
def yy(V:Nat->Prop)(d:Option Tmp)(j:Nat):Prop:=V j\/d=some j
theorem PI(a:Act)(d:Tmp)(v:Value)(j:Nat)(u:d<a.tmps.size):(a.put (some d) v).tmps.getD j undef=if j=d then v else a.tmps.getD j undef:=by
 simp only[Act.put,vW,Aw];by_cases h:d=j
 ·subst h;simp[u]
 have:¬j=d:=fun e=>h e.symm;simp[h,this]
theorem V3{S:Nat->Prop}{a:Act}{w:World}(z:cn A V L S rho s a w)(T:ng S S' w w' L L' rho rho' s.h h')(dst:Option Tmp)(D:∀d,dst=some d->d<A.n)(x:AV)(v:Value)
  (I:bu S' w' A.C.P L' rho' h' x v):∀j,yy V dst j->bu S' w' A.C.P L' rho' h' (fE s.t dst x j) ((a.put dst v).tmps.getD j undef):=by
 intro j u;cases dst with
 | none=>
  rcases u with u | u
  ·exact (z.tm j u).de T
  cases u
 | some d=>
  rw[PI a d v j (by rw[z.sz];exact D d rfl)];by_cases e:j=d
  ·subst e;simp only[fE,aF,if_true];exact I
  simp only[fE,bg _ _ e,aa e];rcases u with u | u
  ·exact (z.tm j u).de T
  injection u with u;exact absurd u.symm e
theorem PJ(a:Act)(dst:Option Tmp)(v:Value):(a.put dst v).tmps.size=a.tmps.size:=by cases dst<;>simp[Act.put]
theorem Hm(a:Act)(dst:Option Tmp)(v:Value):(a.put dst v).defers=a.defers:=by cases dst<;>rfl
theorem cn.value{S:Nat->Prop}{a:Act}{w:World}(u:cn A V L S rho s a w)(dst:Option Tmp)(z:∀d,dst=some d->d<A.n)(x:AV)(v:Value)(D:bu S w A.C.P L rho s.h x v):
  cn A (yy V dst) L S rho ⟨fE s.t dst x,s.h⟩ (a.put dst v) w:=
 {tm:=V3 u ⟨fun _ h=>h,fun _ _=>rfl,fun _ h=>⟨h,fun hl=>⟨hl,rfl⟩⟩,fun _ _ h=>h⟩ dst z x v D
  sz:=(PJ a dst v).trans u.sz
  df:=(Hm a dst v).trans u.df
  nb:=u.nb,pn:=u.pn
  ev:=u.ev,s0:=u.s0,st:=u.st,sb:=u.sb,hp:=u.hp,dj:=u.dj,lv:=u.lv,fr:=u.fr }
end Go.AM
namespace Go.AM
open Go.RowKit
variable {Q:Exit->Act->World->Prop}
theorem eB{P:Program}{o:Oper}{a:Act}{w w':World}{v:Value}{next:Act->World->Prop}(h:(execOp a.eval o).run P w=.ok (.value v) w')(u:next (a.put o.dst v) w'):o.wp P a w next Q:=by
 unfold Oper.wp;rw[h];exact u
theorem sC{P:Program}{o:Oper}{a:Act}{w w':World}{next:Act->World->Prop}(h:(execOp a.eval o).run P w=.ok .skip w')(u:next (a.put o.dst undef) w'):o.wp P a w next Q:=by
 unfold Oper.wp;rw[h];exact u
theorem wb(S:Nat->Prop)(w:World)(v:Value):aO S w (Ag v) v:=by
 unfold Ag;split
 ·exact .nil _ _
 exact .im _
theorem LX(b:Bool)(S:Nat->Prop)(w:World)(v:Value):aO S w (X_ b v) v:=by
 cases b
 ·exact wb S w v
 exact .im v
variable {L:Nat->Prop} {rho:Nat->Value}
theorem AG{S:Nat->Prop}{w:World}{P:Program}{h:Nat->AB}{x:PV}{v:Value}(u:aO S w x v):bu S w P L rho h (Ya x) v:=by
 unfold Ya;split
 ·cases u;exact .nl
 exact .p _ _ u
theorem Bp(S:Nat->Prop)(w:World)(P:Program)(L:Nat->Prop)(rho:Nat->Value)(h:Nat->AB)(v:Value):bu S w P L rho h (No v) v:=by
 unfold No;split
 ·exact .nl
 exact .p _ _ (.im _)
theorem Nr(S:Nat->Prop)(w:World)(P:Program)(L:Nat->Prop)(rho:Nat->Value)(h:Nat->AB)(v:Value):bu S w P L rho h (Fa v) v:=by
 unfold Fa;split
 ·exact .nl
 ·rename_i cs;split
  ·rename_i D;refine .p _ _ (.ag _ _ (by simp) (fun u I=>?_) fun i c v z J=>?_)
   ·rw[dY]at D;exact D u I
   rw[aD]at z;have N:cs.toList[i]?=some v:=by simpa using J
   rw[N]at z;simp at z;rw[<-z];exact wb S w v
  exact .junk _
 exact .p _ _ (.im _)
variable {A:rZ} {V:Nat->Prop} {s:AS}
theorem bF{S:Nat->Prop}{a:Act}{w:World}(u:cn A V L S rho s a w)(x:Operand)(z:∀j,x=.tmp j->V j):bu S w A.C.P L rho s.h (ev s.t x) (a.eval x):=by
 cases x with
 | tmp j=>exact u.tm j (z j rfl)
 | const v=>exact Nr _ _ _ _ _ _ v
 | global g=>exact .p _ _ (.im _)
 | func f=>exact .p _ _ (.im _)
theorem bu.eY{S:Nat->Prop}{w:World}{P:Program}{h:Nat->AB}{x:PV}{v:Value}(u:bu S w P L rho h (.p x) v):aO S w x v:=by cases u;assumption
theorem aO.bZ{S:Nat->Prop}{w:World}{x v:Value}(u:aO S w (.im x) v):v=x:=by cases u;rfl
theorem bu.bZ{S:Nat->Prop}{w:World}{P:Program}{h:Nat->AB}{x v:Value}(u:bu S w P L rho h (.p (.im x)) v):v=x:=u.eY.bZ
theorem aO.n_{S:Nat->Prop}{w:World}{cs:List PV}{v:Value}(z:aO S w (.ag cs) v):∃vs:Array Value,v=.agg vs/\cs.length=vs.size/\(∀u∈vs.toList,u.oneCell'=true)/\(∀(i:Nat) c u,cs[i]?=some c->vs[i]?=some u->aO S w c u):=by
 cases z;exact⟨_,rfl,by assumption,by assumption,by assumption⟩
theorem aO.Bq{S:Nat->Prop}{w:World}{cs:List PV}{v:Value}(u:aO S w (.ip cs) v):∃b off,∃U:Nat->Value,v=.pointer (some ⟨b,off,none⟩)/\S b/\(∀(j:Nat) x,cs[j]?=some x->w.cell? ⟨b,off+j,none⟩=some (U j)/\(U j).oneCell'=true)/\(∀(j:Nat) x,cs[j]?=some x->aO S w x (U j)):=by
 cases u;exact⟨_,_,_,rfl,by assumption,by assumption,by assumption⟩
variable {es:List (List PV)}
theorem aO.qP{S:Nat->Prop}{w:World}{v:Value}(I:aO S w (.sl es) v):∃a c,v=.slice a es.length c/\es.length<=c/\(es≠[]->∃b off k,a=some ⟨b,off,none⟩/\S b/\(∀e∈es,e.length=k)/\
  ∀(i:Nat) e (j:Nat) x,es[i]?=some e->e[j]?=some x->∃u,w.cell? ⟨b,off+i*k+j,none⟩=some u/\u.oneCell'=true/\aO S w x u):=by
 cases I with
 | nil a c=>exact⟨a,c,rfl,by simp,fun h=>absurd rfl h⟩
 | sl _ k b off c U hc hS hk hcell h=>exact⟨_,c,rfl,hc,fun _=>⟨b,off,k,rfl,hS,hk,fun i e j x z D=>⟨U i j,(hcell i e j x z D).1,(hcell i e j x z D).2,h i e j x z D⟩⟩⟩
def Br(L:Nat->Prop)(new:Option AB)(d:Nat):Nat->Prop:=match new with
 | none=>L
 | some _=>fun i=>L i\/i=d
def jV(A:rZ)(o:Oper):Prop:=
 ∀(V L S:Nat->Prop) (rho:Nat->Value) (s:AS) (a:Act) (w:World) (K:KK) (next:Act->World->Prop) (Q:Exit->Act->World->Prop),bP A.C->cn A V L S rho s a w->(∀j,Operand.tmp j∈o.op.operands->V j)->(∀d,o.dst=some d->d<A.n)->
  cc A.C o (ev s.t) s.h K->(∀v eff b,K v eff (some b)->¬L (o.dst.getD 0)/\s.h (o.dst.getD 0)=b)->
  (∀v eff new S' rho' a' w',K v eff new->cn A (yy V o.dst) (Br L new (o.dst.getD 0)) S' rho' ⟨fE s.t o.dst v,app s.h eff⟩ a' w'->next a' w')->o.wp A.C.P a w next Q
theorem aN{o:Oper}{S:Nat->Prop}{a:Act}{w:World}{K:KK}{next:Act->World->Prop}(z:cn A V L S rho s a w)(I:∀d,o.dst=some d->d<A.n)
  (u:∀v eff new S' rho' D w',K v eff new->cn A (yy V o.dst) (Br L new (o.dst.getD 0)) S' rho' ⟨fE s.t o.dst v,app s.h eff⟩ D w'->next D w') {x:AV} {v:Value} (J:K x [] none) (N:bu S w A.C.P L rho s.h x v)
  (O:(execOp a.eval o).run A.C.P w=.ok (.value v) w):o.wp A.C.P a w next Q:=
 eB O (u _ _ _ _ _ _ _ J (z.value o.dst I x v N))
theorem Tc{o:Oper}(x:Operand)(D:o.op=.move x):jV A o:=by
 intro V L S rho s a w K next Q hC z J N I _ u
 simp only[cc,D]at I;exact aN z N u I (bF z x fun j O=>J j (by simp[D,Op.operands,O])) (by simp[execOp,D])
theorem Ns{o:Oper}(x:Operand)(D:o.op=.assign x):jV A o:=by
 intro V L S rho s a w K next Q hC z J N I _ u
 simp only[cc,D]at I;exact aN z N u I (bF z x fun j O=>J j (by simp[D,Op.operands,O])) (by simp[execOp,D])
theorem Td{o:Oper}(c x y:Operand)(D:o.op=.pick c x y):jV A o:=by
 intro V L S rho s a w K next Q hC u N R I _ z
 simp only[cc,D]at I;have O:=bF u c fun j J=>N j (by simp[D,Op.operands,J]);have U:=bF u x fun j J=>N j (by simp[D,Op.operands,J]);have W:=bF u y fun j J=>N j (by simp[D,Op.operands,J]);split at I
 ·rename_i t Y;rw[Y]at O;split at I
  ·exact aN u R z I U (by simp[execOp,D,O.bZ,asBool])
  exact aN u R z I W (by simp[execOp,D,O.bZ,asBool])
 exact I.elim
theorem bu.V4{S:Nat->Prop}{w:World}{P:Program}{h:Nat->AB}{xs:List AV}{v:Value}(z:bu S w P L rho h (.st xs) v):∃vs:Array Value,v=.agg vs/\xs.length=vs.size/\(∀u∈vs.toList,u.oneCell'=true)/\∀(i:Nat) c u,xs[i]?=some c->vs[i]?=some u->bu S w P L rho h c u:=by
 cases z;exact⟨_,rfl,by assumption,by assumption,by assumption⟩
theorem bu.V5{S:Nat->Prop}{w:World}{P:Program}{h:Nat->AB}{xs:List AV}{v:Value}(z:bu S w P L rho h (.tu xs) v):∃vs:Array Value,v=.tuple vs/\xs.length=vs.size/\∀(i:Nat) c u,xs[i]?=some c->vs[i]?=some u->bu S w P L rho h c u:=by
 cases z;exact⟨_,rfl,by assumption,by assumption⟩
variable {α:Type}
theorem aau{vs:Array α}{n i:Nat}(hl:n=vs.size)(hi:i<n):∃v,vs[i]?=some v:=⟨vs[i]'(by omega),cC _⟩
theorem aC{l:List α}{i:Nat}{x:α}(h:l[i]?=some x):i<l.length:=(az.1 h).1
theorem JT{o:Oper}(x:Operand)(i:Nat)(I:o.op=.extract x i):jV A o:=by
 intro V L S rho s a w K next Q hC D U W z _ u
 simp only[cc,I]at z;have N:=bF D x fun j Y=>U j (by simp[I,Op.operands,Y]);split at z
 ·rename_i xs uN;rw[uN]at N;split at z
  ·rename_i y O;obtain⟨vs,J,hl,Z⟩:=N.V5;obtain⟨v,R⟩:=aau hl (aC O);refine aN D W u z (Z i y v O R) ?_;simp[execOp,I,J,Instr.extract,R]
  exact z.elim
 exact z.elim
theorem LY{a b:IntKind}(h:kB a b=true):a=b:=by cases a<;>cases b<;>first | rfl | cases h
theorem Te{k:IntKind}(h:Yt k=true):k=.i64:=by cases k<;>first | rfl | cases h
theorem qe{k:IntKind}{n:Int}{K:Value->Prop}(h:yw k n K):K (.int k (k.wrap n)):=by
 unfold yw at h;split at h
 ·rename_i u;obtain rfl:=Te u;obtain⟨⟨z,D⟩,I⟩:=h;rw[IntWalk.i64_in n ⟨z,D⟩];exact I
 exact h
theorem Fc(a b:ByteArray):(a.toList==b.toList)=decide (a=b):=by
 rw[Ax];simp only[beq_iff_eq,fV,db];constructor
 ·intro h;exact ByteArray.ext (E4 h)
 rintro rfl;rfl
theorem LZ(a b:ByteArray):Op.bytesLess a.toList b.toList=Op.bytesLess a.data.toList b.data.toList:=by rw[db,db]
theorem Bt(a b:Int):(a==b)=decide (a=b):=by rw[Ax];simp
theorem JU(a b:Int):(a != b)=!decide (a=b):=by rw[bne,Bt]
theorem Tf{a b:Nat}(h:Dk a b=true):a=b:=cY h
theorem run_equalIn_slice_nil{P:Program}(w:World)(d:Nat)(t e:TypeId)(a:Option Addr)(l c:Nat)(h:P.underlying t=some (.slice e)):(Op.equalIn (d+1) t (.slice a l c) (.slice none 0 0)).run P w=.ok a.isNone w:=by
 cases a<;>simp[Op.equalIn,run_underlying h]
theorem run_equal_slice_nil{P:Program}(w:World)(t e:TypeId)(a:Option Addr)(l c:Nat)(h:P.underlying t=some (.slice e)):(Op.equal t (.slice a l c) (.slice none 0 0)).run P w=.ok a.isNone w:=run_equalIn_slice_nil w 9999 t e a l c h
theorem PK{o:Oper}(op:BinOp)(t:TypeId)(x y:Operand)(t':TypeId)(N:o.op=.binOp op t x y t'):jV A o:=by
 intro V L S rho s a w K next Q hC J hV O I _ D
 simp only[cc,N]at I;have W:=bF J x fun j hj=>hV j (by simp[N,Op.operands,hj]);have Y:=bF J y fun j hj=>hV j (by simp[N,Op.operands,hj]);split at I
 ·rename_i u v hu hv;rw[hu]at W;rw[hv]at Y;replace W:=W.eY;replace Y:=Y.eY;unfold vp at I;split at I
  ·rename_i k m k' n;have e1:=W.bZ;have e2:=Y.bZ;split at I
   ·rename_i hs;have abj:op=.shr:=by cases op<;>first | rfl | cases hs
    subst abj;obtain⟨⟨h0,U⟩,I⟩:=I;refine aN J O D I (.p _ _ (.im _)) ?_;have abk:¬n<0:=by omega
    simp[execOp,N,e1,e2,eqGuard,binOp,Op.shift,abk]
   split at I
   ·exact I.elim
   rename_i hk;obtain rfl:=LY hk;split at I
   ·exact aN J O D (qe I) (.p _ _ (.im _)) (by simp[execOp,N,e1,e2,eqGuard,binOp,Op.intArith])
   ·exact aN J O D (qe I) (.p _ _ (.im _)) (by simp[execOp,N,e1,e2,eqGuard,binOp,Op.intArith])
   ·exact aN J O D (qe I) (.p _ _ (.im _)) (by simp[execOp,N,e1,e2,eqGuard,binOp,Op.intArith])
   ·exact aN J O D (qe I.2) (.p _ _ (.im _)) (by simp[execOp,N,e1,e2,eqGuard,binOp,Op.intDiv,I.1])
   ·exact aN J O D I.2 (.p _ _ (.im _)) (by simp[execOp,N,e1,e2,eqGuard,binOp,Op.intDiv,I.1])
   ·exact aN J O D I (.p _ _ (.im _)) (by simp[execOp,N,e1,e2,eqGuard,binOp,Op.intCmp,Bt])
   ·exact aN J O D I (.p _ _ (.im _)) (by simp[execOp,N,e1,e2,eqGuard,binOp,Op.intCmp,JU])
   ·exact aN J O D I (.p _ _ (.im _)) (by simp[execOp,N,e1,e2,eqGuard,binOp,Op.intCmp])
   ·exact aN J O D I (.p _ _ (.im _)) (by simp[execOp,N,e1,e2,eqGuard,binOp,Op.intCmp])
   ·exact aN J O D I (.p _ _ (.im _)) (by simp[execOp,N,e1,e2,eqGuard,binOp,Op.intCmp])
   ·exact aN J O D I (.p _ _ (.im _)) (by simp[execOp,N,e1,e2,eqGuard,binOp,Op.intCmp])
   exact I.elim
  ·rename_i m n;have e1:=W.bZ;have e2:=Y.bZ;split at I
   ·exact aN J O D I.2 (.p _ _ (.im _)) (by
     have:=I.1;simp[execOp,N,e1,e2,eqGuard,binOp,run_string_add_sum w m n this])
   ·exact aN J O D I (.p _ _ (.im _)) (by simp[execOp,N,e1,e2,eqGuard,binOp,Op.stringOp,Fc])
   ·exact aN J O D I (.p _ _ (.im _)) (by simp[execOp,N,e1,e2,eqGuard,binOp,Op.stringOp,Fc])
   ·exact aN J O D I (.p _ _ (.im _)) (by simp[execOp,N,e1,e2,eqGuard,binOp,Op.stringOp,LZ])
   ·exact aN J O D I (.p _ _ (.im _)) (by simp[execOp,N,e1,e2,eqGuard,binOp,Op.stringOp,Fc,LZ])
   ·exact aN J O D I (.p _ _ (.im _)) (by simp[execOp,N,e1,e2,eqGuard,binOp,Op.stringOp,Fc,LZ])
   ·exact aN J O D I (.p _ _ (.im _)) (by simp[execOp,N,e1,e2,eqGuard,binOp,Op.stringOp,LZ])
   exact I.elim
  ·rename_i m n;have e1:=W.bZ;have e2:=Y.bZ;split at I
   ·rename_i size bytes zero hT;have hb:A.C.P.underlying t=some .bool:=by
     obtain⟨_,_,_,_,_,_,_,_,_,h⟩:=hC.jw t _ hT;exact h.2 rfl
    have R:=fun w=>run_equal_bool (P:=A.C.P) (w:=w) t m n hb;split at I
    ·exact aN J O D I (.p _ _ (.im _)) (by simp[execOp,N,e1,e2,eqGuard,binOp,R];cases m<;>cases n<;>rfl)
    ·exact aN J O D I (.p _ _ (.im _)) (by simp[execOp,N,e1,e2,eqGuard,binOp,R];cases m<;>cases n<;>rfl)
    exact I.elim
   exact I.elim
  ·rename_i m n;obtain⟨xs,e1,Vc,_,hc1⟩:=W.n_;obtain⟨ys,e2,Hd,_,hc2⟩:=Y.n_;have im:∀(z:List Value) (m:List PV) (n:List PV) r,bU z m n=some r->(∀x∈m,∃v,x=.im v)/\(∀x∈n,∃v,x=.im v):=by
    intro z
    induction z with
    | nil=>
     intro m n r h;cases m<;>cases n<;>first
      | (simp[bU]at h;done)
      | exact⟨by simp,by simp⟩
    | cons c z ih=>
     intro m n r h;unfold bU at h;split at h
     ·rename_i U;cases U
     all_goals first
      | (
        rename_i U;injection U with U wc;subst wc;split at h
        ·obtain⟨r',yz,_⟩:=qI.1 h;obtain⟨i1,i2⟩:=ih _ _ _ yz;exact⟨by simpa using i1,by simpa using i2⟩
        cases h)
      | (
        rename_i U;injection U with U wc;subst wc;obtain⟨r',yz,_⟩:=qI.1 h;obtain⟨i1,i2⟩:=ih _ _ _ yz;exact⟨by simpa using i1,by simpa using i2⟩)
      | cases h
   have key:∀z r,bU z m n=some r->(∀(i:Nat) x v,m[i]?=some x->xs[i]?=some v->x=.im v)/\(∀(i:Nat) x v,n[i]?=some x->ys[i]?=some v->x=.im v):=by
    intro z r hr;obtain⟨i1,i2⟩:=im z m n r hr;refine⟨fun i x v U h2=>?_,fun i x v U h2=>?_⟩
    ·obtain⟨u,rfl⟩:=i1 x (aj U);rw[(hc1 i _ v U h2).bZ]
    obtain⟨u,rfl⟩:=i2 x (aj U);rw[(hc2 i _ v U h2).bZ]
   split at I
   ·rename_i fs size bytes zero hT;split at I
    ·exact I.elim
    rename_i Z;have Z:=Tf Z;split at I
    ·split at I
     ·rename_i r hr;obtain⟨k1,k2⟩:=key _ r hr;have R:=hC.eqs t _ .eql m n r hT rfl ⟨_,rfl⟩ hr xs ys w k1 k2 Vc Hd Z (.inl rfl) x y;exact aN J O D I (.p _ _ (.im _)) (by
       simp only[execOp,N,e1,e2];rw[aV,R];simp)
     exact I.elim
    ·split at I
     ·rename_i r hr;obtain⟨k1,k2⟩:=key _ r hr;have R:=hC.eqs t _ .neq m n r hT rfl ⟨_,rfl⟩ hr xs ys w k1 k2 Vc Hd Z (.inr rfl) x y;exact aN J O D I (.p _ _ (.im _)) (by
       simp only[execOp,N,e1,e2];rw[aV,R];simp)
     exact I.elim
    exact I.elim
   exact I.elim
  exact I.elim
 ·rename_i u hu hv;rw[hu]at W;rw[hv]at Y;replace W:=W.eY;have oO:a.eval y=.slice none 0 0:=by generalize a.eval y=v at Y;cases Y;rfl
  unfold Np at I;split at I
  case h_2=>exact I.elim
  rename_i es;split at I
  case h_1=>exact I.elim
  rename_i He;split at I
  case h_2=>exact I.elim
  rename_i e size bytes zero eq hT;have gj:A.C.P.underlying t=some (.slice e):=by
   obtain⟨_,_,_,_,_,_,_,_,_,h⟩:=hC.jw t _ hT;exact h
  obtain⟨ad,c,hv,_,cO⟩:=W.qP;obtain⟨b,off,k,rfl,_⟩:=cO (fun e=>by rw[e]at He;cases He);split at I
  ·exact aN J O D I (.p _ _ (.im _)) (by simp[execOp,N,hv,oO,eqGuard,binOp,run_equal_slice_nil _ _ _ _ _ _ gj])
  ·exact aN J O D I (.p _ _ (.im _)) (by simp[execOp,N,hv,oO,eqGuard,binOp,run_equal_slice_nil _ _ _ _ _ _ gj])
  exact I.elim
 exact I.elim
theorem Tg{o:Oper}(op:UnOp)(t:TypeId)(x:Operand)(I:o.op=.unOp op t x):jV A o:=by
 intro V L S rho s a w K next Q hC z O N D _ u
 simp only[cc,I]at D;have J:=bF z x fun j R=>O j (by simp[I,Op.operands,R]);split at D
 ·rename_i b hb;rw[hb]at J;exact aN z N u D (.p _ _ (.im _)) (by simp[execOp,I,J.bZ,Op.unary])
 ·rename_i k n hb;rw[hb]at J;exact aN z N u (qe D) (.p _ _ (.im _)) (by simp[execOp,I,J.bZ,Op.unary,Op.intArith])
 exact D.elim
variable {ti:TI}
theorem qc.sizeOf{P:Program}{t:TypeId}(h:qc P t ti)(w:World):(sizeOf t).run P w=.ok ti.size w:=by
 obtain⟨info,z,u,D,_⟩:=h;simp[Go.sizeOf,typeInfo,u,D]
theorem qc.isAgg{P:Program}{t:TypeId}(h:qc P t ti)(w:World):(isAgg t).run P w=.ok ti.ud.agg w:=by
 obtain⟨info,z,_,_,_,_,_,_,_,h⟩:=h;unfold Go.isAgg;cases hu:ti.ud with
 | sc=>
  rw[hu]at h;obtain⟨⟨d,u,D⟩,_⟩:=h;rw[aV,run_underlying u];cases d<;>first | rfl | exact D.elim
 | int k=>rw[hu]at h;rw[aV,run_underlying h];rfl
 | st fs=>rw[hu]at h;obtain⟨gs,I,_⟩:=h;rw[aV,run_underlying I];rfl
 | sl e=>rw[hu]at h;rw[aV,run_underlying h];rfl
 | str=>rw[hu]at h;rw[aV,run_underlying h];rfl
 | mp k e=>rw[hu]at h;rw[aV,run_underlying h];rfl
theorem nh{P:Program}{w:World}{t:TypeId}(h:qc P t ti)(u:ti.ud.agg=true)(b off:Nat)(vs:List Value)(hl:vs.length=ti.size)(z:∀(j:Nat) v,vs[j]?=some v->w.cell? ⟨b,off+j,none⟩=some v):
  (Instr.loadAt t (.pointer (some ⟨b,off,none⟩))).run P w=.ok (.agg vs.toArray) w:=by
 have:=run_loadCells_list (P:=P) w ⟨b,off,none⟩ vs (fun j v D=>by rw[bT];exact z j v D);rw[hl]at this;simp[Instr.loadAt,Instr.sureAddr,loadVar,h.isAgg,u,h.sizeOf,this]
theorem mh{P:Program}{w:World}{t:TypeId}(h:qc P t ti)(u:ti.ud.agg=false)(b off:Nat)(v:Value)(z:w.cell? ⟨b,off,none⟩=some v):
  (Instr.loadAt t (.pointer (some ⟨b,off,none⟩))).run P w=.ok v w:=by
 simp[Instr.loadAt,Instr.sureAddr,loadVar,h.isAgg,u,load,Sem.run,z]
theorem L0{S:Nat->Prop}{w:World}(cs:List PV)(V:Nat->Value)(h:∀(j:Nat) x,cs[j]?=some x->(V j).oneCell'=true/\aO S w x (V j)):aO S w (.ag cs) (.agg ((List.range cs.length).map V).toArray):=by
 refine .ag _ _ (by simp) (fun u z=>?_) fun i c v D I=>?_
 ·simp at z;obtain⟨j,J,rfl⟩:=z;exact (h j _ (oX J)).1
 have hi:=aC D;simp[hi]at I;rw[<-I];exact (h i c D).2
variable {off:Nat}
theorem lW{l:List α}{n j:Nat}{x:α}(h:((l.drop off).take n)[j]?=some x):l[off+j]?=some x:=by
 rw[dM]at h;split at h
 ·rwa [aW]at h
 cases h
theorem aay{l:List α}{n:Nat}(h:off+n<=l.length):((l.drop off).take n).length=n:=by simp;omega
theorem iV{l:List α}{x:α}{r:List α}(h:l.drop off=x::r):l[off]?=some x:=by
 have:(l.drop off)[0]?=some x:=by rw[h];rfl
 rw[aW]at this;exact this
theorem mK{a b:Nat}(h:LP a b=true):a<=b:=gB h
theorem jn{a b:Nat}(h:Dk a b=true):a=b:=cY h
theorem gD:∀{cs:List AV} {xs:List PV},gm cs=some xs->cs.length=xs.length/\∀(j:Nat) c x,cs[j]?=some c->xs[j]?=some x->(c=.p x\/(c=.nl/\x=.sl [])):=by
 intro cs
 induction cs with
 | nil=>intro xs h;simp[gm]at h;subst h;exact⟨rfl,by simp⟩
 | cons c cs ih=>
  intro xs h;unfold gm at h;split at h
  ·rename_i u;cases u
  ·rename_i x r u;injection u with u h2;subst u h2;obtain⟨ys,I,rfl⟩:=qI.1 h;obtain⟨J,N⟩:=ih I;refine⟨by simp[J],fun j c O z D=>?_⟩;cases j with
   | zero=>simp at z D;subst z D;exact .inl rfl
   | succ j=>exact N j c O (by simpa using z) (by simpa using D)
  ·rename_i r u;injection u with u h2;subst u h2;obtain⟨ys,I,rfl⟩:=qI.1 h;obtain⟨J,N⟩:=ih I;refine⟨by simp[J],fun j c O z D=>?_⟩;cases j with
   | zero=>simp at z D;subst z D;exact .inr ⟨rfl,rfl⟩
   | succ j=>exact N j c O (by simpa using z) (by simpa using D)
  cases h
theorem bu.AH{S:Nat->Prop}{w:World}{P:Program}{h:Nat->AB}{c:AV}{x:PV}{u:Value}(D:c=.p x\/(c=.nl/\x=.sl []))(z:bu S w P L rho h c u):aO S w x u:=by
 rcases D with rfl | ⟨rfl,rfl⟩
 ·exact z.eY
 cases z;exact .nil _ _
variable {id:Nat}
theorem bu.hY{S:Nat->Prop}{w:World}{P:Program}{h:Nat->AB}{v:Value}(u:bu S w P L rho h (.bx id off) v)(z:(h id).there):L id/\∃g,rho id=.pointer (some ⟨g,0,none⟩)/\v=.pointer (some ⟨g,off,none⟩):=by
 cases u;rename_i D;exact D z
variable {e:TypeId}
theorem bu.Bu{S:Nat->Prop}{w:World}{P:Program}{h:Nat->AB}{i:Nat}{v:Value}(u:bu S w P L rho h (.rp id i off) v)(z:h id=.row e es):
  L id/\∃g n c ti,rho id=.slice (some ⟨g,0,none⟩) n c/\P.info? e=some ti/\v=.pointer (some ⟨g,i*ti.size+off,none⟩):=by
 cases u;rename_i D;exact D e (by rw[z];rfl)
theorem bu.we{S:Nat->Prop}{w:World}{P:Program}{h:Nat->AB}{i:Nat}{v:Value}(u:bu S w P L rho h (.rp id i off) v){es:List (List HX)}(z:h id=.aw e es):
  L id/\∃g n c ti,rho id=.slice (some ⟨g,0,none⟩) n c/\P.info? e=some ti/\v=.pointer (some ⟨g,i*ti.size+off,none⟩):=by
 cases u;rename_i D;exact D e (by rw[z];rfl)
theorem bu.cZ{S:Nat->Prop}{w:World}{P:Program}{h:Nat->AB}{v:Value}(u:bu S w P L rho h (.ow id) v)(z:(h id).there):L id/\v=rho id:=by
 cases u;rename_i D;exact D z
theorem aH.cell{P:Program}{w:World}{R:α->Value->Prop}{es:List (List α)}{g n c:Nat}{ti:TypeInfo}(h:aH P w R e es (.slice (some ⟨g,0,none⟩) n c))(hi:P.info? e=some ti):
  ∀(a:Nat) r (j:Nat) x,es[a]?=some r->r[j]?=some x->∃u,w.cell? ⟨g,a*ti.size+j,none⟩=some u/\u.oneCell'=true/\R x u:=by
 obtain⟨i,xs,z,h2,I,h4,J,N⟩:=h;rw[hi]at z;injection z with z;subst z;intro a r j x O U;obtain⟨u,D,W⟩:=N a r j x O U;have:=I.cells (g:=g) rfl _ u D;rw[bT]at this;refine⟨u,by simpa using this,J u (aj D),W⟩
theorem Ho{o:Oper}(t:TypeId)(x:Operand)(aL:o.op=.load t x){S:Nat->Prop}{a:Act}{w:World}{K:KK}(hC:bP A.C)(sim:cn A V L S rho s a w)(hV:∀j,x=.tmp j->V j)(D:cc A.C o (ev s.t) s.h K):
  ∃av v,K av [] none/\bu S w A.C.P L rho s.h av v/\(Instr.loadAt t (a.eval x)).run A.C.P w=.ok v w:=by
 simp only[cc,aL]at D;have hx:=bF sim x hV;split at D
 ·exact D.elim
 rename_i ti hT;have gj:=hC.jw t ti hT;split at D
 ·rename_i cs nP;rw[nP]at hx;obtain⟨b,off,U,Y,hb,z,R⟩:=hx.eY.Bq;split at D
  ·rename_i I;split at D
   ·rename_i N;have N:=mK N;have hlen:(cs.take ti.size).length=ti.size:=by simp;omega
    refine⟨_,_,D,.p _ _ (L0 _ U fun j x J=>?_),?_⟩
    ·have Th:cs[j]?=some x:=by rw[dM]at J;split at J;exact J;cases J
     exact⟨(z j x Th).2,R j x Th⟩
    have:=nh (w:=w) gj I b off ((List.range (cs.take ti.size).length).map U) (by simp;omega) (fun j v J=>by
     have yp:j<(cs.take ti.size).length:=by have:=aC J;simpa using this
     rw[aD,jK yp]at J;simp at J;have Ti:j<cs.length:=by rw[hlen]at yp;omega
     rw[(z j _ (oX Ti)).1,J])
    rw[Y];exact this
   exact D.elim
  rename_i I;split at D
  ·rename_i c r;refine⟨_,_,D,.p _ _ (R 0 c rfl),?_⟩;have:=mh (w:=w) gj I b off (U 0) (by simpa using (z 0 c rfl).1);rw[Y];exact this
  exact D.elim
 ·rename_i id off nP;rw[nP]at hx;split at D
  ·rename_i cs aU;obtain⟨hL,g,hg,Y⟩:=hx.hY (by rw[aU];trivial);have hh:=sim.hp id hL;rw[aU]at hh;obtain⟨g',ty,c,O,h2,h3,h4⟩:=hh;rw[hg]at O;injection O with O;injection O with O;injection O with O;subst O;have z:∀j u,c[j]?=some u->w.cell? ⟨g,j,none⟩=some u:=fun j u hu=>by rw[cell_of_row w g j c ty (0,0) h2];exact hu
   split at D
   ·rename_i I;split at D
    ·rename_i xs N uN;have N:=mK N;obtain⟨hl,Bv⟩:=gD uN;have hlen:xs.length=ti.size:=by rw[<-hl];exact aay N
     have hU:∀(j:Nat) x,xs[j]?=some x->∃u,c[off+j]?=some u/\u.oneCell'=true/\aO S w x u:=by
      intro j x J;obtain⟨y,hy⟩:∃y,((cs.drop off).take ti.size)[j]?=some y:=⟨_,oX (by rw[hl];exact aC J)⟩;have Z:=lW hy;obtain⟨u,hu⟩:=aau h3.symm (aC Z);obtain⟨W,h6⟩:=h4 _ _ _ Z hu;exact⟨u,hu,W,h6.AH (Bv j y x hy J)⟩
     refine⟨_,_,D,.p _ _ (L0 xs (fun j=>(c[off+j]?).getD undef) fun j x J=>?_),?_⟩
     ·obtain⟨u,W,h6,h7⟩:=hU j x J;rw[W];exact⟨h6,h7⟩
     have:=nh (w:=w) gj I g off ((List.range xs.length).map (fun j=>(c[off+j]?).getD undef)) (by simpa using hlen) (fun j v J=>by
      have yp:j<xs.length:=by have:=aC J;simpa using this
      rw[aD,jK yp]at J;obtain⟨u,W,_⟩:=hU j _ (oX yp);simp[W]at J;rw[z _ _ W,J])
     rw[Y];exact this
    exact D.elim
   rename_i I;split at D
   ·rename_i y r hy;have Z:=iV hy;obtain⟨u,hu⟩:=aau h3.symm (aC Z);obtain⟨W,h6⟩:=h4 _ _ _ Z hu;refine⟨_,_,D,h6,?_⟩;have:=mh (w:=w) gj I g off u (z _ _ hu);rw[Y];exact this
   exact D.elim
  ·rename_i cs aU;obtain⟨hL,g,hg,Y⟩:=hx.hY (by rw[aU];trivial);have hh:=sim.hp id hL;rw[aU]at hh;obtain⟨b,aey,U,O,hb,z,R⟩:=aO.Bq hh;rw[hg]at O;injection O with O;injection O with O;injection O with O h2;subst O h2;split at D
   ·rename_i I;split at D
    ·rename_i N;have N:=mK N;have hlen:=aay N;refine⟨_,_,D,.p _ _ (L0 _ (fun j=>U (off+j)) fun j x J=>?_),?_⟩
     ·have Th:=lW J;exact⟨(z _ x Th).2,R _ x Th⟩
     have:=nh (w:=w) gj I g off ((List.range ((cs.drop off).take ti.size).length).map (fun j=>U (off+j))) (by simpa using hlen) (fun j v J=>by
      have yp:j<((cs.drop off).take ti.size).length:=by have:=aC J;simpa using this
      rw[aD,jK yp]at J;simp at J;have Ti:off+j<cs.length:=by rw[hlen]at yp;omega
      have W:=(z _ _ (oX Ti)).1;rw[fX]at W;rw[W,J])
     rw[Y];exact this
    exact D.elim
   rename_i I;split at D
   ·rename_i y r hy;have Z:=iV hy;refine⟨_,_,D,.p _ _ (R _ _ Z),?_⟩;have:=mh (w:=w) gj I g off (U off) (by simpa using (z _ _ Z).1);rw[Y];exact this
   exact D.elim
  exact D.elim
 ·rename_i id i off nP;rw[nP]at hx;split at D
  ·rename_i e es aw;obtain⟨hL,g,n,c,tj,hg,D5,Y⟩:=hx.Bu aw;have hh:=sim.hp id hL;rw[aw]at hh;have Pt:aH A.C.P w (aO S w) e es (.slice (some ⟨g,0,none⟩) n c):=by rw[<-hg];exact hh
   have z:=Pt.cell D5;obtain⟨r,hr,D⟩:=D;split at D
   ·rename_i I;split at D
    ·rename_i N;have N:=mK N;have hlen:=aay N;have hU:∀(j:Nat) x,((r.drop off).take ti.size)[j]?=some x->∃u,w.cell? ⟨g,i*tj.size+off+j,none⟩=some u/\u.oneCell'=true/\aO S w x u:=by
      intro j x J;obtain⟨u,O,h2,h3⟩:=z i r _ x hr (lW J);exact⟨u,by rw[bp];exact O,h2,h3⟩
     refine⟨_,_,D,.p _ _ (L0 _ (fun j=>(w.cell? ⟨g,i*tj.size+off+j,none⟩).getD undef) fun j x J=>?_),?_⟩
     ·obtain⟨u,W,h6,h7⟩:=hU j x J;rw[W];exact⟨h6,h7⟩
     have:=nh (w:=w) gj I g (i*tj.size+off) ((List.range ((r.drop off).take ti.size).length).map (fun j=>(w.cell? ⟨g,i*tj.size+off+j,none⟩).getD undef)) (by simpa using hlen) (fun j v J=>by
      have yp:j<((r.drop off).take ti.size).length:=by have:=aC J;simpa using this
      rw[aD,jK yp]at J;obtain⟨u,W,_⟩:=hU j _ (oX yp);simp[W]at J;rw[W,J])
     rw[Y];exact this
    exact D.elim
   rename_i I;split at D
   ·rename_i y r' hy;have Z:=iV hy;obtain⟨u,O,h2,h3⟩:=z i r _ y hr Z;refine⟨_,_,D,.p _ _ h3,?_⟩;have:=mh (w:=w) gj I g (i*tj.size+off) u O;rw[Y];exact this
   exact D.elim
  ·rename_i e es aw;obtain⟨hL,g,n,c,tj,hg,D5,Y⟩:=hx.we aw;have hh:=sim.hp id hL;rw[aw]at hh;have Pt:aH A.C.P w (uT S w A.C.P L rho s.h) e es (.slice (some ⟨g,0,none⟩) n c):=by rw[<-hg];exact hh.1
   have z:=Pt.cell D5;obtain⟨r,hr,D⟩:=D;split at D
   ·exact D.elim
   rename_i I;split at D
   ·rename_i y r' hy;have Z:=iV hy;obtain⟨u,O,h2,h3⟩:=z i r _ _ hr Z;refine⟨_,_,D,h3,?_⟩;have:=mh (w:=w) gj I g (i*tj.size+off) u O;rw[Y];exact this
   exact D.elim
  exact D.elim
 exact D.elim
theorem Tj{o:Oper}(t:TypeId)(x:Operand)(D:o.op=.load t x):jV A o:=by
 intro V L S rho s a w K next Q hC z I J N _ u
 obtain⟨av,v,O,R,U⟩:=Ho t x D hC z (fun j W=>I j (by simp[D,Op.operands,W])) N;exact aN z J u O R (by simp only[execOp,D,aV,U,lR,dt])
theorem qc.under{P:Program}{t:TypeId}(h:qc P t ti):match ti.ud with
  | .sc=>(∃d,P.underlying t=some d/\(match d with | .struct _ | .array _ _=>False | _=>True))/\(ti.eq=true->P.underlying t=some .bool)
  | .int k=>P.underlying t=some (.int k)
  | .st fs=>∃u,P.underlying t=some (.struct u)/\fs.length=u.size/\(∀(i:Nat) f g,fs[i]?=some f->u[i]?=some g->f.1=g.offset/\f.2.1≠0/\(∃z,P.info? g.type=some z/\z.size=f.2.1)/\
    (∃d,P.underlying g.type=some d/\f.2.2=(match d with | .struct _ | .array _ _=>true | _=>false)))
  | .sl e=>P.underlying t=some (.slice e)
  | .str=>P.underlying t=some .string
  | .mp k e=>P.underlying t=some (.map k e):=by
 obtain⟨_,_,_,_,_,_,_,_,_,h⟩:=h;exact h
theorem qc.info{P:Program}{t:TypeId}(h:qc P t ti):∃info z,P.info? t=some info/\info.size=ti.size/\info.bytes=ti.bytes/\info.zero=some z/\z.cells=ti.zero.toArray/\(∀v∈ti.zero,v.oneCell'=true):=by
 obtain⟨i,z,u,D,I,J,N,h6,O,h⟩:=h;exact⟨i,z,u,D,I,J,N,O⟩
theorem qc.PL{P:Program}{t:TypeId}(h:qc P t ti):ti.zero.length=ti.size:=by
 obtain⟨i,z,h1,h2,h3,h4,h5,u,h7,h⟩:=h;exact u
theorem Fe{o:Oper}(t:TypeId)(x:Operand)(f:Nat)(Z:o.op=.fieldAddr t x f):jV A o:=by
 intro V L S rho s a w K next Q hC I hV hd z _ u
 simp only[cc,Z]at z;have N:=bF I x fun j O=>hV j (by simp[Z,Op.operands,O]);split at z
 ·rename_i fs size bytes zero eq hT;have gj:=(hC.jw t _ hT).under;obtain⟨gs,vt,hl,hf⟩:=gj;split at z
  ·rename_i off sz ag Tk;obtain⟨g,hg⟩:=aau hl (aC Tk);obtain⟨e1,e2,⟨i2,V6,L3⟩,_⟩:=hf f _ g Tk hg;have D:∀b o',(Instr.fieldAt t (.pointer (some ⟨b,o',none⟩)) f).run A.C.P w=.ok (.pointer (some ⟨b,o'+off,none⟩)) w:=by
    intro b o';simp only at e1 e2 L3;simp[Instr.fieldAt,run_underlying vt,hg,Instr.sureAddr,fieldPlace,Go.sizeOf,typeInfo,V6,L3,e2,bT,<-e1]
   split at z
   ·rename_i cs nP;rw[nP]at N;obtain⟨b,o',U,R,hb,W,hrep⟩:=N.eY.Bq;refine aN I hd u z (.p _ _ (.ip _ b (o'+off) (fun j=>U (off+j)) hb (fun j y O=>?_) fun j y O=>?_)) (by simp[execOp,Z,R,D])
    ·rw[aW]at O;rw[bp];exact W _ y O
    rw[aW]at O;exact hrep _ y O
   ·rename_i id o' nP;rw[nP]at N;split at z
    ·exact z.elim
    rename_i cO;have ht:(s.h id).there:=by
     cases hh:s.h id<;>first | trivial | exact absurd hh (by simpa using cO)
    obtain⟨hL,Y,qG,R⟩:=N.hY ht;exact aN I hd u z (.bx _ _ _ fun _=>⟨hL,Y,qG,rfl⟩) (by simp[execOp,Z,R,D])
   ·rename_i id i o' nP;rw[nP]at N;split at z
    ·rename_i e es aw;obtain⟨hL,Y,n,c,tj,qG,D5,R⟩:=N.Bu aw;refine aN I hd u z (v:=.pointer (some ⟨Y,i*tj.size+o'+off,none⟩)) (.rp _ _ _ _ fun e2 J=>?_) (by simp[execOp,Z,R,D]);rw[aw]at J;injection J with J;subst J;exact⟨hL,Y,n,c,tj,qG,D5,by rw[bp]⟩
    ·rename_i e es aw;obtain⟨hL,Y,n,c,tj,qG,D5,R⟩:=N.we aw;refine aN I hd u z (v:=.pointer (some ⟨Y,i*tj.size+o'+off,none⟩)) (.rp _ _ _ _ fun e2 J=>?_) (by simp[execOp,Z,R,D]);rw[aw]at J;injection J with J;subst J;exact⟨hL,Y,n,c,tj,qG,D5,by rw[bp]⟩
    exact z.elim
   exact z.elim
  exact z.elim
 exact z.elim
theorem PM{o:Oper}(t:TypeId)(x:Operand)(f:Nat)(U:o.op=.field t x f):jV A o:=by
 intro V L S rho s a w K next Q hC J hV hd z _ D
 simp only[cc,U]at z;have hx:=bF J x fun j hj=>hV j (by simp[U,Op.operands,hj]);split at z
 ·rename_i fs size bytes zero eq cs hT nP;have gj:=(hC.jw t _ hT).under;obtain⟨gs,vt,hl,hf⟩:=gj;rw[nP]at hx;obtain⟨vs,hv,Hd,h1,hc⟩:=hx.eY.n_;split at z
  ·rename_i off sz ag Tk;obtain⟨g,W⟩:=aau hl (aC Tk);obtain⟨e1,e2,⟨i2,V6,L3⟩,d,Ye,N⟩:=hf f _ g Tk W;simp only at e1 e2 L3 N;split at z
   ·split at z
    ·rename_i O;have O:=mK O;have hlen:=aay O;refine aN J hd D z (v:=.agg (vs.extract off (off+sz))) (.p _ _ (.ag _ _ (by simp;omega) (fun u R=>h1 u ?_) fun i c v Yx I=>?_)) ?_
     ·simp at R;exact fY (Ay R)
     ·have hi:=aC Yx;rw[hlen]at hi;have Y:vs[off+i]?=some v:=by
       rw[Array.getElem?_extract]at I;split at I
       ·exact I
       cases I
      exact hc _ c v (lW Yx) Y
     have Z:(isAgg g.type).run A.C.P w=.ok true w:=by
      rw[Go.isAgg,aV,run_underlying Ye];cases d<;>simp at N<;>rfl
     simp[execOp,U,hv,Instr.field,run_underlying vt,W,asAgg,part,Z,Go.sizeOf,typeInfo,V6,L3,<-e1]
    exact z.elim
   split at z
   ·rename_i c r hy;have oO:=iV hy;obtain⟨u,R⟩:=aau Hd (aC oO);refine aN J hd D z (.p _ _ (hc _ _ _ oO R)) ?_;have Z:(isAgg g.type).run A.C.P w=.ok false w:=by
     rw[Go.isAgg,aV,run_underlying Ye];cases d<;>simp at N<;>rfl
    simp[execOp,U,hv,Instr.field,run_underlying vt,W,asAgg,part,Z,<-e1,R]
   exact z.elim
  exact z.elim
 exact z.elim
theorem o9{P:Program}{w:World}{t:TypeId}{ti:TypeInfo}(u:P.underlying t=some (.slice e))(hi:P.info? e=some ti)(b off n c:Nat)(k:IntKind)(i:Int)(z:0<=i)(h1:i.toNat<n):
  (Instr.indexAt t (.slice (some ⟨b,off,none⟩) n c) (.int k i)).run P w=.ok (.pointer (some ⟨b,off+i.toNat*ti.size,none⟩)) w:=by
 have D:i<n:=by omega
 simp[Instr.indexAt,asIntOf,run_underlying u,z,D,Go.sizeOf,typeInfo,hi,bT]
theorem bu.Ff{S:Nat->Prop}{w:World}{P:Program}{h:Nat->AB}{lo hi:Nat}{v:Value}(u:bu S w P L rho h (.vw id lo hi) v)(z:h id=.row e es):
  L id/\∃n c a ti,rho id=.slice a n c/\P.info? e=some ti/\lo<=hi/\hi<=n/\n<=c/\v=.slice (if c=lo then a else a.map (·.add (lo*ti.size))) (hi-lo) (c-lo):=by
 cases u with
 | vw _ _ _ _ hv=>exact hv e (by rw[z];rfl)
theorem Fg{o:Oper}(t:TypeId)(x ix:Operand)(aL:o.op=.indexAddr t x ix):jV A o:=by
 intro V L S rho s a w K next Q hC D hV hd z _ I
 simp only[cc,aL]at z;have hx:=bF D x fun j Y=>hV j (by simp[aL,Op.operands,Y]);have hy:=bF D ix fun j Y=>hV j (by simp[aL,Op.operands,Y]);split at z
 ·rename_i e size bytes zero eq k i hT PN;have gj:=(hC.jw t _ hT).under;simp only at gj;rw[PN]at hy;replace hy:=hy.bZ;split at z
  ·exact z.elim
  rename_i te yA;obtain⟨N,ze,r_,Dv,_⟩:=(hC.jw e te yA).info;have slc:∀(es:List (List PV)),aO S w (.sl es) (a.eval x)->(∃r,(0<=i/\es[i.toNat]?=some r)/\match Dk r.length te.size with | true=>K (.p (.ip r)) [] none | false=>False)->o.wp A.C.P a w next Q:=by
   intro es hrep z;obtain⟨r,⟨h0,hr⟩,z⟩:=z;split at z
   ·rename_i hlen;have hlen:=jn hlen;obtain⟨ad,c,Z,hle,cO⟩:=hrep.qP;obtain⟨b,off,k',rfl,hb,hk,hcell⟩:=cO (by intro e;rw[e]at hr;simp at hr);have AI:k'=te.size:=by rw[<-hk r (aj hr),hlen]
    have hU:∀(j:Nat) y,r[j]?=some y->∃u,w.cell? ⟨b,off+i.toNat*te.size+j,none⟩=some u/\u.oneCell'=true/\aO S w y u:=by
     intro j y Y;have:=hcell _ _ j y hr Y;rw[AI]at this;exact this
    refine aN D hd I z (.p _ _ (.ip _ b (off+i.toNat*te.size) (fun j=>(w.cell? ⟨b,off+i.toNat*te.size+j,none⟩).getD undef) hb (fun j y Y=>?_) fun j y Y=>?_)) ?_
    ·obtain⟨u,h1,h2,h3⟩:=hU j y Y;simp[h1,h2]
    ·obtain⟨u,h1,h2,h3⟩:=hU j y Y;simp only[h1];exact h3
    have:=o9 (w:=w) gj r_ b off es.length c k i h0 (aC hr);simp only[execOp,aL,Z,hy,aV,this,lR,dt,Dv]
   exact z.elim
  split at z
  ·rename_i es He;rw[He]at hx;exact slc es hx.eY z
  ·rename_i id He;rw[He]at hx;split at z
   ·rename_i e' es aw;split at z
    ·rename_i O;have O:=jn O;subst O;obtain⟨W,Z⟩:=hx.cZ (by rw[aw];trivial);have R:=D.hp id W;rw[aw]at R;have Pt:aH A.C.P w (aO S w) e' es (rho id):=R;obtain⟨⟨h0,eX⟩,z⟩:=z;obtain⟨i',xs,h1,h2,h3,h4,h5,h6⟩:=Pt;rcases h3.2 with⟨_,hn⟩ | ⟨g,cap,cur,hg,_,_,hle,_⟩
     ·omega
     refine aN D hd I z (v:=.pointer (some ⟨g,i.toNat*N.size,none⟩)) (.rp _ _ _ _ fun e2 J=>?_) ?_
     ·rw[aw]at J;injection J with J;subst J;exact⟨W,g,_,_,N,hg,r_,by rw[tz]⟩
     have:=o9 (w:=w) gj r_ g 0 es.length cap k i h0 eX;rw[hg]at Z;rw[fX]at this;simp only[execOp,aL,Z,hy,aV,this,lR,dt]
    exact z.elim
   ·rename_i e' es aw;split at z
    ·rename_i O;have O:=jn O;subst O;obtain⟨W,Z⟩:=hx.cZ (by rw[aw];trivial);have R:=D.hp id W;rw[aw]at R;have Pt:aH A.C.P w (uT S w A.C.P L rho s.h) e' es (rho id):=R.1;obtain⟨⟨h0,eX⟩,z⟩:=z;obtain⟨i',xs,h1,h2,h3,h4,h5,h6⟩:=Pt;rcases h3.2 with⟨_,hn⟩ | ⟨g,cap,cur,hg,_,_,hle,_⟩
     ·omega
     refine aN D hd I z (v:=.pointer (some ⟨g,i.toNat*N.size,none⟩)) (.rp _ _ _ _ fun e2 J=>?_) ?_
     ·rw[aw]at J;injection J with J;subst J;exact⟨W,g,_,_,N,hg,r_,by rw[tz]⟩
     have:=o9 (w:=w) gj r_ g 0 es.length cap k i h0 eX;rw[hg]at Z;rw[fX]at this;simp only[execOp,aL,Z,hy,aV,this,lR,dt]
    exact z.elim
   ·rename_i es Nt;obtain⟨W,Z⟩:=hx.cZ (by rw[Nt];trivial);have R:=D.hp id W;rw[Nt]at R;exact slc es (by rw[Z];exact R) z
   exact z.elim
  ·rename_i id lo hi He;rw[He]at hx;split at z
   ·rename_i e' es aw;split at z
    ·rename_i O;have O:=jn O;subst O;obtain⟨W,n,cp,ad,ti',ni,Bw,hlh,hhn,Yf,U⟩:=hx.Ff aw;rw[r_]at Bw;injection Bw with Bw;subst Bw;have R:=D.hp id W;rw[aw]at R;have Pt:aH A.C.P w (aO S w) e' es (rho id):=R;obtain⟨⟨h0,eX⟩,z⟩:=z;obtain⟨i',xs,h1,h2,h3,h4,h5,h6⟩:=Pt;rw[ni]at h3;rcases h3.2 with⟨h7,_⟩ | ⟨g,cap,cur,hg,_,_,hle,_⟩
     ·injection h7 with _ h8 h9;omega
     injection hg with g1 g2 g3;subst g1 g2 g3;refine aN D hd I z (v:=.pointer (some ⟨g,lo*N.size+i.toNat*N.size,none⟩)) (.rp _ _ _ _ fun e2 J=>?_) ?_
     ·rw[aw]at J;injection J with J;subst J;exact⟨W,g,_,_,N,ni,r_,by rw[tz,mY]⟩
     have:=o9 (w:=w) gj r_ g (lo*N.size) (hi-lo) (cp-lo) k i h0 eX;rw[aa (by omega)]at U;have he:(if lo*N.size=0 then (⟨g,0,none⟩:Addr) else ⟨g,lo*N.size,none⟩)=⟨g,lo*N.size,none⟩:=by split<;>simp_all
     simp only[mZ,Addr.add,fX,he]at U;simp only[execOp,aL,U,hy,aV,this,lR,dt]
    exact z.elim
   exact z.elim
  exact z.elim
 exact z.elim
theorem PO{o:Oper}(t:TypeId)(x N:Operand)(I:o.op=.index t x N):jV A o:=by
 intro V L S rho s a w K next Q hC u O Y D _ z
 simp only[cc,I]at D;have R:=bF u x fun j J=>O j (by simp[I,Op.operands,J]);have U:=bF u N fun j J=>O j (by simp[I,Op.operands,J]);split at D
 ·rename_i size bytes zero eq st k i Z hs PN;have W:=(hC.jw t _ Z).under;simp only at W;rw[PN]at U;rw[hs]at R;obtain⟨b,⟨h0,hb⟩,D⟩:=D;refine aN u Y z D (.p _ _ (.im _)) ?_;simp[execOp,I,R.bZ,U.bZ,Instr.index,asIntOf,run_underlying W,h0,hb]
 exact D.elim
theorem JV{o:Oper}(src dst:TypeId)(x:Operand)(O:o.op=.convert src dst x):jV A o:=by
 intro V L S rho s a w K next Q hC z hV Y J _ u
 simp only[cc,O]at J;have N:=bF z x fun j hj=>hV j (by simp[O,Op.operands,hj]);split at J
 ·rename_i k' n Z k size bytes zero eq R U W;have I:=(hC.jw dst _ W).under;simp only at I;rw[R]at N;have D:∃d,A.C.P.underlying src=some d:=by
   have:=(hC.jw src _ U).under;cases hu:Z.ud<;>rw[hu]at this
   ·exact⟨_,this.1.choose_spec.1⟩
   ·exact⟨_,this⟩
   ·exact⟨_,this.choose_spec.1⟩
   ·exact⟨_,this⟩
   ·exact⟨_,this⟩
   exact⟨_,this⟩
  obtain⟨d1,D⟩:=D;exact aN z Y u (qe J) (.p _ _ (.im _)) (by simp[execOp,O,N.bZ,convert,run_underlying D,run_underlying I,Conv.intToInt])
 ·rename_i str Yz V8 YA eq1 YB V9 YC eq2 R U W;have I:=(hC.jw dst _ W).under;have D:=(hC.jw src _ U).under;simp only at D I;rw[R]at N;exact aN z Y u J (.p _ _ (.im _)) (by simp[execOp,O,N.bZ,convert,run_underlying D,run_underlying I])
 ·rename_i k' n k'' Yz V8 YA eq1 YB V9 YC eq2 R U W;have I:=(hC.jw dst _ W).under;have D:=(hC.jw src _ U).under;simp only at D I;rw[R]at N;exact aN z Y u J (.p _ _ (.im _)) (by simp[execOp,O,N.bZ,convert,run_underlying D,run_underlying I,Conv.intToString])
 exact J.elim
theorem Hp{o:Oper}(x:Operand)(O:o.op=.nilCheck x):jV A o:=by
 intro V L S rho s a w K next Q hC J W Y u _ I
 simp only[cc,O]at u;have z:=bF J x fun j Z=>W j (by simp[O,Op.operands,Z]);have fin:∀av R,K av [] none->bu S w A.C.P L rho s.h av (a.eval x)->a.eval x=.pointer (some R)->o.wp A.C.P a w next Q:=by
  intro av R u hl he;exact aN J Y I u hl (by simp[execOp,O,he])
 split at u
 ·rename_i cs N;rw[N]at z;obtain⟨b,off,U,D,_⟩:=z.eY.Bq;exact fin _ _ u z D
 ·rename_i id off N;rw[N]at z;split at u
  ·rename_i hb;obtain⟨_,g,_,D⟩:=z.hY (by rw[hb];trivial);exact fin _ _ u z D
  ·rename_i hb;obtain⟨_,g,_,D⟩:=z.hY (by rw[hb];trivial);exact fin _ _ u z D
  exact u.elim
 ·rename_i id i off N;rw[N]at z;split at u
  ·rename_i hb;obtain⟨_,g,n,c,tj,_,_,D⟩:=z.Bu hb;exact fin _ _ u z D
  ·rename_i hb;obtain⟨_,g,n,c,tj,_,_,D⟩:=z.we hb;exact fin _ _ u z D
  exact u.elim
 exact u.elim
theorem Hq{o:Oper}(f:FuncId)(first u:Array Operand)(J:o.op=.makeFunc (.func f) first u):jV A o:=by
 intro V L S rho s a w K next Q hC D U W I _ z
 simp only[cc,J]at I;split at I
 ·rename_i Y;have Z:first=#[]:=by
   obtain⟨l⟩:=first
   cases l with
   | nil=>rfl
   | cons y l=>simp[isNil]at Y
  subst Z;refine aN D W z I (.fn f _ (u.map a.eval) (by simp) fun i c v O N=>?_) (by simp[execOp,J,Instr.makeFunc]);rw[aD]at O;obtain⟨y,hy,rfl⟩:=qI.1 O;have R:u[i]?=some y:=by simpa using hy
  rw[Array.getElem?_map,R]at N;simp at N;rw[<-N];exact bF D y fun j hj=>U j (by simp[J,Op.operands];rw[<-hj];exact fB R)
 exact I.elim
end Go.AM
namespace Go.AM
open Go.RowKit
theorem cQ(h:Nat->AB)(a b:List (Nat×AB)):app h (a++b)=app (app h a) b:=by
 induction a generalizing h with
 | nil=>rfl
 | cons x a ih=>exact ih _
theorem b6{α:Type}(f:Nat->α)(i:Nat)(x:α)(j:Nat):(j=i/\a8 f i x j=x)\/(j≠i/\a8 f i x j=f j):=by
 by_cases e:j=i
 ·subst e;exact .inl ⟨rfl,aF _ _ _⟩
 exact .inr ⟨e,bg _ _ e⟩
variable {e:TypeId} {es:List (List PV)}
theorem aH.Hr{P:Program}{S S':Nat->Prop}{w:World}{v:Value}(h:aH P w (aO S w) e es v)(hS:∀b,S b->S' b)(hb:∀g,cF v=some g->S' g):aO S' w (.sl es) v:=by
 obtain⟨i,xs,h1,h2,O,W,Y,R⟩:=h;rcases O.2 with⟨rfl,Z⟩ | ⟨g,D,cur,rfl,_,_,I,_⟩
 ·have:es=[]:=Az Z;subst this;exact .nil _ _
 refine .sl es i.size g 0 D (fun a j=>(xs[a*i.size+j]?).getD undef) I (hb g rfl) W (fun a r j x J N=>?_) fun a r j x J N=>?_
 ·obtain⟨u,z,U⟩:=R a r j x J N;have:=O.cells (g:=g) rfl _ u z;rw[bT]at this;rw[z,bp];exact⟨this,Y u (aj z)⟩
 obtain⟨u,z,U⟩:=R a r j x J N;rw[z];exact U.mono hS (fun _ _=>rfl)
variable {id:Nat}
theorem fF{w:World}{h:Nat->AB}{b:AB}{i:Nat}{v:Value}{g:Nat}(hi:i≠id)(u:hasB w (a8 h id b i) v g):hasB w (h i) v g:=by rw[bg _ _ hi]at u;exact u
variable {A:rZ} {V L:Nat->Prop} {rho:Nat->Value} {s:AS}
theorem cn.D6{S:Nat->Prop}{a:Act}{w:World}(u:cn A V L S rho s a w)(hC:bP A.C)(id:Nat)(O:L id)(aw:s.h id=.row e es):
  cn A V L (fun b=>S b\/cF (rho id)=some b) rho ⟨s.t,a8 s.h id (.lz es)⟩ a w:=by
 have T:ng S (fun b=>S b\/cF (rho id)=some b) w w L L rho rho s.h (a8 s.h id (.lz es)):=by
  refine⟨fun b h=>.inl h,fun _ _=>rfl,fun j z=>⟨?_,fun hl=>⟨hl,rfl⟩⟩,fun j e' z=>?_⟩
  ·rcases b6 s.h id (.lz es) j with⟨rfl,h⟩ | ⟨_,h⟩
   ·rw[aw];trivial
   rw[h]at z;exact z
  rcases b6 s.h id (.lz es) j with⟨rfl,h⟩ | ⟨_,h⟩
  ·rw[h]at z;cases z
  rw[h]at z;exact z
 have D:∀j,((a8 s.h id (.lz es)) j).live->j≠id/\(s.h j).live:=by
  intro j z;rcases b6 s.h id (.lz es) j with⟨rfl,h⟩ | ⟨I,h⟩
  ·rw[h]at z;exact z.elim
  rw[h]at z;exact⟨I,z⟩
 have R:(s.h id).live:=by rw[aw];trivial
 exact
 {tm:=fun j z=>(u.tm j z).de T
  sz:=u.sz,df:=u.df,nb:=u.nb,pn:=u.pn
  ev:=hC.env _ _ _ _ u.ev (fun b h=>.inl h) (fun _ _=>rfl) (aG _)
  s0:=fun b h=>.inl (u.s0 b h)
  st:=fun b h=>h.elim (u.st b) fun h=>(u.qd id b O R h).1
  sb:=fun b h=>h.elim (u.sb b) fun h=>.inr (u.qd id b O R h).2.2
  hp:=fun j z=>by
   have U:=u.hp j z;rcases b6 s.h id (.lz es) j with⟨rfl,h⟩ | ⟨I,h⟩
   ·show fD _ _ _ _ _ _ _ (a8 s.h j (.lz es) j);rw[h];rw[aw]at U;exact aH.Hr U (fun b h=>.inl h) (fun g h=>.inr h)
   show fD _ _ _ _ _ _ _ (a8 s.h id (.lz es) j);rw[h];exact U.de T (fun _ _ _=>rfl) (fun _=>rfl)
  dj:=fun i j g hi z J Y fU W=>u.dj i j g hi z (D i J).2 (D j Y).2 (fF (D i J).1 fU) (fF (D j Y).1 W)
  lv:=fun i g hi J N=>by
   obtain⟨I,Z⟩:=D i J;have N:=fF I N;obtain⟨h3,h4,h5⟩:=u.lv i g hi Z N;refine⟨h3,fun h=>h.elim h4 fun h=>I (u.dj i id g hi O Z R N (.inl h)),h5⟩
  fr:=u.fr }
theorem cn.ag4{S:Nat->Prop}{a:Act}{w:World}(u:cn A V L S rho s a w)(hC:bP A.C)(id:Nat)(O:L id){mk:MK}{es:List (Value×PV)}(aw:s.h id=.map mk es):
  cn A V L (fun b=>S b\/cF (rho id)=some b) rho ⟨s.t,a8 s.h id .none⟩ a w:=by
 have T:ng S (fun b=>S b\/cF (rho id)=some b) w w L L rho rho s.h (a8 s.h id .none):=by
  refine⟨fun b h=>.inl h,fun _ _=>rfl,fun j z=>⟨?_,fun hl=>⟨hl,rfl⟩⟩,fun j e' z=>?_⟩
  ·rcases b6 s.h id .none j with⟨rfl,h⟩ | ⟨_,h⟩
   ·rw[aw];trivial
   rw[h]at z;exact z
  rcases b6 s.h id .none j with⟨rfl,h⟩ | ⟨_,h⟩
  ·rw[h]at z;cases z
  rw[h]at z;exact z
 have D:∀j,((a8 s.h id .none) j).live->j≠id/\(s.h j).live:=by
  intro j z;rcases b6 s.h id .none j with⟨rfl,h⟩ | ⟨I,h⟩
  ·rw[h]at z;exact z.elim
  rw[h]at z;exact⟨I,z⟩
 have R:(s.h id).live:=by rw[aw];trivial
 exact
 {tm:=fun j z=>(u.tm j z).de T
  sz:=u.sz,df:=u.df,nb:=u.nb,pn:=u.pn
  ev:=hC.env _ _ _ _ u.ev (fun b h=>.inl h) (fun _ _=>rfl) (aG _)
  s0:=fun b h=>.inl (u.s0 b h)
  st:=fun b h=>h.elim (u.st b) fun h=>(u.qd id b O R h).1
  sb:=fun b h=>h.elim (u.sb b) fun h=>.inr (u.qd id b O R h).2.2
  hp:=fun j z=>by
   have Z:=u.hp j z;rcases b6 s.h id .none j with⟨rfl,h⟩ | ⟨I,h⟩
   ·show fD _ _ _ _ _ _ _ (a8 s.h j .none j);rw[h];trivial
   show fD _ _ _ _ _ _ _ (a8 s.h id .none j);rw[h];exact Z.de T (fun _ _ _=>rfl) (fun _=>rfl)
  dj:=fun i j g hi z J W fU U=>u.dj i j g hi z (D i J).2 (D j W).2 (fF (D i J).1 fU) (fF (D j W).1 U)
  lv:=fun i g hi J N=>by
   obtain⟨I,Y⟩:=D i J;have N:=fF I N;obtain⟨h3,h4,h5⟩:=u.lv i g hi Y N;refine⟨h3,fun h=>h.elim h4 fun h=>I (u.dj i id g hi O Y R N (.inl h)),h5⟩
  fr:=u.fr }
theorem cn.Nu{S:Nat->Prop}{a:Act}{w:World}(z:cn A V L S rho s a w)(hC:bP A.C)(id:Nat)(W:L id){cs:List AV}{xs:List PV}(aw:s.h id=.box cs)(uN:gm cs=some xs):
  cn A V L (fun b=>S b\/cF (rho id)=some b) rho ⟨s.t,a8 s.h id (.nd xs)⟩ a w:=by
 have T:ng S (fun b=>S b\/cF (rho id)=some b) w w L L rho rho s.h (a8 s.h id (.nd xs)):=by
  refine⟨fun b h=>.inl h,fun _ _=>rfl,fun j D=>⟨?_,fun hl=>⟨hl,rfl⟩⟩,fun j e' D=>?_⟩
  ·rcases b6 s.h id (.nd xs) j with⟨rfl,h⟩ | ⟨_,h⟩
   ·rw[aw];trivial
   rw[h]at D;exact D
  rcases b6 s.h id (.nd xs) j with⟨rfl,h⟩ | ⟨_,h⟩
  ·rw[h]at D;cases D
  rw[h]at D;exact D
 have J:∀j,((a8 s.h id (.nd xs)) j).live->j≠id/\(s.h j).live:=by
  intro j D;rcases b6 s.h id (.nd xs) j with⟨rfl,h⟩ | ⟨N,h⟩
  ·rw[h]at D;exact D.elim
  rw[h]at D;exact⟨N,D⟩
 have Y:(s.h id).live:=by rw[aw];trivial
 exact
 {tm:=fun j D=>(z.tm j D).de T
  sz:=z.sz,df:=z.df,nb:=z.nb,pn:=z.pn
  ev:=hC.env _ _ _ _ z.ev (fun b h=>.inl h) (fun _ _=>rfl) (aG _)
  s0:=fun b h=>.inl (z.s0 b h)
  st:=fun b h=>h.elim (z.st b) fun h=>(z.qd id b W Y h).1
  sb:=fun b h=>h.elim (z.sb b) fun h=>.inr (z.qd id b W Y h).2.2
  hp:=fun j D=>by
   have Z:=z.hp j D;rcases b6 s.h id (.nd xs) j with⟨rfl,h⟩ | ⟨N,h⟩
   ·show fD _ _ _ _ _ _ _ (a8 s.h j (.nd xs) j);rw[h];rw[aw]at Z;obtain⟨g,ty,c,k1,k2,k3,k4⟩:=Z;show aO _ w (.ip xs) (rho j);rw[k1];obtain⟨hl,Bv⟩:=gD uN;have hU:∀(i:Nat) x,xs[i]?=some x->∃u,c[i]?=some u/\u.oneCell'=true/\aO S w x u:=by
     intro i x hi;obtain⟨y,hy⟩:∃y,cs[i]?=some y:=⟨_,oX (by rw[hl];exact aC hi)⟩;obtain⟨u,hu⟩:=aau k3.symm (aC hy);obtain⟨I,O⟩:=k4 _ _ _ hy hu;exact⟨u,hu,I,O.AH (Bv i y x hy hi)⟩
    refine .ip xs g 0 (fun i=>(c[i]?).getD undef) (.inr rfl) (fun i x hi=>?_) fun i x hi=>?_
    ·obtain⟨u,I,O,h7⟩:=hU i x hi;rw[fX,cell_of_row w g i c ty (0,0) k2,I];exact⟨rfl,O⟩
    obtain⟨u,I,O,h7⟩:=hU i x hi;rw[I];exact h7.mono (fun b h=>.inl h) (fun _ _=>rfl)
   show fD _ _ _ _ _ _ _ (a8 s.h id (.nd xs) j);rw[h];exact Z.de T (fun _ _ _=>rfl) (fun _=>rfl)
  dj:=fun i j g hi D R lj fU hgj=>z.dj i j g hi D (J i R).2 (J j lj).2 (fF (J i R).1 fU) (fF (J j lj).1 hgj)
  lv:=fun i g hi R U=>by
   obtain⟨N,h2⟩:=J i R;have U:=fF N U;obtain⟨h3,h4,I⟩:=z.lv i g hi h2 U;refine⟨h3,fun h=>h.elim h4 fun h=>N (z.dj i id g hi W h2 Y U (.inl h)),I⟩
  fr:=z.fr }
def su(h h':Nat->AB):Prop:=∀id,h' id=h id\/(∃e es,h id=.row e es/\h' id=.lz es)\/(∃cs xs,h id=.box cs/\gm cs=some xs/\h' id=.nd xs)
theorem su.refl(h:Nat->AB):su h h:=fun _=>.inl rfl
variable {h':Nat->AB}
theorem su.PQ{h:Nat->AB}(H:su h h')(z:h id=.row e es):su h (a8 h' id (.lz es)):=by
 intro j;rcases b6 h' id (.lz es) j with⟨rfl,u⟩ | ⟨_,u⟩
 ·exact .inr (.inl ⟨e,es,z,u⟩)
 rw[u];exact H j
theorem su.PR{h:Nat->AB}(H:su h h'){cs:List AV}{xs:List PV}(z:h id=.box cs)(D:gm cs=some xs):su h (a8 h' id (.nd xs)):=by
 intro j;rcases b6 h' id (.nd xs) j with⟨rfl,u⟩ | ⟨_,u⟩
 ·exact .inr (.inr ⟨cs,xs,z,D,u⟩)
 rw[u];exact H j
theorem aO.wg{S:Nat->Prop}{w:World}{xs:List PV}{g off:Nat}{v:Value}(h:aO S w (.ip xs) v)(u:v=.pointer (some ⟨g,0,none⟩)):aO S w (.ip (xs.drop off)) (.pointer (some ⟨g,off,none⟩)):=by
 subst u;obtain⟨b,o,U,u,hb,z,D⟩:=h.Bq;injection u with u;injection u with u;injection u with h1 h2;subst h1 h2;refine .ip _ g off (fun j=>U (off+j)) hb (fun j x I=>?_) fun j x I=>?_
 ·rw[aW]at I;have:=z _ x I
  rwa [fX]at this
 rw[aW]at I;exact D _ x I
theorem D7{S:Nat->Prop}{a:Act}{w:World}(hC:bP A.C){h:Nat->AB}(z:cn A V L S rho s a w)(N:su h s.h){x:AV}{v:Value}(U:bu S w A.C.P L rho s.h x v){K:PV->List (Nat×AB)->Prop}(D:nZ h x K):
  ∃y fz S',K y fz/\cn A V L S' rho ⟨s.t,app s.h fz⟩ a w/\aO S' w y v/\(∀b,S b->S' b)/\su h (app s.h fz)/\(∀p∈fz,L p.1)/\(∀p∈fz,¬p.2.live):=by
 unfold nZ at D;split at D
 ·exact⟨_,[],S,D,z,U.eY,fun _ h=>h,N,by simp,by simp⟩
 ·cases U;exact⟨_,[],S,D,z,.nil _ _,fun _ h=>h,N,by simp,by simp⟩
 ·rename_i id;split at D
  ·rename_i e es aw;rcases N id with u | ⟨e',dv,u,R⟩ | ⟨cs,xs,u,_,_⟩
   ·rw[aw]at u;obtain⟨I,O⟩:=U.cZ (by rw[u];trivial);refine⟨_,_,_,D,z.D6 hC id I u,?_,fun b h=>.inl h,N.PQ aw,by simpa using I,by simp[AB.live]⟩;have J:=z.hp id I;rw[u]at J;rw[O];exact aH.Hr J (fun b h=>.inl h) (fun g h=>.inr h)
   ·rw[aw]at u;injection u with e1 e2;subst e1 e2;obtain⟨I,O⟩:=U.cZ (by rw[R];trivial);have J:=z.hp id I;rw[R]at J;refine⟨_,_,S,D,?_,by rw[O];exact J,fun _ h=>h,N.PQ aw,by simpa using I,by simp[AB.live]⟩;show cn A V L S rho ⟨s.t,a8 s.h id (.lz es)⟩ a w;rw[kD _ _ _ R];exact z
   rw[aw]at u;cases u
  ·rename_i es Nt;rcases N id with u | ⟨e',dv,u,R⟩ | ⟨cs,xs,u,_,_⟩
   ·rw[Nt]at u;obtain⟨I,O⟩:=U.cZ (by rw[u];trivial);have J:=z.hp id I;rw[u]at J;exact⟨_,[],S,D,z,by rw[O];exact J,fun _ h=>h,N,by simp,by simp⟩
   ·rw[Nt]at u;cases u
   rw[Nt]at u;cases u
  exact D.elim
 ·rename_i id off;split at D
  ·rename_i cs aU;split at D
   ·rename_i xs uN;rcases N id with u | ⟨e',dv,u,R⟩ | ⟨oM,uV,u,Z,R⟩
    ·rw[aU]at u;obtain⟨I,g,W,O⟩:=U.hY (by rw[u];trivial);have cv:=z.Nu hC id I u uN;refine⟨_,_,_,D,cv,?_,fun b h=>.inl h,N.PR aU uN,by simpa using I,by simp[AB.live]⟩;have J:=cv.hp id I;have Pt:fD _ w A.C.P L rho _ id (a8 s.h id (.nd xs) id):=J;rw[aF]at Pt;have Y:aO _ w (.ip xs) (rho id):=Pt;rw[O];exact Y.wg W
    ·rw[aU]at u;cases u
    rw[aU]at u;injection u with u;subst u;rw[uN]at Z;injection Z with Z;subst Z;obtain⟨I,g,W,O⟩:=U.hY (by rw[R];trivial);have J:=z.hp id I;rw[R]at J;have Y:aO _ w (.ip xs) (rho id):=J;refine⟨_,_,S,D,?_,by rw[O];exact Y.wg W,fun _ h=>h,N.PR aU uN,by simpa using I,by simp[AB.live]⟩;show cn A V L S rho ⟨s.t,a8 s.h id (.nd xs)⟩ a w;rw[kD _ _ _ R];exact z
   exact D.elim
  ·rename_i xs Wa;rcases N id with u | ⟨e',dv,u,R⟩ | ⟨cs,uV,u,_,_⟩
   ·rw[Wa]at u;obtain⟨I,g,W,O⟩:=U.hY (by rw[u];trivial);have J:=z.hp id I;rw[u]at J;have Y:aO _ w (.ip xs) (rho id):=J;exact⟨_,[],S,D,z,by rw[O];exact Y.wg W,fun _ h=>h,N,by simp,by simp⟩
   ·rw[Wa]at u;cases u
   rw[Wa]at u;cases u
  exact D.elim
 exact D.elim
theorem Nv{b:AB}(h:b.qK=some e):b.live:=by cases b<;>first | trivial | cases h
theorem Nw{fz:List (Nat×AB)}(u:∀p∈fz,¬p.2.live):∀{h:Nat->AB} {id:Nat},(app h fz id).live->app h fz id=h id:=by
 induction fz with
 | nil=>intro h id _;rfl
 | cons p fz ih=>
  intro h id hl;obtain⟨i,b⟩:=p;have e:=ih (fun p hp=>u p (by simp[hp])) (h:=a8 h i b) (id:=id) hl;have e2:app h ((i,b)::fz) id=a8 h i b id:=e;by_cases z:id=i
  ·subst z;rw[e2,aF]at hl;exact absurd hl (u (id,b) (by simp))
  rw[e2,bg _ _ z]
theorem su.there{h:Nat->AB}(H:su h h')(id:Nat):(h' id).there↔(h id).there:=by
 rcases H id with u | ⟨e,es,u,z⟩ | ⟨cs,xs,u,_,z⟩
 ·rw[u]
 ·rw[u,z];exact cI
 rw[u,z];exact cI
theorem bu.froze{S S':Nat->Prop}{w:World}{P:Program}{h h':Nat->AB}{fz:List (Nat×AB)}(hS:∀b,S b->S' b)(H:su h h')(z:su h (app h' fz))(D:∀p∈fz,¬p.2.live){x:AV}{v:Value}(I:bu S w P L rho h' x v):bu S' w P L rho (app h' fz) x v:=
 I.de ⟨hS,fun _ _=>rfl,fun id J=>⟨(H.there id).2 ((z.there id).1 J),fun hl=>⟨hl,rfl⟩⟩,fun id e u=>by rw[<-Nw (h:=h') (id:=id) D (Nv u)];exact u⟩
theorem D8{t:Nat->AV}{a:Act}{w:World}(hC:bP A.C){h:Nat->AB}:∀(z:List AV) (vs:List Value) (S:Nat->Prop) (h':Nat->AB) {K:List PV->List (Nat×AB)->Prop},z.length=vs.length->cn A V L S rho ⟨t,h'⟩ a w->su h h' ->
  (∀(i:Nat) c v,z[i]?=some c->vs[i]?=some v->bu S w A.C.P L rho h' c v)->zu h z K ->
  ∃xs fz S',K xs fz/\cn A V L S' rho ⟨t,app h' fz⟩ a w/\(∀(i:Nat) x v,xs[i]?=some x->vs[i]?=some v->aO S' w x v)/\(∀b,S b->S' b)/\su h (app h' fz)/\(∀p∈fz,L p.1)/\xs.length=vs.length:=by
 intro z
 induction z with
 | nil=>
  intro vs S h' K hl I R _ J;have:vs=[]:=Az hl.symm;subst this;exact⟨[],[],S,J,I,by simp,fun _ h=>h,R,by simp,rfl⟩
 | cons c z ih=>
  intro vs S h' K hl I R D J;cases vs with
  | nil=>simp at hl
  | cons v vs=>
   obtain⟨y,fz,S2,J,bH,hp,Y,Z,Hs,U⟩:=D7 (s:=⟨t,h'⟩) hC I R (D 0 c v rfl rfl) J;obtain⟨xs,W,S',k1,k2,k3,k4,k5,k6,k7⟩:=ih vs S2 (app h' fz) (by simpa using hl) bH Z (fun i x u N O=>(D (i+1) x u (by simpa using N) (by simpa using O)).froze Y R Z U) J;refine⟨y::xs,fz++W,S',k1,by rw[cQ];exact k2,fun i x u N O=>?_,fun b hb=>k4 b (Y b hb),by rw[cQ];exact k5,fun p hp=>(fC.1 hp).elim (Hs p) (k6 p),by simp[k7]⟩;cases i with
   | zero=>simp at N O;subst N O;exact hp.mono k4 (fun _ _=>rfl)
   | succ i=>exact k3 i x u (by simpa using N) (by simpa using O)
theorem jA{S:Nat->Prop}{a:Act}{w:World}(hC:bP A.C){h:Nat->AB}(u:cn A V L S rho s a w)(N:su h s.h){x:AV}{v:Value}(O:bu S w A.C.P L rho s.h x v){K:PV->List (Nat×AB)->Prop}(I:iT h x K):
  ∃y fz S',K y fz/\cn A V L S' rho ⟨s.t,app s.h fz⟩ a w/\aO S' w y v/\(∀b,S b->S' b)/\su h (app s.h fz)/\(∀p∈fz,L p.1):=by
 unfold iT at I;split at I
 ·rename_i f J;cases O with
  | fn _ _ vs hl hc=>
   obtain⟨xs,fz,S',R,U,W,Y,Z,k6,k7⟩:=D8 (t:=s.t) hC J vs.toList S s.h (by simpa using hl) u N (fun i c v z D=>hc i c v z (by simpa using D)) I;exact⟨_,fz,S',R,U,.fn f xs vs (by simpa using k7) (fun i c v z D=>W i c v z (by simpa using D)),Y,Z,k6⟩
 obtain⟨y,fz,S',z,D,h3,h4,h5,h6,_⟩:=D7 hC u N O I;exact⟨y,fz,S',z,D,h3,h4,h5,h6⟩
theorem jO{d:Nat}:∀{fz:List (Nat×AB)} {h:Nat->AB},(∀p∈fz,p.1≠d)->app h fz d=h d:=by
 intro fz
 induction fz with
 | nil=>intro h _;rfl
 | cons x fz ih=>
  intro h u;show app (a8 h x.1 x.2) fz d=h d;rw[ih (fun p hp=>u p (by simp[hp])),bg _ _ (fun e=>u x (by simp) e.symm)]
theorem cn.kill{S:Nat->Prop}{a:Act}{w:World}(u:cn A V L S rho s a w)(id:Nat):cn A V L S rho ⟨s.t,a8 s.h id .none⟩ a w:=by
 have T:ng S S w w L L rho rho s.h (a8 s.h id .none):=by
  refine⟨fun b h=>h,fun _ _=>rfl,fun j z=>⟨?_,fun hl=>⟨hl,rfl⟩⟩,fun j e' z=>?_⟩
  ·rcases b6 s.h id .none j with⟨rfl,h⟩ | ⟨_,h⟩
   ·rw[h]at z;exact z.elim
   rw[h]at z;exact z
  rcases b6 s.h id .none j with⟨rfl,h⟩ | ⟨_,h⟩
  ·rw[h]at z;cases z
  rw[h]at z;exact z
 have D:∀j,((a8 s.h id .none) j).live->j≠id/\(s.h j).live:=by
  intro j z;rcases b6 s.h id .none j with⟨rfl,h⟩ | ⟨N,h⟩
  ·rw[h]at z;exact z.elim
  rw[h]at z;exact⟨N,z⟩
 exact
 {tm:=fun j z=>(u.tm j z).de T
  sz:=u.sz,df:=u.df,nb:=u.nb,pn:=u.pn,ev:=u.ev,s0:=u.s0,st:=u.st,sb:=u.sb
  hp:=fun j z=>by
   have R:=u.hp j z;rcases b6 s.h id .none j with⟨rfl,h⟩ | ⟨N,h⟩
   ·show fD _ _ _ _ _ _ _ (a8 s.h j .none j);rw[h];trivial
   show fD _ _ _ _ _ _ _ (a8 s.h id .none j);rw[h];exact R.de T (fun _ _ _=>rfl) (fun _=>rfl)
  dj:=fun i j g hi z I O U J=>u.dj i j g hi z (D i I).2 (D j O).2 (fF (D i I).1 U) (fF (D j O).1 J)
  lv:=fun i g hi I W=>u.lv i g hi (D i I).2 (fF (D i I).1 W)
  fr:=u.fr }
theorem cn.sD{S:Nat->Prop}{a:Act}{w:World}(u:cn A V L S rho s a w)(hC:bP A.C)(d:Nat)(b:AB)(hdb:d<100000)(hL:¬L d)(hb:s.h d=b)(w':World)(ho:w'.os=w.os)(ht:w'.tape=w.tape)(hu:w'.output=w.output)
  (O:w.heap.size<=w'.heap.size) (R:Nat->Prop) (D:∀k,k<w.heap.size->¬R k->w'.heap[k]?=w.heap[k]?) (U:∀k,R k->¬S k/\(∀i,L i->(s.h i).live->¬hasB w (s.h i) (rho i) k)/\(A.mv k\/A.w0.heap.size<=k))
  (hv:Value) (J:∀g,hasB w' b hv g->g<w'.heap.size/\(w.heap.size<=g\/R g))
  (hrep:ng S S w w' L (fun i=>L i\/i=d) rho (a8 rho d hv) s.h s.h->fD S w' A.C.P (fun i=>L i\/i=d) (a8 rho d hv) s.h d b):
  cn A V (fun i=>L i\/i=d) S (a8 rho d hv) s a w':=by
 have mn:∀b,S b->w'.heap[b]?=w.heap[b]?:=fun k hk=>D k (u.st k hk) fun W=>(U k W).1 hk;have cO:∀i,L i->i≠d:=fun i hi e=>hL (e▸hi);have T:ng S S w w' L (fun i=>L i\/i=d) rho (a8 rho d hv) s.h s.h:=
  ⟨fun b h=>h,mn,fun j N=>⟨N,fun hl=>⟨.inl hl,bg _ _ (cO j hl)⟩⟩,fun j e' N=>N⟩
 exact
 {tm:=fun j N=>(u.tm j N).de T
  sz:=u.sz,df:=u.df,nb:=u.nb,pn:=fun id h=>by rw[bg _ _ (by omega)];exact u.pn id h
  ev:=hC.env _ _ _ _ u.ev (fun b h=>h) mn O
  s0:=u.s0
  st:=fun b hb=>cB (u.st b hb) O
  sb:=u.sb
  hp:=fun j N=>by
   by_cases e:j=d
   ·subst e;rw[hb];exact hrep T
   have hl:L j:=N.resolve_right e;refine (u.hp j hl).de T (fun I g Z=>?_) (fun _=>bg _ _ e);exact D g (u.lv j g hl I Z).1 fun W=>(U g W).2.1 j hl I Z
  dj:=fun i j g hi N I lj Y z=>by
   have back:∀i g,L i->(s.h i).live->hasB w' (s.h i) (rho i) g->hasB w (s.h i) (rho i) g:=fun i g hl I h=>dJ (fun k hk=>D k (u.qd i k hl I hk).1 fun W=>(U k W).2.1 i hl I (.inl hk)) h;by_cases e1:i=d
   ·by_cases e2:j=d
    ·rw[e1,e2]
    have hl:L j:=N.resolve_right e2;rw[bg _ _ e2]at z;have z:=back j g hl lj z;rw[e1,aF,hb]at Y;rcases (J g Y).2 with h | h
    ·exact absurd (u.lv j g hl lj z).1 (by omega)
    exact absurd z ((U g h).2.1 j hl lj)
   have hl:L i:=hi.resolve_right e1;rw[bg _ _ e1]at Y;have Y:=back i g hl I Y;by_cases e2:j=d
   ·rw[e2,aF,hb]at z;rcases (J g z).2 with h | h
    ·exact absurd (u.lv i g hl I Y).1 (by omega)
    exact absurd Y ((U g h).2.1 i hl I)
   have Hd:L j:=N.resolve_right e2;rw[bg _ _ e2]at z;exact u.dj i j g hl Hd I lj Y (back j g Hd lj z)
  lv:=fun i g hi I Z=>by
   by_cases e:i=d
   ·rw[e,aF,hb]at Z;obtain⟨h1,h2⟩:=J g Z;refine⟨h1,?_⟩;rcases h2 with h | h
    ·exact⟨fun hs=>absurd (u.st g hs) (by omega),.inr (aS u.fr.size h)⟩
    exact⟨(U g h).1,(U g h).2.2⟩
   have hl:L i:=hi.resolve_right e;rw[bg _ _ e]at Z;obtain⟨h1,h2,h3⟩:=u.lv i g hl I (dJ (fun k hk=>D k (u.qd i k hl I hk).1 fun W=>(U k W).2.1 i hl I (.inl hk)) Z);exact⟨cB h1 O,h2,h3⟩
  fr:=u.fr.next ho ht hu O fun k hk hn=>D k (cB hk u.fr.size) fun W=>by
   rcases (U k W).2.2 with h | h
   ·exact hn h
   omega }
theorem cn.new{S:Nat->Prop}{a:Act}{w:World}(J:cn A V L S rho s a w)(hC:bP A.C)(d:Nat)(b:AB)(N:d<100000)(W:¬L d)(hb:s.h d=b)(w':World)(Y:w'.os=w.os)(Z:w'.tape=w.tape)(hu:w'.output=w.output)
  (O:w.heap.size<=w'.heap.size) (R:Nat->Prop) (u:∀k,k<w.heap.size->¬R k->w'.heap[k]?=w.heap[k]?) (hR:∀k,R k->¬S k/\(∀i,L i->(s.h i).live->¬hasB w (s.h i) (rho i) k)/\(A.mv k\/A.w0.heap.size<=k))
  (z:Value) (D:∀g,cF z=some g->g<w'.heap.size/\(w.heap.size<=g\/R g))
  (I:ng S S w w' L (fun i=>L i\/i=d) rho (a8 rho d z) s.h s.h->fD S w' A.C.P (fun i=>L i\/i=d) (a8 rho d z) s.h d b)
  (U:VZ b=true:=by rfl):
  cn A V (fun i=>L i\/i=d) S (a8 rho d z) s a w':=
 J.sD hC d b N W hb w' Y Z hu O R u hR z (fun g h=>D g (aI U h)) I
theorem cn.YE{S:Nat->Prop}{a:Act}{w:World}(u:cn A V L S rho s a w)(hC:bP A.C)(w':World)(z:Fr (fun _=>False) w w')(S':Nat->Prop)(J:∀b,S b->S' b)(Y:∀b,S' b->b<w'.heap.size)(R:∀b,S' b->S b\/w.heap.size<=b):cn A V L S' rho s a w':=by
 have U:∀b,S b->w'.heap[b]?=w.heap[b]?:=fun k hk=>z.block k (u.st k hk) (fun h=>h);have T:ng S S' w w' L L rho rho s.h s.h:=⟨J,U,fun j D=>⟨D,fun hl=>⟨hl,rfl⟩⟩,fun j e' D=>D⟩;exact
 {tm:=fun j D=>(u.tm j D).de T
  sz:=u.sz,df:=u.df,nb:=u.nb,pn:=u.pn
  ev:=hC.env _ _ _ _ u.ev J U z.size
  s0:=fun b hb=>J b (u.s0 b hb)
  st:=Y
  sb:=fun b hb=>by
   rcases R b hb with h | h
   ·exact u.sb b h
   exact .inr (.inr (aS u.fr.size h))
  hp:=fun j D=>(u.hp j D).de T (fun I g N=>z.block g (u.lv j g D I N).1 (fun h=>h)) (fun _=>rfl)
  dj:=fun i j g hi D I W Z O=>u.dj i j g hi D I W (dJ (fun k hk=>z.block k (u.qd i k hi I hk).1 (fun h=>h)) Z) (dJ (fun k hk=>z.block k (u.qd j k D W hk).1 (fun h=>h)) O)
  lv:=fun i g hi I N=>by
   obtain⟨a1,a2,a3⟩:=u.lv i g hi I (dJ (fun k hk=>z.block k (u.qd i k hi I hk).1 (fun h=>h)) N);refine⟨cB a1 z.size,fun h=>?_,a3⟩;rcases R g h with h | h
   ·exact a2 h
   omega
  fr:=u.fr.next z.os z.tape z.output z.size fun k hk _=>z.block k (cB hk u.fr.size) (fun h=>h) }
theorem cn.Wb{S:Nat->Prop}{a:Act}{w:World}(u:cn A V L S rho s a w)(d:Nat)(es:List (List PV))(hdb:d<100000)(U:¬L d)(hb:s.h d=.lz es)(O:Value)
  (I:aO S w (.sl es) O):cn A V (fun i=>L i\/i=d) S (a8 rho d O) s a w:=by
 have W:∀i,L i->i≠d:=fun i hi e=>U (e▸hi);have T:ng S S w w L (fun i=>L i\/i=d) rho (a8 rho d O) s.h s.h:=
  ⟨fun b h=>h,fun _ _=>rfl,fun j z=>⟨z,fun hl=>⟨.inl hl,bg _ _ (W j hl)⟩⟩,fun j e' z=>z⟩
 have out:∀i,(L i\/i=d)->(s.h i).live->L i/\i≠d:=fun i hi D=>by
  by_cases e:i=d
  ·rw[e,hb]at D;exact D.elim
  exact⟨hi.resolve_right e,e⟩
 exact
 {tm:=fun j z=>(u.tm j z).de T
  sz:=u.sz,df:=u.df,nb:=u.nb,pn:=fun id h=>by rw[bg _ _ (by omega)];exact u.pn id h
  ev:=u.ev
  s0:=u.s0
  st:=u.st
  sb:=u.sb
  hp:=fun j z=>by
   by_cases e:j=d
   ·subst e;rw[hb];show aO S w (.sl es) (a8 rho j O j);rw[aF];exact I
   have hl:L j:=z.resolve_right e;exact (u.hp j hl).de T (fun D g hg=>rfl) (fun _=>bg _ _ e)
  dj:=fun i j g hi z D R J N=>by
   obtain⟨l1,e1⟩:=out i hi D;obtain⟨l2,e2⟩:=out j z R;rw[bg _ _ e1]at J;rw[bg _ _ e2]at N;exact u.dj i j g l1 l2 D R J N
  lv:=fun i g hi D J=>by
   obtain⟨l1,e1⟩:=out i hi D;rw[bg _ _ e1]at J;exact u.lv i g l1 D J
  fr:=u.fr }
theorem cn.Fh{S:Nat->Prop}{a:Act}{w:World}(u:cn A V L S rho s a w)(hC:bP A.C)(id:Nat)(U:L id)(N:(s.h id).live)(D:AB)(Z:∀e,D.qK=some e->(s.h id).qK=some e)
  (w':World) (ho:w'.os=w.os) (ht:w'.tape=w.tape) (hu:w'.output=w.output) (J:w'.heap.size=w.heap.size) (I:∀k,cF (rho id)≠some k->w'.heap[k]?=w.heap[k]?)
  (R:ng S S w w' L L rho rho s.h (a8 s.h id D)->fD S w' A.C.P L rho (a8 s.h id D) id D) (hown:∀g,hasB w' D (rho id) g->hasB w (s.h id) (rho id) g):cn A V L S rho ⟨s.t,a8 s.h id D⟩ a w':=by
 have mn:∀b,S b->w'.heap[b]?=w.heap[b]?:=fun k hk=>I k fun e=>(u.qd id k U N e).2.1 hk;have Wc:(s.h id).there:=by cases hh:s.h id<;>rw[hh]at N<;>first | trivial | exact N.elim
 have T:ng S S w w' L L rho rho s.h (a8 s.h id D):=by
  refine⟨fun b h=>h,mn,fun j z=>⟨?_,fun hl=>⟨hl,rfl⟩⟩,fun j e' z=>?_⟩
  ·rcases b6 s.h id D j with⟨rfl,h⟩ | ⟨_,h⟩
   ·exact Wc
   rw[h]at z;exact z
  rcases b6 s.h id D j with⟨rfl,h⟩ | ⟨_,h⟩
  ·rw[h]at z;exact Z e' z
  rw[h]at z;exact z
 have fT:∀j,((a8 s.h id D) j).live->(s.h j).live:=by
  intro j z;rcases b6 s.h id D j with⟨rfl,h⟩ | ⟨W,h⟩
  ·exact N
  rw[h]at z;exact z
 have back:∀j g,L j->((a8 s.h id D) j).live->hasB w' (a8 s.h id D j) (rho j) g->hasB w (s.h j) (rho j) g:=by
  intro j g hl z Y;rcases b6 s.h id D j with⟨rfl,h⟩ | ⟨W,h⟩
  ·rw[h]at Y;exact hown g Y
  rw[h]at Y z;exact dJ (fun k hk=>I k fun e=>W (u.Yw j id k hl U z N hk e)) Y
 exact
 {tm:=fun j z=>(u.tm j z).de T
  sz:=u.sz,df:=u.df,nb:=u.nb,pn:=u.pn
  ev:=hC.env _ _ _ _ u.ev (fun b h=>h) mn (b_ J.symm)
  s0:=u.s0
  st:=fun b hb=>by rw[J];exact u.st b hb
  sb:=u.sb
  hp:=fun j z=>by
   rcases b6 s.h id D j with⟨rfl,h⟩ | ⟨W,h⟩
   ·show fD _ _ _ _ _ _ _ (a8 s.h j D j);rw[h];exact R T
   show fD _ _ _ _ _ _ _ (a8 s.h id D j);rw[h];refine (u.hp j z).de T (fun O g hg=>I g fun e=>?_) (fun _=>rfl);exact W (u.dj j id g z U O N hg (.inl e))
  dj:=fun i j g hi z O lj fU hgj=>u.dj i j g hi z (fT i O) (fT j lj) (back i g hi O fU) (back j g z lj hgj)
  lv:=fun i g hi O hg=>by rw[J];exact u.lv i g hi (fT i O) (back i g hi O hg)
  fr:=u.fr.next ho ht hu (b_ J.symm) fun k hk hn=>I k fun e=>by
   rcases (u.qd id k U N e).2.2 with h | h
   ·exact hn h
   omega }
theorem cn.write{S:Nat->Prop}{a:Act}{w:World}(I:cn A V L S rho s a w)(hC:bP A.C)(id:Nat)(R:L id)(U:(s.h id).live)(u:AB)(J:∀e,u.qK=some e->(s.h id).qK=some e)
  (w':World) (W:w'.os=w.os) (Y:w'.tape=w.tape) (Z:w'.output=w.output) (N:w'.heap.size=w.heap.size) (z:∀k,cF (rho id)≠some k->w'.heap[k]?=w.heap[k]?)
  (D:ng S S w w' L L rho rho s.h (a8 s.h id u)->fD S w' A.C.P L rho (a8 s.h id u) id u) (O:VZ u=true:=by rfl):cn A V L S rho ⟨s.t,a8 s.h id u⟩ a w':=
 I.Fh hC id R U u J w' W Y Z N z D fun _ h=>.inl (aI O h)
theorem cn.sa{S:Nat->Prop}{a:Act}{w:World}(u:cn A V L S rho s a w){dst:Option Tmp}(z:∀d,dst=some d->d<A.n):dst.getD 0<100000:=by
 cases dst with
 | none=>exact Nat.zero_lt_succ _
 | some d=>exact cB (z d rfl) u.nb
theorem tD{S:Nat->Prop}{a:Act}{w:World}(I:cn A V L S rho s a w){x:AV}{v:Value}(h:yu s.h x=true)(z:bu S w A.C.P L rho s.h x v):v.oneCell'=true:=by
 unfold yu at h;split at h
 ·rw[z.bZ];exact h
 ·cases h
 ·rename_i y W Y;have Z:=z.eY;cases Z with
  | im=>exact absurd rfl (W _)
  | ag cs vs=>exact absurd rfl (Y cs)
  | nil=>rfl
  | sl=>rfl
  | ip=>rfl
  | fn=>rfl
  | mp=>rfl
 ·cases z;rfl
 ·rename_i id;split at h
  ·rename_i e es aw;obtain⟨N,u⟩:=z.cZ (by rw[aw];trivial);have D:=I.hp id N;rw[aw]at D;obtain⟨i,xs,_,_,O,_⟩:=D;rw[u];rcases O.2 with⟨J,_⟩ | ⟨g,R,U,J,_⟩<;>rw[J]<;>rfl
  ·rename_i e es aw;obtain⟨N,u⟩:=z.cZ (by rw[aw];trivial);have D:=I.hp id N;rw[aw]at D;obtain⟨⟨i,xs,_,_,O,_⟩,_⟩:=D;rw[u];rcases O.2 with⟨J,_⟩ | ⟨g,R,U,J,_⟩<;>rw[J]<;>rfl
  ·rename_i es aw;obtain⟨N,u⟩:=z.cZ (by rw[aw];trivial);have D:=I.hp id N;rw[aw]at D;obtain⟨ad,c,J,_⟩:=aO.qP D;rw[u,J];rfl
  cases h
 ·rename_i id off;split at h
  ·cases h
  rename_i cO;have ht:(s.h id).there:=by
   cases D:s.h id<;>first | trivial | exact absurd D (by simpa using cO)
  obtain⟨_,g,_,u⟩:=z.hY ht;rw[u];rfl
 ·rename_i id i off;split at h
  ·rename_i e es aw;obtain⟨_,g,n,c,tj,_,_,u⟩:=z.Bu aw;rw[u];rfl
  ·rename_i e es aw;obtain⟨_,g,n,c,tj,_,_,u⟩:=z.we aw;rw[u];rfl
  cases h
 ·cases z;rfl
 cases h
theorem cells_one{v:Value}(h:v.oneCell'=true):v.cells=#[v]:=by cases v<;>first | rfl | cases h
theorem zA{S:Nat->Prop}{w:World}{x:PV}{ys:List PV}{v:Value}(h:vn x=some ys)(D:aO S w x v):v.cells.size=ys.length/\(∀u∈v.cells.toList,u.oneCell'=true)/\∀(j:Nat) y u,ys[j]?=some y->v.cells[j]?=some u->aO S w y u:=by
 have one:∀{v:Value},v.oneCell'=true->aO S w x v->ys=[x]->v.cells.size=ys.length/\(∀u∈v.cells.toList,u.oneCell'=true)/\∀(j:Nat) y u,ys[j]?=some y->v.cells[j]?=some u->aO S w y u:=by
  intro v z D O;subst O;rw[cells_one z];refine⟨rfl,by simpa using z,fun j y u I N=>?_⟩;cases j with
  | zero=>simp at I N;subst I N;exact D
  | succ j=>simp at I
 unfold vn at h;split at h
 ·injection h with h;subst h;obtain⟨vs,rfl,z,J,R⟩:=D.n_;exact⟨z.symm,J,R⟩
 ·split at h
  ·rename_i z;injection h with h;exact one (by rw[D.bZ];exact z) D h.symm
  cases h
 rename_i z J;injection h with h;refine one ?_ D h.symm;cases D with
 | im=>exact absurd rfl (J _)
 | ag cs=>exact absurd rfl (z cs)
 | nil=>rfl
 | sl=>rfl
 | ip=>rfl
 | fn=>rfl
 | mp=>rfl
theorem Wd{o:Oper}(e:TypeId)(x:Operand)(aL:o.op=.box e x):jV A o:=by
 intro V L S rho s a w K next Q hC O hV hd N hn R
 simp only[cc,aL]at N;have W:=bF O x fun j D=>hV j (by simp[aL,Op.operands,D]);have hr:(execOp a.eval o).run A.C.P w=.ok (.value (.pointer (some ⟨w.heap.size,0,none⟩))) (w.alloc (.cells (a.eval x).cells e)):=by
  simp[execOp,aL,Instr.box,newVar,newRow,newObj,Sem.run]
 have J:∀cs:List AV,K (.bx (o.dst.getD 0) 0) [] (some (.box cs))->(a.eval x).cells.size=cs.length->(∀(j:Nat) y u,cs[j]?=some y->(a.eval x).cells[j]?=some u->u.oneCell'=true/\bu S w A.C.P L rho s.h y u)->o.wp A.C.P a w next Q:=by
  intro cs N hl hc;obtain⟨hL,hb⟩:=hn _ _ _ N;have cv:=O.new hC (o.dst.getD 0) (.box cs) (O.sa hd) hL hb (w.alloc (.cells (a.eval x).cells e)) rfl rfl rfl (by simp) (fun _=>False) (fun k hk _=>oY _ _ _ hk) (fun _ h=>h.elim) (.pointer (some ⟨w.heap.size,0,none⟩))
   (fun g hg=>by simp[cF]at hg;subst hg;simp) (fun T=>⟨w.heap.size,e,(a.eval x).cells,aF _ _ _,heap_alloc_new w _,hl,fun j y u D I=>⟨(hc j y u D I).1,(hc j y u D I).2.de T⟩⟩)
  refine eB hr (R _ _ _ _ _ _ _ N (cv.value o.dst hd _ _ (.bx _ _ _ fun _=>⟨.inr rfl,w.heap.size,aF _ _ _,rfl⟩)))
 split at N
 ·rename_i cs nP;rw[nP]at W;obtain⟨vs,Y,Z,U,h3⟩:=W.eY.n_;refine J _ N (by rw[Y];simp[Value.cells,Z]) fun j y u D I=>?_;rw[Y]at I;rw[aD]at D;obtain⟨z,hz,rfl⟩:=qI.1 D;have sB:vs[j]?=some u:=I;exact⟨U u (by simpa using fB sB),.p _ _ (h3 j z u hz sB)⟩
 ·rename_i xs nP;rw[nP]at W;obtain⟨vs,Y,Z,U,h3⟩:=W.V4;refine J _ N (by rw[Y];simp[Value.cells,Z]) fun j y u D I=>?_;rw[Y]at I;have sB:vs[j]?=some u:=I;exact⟨U u (by simpa using fB sB),h3 j y u D sB⟩
 split at N
 ·rename_i Z;have U:=tD O Z W;refine J _ N (by rw[cells_one U];rfl) fun j y u D I=>?_;rw[cells_one U]at I;cases j with
  | zero=>simp at D I;subst D I;exact⟨U,W⟩
  | succ j=>simp at D
 exact N.elim
theorem PS{o:Oper}(e:TypeId)(aL:o.op=.alloc e):jV A o:=by
 intro V L S rho s a w K next Q hC J hV Z O hn I
 simp only[cc,aL]at O;split at O
 ·rename_i ti hT;obtain⟨info,z,hi,h1,h2,hz,D,kE⟩:=(hC.jw e ti hT).info;have hr:(execOp a.eval o).run A.C.P w=.ok (.value (.pointer (some ⟨w.heap.size,0,none⟩))) (w.alloc (.cells z.cells e)):=by
   simp[execOp,aL,Instr.alloc,zeroValue,typeInfo,hi,hz,newVar,newRow,newObj,Sem.run]
  split at O
  ·obtain⟨hL,hb⟩:=hn _ _ _ O;have cv:=J.new hC (o.dst.getD 0) _ (J.sa Z) hL hb (w.alloc (.cells z.cells e)) rfl rfl rfl (by simp) (fun _=>False) (fun k hk _=>oY _ _ _ hk) (fun _ h=>h.elim) (.pointer (some ⟨w.heap.size,0,none⟩))
    (fun g R=>by simp[cF]at R;subst R;simp) (fun T=>⟨w.heap.size,e,z.cells,aF _ _ _,heap_alloc_new w _,by rw[D];simp,fun j y u U W=>by
     rw[D]at W;rw[aD]at U;obtain⟨v,Y,rfl⟩:=qI.1 U;have N:ti.zero[j]?=some u:=by simpa using W
     rw[Y]at N;injection N with N;subst N;exact⟨kE v (aj Y),Bp _ _ _ _ _ _ v⟩⟩)
   refine eB hr (I _ _ _ _ _ _ _ O (cv.value o.dst Z _ _ (.bx _ _ _ fun _=>⟨.inr rfl,w.heap.size,aF _ _ _,rfl⟩)))
  obtain⟨hL,hb⟩:=hn _ _ _ O;have cv:=J.new hC (o.dst.getD 0) _ (J.sa Z) hL hb (w.alloc (.cells z.cells e)) rfl rfl rfl (by simp) (fun _=>False) (fun k hk _=>oY _ _ _ hk) (fun _ h=>h.elim) (.pointer (some ⟨w.heap.size,0,none⟩))
   (fun g R=>by simp[cF]at R;subst R;simp) (fun T=>⟨w.heap.size,z.cells,aF _ _ _,heap_alloc_new w _,by rw[D];simp,fun j y u U W=>by
    rw[D]at W;rw[aD]at U;obtain⟨v,Y,rfl⟩:=qI.1 U;have N:ti.zero[j]?=some u:=by simpa using W
    rw[Y]at N;injection N with N;subst N;exact⟨kE v (aj Y),Bp _ _ _ _ _ _ v⟩⟩)
  refine eB hr (I _ _ _ _ _ _ _ O (cv.value o.dst Z _ _ (.bx _ _ _ fun _=>⟨.inr rfl,w.heap.size,aF _ _ _,rfl⟩)))
 exact O.elim
end Go.AM
namespace Go.AM
open Go.RowKit
theorem oa{id:Nat}:∀{fz:List (Nat×AB)} {h:Nat->AB},vo id fz=true->app h fz id=h id:=by
 intro fz
 induction fz with
 | nil=>intro h _;rfl
 | cons x fz ih=>
  intro h u;unfold vo at u;split at u
  ·cases u
  rename_i z;show app (a8 h x.1 x.2) fz id=h id;rw[ih u,bg _ _ (fun e=>by rw[e]at z;simp at z)]
variable {α:Type}
theorem dh:∀(ys:List α) (cs:List α) (off:Nat),(setCells cs off ys).length=cs.length:=by
 intro ys
 induction ys with
 | nil=>intro cs off;rfl
 | cons y ys ih=>intro cs off;simp[setCells,ih]
theorem eJ:∀(ys:List α) (cs:List α) (off j:Nat),off+ys.length<=cs.length->(setCells cs off ys)[j]?=if off<=j/\j<off+ys.length then ys[j-off]? else cs[j]?:=by
 intro ys
 induction ys with
 | nil=>intro cs off j _;simp only[setCells,kv];rw[aa (by omega)]
 | cons y ys ih=>
  intro cs off j hl;simp only[bN]at hl ⊢;simp only[setCells];rw[ih _ _ _ (by simp;omega)];by_cases z:j=off
  ·subst z;rw[aa (by omega),ae (by omega),jL,dZ (by omega)];rfl
  by_cases u:off+1<=j/\j<off+1+ys.length
  ·rw[ae u,ae (by omega),show j-off=(j-(off+1))+1 by omega,vX]
  rw[aa u,aa (by omega),gC (by omega)]
theorem qQ(cs ys:List α)(off j:Nat)(hl:off+ys.length<=cs.length):(cs.take off++ys++cs.drop (off+ys.length))[j]?=if off<=j/\j<off+ys.length then ys[j-off]? else cs[j]?:=by
 have u:(cs.take off).length=off:=by simp;omega
 by_cases z:j<off
 ·rw[aa (by omega),d_,dN (by omega),oZ z]
 by_cases h2:j<off+ys.length
 ·rw[ae (by omega),d_,du (by omega),u,dN (by omega)]
 rw[aa (by omega),d_,du (by omega),u,du (by omega),aW];congr 1;omega
theorem Tm(cs:List α)(off j:Nat)(y:α)(hl:off<cs.length):(cs.set off y)[j]?=if off<=j/\j<off+1 then [y][j-off]? else cs[j]?:=eJ [y] cs off j hl
theorem aby{P:Program}{w:World}{t:TypeId}{ti:TI}(h:qc P t ti)(g off:Nat)(I:TypeId)(z:Array Value)(v:Value)(J:w.heap[g]?=some (.cells z I (0,0)))(D:v.cells.size=ti.size)(hl:off+ti.size<=z.size)(N:∀u∈v.cells.toList,u.oneCell'=true):
  (Instr.storeAt t (.pointer (some ⟨g,off,none⟩)) v).run P w=.ok () (w.setRow g (z.toList.take off++v.cells.toList++z.toList.drop (off+v.cells.toList.length)).toArray):=by
 have:=run_storeCells_at P g off I v.cells.toList 0 z w J (by simp[D];omega) N;simp only[tz]at this;simp[Instr.storeAt,Instr.sureAddr,storeVar,h.sizeOf,D];simpa [D] using this
theorem qR{P:Program}{a:Act}{o:Oper}{w w':World}{t:TypeId}{x y:Operand}(u:o.op=.store t x y)(h:(Instr.storeAt t (a.eval x) (a.eval y)).run P w=.ok () w'):(execOp a.eval o).run P w=.ok .skip w':=by
 simp only[execOp,u,aV,h,lR,dt]
variable {e:TypeId} {tj:TypeInfo}
theorem aH.stored{P:Program}{w:World}{R R':α->Value->Prop}{es:List (List α)}{g n c:Nat}(h:aH P w R e es (.slice (some ⟨g,0,none⟩) n c))(D5:P.info? e=some tj){D:Array Value}(hg:w.heap[g]?=some (.cells D e (0,0)))
  {i off:Nat} {r:List α} (hr:es[i]?=some r) {ys:List α} {us:List Value} (hle:off+ys.length<=r.length) (hlen:us.length=ys.length) (kE:∀u∈us,u.oneCell'=true) (hR:∀x u,R x u->R' x u) (I:∀(j:Nat) z u,ys[j]?=some z->us[j]?=some u->R' z u):
  aH P (w.setRow g (D.toList.take (i*tj.size+off)++us++D.toList.drop (i*tj.size+off+us.length)).toArray) R' e (es.set i (setCells r off ys)) (.slice (some ⟨g,0,none⟩) n c):=by
 obtain⟨ie,xs,k1,k2,k3,k4,k5,k6⟩:=h;rw[D5]at k1;injection k1 with k1;subst k1;rcases k3.2 with⟨J,_⟩ | ⟨g',cap,We,J,_,W,k9,k10,Wf,YF⟩
 ·cases J
 injection J with J kn kc;injection J with J;injection J with J;subst J kn kc;rw[hg]at W;injection W with W;injection W with W;subst W;have hi:=aC hr;have Ah:=k4 r (aj hr);have YG:i*tj.size+tj.size<=es.length*tj.size:=by rw[<-dO];exact cq _ hi
 have YH:es.length*tj.size<=D.size:=by rw[Wf];exact cq _ k9
 have Wg:xs.length=es.length*tj.size:=k3.1;have Bv:=fun j=>qQ D.toList us (i*tj.size+off) j (by simp;omega);have Tn:=fun j=>eJ us xs (i*tj.size+off) j (by omega);refine⟨tj,setCells xs (i*tj.size+off) us,D5,k2,⟨by rw[dh,Wg,aQ],.inr ⟨g,c,_,by rw[aQ],ak _,setRow_heap w g D _ e (0,0) hg,by rw[aQ];exact k9,k10,?_,?_⟩⟩,?_,?_,?_⟩
 ·simp only[lS,bJ,cE,lU,aaK];rw[Wf]at *;omega
 ·apply kz;intro j;rw[dM];simp only[aQ];split
  ·rename_i N;rw[Bv,Tn];split
   ·rfl
   rw[<-YF,oZ N]
  rename_i N;rw[iR];rw[dh,Wg];omega
 ·intro q hqm;rcases m_ hqm with h | h
  ·exact k4 q h
  rw[h,dh];exact Ah
 ·intro u Y;obtain⟨j,N⟩:=ca.1 Y;rw[Tn]at N;split at N
  ·exact kE u (aj N)
  exact k5 u (aj N)
 intro Z q j z O U;have hql:q.length=tj.size:=by
  rcases m_ (aj O) with h | h
  ·exact k4 q h
  rw[h,dh];exact Ah
 have yp:=aC U;rw[Tn];by_cases PT:Z=i
 ·subst PT;rw[dZ hi]at O;injection O with O;subst O;rw[eJ _ _ _ _ (by omega)]at U;split at U
  ·rename_i nQ;rw[ae (by omega),show Z*tj.size+j-(Z*tj.size+off)=j-off by omega];have hjo:=aC U;exact⟨us[j-off]'(by omega),oX _,I _ z _ U (oX _)⟩
  rename_i nQ;rw[aa (by omega)];obtain⟨u,Y,oP⟩:=k6 _ _ _ _ hr U;exact⟨u,Y,hR _ _ oP⟩
 rw[gC (fun e=>PT e.symm)]at O;have cO:¬(i*tj.size+off<=Z*tj.size+j/\Z*tj.size+j<i*tj.size+off+us.length):=by
  rintro⟨h1,h2⟩;rcases AA PT with h | h
  ·have:=cq tj.size (jM h);rw[dO]at this;omega
  have:=cq tj.size (jM h);rw[dO]at this;omega
 rw[aa cO];obtain⟨u,Y,oP⟩:=k6 _ _ _ _ O U;exact⟨u,Y,hR _ _ oP⟩
theorem aH.block{P:Program}{w:World}{R:α->Value->Prop}{es:List (List α)}{g n c:Nat}(h:aH P w R e es (.slice (some ⟨g,0,none⟩) n c))(I:P.info? e=some tj):∃z:Array Value,w.heap[g]?=some (.cells z e (0,0))/\es.length*tj.size<=z.size/\(∀r∈es,r.length=tj.size)/\0<tj.size:=by
 obtain⟨ie,xs,D,J,N,O,k5,k6⟩:=h;rw[I]at D;injection D with D;subst D;rcases N.2 with⟨u,_⟩ | ⟨g',cap,U,u,_,W,Y,k10,Z,YF⟩
 ·cases u
 injection u with u kn kc;injection u with u;injection u with u;subst u;exact⟨U,W,by rw[Z];exact cq _ Y,O,J⟩
theorem jY{g o n c:Nat}{p:Option Nat}{k:Nat}:cF (.slice (some ⟨g,o,p⟩) n c)=some k↔k=g:=by
 simp only[cF,Option.some.injEq];exact⟨fun h=>h.symm,fun h=>h.symm⟩
theorem yt.PU{P:Program}{w:World}{R:HX->Value->Prop}{es:List (List HX)}{v:Value}(hS:yt w es v)(h:aH P w R e es v):
  aH P w (fun x u=>R x u/\∀e' I,x=.row e' I->∀g b,cF v=some g->cF u=some b->b≠g) e es v:=by
 obtain⟨i,xs,Y,Z,J,N,h5,h6⟩:=h;refine⟨i,xs,Y,Z,J,N,h5,fun a r j x D O=>?_⟩;obtain⟨u,z,hr⟩:=h6 a r j x D O;refine⟨u,z,hr,fun e' I hx g b U hb=>?_⟩;subst hx;have Ah:=N r (aj D);rcases J.2 with⟨hn,hz⟩ | ⟨g',cap,cur,W,_,Hc,k1,k2,k3,k4⟩
 ·have:=(az.1 D).1;omega
 rw[W]at U;obtain rfl:=jY.1 U;refine hS.top g a j u b (by rw[W];rfl) ⟨r,e',I,_,_,_,D,O,Hc,?_⟩ hb;rw[Ah];rw[<-k4,dM]at z;split at z
 ·simpa using z
 cases z
theorem cn.To{A:rZ}{V L S:Nat->Prop}{rho:Nat->Value}{s:AS}{a:Act}{w:World}(U:cn A V L S rho s a w)(hC:bP A.C){id:Nat}(hL:L id){es:List (List HX)}(aw:s.h id=.aw e es){g n c:Nat}(Z:rho id=.slice (some ⟨g,0,none⟩) n c)(D5:A.C.P.info? e=some tj)
  {i off:Nat} {r:List HX} (hr:es[i]?=some r) (hle:off+1<=r.length) {x:AV} {u:Value} (kE:u.oneCell'=true) (hx:bu S w A.C.P L rho s.h x u):
  ∃D:Array Value,w.heap[g]?=some (.cells D e (0,0))/\i*tj.size+off+1<=D.size/\cn A V L S rho ⟨s.t,a8 s.h id (.aw e (es.set i (r.set off (.av x))))⟩ a (w.setRow g (D.toList.take (i*tj.size+off)++[u]++D.toList.drop (i*tj.size+off+1)).toArray):=by
 have hh:=U.hp id hL;rw[aw]at hh;obtain⟨hR,hS⟩:=hh;rw[Z]at hR hS;obtain⟨D,W,hsz,hlen,hpos⟩:=hR.block D5;have hi:=aC hr;have Ah:=hlen r (aj hr);have YG:i*tj.size+tj.size<=es.length*tj.size:=by rw[<-dO];exact cq _ hi
 have gU:∀k j v,dT (w.setRow g (D.toList.take (i*tj.size+off)++[u]++D.toList.drop (i*tj.size+off+1)).toArray) (es.set i (r.set off (.av x))) g k j v->dT w es g k j v:=by
  rintro k j v ⟨q,e',uV,c',ty',m',J,I,N,O⟩;rw[setRow_heap w g D _ e (0,0) W]at N;injection N with N;injection N with N h3' aeE;have yp:=aC I;have Y:q.length=tj.size:=by
   rcases m_ (aj J) with h | h
   ·exact hlen q h
   rw[h,aQ];exact Ah
  have key:∀p,p≠i*tj.size+off->c'[p]?=some v->D[p]?=some v:=fun p hp h=>by
   rw[<-N]at h;have h:(D.toList.take (i*tj.size+off)++[u]++D.toList.drop (i*tj.size+off+1))[p]?=some v:=by simpa using h
   have I:=qQ D.toList [u] (i*tj.size+off) p (by simp;omega);simp only[ij]at I;rw[I,aa (by omega)]at h;simpa using h
  by_cases R:k=i
  ·subst R;rw[dZ hi]at J;injection J with J;subst J;have hjo:j≠off:=fun e0=>by
    subst e0;rw[dZ (by omega)]at I;injection I with I;cases I
   rw[gC (fun e=>hjo e.symm)]at I;refine⟨r,e',uV,D,_,_,hr,I,W,?_⟩;rw[Y]at O;rw[Ah];exact key _ (by omega) O
  rw[gC (fun e=>R e.symm)]at J;refine⟨q,e',uV,D,_,_,J,I,W,?_⟩;refine key _ ?_ O;rw[Y];intro he;rcases AA R with h | h
  ·have:=cq tj.size (jM h);rw[dO]at this;omega
  have:=cq tj.size (jM h);rw[dO]at this;omega
 refine⟨D,W,by omega,?_⟩;refine U.Fh hC id hL (by rw[aw];trivial) _ (fun e' h=>by rw[aw];exact h) _ (setRow_os w g _) (setRow_tape w g _) (setRow_output w g _) (setRow_size w g _) (fun k hk=>setRow_other w g k _ fun e=>hk (by rw[Z,e];rfl)) (fun T=>?_) (fun k hk=>?_)
 ·show aH _ _ _ _ _ (rho id)/\yt _ _ (rho id);rw[Z];refine⟨(hS.PU hR).stored D5 W (ys:=[.av x]) (us:=[u]) hr hle rfl (by simpa using kE) (fun y v hy=>?_) (fun j z v hz hv=>?_),?_⟩
  ·cases y with
   | av y=>exact bu.de T hy.1
   | row e' uV=>exact aH.de hy.1 (fun k hk=>setRow_other w g k _ (hy.2 _ _ rfl g k rfl hk)) (fun x u hu=>hu.mono T.hS T.keep)
  ·cases j with
   | zero=>simp at hz hv;subst hz hv;exact bu.de T hx
   | succ j=>simp at hz
  exact⟨fun g' k j v b J I N=>by
   obtain rfl:=jY.1 J;exact hS.top _ k j v b J (gU k j v I) N,fun g' k j k' j' v v' b J I N O h5=>by
   obtain rfl:=jY.1 J;exact hS.dis _ k j k' j' v v' b J (gU k j v I) (gU k' j' v' N) O h5⟩
 rw[aw];rcases hk with hk | ⟨cs,g',h,_⟩ | ⟨e',dv,g',k',j,v,J,I,N,O⟩
 ·exact .inl hk
 ·cases h
 injection J with J wc;subst J wc;have zC:=I;rw[Z]at zC;obtain rfl:=jY.1 zC;exact .inr (.inr ⟨_,_,_,_,_,_,rfl,I,gU _ _ _ N,O⟩)
theorem PX{A:rZ}{o:Oper}(t:TypeId)(x y:Operand)(aL:o.op=.store t x y):jV A o:=by
 intro V L S rho s a w K next Q hC U hV hd D hn N
 simp only[cc,aL]at D;have hx:=bF U x fun j J=>hV j (by simp[aL,Op.operands,J]);have hy:=bF U y fun j J=>hV j (by simp[aL,Op.operands,J]);split at D
 ·exact D.elim
 rename_i ti hT;have gj:=hC.jw t ti hT;split at D
 ·rename_i id off Wh;rw[Wh]at hx;split at D
  ·rename_i cs aU;obtain⟨hL,g,hg,hv⟩:=hx.hY (by rw[aU];trivial);have main:∀(Z:Nat->Prop) (s2:AS) (oM:List AV) (ws:List AV),cn A V L Z rho s2 a w->s2.h id=.box cs->(a.eval y).cells.size=ti.size->ws.length=ti.size->off+ti.size<=cs.length->(∀u∈(a.eval y).cells.toList,u.oneCell'=true)->
     (∀(j:Nat) z u,ws[j]?=some z->(a.eval y).cells[j]?=some u->bu Z w A.C.P L rho s2.h z u)->oM.length=cs.length->(∀j,oM[j]?=if off<=j/\j<off+ws.length then ws[j-off]? else cs[j]?)->
     ∃w',(execOp a.eval o).run A.C.P w=.ok .skip w'/\cn A V L Z rho ⟨s2.t,a8 s2.h id (.box oM)⟩ a w':=by
    intro Z s2 oM ws bH Aj hsz hws hle kE O hlen vv;have hh:=bH.hp id hL;rw[Aj]at hh;obtain⟨g',ty,c,Y,k2,k3,k4⟩:=hh;rw[hg]at Y;injection Y with Y;injection Y with Y;injection Y with Y;subst Y;have I:=aby (w:=w) gj g off ty c (a.eval y) k2 hsz (by omega) kE;refine⟨_,qR aL (by rw[hv];exact I),?_⟩;refine bH.write hC id hL (by rw[Aj];trivial) (.box oM) (fun _ h=>by cases h) _ (by simp) (by simp) (by simp) (by simp) (fun k hk=>setRow_other w g k _ fun e=>hk (by rw[hg,e];rfl)) fun T=>?_;have jx:(a.eval y).cells.toList.length=ti.size:=by simpa using hsz
    refine⟨g,ty,_,hg,setRow_heap w g c _ ty (0,0) k2,by simp[jx];omega,fun j z u J W=>?_⟩;have sB:(c.toList.take off++(a.eval y).cells.toList++c.toList.drop (off+(a.eval y).cells.toList.length))[j]?=some u:=by simpa using W
    rw[qQ _ _ _ _ (by rw[jx];simpa [k3] using hle)]at sB;rw[vv j]at J;rw[jx]at sB;rw[hws]at J;split at J
    ·rename_i nQ;rw[ae nQ]at sB;have hu2:(a.eval y).cells[j-off]?=some u:=by simpa using sB
     exact⟨kE u (aj sB),(O _ z u J hu2).de T⟩
    rename_i nQ;rw[aa nQ]at sB;have hu2:c[j]?=some u:=by simpa using sB
    obtain⟨h5,h6⟩:=k4 _ _ _ J hu2;exact⟨h5,h6.de T⟩
   split at D
   ·rename_i hag;obtain⟨yv,fz,Z,D,bH,hrep,AJ,hF,Hs⟩:=jA hC U (su.refl s.h) hy D;split at D
    ·rename_i ys;split at D
     ·rename_i mo;simp only[aJ]at mo;obtain⟨⟨e1,e2⟩,e3⟩:=mo;have e1:=jn e1;have e2:=mK e2;obtain⟨vs,PY,h1,h2,h3⟩:=hrep.n_;have jx:(a.eval y).cells=vs:=by rw[PY];rfl
      obtain⟨w',I,fu⟩:=main Z _ (setCells cs off (ys.map Ya)) (ys.map Ya) bH (by simp only;rw[oa e3];exact aU) (by rw[jx];omega) (by simpa using e1) e2 (by rw[jx];exact h2)
       (fun j z u J W=>by
        rw[jx]at W;rw[aD]at J;obtain⟨z',hz,rfl⟩:=qI.1 J;exact AG (h3 j z' u hz W)) (dh _ _ _) (fun j=>eJ _ _ _ _ (by simpa [e1] using e2))
      refine sC I (N _ _ _ Z rho _ _ D ?_);have:=fu.value o.dst hd .junk undef (.junk _);simp only[cQ,app];exact this
     exact D.elim
    exact D.elim
   rename_i hag;split at D
   ·rename_i mo;simp only[aJ]at mo;obtain⟨⟨e1,e2⟩,e3⟩:=mo;have e1:=mK e1;have e2:=jn e2;have h1:=tD U e3 hy;have jx:=cells_one h1;obtain⟨w',I,fu⟩:=main S s (cs.set off (ev s.t y)) [ev s.t y] U aU (by rw[jx,e2];rfl) (by rw[e2];rfl) (by omega) (by rw[jx];simpa using h1)
     (fun j z u J W=>by
      rw[jx]at W;cases j with
      | zero=>simp at J W;subst J W;exact hy
      | succ j=>simp at J) (by simp) (fun j=>Tm _ _ _ _ (by omega))
    refine sC I (N _ _ _ S rho _ _ D ?_);exact fu.value o.dst hd .junk undef (.junk _)
   exact D.elim
  exact D.elim
 ·rename_i id i off Wh;rw[Wh]at hx;split at D
  ·rename_i e es aw;obtain⟨hL,g,n,c,tj,hg,D5,hv⟩:=hx.Bu aw;obtain⟨r,hr,D⟩:=D;obtain⟨yv,fz,Z,D,bH,hrep,AJ,hF,Hs⟩:=jA hC U (su.refl s.h) hy D;split at D
   ·rename_i ys Wi;split at D
    ·rename_i mo;simp only[aJ]at mo;obtain⟨⟨e1,e2⟩,e3⟩:=mo;have e1:=jn e1;have e2:=mK e2;obtain⟨abr,kE,O⟩:=zA Wi hrep;have Aj:(app s.h fz) id=.row e es:=by rw[oa e3];exact aw
     have hh:=bH.hp id hL;have hh:fD Z w A.C.P L rho (app s.h fz) id ((app s.h fz) id):=hh;rw[Aj]at hh;obtain⟨ie,xs,Y,k2,k3,k4,k5,k6⟩:=hh;rw[D5]at Y;injection Y with Y;subst Y;rw[hg]at k3;rcases k3.2 with⟨k7,_⟩ | ⟨g',cap,R,k7,_,k8,k9,k10,Wf,YF⟩
     ·cases k7
     injection k7 with k7 kn kc;injection k7 with k7;injection k7 with k7;subst k7 kn kc;have hi:=aC hr;have Ah:=k4 r (aj hr);have YG:i*tj.size+tj.size<=es.length*tj.size:=by rw[<-dO];exact cq _ hi
     have YH:es.length*tj.size<=R.size:=by rw[Wf];exact cq _ k9
     have jx:(a.eval y).cells.toList.length=ti.size:=by simp;omega
     have I:=aby (w:=w) gj g (i*tj.size+off) e R (a.eval y) k8 (by omega) (by omega) kE;refine sC (qR aL (by rw[hv];exact I)) (N _ _ _ Z rho _ _ D ?_);have fu:cn A V L Z rho ⟨s.t,a8 (app s.h fz) id (.row e (es.set i (setCells r off ys)))⟩ a (w.setRow g (R.toList.take (i*tj.size+off)++(a.eval y).cells.toList++R.toList.drop (i*tj.size+off+(a.eval y).cells.toList.length)).toArray):=by
      refine bH.write hC id hL (by show (app s.h fz id).live;rw[Aj];trivial) (.row e (es.set i (setCells r off ys))) (fun e' h=>by show (app s.h fz id).qK=_;rw[Aj];exact h) _ (setRow_os w g _) (setRow_tape w g _) (setRow_output w g _) (setRow_size w g _)
       (fun k hk=>setRow_other w g k _ fun e=>hk (by rw[hg,e];rfl)) (fun T=>?_)
      show aH _ _ _ _ _ (rho id);rw[hg];have Wg:xs.length=es.length*tj.size:=k3.1;have Ht:∀(j:Nat) u,xs[j]?=some u->R.toList[j]?=some u:=fun j u J=>by
       rw[<-YF]at J;rw[dM]at J;split at J
       ·exact J
       cases J
      have Bv:=fun j=>qQ R.toList (a.eval y).cells.toList (i*tj.size+off) j (by rw[jx];simp;omega);have Tn:=fun j=>eJ (a.eval y).cells.toList xs (i*tj.size+off) j (by rw[jx,Wg];omega);refine⟨tj,setCells xs (i*tj.size+off) (a.eval y).cells.toList,D5,k2,⟨by rw[dh,Wg,aQ],.inr ⟨g,c,_,by rw[aQ],ak _,setRow_heap w g R _ e (0,0) k8,by rw[aQ];exact k9,k10,?_,?_⟩⟩,?_,?_,?_⟩
      ·simp only[lS,bJ,cE,lU,aaK];rw[Wf]at *;simp at jx;omega
      ·apply kz;intro j;rw[dM];simp only[aQ];split
       ·rename_i J;rw[Bv,Tn];split
        ·rfl
        rw[<-YF,oZ J]
       rename_i J;rw[iR];rw[dh,Wg];omega
      ·intro q hqm;rcases m_ hqm with h | h
       ·exact k4 q h
       rw[h,dh];exact Ah
      ·intro u W;obtain⟨j,J⟩:=ca.1 W;rw[Tn]at J;split at J
       ·exact kE u (aj J)
       exact k5 u (aj J)
      intro a' q j z yB hz;have hql:q.length=tj.size:=by
       rcases m_ (aj yB) with h | h
       ·exact k4 q h
       rw[h,dh];exact Ah
      have yp:=aC hz;rw[Tn];by_cases PT:a'=i
      ·subst PT;rw[dZ hi]at yB;injection yB with yB;subst yB;rw[eJ _ _ _ _ (by omega)]at hz;split at hz
       ·rename_i nQ;rw[ae (by omega),show a'*tj.size+j-(a'*tj.size+off)=j-off by omega];obtain⟨u,W⟩:=aau abr.symm (aC hz);exact⟨u,by simpa using W,(O _ z u hz W).mono T.hS T.keep⟩
       rename_i nQ;rw[aa (by omega)];obtain⟨u,W,oP⟩:=k6 _ _ _ _ hr hz;exact⟨u,W,oP.mono T.hS T.keep⟩
      rw[gC (fun e=>PT e.symm)]at yB;have cO:¬(i*tj.size+off<=a'*tj.size+j/\a'*tj.size+j<i*tj.size+off+(a.eval y).cells.toList.length):=by
       rintro⟨h1,h2⟩;rcases AA PT with h | h
       ·have:=cq tj.size (jM h);rw[dO]at this;omega
       have:=cq tj.size (jM h);rw[dO]at this;omega
      rw[aa cO];obtain⟨u,W,oP⟩:=k6 _ _ _ _ yB hz;exact⟨u,W,oP.mono T.hS T.keep⟩
     have:=fu.value o.dst hd .junk undef (.junk _);simp only[cQ,app];exact this
    exact D.elim
   exact D.elim
  ·rename_i e es aw;obtain⟨hL,g,n,c,tj,hg,D5,hv⟩:=hx.we aw;obtain⟨r,hr,D⟩:=D;split at D
   ·exact D.elim
   split at D
   ·rename_i mo;simp only[aJ]at mo;obtain⟨⟨e1,e2⟩,e3⟩:=mo;have e1:=mK e1;have e2:=jn e2;have h1:=tD U e3 hy;have jx:=cells_one h1;obtain⟨R,Ht,hsz,fu⟩:=U.To hC hL aw hg D5 hr e1 h1 hy;have I:=aby (w:=w) gj g (i*tj.size+off) e R (a.eval y) Ht (by rw[jx,e2];rfl) (by omega) (by rw[jx];simpa using h1);rw[jx]at I;refine sC (qR aL (by rw[hv];exact I)) (N _ _ _ S rho _ _ D ?_);exact fu.value o.dst hd .junk undef (.junk _)
   exact D.elim
  exact D.elim
 exact D.elim
end Go.AM
namespace Go.AM
open Go.RowKit
variable {A:rZ}
theorem Wj{o:Oper}(c:Call)(aL:o.op=.call c)(hc:c.callee=.builtin .len):jV A o:=by
 intro V L S rho s a w K next Q hC D hV hd u _ z
 obtain⟨callee,args,argTypes⟩:=c;simp only at hc;subst hc;simp only[cc,aL,fc,fZ]at u;split at u
 ·rename_i x t O PZ;have I:=bF D x fun j hj=>hV j (by simp[aL,Op.operands,Call.operands,hj];rw[<-hj];exact cJ.1 (by rw[O];simp));have e1:args=#[x]:=by rw[<-kA (xs:=args),O]
  have e2:argTypes=#[t]:=by rw[<-kA (xs:=argTypes),PZ]
  subst e1 e2;split at u
  ·rename_i size bytes zero eq hT;have R:=(hC.jw t _ hT).under;simp only at R;split at u
   ·rename_i st wh;rw[wh]at I;exact aN D hd z u (.p _ _ (.im _)) (by simp[execOp,aL,resolve,invoke,builtin,I.bZ,Builtin.len_,run_underlying R,goInt])
   exact u.elim
  ·rename_i e size bytes zero eq hT;have R:=(hC.jw t _ hT).under;simp only at R;have fin:∀(es:List (List PV)) W c,K (.p (.im (.int .i64 es.length))) [] none->a.eval x=.slice W es.length c->o.wp A.C.P a w next Q:=fun es W c u he=>
    aN D hd z u (.p _ _ (.im _)) (by simp[execOp,aL,resolve,invoke,builtin,he,Builtin.len_,run_underlying R,goInt])
   split at u
   ·rename_i m J;unfold hlen at J;split at J
    ·rename_i id Y;rw[Y]at I;split at J
     ·rename_i e' es aw;injection J with J;subst J;obtain⟨hL,N⟩:=I.cZ (by rw[aw];trivial);have U:=D.hp id hL;rw[aw]at U;obtain⟨⟨i,xs,_,_,h3,_⟩,_⟩:=U;obtain⟨W,c,hv2⟩:∃W c,rho id=.slice W es.length c:=by
       rcases h3.2 with⟨Z,h5⟩ | ⟨g,cap,cur,Z,_⟩
       ·exact⟨none,0,by rw[Z,h5]⟩
       exact⟨_,cap,Z⟩
      exact aN D hd z u (.p _ _ (.im _)) (by simp[execOp,aL,resolve,invoke,builtin,N,hv2,Builtin.len_,run_underlying R,goInt])
     cases J
    ·rename_i id lo hi Y;rw[Y]at I;split at J
     ·rename_i e' es aw;injection J with J;subst J;obtain⟨_,n,cp,W,ti',_,_,_,_,_,hval⟩:=I.Ff aw;exact aN D hd z u (.p _ _ (.im _)) (by simp[execOp,aL,resolve,invoke,builtin,hval,Builtin.len_,run_underlying R,goInt])
     cases J
    cases J
   unfold iE at u;split at u
   ·rename_i es Y;rw[Y]at I;obtain⟨W,c,N,_⟩:=I.eY.qP;exact fin es W c u N
   ·rename_i Y;rw[Y]at I;have:a.eval x=.slice none 0 0:=by cases h:a.eval x<;>rw[h]at I<;>cases I;rfl
    exact fin [] none 0 u this
   ·rename_i id Y;rw[Y]at I;split at u
    ·rename_i e' es aw;obtain⟨hL,N⟩:=I.cZ (by rw[aw];trivial);have U:=D.hp id hL;rw[aw]at U;obtain⟨i,xs,_,_,h3,_⟩:=U;rcases h3.2 with⟨Z,h5⟩ | ⟨g,cap,cur,Z,_⟩
     ·exact fin es none 0 u (by rw[N,Z,h5])
     exact fin es _ cap u (by rw[N,Z])
    ·rename_i es aw;obtain⟨hL,N⟩:=I.cZ (by rw[aw];trivial);have U:=D.hp id hL;rw[aw]at U;obtain⟨W,c,Z,_⟩:=aO.qP U;exact fin es W c u (by rw[N,Z])
    exact u.elim
   exact u.elim
  ·rename_i kt et size bytes zero eq hT;have R:=(hC.jw t _ hT).under;simp only at R;split at u
   ·rename_i id hid;split at u
    case h_2=>exact u.elim
    rename_i mk es J;rw[hid]at I;obtain⟨hL,N⟩:=I.cZ (by rw[J];trivial);have U:=D.hp id hL;rw[J]at U;obtain⟨g,ms,clock,h1,h2,h3,_⟩:=U;exact aN D hd z u (.p _ _ (.im _)) (by simp[execOp,aL,resolve,invoke,builtin,N,h1,Builtin.len_,run_underlying R,vY h2,h3,goInt])
   ·rename_i mk es hid;rw[hid]at I;obtain⟨g,ms,clock,N,_,h2,h3⟩:=I.eY.agi;exact aN D hd z u (.p _ _ (.im _)) (by simp[execOp,aL,resolve,invoke,builtin,N,Builtin.len_,run_underlying R,vY h2,h3.1,goInt])
   exact u.elim
  exact u.elim
 exact u.elim
theorem Wk{o:Oper}(c:Call)(N:o.op=.call c)(O:c.callee=.builtin .min):jV A o:=by
 intro V L S rho s a w K next Q hC z R Y I _ D
 obtain⟨callee,args,argTypes⟩:=c;simp only at O;subst O;simp only[cc,N,fc,fZ]at I;split at I
 ·rename_i x y u;have U:=bF z x fun j J=>R j (by simp[N,Op.operands,Call.operands,J];rw[<-J];exact cJ.1 (by rw[u];simp));have W:=bF z y fun j J=>R j (by simp[N,Op.operands,Call.operands,J];rw[<-J];exact cJ.1 (by rw[u];simp));have e1:args=#[x,y]:=by rw[<-kA (xs:=args),u]
  subst e1;split at I
  ·rename_i k m k' n Z h2;rw[Z]at U;rw[h2]at W;exact aN z Y D I (.p _ _ (.im _)) (by
    simp[execOp,N,resolve,invoke,builtin,U.bZ,W.bZ,Builtin.min_,Builtin.min2];rw[Int.min_def];split<;>split<;>omega)
  exact I.elim
 exact I.elim
theorem Hu{P:Program}{w:World}(k z:IntKind)(m n:Int):(Builtin.max2 (.int k m) (.int z n)).run P w=.ok (.int k (max m n)) w:=by
 simp only[Builtin.max2,dt];rw[ad0];by_cases h:n>m
 ·rw[ae h,ae (by omega)]
 rw[aa h];by_cases u:m<=n
 ·rw[ae u,show m=n by omega]
 rw[aa u]
theorem Wl{o:Oper}(c:Call)(O:o.op=.call c)(hc:c.callee=.builtin .max):jV A o:=by
 intro V L S rho s a w K next Q hC J U hd R _ N
 obtain⟨callee,args,argTypes⟩:=c;simp only at hc;subst hc;simp only[cc,O,fc,fZ]at R;split at R
 ·rename_i x y D;have W:=bF J x fun j I=>U j (by simp[O,Op.operands,Call.operands,I];rw[<-I];exact cJ.1 (by rw[D];simp));have Y:=bF J y fun j I=>U j (by simp[O,Op.operands,Call.operands,I];rw[<-I];exact cJ.1 (by rw[D];simp));have e1:args=#[x,y]:=by rw[<-kA (xs:=args),D]
  subst e1;split at R
  ·rename_i k m k' n h1 h2;rw[h1]at W;rw[h2]at Y;exact aN J hd N R (.p _ _ (.im _)) (by
    simp[execOp,O,resolve,invoke,builtin,W.bZ,Y.bZ,Builtin.max_,Builtin.max2];rw[ad0];split<;>split<;>omega)
  exact R.elim
 ·rename_i x y z D;have W:=bF J x fun j I=>U j (by simp[O,Op.operands,Call.operands,I];rw[<-I];exact cJ.1 (by rw[D];simp));have Y:=bF J y fun j I=>U j (by simp[O,Op.operands,Call.operands,I];rw[<-I];exact cJ.1 (by rw[D];simp));have Z:=bF J z fun j I=>U j (by simp[O,Op.operands,Call.operands,I];rw[<-I];exact cJ.1 (by rw[D];simp));have e1:args=#[x,y,z]:=by rw[<-kA (xs:=args),D]
  subst e1;split at R
  ·rename_i k0 m0 k1 m1 k2 m2 g0 g1 g2;rw[g0]at W;rw[g1]at Y;rw[g2]at Z;exact aN J hd N R (.p _ _ (.im _)) (by
    simp[execOp,O,resolve,invoke,builtin,W.bZ,Y.bZ,Z.bZ,Builtin.max_,Hu])
  exact R.elim
 ·rename_i x y z u v D;have W:=bF J x fun j I=>U j (by simp[O,Op.operands,Call.operands,I];rw[<-I];exact cJ.1 (by rw[D];simp));have Y:=bF J y fun j I=>U j (by simp[O,Op.operands,Call.operands,I];rw[<-I];exact cJ.1 (by rw[D];simp));have Z:=bF J z fun j I=>U j (by simp[O,Op.operands,Call.operands,I];rw[<-I];exact cJ.1 (by rw[D];simp));have hu:=bF J u fun j I=>U j (by simp[O,Op.operands,Call.operands,I];rw[<-I];exact cJ.1 (by rw[D];simp));have hv:=bF J v fun j I=>U j (by simp[O,Op.operands,Call.operands,I];rw[<-I];exact cJ.1 (by rw[D];simp));have e1:args=#[x,y,z,u,v]:=by rw[<-kA (xs:=args),D]
  subst e1;split at R
  ·rename_i k0 m0 k1 m1 k2 m2 k3 m3 k4 m4 g0 g1 g2 g3 g4;rw[g0]at W;rw[g1]at Y;rw[g2]at Z;rw[g3]at hu;rw[g4]at hv;exact aN J hd N R (.p _ _ (.im _)) (by
    simp[execOp,O,resolve,invoke,builtin,W.bZ,Y.bZ,Z.bZ,hu.bZ,hv.bZ,Builtin.max_,Hu])
  exact R.elim
 exact R.elim
variable {V L:Nat->Prop} {rho:Nat->Value} {s:AS}
theorem D9{o:Oper}{S:Nat->Prop}{a:Act}{w:World}{K:KK}{next:Act->World->Prop}{Q:Exit->Act->World->Prop}{fz:List (Nat×AB)}(z:cn A V L S rho ⟨s.t,app s.h fz⟩ a w)(I:∀d,o.dst=some d->d<A.n)
  (u:∀v eff new S' rho' D w',K v eff new->cn A (yy V o.dst) (Br L new (o.dst.getD 0)) S' rho' ⟨fE s.t o.dst v,app s.h eff⟩ D w'->next D w') {x:AV} {v:Value} (J:K x fz none) (N:bu S w A.C.P L rho (app s.h fz) x v)
  (O:(execOp a.eval o).run A.C.P w=.ok (.value v) w):o.wp A.C.P a w next Q:=
 eB O (u _ _ _ _ _ _ _ J (z.value o.dst I x v N))
variable {es:List (List PV)}
theorem aO.Tp{S:Nat->Prop}{w:World}{D:Option Addr}{c l h sz:Nat}(hx:aO S w (.sl es) (.slice D es.length c))(hl:l<=h)(R:h<=es.length)(hc:es.length<=c)
  (hk:∀b off k,D=some ⟨b,off,none⟩->(∀e∈es,e.length=k)->l<h->k=sz):aO S w (.sl ((es.take h).drop l)) (.slice (if c=l then D else D.map (·.add (l*sz))) (h-l) (c-l)):=by
 have hlen:((es.take h).drop l).length=h-l:=by simp;omega
 by_cases I:h-l=0
 ·have:(es.take h).drop l=[]:=Az (by omega);rw[this,I];exact .nil _ _
 obtain⟨ad',c',hv,hle,cO⟩:=hx.qP;injection hv with e1 e2 e3;subst e1 e3;obtain⟨b,off,k,U,hb,W,z⟩:=cO (by intro e;rw[e]at R;simp at R;omega);have Y:=hk b off k U W (by omega);subst U;rw[aa (by omega)];show aO S w _ (.slice (some (Addr.add ⟨b,off,none⟩ (l*sz))) (h-l) (c-l));rw[bT,<-hlen];have Z:∀(i:Nat) e,((es.take h).drop l)[i]?=some e->es[l+i]?=some e:=by
  intro i e hi;rw[aW,dM]at hi;split at hi
  ·exact hi
  cases hi
 refine .sl _ k b (off+l*sz) _ (fun i j=>(w.cell? ⟨b,off+l*sz+i*k+j,none⟩).getD undef) (by rw[hlen];omega) hb (fun e I=>W e (Ay (fY I))) (fun i e j x J N=>?_) fun i e j x J N=>?_
 ·obtain⟨u,O,h4,h5⟩:=z _ e j x (Z i e J) N;have:off+l*sz+i*k+j=off+(l+i)*k+j:=by rw[<-Y,mY];omega
  rw[this,O];exact⟨rfl,h4⟩
 obtain⟨u,O,h4,h5⟩:=z _ e j x (Z i e J) N;have:off+l*sz+i*k+j=off+(l+i)*k+j:=by rw[<-Y,mY];omega
 rw[this,O];exact h5
theorem ik{P:Program}{w:World}(k:IntKind)(i:Int)(y:Nat)(u:BoundsCode)(h:0<=i/\i<=y):(Instr.sliceBound (.int k i) y u).run P w=.ok i.toNat w:=by
 simp[Instr.sliceBound,asIntOf,h.1,h.2]
theorem Bx{S:Nat->Prop}{a:Act}{w:World}(_:cn A V L S rho s a w)(lo hi:Option Operand)(W:∀y,lo=some y->bu S w A.C.P L rho s.h (ev s.t y) (a.eval y))(Y:∀y,hi=some y->bu S w A.C.P L rho s.h (ev s.t y) (a.eval y)):
  ∀(u:Bool) (len z:Nat) (k:IntKind) (m:Int) (D:IntKind) (n:Int),len<=z->(match lo with | some y=>ev s.t y | none=>.p (.im (.int .i64 0)))=.p (.im (.int k m))->(match hi with | some y=>ev s.t y | none=>.p (.im (.int .i64 len)))=.p (.im (.int D n))->0<=m->m<=n->n<=len ->
   (Instr.sliceBounds u len z (lo.map a.eval) (hi.map a.eval) none).run A.C.P w=.ok (m.toNat,n.toNat,z) w:=by
  intro u len z k m D n hlc I N U h4 h5;have e2:∀y,hi=some y->a.eval y=.int D n:=fun y J=>by
   have:=Y y J;subst J;rw[show ev s.t y=_ from N]at this;exact this.bZ
  have e1:∀y,lo=some y->a.eval y=.int k m:=fun y J=>by
   have:=W y J;subst J;rw[show ev s.t y=_ from I]at this;exact this.bZ
  have nb:((n.toNat:Nat):Int)=n:=by omega
  cases hi with
  | some Z=>
   have e2:=e2 Z rfl;cases lo with
   | some O=>
    have e1:=e1 O rfl;cases u<;>simp[Instr.sliceBounds,e1,e2,ik D n z _ ⟨by omega,by omega⟩,ik k m n.toNat _ ⟨U,by omega⟩]
   | none=>
    have R:m=0:=by simp at I;exact I.2.symm
    subst R;cases u<;>simp[Instr.sliceBounds,e2,ik D n z _ ⟨by omega,by omega⟩]
  | none=>
   have zC:n=len:=by simp at N;exact N.2.symm
   subst zC;cases lo with
   | some O=>
    have e1:=e1 O rfl;cases u<;>simp[Instr.sliceBounds,e1,ik k m len _ ⟨U,by omega⟩]
   | none=>
    have R:m=0:=by simp at I;exact I.2.symm
    subst R;cases u<;>simp[Instr.sliceBounds]
theorem Nx{o:Oper}(t:TypeId)(x:Operand)(lo hi:Option Operand)(R:o.op=.slice t x lo hi none){S:Nat->Prop}{a:Act}{w:World}{K:KK}{next:Act->World->Prop}{Q:Exit->Act->World->Prop}(hC:bP A.C)(D:cn A V L S rho s a w)
  (hV:∀j,(.tmp j)∈o.op.operands->V j) (hd:∀d,o.dst=some d->d<A.n) (u:g_ A.C (ev s.t) s.h t x lo hi K)
  (I:∀v eff new S' rho' a' w',K v eff new->cn A (yy V o.dst) (Br L new (o.dst.getD 0)) S' rho' ⟨fE s.t o.dst v,app s.h eff⟩ a' w'->next a' w'):o.wp A.C.P a w next Q:=by
 simp only[g_]at u;have hx:=bF D x fun j U=>hV j (by simp[R,Op.operands,U]);have Vd:∀y,lo=some y->bu S w A.C.P L rho s.h (ev s.t y) (a.eval y):=fun y hy=>bF D y fun j U=>hV j (by simp[R,Op.operands,U,hy]);have Ve:∀y,hi=some y->bu S w A.C.P L rho s.h (ev s.t y) (a.eval y):=fun y hy=>bF D y fun j U=>hV j (by simp[R,Op.operands,U,hy]);have z:∀(J:Bool) (len O:Nat) (k:IntKind) (m:Int) (W:IntKind) (n:Int),len<=O->(match lo with | some y=>ev s.t y | none=>.p (.im (.int .i64 0)))=.p (.im (.int k m))->(match hi with | some y=>ev s.t y | none=>.p (.im (.int .i64 len)))=.p (.im (.int W n))->0<=m->m<=n->n<=len ->
   (Instr.sliceBounds J len O (lo.map a.eval) (hi.map a.eval) none).run A.C.P w=.ok (m.toNat,n.toNat,O) w:=by
  exact Bx D lo hi Vd Ve
 split at u
 ·rename_i size bytes zero eq hT;have Y:=(hC.jw t _ hT).under;simp only at Y;split at u
  ·rename_i st wh;rw[wh]at hx;split at u
   ·rename_i k m W n h1 h2;obtain⟨⟨h3,h4,h5⟩,u⟩:=u;have hb:=z false st.size st.size k m W n (aG _) h1 h2 h3 h4 h5;exact aN D hd I u (.p _ _ (.im _)) (by simp[execOp,R,Instr.sliceAt,Instr.slice,hx.bZ,run_underlying Y,hb])
   exact u.elim
  exact u.elim
 ·rename_i e size bytes zero eq hT;have Y:=(hC.jw t _ hT).under;simp only at Y;split at u
  ·exact u.elim
  rename_i te yA;obtain⟨ie,ze,r_,Dv,_⟩:=(hC.jw e te yA).info;obtain⟨y,fz,S2,u,bH,N,AJ,hF,Hs⟩:=jA hC D (su.refl s.h) hx u;split at u
  ·rename_i es;split at u
   ·rename_i k m W n h1 h2;obtain⟨⟨h3,h4,h5,h6⟩,u⟩:=u;obtain⟨ad,c,hv,Z,_⟩:=N.qP;have hb:=z true es.length c k m W n Z h1 h2 h3 h4 h5;rw[hv]at N;refine D9 bH hd I u (.p _ _ (N.Tp (sz:=te.size) (l:=m.toNat) (h:=n.toNat) (by omega) (by omega) Z fun b off kk hk1 oQ eX=>?_)) ?_
    ·have hpos:0<es.length:=by omega
     have hm:es[0]∈es:=na _;rw[<-oQ _ hm,h6 _ hm]
    simp[execOp,R,Instr.sliceAt,Instr.slice,hv,run_underlying Y,hb,Go.sizeOf,typeInfo,r_,Dv]
   exact u.elim
  exact u.elim
 exact u.elim
structure Flat(S:Nat->Prop)(w:World)(k:Nat)(es:List (List PV))(xs:List Value):Prop where
 len:xs.length=es.length*k
 row:∀r∈es,r.length=k
 one:∀u∈xs,u.oneCell'=true
 rep:∀(i:Nat) r (j:Nat) x,es[i]?=some r->r[j]?=some x->∃u,xs[i*k+j]?=some u/\aO S w x u
theorem Flat.mono{S S':Nat->Prop}{w w':World}{k:Nat}{xs:List Value}(h:Flat S w k es xs)(hS:∀b,S b->S' b)(z:∀b,S b->w'.heap[b]?=w.heap[b]?):Flat S' w' k es xs:=
 ⟨h.len,h.row,h.one,fun i r j x D I=>by obtain⟨u,J,N⟩:=h.rep i r j x D I;exact⟨u,J,N.mono hS z⟩⟩
theorem Flat.app{S:Nat->Prop}{w:World}{k:Nat}{fs:List (List PV)}{xs ys:List Value}(h:Flat S w k es xs)(g:Flat S w k fs ys):Flat S w k (es++fs) (xs++ys):=by
 refine⟨by rw[bJ,bJ,h.len,g.len,mY],fun r N=>(fC.1 N).elim (h.row r) (g.row r),fun u O=>(fC.1 O).elim (h.one u) (g.one u),fun i r j x D J=>?_⟩;by_cases hi:i<es.length
 ·rw[dN hi]at D;obtain⟨u,z,I⟩:=h.rep i r j x D J;exact⟨u,by rw[dN (aC z)];exact z,I⟩
 rw[du (by omega)]at D;obtain⟨u,z,I⟩:=g.rep _ r j x D J;refine⟨u,?_,I⟩;have hm:es.length*k<=i*k:=cq _ (by omega);rw[du (by rw[h.len];omega),h.len];rw[Nat.sub_mul]at z;rw[<-z];congr 1;omega
theorem Flat.set{S:Nat->Prop}{w:World}{k:Nat}{xs:List Value}(h:Flat S w k es xs)(i:Nat)(hi:i<es.length)(ys:List PV)(vs:List Value)(R:ys.length=k)(U:vs.length=k)(W:∀u∈vs,u.oneCell'=true)(I:∀(j:Nat) y u,ys[j]?=some y->vs[j]?=some u->aO S w y u):
  Flat S w k (es.set i ys) (setCells xs (i*k) vs):=by
 have hb:i*k+k<=xs.length:=by rw[h.len,<-dO];exact cq _ hi
 have O:=fun j=>eJ vs xs (i*k) j (by rw[U];exact hb);refine⟨by rw[dh,aQ,h.len],fun r I=>?_,fun u Y=>?_,fun a r j x D z=>?_⟩
 ·rcases m_ I with h' | h'
  ·exact h.row r h'
  rw[h'];exact R
 ·obtain⟨j,z⟩:=ca.1 Y;rw[O]at z;split at z
  ·exact W u (aj z)
  exact h.one u (aj z)
 have yp:=aC z;rw[O];by_cases J:a=i
 ·subst J;rw[dZ hi]at D;injection D with D;subst D;rw[ae (by omega),show a*k+j-a*k=j by omega];have:j<vs.length:=by omega
  exact⟨_,oX this,I j x _ z (oX this)⟩
 rw[gC (fun e=>J e.symm)]at D;have Ah:=h.row r (aj D);rw[aa]
 ·exact h.rep a r j x D z
 rintro⟨h2,h3⟩;rcases AA J with N | N
 ·have:=cq k (jM N);rw[dO]at this;omega
 have:=cq k (jM N);rw[dO]at this;omega
theorem Flat.zero(I:Bool)(S:Nat->Prop)(w:World){P:Program}{t:TypeId}{ti:TI}(h:qc P t ti)(hk:0<ti.size)(n:Nat):Flat S w ti.size (List.replicate n (ti.zero.map (X_ I))) ((Array.range (n*ti.size)).map (ti.zero.toArray[· % ti.zero.toArray.size]!)).toList:=by
 have D:=h.PL;obtain⟨_,_,_,_,_,_,_,R⟩:=h.info;have O:∀j,j<n*ti.size->((Array.range (n*ti.size)).map (ti.zero.toArray[· % ti.zero.toArray.size]!)).toList[j]?=ti.zero[j % ti.size]?:=by
  intro j z;have U:j % ti.size<ti.zero.length:=by rw[D];exact LM _ hk
  simp[z,D];rw[oX U];rfl
 refine⟨by simp,fun r J=>by rw[au J,E5,D],fun u W=>?_,fun i r j x hi z=>?_⟩
 ·obtain⟨j,z⟩:=ca.1 W;have N:=aC z;rw[O j (by simpa using N)]at z;exact R u (aj z)
 have Y:i<n:=by have:=aC hi;simpa using this
 have J:r=ti.zero.map (X_ I):=au (aj hi);subst J;have N:j<ti.size:=by have:=aC z;rw[E5,D]at this;exact this
 rw[aD]at z;obtain⟨v,Z,rfl⟩:=qI.1 z;have hb:i*ti.size+j<n*ti.size:=by
  have:=cq ti.size (jM Y);rw[dO]at this;omega
 refine⟨v,?_,LX I S w v⟩;rw[O _ hb,Nat.mul_comm,Nat.mul_add_mod,Nat.mod_eq_of_lt N];exact Z
variable {e:TypeId}
theorem aH.of_flat{P:Program}{S:Nat->Prop}{w:World}{i:TypeInfo}{v:Value}{xs:List Value}(hi:P.info? e=some i)(hk:0<i.size)(z:w.ownsRow 0 e i.size v es.length xs)(u:Flat S w i.size es xs):aH P w (aO S w) e es v:=
 ⟨i,xs,hi,hk,z,u.row,u.one,u.rep⟩
theorem aH.flat{P:Program}{S:Nat->Prop}{w:World}{i:TypeInfo}{v:Value}(hi:P.info? e=some i)(h:aH P w (aO S w) e es v):∃xs,0<i.size/\w.ownsRow 0 e i.size v es.length xs/\Flat S w i.size es xs:=by
 obtain⟨i',xs,u,D,z,I,J,N⟩:=h;rw[hi]at u;injection u with u;subst u;exact⟨xs,D,z,⟨z.1,I,J,N⟩⟩
theorem aO.flat{S:Nat->Prop}{w:World}{v:Value}{k:Nat}(hx:aO S w (.sl es) v)(hk:∀r∈es,r.length=k):∃U c xs,v=.slice U es.length c/\Flat S w k es xs/\(es≠[]->∃b off,U=some ⟨b,off,none⟩/\∀(j:Nat) u,xs[j]?=some u->w.cell? ⟨b,off+j,none⟩=some u):=by
 obtain⟨U,c,Z,hle,cO⟩:=hx.qP;by_cases W:es=[]
 ·subst W;exact⟨U,c,[],Z,⟨by simp,by simp,by simp,by simp⟩,fun h=>absurd rfl h⟩
 obtain⟨b,off,z,rfl,hb,JW,D⟩:=cO W;have Wm:z=k:=by
  obtain⟨r,Y⟩:=AD _ W;rw[<-JW r Y,hk r Y]
 subst Wm;have key:∀q,q<es.length*z->∃u,w.cell? ⟨b,off+q,none⟩=some u/\u.oneCell'=true:=by
  intro q N;have L4:0<z:=Nat.pos_of_ne_zero fun h=>by rw[h]at N;simp at N
  have hi:q / z < es.length:=(Nat.div_lt_iff_lt_mul L4).2 N;have O:q % z < z:=LM _ L4;have Y:=hk _ (na hi);obtain⟨u,I,J,_⟩:=D (q / z) _ (q % z) _ (oX hi) (oX (by omega));refine⟨u,?_,J⟩;rw[<-I];congr 2;have:=Nat.div_add_mod q z;rw[Nat.mul_comm]at this;omega
 refine⟨_,c,(List.range (es.length*z)).map fun q=>(w.cell? ⟨b,off+q,none⟩).getD undef,Z,⟨by simp,hk,fun u hu=>?_,fun i r j x I J=>?_⟩,fun _=>⟨b,off,rfl,fun j u O=>?_⟩⟩
 ·simp at hu;obtain⟨q,N,rfl⟩:=hu;obtain⟨u,I,J⟩:=key q N;rw[I];exact J
 ·obtain⟨u,h3,h4,h5⟩:=D i r j x I J;refine⟨u,?_,h5⟩;have zD:=aC I;have R:=aC J;rw[hk r (aj I)]at R;have Aj:i*z+j<es.length*z:=by
   have:=cq z (jM zD);rw[dO]at this;omega
  rw[aD,jK Aj];simp only[mZ];rw[<-bp,h3];rfl
 have R:=aC O;simp at R;rw[aD,jK R]at O;obtain⟨u',I,_⟩:=key j R;simp[I]at O;rw[I,O]
def Src(S:Nat->Prop)(w:World)(es:List (List PV))(v:Value):Prop:=
 ∀k,(∀r∈es,r.length=k)->∃ad c xs,v=.slice ad es.length c/\Flat S w k es xs/\(es≠[]->∃b off,ad=some ⟨b,off,none⟩/\∀(j:Nat) u,xs[j]?=some u->w.cell? ⟨b,off+j,none⟩=some u)
theorem aH.src{P:Program}{S:Nat->Prop}{w:World}{v:Value}(h:aH P w (aO S w) e es v):Src S w es v:=by
 intro k hk;obtain⟨i,xs,h1,h2,D,N,U,W⟩:=h;by_cases I:es=[]
 ·subst I;rcases D.2 with⟨rfl,_⟩ | ⟨g,z,J,rfl,_⟩
  ·exact⟨none,0,[],rfl,⟨by simp,by simp,by simp,by simp⟩,fun h=>absurd rfl h⟩
  exact⟨_,z,[],rfl,⟨by simp,by simp,by simp,by simp⟩,fun h=>absurd rfl h⟩
 have Y:k=i.size:=by
  obtain⟨r,O⟩:=AD _ I;rw[<-hk r O,N r O]
 subst Y;rcases D.2 with⟨_,Z⟩ | ⟨g,z,J,R,_⟩
 ·exact absurd (Az Z) I
 refine⟨_,z,xs,R,⟨D.1,N,U,W⟩,fun _=>⟨g,0,rfl,fun j u hj=>?_⟩⟩;have:=D.cells (g:=g) (by rw[R];rfl) j u hj;rw[bT]at this;exact this
theorem JX{S:Nat->Prop}{a:Act}{w:World}(z:cn A V L S rho s a w){x:AV}{v:Value}(I:bu S w A.C.P L rho s.h x v){K:List (List PV)->Prop}(u:iE s.h x K):∃es,K es/\Src S w es v:=by
 unfold iE at u;split at u
 ·exact⟨_,u,fun k hk=>I.eY.flat hk⟩
 ·have:v=.slice none 0 0:=by cases I;rfl
  exact⟨[],u,fun k hk=>⟨none,0,[],this,⟨by simp,by simp,by simp,by simp⟩,fun h=>absurd rfl h⟩⟩
 ·rename_i id;split at u
  ·rename_i e es aw;obtain⟨J,N⟩:=I.cZ (by rw[aw];trivial);have D:=z.hp id J;rw[aw]at D;exact⟨es,u,by rw[N];exact aH.src D⟩
  ·rename_i es aw;obtain⟨J,N⟩:=I.cZ (by rw[aw];trivial);have D:=z.hp id J;rw[aw]at D;exact⟨es,u,by rw[N];exact fun k hk=>aO.flat D hk⟩
  exact u.elim
 exact u.elim
theorem uW{P:Program}(w:World)(t W e:TypeId)(i:TypeInfo)(z:Value)(R:P.underlying t=some (.slice e))(hi:P.info? e=some i)(hz:i.zero=some z)(hzs:z.cells.size=i.size)(hsz:0<i.size)
  (v:Value) (n:Nat) (xs:List Value) (hown:w.ownsRow 0 e i.size v n xs) (Z:Option Addr) (m c:Nat) (D:List Value) (hl:D.length=m*i.size)
  (N:m≠0->∃b off,Z=some ⟨b,off,none⟩/\∀(j:Nat) u,D[j]?=some u->w.cell? ⟨b,off+j,none⟩=some u) (h1:∀u∈D,u.oneCell'=true) (Y:n+m<=maxLen) (JY:(n+m)*i.bytes<=140737488355328):
  ∃U w',(Builtin.append_ #[t,t] W #[v,.slice Z m c]).run P w=.ok U w'/\w'.ownsRow 0 e i.size U (n+m) (xs++D)/\w.grownBy w' v.ownBlock/\(U.ownBlock=v.ownBlock\/U.ownBlock=some w.heap.size):=by
 by_cases hm:m=0
 ·subst hm;have hn:D=[]:=Az (by simpa using hl);subst hn;refine⟨v,w,?_,by simpa using hown,⟨rfl,rfl,rfl,aG _,fun _ _ _=>rfl⟩,.inl rfl⟩;have hf:(Builtin.firstCells i.size 0 (.slice Z 0 c)).run P w=.ok #[] w:=by cases Z<;>simp[Builtin.firstCells,loadCells,loadCellsFrom]
  rcases hown.2 with⟨rfl,rfl⟩ | ⟨g,J,O,rfl,_,_,Yf,_⟩
  ·simp[Builtin.append_,run_underlying R,sizeOf,typeInfo,hi,Builtin.lenOf,hf]
  simp[Builtin.append_,run_underlying R,sizeOf,typeInfo,hi,Builtin.lenOf,Yf,hf,storeCells]
 obtain⟨b,off,rfl,hc⟩:=N hm;have Fi:∀(j:Nat) u,D[j]?=some u->w.cell? ((⟨b,off,none⟩:Addr).add j)=some u:=fun j u hj=>by rw[bT];exact hc j u hj
 obtain⟨U,w',hr,h2,h3,_⟩:=run_append_own (P:=P) w 0 t W e i z i.size i.bytes R hi hz rfl rfl hzs hsz v n xs hown ⟨b,off,none⟩ m c D hl Fi h1 Y JY (ak _);refine⟨U,w',hr,h2,h3,?_⟩;have abv:n+m<=9223372036854775807:=by simp only[maxLen]at Y;omega
 rcases hown.2 with⟨rfl,rfl⟩ | ⟨g,J,O,rfl,_,hg,Yf,hcm,nP,adx⟩
 ·have I:=run_append_nil (P:=P) w t W e i z R hi hz ⟨b,off,none⟩ m c D hl Fi (by omega) (by omega) (by have hb:=JY;simp only[fX]at hb;omega);rw[hr]at I;injection I with I;rw[I];exact .inr rfl
 by_cases Vf:n+m<=J
 ·have abw:n*i.size+D.length<=O.size:=by rw[hl,nP,<-mY];exact cq _ Vf
  have I:=run_append_room (P:=P) w t W e i R hi g n J O hg ⟨b,off,none⟩ m c D hl Fi h1 Vf abw;rw[hr]at I;injection I with I;rw[I];exact .inl rfl
 have I:=run_append_grow (P:=P) w t W e i z R hi hz ⟨g,0,none⟩ n J xs hown.1 (hown.cells (g:=g) rfl) ⟨b,off,none⟩ m c D hl Fi (by omega) (by omega) (growslice_fits (by omega) JY);rw[hr]at I;injection I with I;rw[I];exact .inr rfl
theorem fG{v:Value}{a:Option Addr}{n c:Nat}(h:v=.slice a n c):v.ownBlock=cF v:=by
 subst h;cases a<;>rfl
theorem dQ{w:World}{base:Nat}{size:Nat}{v:Value}{n:Nat}{xs:List Value}(h:w.ownsRow base e size v n xs):∃a c,v=.slice a n c:=by
 rcases h.2 with⟨rfl,rfl⟩ | ⟨g,u,cur,rfl,_⟩
 ·exact⟨none,0,rfl⟩
 exact⟨_,u,rfl⟩
theorem tE{w:World}{es:List (List HX)}{v:Value}{k:Nat}{Z:List Value}(hown:w.ownsRow 0 e k v es.length Z)(hk:∀r∈es,r.length=k){g:Nat}(O:cF v=some g){a j:Nat}{u:Value}:
  dT w es g a j u↔∃r e' J,es[a]?=some r/\r[j]?=some (.row e' J)/\Z[a*k+j]?=some u:=by
 rcases hown.2 with⟨hn,_⟩ | ⟨g',cap,R,hv,_,Hc,k1,k2,k3,k4⟩
 ·rw[hn]at O;cases O
 rw[hv]at O;obtain rfl:=jY.1 O;have N:∀{r:List HX} {x:HX},es[a]?=some r->r[j]?=some x->r.length=k/\a*k+j<es.length*k:=fun {r x} D I=>by
  have hr:=hk r (aj D);have z:=aC D;have U:=aC I;have:=cq k (jM z);rw[dO]at this;exact⟨hr,by omega⟩
 constructor
 ·rintro⟨r,e',J,c,ty,m,D,I,z,U⟩;rw[Hc]at z;injection z with z;injection z with z;subst z;obtain⟨W,Y⟩:=N D I;refine⟨r,e',J,D,I,?_⟩;rw[<-k4,oZ Y];rw[W]at U;simpa using U
 rintro⟨r,e',J,D,I,z⟩;obtain⟨W,Y⟩:=N D I;refine⟨r,e',J,R,_,_,D,I,Hc,?_⟩;rw[<-k4,oZ Y]at z;rw[W];simpa using z
theorem cn.abx{S:Nat->Prop}{a:Act}{w:World}(J:cn A V L S rho s a w)(hC:bP A.C){id d:Nat}(oc:L id){xs:List (List HX)}(aw:s.h id=.aw e xs){ys:List (List PV)}{Y:TypeInfo}(r_:A.C.P.info? e=some Y)
  (hdb:d<100000) (hL:¬L d) (hb:s.h d=.aw e (xs++ys.map uN)) {N:List Value} (P0:Flat S w Y.size ys N) {v':Value} {w':World} {ws:List Value} (hown:w.ownsRow 0 e Y.size (rho id) xs.length ws) (h2:w'.ownsRow 0 e Y.size v' (xs.length+ys.length) (ws++N)) (h3:w.grownBy w' (cF (rho id))) (h4:cF v'=cF (rho id)\/cF v'=some w.heap.size):
  cn A V (fun i=>L i\/i=d) S (a8 rho d v') ⟨s.t,a8 s.h id .none⟩ a w':=by
 have bY:(s.h id).live:=by rw[aw];trivial
 have Wn:id≠d:=fun e=>hL (e▸oc);have hh:=J.hp id oc;rw[aw]at hh;obtain⟨hR,hS⟩:=hh;have hR2:=hS.PU hR;obtain⟨i0,YI,k1,k2,k3,k4,k5,k6⟩:=hR2;rw[r_]at k1;injection k1 with k1;subst k1;have hws:YI=ws:=by
  rcases k3.2 with⟨D,U⟩ | ⟨g,cap,cur,D,_,W,q4,q5,q6,q7⟩
  ·have a1:YI=[]:=Az (by rw[k3.1,U];simp);have a2:ws=[]:=Az (by rw[hown.1,U];simp);rw[a1,a2]
  rcases hown.2 with⟨r1,_⟩ | ⟨g',aeF,We,r1,_,r3,r4,r5,r6,r7⟩
  ·rw[r1]at D;cases D
  rw[r1]at D;injection D with D;injection D with D;injection D with D;subst D;rw[W]at r3;injection r3 with r3;injection r3 with r3;subst r3;rw[<-q7,<-r7]
 subst hws;have Wo:∀r∈ys.map uN,r.length=Y.size:=fun r hr=>by
  obtain⟨q,hq,rfl⟩:=aZ.1 hr;rw[uN,E5];exact P0.row q hq
 have agR:∀r∈xs++ys.map uN,r.length=Y.size:=fun r hr=>(fC.1 hr).elim (k4 r) (Wo r);have Vg:w'.ownsRow 0 e Y.size v' (xs++ys.map uN).length (YI++N):=by rw[bJ,E5];exact h2
 have YJ:YI.length=xs.length*Y.size:=k3.1;have gU:∀g' k j u,cF v'=some g'->dT w' (xs++ys.map uN) g' k j u->∃g,cF (rho id)=some g/\dT w xs g k j u:=fun g' k j u qG hc=>by
  obtain⟨r,e',uV,D,U,W⟩:=(tE Vg agR qG).1 hc;by_cases hk:k<xs.length
  ·rw[dN hk]at D;have yp:=aC U;have Ah:=k4 r (aj D);have:=cq Y.size (jM hk);rw[dO]at this;rw[dN (by omega)]at W;obtain⟨g,u2,O,g2,_⟩:=hR.Hl D U;refine⟨g,O,(tE k3 k4 O).2 ⟨r,e',uV,D,U,W⟩⟩
  rw[du (by omega),aD]at D;obtain⟨q,_,rfl⟩:=qI.1 D;rw[uN,aD]at U;obtain⟨z,_,hz⟩:=qI.1 U;cases hz
 have Wp:∀g k j u b,cF (rho id)=some g->dT w xs g k j u->cF u=some b->hasB w (s.h id) (rho id) b:=fun g k j u b h1 h5 h6=>by rw[aw];exact .inr (.inr ⟨_,_,_,_,_,_,rfl,h1,h5,h6⟩)
 have T0:ng S S w w L L rho rho s.h (a8 s.h id .none):=⟨fun _ h=>h,fun _ _=>rfl,fun j R=>⟨by
   rcases b6 s.h id .none j with⟨rfl,h⟩ | ⟨_,h⟩
   ·rw[h]at R;exact R.elim
   ·rw[h]at R;exact R,fun h=>⟨h,rfl⟩⟩,fun j e' R=>by
   rcases b6 s.h id .none j with⟨rfl,h⟩ | ⟨_,h⟩
   ·rw[h]at R;cases R
   rw[h]at R;exact R⟩
 have Vh:∀k,k<w.heap.size->cF (rho id)≠some k->w'.heap[k]?=w.heap[k]?:=fun k hk hn=>h3.block k hk fun e=>hn e.symm;refine (J.kill id).sD hC d (.aw e (xs++ys.map uN)) hdb hL (by show a8 s.h id .none d=_;rw[bg _ _ Wn.symm];exact hb) w' h3.os h3.tape h3.output h3.size (fun k=>hasB w (s.h id) (rho id) k) (fun k hk hn=>Vh k hk fun h=>hn (.inl h)) (fun k hk=>?_) v' (fun g I=>?_) (fun T=>?_)
 ·obtain⟨D,U,W⟩:=J.lv id k oc bY hk;refine⟨U,fun i hi li fU=>?_,W⟩;have qa:(a8 s.h id .none i).live:=li;rcases b6 s.h id .none i with⟨rfl,h⟩ | ⟨cO,h⟩
  ·rw[h]at qa;exact qa.elim
  rw[h]at qa;exact cO (J.dj i id k hi oc qa bY (fF cO fU) hk)
 ·rcases I with I | ⟨cs,g',h,_⟩ | ⟨e',dv,g',k',j,u,D,U,W,q4⟩
  ·obtain⟨a1,c1,Ny⟩:=dQ h2;refine⟨(h2.lt g (by rw[fG Ny];exact I)).2,?_⟩;rcases h4 with h | h
   ·exact .inr (.inl (h▸I))
   rw[h]at I;injection I with I;exact .inl (by omega)
  ·cases h
  injection D with D q1';subst D q1';obtain⟨g0,O,g2⟩:=gU _ _ _ _ U W;have Nz:=Wp _ _ _ _ _ O g2 q4;exact⟨cB (J.lv id g oc bY Nz).1 h3.size,.inr Nz⟩
 show aH _ _ _ _ _ (a8 rho d v' d)/\yt _ _ (a8 rho d v' d);rw[aF];refine⟨⟨Y,YI++N,r_,k2,Vg,agR,fun u hu=>(fC.1 hu).elim (k5 u) (P0.one u),fun p r j x hp R=>?_⟩,fun g k j u b I hc Z=>?_,fun g k j k' j' u u' b I hc hc' Wq Aj=>?_⟩
 ·by_cases hk:p<xs.length
  ·rw[dN hk]at hp;obtain⟨u,hu,Du,abz⟩:=k6 p r j x hp R;refine⟨u,by rw[dN (aC hu)];exact hu,?_⟩;cases x with
   | av x=>exact bu.de T (bu.de T0 Du)
   | row e' uV=>
    refine aH.de (show aH _ _ _ _ _ _ from Du) (fun b Z=>Vh b ?_ fun h=>abz _ _ rfl b b h Z rfl) (fun x u hu=>hu.mono T.hS T.keep);obtain⟨g,u2,O,g2,_⟩:=hR.Hl hp R;have:u2=u:=by
     obtain⟨r',_,_,D,U,W⟩:=(tE k3 k4 O).1 g2;rw[hu]at W;injection W with W;exact W.symm
    subst this;exact (J.lv id b oc bY (Wp _ _ _ _ _ O g2 Z)).1
  rw[du (by omega),aD]at hp;obtain⟨q,hq,rfl⟩:=qI.1 hp;rw[uN,aD]at R;obtain⟨z,hz,rfl⟩:=qI.1 R;obtain⟨u,hu,Du⟩:=P0.rep _ _ _ _ hq hz;refine⟨u,?_,AG (Du.mono T.hS T.keep)⟩;have hm:xs.length*Y.size<=p*Y.size:=cq _ (by omega);rw[du (by rw[YJ];omega),YJ];rw[Nat.sub_mul]at hu;rw[<-hu];congr 1;omega
 ·obtain⟨g0,O,g2⟩:=gU _ _ _ _ I hc;rcases h4 with h | h
  ·rw[h,O]at I;injection I with I;subst I;exact hS.top _ _ _ _ _ O g2 Z
  rw[h]at I;injection I with I;have:=(J.lv id b oc bY (Wp _ _ _ _ _ O g2 Z)).1;omega
 obtain⟨g0,O,g2⟩:=gU _ _ _ _ I hc;obtain⟨g0',SX,g2'⟩:=gU _ _ _ _ I hc';rw[O]at SX;injection SX with SX;subst SX;exact hS.dis _ _ _ _ _ _ _ _ O g2 g2' Wq Aj
theorem NA{o:Oper}(c:Call)(aL:o.op=.call c)(hc:c.callee=.builtin .append):jV A o:=by
 intro V L S rho s a w K next Q hC z hV hd u hn I
 obtain⟨callee,args,argTypes⟩:=c;simp only at hc;subst hc;simp only[cc,aL,fc,fZ]at u;split at u
 ·rename_i x y t t' J PZ;have hx:=bF z x fun j hj=>hV j (by simp[aL,Op.operands,Call.operands,hj];rw[<-hj];exact cJ.1 (by rw[J];simp));have hy:=bF z y fun j hj=>hV j (by simp[aL,Op.operands,Call.operands,hj];rw[<-hj];exact cJ.1 (by rw[J];simp));have e1:args=#[x,y]:=by rw[<-kA (xs:=args),J]
  have e2:argTypes=#[t,t']:=by rw[<-kA (xs:=argTypes),PZ]
  subst e1 e2;split at u
  ·rename_i e size bytes zero eq htt hT;have htt:=jn htt;subst htt;have gj:=(hC.jw t _ hT).under;simp only at gj;split at u
   ·rename_i te yA;obtain⟨ie,ze,r_,Dv,Pv,Tq,Tr,kE⟩:=(hC.jw e te yA).info;have hzl:=(hC.jw e te yA).PL;split at u
    ·rename_i D;have D:0<ie.size:=by rw[Dv];exact gB D
     obtain⟨ys,u,YK⟩:=JX z hy u;have main:∀(xs:List (List PV)) (v:Value) (ws:List Value) (s2:AS),a.eval x=v->w.ownsRow 0 e ie.size v xs.length ws->Flat S w ie.size xs ws->(∀r∈ys,r.length=te.size)->(xs.length+ys.length)*te.bytes<=140737488355328->xs.length+ys.length<=140737488355328 ->
       cn A V L S rho s2 a w->(∀g,cF v=some g->¬S g/\(∀i,L i->(s2.h i).live->¬hasB w (s2.h i) (rho i) g)/\(A.mv g\/A.w0.heap.size<=g))->¬L (o.dst.getD 0)->s2.h (o.dst.getD 0)=.row e (xs++ys)->
       ∃W w' rho',(execOp a.eval o).run A.C.P w=.ok (.value W) w'/\cn A V (fun i=>L i\/i=o.dst.getD 0) S rho' s2 a w'/\W=rho' (o.dst.getD 0):=by
      intro xs v ws s2 hv hown zE hlen Wq Aj bH hR hL hb;obtain⟨ad,c',O,hyv,P0,N⟩:=YK ie.size (fun r R=>by rw[hlen r R,Dv]);obtain⟨W,w',R,Z,U,h4⟩:=uW (P:=A.C.P) w t o.type e ie ze gj r_ Tq (by rw[Tr];simp[hzl,Dv]) D v xs.length ws hown ad ys.length c' O P0.len
       (fun h0=>N (fun e=>h0 (by rw[e];rfl))) P0.one (by simp only[maxLen];omega) (by rw[Pv];exact Wq)
      obtain⟨a0,c0,YL⟩:=dQ hown;obtain⟨a1,c1,Ny⟩:=dQ Z;rw[fG YL]at U h4;rw[fG Ny]at h4;refine⟨W,w',a8 rho (o.dst.getD 0) W,by simp[execOp,aL,resolve,invoke,builtin,hv,hyv,R],?_,(aF _ _ _).symm⟩;refine bH.new hC (o.dst.getD 0) _ (bH.sa hd) hL hb w' U.os U.tape U.output U.size (fun k=>cF v=some k) (fun k hk YM=>U.block k hk (fun e=>YM e.symm)) (fun k hk=>hR k hk) W (fun g Y=>?_) (fun T=>?_)
      ·refine⟨(Z.lt g (by rw[fG Ny];exact Y)).2,?_⟩;rcases h4 with h | h
       ·exact .inr (h▸Y)
       rw[h]at Y;injection Y with Y;exact .inl (by omega)
      show aH A.C.P w' (aO S w') e (xs++ys) (a8 rho (o.dst.getD 0) W (o.dst.getD 0));rw[aF];exact aH.of_flat r_ D (by rw[bJ];exact Z) ((zE.app P0).mono T.hS T.keep)
     split at u
     ·rename_i Wh;rw[Wh]at hx;have hv:a.eval x=.slice none 0 0:=by cases h:a.eval x<;>rw[h]at hx<;>cases hx;rfl
      obtain⟨⟨h1,Z,U⟩,u⟩:=u;obtain⟨hL,hb⟩:=hn _ _ _ u;obtain⟨W,w',rho',R,bH,JS⟩:=main [] _ [] s hv ⟨by simp,.inl ⟨rfl,rfl⟩⟩ ⟨by simp,by simp,by simp,by simp⟩ h1 (by simpa using Z) (by simpa using U) z (fun g Y=>by simp[cF]at Y) hL (by simpa using hb);exact eB R (I _ _ _ S rho' _ _ u (bH.value o.dst hd _ _ (.ow _ _ fun _=>⟨.inr rfl,JS⟩)))
     ·rename_i id Wh;rw[Wh]at hx;split at u
      ·rename_i e' xs aw;split at u
       ·rename_i Ai;have Ai:=jn Ai;subst Ai;obtain⟨⟨h1,Z,U⟩,u⟩:=u;obtain⟨hL,hb⟩:=hn _ _ _ u;obtain⟨oc,hv⟩:=hx.cZ (by rw[aw];trivial);have hh:=z.hp id oc;rw[aw]at hh;obtain⟨ws,_,hown,zE⟩:=aH.flat r_ hh;have Wn:id≠o.dst.getD 0:=fun e=>hL (e▸oc);have bY:(s.h id).live:=by rw[aw];trivial
        obtain⟨W,w',rho',R,bH,JS⟩:=main xs _ ws ⟨s.t,a8 s.h id .none⟩ hv hown zE h1 Z U (z.kill id) (fun g Y=>by
          obtain⟨k1,k2,k3⟩:=z.qd id g oc bY Y;refine⟨k2,fun i hi li fU=>?_,k3⟩;have qa:(a8 s.h id .none i).live:=li;rcases b6 s.h id .none i with⟨rfl,h⟩ | ⟨cO,h⟩
          ·rw[h]at qa;exact qa.elim
          rw[h]at qa;exact cO (z.dj i id g hi oc qa bY (fF cO fU) (.inl Y))) hL (by show a8 s.h id .none (o.dst.getD 0)=_;rw[bg _ _ Wn.symm];exact hb)
        exact eB R (I _ _ _ S rho' _ _ u (bH.value o.dst hd _ _ (.ow _ _ fun _=>⟨.inr rfl,JS⟩)))
       exact u.elim
      ·rename_i e' xs aw;split at u
       ·rename_i Ai;have Ai:=jn Ai;subst Ai;obtain⟨⟨h1,Z,U⟩,u⟩:=u;obtain⟨hL,hb⟩:=hn _ _ _ u;obtain⟨oc,hv⟩:=hx.cZ (by rw[aw];trivial);have hh:=z.hp id oc;rw[aw]at hh;obtain⟨⟨i0,ws,Wr,_,hown,_⟩,_⟩:=hh;rw[r_]at Wr;injection Wr with Wr;subst Wr;obtain⟨ad,c',O,hyv,P0,N⟩:=YK ie.size (fun r R=>by rw[h1 r R,Dv]);obtain⟨W,w',R,q2,q3,q4⟩:=uW (P:=A.C.P) w t o.type e' ie ze gj r_ Tq (by rw[Tr];simp[hzl,Dv]) D (rho id) xs.length ws hown ad ys.length c' O P0.len
         (fun h0=>N (fun e=>h0 (by rw[e];rfl))) P0.one (by simp only[maxLen];omega) (by rw[Pv];exact Z)
        obtain⟨a0,c0,YL⟩:=dQ hown;obtain⟨a1,c1,Ny⟩:=dQ q2;rw[fG YL]at q3 q4;rw[fG Ny]at q4;have bH:=z.abx hC oc aw r_ (z.sa hd) hL hb P0 hown q2 q3 q4;exact eB (by simp[execOp,aL,resolve,invoke,builtin,hv,hyv,R]) (I _ _ _ S _ _ _ u (bH.value o.dst hd _ _ (.ow _ _ fun _=>⟨.inr rfl,(aF _ _ _).symm⟩)))
       exact u.elim
      exact u.elim
     exact u.elim
    exact u.elim
   exact u.elim
  exact u.elim
 exact u.elim
theorem Fj{o:Oper}(t:TypeId)(x y:Operand)(R:o.op=.makeSlice t x y):jV A o:=by
 intro V L S rho s a w K next Q hC I hV hd u hn N
 simp only[cc,R]at u;have hx:=bF I x fun j J=>hV j (by simp[R,Op.operands,J]);have hy:=bF I y fun j J=>hV j (by simp[R,Op.operands,J]);split at u
 ·rename_i e size bytes zero eq k n k' c hT h1 h2;have gj:=(hC.jw t _ hT).under;simp only at gj;rw[h1]at hx;rw[h2]at hy;split at u
  ·rename_i z Z;obtain⟨O,U,r_,Y,Pv,Tq,Tr,kE⟩:=(hC.jw e z Z).info;have hzl:=(hC.jw e z Z).PL;split at u
   ·rename_i D;have D:0<z.size:=gB D;obtain⟨⟨h0,Yf,hb,h63⟩,u⟩:=u;obtain⟨hL,hdb⟩:=hn _ _ _ u;have hr:=run_make (P:=A.C.P) w t e O U gj r_ Tq k k' n c h0 Yf (by rw[Pv,Int.mul_comm];omega) h63;have zE:=Flat.zero (A.C.bn t) S (w.alloc (.cells (madeCells U.cells (c.toNat*O.size)) e)) (hC.jw e z Z) D n.toNat;have key:∀(W:World) es xs,Flat S W z.size es xs->Flat S W O.size es xs:=fun W es xs h=>by rw[Y];exact h
    have hle:n.toNat*z.size<=c.toNat*z.size:=cq _ (by omega);have YN:((Array.range (n.toNat*z.size)).map (z.zero.toArray[· % z.zero.toArray.size]!)).toList=(madeCells U.cells (c.toNat*O.size)).toList.take (n.toNat*z.size):=by
     apply kz;intro j;rw[dM];split
     ·rename_i J;simp[madeCells,Tr,Y,J,cB J hle]
     rename_i J;rw[iR (by simpa using J)]
    have bH:=I.new hC (o.dst.getD 0) _ (I.sa hd) hL hdb (w.alloc (.cells (madeCells U.cells (c.toNat*O.size)) e)) rfl rfl rfl (by simp) (fun _=>False) (fun k hk _=>oY _ _ _ hk) (fun _ h=>h.elim) (.slice (some ⟨w.heap.size,0,none⟩) n.toNat c.toNat)
     (fun g hg=>by simp[cF]at hg;subst hg;simp) (fun T=>by
      show aH A.C.P _ _ e _ (a8 rho (o.dst.getD 0) _ (o.dst.getD 0));rw[aF];refine aH.of_flat r_ (by omega) ?_ (key _ _ _ zE);rw[YN,<-Y];refine⟨by rw[cE,bX,aaK,size_madeCells,Y];omega,.inr ⟨w.heap.size,c.toNat,_,by simp,ak _,heap_alloc_new w _,by simp;omega,by simp only[maxLen];omega,size_madeCells _ _,by simp⟩⟩)
    exact eB (by simp only[execOp,R,hx.bZ,hy.bZ,aV,hr,lR,dt]) (N _ _ _ S _ _ _ u (bH.value o.dst hd _ _ (.ow _ _ fun _=>⟨.inr rfl,(aF _ _ _).symm⟩)))
   exact u.elim
  exact u.elim
 exact u.elim
end Go.AM
namespace Go.AM
open Go.RowKit
theorem P1(off:Nat):∀(vs:List Value) (k:Nat) (cs:Array Value),(vs.zipIdx k).foldl (fun (cs:Array Value) (x:Value×Nat)=>cs.setIfInBounds (off+x.2) x.1) cs=(setCells cs.toList (off+k) vs).toArray:=by
 intro vs
 induction vs with
 | nil=>intro k cs;simp[setCells]
 | cons v vs ih=>
  intro k cs;simp only[List.zipIdx_cons,jN];rw[ih];simp[setCells,bp]
theorem yC(u:Nat->Option (Nat×Nat))(cells:Array Value)(i:Nat)(v:Value)(rest:List (Nat×Value))(off size:Nat)(hp:u i=some (off,size))(z:v.cells.size=size)(hl:off+size<=cells.size):
  Instr.fill u cells ((i,v)::rest)=Instr.fill u (setCells cells.toList off v.cells.toList).toArray rest:=by
 rw[Instr.fill,hp];simp only;rw[aa (by simp[z];omega)];congr 1;have:=P1 off v.cells.toList 0 cells;rw[tz]at this;rw[<-this,<-Array.foldl_toList,Array.toList_zipIdx]
structure jP(S:Nat->Prop)(w:World)(cs:List PV)(vs:List Value):Prop where
 len:vs.length=cs.length
 one:∀u∈vs,u.oneCell'=true
 rep:∀(j:Nat) x u,cs[j]?=some x->vs[j]?=some u->aO S w x u
theorem jP.mono{S S':Nat->Prop}{w:World}{cs:List PV}{vs:List Value}(h:jP S w cs vs)(hS:∀b,S b->S' b):jP S' w cs vs:=
 ⟨h.len,h.one,fun j x u z D=>(h.rep j x u z D).mono hS (fun _ _=>rfl)⟩
theorem jP.set{S:Nat->Prop}{w:World}{cs ys:List PV}{vs us:List Value}(h:jP S w cs vs)(g:jP S w ys us)(off:Nat)(hl:off+ys.length<=cs.length):jP S w (setCells cs off ys) (setCells vs off us):=by
 have e1:=fun j=>eJ ys cs off j hl;have e2:=fun j=>eJ us vs off j (by rw[g.len,h.len];exact hl);refine⟨by rw[dh,dh,h.len],fun u D=>?_,fun j x u z D=>?_⟩
 ·obtain⟨j,z⟩:=ca.1 D;rw[e2]at z;split at z
  ·exact g.one u (aj z)
  exact h.one u (aj z)
 rw[e1]at z;rw[e2,g.len]at D;split at z
 ·rename_i I;rw[ae I]at D;exact g.rep _ x u z D
 rename_i I;rw[aa I]at D;exact h.rep _ x u z D
theorem D_{S:Nat->Prop}{w:World}{x:PV}{ys:List PV}{v:Value}(h:vn x=some ys)(z:aO S w x v):jP S w ys v.cells.toList:=by
 obtain⟨D,I,J⟩:=zA h z;exact⟨by simpa using D,I,fun j y u N O=>J j y u N (by simpa using O)⟩
variable {A:rZ} {V L:Nat->Prop} {rho:Nat->Value} {fs:List (Nat×Nat×Bool)}
theorem NB(hC:bP A.C){t:Nat->AV}{a:Act}{w:World}{h:Nat->AB}(u:Nat->Option (Nat×Nat))(hp:∀(i:Nat) f,fs[i]?=some f->u i=some (f.1,f.2.1)):
  ∀(ps:List (Nat×Operand)) (h':Nat->AB) (S:Nat->Prop) (cs:List PV) (vs:List Value) (K:List PV->List (Nat×AB)->Prop),(∀p∈ps,∀j,p.2=.tmp j->V j)->cn A V L S rho ⟨t,h'⟩ a w->su h h'->jP S w cs vs->lA h fs (ev t) ps cs K ->
  ∃N fz S' O,K N fz/\cn A V L S' rho ⟨t,app h' fz⟩ a w/\su h (app h' fz)/\jP S' w N O/\Instr.fill u vs.toArray (ps.map fun p=>(p.1,a.eval p.2))=some O.toArray/\(∀p∈fz,L p.1):=by
 intro ps
 induction ps with
 | nil=>intro h' S cs vs K _ D U R z;exact⟨cs,[],S,vs,z,D,U,R,rfl,by simp⟩
 | cons p ps ih=>
  intro h' S cs vs K Z D U R z;obtain⟨i,x⟩:=p;unfold lA at z;split at z
  ·rename_i off size ag Tk;have hx:=bF D x fun j hj=>Z (i,x) (by simp) j hj;obtain⟨y,fz,S2,z,bH,I,AJ,Pu,Hs⟩:=jA hC D U hx z;split at z
   ·rename_i ys Wi;split at z
    ·rename_i W;simp only[aJ]at W;have e1:=jn W.1;have e2:=mK W.2;have J:=D_ Wi I;obtain⟨N,Y,S',O,k1,k2,k3,k4,k5,k9⟩:=ih (app h' fz) S2 _ _ _ (fun p hp=>Z p (by simp[hp])) bH Pu ((R.mono AJ).set J off (by omega)) z;refine⟨N,fz++Y,S',O,k1,by rw[cQ];exact k2,by rw[cQ];exact k3,k4,?_,fun p hp=>(fC.1 hp).elim (Hs p) (k9 p)⟩;rw[eH,yC u _ i _ _ off size (hp i _ Tk) (by simpa [e1] using J.len) (by simp[R.len];omega)];exact k5
    exact z.elim
   exact z.elim
  exact z.elim
theorem P2{P:Program}{t:TypeId}{size bytes:Nat}{zero:List Value}{eq:Bool}(W:qc P t ⟨.st fs,size,bytes,zero,eq⟩){l:List (Nat×Value)}{Y:Array Value}
  (k5:Instr.fill (fun i=>(fs[i]?).map fun f=>(f.1,f.2.1)) zero.toArray l=some Y):P.built t l=some Y:=by
 obtain⟨info,z,hi,hsz,hby,hz,u,kE⟩:=W.info;obtain⟨Z,vt,hl,hf⟩:=W.under;simp only at u;have Fk:Z.toList.mapM (fun f=>(P.info? f.type).map fun i=>(f.offset,i.size))=some (fs.map fun f=>(f.1,f.2.1)):=by
  have N:∀(I:List Field) (D:List (Nat×Nat×Bool)),D.length=I.length->(∀(i:Nat) f g,D[i]?=some f->I[i]?=some g->f.1=g.offset/\(∃O,P.info? g.type=some O/\O.size=f.2.1))->I.mapM (fun f=>(P.info? f.type).map fun i=>(f.offset,i.size))=some (D.map fun f=>(f.1,f.2.1)):=by
   intro I
   induction I with
   | nil=>intro D J _;have:D=[]:=Az J;subst this;rfl
   | cons g I ih=>
    intro D J h2;cases D with
    | nil=>simp at J
    | cons f D=>
     obtain⟨e1,O,e2,e3⟩:=h2 0 f g rfl rfl;have:=ih D (by simpa using J) (fun i f g R U=>h2 (i+1) f g (by simpa using R) (by simpa using U));rw[E6,e2,this];simp[e1,e3]
  exact N Z.toList fs (by simpa using hl) (fun i f g R U=>by
   obtain⟨e1,_,e2,_⟩:=hf i f g R (by simpa using U);exact⟨e1,e2⟩)
 unfold Program.built;rw[hi,vt];simp only[hz,Fk,u];rw[<-k5];congr 1;funext i;simp
theorem NC{S:Nat->Prop}{s:AS}{a:Act}{w:World}(O:cn A V L S rho s a w)(z:Nat->Option (Nat×Nat))(hp:∀(i:Nat) f,fs[i]?=some f->z i=some (f.1,f.2.1)):
  ∀(ps:List (Nat×Operand)) (cs:List AV) (vs:List Value) (K:List AV->Prop),(∀p∈ps,∀j,p.2=.tmp j->V j)->cs.length=vs.length->(∀u∈vs,u.oneCell'=true)->(∀(i:Nat) c u,cs[i]?=some c->vs[i]?=some u->bu S w A.C.P L rho s.h c u)->mU s.h fs (ev s.t) ps cs K ->
  ∃(R:List AV) (N:List Value),K R/\R.length=N.length/\(∀u∈N,u.oneCell'=true)/\(∀(i:Nat) c u,R[i]?=some c->N[i]?=some u->bu S w A.C.P L rho s.h c u)/\Instr.fill z vs.toArray (ps.map fun p=>(p.1,a.eval p.2))=some N.toArray:=by
 intro ps
 induction ps with
 | nil=>intro cs vs K _ hl U W D;exact⟨cs,vs,D,hl,U,W,rfl⟩
 | cons p ps ih=>
  intro cs vs K Y hl U W D;obtain⟨i,x⟩:=p;unfold mU at D;split at D
  ·rename_i off size ag Tk;split at D
   ·rename_i Z;simp only[aJ]at Z;obtain⟨⟨e1,e2⟩,e3⟩:=Z;have e1:=jn e1;have e2:=mK e2;have hx:=bF O x fun j I=>Y (i,x) (by simp) j I;have o1:=tD O e3 hx;have jx:=cells_one o1;have hlen:off<vs.length:=by omega
    obtain⟨R,N,k1,k2,k3,k4,k5⟩:=ih (cs.set off (ev s.t x)) (vs.set off (a.eval x)) K (fun p hp=>Y p (by simp[hp])) (by simp[hl]) (fun u J=>by
      rcases m_ J with h | h
      ·exact U u h
      ·rw[h];exact o1) (fun j c u I J=>by
      by_cases e:j=off
      ·subst e;rw[dZ (by omega)]at I J;injection I with I;injection J with J;subst I J;exact hx
      rw[gC (fun e'=>e e'.symm)]at I J;exact W j c u I J) D
    refine⟨R,N,k1,k2,k3,k4,?_⟩;rw[eH,yC z _ i _ _ off size (hp i _ Tk) (by rw[jx,e1];rfl) (by simp;omega),jx];exact k5
   exact D.elim
  exact D.elim
theorem P3{o:Oper}(t:TypeId)(ps:Array (Nat×Operand))(aL:o.op=.build t ps):jV A o:=by
 intro V L S rho s a w K next Q hC R hV hd U _ I
 simp only[cc,aL]at U;split at U
 ·rename_i fs size bytes zero eq hT;have gj:=(hC.jw t _ hT).under;obtain⟨info,z,hi,hsz,hby,hz,D,kE⟩:=(hC.jw t _ hT).info;obtain⟨gs,vt,hl,hf⟩:=gj;simp only at D kE;have qH:∀(i:Nat) f,fs[i]?=some f->(fun i=>(fs[i]?).map fun f=>(f.1,f.2.1)) i=some (f.1,f.2.1):=fun i f h=>by simp[h]
  split at U
  case h_2=>
   obtain⟨oM,W,k1,k2,k3,k4,k5⟩:=NC R (fun i=>(fs[i]?).map fun f=>(f.1,f.2.1)) qH ps.toList (zero.map No) zero (fun cs=>K (.st cs) [] none)
    (fun p hp j J=>hV j (by simp[aL,Op.operands];exact⟨p.1,by rw[<-J];exact cJ.1 hp⟩)) (by simp) kE (fun j x u J hu=>by
     rw[aD,hu]at J;simp at J;rw[<-J];exact Bp _ _ _ _ _ _ u) U
   have JZ:=P2 (hC.jw t _ hT) k5;exact aN R hd I k1 (.st _ W.toArray (by simpa using k2) (by simpa using k3) (fun i c u O Y=>k4 i c u O (by simpa using Y))) (by
    have hr:=run_build (P:=A.C.P) w t (ps.map fun p=>(p.1,a.eval p.2)) W.toArray (by simpa using JZ);simp only[execOp,aL,aV];rw[hr];simp)
  obtain⟨oM,fz,S',W,k1,k2,k3,k4,k5,_⟩:=NB hC (fun i=>(fs[i]?).map fun f=>(f.1,f.2.1)) qH ps.toList s.h S (zero.map (X_ (A.C.bn t))) zero (fun cs fz=>K (.p (.ag cs)) fz none)
   (fun p hp j J=>hV j (by simp[aL,Op.operands];exact⟨p.1,by rw[<-J];exact cJ.1 hp⟩)) R (su.refl _) ⟨by simp,kE,fun j x u J hu=>by
    rw[aD,hu]at J;simp at J;rw[<-J];exact LX _ _ _ u⟩ U
  have Fk:gs.toList.mapM (fun f=>(A.C.P.info? f.type).map fun i=>(f.offset,i.size))=some (fs.map fun f=>(f.1,f.2.1)):=by
   have gen:∀(Z:List Field) (N:List (Nat×Nat×Bool)),N.length=Z.length->(∀(i:Nat) f g,N[i]?=some f->Z[i]?=some g->f.1=g.offset/\(∃i2,A.C.P.info? g.type=some i2/\i2.size=f.2.1))->Z.mapM (fun f=>(A.C.P.info? f.type).map fun i=>(f.offset,i.size))=some (N.map fun f=>(f.1,f.2.1)):=by
    intro Z
    induction Z with
    | nil=>intro N O _;have:N=[]:=Az O;subst this;rfl
    | cons g Z ih=>
     intro N O Y;cases N with
     | nil=>simp at O
     | cons f N=>
      obtain⟨e1,i2,e2,e3⟩:=Y 0 f g rfl rfl;have:=ih N (by simpa using O) (fun i f g h3 h4=>Y (i+1) f g (by simpa using h3) (by simpa using h4));rw[E6,e2,this];simp[e1,e3]
   exact gen gs.toList fs (by simpa using hl) (fun i f g h3 h4=>by
    obtain⟨e1,_,e2,_⟩:=hf i f g h3 (by simpa using h4);exact⟨e1,e2⟩)
  have JZ:A.C.P.built t (ps.toList.map fun p=>(p.1,a.eval p.2))=some W.toArray:=by
   unfold Program.built;rw[hi,vt];simp only[hz,Fk,D];rw[<-k5];congr 1;funext i;simp
  refine D9 (s:=s) k2 hd I k1 (v:=.agg W.toArray) (.p _ _ (.ag _ _ (by simp[k4.len]) (by simpa using k4.one) fun i c v O Y=>k4.rep i c v O (by simpa using Y))) ?_;have hr:=run_build (P:=A.C.P) w t (ps.map fun p=>(p.1,a.eval p.2)) W.toArray (by simpa using JZ);simp only[execOp,aL,aV];rw[hr];simp
 exact U.elim
theorem ND{S:Nat->Prop}{s:AS}{a:Act}{w:World}{b:Bool}(hC:bP A.C){h:Nat->AB}(u:cn A V L S rho s a w)(D:su h s.h){x:AV}{v:Value}(I:bu S w A.C.P L rho s.h x v){K:PV->List (Nat×AB)->Prop}(z:zy b h x K):
  ∃y fz S',K y fz/\cn A V L S' rho ⟨s.t,app s.h fz⟩ a w/\aO S' w y v/\(∀b,S b->S' b)/\su h (app s.h fz)/\(∀p∈fz,L p.1):=by
 unfold zy at z;split at z
 ·have:v=.slice none 0 0:=by cases I;rfl
  rw[this];exact⟨_,[],S,z,u,.im _,fun _ h=>h,D,by simp⟩
 exact jA hC u D I z
theorem By(hC:bP A.C){t:Nat->AV}{a:Act}{w:World}{h:Nat->AB}{size:Nat}{b:Bool}:
  ∀(ps:List (Nat×Operand)) (h':Nat->AB) (S:Nat->Prop) (es:List (List PV)) (vs:List Value) (K:List (List PV)->List (Nat×AB)->Prop),(∀p∈ps,∀j,p.2=.tmp j->V j)->cn A V L S rho ⟨t,h'⟩ a w->su h h'->Flat S w size es vs->iD b h size (ev t) ps es K ->
  ∃J fz S' O,K J fz/\cn A V L S' rho ⟨t,app h' fz⟩ a w/\su h (app h' fz)/\Flat S' w size J O/\J.length=es.length/\Instr.fill (fun i=>some (i*size,size)) vs.toArray (ps.map fun p=>(p.1,a.eval p.2))=some O.toArray/\(∀p∈fz,L p.1):=by
 intro ps
 induction ps with
 | nil=>intro h' S es vs K _ D U R z;exact⟨es,[],S,vs,z,D,U,R,rfl,rfl,by simp⟩
 | cons p ps ih=>
  intro h' S es vs K Z D U R z;obtain⟨i,x⟩:=p;unfold iD at z;have hx:=bF D x fun j hj=>Z (i,x) (by simp) j hj;obtain⟨y,fz,S2,z,bH,N,AJ,Pu,Hs⟩:=ND hC D U hx z;split at z
  ·rename_i ys Wi;split at z
   ·rename_i W;simp only[aJ]at W;have e1:=jn W.1;have e2:i<es.length:=gB W.2;have I:=D_ Wi N;have YO:(a.eval x).cells.toList.length=size:=by rw[I.len,e1]
    have hb:i*size+size<=vs.length:=by rw[R.len,<-dO];exact cq _ e2
    obtain⟨J,Y,S',O,k1,k2,k3,k4,k5,k6,k9⟩:=ih (app h' fz) S2 _ _ _ (fun p hp=>Z p (by simp[hp])) bH Pu ((R.mono AJ (fun _ _=>rfl)).set i e2 ys _ e1 YO I.one (fun j y u h1 h2=>I.rep j y u h1 h2)) z;refine⟨J,fz++Y,S',O,k1,by rw[cQ];exact k2,by rw[cQ];exact k3,k4,by rw[k5,aQ],?_,fun p hp=>(fC.1 hp).elim (Hs p) (k9 p)⟩;rw[eH,yC _ _ i _ _ (i*size) size rfl (by simpa using YO) (by simpa using hb)];exact k6
   exact z.elim
  exact z.elim
theorem Dw{o:Oper}(t:TypeId)(len:Nat)(ps:Array (Nat×Operand))(aL:o.op=.buildSlice t len ps):jV A o:=by
 intro V L S rho s a w K next Q hC sim hV hd O hn I
 simp only[cc,aL]at O;split at O
 ·rename_i e size bytes zero eq hT;have gj:=(hC.jw t _ hT).under;simp only at gj;split at O
  ·rename_i u yA;obtain⟨ie,ze,r_,Dv,Pv,Tq,Tr,kE⟩:=(hC.jw e u yA).info;have hzl:=(hC.jw e u yA).PL;split at O
   ·rename_i mo;simp only[aJ]at mo;have D:0<u.size:=gB mo.1;have SY:=mK mo.2;split at O
    ·rename_i hbf;obtain⟨dv,fz,S',z,k1,R,k3,k4,U,k6,k9⟩:=By hC ps.toList s.h S _ _ (fun es fz=>K (.ow (o.dst.getD 0)) fz (some (.row e es)))
      (fun p hp j hj=>hV j (by simp[aL,Op.operands];exact⟨p.1,by rw[<-hj];exact cJ.1 hp⟩)) sim (su.refl _) (Flat.zero false S w (hC.jw e u yA) D len) O
     rw[bX]at U;obtain⟨hL,hb⟩:=hn _ _ _ k1;have Ws:(app s.h fz) (o.dst.getD 0)=.row e dv:=by
      rw[jO (fun p hp (e:p.1=_)=>hL (by rw[<-e];exact k9 p hp)),hb]
     have J:(execOp a.eval o).run A.C.P w=.ok (.value (.slice (some ⟨w.heap.size,0,none⟩) len len)) (w.alloc (.cells z.toArray e)):=by
      have e0:len*u.size=(Array.range (len*u.size)).size:=by simp
      have abD:¬16777216<len*u.size:=by omega
      have YP:Instr.fill (fun i=>some (i*u.size,u.size)) ((Array.range (len*u.size)).map (u.zero.toArray[· % u.zero.toArray.size]!)) (ps.map fun p=>(p.1,a.eval p.2)).toList=some z.toArray:=by
       rw[AE];rw[<-k6]
      have W:(Go.sizeOf e).run A.C.P w=.ok u.size w:=(hC.jw e u yA).sizeOf w;simp only[execOp,aL,Instr.buildSlice,aV,run_underlying gj,lR,W];rw[aa (show ¬len*u.size>2 ^ 24 by omega)];by_cases Y:len*u.size=0
      ·rw[ae Y];have k7:Instr.fill (fun i=>some (i*u.size,u.size)) ((Array.range (len*u.size)).map ((#[]:Array Value)[· % (#[]:Array Value).size]!)) (ps.map fun p=>(p.1,a.eval p.2)).toList=some z.toArray:=by
        have N:∀f:Nat->Value,(Array.range 0).map f=#[]:=fun f=>by apply E4;simp
        rw[<-YP,Y,N,N]
       simp only[aV,dt,lR];rw[k7];simp[newRow,newObj,Sem.run]
      rw[aa Y];have Z:(zeroValue e).run A.C.P w=.ok ze w:=by simp[zeroValue,typeInfo,r_,Tq]
      simp only[aV,dt,lR,Z];rw[Tr,YP];simp[newRow,newObj,Sem.run]
     have bH:=R.new hC (o.dst.getD 0) _ (R.sa hd) hL Ws (w.alloc (.cells z.toArray e)) rfl rfl rfl (by simp) (fun _=>False) (fun k hk _=>oY _ _ _ hk) (fun _ h=>h.elim) (.slice (some ⟨w.heap.size,0,none⟩) len len)
      (fun g hg=>by simp[cF]at hg;subst hg;simp) (fun T=>by
       show aH A.C.P _ _ e _ (a8 rho (o.dst.getD 0) _ (o.dst.getD 0));rw[aF];refine aH.of_flat r_ (by omega) ?_ (by rw[Dv];exact k4.mono T.hS T.keep);have:=World.ownsRow_lit (base:=0) (e:=e) (size:=u.size) w z.toArray len (ak _) (by simp only[maxLen];have:=LN len D;omega) (by simp[k4.len,U]);rw[Dv,U];exact this)
     exact eB J (I _ _ _ S' _ _ _ k1 (bH.value o.dst hd _ _ (.ow _ _ fun _=>⟨.inr rfl,(aF _ _ _).symm⟩)))
    rename_i hbf;obtain⟨dv,fz,S',z,k1,R,k3,k4,U,k6,k9⟩:=By hC ps.toList s.h S _ _ (fun es fz=>K (.ow (o.dst.getD 0)) fz (some (.lz es)))
     (fun p hp j hj=>hV j (by simp[aL,Op.operands];exact⟨p.1,by rw[<-hj];exact cJ.1 hp⟩)) sim (su.refl _) (Flat.zero false S w (hC.jw e u yA) D len) O
    rw[bX]at U;obtain⟨hL,hb⟩:=hn _ _ _ k1;have Ws:(app s.h fz) (o.dst.getD 0)=.lz dv:=by
     rw[jO (fun p hp (e:p.1=_)=>hL (by rw[<-e];exact k9 p hp)),hb]
    have J:(execOp a.eval o).run A.C.P w=.ok (.value (.slice (some ⟨w.heap.size,0,none⟩) len len)) (w.alloc (.cells z.toArray e)):=by
     have e0:len*u.size=(Array.range (len*u.size)).size:=by simp
     have abD:¬16777216<len*u.size:=by omega
     have YP:Instr.fill (fun i=>some (i*u.size,u.size)) ((Array.range (len*u.size)).map (u.zero.toArray[· % u.zero.toArray.size]!)) (ps.map fun p=>(p.1,a.eval p.2)).toList=some z.toArray:=by
      rw[AE];rw[<-k6]
     have W:(Go.sizeOf e).run A.C.P w=.ok u.size w:=(hC.jw e u yA).sizeOf w;simp only[execOp,aL,Instr.buildSlice,aV,run_underlying gj,lR,W];rw[aa (show ¬len*u.size>2 ^ 24 by omega)];by_cases Y:len*u.size=0
     ·rw[ae Y];have k7:Instr.fill (fun i=>some (i*u.size,u.size)) ((Array.range (len*u.size)).map ((#[]:Array Value)[· % (#[]:Array Value).size]!)) (ps.map fun p=>(p.1,a.eval p.2)).toList=some z.toArray:=by
       have N:∀f:Nat->Value,(Array.range 0).map f=#[]:=fun f=>by apply E4;simp
       rw[<-YP,Y,N,N]
      simp only[aV,dt,lR];rw[k7];simp[newRow,newObj,Sem.run]
     rw[aa Y];have Z:(zeroValue e).run A.C.P w=.ok ze w:=by simp[zeroValue,typeInfo,r_,Tq]
     simp only[aV,dt,lR,Z];rw[Tr,YP];simp[newRow,newObj,Sem.run]
    have Pw:Fr (fun _=>False) w (w.alloc (.cells z.toArray e)):=⟨rfl,rfl,rfl,by simp,fun k hk _=>oY _ _ _ hk⟩;have grow:=R.YE hC (w.alloc (.cells z.toArray e)) Pw (fun b=>S' b\/b=w.heap.size) (fun b h=>.inl h) (fun b h=>by
     rcases h with h | h
     ·exact cB (R.st b h) Pw.size
     subst h;simp) (fun b h=>h.imp id fun h=>by omega)
    have rr:aH A.C.P (w.alloc (.cells z.toArray e)) (aO S' (w.alloc (.cells z.toArray e))) e dv (.slice (some ⟨w.heap.size,0,none⟩) len len):=by
     refine aH.of_flat r_ (by omega) ?_ (by rw[Dv];exact k4.mono (fun _ h=>h) (fun b hb=>oY _ _ _ (R.st b hb)));have:=World.ownsRow_lit (base:=0) (e:=e) (size:=u.size) w z.toArray len (ak _) (by simp only[maxLen];have:=LN len D;omega) (by simp[k4.len,U]);rw[Dv,U];exact this
    have Hv:aO (fun b=>S' b\/b=w.heap.size) (w.alloc (.cells z.toArray e)) (.sl dv) (.slice (some ⟨w.heap.size,0,none⟩) len len):=rr.Hr (fun b h=>.inl h) (fun g hg=>by simp[cF]at hg;exact .inr hg.symm);have bH:=grow.Wb (o.dst.getD 0) dv (R.sa hd) hL Ws _ Hv;exact eB J (I _ _ _ _ _ _ _ k1 (bH.value o.dst hd _ _ (.ow _ _ fun _=>⟨.inr rfl,(aF _ _ _).symm⟩)))
   exact O.elim
  exact O.elim
 exact O.elim
end Go.AM
namespace Go.AM
open Go.RowKit
theorem P5:∀{a b:List Nat},shB a b=true->a=b
 | [],[],_=>rfl
 | [],_::_,h=>by cases h
 | _::_,[],h=>by cases h
 | a::r,b::s,h=>by
  unfold shB at h;split at h
  ·rename_i e;rw[cY e,P5 h]
  cases h
theorem P6{a b:MK}(h:mkB a b=true):a=b:=by
 cases a with
 | str=>cases b with | str=>rfl | int k=>cases h | st s=>cases h
 | int k=>cases b with
  | str=>cases k<;>cases h
  | int k'=>cases k<;>cases k'<;>first | rfl | cases h
  | st s=>cases k<;>cases h
 | st s=>cases b with
  | str=>cases h
  | int k=>cases k<;>cases h
  | st s'=>rw[P5 h]
def descOf:MK->TypeDesc
 | .str=>.string
 | .int k=>.int k
 | .st _=>.string
def Fl:MK->Prop
 | .st _=>False
 | _=>True
variable {mk:MK}
theorem J0{P:Program}{t:TypeId}{ti:TI}(h:qc P t ti)(hp:Fl mk)(u:Dr ti=some mk):P.underlying t=some (descOf mk):=by
 have D:=h.under;unfold Dr at u;cases z:ti.ud<;>rw[z]at u D<;>simp only at u<;>first
  | (cases u;done)
  | (injection u with u;subst u;exact D)
  | (
    split at u
    ·obtain⟨s,_,rfl⟩:=qI.1 u;exact hp.elim
    cases u)
theorem Dx:∀{sh:List Nat} {cs:List PV} {l:List Value},nY sh cs=some l->cs=l.map .im/\nc sh l:=by
 intro sh
 induction sh with
 | nil=>
  intro cs l h;cases cs with
  | nil=>injection h with h;subst h;exact⟨rfl,trivial⟩
  | cons c cs=>cases h
 | cons n sh ih=>
  intro cs l h;cases cs with
  | nil=>simp[nY]at h
  | cons c cs=>
   unfold nY at h;split at h
   all_goals first
    | contradiction
    | (
      rename_i u z;injection u with u I;injection z with z J;subst u I z J;obtain⟨l',hl,rfl⟩:=qI.1 h;obtain⟨N,D⟩:=ih hl;subst N
      first
       | exact⟨rfl,trivial,D⟩
       | exact⟨rfl,rfl,D⟩)
    | (cases h)
theorem Bz{a:AV}{k:Value}(h:keyOf mk a=some k):∃x,a=.p x/\mk.ok k/\∀S w v,aO S w x v->v=k:=by
 unfold keyOf at h;split at h
 ·injection h with h;subst h;exact⟨_,rfl,trivial,fun S w v u=>u.bZ⟩
 ·injection h with h;subst h;exact⟨_,rfl,rfl,fun S w v u=>u.bZ⟩
 ·obtain⟨l,hl,rfl⟩:=qI.1 h;obtain⟨rfl,J⟩:=Dx hl;refine⟨_,rfl,by simpa [MK.ok] using J,fun S w v u=>?_⟩;obtain⟨xs,e1,I,_,D⟩:=u.n_;rw[e1];congr 1;apply E4;apply kz;intro i;by_cases hi:i<xs.size
  ·have z:i<l.length:=by
                  have:l.length=xs.size:=by simpa using I
                  omega
   have:=(D i (.im l[i]) xs[i] (by rw[aD,oX z];rfl) (cC hi)).bZ;rw[kC,cC hi,this];simp[z]
  have z:¬i<l.length:=by
                  have:l.length=xs.size:=by simpa using I
                  omega
  rw[iR (by simpa using hi),iR (by simpa using z)]
 cases h
theorem J1(hp:Fl mk){a b:Value}(u:mk.ok a)(hb:mk.ok b):Instr.sameNow (descOf mk) a b=some (Dj a b):=by
 cases mk with
 | str=>
  cases a<;>first | (exact u.elim) | skip
  cases b<;>first | (exact hb.elim) | skip
  simp only[Instr.sameNow,descOf,Dj];congr 1;rw[Ax,E7];simp
 | int k=>
  cases a<;>first | (exact u.elim) | skip
  cases b<;>first | (exact hb.elim) | skip
  have z:_=k:=u;have D:_=k:=hb;subst z;subst D;simp[Instr.sameNow,descOf,Dj];rw[Ax];simp
 | st s=>exact hp.elim
theorem P7(hp:Fl mk){k:Value}(h:mk.ok k):MapKept.IsKey (descOf mk) k:=by
 cases mk with
 | str=>cases k<;>first | (exact h.elim) | exact trivial
 | int j=>cases k<;>first | (exact h.elim) | exact h
 | st s=>exact hp.elim
theorem bP.key{C:Ctx}(hC:bP C){u:TypeId}{z:TI}(h:C.T u=some z)(D:Dr z=some mk):PH C.P u mk:=by
 by_cases hp:Fl mk
 ·have I:=J0 (hC.jw u z h) hp D;refine⟨fun e k w hk=>MapKept.run_checkKey I (P7 hp hk) e 9999,fun k w ms hk J=>MapKept.run_findKey I ?_⟩;generalize 0=i
  induction ms generalizing i with
  | nil=>rfl
  | cons m ms ih=>
   have N:=J1 hp hk (J m bW);unfold Instr.findNow uU;rw[N];cases Dj k m.key with
   | true=>rfl
   | false=>exact ih (fun x O=>J x (cD _ O)) _
 cases mk with
 | st s=>exact hC.keys u z s h D
 | str=>exact (hp trivial).elim
 | int j=>exact (hp trivial).elim
theorem Ts:∀{sh:List Nat} {a b:List Value},nc sh a->nc sh b->Hj a b=true->a=b:=by
 intro sh
 induction sh with
 | nil=>
  intro a b z hb _;cases a with
  | nil=>cases b with
   | nil=>rfl
   | cons y b=>exact hb.elim
  | cons x a=>exact z.elim
 | cons n sh ih=>
  intro a b z hb h;cases a with
  | nil=>exact z.elim
  | cons x a=>cases b with
   | nil=>exact hb.elim
   | cons y b=>
    simp only[Hj,aJ]at h;rw[ih z.2 hb.2 h.2];have e:x=y:=by
     have D:=z.1;have u:=hb.1;unfold JO at D u;split at D
     ·split at u<;>first | (exact u.elim) | (rename_i e1;cases e1;done) | skip
      have:=h.1;simp[Nn]at this;rw[this]
     ·split at u<;>first | (exact u.elim) | (rename_i e1;cases e1;done) | skip
      have:=h.1;simp[Nn]at this;rw[this,D,u]
     ·split at u<;>first | (exact u.elim) | (rename_i e1;cases e1;done) | skip
      have:=h.1;simp[Nn]at this;rw[this]
     exact D.elim
    rw[e]
theorem Wt{a b:Value}(u:mk.ok a)(hb:mk.ok b)(h:Dj a b=true):a=b:=by
 cases mk with
 | str=>
  cases a<;>first | (exact u.elim) | skip
  cases b<;>first | (exact hb.elim) | skip
  simp[Dj]at h;rw[h]
 | int k=>
  cases a<;>first | (exact u.elim) | skip
  cases b<;>first | (exact hb.elim) | skip
  have z:_=k:=u;have D:_=k:=hb;subst z;subst D;simp[Dj]at h;rw[h]
 | st s=>
  cases a<;>first | (exact u.elim) | skip
  cases b<;>first | (exact hb.elim) | skip
  congr 1;exact E4 (Ts (sh:=s) u hb h)
theorem find_spec{k:Value}(hk:mk.ok k):∀(es:List (Value×PV)) (ms:List MapEntry) (j:Nat),ms.length=es.length->(∀(i:Nat) p m,es[i]?=some p->ms[i]?=some m->m.key=p.1/\mk.ok p.1)->
  (uU k ms j=none/\gz es k=none/\∀v,iS es k v=es++[(k,v)])\/
  ∃i m p,uU k ms j=some (j+i,m.val)/\ms[i]?=some m/\es[i]?=some p/\p.1=k/\gz es k=some p.2/\∀v,iS es k v=es.set i (k,v):=by
 intro es
 induction es with
 | nil=>
  intro ms j hl _;have:ms=[]:=Az hl;subst this;exact .inl ⟨rfl,rfl,fun v=>rfl⟩
 | cons p es ih=>
  intro ms j hl N;cases ms with
  | nil=>cases hl
  | cons m ms=>
   obtain⟨O,u⟩:=p;obtain⟨z,R⟩:=N 0 _ _ rfl rfl;simp only at z R;cases hv:Dj k O with
   | true=>
    refine .inr ⟨0,m,(O,u),?_,rfl,rfl,(Wt hk R hv).symm,by simp[gz,hv],fun v=>by simp[iS,hv]⟩;simp[uU,z,hv]
   | false=>
    rcases ih ms (j+1) (by simpa using hl) (fun i p m hp U=>N (i+1) p m (by simpa using hp) (by simpa using U)) with⟨D,I,J⟩ | ⟨i,W,p,D,I,J,Y,Z,q6⟩
    ·exact .inl ⟨by simp[uU,z,hv,D],by simp[gz,hv,I],fun v=>by simp[iS,hv,J v]⟩
    refine .inr ⟨i+1,W,p,?_,by simpa using I,by simpa using J,Y,by simp[gz,hv,Z],fun v=>by simp[iS,hv,q6 v]⟩;simp only[uU,z,hv,D];rw[bp,Nat.add_comm 1 i]
theorem BA{n:Nat}:∀{sh:List Nat} {l:List Value},nc sh l->((l.zip l).all fun (x,y)=>Instr.sameBits n x y)=true:=by
 intro sh
 induction sh with
 | nil=>intro l h;cases l with
  | nil=>rfl
  | cons x l=>exact h.elim
 | cons c sh ih=>
  intro l h;cases l with
  | nil=>exact h.elim
  | cons x l=>
   rw[List.zip_cons_cons,vZ,ih h.2,qJ];have u:=h.1;unfold JO at u;split at u
   ·cases n<;>exact (E7 _ _).2 rfl
   ·cases n<;>simp[Instr.sameBits]
   ·cases n<;>simp[Instr.sameBits]
   exact u.elim
theorem sameBits_self{k:Value}(hk:mk.ok k):Instr.sameBits 10000 k k=true:=by
 cases mk with
 | str=>
  cases k<;>first | (exact hk.elim) | skip
  simp only[Instr.sameBits];exact (E7 _ _).2 rfl
 | int j=>
  cases k<;>first | (exact hk.elim) | skip
  simp[Instr.sameBits]
 | st s=>
  cases k<;>first | (exact hk.elim) | skip
  rename_i xs;show (xs.size==xs.size&&(xs.toList.zip xs.toList).all fun (x,y)=>Instr.sameBits 9999 x y)=true;rw[BA (sh:=s) hk];simp
variable {A:rZ}
theorem J2{o:Oper}(t:TypeId)(J:o.op=.makeMap t none):jV A o:=by
 intro V L S rho s a w K next Q hC D hV N u R z
 simp only[cc,J]at u;split at u
 ·split at u
  ·split at u
   ·obtain⟨U,I⟩:=R _ _ _ u;have W:=D.new hC (o.dst.getD 0) _ (D.sa N) U I (w.alloc (.map #[] 0)) rfl rfl rfl (by simp) (fun _=>False) (fun k hk _=>oY _ _ _ hk) (fun _ h=>h.elim) (.map (some w.heap.size))
     (fun g O=>by simp[cF]at O;subst O;simp) (fun T=>by
      refine⟨w.heap.size,#[],0,aF _ _ _,(MapKept.heap_alloc w _).1,rfl,by simp,List.Pairwise.nil,fun m Y=>by cases Y⟩)
    exact eB (by simp[execOp,J,Instr.makeMap]) (z _ _ _ S _ _ _ u (W.value o.dst N _ _ (.ow _ _ fun _=>⟨.inr rfl,(aF _ _ _).symm⟩)))
   exact u.elim
  exact u.elim
 exact u.elim
theorem Ea{S:Nat->Prop}{w:World}{P:Program}{L:Nat->Prop}{rho:Nat->Value}{h:Nat->AB}{id:Nat}{es:List (Value×PV)}(z:fD S w P L rho h id (.map mk es)):
  ∃g ms u,rho id=.map (some g)/\w.heap[g]?=some (.map ms u)/\ms.size=es.length/\(∀(i:Nat) p m,es[i]?=some p->ms[i]?=some m->m.key=p.1/\mk.ok p.1/\aO S w p.2 m.val)/\abe ms u:=z
variable {ms:Array MapEntry}
theorem ag5{u:Nat}(h:abe ms u)(k v:Value):abe (ms.push { key:=k,val:=v,born:=u }) (u+1):=by
 obtain⟨I,D⟩:=h;refine⟨?_,fun m z=>?_⟩
 ·rw[Array.toList_push,E8];refine af.2 ⟨I,E9 _ _,fun a J b hb=>?_⟩;obtain⟨m,z,rfl⟩:=aZ.1 J;simp at hb;subst hb;exact D m z
 rw[Array.toList_push,fC]at z;rcases z with z | z
 ·have:=D m z;omega
 simp at z;subst z;simp
theorem afx{u:Nat}(h:abe ms u)(j:Nat)(k v:Value):abe (ms.modify j fun e=>{ e with key:=k,val:=v }) u:=by
 have e:(ms.modify j fun e=>{ e with key:=k,val:=v }).toList.map (·.born)=ms.toList.map (·.born):=by
  apply kz;intro i;simp only[aD,kC,tA];split<;>simp[Option.map_map,Function.comp_def]
 obtain⟨z,D⟩:=h;refine⟨by rw[e];exact z,fun m I=>?_⟩;have hb:m.born∈ms.toList.map (·.born):=by rw[<-e];exact aZ.2 ⟨m,I,rfl⟩
 obtain⟨J,N,hb⟩:=aZ.1 hb;rw[<-hb];exact D J N
theorem P9{es:List (Value×PV)}{R:PV->Value->Prop}(u:ms.size=es.length)(z:∀(i:Nat) p m,es[i]?=some p->ms[i]?=some m->m.key=p.1/\mk.ok p.1/\R p.2 m.val):∀m∈ms.toList,mk.ok m.key:=by
 intro m D;obtain⟨i,hi,rfl⟩:=dP D;have I:i<es.length:=by rw[<-u];simpa using hi
 obtain⟨J,N,_⟩:=z i es[i] (ms.toList[i]) (oX I) (by simp at hi;simp[hi]);rw[J];exact N
theorem J3{P:Program}{t:TypeId}{ti:TI}(h:qc P t ti)(Z:JR P t ti)(S:Nat->Prop)(w:World):∃z,(zeroValue t).run P w=.ok z w/\aO S w (Bo ti) z:=by
 obtain⟨info,z,W,h2,h3,Y,O,h6,h7,h8⟩:=h;obtain⟨adz,z',I,J,N⟩:=Z;rw[W]at I;injection I with I;subst I;rw[Y]at J;injection J with J;subst J;refine⟨z,by simp[zeroValue,typeInfo,W,Y],?_⟩;unfold Bo;cases D:ti.ud.agg with
 | true=>
  rw[D]at N;cases z<;>first | cases N | skip
  rename_i cs;have R:cs=ti.zero.toArray:=O;subst R;refine .ag _ _ (by simp) (fun u U=>h7 u (by simpa using U)) fun i c v hi hv=>?_;rw[aD]at hi;obtain⟨u,U,rfl⟩:=qI.1 hi;have:u=v:=by simpa [U] using hv
  subst this;exact wb S w u
 | false=>
  rw[D]at N;have R:z.cells=#[z]:=by cases z<;>first | rfl | cases N
  rw[R]at O;have:ti.zero=[z]:=by simpa using (ar Array.toList O).symm
  rw[this];exact wb S w z
theorem ad5{o:Oper}(t:TypeId)(x i:Operand)(J:Bool){V L S:Nat->Prop}{rho:Nat->Value}{s:AS}{a:Act}{w:World}{K:KK}{next:Act->World->Prop}{Q:Exit->Act->World->Prop}(hC:bP A.C)(W:cn A V L S rho s a w)(hd:∀d,o.dst=some d->d<A.n)
  (D:∀v eff new S' rho' a' w',K v eff new->cn A (yy V o.dst) (Br L new (o.dst.getD 0)) S' rho' ⟨fE s.t o.dst v,app s.h eff⟩ a' w'->next a' w')
  {kt et:TypeId} {R:TI} {mk:MK} {k:Value} {es:List (Value×PV)} {r:Option PV} {g:Nat} {ms:Array MapEntry} {N:Nat} (yA:A.C.T et=some R) (gj:A.C.P.underlying t=some (.map kt et)) (Tt:PH A.C.P kt mk) (Y:mk.ok k) (hi:a.eval i=k) (O:a.eval x=.map (some g)) (h2:w.heap[g]?=some (.map ms N)) (h3:ms.size=es.length) (h4:∀(i:Nat) p m,es[i]?=some p->ms[i]?=some m->m.key=p.1/\mk.ok p.1/\aO S w p.2 m.val) (hr:gz es k=r)
  (hq:match J with
   | true=>K (.tu [.p (r.getD (Bo R)),.p (.im (.bool r.isSome))]) [] none
   | false=>K (.p (r.getD (Bo R))) [] none) (aL:o.op=.lookup t x i J):o.wp A.C.P a w next Q:=by
 obtain⟨z,hz,hzr⟩:=J3 (hC.jw et R yA) (hC.zs et R yA) S w;have jz:∀m∈ms.toList,mk.ok m.key:=P9 h3 h4;have key:∃u,(Instr.lookup t (a.eval x) (a.eval i) J).run A.C.P w=.ok (if J then .tuple #[u,.bool r.isSome] else u) w/\aO S w (r.getD (Bo R)) u:=by
  rcases find_spec Y es ms.toList 0 (by simpa using h3) (fun i p m hp hm=>by obtain⟨Z,U,_⟩:=h4 i p m hp (by simpa using hm);exact⟨Z,U⟩) with⟨Z,U,_⟩ | ⟨j,m,p,Z,U,q3,q4,q5,_⟩
  ·rw[hr]at U;subst U;refine⟨z,?_,hzr⟩;cases J<;>simp[Instr.lookup,run_underlying gj,O,vY h2,hi,Tt.check _ _ _ Y,Tt.find _ _ _ Y jz,Z,hz]
  rw[hr]at q5;subst q5;refine⟨m.val,?_,(h4 j p m q3 (by simpa using U)).2.2⟩;cases J<;>simp[Instr.lookup,run_underlying gj,O,vY h2,hi,Tt.check _ _ _ Y,Tt.find _ _ _ Y jz,Z]
 obtain⟨u,I,hu⟩:=key;cases J with
 | true=>
  refine aN W hd D hq (.tu _ _ rfl fun i c v hc O=>?_) (by simp only[execOp,aL,aV,I,lR,dt];rfl)
  match i with
  | 0=>simp at hc O;subst hc O;exact .p _ _ hu
  | 1=>simp at hc O;subst hc O;exact .p _ _ (.im _)
  | i+2=>simp at hc
 | false=>exact aN W hd D hq (.p _ _ hu) (by simp only[execOp,aL,aV,I,lR,dt];rfl)
theorem NF{o:Oper}(t:TypeId)(x i:Operand)(U:Bool)(O:o.op=.lookup t x i U):jV A o:=by
 intro V L S rho s a w K next Q hC z hV hd u hn D
 simp only[cc,O]at u;have R:=bF z x fun j W=>hV j (by simp[O,Op.operands,W]);have hi:=bF z i fun j W=>hV j (by simp[O,Op.operands,W]);split at u
 case h_2=>exact u.elim
 rename_i kt et size bytes zero eq hT;have Y:=(hC.jw t _ hT).under;simp only at Y;split at u
 case h_2=>exact u.elim
 rename_i tk te Z yA;split at u
 case h_2=>exact u.elim
 rename_i mk hmk;have Tt:=hC.key Z hmk;split at u
 ·rename_i id hid;split at u
  case h_2=>exact u.elim
  rename_i mk' es J4;split at u
  case h_2=>exact u.elim
  rename_i P_;obtain rfl:=P6 P_;split at u
  case h_2=>exact u.elim
  rename_i k hk;obtain⟨xk,I,oQ,J⟩:=Bz hk;obtain⟨r,hr,u⟩:=u;rw[hid]at R;obtain⟨hL,hv⟩:=R.cZ (by rw[J4];trivial);have hh:=z.hp id hL;rw[J4]at hh;obtain⟨g,ms,N,h1,h2,h3,h4,_⟩:=Ea hh;rw[I]at hi;exact ad5 t x i U hC z hd D yA Y Tt oQ (J _ _ _ hi.eY) (hv.trans h1) h2 h3 h4 hr u O
 ·rename_i mk' es hid;split at u
  case h_2=>exact u.elim
  rename_i P_;obtain rfl:=P6 P_;split at u
  case h_2=>exact u.elim
  rename_i k hk;obtain⟨xk,I,oQ,J⟩:=Bz hk;obtain⟨r,hr,u⟩:=u;rw[hid]at R;obtain⟨g,ms,N,hv,_,h2,h3,h4,_⟩:=R.eY.agi;rw[I]at hi;exact ad5 t x i U hC z hd D yA Y Tt oQ (J _ _ _ hi.eY) hv h2 (by rw[E5];exact h3) (fun i p m hp hm=>by
   rw[aD,qI]at hp;obtain⟨q,u,rfl⟩:=hp;obtain⟨e1,e2,e3⟩:=h4 i q m u hm;exact⟨e1,e2,by rw[e3];exact .im _⟩) hr u O
 exact u.elim
theorem ag6{es:Array MapEntry}{seen:Array Nat}{e:MapEntry}(z:e∈(leftOf es seen).toList):(leftOf es (seen.push e.born)).size<(leftOf es seen).size:=by
 have h:(leftOf es (seen.push e.born))=(leftOf es seen).filter fun x=>!(x.born==e.born):=by
  unfold leftOf;rw[Array.filter_filter];congr 1;funext x;rw[Array.contains_push];cases seen.contains x.born<;>cases h:x.born==e.born<;>simp_all
 rw[h];rcases AF ((leftOf es seen).filter fun x=>!(x.born==e.born)).size (leftOf es seen).size with u | u
 ·exact u
 exfalso;have D:=Array.size_filter_le (p:=fun x=>!(x.born==e.born)) (xs:=leftOf es seen);have I:=(Array.filter_size_eq_size (p:=fun x=>!(x.born==e.born)) (xs:=leftOf es seen)).1 (Nat.le_antisymm D u);have:=I e (by simpa using z);simp at this
theorem run_next_at{P:Program}(w:World)(R:TypeId)(g bm u:Nat)(seen:Array Nat)(es:Array MapEntry)(U:w.heap[g]?=some (.mapIter (some bm) u seen u))(hb:w.heap[bm]?=some (.map es u))(D:∀x∈es.toList,x.born<u):
  ((leftOf es seen).size=0/\(Instr.next (.pointer (some ⟨g,0,none⟩)) false R).run P w=.ok (.tuple #[.bool false]) w)\/
  ∃e∈(leftOf es seen).toList,∃z:World,z.heap=w.heap/\z.os=w.os/\z.tape=w.tape/\z.output=w.output /\
   (Instr.next (.pointer (some ⟨g,0,none⟩)) false R).run P w=.ok (.tuple #[.bool true,e.key,e.val]) { z with heap:=w.heap.setIfInBounds g (.mapIter (some bm) u (seen.push e.born) u) }:=by
 simp only[Instr.next,getObj,aV,Sem.run,U,hb,Result.andThen,next_test_false seen es u u D (aG _),cK,if_false];unfold leftOf;have N:∀x∈(Array.filter (fun e=>!seen.contains e.born) es).toList,x.born<u:=fun x I=>D x (by simp at I ⊢;exact I.1);generalize Array.filter (fun e=>!seen.contains e.born) es=L at N ⊢;have e1:L.filter (fun x=>decide (x.born<u))=L:=Array.filter_eq_self.2 (fun x I=>by simpa using N x (by simpa using I));have e2:L.filter (fun x=>decide (x.born>=u))=#[]:=by
  rw[Array.filter_eq_empty_iff];intro x I;have:=N x (by simpa using I);simp;omega
 simp only[e1,e2,Array.append_empty];by_cases W:L.size=0
 ·left;have:L=#[]:=Array.eq_empty_of_size_eq_zero W;subst this;refine⟨rfl,?_⟩;simp[choose,Sem.run,Question.forced]
 right;have cO:L.isEmpty=false:=by simp[Array.isEmpty,W]
 simp only[cO,cK,if_false,Array.empty_append,Array.size_map];have O:∃(j:Nat) (z:World),j<L.size/\(z.heap=w.heap/\z.os=w.os/\z.tape=w.tape/\z.output=w.output)/\(choose (Question.mapNext L.size)).run P w=.ok j z:=by
  by_cases Y:L.size<=1
  ·exact⟨0,w,by omega,⟨rfl,rfl,rfl,rfl⟩,by simp[choose,Sem.run,Question.forced,Y]⟩
  exact⟨_,w.drew,LM _ (by omega),⟨rfl,rfl,rfl,rfl⟩,by
   simp only[choose,Sem.run,Question.forced,fV,Y,if_false,Question.cut];rfl⟩
 obtain⟨j,z,hj,⟨Z,q2,q3,q4⟩,J⟩:=O;refine⟨L[j],by simp,z,Z,q2,q3,q4,?_⟩;simp only[J,Array.getElem?_map,cC hj,mZ,aV,setObj,Sem.run,Result.andThen,Z,U];rfl
theorem ahG{o:Oper}(t:TypeId)(x:Operand)(J:o.op=.range t x):jV A o:=by
 intro V L S rho s a w K next Q hC z hV O D hn I
 simp only[cc,J]at D;have R:=bF z x fun j hj=>hV j (by simp[J,Op.operands,hj]);split at D
 case h_2=>exact D.elim
 rename_i kt et size bytes zero eq hT;have U:=(hC.jw t _ hT).under;simp only at U;split at D
 case h_2=>exact D.elim
 rename_i mk es hid;rw[hid]at R;obtain⟨g,ms,u,hv,hS,W,Y⟩:=R.eY.agi;obtain⟨hL,N⟩:=hn _ _ _ D;have eX:=z.st g hS;have bH:=z.new hC (o.dst.getD 0) _ (z.sa O) hL N (w.alloc (.mapIter (some g) u #[] u)) rfl rfl rfl (by simp) (fun _=>False) (fun k hk _=>oY _ _ _ hk) (fun _ h=>h.elim) (.pointer (some ⟨w.heap.size,0,none⟩))
  (fun g Z=>by simp[cF]at Z;subst Z;simp) (fun T=>by
   refine⟨w.heap.size,g,ms,u,#[],aF _ _ _,heap_alloc_new w _,hS,(heap_alloc_old w _ eX).trans W,Y,?_,fun p hp=>by cases hp⟩;rw[<-Y.1];simp[leftOf])
 exact eB (by simp[execOp,J,hv,run_range_map w t _ _ g ms u U W]) (I _ _ _ S _ _ _ D (bH.value o.dst O _ _ (.bx _ _ _ fun _=>⟨.inr rfl,_,aF _ _ _,rfl⟩)))
theorem ahH{o:Oper}(x:Operand)(U:o.op=.entry x):jV A o:=by
 intro V L S rho s a w K next Q hC u hV hd D hn z
 simp only[cc,U]at D;have W:=bF u x fun j hj=>hV j (by simp[U,Op.operands,hj]);split at D
 case h_2=>exact D.elim
 rename_i id hid;split at D
 case h_2=>exact D.elim
 rename_i mk es k p N;rw[hid]at W;obtain⟨hL,Y,qG,I⟩:=W.hY (by rw[N];trivial);have Z:=u.hp id hL;rw[N]at Z;obtain⟨g,mg,ms,clock,seen,J,h2,h3,h4,h5,h6,h7⟩:=Z;have eg:Y=g:=by rw[qG]at J;injection J with J;injection J with J;injection J
 subst eg;obtain⟨e,he,aiR,rfl,k1,k2⟩:=h7 p rfl;have hf:ms.find? (·.born==e.born)=some e:=by
  rw[<-Array.find?_toList];exact find_born e ms.toList (h5.2.2.1.imp fun h=>Nat.ne_of_lt h) he
 have O:(Instr.entry (.pointer (some ⟨Y,0,none⟩))).run A.C.P w=.ok (.tuple #[e.key,e.val]) w:=by
  simp only[Instr.entry,getObj,aV,Sem.run,h2,h4,Result.andThen,Array.back?_push,bne_self_eq_false,cK,if_false,hf];rfl
 refine eB (by simp only[execOp,U,I,aV,O,lR,dt];rfl) (z _ _ _ S _ _ _ D (u.value o.dst hd _ _ (.tu _ _ rfl fun i c v R I=>?_)))
 match i with
 | 0=>simp at R I;subst R I;rw[k1];exact .p _ _ (.im _)
 | 1=>simp at R I;subst R I;rw[k2];exact .p _ _ (.im _)
 | i+2=>simp at R
theorem Fm{o:Oper}(t:TypeId)(x i y:Operand)(aL:o.op=.mapUpdate t x i y):jV A o:=by
 intro V L S rho s a w K next Q hC I hV hd u hn R
 simp only[cc,aL]at u;have hx:=bF I x fun j hj=>hV j (by simp[aL,Op.operands,hj]);have hi:=bF I i fun j hj=>hV j (by simp[aL,Op.operands,hj]);have hy:=bF I y fun j hj=>hV j (by simp[aL,Op.operands,hj]);split at u
 case h_2=>exact u.elim
 rename_i kt et size bytes zero eq hT;have gj:=(hC.jw t _ hT).under;simp only at gj;split at u
 case h_2=>exact u.elim
 rename_i tk hTk;split at u
 case h_2=>exact u.elim
 rename_i mk U;have Tt:=hC.key hTk U;split at u
 case h_2=>exact u.elim
 rename_i id hid;split at u
 case h_2=>exact u.elim
 rename_i mk' es J4;split at u
 case h_2=>exact u.elim
 rename_i P_;obtain rfl:=P6 P_;split at u
 case h_2=>exact u.elim
 rename_i k hk;obtain⟨xk,hk1,N,hk3⟩:=Bz hk;obtain⟨yv,fz,S2,u,bH,O,AJ,hF,Hs⟩:=jA hC I (su.refl s.h) hy u;split at u
 case h_2=>exact u.elim
 rename_i Eb;have Aj:app s.h fz id=.map mk es:=by rw[oa Eb];exact J4
 rw[hid]at hx;obtain⟨hL,hv⟩:=hx.cZ (by rw[J4];trivial);have hh:=bH.hp id hL;have hh:fD S2 w A.C.P L rho (app s.h fz) id (app s.h fz id):=hh;rw[Aj]at hh;obtain⟨g,ms,D,h1,h2,h3,h4,hbo⟩:=Ea hh;rw[hk1]at hi;have hi:=hk3 _ _ _ hi.eY;have jz:∀m∈ms.toList,mk.ok m.key:=P9 h3 h4;have fin:∀J W,(Instr.mapUpdate t (a.eval x) (a.eval i) (a.eval y)).run A.C.P w=.ok () { w with heap:=w.heap.setIfInBounds g (.map J W) }->J.size=(iS es k yv).length->abe J W ->
   (∀(i:Nat) p m,(iS es k yv)[i]?=some p->J[i]?=some m->m.key=p.1/\mk.ok p.1/\aO S2 w p.2 m.val)->o.wp A.C.P a w next Q:=by
  intro J W hrun hsz akx abI;obtain⟨g1,g2⟩:=MapKept.heap_set (o':=.map J W) h2;refine sC (w':={ w with heap:=w.heap.setIfInBounds g (.map J W) }) (by simp only[execOp,aL,aV,hrun,lR,dt]) ?_;have fu:=bH.write hC id hL (by show (app s.h fz id).live;rw[Aj];trivial) (.map mk (iS es k yv)) (fun _ h=>by cases h) { w with heap:=w.heap.setIfInBounds g (.map J W) } rfl rfl rfl (by simp) (fun k hk=>g2 k fun e=>hk (by rw[h1,e];rfl)) fun T=>by
   refine⟨g,J,W,h1,g1,hsz,fun i p m hp z=>?_,akx⟩;obtain⟨Y,q2,Z⟩:=abI i p m hp z;exact⟨Y,q2,Z.mono T.hS T.keep⟩
  have:=R _ _ _ S2 _ _ _ u (by
   rw[cQ];exact fu.value o.dst hd .junk undef (.junk _))
  exact this
 rcases find_spec N es ms.toList 0 (by simpa using h3) (fun i p m hp z=>by obtain⟨Y,q2,_⟩:=h4 i p m hp (by simpa using z);exact⟨Y,q2⟩) with⟨Y,q2,Z⟩ | ⟨j,m,p,Y,q2,Z,q4,q5,q6⟩
 ·refine fin (ms.push { key:=k,val:=a.eval y,born:=D }) (D+1) ?_ (by rw[Z];simp[h3]) (ag5 hbo _ _) fun i p m hp z=>?_
  ·simp[Instr.mapUpdate,run_underlying gj,hv,h1,vY h2,hi,Tt.check _ _ _ N,Tt.find _ _ _ N jz,Y,MapKept.run_setObj_map _ h2]
  rw[Z]at hp;by_cases eX:i<es.length
  ·rw[dN eX]at hp;rw[Array.getElem?_push_lt (by omega)]at z;exact h4 i p m hp (by rw[<-z];exact cC _)
  have r_:i=es.length:=by
   have:=aC hp;simp at this;omega
  subst r_;rw[<-h3]at z;simp at hp z;subst hp z;exact⟨rfl,N,O⟩
 have P8:ms[j]?=some m:=by simpa using q2
 have U:m.key=k:=by rw[<-q4];exact (h4 j p m Z P8).1
 refine fin (ms.modify j fun e=>{ e with key:=k,val:=a.eval y }) D ?_ (by rw[q6];simp[h3]) (afx hbo _ _ _) fun i p' m' hp z=>?_
 ·simp[Instr.mapUpdate,run_underlying gj,hv,h1,vY h2,hi,Tt.check _ _ _ N,Tt.find _ _ _ N jz,Y,P8,U,Instr.keyThatStays,sameBits_self N,MapKept.run_setObj_map _ h2]
 rw[q6]at hp;rw[tA]at z;by_cases e:j=i
 ·subst e;rw[ae rfl,P8]at z;rw[dZ (aC Z)]at hp;simp at hp z;subst hp z;exact⟨rfl,N,O⟩
 rw[aa e]at z;rw[gC e]at hp;exact h4 i p' m' hp z
theorem ok_slice{o:Oper}(t:TypeId)(x:Operand)(lo hi:Option Operand)(I:o.op=.slice t x lo hi none):jV A o:=by
 intro V L S rho s a w K next Q hC D O hd u hn z
 have old:=Nx t x lo hi I hC D O hd (K:=K) (Q:=Q) (next:=next);simp only[cc,I]at u;split at u
 case h_2=>exact old u z
 rename_i id hid;split at u
 case h_2=>exact old u z
 rename_i e' es aw;rcases u with u | u
 case inr=>exact old u z
 have hx:=bF D x fun j J=>O j (by simp[I,Op.operands,J]);have Vd:∀y,lo=some y->bu S w A.C.P L rho s.h (ev s.t y) (a.eval y):=fun y Y=>bF D y fun j J=>O j (by simp[I,Op.operands,J,Y]);have Ve:∀y,hi=some y->bu S w A.C.P L rho s.h (ev s.t y) (a.eval y):=fun y Y=>bF D y fun j J=>O j (by simp[I,Op.operands,J,Y]);unfold v_ at u;split at u
 case h_2=>exact u.elim
 rename_i e size bytes zero eq hT;have gj:=(hC.jw t _ hT).under;simp only at gj;split at u
 case h_2=>exact u.elim
 rename_i Ai;obtain rfl:=jn Ai;split at u
 case h_2=>exact u.elim
 rename_i k m k' n h1 h2;obtain⟨⟨h3,h4,h5⟩,u⟩:=u;rw[hid]at hx;obtain⟨hL,hv⟩:=hx.cZ (by rw[aw];trivial);have R:=D.hp id hL;rw[aw]at R;have R:aH A.C.P w (aO S w) e' es (rho id):=R;obtain⟨ie,xs,r_,hpos,hown,_⟩:=R;have U:∃Z c,rho id=.slice Z es.length c/\es.length<=c:=by
  rcases hown.2 with⟨g1,g2⟩ | ⟨g,cap,cur,g1,_,_,g2,_⟩
  ·exact⟨none,0,by rw[g1,g2],by omega⟩
  exact⟨_,cap,g1,g2⟩
 obtain⟨Z,c,U,N⟩:=U;have hb:=Bx D lo hi Vd Ve true es.length c k m k' n N h1 h2 h3 h4 h5;refine aN D hd z u (.vw id _ _ _ fun e2 W=>?_) (by simp[execOp,I,Instr.sliceAt,Instr.slice,hv,U,run_underlying gj,hb,Go.sizeOf,typeInfo,r_];rfl);rw[aw]at W;injection W with W;subst W;exact⟨hL,es.length,c,Z,ie,U,r_,by omega,by omega,N,rfl⟩
theorem Flat.take{S:Nat->Prop}{w:World}{k:Nat}{es:List (List PV)}{xs:List Value}(h:Flat S w k es xs)(n:Nat)(z:n<=es.length):Flat S w k (es.take n) (xs.take (n*k)):=by
 have I:n*k<=es.length*k:=cq _ z;refine⟨by rw[cE,cE,h.len];rw[AK I,AK z],fun r J=>h.row r (Ay J),fun u N=>h.one u (Ay N),fun i r j x hi D=>?_⟩;have O:=aC hi;rw[cE]at O;rw[oZ (by omega)]at hi;obtain⟨u,R,U⟩:=h.rep i r j x hi D;have hjk:j<k:=by rw[<-h.row r (aj hi)];exact aC D
 refine⟨u,?_,U⟩;rw[oZ,R];have:=cq k (show i+1<=n by omega);rw[dO]at this;omega
theorem Flat.drop{S:Nat->Prop}{w:World}{k:Nat}{es:List (List PV)}{xs:List Value}(h:Flat S w k es xs)(n:Nat):Flat S w k (es.drop n) (xs.drop (n*k)):=by
 refine⟨by rw[lU,lU,h.len,Nat.sub_mul],fun r z=>h.row r (fY z),fun u D=>h.one u (fY D),fun i r j x hi I=>?_⟩;rw[aW]at hi;obtain⟨u,J,N⟩:=h.rep (n+i) r j x hi I;refine⟨u,?_,N⟩;rw[aW,<-J];congr 1;rw[mY,bp]
theorem Qa{o:Oper}(c:Call)(aL:o.op=.call c)(hc:c.callee=.builtin .clear):jV A o:=by
 intro V L S rho s a w K next Q hC N hV hd z _ U
 obtain⟨callee,args,argTypes⟩:=c;simp only at hc;subst hc;simp only[cc,aL,fc,fZ]at z;split at z
 case h_2=>exact z.elim
 rename_i x t D PZ;have hx:=bF N x fun j hj=>hV j (by simp[aL,Op.operands,Call.operands,hj];rw[<-hj];exact cJ.1 (by rw[D];simp));have e1:args=#[x]:=by rw[<-kA (xs:=args),D]
 have e2:argTypes=#[t]:=by rw[<-kA (xs:=argTypes),PZ]
 subst e1 e2;split at z
 case h_2=>exact z.elim
 rename_i e size bytes zero eq hT;have gj:=(hC.jw t _ hT).under;simp only at gj;split at z
 case h_2=>exact z.elim
 rename_i ti yA;split at z
 case h_2=>exact z.elim
 rename_i id lo hi hid;split at z
 case h_2=>exact z.elim
 rename_i e' es aw;split at z
 case h_2=>exact z.elim
 rename_i L7;simp only[aJ]at L7;obtain⟨Ai,I⟩:=L7;obtain⟨⟨hlh,hhl⟩,z⟩:=z;obtain rfl:=jn Ai;have I:0<ti.size:=gB I;rw[hid]at hx;obtain⟨hL,n,cp,ad,ti',ni,Bw,_,hhn,Yf,R⟩:=hx.Ff aw;have hh:=N.hp id hL;rw[aw]at hh;have hh:aH A.C.P w (aO S w) e' es (rho id):=hh;obtain⟨u,W,r_,Dv,Pv,Tq,Tr,kE⟩:=(hC.jw e' ti yA).info;rw[r_]at Bw;injection Bw with Bw;subst Bw;obtain⟨xs,Hf,hown,zE⟩:=aH.flat r_ hh;have fin:∀w',(∀ty,(Builtin.clear_ #[t] ty #[a.eval x]).run A.C.P w=.ok (.tuple #[]) w')->cn A V L S rho ⟨s.t,a8 s.h id (.row e' (es.take lo++List.replicate (hi-lo) (ti.zero.map Ag)++es.drop hi))⟩ a w'->o.wp A.C.P a w next Q:=by
  intro w' Y cv;exact eB (v:=.tuple #[]) (by simp[execOp,aL,resolve,invoke,builtin,Y]) (U _ _ _ S _ _ _ z (cv.value o.dst hd (.tu []) _ (.tu [] #[] rfl (by simp))))
 by_cases heq:hi=lo
 ·subst heq;refine fin w (fun ty=>?_) ?_
  ·rw[R,jL];cases (if cp=hi then ad else ad.map (·.add (hi*u.size)))<;>simp[Builtin.clear_,run_underlying gj]
  rw[jL,List.replicate_zero,aq,nj,kD _ _ _ aw];exact N
 rcases hown.2 with⟨g1,g2⟩ | ⟨g,J,O,g1,_,g3,g4,g5,g6,g7⟩
 ·exact absurd g2 (by omega)
 have Vj:=ni;rw[g1]at Vj;injection Vj with r1 r2 r3;subst r1 r2 r3;have hv2:a.eval x=.slice (some ⟨g,lo*u.size,none⟩) (hi-lo) (J-lo):=by
  rw[R,aa (by omega)];simp only[mZ,Addr.add];split
  ·rename_i h0;rw[h0]
  simp
 have hzs:((Array.range ((hi-lo)*ti.size)).map (ti.zero.toArray[· % ti.zero.toArray.size]!))=Builtin.zeroCells W.cells (hi-lo):=by
  unfold Builtin.zeroCells;rw[Tr,(show ti.zero.toArray.size=ti.size by simpa using (hC.jw e' ti yA).PL)]
 have hz:=Flat.zero false S w (hC.jw e' ti yA) I (hi-lo);rw[hzs,<-Dv]at hz;have jx:(Builtin.zeroCells W.cells (hi-lo)).toList.length=(hi-lo)*u.size:=by rw[hz.len,bX]
 have Fo:hi*u.size<=J*u.size:=cq _ (by omega);have abJ:lo*u.size+(hi-lo)*u.size=hi*u.size:=by rw[<-mY];congr 1;omega
 have wh:=run_storeCells_at A.C.P g (lo*u.size) e' (Builtin.zeroCells W.cells (hi-lo)).toList 0 O w g3 (by rw[jx,g6];omega) hz.one;simp only[tz]at wh;have NG:hi-lo≠0:=by omega
 refine fin (w.setRow g (O.toList.take (lo*u.size)++(Builtin.zeroCells W.cells (hi-lo)).toList++O.toList.drop (lo*u.size+(Builtin.zeroCells W.cells (hi-lo)).toList.length)).toArray) (fun ty=>?_) ?_
 ·rw[hv2];cases hk:hi-lo with
  | zero=>exact absurd hk NG
  | succ m=>
   rw[hk]at wh;simp[Builtin.clear_,run_underlying gj,zeroValue,typeInfo,r_,Tq,wh]
 refine N.write hC id hL (by rw[aw];trivial) _ (fun e2 h=>by rw[aw];exact h) _ (setRow_os w g _) (setRow_tape w g _) (setRow_output w g _) (setRow_size w g _) (fun k hk=>setRow_other w g k _ fun e=>hk (by rw[g1,e];rfl)) fun T=>?_;show aH A.C.P _ _ e' _ (rho id);have hF:Flat S w u.size (es.take lo++List.replicate (hi-lo) (ti.zero.map Ag)++es.drop hi) (xs.take (lo*u.size)++(Builtin.zeroCells W.cells (hi-lo)).toList++xs.drop (hi*u.size)):=((zE.take lo (by omega)).app hz).app (zE.drop hi);refine aH.of_flat r_ Hf ?_ (hF.mono T.hS T.keep);have Z:(es.take lo++List.replicate (hi-lo) (ti.zero.map Ag)++es.drop hi).length=es.length:=by simp;omega
 rw[Z];refine⟨by rw[hF.len,Z],.inr ⟨g,J,_,g1,ak _,setRow_heap w g O _ e' (0,0) g3,g4,g5,?_,?_⟩⟩
 ·rw[lS,bJ,bJ,jx,cE,lU,aaK,g6];omega
 rw[<-g7,jx,abJ];have h1:lo*u.size<=es.length*u.size:=cq _ (by omega);have h2:hi*u.size<=es.length*u.size:=cq _ hhl;have h3:es.length*u.size<=J*u.size:=cq _ g4;simp only[List.take_append,bJ,cE,aaK,g6,jx,cL,List.drop_take];rw[AK (show lo*u.size<=J*u.size by omega),AK h1];rw[Nat.min_eq_right h1,kG (l:=(Builtin.zeroCells W.cells (hi-lo)).toList) (by rw[jx];omega)];rw[show es.length*u.size-(lo*u.size+(hi-lo)*u.size)=es.length*u.size-hi*u.size by omega]
end Go.AM
