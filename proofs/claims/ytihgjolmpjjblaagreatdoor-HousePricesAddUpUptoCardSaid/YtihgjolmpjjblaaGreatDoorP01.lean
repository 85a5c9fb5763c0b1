/- Part 1 of the proof of HousePricesAddUp. -/
import Derived.StillTail
import Derived.OwnWalk
import Derived.WalkKit
import Derived.Lib.Hide
import Derived.Below
import Derived.MapKept
set_option linter.unusedVariables false
set_option linter.unusedSimpArgs false
set_option maxRecDepth 100000
set_option maxHeartbeats 8000000
namespace Go
abbrev cu:=@Bool.eq_false_iff
abbrev cY:=@Nat.eq_of_beq_eq_true
abbrev E3:=@Go.World.cell?_of_block
abbrev aG:=@Nat.le_refl
abbrev aS:=@Nat.le_trans
abbrev cB:=@Nat.lt_of_lt_of_le
abbrev aj:=@List.mem_of_getElem?
abbrev az:=@List.getElem?_eq_some_iff
abbrev dM:=@List.getElem?_take
abbrev vW:=@Array.getD_eq_getD_getElem?
abbrev Aw:=@Array.getElem?_setIfInBounds
abbrev aa:=@if_neg
abbrev dY:=@List.all_eq_true
abbrev aD:=@List.getElem?_map
abbrev cC:=@Array.getElem?_eq_getElem
abbrev Ax:=@Go.IntWalk.i64_in
abbrev fV:=@Bool.eq_iff_iff
abbrev db:=@decide_eq_true_eq
abbrev E4:=@Go.ByteArray.toList_eq
abbrev qI:=@Array.ext'
abbrev aV:=@Option.map_eq_some_iff
abbrev bT:=@Go.Sem.run_bind
abbrev oX:=@Go.Addr.add_lit
abbrev aW:=@List.getElem?_eq_getElem
abbrev gB:=@List.getElem?_drop
abbrev jK:=@Nat.le_of_ble_eq_true
abbrev fX:=@List.getElem?_range
abbrev bp:=@Nat.zero_add
abbrev lR:=@Nat.add_assoc
abbrev dt:=@Go.Result.andThen_ok
abbrev fY:=@Go.Sem.run_pure
abbrev Ay:=@List.mem_of_mem_drop
abbrev tz:=@List.mem_of_mem_take
abbrev mY:=@Nat.add_zero
abbrev mZ:=@Nat.add_mul
abbrev fB:=@Option.map_some
abbrev Az:=@Array.mem_of_getElem?
abbrev cI:=@List.eq_nil_of_length_eq_zero
abbrev fC:=@Iff.rfl
abbrev b_:=@List.mem_append
abbrev oY:=@Go.RowKit.Below.heap_alloc
abbrev kv:=@List.length_nil
abbrev bN:=@List.length_cons
abbrev ae:=@if_pos
abbrev jL:=@Nat.sub_self
abbrev dZ:=@List.getElem?_set_self
abbrev vX:=@List.getElem?_cons_succ
abbrev gC:=@List.getElem?_set_ne
abbrev d_:=@List.append_assoc
abbrev dN:=@List.getElem?_append_left
abbrev oZ:=@List.getElem?_take_of_lt
abbrev du:=@List.getElem?_append_right
abbrev dO:=@Nat.succ_mul
abbrev cq:=@Nat.mul_le_mul_right
abbrev aQ:=@List.length_set
abbrev ak:=@Nat.zero_le
abbrev lS:=@List.size_toArray
abbrev bJ:=@List.length_append
abbrev cE:=@List.length_take
abbrev lU:=@List.length_drop
abbrev lV:=@Array.length_toList
abbrev kz:=@List.ext_getElem?
abbrev iR:=@List.getElem?_eq_none
abbrev m_:=@List.mem_or_eq_of_mem_set
abbrev ca:=@List.mem_iff_getElem?
abbrev AA:=@Nat.lt_or_gt_of_ne
abbrev jM:=@Nat.succ_le_of_lt
abbrev ij:=@List.length_singleton
abbrev aJ:=@Bool.and_eq_true
abbrev cJ:=@Array.mem_toList_iff
abbrev kA:=@Array.toArray_toList
abbrev vY:=@Go.MapKept.run_getObj_map
abbrev o5:=@List.getElem_mem
abbrev na:=@Nat.mod_lt
abbrev LM:=@List.eq_of_mem_replicate
abbrev au:=@List.length_map
abbrev E5:=@Nat.mod_eq_of_lt
abbrev AD:=@List.exists_mem_of_ne_nil
abbrev aZ:=@List.mem_map
abbrev bX:=@List.length_replicate
abbrev jN:=@List.foldl_cons
abbrev eH:=@List.map_cons
abbrev E6:=@List.mapM_cons
abbrev AE:=@Array.toList_map
abbrev LN:=@Nat.le_mul_of_pos_right
abbrev kC:=@Array.getElem?_toList
abbrev E7:=@Go.MapKept.bytes_beq
abbrev bW:=@List.mem_cons_self
abbrev cD:=@List.mem_cons_of_mem
abbrev vZ:=@List.all_cons
abbrev qJ:=@Bool.and_true
abbrev E8:=@List.getElem_of_mem
abbrev af:=@congrArg
abbrev E9:=@Array.getElem?_modify
abbrev tA:=@Nat.min_eq_left
abbrev dP:=@List.append_nil
abbrev o6:=@List.take_append_drop
abbrev AF:=@List.take_take
abbrev cK:=@List.take_of_length_le
end Go
namespace Go.AM
open Go.RowKit
inductive PV where
 | im (x:Value)
 | ag (cs:List PV)
 | sl (es:List (List PV))
 | ip (cs:List PV)
 | fn (f:FuncId) (cap:List PV)
inductive AV where
 | p (x:PV)
 | nl
 | ow (id:Nat)
 | rp (id i off:Nat)
 | bx (id off:Nat)
 | vw (id lo hi:Nat)
 | fn (f:FuncId) (cap:List AV)
 | tu (xs:List AV)
 | st (xs:List AV)
 | junk
inductive MK where
 | str
 | int (k:IntKind)
 | st (sh:List Nat)
def JO:Nat->Value->Prop
 | 0,.string _=>True
 | 1,.int k _=>k=.i64
 | 2,.bool _=>True
 | _,_=>False
def nc:List Nat->List Value->Prop
 | [],[]=>True
 | n::s,v::r=>JO n v/\nc s r
 | _,_=>False
def MK.ok:MK->Value->Prop
 | .str,.string _=>True
 | .int k,.int k' _=>k'=k
 | .st sh,.agg xs=>nc sh xs.toList
 | _,_=>False
inductive HC where
 | p (x:PV)
 | row (e:TypeId) (es:List (List PV))
def HC.isRow:HC->Prop
 | .row ..=>True
 | _=>False
inductive HX where
 | av (x:AV)
 | row (e:TypeId) (es:List (List PV))
inductive AB where
 | none
 | row (e:TypeId) (es:List (List PV))
 | lz (es:List (List PV))
 | box (cs:List AV)
 | kr (ty:TypeId) (cs:List AV)
 | nd (cs:List PV)
 | map (mk:MK) (es:List (Value×PV))
 | aU (cs:List HC)
 | aw (e:TypeId) (es:List (List HX))
def AB.live:AB->Prop
 | .row .. | .box .. | .kr .. | .map .. | .aU .. | .aw ..=>True
 | _=>False
def AB.qK:AB->Option TypeId
 | .row e _=>some e
 | .aw e _=>some e
 | _=>Option.none
def AB.there:AB->Prop
 | .none=>False
 | _=>True
structure AS where
 t:Nat->AV
 h:Nat->AB
def bd{α:Type}(f:Nat->α)(i:Nat)(x:α)(j:Nat):α:=match Nat.beq j i with | true=>x | false=>f j
variable {α:Type}
theorem aF(f:Nat->α)(i:Nat)(x:α):bd f i x i=x:=by simp[bd]
theorem bg(f:Nat->α){i j:Nat}(x:α)(h:j≠i):bd f i x j=f j:=by
 unfold bd;have:Nat.beq j i=false:=by rw[cu];intro e;exact h (cY e)
 rw[this]
theorem kD(f:Nat->α)(i:Nat)(x:α)(h:f i=x):bd f i x=f:=by
 funext j;by_cases e:j=i
 ·subst e;rw[aF,h]
 rw[bg _ _ e]
inductive aO(S:Nat->Prop)(w:World):PV->Value->Prop
 | im (x:Value):aO S w (.im x) x
 | ag (cs:List PV) (vs:Array Value) (hl:cs.length=vs.size) (h1:∀u∈vs.toList,u.oneCell'=true) (h:∀(i:Nat) c v,cs[i]?=some c->vs[i]?=some v->aO S w c v):aO S w (.ag cs) (.agg vs)
 | nil (a:Option Addr) (c:Nat):aO S w (.sl []) (.slice a 0 c)
 | sl (es:List (List PV)) (k b off c:Nat) (U:Nat->Nat->Value) (hc:es.length<=c) (hS:S b) (hk:∀e∈es,e.length=k)
   (hcell:∀(i:Nat) e (j:Nat) x,es[i]?=some e->e[j]?=some x->w.cell? ⟨b,off+i*k+j,none⟩=some (U i j)/\(U i j).oneCell'=true)
   (h:∀(i:Nat) e (j:Nat) x,es[i]?=some e->e[j]?=some x->aO S w x (U i j)):aO S w (.sl es) (.slice (some ⟨b,off,none⟩) es.length c)
 | ip (cs:List PV) (b off:Nat) (U:Nat->Value) (hS:S b) (hcell:∀(j:Nat) x,cs[j]?=some x->w.cell? ⟨b,off+j,none⟩=some (U j)/\(U j).oneCell'=true)
   (h:∀(j:Nat) x,cs[j]?=some x->aO S w x (U j)):aO S w (.ip cs) (.pointer (some ⟨b,off,none⟩))
 | fn (f:FuncId) (cap:List PV) (vs:Array Value) (hl:cap.length=vs.size) (h:∀(i:Nat) c v,cap[i]?=some c->vs[i]?=some v->aO S w c v):aO S w (.fn f cap) (.func (.func f) #[] vs)
variable {w':World}
theorem aO.mono{S S':Nat->Prop}{w:World}{x:PV}{v:Value}(h:aO S w x v)(hS:∀b,S b->S' b)(D:∀b,S b->w'.heap[b]?=w.heap[b]?):aO S' w' x v:=by
 induction h with
 | im x=>exact .im x
 | ag cs vs hl z h ih=>exact .ag cs vs hl z ih
 | nil a c=>exact .nil a c
 | sl es k b off c U hc hb hk hcell h ih=>exact .sl es k b off c U hc (hS b hb) hk (fun i e j x z I=>⟨(E3 (D b hb)).trans (hcell i e j x z I).1,(hcell i e j x z I).2⟩) ih
 | ip cs b off U hb hcell h ih=>exact .ip cs b off U (hS b hb) (fun j x z=>⟨(E3 (D b hb)).trans (hcell j x z).1,(hcell j x z).2⟩) ih
 | fn f cap vs hl h ih=>exact .fn f cap vs hl ih
structure Fr(mv:Nat->Prop)(w w':World):Prop where
 os:w'.os=w.os
 tape:w'.tape=w.tape
 output:w'.output=w.output
 size:w.heap.size<=w'.heap.size
 block:∀k,k<w.heap.size->¬mv k->w'.heap[k]?=w.heap[k]?
theorem Fr.refl(mv:Nat->Prop)(w:World):Fr mv w w:=⟨rfl,rfl,rfl,aG _,fun _ _ _=>rfl⟩
theorem Fr.trans{mv z:Nat->Prop}{a b c:World}(h:Fr mv a b)(k:Fr z b c)(J:∀i,z i->mv i\/a.heap.size<=i):Fr mv a c:=
 ⟨k.os.trans h.os,k.tape.trans h.tape,k.output.trans h.output,aS h.size k.size,fun i hi D=>
  (k.block i (cB hi h.size) (fun N=>by rcases J i N with I | I;exact D I;omega)).trans (h.block i hi D)⟩
def aH{α:Type}(P:Program)(w:World)(R:α->Value->Prop)(e:TypeId)(es:List (List α))(v:Value):Prop:=
 ∃i xs,P.info? e=some i/\0<i.size/\w.ownsRow 0 e i.size v es.length xs/\(∀r∈es,r.length=i.size)/\(∀u∈xs,u.oneCell'=true)/\
  ∀(a:Nat) r (j:Nat) x,es[a]?=some r->r[j]?=some x->∃u,xs[a*i.size+j]?=some u/\R x u
def cF:Value->Option Nat
 | .slice (some a) _ _=>some a.block
 | .pointer (some a)=>some a.block
 | .map (some g)=>some g
 | _=>none
inductive bu(S:Nat->Prop)(w:World)(P:Program)(L:Nat->Prop)(rho:Nat->Value)(h:Nat->AB):AV->Value->Prop
 | p (x:PV) (v:Value) (hx:aO S w x v):bu S w P L rho h (.p x) v
 | nl:bu S w P L rho h .nl (.slice none 0 0)
 | ow (id:Nat) (v:Value) (hv:(h id).there->L id/\v=rho id):bu S w P L rho h (.ow id) v
 | rp (id i off:Nat) (v:Value) (hv:∀e,(h id).qK=some e->L id/\∃g n c ti,rho id=.slice (some ⟨g,0,none⟩) n c/\P.info? e=some ti/\v=.pointer (some ⟨g,i*ti.size+off,none⟩)):bu S w P L rho h (.rp id i off) v
 | bx (id off:Nat) (v:Value) (hv:(h id).there->L id/\∃g,rho id=.pointer (some ⟨g,0,none⟩)/\v=.pointer (some ⟨g,off,none⟩)):bu S w P L rho h (.bx id off) v
 | vw (id lo hi:Nat) (v:Value) (hv:∀e,(h id).qK=some e->L id/\∃n c a ti,rho id=.slice a n c/\P.info? e=some ti/\lo<=hi/\hi<=n/\n<=c/\v=.slice (if c=lo then a else a.map (·.add (lo*ti.size))) (hi-lo) (c-lo)):bu S w P L rho h (.vw id lo hi) v
 | fn (f:FuncId) (cap:List AV) (vs:Array Value) (hl:cap.length=vs.size) (hc:∀(i:Nat) c v,cap[i]?=some c->vs[i]?=some v->bu S w P L rho h c v):bu S w P L rho h (.fn f cap) (.func (.func f) #[] vs)
 | tu (xs:List AV) (vs:Array Value) (hl:xs.length=vs.size) (hc:∀(i:Nat) c v,xs[i]?=some c->vs[i]?=some v->bu S w P L rho h c v):bu S w P L rho h (.tu xs) (.tuple vs)
 | st (xs:List AV) (vs:Array Value) (hl:xs.length=vs.size) (h1:∀u∈vs.toList,u.oneCell'=true) (hc:∀(i:Nat) c v,xs[i]?=some c->vs[i]?=some v->bu S w P L rho h c v):bu S w P L rho h (.st xs) (.agg vs)
 | junk (v:Value):bu S w P L rho h .junk v
def U_(S:Nat->Prop)(w:World)(P:Program):HC->Value->Prop
 | .p x,u=>aO S w x u
 | .row e es,u=>aH P w (aO S w) e es u
structure Nl(S:Nat->Prop)(w:World)(P:Program)(cs:List HC)(g:Nat)(ty:TypeId)(c:Array Value):Prop where
 hp:w.heap[g]?=some (.cells c ty (0,0))
 sz:c.size=cs.length
 cell:∀(j:Nat) x u,cs[j]?=some x->c[j]?=some u->u.oneCell'=true/\U_ S w P x u
 top:∀(j:Nat) x u b,cs[j]?=some x->c[j]?=some u->x.isRow->cF u=some b->b≠g
 dis:∀(i j:Nat) x y u v b,cs[i]?=some x->cs[j]?=some y->c[i]?=some u->c[j]?=some v->x.isRow->y.isRow->cF u=some b->cF v=some b->i=j
def uT(S:Nat->Prop)(w:World)(P:Program)(L:Nat->Prop)(rho:Nat->Value)(h:Nat->AB):HX->Value->Prop
 | .av x,u=>bu S w P L rho h x u
 | .row e es,u=>aH P w (aO S w) e es u
def dT(w:World)(es:List (List HX))(g:Nat)(a j:Nat)(u:Value):Prop:=∃(r:List HX) (e:TypeId) (xs:List (List PV)) (c:Array Value) (ty:TypeId) (m:Nat×Nat),es[a]?=some r/\r[j]?=some (.row e xs)/\w.heap[g]?=some (.cells c ty m)/\c[a*r.length+j]?=some u
structure yt(w:World)(es:List (List HX))(v:Value):Prop where
 top:∀g a j u b,cF v=some g->dT w es g a j u->cF u=some b->b≠g
 dis:∀g a j a' j' u u' b,cF v=some g->dT w es g a j u->dT w es g a' j' u'->cF u=some b->cF u'=some b->a=a'/\j=j'
def abc(w:World)(x:AB)(v:Value)(k:Nat):Prop:=∃e es g a j u,x=.aw e es/\cF v=some g/\dT w es g a j u/\cF u=some k
def abd(w:World)(x:AB)(v:Value)(k:Nat):Prop:=∃cs g,x=.aU cs/\cF v=some g/\∃(c:Array Value) (ty:TypeId) (m:Nat×Nat) (j:Nat) (y:HC) (u:Value),w.heap[g]?=some (.cells c ty m)/\cs[j]?=some y/\y.isRow/\c[j]?=some u/\cF u=some k
def inn(w:World)(x:AB)(v:Value)(k:Nat):Prop:=abd w x v k\/abc w x v k
def hasB(w:World)(x:AB)(v:Value)(k:Nat):Prop:=cF v=some k\/inn w x v k
variable {k:Nat}
theorem Bk{w:World}{x:AB}{v:Value}(h:cF v=some k):hasB w x v k:=.inl h
theorem o7{w:World}{es:List (List HX)}{g a j:Nat}{u:Value}(z:w'.heap[g]?=w.heap[g]?)(h:dT w' es g a j u):dT w es g a j u:=by
 obtain⟨r,e,xs,c,D,m,I,J,N,O⟩:=h;exact⟨r,e,xs,c,D,m,I,J,by rw[<-z];exact N,O⟩
theorem dJ{w:World}{x:AB}{v:Value}(N:∀g,cF v=some g->w'.heap[g]?=w.heap[g]?)(h:hasB w' x v k):hasB w x v k:=by
 rcases h with h | ⟨cs,g,D,z,c,O,m,j,y,u,I,J⟩ | ⟨e,es,g,a,j,u,D,z,I,J⟩
 ·exact .inl h
 ·exact .inr (.inl ⟨cs,g,D,z,c,O,m,j,y,u,by rw[<-N g z];exact I,J⟩)
 exact .inr (.inr ⟨e,es,g,a,j,u,D,z,o7 (N g z) I,J⟩)
def VZ:AB->Bool
 | .aU _=>false
 | .aw _ _=>false
 | _=>true
theorem aI{w:World}{x:AB}{v:Value}(z:VZ x=true)(h:hasB w x v k):cF v=some k:=by
 rcases h with h | ⟨cs,g,rfl,_⟩ | ⟨e,es,g,a,j,u,rfl,_⟩
 ·exact h
 ·cases z
 cases z
def fD(S:Nat->Prop)(w:World)(P:Program)(L:Nat->Prop)(rho:Nat->Value)(h:Nat->AB)(id:Nat):AB->Prop
 | .none=>True
 | .row e es=>aH P w (aO S w) e es (rho id)
 | .lz es=>aO S w (.sl es) (rho id)
 | .box cs=>∃g ty c,rho id=.pointer (some ⟨g,0,none⟩)/\w.heap[g]?=some (.cells c ty (0,0))/\c.size=cs.length/\∀(j:Nat) x u,cs[j]?=some x->c[j]?=some u->u.oneCell'=true/\bu S w P L rho h x u
 | .kr ty cs=>∃g c,rho id=.pointer (some ⟨g,0,none⟩)/\w.heap[g]?=some (.cells c ty (0,0))/\c.size=cs.length/\∀(j:Nat) x u,cs[j]?=some x->c[j]?=some u->u.oneCell'=true/\bu S w P L rho h x u
 | .nd cs=>aO S w (.ip cs) (rho id)
 | .aU cs=>∃g ty c,rho id=.pointer (some ⟨g,0,none⟩)/\Nl S w P cs g ty c
 | .aw e es=>aH P w (uT S w P L rho h) e es (rho id)/\yt w es (rho id)
 | .map mk es=>∃g ms clock,rho id=.map (some g)/\w.heap[g]?=some (.map ms clock)/\ms.size=es.length/\∀(i:Nat) p m,es[i]?=some p->ms[i]?=some m->m.key=p.1/\mk.ok p.1/\aO S w p.2 m.val
end Go.AM
namespace Go.AM
open Go.RowKit
inductive UD where
 | sc
 | int (k:IntKind)
 | st (fs:List (Nat×Nat×Bool))
 | sl (e:TypeId)
 | str
 | mp (k e:TypeId)
structure TI where
 ud:UD
 size:Nat
 bytes:Nat
 zero:List Value
 eq:Bool:=false
def UD.agg:UD->Bool
 | .st _=>true
 | _=>false
inductive Arg where
 | pv (x:PV)
 | row (e:TypeId) (es:List (List PV))
 | map (mk:MK) (es:List (Value×PV))
 | box (cs:List PV)
 | aU (cs:List HC)
inductive AR where
 | p (x:PV)
 | own (e:TypeId) (es:List (List PV))
 | tu (xs:List PV)
 | hown (cs:List HC)
inductive Fin where
 | gone
 | row (es:List (List PV))
 | map (es:List (Value×PV))
 | box (cs:List PV)
 | aU (cs:List HC)
structure Ctx where
 P:Program
 T:TypeId->Option TI
 md:FuncId->Nat->Bool
 E:(Nat->Prop)->World->Prop
 bl:FuncId->Bool:=fun _=>false
 bt:TypeId->Bool:=fun _=>false
 bn:TypeId->Bool:=fun _=>false
 bo:TypeId->Bool:=fun _=>false
 bf:Nat->Bool:=fun _=>false
def Nn:Value->Value->Bool
 | .string a,.string b=>decide (a=b)
 | .int _ a,.int _ b=>decide (a=b)
 | .bool a,.bool b=>decide (a=b)
 | _,_=>false
def Hj:List Value->List Value->Bool
 | [],[]=>true
 | x::r,y::s=>Nn x y&&Hj r s
 | _,_=>false
def Dj:Value->Value->Bool
 | .string a,.string b=>decide (a=b)
 | .int _ a,.int _ b=>decide (a=b)
 | .agg a,.agg b=>Hj a.toList b.toList
 | _,_=>false
def gz:List (Value×PV)->Value->Option PV
 | [],_=>none
 | (k',v)::r,k=>match Dj k k' with
  | true=>some v
  | false=>gz r k
def iS:List (Value×PV)->Value->PV->List (Value×PV)
 | [],k,v=>[(k,v)]
 | (k',u)::r,k,v=>match Dj k k' with
  | true=>(k,v)::r
  | false=>(k',u)::iS r k v
def E_:List Value->Option (List Nat)
 | []=>some []
 | .string _::r=>(E_ r).map (0::·)
 | .int .i64 _::r=>(E_ r).map (1::·)
 | .bool _::r=>(E_ r).map (2::·)
 | _=>none
def Dr(ti:TI):Option MK:=match ti.ud with
 | .str=>some .str
 | .int k=>some (.int k)
 | .st fs=>match ti.eq,fs.any (·.2.2) with
  | true,false=>(E_ ti.zero).map .st
  | _,_=>none
 | _=>none
def shB:List Nat->List Nat->Bool
 | [],[]=>true
 | a::r,b::s=>match Nat.beq a b with
  | true=>shB r s
  | false=>false
 | _,_=>false
def mkB:MK->MK->Bool
 | .str,.str=>true
 | .int .i64,.int .i64=>true
 | .st a,.st b=>shB a b
 | _,_=>false
def nY:List Nat->List PV->Option (List Value)
 | [],[]=>some []
 | 0::s,.im (.string x)::r=>(nY s r).map (.string x::·)
 | 1::s,.im (.int .i64 x)::r=>(nY s r).map (.int .i64 x::·)
 | 2::s,.im (.bool x)::r=>(nY s r).map (.bool x::·)
 | _,_=>none
def keyOf:MK->AV->Option Value
 | .str,.p (.im (.string s))=>some (.string s)
 | .int .i64,.p (.im (.int .i64 n))=>some (.int .i64 n)
 | .st sh,.p (.ag cs)=>(nY sh cs).map fun l=>.agg l.toArray
 | _,_=>none
abbrev KK:=AV->List (Nat×AB)->Option AB->Prop
def app(h:Nat->AB):List (Nat×AB)->Nat->AB
 | []=>h
 | (i,b)::r=>app (bd h i b) r
def Ag:Value->PV
 | .slice none 0 0=>.sl []
 | v=>.im v
def X_(b:Bool)(v:Value):PV:=match b with
 | true=>.im v
 | false=>Ag v
def Ya:PV->AV
 | .im (.slice none 0 0)=>.nl
 | x=>.p x
def No:Value->AV
 | .slice none 0 0=>.nl
 | v=>.p (.im v)
def Fa:Value->AV
 | .slice none 0 0=>.nl
 | .agg cs=>match cs.toList.all Value.oneCell' with
  | true=>.p (.ag (cs.toList.map Ag))
  | false=>.junk
 | v=>.p (.im v)
def ev(t:Nat->AV):Operand->AV
 | .tmp j=>t j
 | .const v=>Fa v
 | .global g=>.p (.im (.pointer (some ⟨g,0,none⟩)))
 | .func f=>.p (.im (.func (.func f) #[] #[]))
def ec:List AV->Option (List PV)
 | []=>some []
 | .p x::r=>(ec r).map (x::·)
 | .nl::r=>(ec r).map (.sl []::·)
 | _=>none
def nZ(h:Nat->AB)(a:AV)(K:PV->List (Nat×AB)->Prop):Prop:=
 match a with
 | .p x=>K x []
 | .nl=>K (.sl []) []
 | .ow id=>match h id with
  | .row _ es=>K (.sl es) [(id,.lz es)]
  | .lz es=>K (.sl es) []
  | _=>False
 | .bx id off=>match h id with
  | .box cs=>match ec cs with
   | some xs=>K (.ip (xs.drop off)) [(id,.nd xs)]
   | none=>False
  | .nd xs=>K (.ip (xs.drop off)) []
  | _=>False
 | _=>False
def zu(h:Nat->AB):List AV->(List PV->List (Nat×AB)->Prop)->Prop
 | [],K=>K [] []
 | a::r,K=>nZ h a fun x fz=>zu h r fun xs o8=>K (x::xs) (fz++o8)
def iT(h:Nat->AB)(a:AV)(K:PV->List (Nat×AB)->Prop):Prop:=
 match a with
 | .fn f cap=>zu h cap fun xs fz=>K (.fn f xs) fz
 | a=>nZ h a K
def vn:PV->Option (List PV)
 | .ag cs=>some cs
 | .im x=>match x.oneCell' with
  | true=>some [.im x]
  | false=>none
 | x=>some [x]
def yu(h:Nat->AB):AV->Bool
 | .p (.im x)=>x.oneCell'
 | .p (.ag _)=>false
 | .p _=>true
 | .nl=>true
 | .ow id=>match h id with
  | .row _ _=>true
  | .aw _ _=>true
  | .lz _=>true
  | _=>false
 | .bx id _=>match h id with
  | .none=>false
  | _=>true
 | .rp id _ _=>match h id with
  | .row _ _=>true
  | .aw _ _=>true
  | _=>false
 | .fn _ _=>true
 | _=>false
def setCells{α:Type}:List α->Nat->List α->List α
 | cs,_,[]=>cs
 | cs,off,x::r=>setCells (cs.set off x) (off+1) r
def vo(id:Nat):List (Nat×AB)->Bool
 | []=>true
 | (i,_)::r=>match Nat.beq i id with
  | true=>false
  | false=>vo id r
def LP(a b:Nat):Bool:=Nat.ble a b
def Dk(a b:Nat):Bool:=Nat.beq a b
def InI(x:Int):Prop:=-9223372036854775808<=x/\x<=9223372036854775807
def V0{α:Type}:List α->Bool
 | []=>true
 | _=>false
def kB(a b:IntKind):Bool:=match a,b with
 | .i8,.i8 | .i16,.i16 | .i32,.i32 | .i64,.i64 | .u8,.u8 | .u16,.u16 | .u32,.u32 | .u64,.u64=>true
 | _,_=>false
def Yt:IntKind->Bool
 | .i64=>true
 | _=>false
def yw(k:IntKind)(n:Int)(K:Value->Prop):Prop:=match Yt k with
 | true=>InI n/\K (.int .i64 n)
 | false=>K (.int k (k.wrap n))
def bU:List Value->List PV->List PV->Option Bool
 | [],[],[]=>some true
 | .int _ _::z,.im (.int k a)::r,.im (.int k' b)::s=>match kB k k' with
  | true=>(bU z r s).map (decide (a=b)&&·)
  | false=>none
 | .string _::z,.im (.string a)::r,.im (.string b)::s=>(bU z r s).map (decide (a=b)&&·)
 | .bool _::z,.im (.bool a)::r,.im (.bool b)::s=>(bU z r s).map (decide (a=b)&&·)
 | _,_,_=>none
def Np(T:TypeId->Option TI)(op:BinOp)(t:TypeId)(x:PV)(K:Value->Prop):Prop:=match x with
 | .sl es=>match V0 es with
  | true=>False
  | false=>match T t with
   | some { ud:=.sl _,.. }=>match op with
    | .eql=>K (.bool false)
    | .neq=>K (.bool true)
    | _=>False
   | _=>False
 | _=>False
def abf:BinOp->Bool
 | .shr=>true
 | _=>false
def vp(T:TypeId->Option TI)(op:BinOp)(t:TypeId)(x y:PV)(K:Value->Prop):Prop:=
 match x,y with
 | .im (.int k a),.im (.int k' b)=>match abf op with
  | true=>(0<=b/\b<64)/\K (.int k (a.fdiv (2 ^ (min b.toNat k.bits))))
  | false=>match kB k k' with
  | false=>False
  | true=>match op with
   | .add=>yw k (a+b) K
   | .sub=>yw k (a-b) K
   | .mul=>yw k (a*b) K
   | .quo=>b≠0/\yw k (a.tdiv b) K
   | .rem=>b≠0/\K (.int k (a.tmod b))
   | .eql=>K (.bool (decide (a=b)))
   | .neq=>K (.bool (!decide (a=b)))
   | .lss=>K (.bool (decide (a<b)))
   | .leq=>K (.bool (decide (a<=b)))
   | .gtr=>K (.bool (decide (a>b)))
   | .geq=>K (.bool (decide (a>=b)))
   | _=>False
 | .im (.string a),.im (.string b)=>match op with
  | .add=>a.size+b.size<=9223372036854775807/\K (.string (a++b))
  | .eql=>K (.bool (decide (a=b)))
  | .neq=>K (.bool (!decide (a=b)))
  | .lss=>K (.bool (Op.bytesLess a.data.toList b.data.toList))
  | .leq=>K (.bool (Op.bytesLess a.data.toList b.data.toList||decide (a=b)))
  | .gtr=>K (.bool !(Op.bytesLess a.data.toList b.data.toList||decide (a=b)))
  | .geq=>K (.bool !(Op.bytesLess a.data.toList b.data.toList))
  | _=>False
 | .im (.bool a),.im (.bool b)=>match T t with
  | some { ud:=.sc,eq:=true,.. }=>match op with
   | .eql=>K (.bool (decide (a=b)))
   | .neq=>K (.bool (!decide (a=b)))
   | _=>False
  | _=>False
 | .ag a,.ag b=>match T t with
  | some { ud:=.st _,eq:=true,size:=n,zero:=z,.. }=>match Dk n a.length with
   | false=>False
   | true=>match op with
    | .eql=>match bU z a b with
     | some r=>K (.bool r)
     | none=>False
    | .neq=>match bU z a b with
     | some r=>K (.bool !r)
     | none=>False
    | _=>False
  | _=>False
 | _,_=>False
def Fb(S:Nat->Prop)(w:World)(mk:MK)(es:List (Value×PV))(v:Value):Prop:=∃g ms clock,v=.map (some g)/\w.heap[g]?=some (.map ms clock)/\ms.size=es.length/\∀(i:Nat) p m,es[i]?=some p->ms[i]?=some m->m.key=p.1/\mk.ok p.1/\aO S w p.2 m.val
def JP(S:Nat->Prop)(w:World)(P:Program):Arg->Value->Prop
 | .pv x,v=>aO S w x v
 | .row e es,v=>aH P w (aO S w) e es v/\∀g,cF v=some g->¬S g
 | .map mk es,v=>Fb S w mk es v/\∀g,cF v=some g->¬S g
 | .box cs,v=>∃g ty c,v=.pointer (some ⟨g,0,none⟩)/\w.heap[g]?=some (.cells c ty (0,0))/\c.size=cs.length/\¬S g/\∀(j:Nat) x u,cs[j]?=some x->c[j]?=some u->u.oneCell'=true/\aO S w x u
 | .aU cs,v=>∃g ty c,v=.pointer (some ⟨g,0,none⟩)/\Nl S w P cs g ty c/\∀k,hasB w (.aU cs) v k->¬S k/\k<w.heap.size
def Ds:Arg->AB
 | .aU cs=>.aU cs
 | _=>.none
def Tb:Fin->AB
 | .aU cs=>.aU cs
 | _=>.none
def Arg.handed:Arg->Bool
 | .pv _=>false
 | _=>true
def Mv(w:World)(args:List Arg)(vs:Array Value)(g:Nat):Prop:=∃(j:Nat) (x:Arg) (v:Value),args[j]?=some x/\vs[j]?=some v/\x.handed=true/\hasB w (Ds x) v g
def pS(S:Nat->Prop)(w:World)(P:Program):Arg->Fin->Value->Prop
 | _,.gone,_=>True
 | .row e _,.row es,v=>aH P w (aO S w) e es v/\∀g,cF v=some g->¬S g
 | .map mk _,.map es,v=>Fb S w mk es v/\∀g,cF v=some g->¬S g
 | .box _,.box cs,v=>∃g ty c,v=.pointer (some ⟨g,0,none⟩)/\w.heap[g]?=some (.cells c ty (0,0))/\c.size=cs.length/\¬S g/\∀(j:Nat) x u,cs[j]?=some x->c[j]?=some u->u.oneCell'=true/\aO S w x u
 | .aU _,.aU cs,v=>∃g ty c,v=.pointer (some ⟨g,0,none⟩)/\Nl S w P cs g ty c/\∀k,hasB w (.aU cs) v k->¬S k
 | _,_,_=>False
def Fin.kept:Fin->Bool
 | .gone=>false
 | _=>true
def PF(S:Nat->Prop)(w:World)(P:Program):AR->Value->Prop
 | .p x,v=>aO S w x v
 | .own e es,v=>aH P w (aO S w) e es v/\∀g,cF v=some g->¬S g
 | .hown cs,v=>∃g ty c,v=.pointer (some ⟨g,0,none⟩)/\Nl S w P cs g ty c/\∀k,hasB w (.aU cs) v k->¬S k
 | .tu xs,v=>∃vs:Array Value,v=.tuple vs/\xs.length=vs.size/\∀(i:Nat) x u,xs[i]?=some x->vs[i]?=some u->aO S w x u
def AR.owns:AR->Bool
 | .own ..=>true
 | .hown ..=>true
 | _=>false
def AR.ab:AR->AB
 | .hown cs=>.aU cs
 | _=>.none
def fq(S:Nat->Prop)(w:World)(P:Program):List Arg->List Fin->List Value->Prop
 | [],[],[]=>True
 | x::xs,fs,v::vs=>match x.handed with
  | false=>fq S w P xs fs vs
  | true=>match fs with
   | f::fs=>pS S w P x f v/\fq S w P xs fs vs
   | []=>False
 | _,_,_=>False
def dA(w:World):List Arg->List Fin->List Value->Nat->Nat->Prop
 | x::xs,fs,v::vs,i,g=>match x.handed with
  | false=>match i with
   | 0=>False
   | i+1=>dA w xs fs vs i g
  | true=>match fs with
   | f::fs=>match i with
    | 0=>f.kept=true/\hasB w (Tb f) v g
    | i+1=>dA w xs fs vs i g
   | []=>False
 | _,_,_,_,_=>False
def v7(w w':World)(args:List Arg)(fin:List Fin)(vs:Array Value):Prop:=
 (∀i g,dA w' args fin vs.toList i g->g<w'.heap.size/\(w.heap.size<=g\/Mv w args vs g))/\∀i j g,dA w' args fin vs.toList i g->dA w' args fin vs.toList j g->i=j
def ai(C:Ctx)(f:FuncId)(args:List Arg)(r:AR)(fin:List Fin):Prop:=
 (∃ fn : Func, C.P.funcs[f]? = some fn ∧ (fn.name == "runtime.NumGoroutine") = false ∧ fn.body.isNone = false) ∧
 ∀(S:Nat->Prop) (w:World) (vs:Array Value),C.E S w->(∀b,S b->b<w.heap.size)->args.length=vs.size ->
  (∀(j:Nat) x v,args[j]?=some x->vs[j]?=some v->JP S w C.P x v)->
  (∀(i j:Nat) x y v u g,args[i]?=some x->args[j]?=some y->vs[i]?=some v->vs[j]?=some u->x.handed=true->y.handed=true->hasB w (Ds x) v g->hasB w (Ds y) u g->i=j)->
  Calls C.P f vs w fun e w'=>∃v S',e=.returned v/\Fr (Mv w args vs) w w'/\(∀b,S b->S' b)/\(∀b,S' b->b<w'.heap.size)/\(∀b,S' b->S b\/w.heap.size<=b\/Mv w args vs b)/\
   PF S' w' C.P r v/\fq S' w' C.P args fin vs.toList/\v7 w w' args fin vs/\(∀g,r.owns=true->hasB w' r.ab v g->g<w'.heap.size/\(w.heap.size<=g\/Mv w args vs g)/\∀i,¬dA w' args fin vs.toList i g)
def iC(md:Nat->Bool)(h:Nat->AB):Nat->List AV->(List Arg->List (Nat×AB)->List (Nat×AB)->Prop)->Prop
 | _,[],K=>K [] [] []
 | j,a::r,K=>match md j with
  | false=>iT h a fun x fz=>iC md h (j+1) r fun xs ids o8=>K (.pv x::xs) ids (fz++o8)
  | true=>match a with
   | .ow id=>match h id with
    | .row e es=>iC md h (j+1) r fun xs ids fz=>K (.row e es::xs) ((id,.row e es)::ids) fz
    | .lz es=>iC md h (j+1) r fun xs ids fz=>K (.pv (.sl es)::xs) ids fz
    | .map mk es=>iC md h (j+1) r fun xs ids fz=>K (.map mk es::xs) ((id,.map mk es)::ids) fz
    | _=>False
   | .p x=>iC md h (j+1) r fun xs ids fz=>K (.pv x::xs) ids fz
   | .bx id 0=>match h id with
    | .box cs=>match ec cs with
     | some ys=>iC md h (j+1) r fun xs ids fz=>K (.box ys::xs) ((id,.box cs)::ids) fz
     | none=>False
    | .aU cs=>iC md h (j+1) r fun xs ids fz=>K (.aU cs::xs) ((id,.aU cs)::ids) fz
    | _=>False
   | _=>False
def Hk:PV->Bool
 | .im _=>true
 | .ag cs=>cs.all fun | .im _=>true | _=>false
 | _=>false
def AR.free:AR->Bool
 | .p x=>Hk x
 | .tu xs=>xs.all Hk
 | .own ..=>false
 | .hown ..=>false
def gZ:List (Nat×AB)->List Fin->Option (List (Nat×AB))
 | [],[]=>some []
 | (id,_)::ids,.gone::fs=>(gZ ids fs).map ((id,.none)::·)
 | (id,.row e _)::ids,.row es::fs=>(gZ ids fs).map ((id,.row e es)::·)
 | (id,.map mk _)::ids,.map es::fs=>(gZ ids fs).map ((id,.map mk es)::·)
 | (id,.box _)::ids,.box cs::fs=>(gZ ids fs).map ((id,.box (cs.map .p))::·)
 | (id,.aU _)::ids,.aU cs::fs=>(gZ ids fs).map ((id,.aU cs)::·)
 | _,_=>none
def abg:AR->Option AB
 | .own e es=>some (.row e es)
 | .hown cs=>some (.aU cs)
 | _=>none
def Yb(d:Nat):AR->AV
 | .p x=>.p x
 | .own ..=>.ow d
 | .hown _=>.bx d 0
 | .tu xs=>.tu (xs.map .p)
def isNil{α:Type}:List α->Bool
 | []=>true
 | _=>false
def LQ:List (Nat×AB)->List (Nat×AB)->Bool
 | [],_=>true
 | (i,_)::r,fz=>vo i fz&&vo i r&&LQ r fz
def qL(C:Ctx)(h:Nat->AB)(d:Nat)(f:FuncId)(args:List AV)(K:KK):Prop:=
 iC (C.md f) h 0 args fun xs ids fz=>∃r fin,ai C f xs r fin/\match gZ ids fin with
  | some fe=>match LQ ids fz with
   | true=>match r.free&&isNil ids with
    | true=>K (Yb d r) [] none
    | false=>K (Yb d r) (fz++fe) (abg r)
   | false=>False
  | none=>False
inductive Yc:HX->PV->Prop
 | p (x:PV):Yc (.av (.p x)) x
 | nl:Yc (.av .nl) (.sl [])
 | row (e:TypeId) (xs:List (List PV)):Yc (.row e xs) (.sl xs)
structure SU(es:List (List HX))(ps:List (List PV)):Prop where
 len:ps.length=es.length
 row:∀(a:Nat) r q,es[a]?=some r->ps[a]?=some q->q.length=r.length/\∀(j:Nat) x y,r[j]?=some x->q[j]?=some y->Yc x y
inductive qb(h:Nat->AB):AV->PV->Prop
 | p (x:PV):qb h (.p x) x
 | nl:qb h .nl (.sl [])
 | row (id:Nat) (e:TypeId) (es:List (List PV)) (hr:h id=.row e es):qb h (.ow id) (.sl es)
 | lz (id:Nat) (es:List (List PV)) (hr:h id=.lz es):qb h (.ow id) (.sl es)
 | aw (id:Nat) (e:TypeId) (es:List (List HX)) (ps:List (List PV)) (hr:h id=.aw e es) (hp:SU es ps):qb h (.ow id) (.sl ps)
inductive qM(h:Nat->AB):List AV->List PV->Prop
 | nil:qM h [] []
 | cons {a:AV} {x:PV} {as:List AV} {xs:List PV} (h1:qb h a x) (h2:qM h as xs):qM h (a::as) (x::xs)
inductive View(h:Nat->AB):AV->PV->Prop
 | one {a:AV} {x:PV} (h1:qb h a x):View h a x
 | box (id off:Nat) (cs:List AV) (xs:List PV) (hb:h id=.box cs) (hx:qM h cs xs):View h (.bx id off) (.ip (xs.drop off))
 | nd (id off:Nat) (xs:List PV) (hb:h id=.nd xs):View h (.bx id off) (.ip (xs.drop off))
inductive v8(h:Nat->AB):List AV->List PV->Prop
 | nil:v8 h [] []
 | cons {a:AV} {x:PV} {as:List AV} {xs:List PV} (h1:View h a x) (h2:v8 h as xs):v8 h (a::as) (x::xs)
def Yu(C:Ctx)(h:Nat->AB)(d:Nat)(f:FuncId)(args:List AV)(K:KK):Prop:=∃xs r,v8 h args xs/\ai C f (xs.map .pv) r []/\r.free=true/\K (Yb d r) [] none
def abh:AV->Bool
 | .ow _=>true
 | _=>false
def Dt{α:Type}(f:α->Bool):List α->Bool
 | []=>false
 | x::r=>match f x with
  | true=>true
  | false=>Dt f r
def eI(h:Nat->AB):AV->Bool
 | .bx id _=>match h id with
  | .box cs=>Dt abh cs
  | _=>false
 | .ow id=>match h id with
  | .aw _ _=>true
  | _=>false
 | _=>false
def Va(cs:List AV)(ys:List PV):Prop:=ys.length=cs.length/\∀(j:Nat) x,cs[j]?=some (.p x)->ys[j]?=some x
def yx(h:Nat->AB):AV->Bool
 | .p (.sl _)=>true
 | .p (.im (.slice _ _ _))=>true
 | .ow id=>match h id with
  | .row _ _=>true
  | _=>false
 | .nl=>true
 | _=>false
def V1:PV->Prop
 | .im _=>True
 | .sl es=>∀r∈es,∃k n,r=[.im (.int k n)]
 | _=>False
def Yv:PV->Prop
 | .ag cs=>∀c∈cs,V1 c
 | x=>V1 x
def Bl(C:Ctx)(h:Nat->AB)(f:FuncId)(args:List AV)(K:KK):Prop:=match args with
 | [.bx id 0,.p y,.ow iU]=>match h id,h iU with
  | .box cs,.row e es=>∃x dv,(∀ys,Va cs ys->ai C f [.pv (.ip ys),.pv y,.row e es] (.p x) [.row dv])/\(∀c∈cs,yx h c=true)/\Yv x/\(∀r∈dv,∀z∈r,Hk z=true)/\K (.p x) [(iU,.row e dv)] none
  | _,_=>False
 | _=>False
def qN(C:Ctx)(h:Nat->AB)(d:Nat)(f:FuncId)(args:List AV)(K:KK):Prop:=match Dt (eI h) args with
 | false=>qL C h d f args K
 | true=>match C.md f 90 with
  | false=>Yu C h d f args K
  | true=>Bl C h f args K
def Yd:List (Nat×Value)->Array Value->Array Value
 | [],c=>c
 | (j,v)::r,c=>Yd r (c.setIfInBounds j v)
def LR:List (Nat×Value)->List PV->List PV
 | [],c=>c
 | (j,v)::r,c=>LR r (c.set j (.im v))
def vq(C:Ctx)(f:FuncId)(n off:Nat)(y:PV)(rd wr:List (Nat×Value))(r:Value):Prop:=
 (∃ fn : Func, C.P.funcs[f]? = some fn ∧ (fn.name == "runtime.NumGoroutine") = false ∧ fn.body.isNone = false) ∧
 ∀(S:Nat->Prop) (w:World) (v1:Value) (b:Nat) (c:Array Value) (ty:TypeId),C.E S w->(∀k,S k->k<w.heap.size)->aO S w y v1->w.heap[b]?=some (.cells c ty (0,0))->c.size=n->¬S b->(∀p∈rd,c[p.1]?=some p.2)->
  Calls C.P f #[.pointer (some ⟨b,0,none⟩),v1,.pointer (some ⟨b,off,none⟩)] w fun e' w'=>e'=.returned r/\Fr (fun k=>k=b) w w'/\w'.heap[b]?=some (.cells (Yd wr c) ty (0,0))
def JQ:List (Nat×Value)->Bool
 | []=>true
 | (_,v)::r=>v.oneCell'&&JQ r
def Nq(ys:List PV):List (Nat×Value)->Prop
 | []=>True
 | (j,v)::r=>ys[j]?=some (.im v)/\Nq ys r
def Bm(C:Ctx)(h:Nat->AB)(f:FuncId)(args:List AV)(K:KK):Prop:=match args with
 | [.bx id 0,.p y,.bx nO off]=>match Nat.beq nO id,h id with
  | true,.box cs=>match ec cs with
   | some ys=>∃rd wr r,vq C f ys.length off y rd wr r/\Nq ys rd/\JQ wr=true/\K (.p (.im r)) [(id,.box ((LR wr ys).map .p))] none
   | none=>False
  | _,_=>False
 | _=>False
def zv(C:Ctx)(h:Nat->AB)(d:Nat)(f:FuncId)(args:List AV)(K:KK):Prop:=match C.md f 91 with
 | false=>qN C h d f args K
 | true=>Bm C h f args K
def V2(C:Ctx)(f:FuncId)(xs:List PV)(ty e:TypeId)(es:List (List PV))(r:AR)(ch:Bool)(dv:Option (List (List PV))):Prop:=
 (∃ fn : Func, C.P.funcs[f]? = some fn ∧ (fn.name == "runtime.NumGoroutine") = false ∧ fn.body.isNone = false) ∧
 ∀(S:Nat->Prop) (w:World) (vs:List Value) (b:Nat) (u0 u1:Value),C.E S w->(∀k,S k->k<w.heap.size)->xs.length=vs.length ->
  (∀(j:Nat) x v,xs[j]?=some x->vs[j]?=some v->aO S w x v)->w.heap[b]?=some (.cells #[u0,u1] ty (0,0))->(u0=.pointer none\/u0=.pointer (some ⟨b,0,none⟩))->
  aH C.P w (aO S w) e es u1->¬S b->(∀g,cF u1=some g->¬S g/\g≠b/\g<w.heap.size)->
  Calls C.P f (vs++[Value.pointer (some ⟨b,0,none⟩)]).toArray w fun e' w'=>∃v,e'=.returned v/\Fr (fun k=>k=b\/cF u1=some k) w w'/\PF S w' C.P r v/\match dv with
   | none=>True
   | some dv=>∃u1',w'.heap[b]?=some (.cells #[(match ch with | true=>Value.pointer (some ⟨b,0,none⟩) | false=>u0),u1'] ty (0,0))/\aH C.P w' (aO S w') e dv u1'/\∀g,cF u1'=some g->g<w'.heap.size/\(cF u1=some g\/w.heap.size<=g)
def tB:List AV->Option (List AV×AV)
 | []=>none
 | [x]=>some ([],x)
 | x::y::r=>match tB (y::r) with
  | some (l,z)=>some (x::l,z)
  | none=>none
def Vb(id:Nat):AV->Bool
 | .p (.im (.pointer none))=>true
 | .bx i 0=>Nat.beq i id
 | _=>false
def zw(ch:Bool)(id:Nat)(c:AV):AV:=match ch with
 | true=>.bx id 0
 | false=>c
def zx(C:Ctx)(h:Nat->AB)(d:Nat)(f:FuncId)(args:List AV)(K:KK):Prop:=
 match tB args with
 | some (as,.bx id 0)=>match h id with
  | .kr ty [c,.ow iU]=>match Vb id c with
   | true=>match h iU with
    | .row e es=>zu h as fun xs fz=>∃r ch dv,V2 C f xs ty e es r ch dv/\match r.free&&(vo id fz&&(vo iU fz&&!Nat.beq id iU)) with
     | true=>match dv with
      | some dv=>K (Yb d r) (fz++[(iU,.none),(id,.kr ty [zw ch id c,.ow d])]) (some (.row e dv))
      | none=>K (Yb d r) (fz++[(iU,.none),(id,.none)]) none
     | false=>False
    | _=>False
   | false=>False
  | _=>False
 | _=>False
def lA(h:Nat->AB)(fs:List (Nat×Nat×Bool))(rho:Operand->AV):List (Nat×Operand)->List PV->(List PV->List (Nat×AB)->Prop)->Prop
 | [],cs,K=>K cs []
 | (i,x)::r,cs,K=>match fs[i]? with
  | some (off,size,_)=>iT h (rho x) fun y fz=>match vn y with
   | some ys=>match Dk ys.length size&&LP (off+size) cs.length with
    | true=>lA h fs rho r (setCells cs off ys) fun oM o8=>K oM (fz++o8)
    | false=>False
   | none=>False
  | none=>False
def mU(h:Nat->AB)(fs:List (Nat×Nat×Bool))(rho:Operand->AV):List (Nat×Operand)->List AV->(List AV->Prop)->Prop
 | [],cs,K=>K cs
 | (i,x)::r,cs,K=>match fs[i]? with
  | some (off,size,_)=>match Dk size 1&&LP (off+1) cs.length&&yu h (rho x) with
   | true=>mU h fs rho r (cs.set off (rho x)) K
   | false=>False
  | none=>False
def zy(b:Bool)(h:Nat->AB)(a:AV)(K:PV->List (Nat×AB)->Prop):Prop:=match b,a with
 | true,.nl=>K (.im (.slice none 0 0)) []
 | _,a=>iT h a K
def iD(b:Bool)(h:Nat->AB)(size:Nat)(rho:Operand->AV):List (Nat×Operand)->List (List PV)->(List (List PV)->List (Nat×AB)->Prop)->Prop
 | [],es,K=>K es []
 | (i,x)::r,es,K=>zy b h (rho x) fun y fz=>match vn y with
  | some ys=>match Dk ys.length size&&Nat.blt i es.length with
   | true=>iD b h size rho r (es.set i ys) fun dv o8=>K dv (fz++o8)
   | false=>False
  | none=>False
def iE(h:Nat->AB)(a:AV)(K:List (List PV)->Prop):Prop:=match a with
 | .p (.sl es)=>K es
 | .nl=>K []
 | .ow id=>match h id with
  | .row _ es=>K es
  | .lz es=>K es
  | _=>False
 | _=>False
inductive CK where
 | len
 | clear
 | min
 | max
 | append
 | val (g:Operand)
 | other
def fZ:Builtin->CK
 | .len=>.len
 | .clear=>.clear
 | .min=>.min
 | .max=>.max
 | .append=>.append
 | _=>.other
def fc:Callee->CK
 | .builtin b=>fZ b
 | .value g=>.val g
 | .invoke _ _=>.other
def LS:Fn->Option FuncId
 | .func f=>some f
 | _=>none
def LU:Value->Option (FuncId×List AV)
 | .func fn first cap=>match isNil first.toList&&isNil cap.toList with
  | true=>match LS fn with
   | some f=>some (f,[])
   | none=>none
  | false=>none
 | _=>none
def LV:PV->Option (FuncId×List AV)
 | .im v=>LU v
 | .fn f cap=>some (f,cap.map .p)
 | _=>none
def Bn:AV->Option (FuncId×List AV)
 | .p x=>LV x
 | .fn f cap=>some (f,cap)
 | _=>none
def Bo(ti:TI):PV:=match ti.ud.agg with
 | true=>.ag (ti.zero.map Ag)
 | false=>match ti.zero with
  | z::_=>Ag z
  | []=>.im undef
def g_(C:Ctx)(rho:Operand->AV)(h:Nat->AB)(t:TypeId)(x:Operand)(lo hi:Option Operand)(K:KK):Prop:=
  let l:=match lo with | some y=>rho y | none=>.p (.im (.int .i64 0))
  match C.T t with
  | some { ud:=.str,.. }=>match rho x with
   | .p (.im (.string s))=>
    match l,(match hi with | some y=>rho y | none=>.p (.im (.int .i64 s.size))) with
    | .p (.im (.int _ a)),.p (.im (.int _ b))=>(0<=a/\a<=b/\b<=s.size)/\K (.p (.im (.string (s.extract a.toNat b.toNat)))) [] none
    | _,_=>False
   | _=>False
  | some { ud:=.sl e,.. }=>match C.T e with
   | none=>False
   | some te=>iT h (rho x) fun y fz=>match y with
    | .sl es=>match l,(match hi with | some y=>rho y | none=>.p (.im (.int .i64 es.length))) with
     | .p (.im (.int _ a)),.p (.im (.int _ b))=>(0<=a/\a<=b/\b<=es.length/\∀r∈es,r.length=te.size)/\K (.p (.sl ((es.take b.toNat).drop a.toNat))) fz none
     | _,_=>False
    | _=>False
  | _=>False
def v_(C:Ctx)(rho:Operand->AV)(t:TypeId)(lo hi:Option Operand)(id:Nat)(e':TypeId)(es:List (List PV))(K:KK):Prop:=
 match C.T t with
 | some { ud:=.sl e,.. }=>match Dk e' e with
  | true=>match (match lo with | some y=>rho y | none=>.p (.im (.int .i64 0))),(match hi with | some y=>rho y | none=>.p (.im (.int .i64 es.length))) with
   | .p (.im (.int _ a)),.p (.im (.int _ b))=>(0<=a/\a<=b/\b<=es.length)/\K (.vw id a.toNat b.toNat) [] none
   | _,_=>False
  | false=>False
 | _=>False
def hlen(h:Nat->AB):AV->Option Nat
 | .ow id=>match h id with
  | .aw _ es=>some es.length
  | _=>none
 | .vw id lo hi=>match h id with
  | .row _ _=>some (hi-lo)
  | _=>none
 | _=>none
def uN(r:List PV):List HX:=r.map fun x=>.av (Ya x)
def cc(C:Ctx)(o:Oper)(rho:Operand->AV)(h:Nat->AB)(K:KK):Prop:=
 let d:=o.dst.getD 0
 match o.op with
 | .move x=>K (rho x) [] none
 | .assign x=>K (rho x) [] none
 | .pick c a b=>match rho c with
  | .p (.im (.bool t))=>match t with
   | true=>K (rho a) [] none
   | false=>K (rho b) [] none
  | _=>False
 | .binOp op t x y _=>match rho x,rho y with
  | .p a,.p b=>vp C.T op t a b fun v=>K (.p (.im v)) [] none
  | .p a,.nl=>Np C.T op t a fun v=>K (.p (.im v)) [] none
  | _,_=>False
 | .unOp op _ x=>match op,rho x with
  | .not,.p (.im (.bool b))=>K (.p (.im (.bool !b))) [] none
  | .neg,.p (.im (.int k n))=>yw k (0-n) fun v=>K (.p (.im v)) [] none
  | _,_=>False
 | .convert src dst x=>match rho x,C.T src,C.T dst with
  | .p (.im (.int _ n)),some _,some { ud:=.int k,.. }=>yw k n fun v=>K (.p (.im v)) [] none
  | .p (.im (.string s)),some { ud:=.str,.. },some { ud:=.str,.. }=>K (.p (.im (.string s))) [] none
  | .p (.im (.int _ n)),some { ud:=.int _,.. },some { ud:=.str,.. }=>K (.p (.im (.string (Utf8.encode n)))) [] none
  | _,_,_=>False
 | .nilCheck x=>match rho x with
  | .p (.ip cs)=>K (.p (.ip cs)) [] none
  | .bx id off=>match h id with
   | .box _=>K (.bx id off) [] none
   | .nd _=>K (.bx id off) [] none
   | _=>False
  | .rp id i off=>match h id with
   | .row _ _=>K (.rp id i off) [] none
   | .aw _ _=>K (.rp id i off) [] none
   | _=>False
  | _=>False
 | .extract x i=>match rho x with
  | .tu xs=>match xs[i]? with
   | some a=>K a [] none
   | none=>False
  | _=>False
 | .box _ x=>match rho x with
  | .p (.ag cs)=>K (.bx d 0) [] (some (.box (cs.map .p)))
  | .st xs=>K (.bx d 0) [] (some (.box xs))
  | a=>match yu h a with
   | true=>K (.bx d 0) [] (some (.box [a]))
   | false=>False
 | .alloc e=>match C.T e with
  | some ti=>match C.bt e with
   | false=>K (.bx d 0) [] (some (.box (ti.zero.map No)))
   | true=>K (.bx d 0) [] (some (.kr e (ti.zero.map No)))
  | none=>False
 | .load t a=>match C.T t with
  | none=>False
  | some ti=>match rho a with
   | .p (.ip cs)=>match ti.ud.agg with
    | true=>match LP ti.size cs.length with
     | true=>K (.p (.ag (cs.take ti.size))) [] none
     | false=>False
    | false=>match cs with
     | c::_=>K (.p c) [] none
     | []=>False
   | .bx id off=>match h id with
    | .box cs=>match ti.ud.agg with
     | true=>match LP (off+ti.size) cs.length,ec ((cs.drop off).take ti.size) with
      | true,some xs=>K (.p (.ag xs)) [] none
      | _,_=>False
     | false=>match cs.drop off with
      | c::_=>K c [] none
      | []=>False
    | .nd cs=>match ti.ud.agg with
     | true=>match LP (off+ti.size) cs.length with
      | true=>K (.p (.ag ((cs.drop off).take ti.size))) [] none
      | _=>False
     | false=>match cs.drop off with
      | c::_=>K (.p c) [] none
      | []=>False
    | _=>False
   | .rp id i off=>match h id with
    | .row _ es=>∃r,es[i]?=some r/\match ti.ud.agg with
     | true=>match LP (off+ti.size) r.length with
      | true=>K (.p (.ag ((r.drop off).take ti.size))) [] none
      | _=>False
     | false=>match r.drop off with
      | c::_=>K (.p c) [] none
      | []=>False
    | .aw _ es=>∃r,es[i]?=some r/\match ti.ud.agg with
     | true=>False
     | false=>match r.drop off with
      | .av c::_=>K c [] none
      | _=>False
    | _=>False
   | _=>False
 | .store t a x=>match C.T t with
  | none=>False
  | some ti=>match rho a with
   | .bx id off=>match h id with
    | .box cs=>match ti.ud.agg with
     | true=>iT h (rho x) fun y fz=>match y with
      | .ag ys=>match Dk ys.length ti.size&&LP (off+ti.size) cs.length&&vo id fz with
       | true=>K .junk (fz++[(id,.box (setCells cs off (ys.map Ya)))]) none
       | false=>False
      | _=>False
     | false=>match LP (off+1) cs.length&&Dk ti.size 1&&yu h (rho x) with
      | true=>K .junk [(id,.box (cs.set off (rho x)))] none
      | false=>False
    | _=>False
   | .rp id i off=>match h id with
    | .row e es=>∃r,es[i]?=some r/\iT h (rho x) fun y fz=>match vn y with
     | some ys=>match Dk ys.length ti.size&&LP (off+ti.size) r.length&&vo id fz with
      | true=>K .junk (fz++[(id,.row e (es.set i (setCells r off ys)))]) none
      | false=>False
     | none=>False
    | .aw e es=>∃r,es[i]?=some r/\match ti.ud.agg with
     | true=>False
     | false=>match LP (off+1) r.length&&Dk ti.size 1&&yu h (rho x) with
      | true=>K .junk [(id,.aw e (es.set i (r.set off (.av (rho x)))))] none
      | false=>False
    | _=>False
   | _=>False
 | .fieldAddr t x f=>match C.T t with
  | some { ud:=.st fs,.. }=>match fs[f]? with
   | some (off,_,_)=>match rho x with
    | .p (.ip cs)=>K (.p (.ip (cs.drop off))) [] none
    | .bx id o=>match h id with
     | .none=>False
     | _=>K (.bx id (o+off)) [] none
    | .rp id i o=>match h id with
     | .row _ _=>K (.rp id i (o+off)) [] none
     | .aw _ _=>K (.rp id i (o+off)) [] none
     | _=>False
    | _=>False
   | none=>False
  | _=>False
 | .field t x f=>match C.T t,rho x with
  | some { ud:=.st fs,.. },.p (.ag cs)=>match fs[f]? with
   | some (off,size,agg)=>match agg with
    | true=>match LP (off+size) cs.length with
     | true=>K (.p (.ag ((cs.drop off).take size))) [] none
     | false=>False
    | false=>match cs.drop off with
     | c::_=>K (.p c) [] none
     | []=>False
   | none=>False
  | _,_=>False
 | .indexAddr t x ix=>match C.T t,rho ix with
  | some { ud:=.sl e,.. },.p (.im (.int _ i))=>match C.T e with
   | none=>False
   | some te=>match rho x with
    | .p (.sl es)=>∃r,(0<=i/\es[i.toNat]?=some r)/\match Dk r.length te.size with
     | true=>K (.p (.ip r)) [] none
     | false=>False
    | .ow id=>match h id with
     | .row e' es=>match Dk e' e with
      | true=>(0<=i/\i.toNat<es.length)/\K (.rp id i.toNat 0) [] none
      | false=>False
     | .aw e' es=>match Dk e' e with
      | true=>(0<=i/\i.toNat<es.length)/\K (.rp id i.toNat 0) [] none
      | false=>False
     | .lz es=>∃r,(0<=i/\es[i.toNat]?=some r)/\match Dk r.length te.size with
      | true=>K (.p (.ip r)) [] none
      | false=>False
     | _=>False
    | .vw id lo hi=>match h id with
     | .row e' es=>match Dk e' e with
      | true=>(0<=i/\i.toNat<hi-lo)/\K (.rp id (lo+i.toNat) 0) [] none
      | false=>False
     | _=>False
    | _=>False
  | _,_=>False
 | .index t x ix=>match C.T t,rho x,rho ix with
  | some { ud:=.str,.. },.p (.im (.string s)),.p (.im (.int _ i))=>∃b,(0<=i/\s[i.toNat]?=some b)/\K (.p (.im (.int .u8 b.toNat))) [] none
  | _,_,_=>False
 | .slice t x lo hi none=>match rho x with
  | .ow id=>match h id with
   | .row e' es=>v_ C rho t lo hi id e' es K\/g_ C rho h t x lo hi K
   | _=>g_ C rho h t x lo hi K
  | _=>g_ C rho h t x lo hi K
 | .makeMap t none=>match C.T t with
  | some { ud:=.mp kt _,.. }=>match C.T kt with
   | some tk=>match Dr tk with
    | some mk=>K (.ow d) [] (some (.map mk []))
    | none=>False
   | none=>False
  | _=>False
 | .lookup t x i ck=>match C.T t with
  | some { ud:=.mp kt et,.. }=>match C.T kt,C.T et with
   | some tk,some te=>match Dr tk with
    | some mk=>match rho x with
     | .ow id=>match h id with
      | .map mk' es=>match mkB mk mk' with
       | true=>match keyOf mk (rho i) with
        | some k=>∃r,gz es k=r/\match ck with
         | true=>K (.tu [.p (r.getD (Bo te)),.p (.im (.bool r.isSome))]) [] none
         | false=>K (.p (r.getD (Bo te))) [] none
        | none=>False
       | false=>False
      | _=>False
     | _=>False
    | none=>False
   | _,_=>False
  | _=>False
 | .mapUpdate t x i y=>match C.T t with
  | some { ud:=.mp kt _,.. }=>match C.T kt with
   | some tk=>match Dr tk with
    | some mk=>match rho x with
     | .ow id=>match h id with
      | .map mk' es=>match mkB mk mk' with
       | true=>match keyOf mk (rho i) with
        | some k=>iT h (rho y) fun v fz=>match vo id fz with
         | true=>K .junk (fz++[(id,.map mk' (iS es k v))]) none
         | false=>False
        | none=>False
       | false=>False
      | _=>False
     | _=>False
    | none=>False
   | none=>False
  | _=>False
 | .build t ps=>match C.T t with
  | some { ud:=.st fs,zero:=z,.. }=>match C.bo t with
   | false=>lA h fs rho ps.toList (z.map (X_ (C.bn t))) fun cs fz=>K (.p (.ag cs)) fz none
   | true=>mU h fs rho ps.toList (z.map No) fun cs=>K (.st cs) [] none
  | _=>False
 | .buildSlice t len ps=>match C.T t with
  | some { ud:=.sl e,.. }=>match C.T e with
   | some ti=>match Nat.blt 0 ti.size&&LP (len*ti.size) 16777216 with
    | true=>match C.bf d with
     | false=>iD (C.bn t) h ti.size rho ps.toList (List.replicate len (ti.zero.map Ag)) fun es fz=>K (.ow d) fz (some (.row e es))
     | true=>iD (C.bn t) h ti.size rho ps.toList (List.replicate len (ti.zero.map Ag)) fun es fz=>K (.ow d) fz (some (.lz es))
    | false=>False
   | none=>False
  | _=>False
 | .makeSlice t n c=>match C.T t,rho n,rho c with
  | some { ud:=.sl e,.. },.p (.im (.int _ n)),.p (.im (.int _ c))=>match C.T e with
   | some ti=>match Nat.blt 0 ti.size with
    | true=>(0<=n/\n<=c/\c*ti.bytes<=140737488355328/\c<=9223372036854775807)/\K (.ow d) [] (some (.row e (List.replicate n.toNat (ti.zero.map (X_ (C.bn t))))))
    | false=>False
   | none=>False
  | _,_,_=>False
 | .makeFunc (.func f) first cap=>match isNil first.toList with
  | true=>K (.fn f (cap.toList.map rho)) [] none
  | false=>False
 | .call c=>match fc c.callee with
  | .len=>match c.args.toList,c.argTypes.toList with
   | [x],[t]=>match C.T t with
    | some { ud:=.str,.. }=>match rho x with
     | .p (.im (.string s))=>K (.p (.im (.int .i64 s.size))) [] none
     | _=>False
    | some { ud:=.sl _,.. }=>match hlen h (rho x) with
     | some n=>K (.p (.im (.int .i64 n))) [] none
     | none=>iE h (rho x) fun es=>K (.p (.im (.int .i64 es.length))) [] none
    | some { ud:=.mp _ _,.. }=>match rho x with
     | .ow id=>match h id with
      | .map _ es=>K (.p (.im (.int .i64 es.length))) [] none
      | _=>False
     | _=>False
    | _=>False
   | _,_=>False
  | .clear=>match c.args.toList,c.argTypes.toList with
   | [x],[t]=>match C.T t with
    | some { ud:=.sl e,.. }=>match C.T e with
     | some ti=>match rho x with
      | .vw id lo hi=>match h id with
       | .row e' es=>match Dk e' e&&Nat.blt 0 ti.size with
        | true=>(lo<=hi/\hi<=es.length)/\K (.tu []) [(id,.row e' (es.take lo++List.replicate (hi-lo) (ti.zero.map Ag)++es.drop hi))] none
        | false=>False
       | _=>False
      | _=>False
     | none=>False
    | _=>False
   | _,_=>False
  | .min=>match c.args.toList with
   | [x,y]=>match rho x,rho y with
    | .p (.im (.int k a)),.p (.im (.int _ b))=>K (.p (.im (.int k (min a b)))) [] none
    | _,_=>False
   | _=>False
  | .max=>match c.args.toList with
   | [x,y]=>match rho x,rho y with
    | .p (.im (.int k a)),.p (.im (.int _ b))=>K (.p (.im (.int k (max a b)))) [] none
    | _,_=>False
   | [x,y,z]=>match rho x,rho y,rho z with
    | .p (.im (.int k a)),.p (.im (.int _ b)),.p (.im (.int _ c))=>K (.p (.im (.int k (max (max a b) c)))) [] none
    | _,_,_=>False
   | [x,y,z,u,v]=>match rho x,rho y,rho z,rho u,rho v with
    | .p (.im (.int k a)),.p (.im (.int _ b)),.p (.im (.int _ c)),.p (.im (.int _ d)),.p (.im (.int _ e))=>K (.p (.im (.int k (max (max (max (max a b) c) d) e)))) [] none
    | _,_,_,_,_=>False
   | _=>False
  | .append=>match c.args.toList,c.argTypes.toList with
   | [x,y],[t,t']=>match Dk t t',C.T t with
    | true,some { ud:=.sl e,.. }=>match C.T e with
     | some ti=>match Nat.blt 0 ti.size with
      | true=>iE h (rho y) fun ys=>match rho x with
       | .nl=>((∀r∈ys,r.length=ti.size)/\ys.length*ti.bytes<=140737488355328/\ys.length<=140737488355328)/\K (.ow d) [] (some (.row e ys))
       | .ow id=>match h id with
        | .row e' xs=>match Dk e' e with
         | true=>((∀r∈ys,r.length=ti.size)/\(xs.length+ys.length)*ti.bytes<=140737488355328/\xs.length+ys.length<=140737488355328)/\K (.ow d) [(id,.none)] (some (.row e (xs++ys)))
         | false=>False
        | .aw e' xs=>match Dk e' e with
         | true=>((∀r∈ys,r.length=ti.size)/\(xs.length+ys.length)*ti.bytes<=140737488355328/\xs.length+ys.length<=140737488355328)/\K (.ow d) [(id,.none)] (some (.aw e (xs++ys.map uN)))
         | false=>False
        | _=>False
       | _=>False
      | false=>False
     | none=>False
    | _,_=>False
   | _,_=>False
  | .val g=>match Bn (rho g) with
   | some (f,cap)=>match C.bl f with
    | false=>zv C h d f (c.args.toList.map rho++cap) K
    | true=>zx C h d f (c.args.toList.map rho++cap) K
   | none=>False
  | _=>False
 | _=>False
end Go.AM
namespace Go.AM
open Go.RowKit
def qc(P:Program)(t:TypeId)(ti:TI):Prop:=
 ∃info z,P.info? t=some info/\info.size=ti.size/\info.bytes=ti.bytes/\info.zero=some z/\z.cells=ti.zero.toArray/\ti.zero.length=ti.size/\(∀v∈ti.zero,v.oneCell'=true)/\
  match ti.ud with
  | .sc=>(∃d,P.underlying t=some d/\(match d with | .struct _ | .array _ _=>False | _=>True))/\(ti.eq=true->P.underlying t=some .bool)
  | .int k=>P.underlying t=some (.int k)
  | .st fs=>∃gs,P.underlying t=some (.struct gs)/\fs.length=gs.size/\(∀(i:Nat) f g,fs[i]?=some f->gs[i]?=some g->f.1=g.offset/\f.2.1≠0/\(∃i2,P.info? g.type=some i2/\i2.size=f.2.1)/\
    (∃d,P.underlying g.type=some d/\f.2.2=(match d with | .struct _ | .array _ _=>true | _=>false)))
  | .sl e=>P.underlying t=some (.slice e)
  | .str=>P.underlying t=some .string
  | .mp k e=>P.underlying t=some (.map k e)
def PG:Value->Bool
 | .agg _=>true
 | _=>false
def JR(P:Program)(t:TypeId)(ti:TI):Prop:=∃info z,P.info? t=some info/\info.zero=some z/\PG z=ti.ud.agg
def uU(k:Value):List MapEntry->Nat->Option (Nat×Value)
 | [],_=>none
 | m::r,i=>match Dj k m.key with
  | true=>some (i,m.val)
  | false=>uU k r (i+1)
structure PH(P:Program)(kt:TypeId)(mk:MK):Prop where
 check:∀(e:Bool) (k:Value) (w:World),mk.ok k->(Instr.checkKey e 10000 kt k).run P w=.ok () w
 find:∀(k:Value) (w:World) (ms:List MapEntry),mk.ok k->(∀m∈ms,mk.ok m.key)->(Instr.findKey kt k ms).run P w=.ok (uU k ms 0) w
structure bP(C:Ctx):Prop where
 zs:∀t ti,C.T t=some ti->JR C.P t ti
 jw:∀t ti,C.T t=some ti->qc C.P t ti
 env:∀S S' w w',C.E S w->(∀b,S b->S' b)->(∀b,S b->w'.heap[b]?=w.heap[b]?)->w.heap.size<=w'.heap.size->C.E S' w'
 any:C.P.follows .mixedOrders=true
 eqs:∀t ti op a b r,C.T t=some ti->ti.eq=true->(∃fs,ti.ud=.st fs)->bU ti.zero a b=some r->∀(xs ys:Array Value) w,(∀(i:Nat) x v,a[i]?=some x->xs[i]?=some v->x=.im v)->(∀(i:Nat) x v,b[i]?=some x->ys[i]?=some v->x=.im v)->
  a.length=xs.size->b.length=ys.size->ti.size=a.length->(op=.eql\/op=.neq)->∀(x y:Operand),(do eqGuard op t x y (.agg xs) (.agg ys);binOp op t (.agg xs) (.agg ys):Sem Value).run C.P w=.ok (.bool (if op=.eql then r else !r)) w
 keys:∀kt tk sh,C.T kt=some tk->Dr tk=some (.st sh)->PH C.P kt (.st sh)
structure rZ where
 C:Ctx
 w0:World
 mv:Nat->Prop
 s0:Nat->Prop
 n:Nat
 pin:Nat->Value
structure cn(A:rZ)(V L:Nat->Prop)(S:Nat->Prop)(rho:Nat->Value)(s:AS)(a:Act)(w:World):Prop where
 tm:∀j,V j->bu S w A.C.P L rho s.h (s.t j) (a.tmps.getD j undef)
 sz:a.tmps.size=A.n
 df:a.defers=[]
 nb:A.n<=100000
 pn:∀id,100000<=id->rho id=A.pin id
 ev:A.C.E S w
 s0:∀b,A.s0 b->S b
 st:∀b,S b->b<w.heap.size
 sb:∀b,S b->A.s0 b\/A.mv b\/A.w0.heap.size<=b
 hp:∀id,L id->fD S w A.C.P L rho s.h id (s.h id)
 dj:∀i j g,L i->L j->(s.h i).live->(s.h j).live->hasB w (s.h i) (rho i) g->hasB w (s.h j) (rho j) g->i=j
 lv:∀i g,L i->(s.h i).live->hasB w (s.h i) (rho i) g->g<w.heap.size/\¬S g/\(A.mv g\/A.w0.heap.size<=g)
 fr:Fr A.mv A.w0 w
variable {A:rZ} {V L:Nat->Prop} {rho:Nat->Value} {s:AS}
theorem cn.Yw{S:Nat->Prop}{a:Act}{w:World}(z:cn A V L S rho s a w)(i j g:Nat)(hi:L i)(D:L j)(I:(s.h i).live)(J:(s.h j).live)(N:cF (rho i)=some g)(O:cF (rho j)=some g):i=j:=z.dj i j g hi D I J (.inl N) (.inl O)
theorem cn.qd{S:Nat->Prop}{a:Act}{w:World}(z:cn A V L S rho s a w)(i g:Nat)(hi:L i)(D:(s.h i).live)(I:cF (rho i)=some g):g<w.heap.size/\¬S g/\(A.mv g\/A.w0.heap.size<=g):=z.lv i g hi D (.inl I)
structure ng(S S':Nat->Prop)(w w':World)(L L':Nat->Prop)(rho rho':Nat->Value)(h h':Nat->AB):Prop where
 hS:∀b,S b->S' b
 keep:∀b,S b->w'.heap[b]?=w.heap[b]?
 ids:∀id,(h' id).there->(h id).there/\(L id->L' id/\rho' id=rho id)
 rows:∀id e,(h' id).qK=some e->(h id).qK=some e
variable {e:TypeId}
theorem qO{b:AB}(h:b.qK=some e):b.there:=by cases b<;>first | trivial | cases h
variable {S' L':Nat->Prop} {w':World} {rho':Nat->Value} {h':Nat->AB}
theorem bu.de{S:Nat->Prop}{w:World}{P:Program}{h:Nat->AB}(T:ng S S' w w' L L' rho rho' h h'){x:AV}{v:Value}
  (U:bu S w P L rho h x v):bu S' w' P L' rho' h' x v:=by
 induction U with
 | p x v U=>exact .p x v (U.mono T.hS T.keep)
 | nl=>exact .nl
 | ow id v hv=>
  refine .ow id v fun W=>?_;obtain⟨J,Y⟩:=T.ids id W;obtain⟨z,D⟩:=hv J;obtain⟨I,N⟩:=Y z;exact⟨I,by rw[N];exact D⟩
 | rp id i off v hv=>
  refine .rp id i off v fun e O=>?_;obtain⟨z,g,n,c,ti,D,I,N⟩:=hv e (T.rows id e O);obtain⟨R,Z⟩:=(T.ids id (qO O)).2 z;exact⟨R,g,n,c,ti,by rw[Z];exact D,I,N⟩
 | bx id off v hv=>
  refine .bx id off v fun W=>?_;obtain⟨J,Y⟩:=T.ids id W;obtain⟨z,g,D,R⟩:=hv J;obtain⟨I,N⟩:=Y z;exact⟨I,g,by rw[N];exact D,R⟩
 | vw id lo hi v hv=>
  refine .vw id lo hi v fun e O=>?_;obtain⟨z,n,c,a,ti,D,I⟩:=hv e (T.rows id e O);obtain⟨R,Z⟩:=(T.ids id (qO O)).2 z;exact⟨R,n,c,a,ti,by rw[Z];exact D,I⟩
 | fn f cap vs hl hc ih=>exact .fn f cap vs hl ih
 | tu xs vs hl hc ih=>exact .tu xs vs hl ih
 | st xs vs hl J hc ih=>exact .st xs vs hl J ih
 | junk v=>exact .junk v
theorem wa{w:World}{base:Nat}{size:Nat}{v:Value}{n:Nat}{xs:List Value}(h:w.ownsRow base e size v n xs)(hb:∀g,cF v=some g->w'.heap[g]?=w.heap[g]?):w'.ownsRow base e size v n xs:=by
 refine⟨h.1,?_⟩;rcases h.2 with I | ⟨g,cap,z,D,J,N,r⟩
 ·exact .inl I
 exact .inr ⟨g,cap,z,D,J,by rw[hb g (by rw[D];rfl)];exact N,r⟩
theorem aH.de{α:Type}{P:Program}{w:World}{R z:α->Value->Prop}{es:List (List α)}{v:Value}(h:aH P w R e es v)(hb:∀g,cF v=some g->w'.heap[g]?=w.heap[g]?)(D:∀x u,R x u->z x u):aH P w' z e es v:=by
 obtain⟨i,xs,I,J,N,O,U,W⟩:=h;exact⟨i,xs,I,J,wa N hb,O,U,fun a r j x Y Z=>by obtain⟨u,hu,hr⟩:=W a r j x Y Z;exact⟨u,hu,D x u hr⟩⟩
theorem yt.de{w:World}{es:List (List HX)}{v:Value}(h:yt w es v)(hb:∀g,cF v=some g->w'.heap[g]?=w.heap[g]?):yt w' es v:=
 ⟨fun g a j u b z D I=>h.top g a j u b z (o7 (hb g z) D) I,fun g a j J N u O b z D I R U=>h.dis g a j J N u O b z (o7 (hb g z) D) (o7 (hb g z) I) R U⟩
theorem aH.Hl{P:Program}{w:World}{R:HX->Value->Prop}{es:List (List HX)}{v:Value}(h:aH P w R e es v){a j:Nat}{r:List HX}{e':TypeId}{I:List (List PV)}(z:es[a]?=some r)(J:r[j]?=some (.row e' I)):
  ∃g u,cF v=some g/\dT w es g a j u/\R (.row e' I) u:=by
 obtain⟨i,xs,h1,h2,N,O,h5,U⟩:=h;obtain⟨u,D,W⟩:=U a r j _ z J;have Y:=O r (aj z);rcases N.2 with⟨hn,hz⟩ | ⟨g,cap,cur,Z,hg,Hc,k1,k2,k3,k4⟩
 ·have:=(az.1 z).1;omega
 refine⟨g,u,by rw[Z];rfl,⟨r,e',I,_,_,_,z,J,Hc,?_⟩,W⟩;rw[Y];rw[<-k4,dM]at D;split at D
 ·simpa using D
 cases D
theorem fD.de{S:Nat->Prop}{w:World}{P:Program}{h:Nat->AB}(T:ng S S' w w' L L' rho rho' h h'){id:Nat}{x:AB}
  (hb:x.live->∀g,hasB w x (rho id) g->w'.heap[g]?=w.heap[g]?) (N:x.there->rho' id=rho id) (U:fD S w P L rho h id x):fD S' w' P L' rho' h' id x:=by
 cases x with
 | none=>trivial
 | row e es=>
  show aH P w' (aO S' w') e es (rho' id);rw[N trivial];exact aH.de U (fun g I=>hb trivial g (.inl I)) (fun x u z=>z.mono T.hS T.keep)
 | lz es=>
  show aO S' w' (.sl es) (rho' id);rw[N trivial];exact aO.mono U T.hS T.keep
 | box cs=>
  obtain⟨g,ty,c,D,Z,W,Y⟩:=U;refine⟨g,ty,c,by rw[N trivial];exact D,by rw[hb trivial g (.inl (by rw[D];rfl))];exact Z,W,fun j x u O z=>?_⟩;obtain⟨R,J⟩:=Y j x u O z;exact⟨R,J.de T⟩
 | kr ty cs=>
  obtain⟨g,c,D,Z,W,Y⟩:=U;refine⟨g,c,by rw[N trivial];exact D,by rw[hb trivial g (.inl (by rw[D];rfl))];exact Z,W,fun j x u O z=>?_⟩;obtain⟨R,J⟩:=Y j x u O z;exact⟨R,J.de T⟩
 | nd cs=>
  show aO S' w' (.ip cs) (rho' id);rw[N trivial];exact aO.mono U T.hS T.keep
 | map mk es=>
  obtain⟨g,ms,clock,D,Z,W,Y⟩:=U;refine⟨g,ms,clock,by rw[N trivial];exact D,by rw[hb trivial g (.inl (by rw[D];rfl))];exact Z,W,fun i p m hi hm=>?_⟩;obtain⟨R,J,h7⟩:=Y i p m hi hm;exact⟨R,J,h7.mono T.hS T.keep⟩
 | aU cs=>
  obtain⟨g,ty,c,D,hB⟩:=U;have I:cF (rho id)=some g:=by rw[D];rfl
  refine⟨g,ty,c,by rw[N trivial];exact D,⟨by rw[hb trivial g (.inl I)];exact hB.hp,hB.sz,fun j x u O z=>?_,hB.top,hB.dis⟩⟩;obtain⟨R,J⟩:=hB.cell j x u O z;refine⟨R,?_⟩;cases x with
  | p x=>exact aO.mono J T.hS T.keep
  | row e es=>exact aH.de J (fun k hk=>hb trivial k (.inr (.inl ⟨cs,g,rfl,I,c,ty,_,j,_,u,hB.hp,O,trivial,z,hk⟩))) (fun x u z=>z.mono T.hS T.keep)
 | aw e es=>
  obtain⟨hR,hS⟩:=U;have I:∀g,cF (rho id)=some g->w'.heap[g]?=w.heap[g]?:=fun g I=>hb trivial g (.inl I);refine⟨?_,by rw[N trivial];exact hS.de I⟩;rw[N trivial];obtain⟨i,xs,D,Z,W,Y,R,J⟩:=hR;refine⟨i,xs,D,Z,wa W I,Y,R,fun a r j x ha O=>?_⟩;obtain⟨u,z,Du⟩:=J a r j x ha O;refine⟨u,z,?_⟩;cases x with
  | av x=>exact bu.de T Du
  | row e' uV=>
   refine aH.de Du (fun k hk=>hb trivial k (.inr (.inr ?_))) (fun x u z=>z.mono T.hS T.keep);have Ah:=Y r (aj ha);rcases W.2 with⟨hn,hz⟩ | ⟨g,cap,cur,hv,I,Hc,k1,k2,k3,k4⟩
   ·have:=(az.1 ha).1;omega
   refine⟨e,es,g,a,j,u,rfl,by rw[hv];rfl,⟨r,e',uV,_,_,_,ha,O,Hc,?_⟩,hk⟩;rw[Ah];rw[<-k4,dM]at z;split at z
   ·simpa using z
   cases z
theorem Fr.next{mv:Nat->Prop}{w0 w:World}(h:Fr mv w0 w)(D:w'.os=w.os)(I:w'.tape=w.tape)(J:w'.output=w.output)(N:w.heap.size<=w'.heap.size)(hb:∀k,k<w0.heap.size->¬mv k->w'.heap[k]?=w.heap[k]?):Fr mv w0 w':=
 ⟨D.trans h.os,I.trans h.tape,J.trans h.output,aS h.size N,fun k hk z=>(hb k hk z).trans (h.block k hk z)⟩
def fE(t:Nat->AV)(d:Option Tmp)(v:AV):Nat->AV:=match d with
 | some d=>bd t d v
 | none=>t
def yy(V:Nat->Prop)(d:Option Tmp)(j:Nat):Prop:=V j\/d=some j
theorem PI(a:Act)(d:Tmp)(v:Value)(j:Nat)(z:d<a.tmps.size):(a.put (some d) v).tmps.getD j undef=if j=d then v else a.tmps.getD j undef:=by
 simp only[Act.put,vW,Aw];by_cases h:d=j
 ·subst h;simp[z]
 have:¬j=d:=fun e=>h e.symm;simp[h,this]
theorem V3{S:Nat->Prop}{a:Act}{w:World}(D:cn A V L S rho s a w)(T:ng S S' w w' L L' rho rho' s.h h')(dst:Option Tmp)(I:∀d,dst=some d->d<A.n)(x:AV)(v:Value)
  (J:bu S' w' A.C.P L' rho' h' x v):∀j,yy V dst j->bu S' w' A.C.P L' rho' h' (fE s.t dst x j) ((a.put dst v).tmps.getD j undef):=by
 intro j z;cases dst with
 | none=>
  rcases z with z | z
  ·exact (D.tm j z).de T
  cases z
 | some d=>
  rw[PI a d v j (by rw[D.sz];exact I d rfl)];by_cases e:j=d
  ·subst e;simp only[fE,aF,if_true];exact J
  simp only[fE,bg _ _ e,aa e];rcases z with z | z
  ·exact (D.tm j z).de T
  injection z with z;exact absurd z.symm e
theorem PJ(a:Act)(dst:Option Tmp)(v:Value):(a.put dst v).tmps.size=a.tmps.size:=by cases dst<;>simp[Act.put]
theorem Hm(a:Act)(dst:Option Tmp)(v:Value):(a.put dst v).defers=a.defers:=by cases dst<;>rfl
theorem cn.value{S:Nat->Prop}{a:Act}{w:World}(z:cn A V L S rho s a w)(dst:Option Tmp)(D:∀d,dst=some d->d<A.n)(x:AV)(v:Value)(I:bu S w A.C.P L rho s.h x v):
  cn A (yy V dst) L S rho ⟨fE s.t dst x,s.h⟩ (a.put dst v) w:=
 {tm:=V3 z ⟨fun _ h=>h,fun _ _=>rfl,fun _ h=>⟨h,fun hl=>⟨hl,rfl⟩⟩,fun _ _ h=>h⟩ dst D x v I
  sz:=(PJ a dst v).trans z.sz
  df:=(Hm a dst v).trans z.df
  nb:=z.nb,pn:=z.pn
  ev:=z.ev,s0:=z.s0,st:=z.st,sb:=z.sb,hp:=z.hp,dj:=z.dj,lv:=z.lv,fr:=z.fr }
end Go.AM
namespace Go.AM
open Go.RowKit
variable {Q:Exit->Act->World->Prop}
theorem eB{P:Program}{o:Oper}{a:Act}{w w':World}{v:Value}{next:Act->World->Prop}(h:(execOp a.eval o).run P w=.ok (.value v) w')(z:next (a.put o.dst v) w'):o.wp P a w next Q:=by
 unfold Oper.wp;rw[h];exact z
theorem sC{P:Program}{o:Oper}{a:Act}{w w':World}{next:Act->World->Prop}(h:(execOp a.eval o).run P w=.ok .skip w')(z:next (a.put o.dst undef) w'):o.wp P a w next Q:=by
 unfold Oper.wp;rw[h];exact z
theorem wb(S:Nat->Prop)(w:World)(v:Value):aO S w (Ag v) v:=by
 unfold Ag;split
 ·exact .nil _ _
 exact .im _
theorem LX(b:Bool)(S:Nat->Prop)(w:World)(v:Value):aO S w (X_ b v) v:=by
 cases b
 ·exact wb S w v
 exact .im v
variable {L:Nat->Prop} {rho:Nat->Value}
theorem AG{S:Nat->Prop}{w:World}{P:Program}{h:Nat->AB}{x:PV}{v:Value}(z:aO S w x v):bu S w P L rho h (Ya x) v:=by
 unfold Ya;split
 ·cases z;exact .nl
 exact .p _ _ z
theorem Bp(S:Nat->Prop)(w:World)(P:Program)(L:Nat->Prop)(rho:Nat->Value)(h:Nat->AB)(v:Value):bu S w P L rho h (No v) v:=by
 unfold No;split
 ·exact .nl
 exact .p _ _ (.im _)
theorem Nr(S:Nat->Prop)(w:World)(P:Program)(L:Nat->Prop)(rho:Nat->Value)(h:Nat->AB)(v:Value):bu S w P L rho h (Fa v) v:=by
 unfold Fa;split
 ·exact .nl
 ·rename_i cs;split
  ·rename_i D;refine .p _ _ (.ag _ _ (by simp) (fun u I=>?_) fun i c v z J=>?_)
   ·rw[dY]at D;exact D u I
   rw[aD]at z;have N:cs.toList[i]?=some v:=by simpa using J
   rw[N]at z;simp at z;rw[<-z];exact wb S w v
  exact .junk _
 exact .p _ _ (.im _)
variable {A:rZ} {V:Nat->Prop} {s:AS}
theorem bF{S:Nat->Prop}{a:Act}{w:World}(z:cn A V L S rho s a w)(x:Operand)(D:∀j,x=.tmp j->V j):bu S w A.C.P L rho s.h (ev s.t x) (a.eval x):=by
 cases x with
 | tmp j=>exact z.tm j (D j rfl)
 | const v=>exact Nr _ _ _ _ _ _ v
 | global g=>exact .p _ _ (.im _)
 | func f=>exact .p _ _ (.im _)
theorem bu.eY{S:Nat->Prop}{w:World}{P:Program}{h:Nat->AB}{x:PV}{v:Value}(z:bu S w P L rho h (.p x) v):aO S w x v:=by cases z;assumption
theorem aO.bZ{S:Nat->Prop}{w:World}{x v:Value}(z:aO S w (.im x) v):v=x:=by cases z;rfl
theorem bu.bZ{S:Nat->Prop}{w:World}{P:Program}{h:Nat->AB}{x v:Value}(z:bu S w P L rho h (.p (.im x)) v):v=x:=z.eY.bZ
theorem aO.n_{S:Nat->Prop}{w:World}{cs:List PV}{v:Value}(z:aO S w (.ag cs) v):∃vs:Array Value,v=.agg vs/\cs.length=vs.size/\(∀u∈vs.toList,u.oneCell'=true)/\(∀(i:Nat) c u,cs[i]?=some c->vs[i]?=some u->aO S w c u):=by
 cases z;exact⟨_,rfl,by assumption,by assumption,by assumption⟩
theorem aO.Bq{S:Nat->Prop}{w:World}{cs:List PV}{v:Value}(z:aO S w (.ip cs) v):∃b off,∃U:Nat->Value,v=.pointer (some ⟨b,off,none⟩)/\S b/\(∀(j:Nat) x,cs[j]?=some x->w.cell? ⟨b,off+j,none⟩=some (U j)/\(U j).oneCell'=true)/\(∀(j:Nat) x,cs[j]?=some x->aO S w x (U j)):=by
 cases z;exact⟨_,_,_,rfl,by assumption,by assumption,by assumption⟩
variable {es:List (List PV)}
theorem aO.qP{S:Nat->Prop}{w:World}{v:Value}(I:aO S w (.sl es) v):∃a c,v=.slice a es.length c/\es.length<=c/\(es≠[]->∃b off k,a=some ⟨b,off,none⟩/\S b/\(∀e∈es,e.length=k)/\
  ∀(i:Nat) e (j:Nat) x,es[i]?=some e->e[j]?=some x->∃u,w.cell? ⟨b,off+i*k+j,none⟩=some u/\u.oneCell'=true/\aO S w x u):=by
 cases I with
 | nil a c=>exact⟨a,c,rfl,by simp,fun h=>absurd rfl h⟩
 | sl _ k b off c U hc hS hk hcell h=>exact⟨_,c,rfl,hc,fun _=>⟨b,off,k,rfl,hS,hk,fun i e j x z D=>⟨U i j,(hcell i e j x z D).1,(hcell i e j x z D).2,h i e j x z D⟩⟩⟩
def Br(L:Nat->Prop)(new:Option AB)(d:Nat):Nat->Prop:=match new with
 | none=>L
 | some _=>fun i=>L i\/i=d
def jV(A:rZ)(o:Oper):Prop:=
 ∀(V L S:Nat->Prop) (rho:Nat->Value) (s:AS) (a:Act) (w:World) (K:KK) (next:Act->World->Prop) (Q:Exit->Act->World->Prop),bP A.C->cn A V L S rho s a w->(∀j,Operand.tmp j∈o.op.operands->V j)->(∀d,o.dst=some d->d<A.n)->
  cc A.C o (ev s.t) s.h K->(∀v eff b,K v eff (some b)->¬L (o.dst.getD 0)/\s.h (o.dst.getD 0)=b)->
  (∀v eff new S' rho' a' w',K v eff new->cn A (yy V o.dst) (Br L new (o.dst.getD 0)) S' rho' ⟨fE s.t o.dst v,app s.h eff⟩ a' w'->next a' w')->o.wp A.C.P a w next Q
theorem aN{o:Oper}{S:Nat->Prop}{a:Act}{w:World}{K:KK}{next:Act->World->Prop}(D:cn A V L S rho s a w)(J:∀d,o.dst=some d->d<A.n)
  (z:∀v eff new S' rho' I w',K v eff new->cn A (yy V o.dst) (Br L new (o.dst.getD 0)) S' rho' ⟨fE s.t o.dst v,app s.h eff⟩ I w'->next I w') {x:AV} {v:Value} (N:K x [] none) (O:bu S w A.C.P L rho s.h x v)
  (R:(execOp a.eval o).run A.C.P w=.ok (.value v) w):o.wp A.C.P a w next Q:=
 eB R (z _ _ _ _ _ _ _ N (D.value o.dst J x v O))
theorem Tc{o:Oper}(x:Operand)(I:o.op=.move x):jV A o:=by
 intro V L S rho s a w K next Q hC D N O J _ z
 simp only[cc,I]at J;exact aN D O z J (bF D x fun j R=>N j (by simp[I,Op.operands,R])) (by simp[execOp,I])
theorem Ns{o:Oper}(x:Operand)(I:o.op=.assign x):jV A o:=by
 intro V L S rho s a w K next Q hC D N O J _ z
 simp only[cc,I]at J;exact aN D O z J (bF D x fun j R=>N j (by simp[I,Op.operands,R])) (by simp[execOp,I])
theorem Td{o:Oper}(c x y:Operand)(I:o.op=.pick c x y):jV A o:=by
 intro V L S rho s a w K next Q hC z O U J _ D
 simp only[cc,I]at J;have R:=bF z c fun j N=>O j (by simp[I,Op.operands,N]);have W:=bF z x fun j N=>O j (by simp[I,Op.operands,N]);have Y:=bF z y fun j N=>O j (by simp[I,Op.operands,N]);split at J
 ·rename_i t Z;rw[Z]at R;split at J
  ·exact aN z U D J W (by simp[execOp,I,R.bZ,asBool])
  exact aN z U D J Y (by simp[execOp,I,R.bZ,asBool])
 exact J.elim
theorem bu.V4{S:Nat->Prop}{w:World}{P:Program}{h:Nat->AB}{xs:List AV}{v:Value}(z:bu S w P L rho h (.st xs) v):∃vs:Array Value,v=.agg vs/\xs.length=vs.size/\(∀u∈vs.toList,u.oneCell'=true)/\∀(i:Nat) c u,xs[i]?=some c->vs[i]?=some u->bu S w P L rho h c u:=by
 cases z;exact⟨_,rfl,by assumption,by assumption,by assumption⟩
theorem bu.V5{S:Nat->Prop}{w:World}{P:Program}{h:Nat->AB}{xs:List AV}{v:Value}(z:bu S w P L rho h (.tu xs) v):∃vs:Array Value,v=.tuple vs/\xs.length=vs.size/\∀(i:Nat) c u,xs[i]?=some c->vs[i]?=some u->bu S w P L rho h c u:=by
 cases z;exact⟨_,rfl,by assumption,by assumption⟩
variable {α:Type}
theorem lD{vs:Array α}{n i:Nat}(hl:n=vs.size)(hi:i<n):∃v,vs[i]?=some v:=⟨vs[i]'(by omega),cC _⟩
theorem aC{l:List α}{i:Nat}{x:α}(h:l[i]?=some x):i<l.length:=(az.1 h).1
theorem JT{o:Oper}(x:Operand)(i:Nat)(J:o.op=.extract x i):jV A o:=by
 intro V L S rho s a w K next Q hC I W Y D _ z
 simp only[cc,J]at D;have O:=bF I x fun j Z=>W j (by simp[J,Op.operands,Z]);split at D
 ·rename_i xs uN;rw[uN]at O;split at D
  ·rename_i y R;obtain⟨vs,N,hl,hc⟩:=O.V5;obtain⟨v,U⟩:=lD hl (aC R);refine aN I Y z D (hc i y v R U) ?_;simp[execOp,J,N,Instr.extract,U]
  exact D.elim
 exact D.elim
theorem LY{a b:IntKind}(h:kB a b=true):a=b:=by cases a<;>cases b<;>first | rfl | cases h
theorem Te{k:IntKind}(h:Yt k=true):k=.i64:=by cases k<;>first | rfl | cases h
theorem qe{k:IntKind}{n:Int}{K:Value->Prop}(h:yw k n K):K (.int k (k.wrap n)):=by
 unfold yw at h;split at h
 ·rename_i z;obtain rfl:=Te z;obtain⟨⟨D,I⟩,J⟩:=h;rw[Ax n ⟨D,I⟩];exact J
 exact h
theorem Fc(a b:ByteArray):(a.toList==b.toList)=decide (a=b):=by
 rw[fV];simp only[beq_iff_eq,db,E4];constructor
 ·intro h;exact ByteArray.ext (qI h)
 rintro rfl;rfl
theorem LZ(a b:ByteArray):Op.bytesLess a.toList b.toList=Op.bytesLess a.data.toList b.data.toList:=by rw[E4,E4]
theorem Bt(a b:Int):(a==b)=decide (a=b):=by rw[fV];simp
theorem JU(a b:Int):(a != b)=!decide (a=b):=by rw[bne,Bt]
theorem Tf{a b:Nat}(h:Dk a b=true):a=b:=cY h
theorem run_equalIn_slice_nil{P:Program}(w:World)(d:Nat)(t e:TypeId)(a:Option Addr)(l c:Nat)(h:P.underlying t=some (.slice e)):(Op.equalIn (d+1) t (.slice a l c) (.slice none 0 0)).run P w=.ok a.isNone w:=by
 cases a<;>simp[Op.equalIn,run_underlying h]
theorem f_{P:Program}(w:World)(t e:TypeId)(a:Option Addr)(l c:Nat)(h:P.underlying t=some (.slice e)):(Op.equal t (.slice a l c) (.slice none 0 0)).run P w=.ok a.isNone w:=run_equalIn_slice_nil w 9999 t e a l c h
theorem PK{o:Oper}(op:BinOp)(t:TypeId)(x y:Operand)(t':TypeId)(N:o.op=.binOp op t x y t'):jV A o:=by
 intro V L S rho s a w K next Q hC J hV U I _ D
 simp only[cc,N]at I;have Z:=bF J x fun j hj=>hV j (by simp[N,Op.operands,hj]);have hy:=bF J y fun j hj=>hV j (by simp[N,Op.operands,hj]);split at I
 ·rename_i u v hu hv;rw[hu]at Z;rw[hv]at hy;replace Z:=Z.eY;replace hy:=hy.eY;unfold vp at I;split at I
  ·rename_i k m k' n;have O:=Z.bZ;have R:=hy.bZ;split at I
   ·rename_i hs;have abj:op=.shr:=by cases op<;>first | rfl | cases hs
    subst abj;obtain⟨⟨h0,Y⟩,I⟩:=I;refine aN J U D I (.p _ _ (.im _)) ?_;have abk:¬n<0:=by omega
    simp[execOp,N,O,R,eqGuard,binOp,Op.shift,abk]
   split at I
   ·exact I.elim
   rename_i hk;obtain rfl:=LY hk;split at I
   ·exact aN J U D (qe I) (.p _ _ (.im _)) (by simp[execOp,N,O,R,eqGuard,binOp,Op.intArith])
   ·exact aN J U D (qe I) (.p _ _ (.im _)) (by simp[execOp,N,O,R,eqGuard,binOp,Op.intArith])
   ·exact aN J U D (qe I) (.p _ _ (.im _)) (by simp[execOp,N,O,R,eqGuard,binOp,Op.intArith])
   ·exact aN J U D (qe I.2) (.p _ _ (.im _)) (by simp[execOp,N,O,R,eqGuard,binOp,Op.intDiv,I.1])
   ·exact aN J U D I.2 (.p _ _ (.im _)) (by simp[execOp,N,O,R,eqGuard,binOp,Op.intDiv,I.1])
   ·exact aN J U D I (.p _ _ (.im _)) (by simp[execOp,N,O,R,eqGuard,binOp,Op.intCmp,Bt])
   ·exact aN J U D I (.p _ _ (.im _)) (by simp[execOp,N,O,R,eqGuard,binOp,Op.intCmp,JU])
   ·exact aN J U D I (.p _ _ (.im _)) (by simp[execOp,N,O,R,eqGuard,binOp,Op.intCmp])
   ·exact aN J U D I (.p _ _ (.im _)) (by simp[execOp,N,O,R,eqGuard,binOp,Op.intCmp])
   ·exact aN J U D I (.p _ _ (.im _)) (by simp[execOp,N,O,R,eqGuard,binOp,Op.intCmp])
   ·exact aN J U D I (.p _ _ (.im _)) (by simp[execOp,N,O,R,eqGuard,binOp,Op.intCmp])
   exact I.elim
  ·rename_i m n;have O:=Z.bZ;have R:=hy.bZ;split at I
   ·exact aN J U D I.2 (.p _ _ (.im _)) (by
     have:=I.1;simp[execOp,N,O,R,eqGuard,binOp,run_string_add_sum w m n this])
   ·exact aN J U D I (.p _ _ (.im _)) (by simp[execOp,N,O,R,eqGuard,binOp,Op.stringOp,Fc])
   ·exact aN J U D I (.p _ _ (.im _)) (by simp[execOp,N,O,R,eqGuard,binOp,Op.stringOp,Fc])
   ·exact aN J U D I (.p _ _ (.im _)) (by simp[execOp,N,O,R,eqGuard,binOp,Op.stringOp,LZ])
   ·exact aN J U D I (.p _ _ (.im _)) (by simp[execOp,N,O,R,eqGuard,binOp,Op.stringOp,Fc,LZ])
   ·exact aN J U D I (.p _ _ (.im _)) (by simp[execOp,N,O,R,eqGuard,binOp,Op.stringOp,Fc,LZ])
   ·exact aN J U D I (.p _ _ (.im _)) (by simp[execOp,N,O,R,eqGuard,binOp,Op.stringOp,LZ])
   exact I.elim
  ·rename_i m n;have O:=Z.bZ;have R:=hy.bZ;split at I
   ·rename_i size bytes zero hT;have hb:A.C.P.underlying t=some .bool:=by
     obtain⟨_,_,_,_,_,_,_,_,_,h⟩:=hC.jw t _ hT;exact h.2 rfl
    have W:=fun w=>run_equal_bool (P:=A.C.P) (w:=w) t m n hb;split at I
    ·exact aN J U D I (.p _ _ (.im _)) (by simp[execOp,N,O,R,eqGuard,binOp,W];cases m<;>cases n<;>rfl)
    ·exact aN J U D I (.p _ _ (.im _)) (by simp[execOp,N,O,R,eqGuard,binOp,W];cases m<;>cases n<;>rfl)
    exact I.elim
   exact I.elim
  ·rename_i m n;obtain⟨xs,O,Vc,_,hc1⟩:=Z.n_;obtain⟨ys,R,Hd,_,hc2⟩:=hy.n_;have im:∀(z:List Value) (m:List PV) (n:List PV) r,bU z m n=some r->(∀x∈m,∃v,x=.im v)/\(∀x∈n,∃v,x=.im v):=by
    intro z
    induction z with
    | nil=>
     intro m n r h;cases m<;>cases n<;>first
      | (simp[bU]at h;done)
      | exact⟨by simp,by simp⟩
    | cons c z ih=>
     intro m n r h;unfold bU at h;split at h
     ·rename_i Y;cases Y
     all_goals first
      | (
        rename_i Y;injection Y with Y wc;subst wc;split at h
        ·obtain⟨r',yz,_⟩:=aV.1 h;obtain⟨i1,i2⟩:=ih _ _ _ yz;exact⟨by simpa using i1,by simpa using i2⟩
        cases h)
      | (
        rename_i Y;injection Y with Y wc;subst wc;obtain⟨r',yz,_⟩:=aV.1 h;obtain⟨i1,i2⟩:=ih _ _ _ yz;exact⟨by simpa using i1,by simpa using i2⟩)
      | cases h
   have key:∀z r,bU z m n=some r->(∀(i:Nat) x v,m[i]?=some x->xs[i]?=some v->x=.im v)/\(∀(i:Nat) x v,n[i]?=some x->ys[i]?=some v->x=.im v):=by
    intro z r hr;obtain⟨i1,i2⟩:=im z m n r hr;refine⟨fun i x v Y h2=>?_,fun i x v Y h2=>?_⟩
    ·obtain⟨u,rfl⟩:=i1 x (aj Y);rw[(hc1 i _ v Y h2).bZ]
    obtain⟨u,rfl⟩:=i2 x (aj Y);rw[(hc2 i _ v Y h2).bZ]
   split at I
   ·rename_i fs size bytes zero hT;split at I
    ·exact I.elim
    rename_i hsz;have hsz:=Tf hsz;split at I
    ·split at I
     ·rename_i r hr;obtain⟨k1,k2⟩:=key _ r hr;have W:=hC.eqs t _ .eql m n r hT rfl ⟨_,rfl⟩ hr xs ys w k1 k2 Vc Hd hsz (.inl rfl) x y;exact aN J U D I (.p _ _ (.im _)) (by
       simp only[execOp,N,O,R];rw[bT,W];simp)
     exact I.elim
    ·split at I
     ·rename_i r hr;obtain⟨k1,k2⟩:=key _ r hr;have W:=hC.eqs t _ .neq m n r hT rfl ⟨_,rfl⟩ hr xs ys w k1 k2 Vc Hd hsz (.inr rfl) x y;exact aN J U D I (.p _ _ (.im _)) (by
       simp only[execOp,N,O,R];rw[bT,W];simp)
     exact I.elim
    exact I.elim
   exact I.elim
  exact I.elim
 ·rename_i u hu hv;rw[hu]at Z;rw[hv]at hy;replace Z:=Z.eY;have oO:a.eval y=.slice none 0 0:=by generalize a.eval y=v at hy;cases hy;rfl
  unfold Np at I;split at I
  case h_2=>exact I.elim
  rename_i es;split at I
  case h_1=>exact I.elim
  rename_i He;split at I
  case h_2=>exact I.elim
  rename_i e size bytes zero eq hT;have gj:A.C.P.underlying t=some (.slice e):=by
   obtain⟨_,_,_,_,_,_,_,_,_,h⟩:=hC.jw t _ hT;exact h
  obtain⟨ad,c,hv,_,cO⟩:=Z.qP;obtain⟨b,off,k,rfl,_⟩:=cO (fun e=>by rw[e]at He;cases He);split at I
  ·exact aN J U D I (.p _ _ (.im _)) (by simp[execOp,N,hv,oO,eqGuard,binOp,f_ _ _ _ _ _ _ gj])
  ·exact aN J U D I (.p _ _ (.im _)) (by simp[execOp,N,hv,oO,eqGuard,binOp,f_ _ _ _ _ _ _ gj])
  exact I.elim
 exact I.elim
theorem Tg{o:Oper}(op:UnOp)(t:TypeId)(x:Operand)(J:o.op=.unOp op t x):jV A o:=by
 intro V L S rho s a w K next Q hC D R O I _ z
 simp only[cc,J]at I;have N:=bF D x fun j U=>R j (by simp[J,Op.operands,U]);split at I
 ·rename_i b hb;rw[hb]at N;exact aN D O z I (.p _ _ (.im _)) (by simp[execOp,J,N.bZ,Op.unary])
 ·rename_i k n hb;rw[hb]at N;exact aN D O z (qe I) (.p _ _ (.im _)) (by simp[execOp,J,N.bZ,Op.unary,Op.intArith])
 exact I.elim
variable {ti:TI}
theorem qc.sizeOf{P:Program}{t:TypeId}(h:qc P t ti)(w:World):(sizeOf t).run P w=.ok ti.size w:=by
 obtain⟨info,z,D,I,_⟩:=h;simp[Go.sizeOf,typeInfo,D,I]
theorem qc.isAgg{P:Program}{t:TypeId}(h:qc P t ti)(w:World):(isAgg t).run P w=.ok ti.ud.agg w:=by
 obtain⟨info,z,_,_,_,_,_,_,_,h⟩:=h;unfold Go.isAgg;cases hu:ti.ud with
 | sc=>
  rw[hu]at h;obtain⟨⟨d,D,I⟩,_⟩:=h;rw[bT,run_underlying D];cases d<;>first | rfl | exact I.elim
 | int k=>rw[hu]at h;rw[bT,run_underlying h];rfl
 | st fs=>rw[hu]at h;obtain⟨gs,J,_⟩:=h;rw[bT,run_underlying J];rfl
 | sl e=>rw[hu]at h;rw[bT,run_underlying h];rfl
 | str=>rw[hu]at h;rw[bT,run_underlying h];rfl
 | mp k e=>rw[hu]at h;rw[bT,run_underlying h];rfl
theorem nh{P:Program}{w:World}{t:TypeId}(h:qc P t ti)(z:ti.ud.agg=true)(b off:Nat)(vs:List Value)(hl:vs.length=ti.size)(D:∀(j:Nat) v,vs[j]?=some v->w.cell? ⟨b,off+j,none⟩=some v):
  (Instr.loadAt t (.pointer (some ⟨b,off,none⟩))).run P w=.ok (.agg vs.toArray) w:=by
 have:=run_loadCells_list (P:=P) w ⟨b,off,none⟩ vs (fun j v I=>by rw[oX];exact D j v I);rw[hl]at this;simp[Instr.loadAt,Instr.sureAddr,loadVar,h.isAgg,z,h.sizeOf,this]
theorem mh{P:Program}{w:World}{t:TypeId}(h:qc P t ti)(z:ti.ud.agg=false)(b off:Nat)(v:Value)(D:w.cell? ⟨b,off,none⟩=some v):
  (Instr.loadAt t (.pointer (some ⟨b,off,none⟩))).run P w=.ok v w:=by
 simp[Instr.loadAt,Instr.sureAddr,loadVar,h.isAgg,z,load,Sem.run,D]
theorem L0{S:Nat->Prop}{w:World}(cs:List PV)(V:Nat->Value)(h:∀(j:Nat) x,cs[j]?=some x->(V j).oneCell'=true/\aO S w x (V j)):aO S w (.ag cs) (.agg ((List.range cs.length).map V).toArray):=by
 refine .ag _ _ (by simp) (fun u z=>?_) fun i c v D I=>?_
 ·simp at z;obtain⟨j,J,rfl⟩:=z;exact (h j _ (aW J)).1
 have hi:=aC D;simp[hi]at I;rw[<-I];exact (h i c D).2
theorem lW{l:List α}{off n j:Nat}{x:α}(h:((l.drop off).take n)[j]?=some x):l[off+j]?=some x:=by
 rw[dM]at h;split at h
 ·rwa [gB]at h
 cases h
theorem lX{l:List α}{off n:Nat}(h:off+n<=l.length):((l.drop off).take n).length=n:=by simp;omega
theorem iV{l:List α}{off:Nat}{x:α}{r:List α}(h:l.drop off=x::r):l[off]?=some x:=by
 have:(l.drop off)[0]?=some x:=by rw[h];rfl
 rw[gB]at this;exact this
theorem mK{a b:Nat}(h:LP a b=true):a<=b:=jK h
theorem jn{a b:Nat}(h:Dk a b=true):a=b:=cY h
theorem gD:∀{cs:List AV} {xs:List PV},ec cs=some xs->cs.length=xs.length/\∀(j:Nat) c x,cs[j]?=some c->xs[j]?=some x->(c=.p x\/(c=.nl/\x=.sl [])):=by
 intro cs
 induction cs with
 | nil=>intro xs h;simp[ec]at h;subst h;exact⟨rfl,by simp⟩
 | cons c cs ih=>
  intro xs h;unfold ec at h;split at h
  ·rename_i z;cases z
  ·rename_i x r z;injection z with z h2;subst z h2;obtain⟨ys,J,rfl⟩:=aV.1 h;obtain⟨N,O⟩:=ih J;refine⟨by simp[N],fun j c R D I=>?_⟩;cases j with
   | zero=>simp at D I;subst D I;exact .inl rfl
   | succ j=>exact O j c R (by simpa using D) (by simpa using I)
  ·rename_i r z;injection z with z h2;subst z h2;obtain⟨ys,J,rfl⟩:=aV.1 h;obtain⟨N,O⟩:=ih J;refine⟨by simp[N],fun j c R D I=>?_⟩;cases j with
   | zero=>simp at D I;subst D I;exact .inr ⟨rfl,rfl⟩
   | succ j=>exact O j c R (by simpa using D) (by simpa using I)
  cases h
theorem bu.AH{S:Nat->Prop}{w:World}{P:Program}{h:Nat->AB}{c:AV}{x:PV}{u:Value}(D:c=.p x\/(c=.nl/\x=.sl []))(z:bu S w P L rho h c u):aO S w x u:=by
 rcases D with rfl | ⟨rfl,rfl⟩
 ·exact z.eY
 cases z;exact .nil _ _
variable {id:Nat}
theorem bu.hY{S:Nat->Prop}{w:World}{P:Program}{h:Nat->AB}{off:Nat}{v:Value}(z:bu S w P L rho h (.bx id off) v)(D:(h id).there):L id/\∃g,rho id=.pointer (some ⟨g,0,none⟩)/\v=.pointer (some ⟨g,off,none⟩):=by
 cases z;rename_i I;exact I D
variable {e:TypeId}
theorem bu.Bu{S:Nat->Prop}{w:World}{P:Program}{h:Nat->AB}{i off:Nat}{v:Value}(z:bu S w P L rho h (.rp id i off) v)(D:h id=.row e es):
  L id/\∃g n c ti,rho id=.slice (some ⟨g,0,none⟩) n c/\P.info? e=some ti/\v=.pointer (some ⟨g,i*ti.size+off,none⟩):=by
 cases z;rename_i I;exact I e (by rw[D];rfl)
theorem bu.we{S:Nat->Prop}{w:World}{P:Program}{h:Nat->AB}{i off:Nat}{v:Value}(z:bu S w P L rho h (.rp id i off) v){es:List (List HX)}(D:h id=.aw e es):
  L id/\∃g n c ti,rho id=.slice (some ⟨g,0,none⟩) n c/\P.info? e=some ti/\v=.pointer (some ⟨g,i*ti.size+off,none⟩):=by
 cases z;rename_i I;exact I e (by rw[D];rfl)
theorem bu.cZ{S:Nat->Prop}{w:World}{P:Program}{h:Nat->AB}{v:Value}(z:bu S w P L rho h (.ow id) v)(D:(h id).there):L id/\v=rho id:=by
 cases z;rename_i I;exact I D
theorem aH.cell{P:Program}{w:World}{R:α->Value->Prop}{es:List (List α)}{g n c:Nat}{ti:TypeInfo}(h:aH P w R e es (.slice (some ⟨g,0,none⟩) n c))(hi:P.info? e=some ti):
  ∀(a:Nat) r (j:Nat) x,es[a]?=some r->r[j]?=some x->∃u,w.cell? ⟨g,a*ti.size+j,none⟩=some u/\u.oneCell'=true/\R x u:=by
 obtain⟨i,xs,z,h2,I,h4,J,N⟩:=h;rw[hi]at z;injection z with z;subst z;intro a r j x O U;obtain⟨u,D,W⟩:=N a r j x O U;have:=I.cells (g:=g) rfl _ u D;rw[oX]at this;refine⟨u,by simpa using this,J u (aj D),W⟩
theorem Ho{o:Oper}(t:TypeId)(x:Operand)(aL:o.op=.load t x){S:Nat->Prop}{a:Act}{w:World}{K:KK}(hC:bP A.C)(sim:cn A V L S rho s a w)(hV:∀j,x=.tmp j->V j)(D:cc A.C o (ev s.t) s.h K):
  ∃av v,K av [] none/\bu S w A.C.P L rho s.h av v/\(Instr.loadAt t (a.eval x)).run A.C.P w=.ok v w:=by
 simp only[cc,aL]at D;have hx:=bF sim x hV;split at D
 ·exact D.elim
 rename_i ti hT;have gj:=hC.jw t ti hT;split at D
 ·rename_i cs nP;rw[nP]at hx;obtain⟨b,off,U,Y,hb,z,O⟩:=hx.eY.Bq;split at D
  ·rename_i R;split at D
   ·rename_i J;have J:=mK J;have hlen:(cs.take ti.size).length=ti.size:=by simp;omega
    refine⟨_,_,D,.p _ _ (L0 _ U fun j x I=>?_),?_⟩
    ·have Th:cs[j]?=some x:=by rw[dM]at I;split at I;exact I;cases I
     exact⟨(z j x Th).2,O j x Th⟩
    have:=nh (w:=w) gj R b off ((List.range (cs.take ti.size).length).map U) (by simp;omega) (fun j v I=>by
     have yp:j<(cs.take ti.size).length:=by have:=aC I;simpa using this
     rw[aD,fX yp]at I;simp at I;have Ti:j<cs.length:=by rw[hlen]at yp;omega
     rw[(z j _ (aW Ti)).1,I])
    rw[Y];exact this
   exact D.elim
  rename_i R;split at D
  ·rename_i c r;refine⟨_,_,D,.p _ _ (O 0 c rfl),?_⟩;have:=mh (w:=w) gj R b off (U 0) (by simpa using (z 0 c rfl).1);rw[Y];exact this
  exact D.elim
 ·rename_i id off nP;rw[nP]at hx;split at D
  ·rename_i cs aU;obtain⟨hL,g,hg,Y⟩:=hx.hY (by rw[aU];trivial);have hh:=sim.hp id hL;rw[aU]at hh;obtain⟨g',ty,c,N,h2,h3,h4⟩:=hh;rw[hg]at N;injection N with N;injection N with N;injection N with N;subst N;have z:∀j u,c[j]?=some u->w.cell? ⟨g,j,none⟩=some u:=fun j u hu=>by rw[cell_of_row w g j c ty (0,0) h2];exact hu
   split at D
   ·rename_i R;split at D
    ·rename_i xs J uN;have J:=mK J;obtain⟨hl,Bv⟩:=gD uN;have hlen:xs.length=ti.size:=by rw[<-hl];exact lX J
     have hU:∀(j:Nat) x,xs[j]?=some x->∃u,c[off+j]?=some u/\u.oneCell'=true/\aO S w x u:=by
      intro j x I;obtain⟨y,hy⟩:∃y,((cs.drop off).take ti.size)[j]?=some y:=⟨_,aW (by rw[hl];exact aC I)⟩;have Z:=lW hy;obtain⟨u,hu⟩:=lD h3.symm (aC Z);obtain⟨W,h6⟩:=h4 _ _ _ Z hu;exact⟨u,hu,W,h6.AH (Bv j y x hy I)⟩
     refine⟨_,_,D,.p _ _ (L0 xs (fun j=>(c[off+j]?).getD undef) fun j x I=>?_),?_⟩
     ·obtain⟨u,W,h6,h7⟩:=hU j x I;rw[W];exact⟨h6,h7⟩
     have:=nh (w:=w) gj R g off ((List.range xs.length).map (fun j=>(c[off+j]?).getD undef)) (by simpa using hlen) (fun j v I=>by
      have yp:j<xs.length:=by have:=aC I;simpa using this
      rw[aD,fX yp]at I;obtain⟨u,W,_⟩:=hU j _ (aW yp);simp[W]at I;rw[z _ _ W,I])
     rw[Y];exact this
    exact D.elim
   rename_i R;split at D
   ·rename_i y r hy;have Z:=iV hy;obtain⟨u,hu⟩:=lD h3.symm (aC Z);obtain⟨W,h6⟩:=h4 _ _ _ Z hu;refine⟨_,_,D,h6,?_⟩;have:=mh (w:=w) gj R g off u (z _ _ hu);rw[Y];exact this
   exact D.elim
  ·rename_i cs aU;obtain⟨hL,g,hg,Y⟩:=hx.hY (by rw[aU];trivial);have hh:=sim.hp id hL;rw[aU]at hh;obtain⟨b,aey,U,N,hb,z,O⟩:=aO.Bq hh;rw[hg]at N;injection N with N;injection N with N;injection N with N h2;subst N h2;split at D
   ·rename_i R;split at D
    ·rename_i J;have J:=mK J;have hlen:=lX J;refine⟨_,_,D,.p _ _ (L0 _ (fun j=>U (off+j)) fun j x I=>?_),?_⟩
     ·have Th:=lW I;exact⟨(z _ x Th).2,O _ x Th⟩
     have:=nh (w:=w) gj R g off ((List.range ((cs.drop off).take ti.size).length).map (fun j=>U (off+j))) (by simpa using hlen) (fun j v I=>by
      have yp:j<((cs.drop off).take ti.size).length:=by have:=aC I;simpa using this
      rw[aD,fX yp]at I;simp at I;have Ti:off+j<cs.length:=by rw[hlen]at yp;omega
      have W:=(z _ _ (aW Ti)).1;rw[bp]at W;rw[W,I])
     rw[Y];exact this
    exact D.elim
   rename_i R;split at D
   ·rename_i y r hy;have Z:=iV hy;refine⟨_,_,D,.p _ _ (O _ _ Z),?_⟩;have:=mh (w:=w) gj R g off (U off) (by simpa using (z _ _ Z).1);rw[Y];exact this
   exact D.elim
  exact D.elim
 ·rename_i id i off nP;rw[nP]at hx;split at D
  ·rename_i e es aw;obtain⟨hL,g,n,c,tj,hg,D5,Y⟩:=hx.Bu aw;have hh:=sim.hp id hL;rw[aw]at hh;have Pt:aH A.C.P w (aO S w) e es (.slice (some ⟨g,0,none⟩) n c):=by rw[<-hg];exact hh
   have z:=Pt.cell D5;obtain⟨r,hr,D⟩:=D;split at D
   ·rename_i R;split at D
    ·rename_i J;have J:=mK J;have hlen:=lX J;have hU:∀(j:Nat) x,((r.drop off).take ti.size)[j]?=some x->∃u,w.cell? ⟨g,i*tj.size+off+j,none⟩=some u/\u.oneCell'=true/\aO S w x u:=by
      intro j x I;obtain⟨u,N,h2,h3⟩:=z i r _ x hr (lW I);exact⟨u,by rw[lR];exact N,h2,h3⟩
     refine⟨_,_,D,.p _ _ (L0 _ (fun j=>(w.cell? ⟨g,i*tj.size+off+j,none⟩).getD undef) fun j x I=>?_),?_⟩
     ·obtain⟨u,W,h6,h7⟩:=hU j x I;rw[W];exact⟨h6,h7⟩
     have:=nh (w:=w) gj R g (i*tj.size+off) ((List.range ((r.drop off).take ti.size).length).map (fun j=>(w.cell? ⟨g,i*tj.size+off+j,none⟩).getD undef)) (by simpa using hlen) (fun j v I=>by
      have yp:j<((r.drop off).take ti.size).length:=by have:=aC I;simpa using this
      rw[aD,fX yp]at I;obtain⟨u,W,_⟩:=hU j _ (aW yp);simp[W]at I;rw[W,I])
     rw[Y];exact this
    exact D.elim
   rename_i R;split at D
   ·rename_i y r' hy;have Z:=iV hy;obtain⟨u,N,h2,h3⟩:=z i r _ y hr Z;refine⟨_,_,D,.p _ _ h3,?_⟩;have:=mh (w:=w) gj R g (i*tj.size+off) u N;rw[Y];exact this
   exact D.elim
  ·rename_i e es aw;obtain⟨hL,g,n,c,tj,hg,D5,Y⟩:=hx.we aw;have hh:=sim.hp id hL;rw[aw]at hh;have Pt:aH A.C.P w (uT S w A.C.P L rho s.h) e es (.slice (some ⟨g,0,none⟩) n c):=by rw[<-hg];exact hh.1
   have z:=Pt.cell D5;obtain⟨r,hr,D⟩:=D;split at D
   ·exact D.elim
   rename_i R;split at D
   ·rename_i y r' hy;have Z:=iV hy;obtain⟨u,N,h2,h3⟩:=z i r _ _ hr Z;refine⟨_,_,D,h3,?_⟩;have:=mh (w:=w) gj R g (i*tj.size+off) u N;rw[Y];exact this
   exact D.elim
  exact D.elim
 exact D.elim
theorem Tj{o:Oper}(t:TypeId)(x:Operand)(I:o.op=.load t x):jV A o:=by
 intro V L S rho s a w K next Q hC D J N O _ z
 obtain⟨av,v,R,U,W⟩:=Ho t x I hC D (fun j Y=>J j (by simp[I,Op.operands,Y])) O;exact aN D N z R U (by simp only[execOp,I,bT,W,dt,fY])
theorem qc.under{P:Program}{t:TypeId}(h:qc P t ti):match ti.ud with
  | .sc=>(∃d,P.underlying t=some d/\(match d with | .struct _ | .array _ _=>False | _=>True))/\(ti.eq=true->P.underlying t=some .bool)
  | .int k=>P.underlying t=some (.int k)
  | .st fs=>∃z,P.underlying t=some (.struct z)/\fs.length=z.size/\(∀(i:Nat) f g,fs[i]?=some f->z[i]?=some g->f.1=g.offset/\f.2.1≠0/\(∃D,P.info? g.type=some D/\D.size=f.2.1)/\
    (∃d,P.underlying g.type=some d/\f.2.2=(match d with | .struct _ | .array _ _=>true | _=>false)))
  | .sl e=>P.underlying t=some (.slice e)
  | .str=>P.underlying t=some .string
  | .mp k e=>P.underlying t=some (.map k e):=by
 obtain⟨_,_,_,_,_,_,_,_,_,h⟩:=h;exact h
theorem qc.info{P:Program}{t:TypeId}(h:qc P t ti):∃info z,P.info? t=some info/\info.size=ti.size/\info.bytes=ti.bytes/\info.zero=some z/\z.cells=ti.zero.toArray/\(∀v∈ti.zero,v.oneCell'=true):=by
 obtain⟨i,z,D,I,J,N,O,h6,R,h⟩:=h;exact⟨i,z,D,I,J,N,O,R⟩
theorem qc.PL{P:Program}{t:TypeId}(h:qc P t ti):ti.zero.length=ti.size:=by
 obtain⟨i,z,h1,h2,h3,h4,h5,D,h7,h⟩:=h;exact D
theorem Fe{o:Oper}(t:TypeId)(x:Operand)(f:Nat)(aL:o.op=.fieldAddr t x f):jV A o:=by
 intro V L S rho s a w K next Q hC J hV hd D _ z
 simp only[cc,aL]at D;have O:=bF J x fun j R=>hV j (by simp[aL,Op.operands,R]);split at D
 ·rename_i fs size bytes zero eq hT;have gj:=(hC.jw t _ hT).under;obtain⟨gs,vt,hl,hf⟩:=gj;split at D
  ·rename_i off sz ag Tk;obtain⟨g,hg⟩:=lD hl (aC Tk);obtain⟨e1,e2,⟨i2,V6,L3⟩,_⟩:=hf f _ g Tk hg;have I:∀b o',(Instr.fieldAt t (.pointer (some ⟨b,o',none⟩)) f).run A.C.P w=.ok (.pointer (some ⟨b,o'+off,none⟩)) w:=by
    intro b o';simp only at e1 e2 L3;simp[Instr.fieldAt,run_underlying vt,hg,Instr.sureAddr,fieldPlace,Go.sizeOf,typeInfo,V6,L3,e2,oX,<-e1]
   split at D
   ·rename_i cs nP;rw[nP]at O;obtain⟨b,o',U,W,hb,Y,hrep⟩:=O.eY.Bq;refine aN J hd z D (.p _ _ (.ip _ b (o'+off) (fun j=>U (off+j)) hb (fun j y R=>?_) fun j y R=>?_)) (by simp[execOp,aL,W,I])
    ·rw[gB]at R;rw[lR];exact Y _ y R
    rw[gB]at R;exact hrep _ y R
   ·rename_i id o' nP;rw[nP]at O;split at D
    ·exact D.elim
    rename_i cO;have ht:(s.h id).there:=by
     cases hh:s.h id<;>first | trivial | exact absurd hh (by simpa using cO)
    obtain⟨hL,Z,qG,W⟩:=O.hY ht;exact aN J hd z D (.bx _ _ _ fun _=>⟨hL,Z,qG,rfl⟩) (by simp[execOp,aL,W,I])
   ·rename_i id i o' nP;rw[nP]at O;split at D
    ·rename_i e es aw;obtain⟨hL,Z,n,c,tj,qG,D5,W⟩:=O.Bu aw;refine aN J hd z D (v:=.pointer (some ⟨Z,i*tj.size+o'+off,none⟩)) (.rp _ _ _ _ fun e2 N=>?_) (by simp[execOp,aL,W,I]);rw[aw]at N;injection N with N;subst N;exact⟨hL,Z,n,c,tj,qG,D5,by rw[lR]⟩
    ·rename_i e es aw;obtain⟨hL,Z,n,c,tj,qG,D5,W⟩:=O.we aw;refine aN J hd z D (v:=.pointer (some ⟨Z,i*tj.size+o'+off,none⟩)) (.rp _ _ _ _ fun e2 N=>?_) (by simp[execOp,aL,W,I]);rw[aw]at N;injection N with N;subst N;exact⟨hL,Z,n,c,tj,qG,D5,by rw[lR]⟩
    exact D.elim
   exact D.elim
  exact D.elim
 exact D.elim
theorem PM{o:Oper}(t:TypeId)(x:Operand)(f:Nat)(R:o.op=.field t x f):jV A o:=by
 intro V L S rho s a w K next Q hC J hV hd z _ D
 simp only[cc,R]at z;have hx:=bF J x fun j hj=>hV j (by simp[R,Op.operands,hj]);split at z
 ·rename_i fs size bytes zero eq cs hT nP;have gj:=(hC.jw t _ hT).under;obtain⟨gs,vt,hl,hf⟩:=gj;rw[nP]at hx;obtain⟨vs,hv,Hd,h1,hc⟩:=hx.eY.n_;split at z
  ·rename_i off sz ag Tk;obtain⟨g,U⟩:=lD hl (aC Tk);obtain⟨W,e2,⟨i2,V6,L3⟩,d,Ye,Y⟩:=hf f _ g Tk U;simp only at W e2 L3 Y;split at z
   ·split at z
    ·rename_i N;have N:=mK N;have hlen:=lX N;refine aN J hd D z (v:=.agg (vs.extract off (off+sz))) (.p _ _ (.ag _ _ (by simp;omega) (fun u O=>h1 u ?_) fun i c v Yx I=>?_)) ?_
     ·simp at O;exact Ay (tz O)
     ·have hi:=aC Yx;rw[hlen]at hi;have Z:vs[off+i]?=some v:=by
       rw[Array.getElem?_extract]at I;split at I
       ·exact I
       cases I
      exact hc _ c v (lW Yx) Z
     have ha:(isAgg g.type).run A.C.P w=.ok true w:=by
      rw[Go.isAgg,bT,run_underlying Ye];cases d<;>simp at Y<;>rfl
     simp[execOp,R,hv,Instr.field,run_underlying vt,U,asAgg,part,ha,Go.sizeOf,typeInfo,V6,L3,<-W]
    exact z.elim
   split at z
   ·rename_i c r hy;have oO:=iV hy;obtain⟨u,O⟩:=lD Hd (aC oO);refine aN J hd D z (.p _ _ (hc _ _ _ oO O)) ?_;have ha:(isAgg g.type).run A.C.P w=.ok false w:=by
     rw[Go.isAgg,bT,run_underlying Ye];cases d<;>simp at Y<;>rfl
    simp[execOp,R,hv,Instr.field,run_underlying vt,U,asAgg,part,ha,<-W,O]
   exact z.elim
  exact z.elim
 exact z.elim
theorem o9{P:Program}{w:World}{t:TypeId}{ti:TypeInfo}(z:P.underlying t=some (.slice e))(hi:P.info? e=some ti)(b off n c:Nat)(k:IntKind)(i:Int)(D:0<=i)(h1:i.toNat<n):
  (Instr.indexAt t (.slice (some ⟨b,off,none⟩) n c) (.int k i)).run P w=.ok (.pointer (some ⟨b,off+i.toNat*ti.size,none⟩)) w:=by
 have I:i<n:=by omega
 simp[Instr.indexAt,asIntOf,run_underlying z,D,I,Go.sizeOf,typeInfo,hi,oX]
theorem bu.Ff{S:Nat->Prop}{w:World}{P:Program}{h:Nat->AB}{lo hi:Nat}{v:Value}(z:bu S w P L rho h (.vw id lo hi) v)(D:h id=.row e es):
  L id/\∃n c a ti,rho id=.slice a n c/\P.info? e=some ti/\lo<=hi/\hi<=n/\n<=c/\v=.slice (if c=lo then a else a.map (·.add (lo*ti.size))) (hi-lo) (c-lo):=by
 cases z with
 | vw _ _ _ _ hv=>exact hv e (by rw[D];rfl)
theorem Fg{o:Oper}(t:TypeId)(x ix:Operand)(aL:o.op=.indexAddr t x ix):jV A o:=by
 intro V L S rho s a w K next Q hC D hV hd z _ I
 simp only[cc,aL]at z;have hx:=bF D x fun j Y=>hV j (by simp[aL,Op.operands,Y]);have hy:=bF D ix fun j Y=>hV j (by simp[aL,Op.operands,Y]);split at z
 ·rename_i e size bytes zero eq k i hT PN;have gj:=(hC.jw t _ hT).under;simp only at gj;rw[PN]at hy;replace hy:=hy.bZ;split at z
  ·exact z.elim
  rename_i te yA;obtain⟨N,ze,r_,Dv,_⟩:=(hC.jw e te yA).info;have slc:∀(es:List (List PV)),aO S w (.sl es) (a.eval x)->(∃r,(0<=i/\es[i.toNat]?=some r)/\match Dk r.length te.size with | true=>K (.p (.ip r)) [] none | false=>False)->o.wp A.C.P a w next Q:=by
   intro es hrep z;obtain⟨r,⟨h0,hr⟩,z⟩:=z;split at z
   ·rename_i hlen;have hlen:=jn hlen;obtain⟨ad,c,Z,hle,cO⟩:=hrep.qP;obtain⟨b,off,k',rfl,hb,hk,hcell⟩:=cO (by intro e;rw[e]at hr;simp at hr);have AI:k'=te.size:=by rw[<-hk r (aj hr),hlen]
    have hU:∀(j:Nat) y,r[j]?=some y->∃u,w.cell? ⟨b,off+i.toNat*te.size+j,none⟩=some u/\u.oneCell'=true/\aO S w y u:=by
     intro j y Y;have:=hcell _ _ j y hr Y;rw[AI]at this;exact this
    refine aN D hd I z (.p _ _ (.ip _ b (off+i.toNat*te.size) (fun j=>(w.cell? ⟨b,off+i.toNat*te.size+j,none⟩).getD undef) hb (fun j y Y=>?_) fun j y Y=>?_)) ?_
    ·obtain⟨u,h1,h2,h3⟩:=hU j y Y;simp[h1,h2]
    ·obtain⟨u,h1,h2,h3⟩:=hU j y Y;simp only[h1];exact h3
    have:=o9 (w:=w) gj r_ b off es.length c k i h0 (aC hr);simp only[execOp,aL,Z,hy,bT,this,dt,fY,Dv]
   exact z.elim
  split at z
  ·rename_i es He;rw[He]at hx;exact slc es hx.eY z
  ·rename_i id He;rw[He]at hx;split at z
   ·rename_i e' es aw;split at z
    ·rename_i O;have O:=jn O;subst O;obtain⟨W,Z⟩:=hx.cZ (by rw[aw];trivial);have R:=D.hp id W;rw[aw]at R;have Pt:aH A.C.P w (aO S w) e' es (rho id):=R;obtain⟨⟨h0,eX⟩,z⟩:=z;obtain⟨i',xs,h1,h2,h3,h4,h5,h6⟩:=Pt;rcases h3.2 with⟨_,hn⟩ | ⟨g,cap,cur,hg,_,_,hle,_⟩
     ·omega
     refine aN D hd I z (v:=.pointer (some ⟨g,i.toNat*N.size,none⟩)) (.rp _ _ _ _ fun e2 J=>?_) ?_
     ·rw[aw]at J;injection J with J;subst J;exact⟨W,g,_,_,N,hg,r_,by rw[mY]⟩
     have:=o9 (w:=w) gj r_ g 0 es.length cap k i h0 eX;rw[hg]at Z;rw[bp]at this;simp only[execOp,aL,Z,hy,bT,this,dt,fY]
    exact z.elim
   ·rename_i e' es aw;split at z
    ·rename_i O;have O:=jn O;subst O;obtain⟨W,Z⟩:=hx.cZ (by rw[aw];trivial);have R:=D.hp id W;rw[aw]at R;have Pt:aH A.C.P w (uT S w A.C.P L rho s.h) e' es (rho id):=R.1;obtain⟨⟨h0,eX⟩,z⟩:=z;obtain⟨i',xs,h1,h2,h3,h4,h5,h6⟩:=Pt;rcases h3.2 with⟨_,hn⟩ | ⟨g,cap,cur,hg,_,_,hle,_⟩
     ·omega
     refine aN D hd I z (v:=.pointer (some ⟨g,i.toNat*N.size,none⟩)) (.rp _ _ _ _ fun e2 J=>?_) ?_
     ·rw[aw]at J;injection J with J;subst J;exact⟨W,g,_,_,N,hg,r_,by rw[mY]⟩
     have:=o9 (w:=w) gj r_ g 0 es.length cap k i h0 eX;rw[hg]at Z;rw[bp]at this;simp only[execOp,aL,Z,hy,bT,this,dt,fY]
    exact z.elim
   ·rename_i es Nt;obtain⟨W,Z⟩:=hx.cZ (by rw[Nt];trivial);have R:=D.hp id W;rw[Nt]at R;exact slc es (by rw[Z];exact R) z
   exact z.elim
  ·rename_i id lo hi He;rw[He]at hx;split at z
   ·rename_i e' es aw;split at z
    ·rename_i O;have O:=jn O;subst O;obtain⟨W,n,cp,ad,ti',ni,Bw,hlh,hhn,Yf,U⟩:=hx.Ff aw;rw[r_]at Bw;injection Bw with Bw;subst Bw;have R:=D.hp id W;rw[aw]at R;have Pt:aH A.C.P w (aO S w) e' es (rho id):=R;obtain⟨⟨h0,eX⟩,z⟩:=z;obtain⟨i',xs,h1,h2,h3,h4,h5,h6⟩:=Pt;rw[ni]at h3;rcases h3.2 with⟨h7,_⟩ | ⟨g,cap,cur,hg,_,_,hle,_⟩
     ·injection h7 with _ h8 h9;omega
     injection hg with g1 g2 g3;subst g1 g2 g3;refine aN D hd I z (v:=.pointer (some ⟨g,lo*N.size+i.toNat*N.size,none⟩)) (.rp _ _ _ _ fun e2 J=>?_) ?_
     ·rw[aw]at J;injection J with J;subst J;exact⟨W,g,_,_,N,ni,r_,by rw[mY,mZ]⟩
     have:=o9 (w:=w) gj r_ g (lo*N.size) (hi-lo) (cp-lo) k i h0 eX;rw[aa (by omega)]at U;have he:(if lo*N.size=0 then (⟨g,0,none⟩:Addr) else ⟨g,lo*N.size,none⟩)=⟨g,lo*N.size,none⟩:=by split<;>simp_all
     simp only[fB,Addr.add,bp,he]at U;simp only[execOp,aL,U,hy,bT,this,dt,fY]
    exact z.elim
   exact z.elim
  exact z.elim
 exact z.elim
theorem PO{o:Oper}(t:TypeId)(x O:Operand)(J:o.op=.index t x O):jV A o:=by
 intro V L S rho s a w K next Q hC z R Z I _ D
 simp only[cc,J]at I;have U:=bF z x fun j N=>R j (by simp[J,Op.operands,N]);have W:=bF z O fun j N=>R j (by simp[J,Op.operands,N]);split at I
 ·rename_i size bytes zero eq st k i hT hs PN;have Y:=(hC.jw t _ hT).under;simp only at Y;rw[PN]at W;rw[hs]at U;obtain⟨b,⟨h0,hb⟩,I⟩:=I;refine aN z Z D I (.p _ _ (.im _)) ?_;simp[execOp,J,U.bZ,W.bZ,Instr.index,asIntOf,run_underlying Y,h0,hb]
 exact I.elim
theorem JV{o:Oper}(src dst:TypeId)(x:Operand)(R:o.op=.convert src dst x):jV A o:=by
 intro V L S rho s a w K next Q hC D hV Z N _ z
 simp only[cc,R]at N;have O:=bF D x fun j hj=>hV j (by simp[R,Op.operands,hj]);split at N
 ·rename_i k' n tis k size bytes zero eq U W Y;have J:=(hC.jw dst _ Y).under;simp only at J;rw[U]at O;have I:∃d,A.C.P.underlying src=some d:=by
   have:=(hC.jw src _ W).under;cases hu:tis.ud<;>rw[hu]at this
   ·exact⟨_,this.1.choose_spec.1⟩
   ·exact⟨_,this⟩
   ·exact⟨_,this.choose_spec.1⟩
   ·exact⟨_,this⟩
   ·exact⟨_,this⟩
   exact⟨_,this⟩
  obtain⟨d1,I⟩:=I;exact aN D Z z (qe N) (.p _ _ (.im _)) (by simp[execOp,R,O.bZ,convert,run_underlying I,run_underlying J,Conv.intToInt])
 ·rename_i str Yz V8 YA eq1 YB V9 YC eq2 U W Y;have J:=(hC.jw dst _ Y).under;have I:=(hC.jw src _ W).under;simp only at I J;rw[U]at O;exact aN D Z z N (.p _ _ (.im _)) (by simp[execOp,R,O.bZ,convert,run_underlying I,run_underlying J])
 ·rename_i k' n k'' Yz V8 YA eq1 YB V9 YC eq2 U W Y;have J:=(hC.jw dst _ Y).under;have I:=(hC.jw src _ W).under;simp only at I J;rw[U]at O;exact aN D Z z N (.p _ _ (.im _)) (by simp[execOp,R,O.bZ,convert,run_underlying I,run_underlying J,Conv.intToString])
 exact N.elim
theorem Hp{o:Oper}(x:Operand)(R:o.op=.nilCheck x):jV A o:=by
 intro V L S rho s a w K next Q hC N Y Z z _ J
 simp only[cc,R]at z;have D:=bF N x fun j hj=>Y j (by simp[R,Op.operands,hj]);have fin:∀av W,K av [] none->bu S w A.C.P L rho s.h av (a.eval x)->a.eval x=.pointer (some W)->o.wp A.C.P a w next Q:=by
  intro av W z hl he;exact aN N Z J z hl (by simp[execOp,R,he])
 split at z
 ·rename_i cs O;rw[O]at D;obtain⟨b,off,U,I,_⟩:=D.eY.Bq;exact fin _ _ z D I
 ·rename_i id off O;rw[O]at D;split at z
  ·rename_i hb;obtain⟨_,g,_,I⟩:=D.hY (by rw[hb];trivial);exact fin _ _ z D I
  ·rename_i hb;obtain⟨_,g,_,I⟩:=D.hY (by rw[hb];trivial);exact fin _ _ z D I
  exact z.elim
 ·rename_i id i off O;rw[O]at D;split at z
  ·rename_i hb;obtain⟨_,g,n,c,tj,_,_,I⟩:=D.Bu hb;exact fin _ _ z D I
  ·rename_i hb;obtain⟨_,g,n,c,tj,_,_,I⟩:=D.we hb;exact fin _ _ z D I
  exact z.elim
 exact z.elim
theorem Hq{o:Oper}(f:FuncId)(first cap:Array Operand)(J:o.op=.makeFunc (.func f) first cap):jV A o:=by
 intro V L S rho s a w K next Q hC D U W I _ z
 simp only[cc,J]at I;split at I
 ·rename_i Y;have Z:first=#[]:=by
   obtain⟨l⟩:=first
   cases l with
   | nil=>rfl
   | cons y l=>simp[isNil]at Y
  subst Z;refine aN D W z I (.fn f _ (cap.map a.eval) (by simp) fun i c v O N=>?_) (by simp[execOp,J,Instr.makeFunc]);rw[aD]at O;obtain⟨y,hy,rfl⟩:=aV.1 O;have R:cap[i]?=some y:=by simpa using hy
  rw[Array.getElem?_map,R]at N;simp at N;rw[<-N];exact bF D y fun j hj=>U j (by simp[J,Op.operands];rw[<-hj];exact Az R)
 exact I.elim
end Go.AM
namespace Go.AM
open Go.RowKit
theorem cQ(h:Nat->AB)(a b:List (Nat×AB)):app h (a++b)=app (app h a) b:=by
 induction a generalizing h with
 | nil=>rfl
 | cons x a ih=>exact ih _
theorem br{α:Type}(f:Nat->α)(i:Nat)(x:α)(j:Nat):(j=i/\bd f i x j=x)\/(j≠i/\bd f i x j=f j):=by
 by_cases e:j=i
 ·subst e;exact .inl ⟨rfl,aF _ _ _⟩
 exact .inr ⟨e,bg _ _ e⟩
variable {e:TypeId} {es:List (List PV)}
theorem aH.Hr{P:Program}{S S':Nat->Prop}{w:World}{v:Value}(h:aH P w (aO S w) e es v)(hS:∀b,S b->S' b)(hb:∀g,cF v=some g->S' g):aO S' w (.sl es) v:=by
 obtain⟨i,xs,h1,h2,N,U,W,O⟩:=h;rcases N.2 with⟨rfl,Y⟩ | ⟨g,cap,cur,rfl,_,_,D,_⟩
 ·have:es=[]:=cI Y;subst this;exact .nil _ _
 refine .sl es i.size g 0 cap (fun a j=>(xs[a*i.size+j]?).getD undef) D (hb g rfl) U (fun a r j x I J=>?_) fun a r j x I J=>?_
 ·obtain⟨u,z,R⟩:=O a r j x I J;have:=N.cells (g:=g) rfl _ u z;rw[oX]at this;rw[z,lR];exact⟨this,W u (aj z)⟩
 obtain⟨u,z,R⟩:=O a r j x I J;rw[z];exact R.mono hS (fun _ _=>rfl)
variable {id:Nat}
theorem fF{w:World}{h:Nat->AB}{b:AB}{i:Nat}{v:Value}{g:Nat}(hi:i≠id)(z:hasB w (bd h id b i) v g):hasB w (h i) v g:=by rw[bg _ _ hi]at z;exact z
variable {A:rZ} {V L:Nat->Prop} {rho:Nat->Value} {s:AS}
theorem cn.D6{S:Nat->Prop}{a:Act}{w:World}(z:cn A V L S rho s a w)(hC:bP A.C)(id:Nat)(R:L id)(aw:s.h id=.row e es):
  cn A V L (fun b=>S b\/cF (rho id)=some b) rho ⟨s.t,bd s.h id (.lz es)⟩ a w:=by
 have T:ng S (fun b=>S b\/cF (rho id)=some b) w w L L rho rho s.h (bd s.h id (.lz es)):=by
  refine⟨fun b h=>.inl h,fun _ _=>rfl,fun j D=>⟨?_,fun hl=>⟨hl,rfl⟩⟩,fun j e' D=>?_⟩
  ·rcases br s.h id (.lz es) j with⟨rfl,h⟩ | ⟨_,h⟩
   ·rw[aw];trivial
   rw[h]at D;exact D
  rcases br s.h id (.lz es) j with⟨rfl,h⟩ | ⟨_,h⟩
  ·rw[h]at D;cases D
  rw[h]at D;exact D
 have I:∀j,((bd s.h id (.lz es)) j).live->j≠id/\(s.h j).live:=by
  intro j D;rcases br s.h id (.lz es) j with⟨rfl,h⟩ | ⟨J,h⟩
  ·rw[h]at D;exact D.elim
  rw[h]at D;exact⟨J,D⟩
 have U:(s.h id).live:=by rw[aw];trivial
 exact
 {tm:=fun j D=>(z.tm j D).de T
  sz:=z.sz,df:=z.df,nb:=z.nb,pn:=z.pn
  ev:=hC.env _ _ _ _ z.ev (fun b h=>.inl h) (fun _ _=>rfl) (aG _)
  s0:=fun b h=>.inl (z.s0 b h)
  st:=fun b h=>h.elim (z.st b) fun h=>(z.qd id b R U h).1
  sb:=fun b h=>h.elim (z.sb b) fun h=>.inr (z.qd id b R U h).2.2
  hp:=fun j D=>by
   have W:=z.hp j D;rcases br s.h id (.lz es) j with⟨rfl,h⟩ | ⟨J,h⟩
   ·show fD _ _ _ _ _ _ _ (bd s.h j (.lz es) j);rw[h];rw[aw]at W;exact aH.Hr W (fun b h=>.inl h) (fun g h=>.inr h)
   show fD _ _ _ _ _ _ _ (bd s.h id (.lz es) j);rw[h];exact W.de T (fun _ _ _=>rfl) (fun _=>rfl)
  dj:=fun i j g hi D N Y fU lE=>z.dj i j g hi D (I i N).2 (I j Y).2 (fF (I i N).1 fU) (fF (I j Y).1 lE)
  lv:=fun i g hi N O=>by
   obtain⟨J,Z⟩:=I i N;have O:=fF J O;obtain⟨h3,h4,h5⟩:=z.lv i g hi Z O;refine⟨h3,fun h=>h.elim h4 fun h=>J (z.dj i id g hi R Z U O (.inl h)),h5⟩
  fr:=z.fr }
theorem cn.Nu{S:Nat->Prop}{a:Act}{w:World}(z:cn A V L S rho s a w)(hC:bP A.C)(id:Nat)(W:L id){cs:List AV}{xs:List PV}(aw:s.h id=.box cs)(uN:ec cs=some xs):
  cn A V L (fun b=>S b\/cF (rho id)=some b) rho ⟨s.t,bd s.h id (.nd xs)⟩ a w:=by
 have T:ng S (fun b=>S b\/cF (rho id)=some b) w w L L rho rho s.h (bd s.h id (.nd xs)):=by
  refine⟨fun b h=>.inl h,fun _ _=>rfl,fun j D=>⟨?_,fun hl=>⟨hl,rfl⟩⟩,fun j e' D=>?_⟩
  ·rcases br s.h id (.nd xs) j with⟨rfl,h⟩ | ⟨_,h⟩
   ·rw[aw];trivial
   rw[h]at D;exact D
  rcases br s.h id (.nd xs) j with⟨rfl,h⟩ | ⟨_,h⟩
  ·rw[h]at D;cases D
  rw[h]at D;exact D
 have J:∀j,((bd s.h id (.nd xs)) j).live->j≠id/\(s.h j).live:=by
  intro j D;rcases br s.h id (.nd xs) j with⟨rfl,h⟩ | ⟨N,h⟩
  ·rw[h]at D;exact D.elim
  rw[h]at D;exact⟨N,D⟩
 have Y:(s.h id).live:=by rw[aw];trivial
 exact
 {tm:=fun j D=>(z.tm j D).de T
  sz:=z.sz,df:=z.df,nb:=z.nb,pn:=z.pn
  ev:=hC.env _ _ _ _ z.ev (fun b h=>.inl h) (fun _ _=>rfl) (aG _)
  s0:=fun b h=>.inl (z.s0 b h)
  st:=fun b h=>h.elim (z.st b) fun h=>(z.qd id b W Y h).1
  sb:=fun b h=>h.elim (z.sb b) fun h=>.inr (z.qd id b W Y h).2.2
  hp:=fun j D=>by
   have Z:=z.hp j D;rcases br s.h id (.nd xs) j with⟨rfl,h⟩ | ⟨N,h⟩
   ·show fD _ _ _ _ _ _ _ (bd s.h j (.nd xs) j);rw[h];rw[aw]at Z;obtain⟨g,ty,c,k1,k2,k3,k4⟩:=Z;show aO _ w (.ip xs) (rho j);rw[k1];obtain⟨hl,Bv⟩:=gD uN;have hU:∀(i:Nat) x,xs[i]?=some x->∃u,c[i]?=some u/\u.oneCell'=true/\aO S w x u:=by
     intro i x hi;obtain⟨y,hy⟩:∃y,cs[i]?=some y:=⟨_,aW (by rw[hl];exact aC hi)⟩;obtain⟨u,hu⟩:=lD k3.symm (aC hy);obtain⟨I,O⟩:=k4 _ _ _ hy hu;exact⟨u,hu,I,O.AH (Bv i y x hy hi)⟩
    refine .ip xs g 0 (fun i=>(c[i]?).getD undef) (.inr rfl) (fun i x hi=>?_) fun i x hi=>?_
    ·obtain⟨u,I,O,h7⟩:=hU i x hi;rw[bp,cell_of_row w g i c ty (0,0) k2,I];exact⟨rfl,O⟩
    obtain⟨u,I,O,h7⟩:=hU i x hi;rw[I];exact h7.mono (fun b h=>.inl h) (fun _ _=>rfl)
   show fD _ _ _ _ _ _ _ (bd s.h id (.nd xs) j);rw[h];exact Z.de T (fun _ _ _=>rfl) (fun _=>rfl)
  dj:=fun i j g hi D R lj fU lE=>z.dj i j g hi D (J i R).2 (J j lj).2 (fF (J i R).1 fU) (fF (J j lj).1 lE)
  lv:=fun i g hi R U=>by
   obtain⟨N,h2⟩:=J i R;have U:=fF N U;obtain⟨h3,h4,I⟩:=z.lv i g hi h2 U;refine⟨h3,fun h=>h.elim h4 fun h=>N (z.dj i id g hi W h2 Y U (.inl h)),I⟩
  fr:=z.fr }
def su(h h':Nat->AB):Prop:=∀id,h' id=h id\/(∃e es,h id=.row e es/\h' id=.lz es)\/(∃cs xs,h id=.box cs/\ec cs=some xs/\h' id=.nd xs)
theorem su.refl(h:Nat->AB):su h h:=fun _=>.inl rfl
variable {h':Nat->AB}
theorem su.PQ{h:Nat->AB}(H:su h h')(D:h id=.row e es):su h (bd h' id (.lz es)):=by
 intro j;rcases br h' id (.lz es) j with⟨rfl,z⟩ | ⟨_,z⟩
 ·exact .inr (.inl ⟨e,es,D,z⟩)
 rw[z];exact H j
theorem su.PR{h:Nat->AB}(H:su h h'){cs:List AV}{xs:List PV}(D:h id=.box cs)(I:ec cs=some xs):su h (bd h' id (.nd xs)):=by
 intro j;rcases br h' id (.nd xs) j with⟨rfl,z⟩ | ⟨_,z⟩
 ·exact .inr (.inr ⟨cs,xs,D,I,z⟩)
 rw[z];exact H j
theorem aO.wg{S:Nat->Prop}{w:World}{xs:List PV}{g off:Nat}{v:Value}(h:aO S w (.ip xs) v)(z:v=.pointer (some ⟨g,0,none⟩)):aO S w (.ip (xs.drop off)) (.pointer (some ⟨g,off,none⟩)):=by
 subst z;obtain⟨b,o,U,z,hb,D,I⟩:=h.Bq;injection z with z;injection z with z;injection z with h1 h2;subst h1 h2;refine .ip _ g off (fun j=>U (off+j)) hb (fun j x J=>?_) fun j x J=>?_
 ·rw[gB]at J;have:=D _ x J
  rwa [bp]at this
 rw[gB]at J;exact I _ x J
theorem D7{S:Nat->Prop}{a:Act}{w:World}(hC:bP A.C){h:Nat->AB}(D:cn A V L S rho s a w)(O:su h s.h){x:AV}{v:Value}(W:bu S w A.C.P L rho s.h x v){K:PV->List (Nat×AB)->Prop}(I:nZ h x K):
  ∃y fz S',K y fz/\cn A V L S' rho ⟨s.t,app s.h fz⟩ a w/\aO S' w y v/\(∀b,S b->S' b)/\su h (app s.h fz)/\(∀p∈fz,L p.1)/\(∀p∈fz,¬p.2.live):=by
 unfold nZ at I;split at I
 ·exact⟨_,[],S,I,D,W.eY,fun _ h=>h,O,by simp,by simp⟩
 ·cases W;exact⟨_,[],S,I,D,.nil _ _,fun _ h=>h,O,by simp,by simp⟩
 ·rename_i id;split at I
  ·rename_i e es aw;rcases O id with z | ⟨e',dv,z,U⟩ | ⟨cs,xs,z,_,_⟩
   ·rw[aw]at z;obtain⟨J,R⟩:=W.cZ (by rw[z];trivial);refine⟨_,_,_,I,D.D6 hC id J z,?_,fun b h=>.inl h,O.PQ aw,by simpa using J,by simp[AB.live]⟩;have N:=D.hp id J;rw[z]at N;rw[R];exact aH.Hr N (fun b h=>.inl h) (fun g h=>.inr h)
   ·rw[aw]at z;injection z with e1 e2;subst e1 e2;obtain⟨J,R⟩:=W.cZ (by rw[U];trivial);have N:=D.hp id J;rw[U]at N;refine⟨_,_,S,I,?_,by rw[R];exact N,fun _ h=>h,O.PQ aw,by simpa using J,by simp[AB.live]⟩;show cn A V L S rho ⟨s.t,bd s.h id (.lz es)⟩ a w;rw[kD _ _ _ U];exact D
   rw[aw]at z;cases z
  ·rename_i es Nt;rcases O id with z | ⟨e',dv,z,U⟩ | ⟨cs,xs,z,_,_⟩
   ·rw[Nt]at z;obtain⟨J,R⟩:=W.cZ (by rw[z];trivial);have N:=D.hp id J;rw[z]at N;exact⟨_,[],S,I,D,by rw[R];exact N,fun _ h=>h,O,by simp,by simp⟩
   ·rw[Nt]at z;cases z
   rw[Nt]at z;cases z
  exact I.elim
 ·rename_i id off;split at I
  ·rename_i cs aU;split at I
   ·rename_i xs uN;rcases O id with z | ⟨e',dv,z,U⟩ | ⟨oM,uV,z,Tl,U⟩
    ·rw[aU]at z;obtain⟨J,g,Y,R⟩:=W.hY (by rw[z];trivial);have cv:=D.Nu hC id J z uN;refine⟨_,_,_,I,cv,?_,fun b h=>.inl h,O.PR aU uN,by simpa using J,by simp[AB.live]⟩;have N:=cv.hp id J;have Pt:fD _ w A.C.P L rho _ id (bd s.h id (.nd xs) id):=N;rw[aF]at Pt;have Z:aO _ w (.ip xs) (rho id):=Pt;rw[R];exact Z.wg Y
    ·rw[aU]at z;cases z
    rw[aU]at z;injection z with z;subst z;rw[uN]at Tl;injection Tl with Tl;subst Tl;obtain⟨J,g,Y,R⟩:=W.hY (by rw[U];trivial);have N:=D.hp id J;rw[U]at N;have Z:aO _ w (.ip xs) (rho id):=N;refine⟨_,_,S,I,?_,by rw[R];exact Z.wg Y,fun _ h=>h,O.PR aU uN,by simpa using J,by simp[AB.live]⟩;show cn A V L S rho ⟨s.t,bd s.h id (.nd xs)⟩ a w;rw[kD _ _ _ U];exact D
   exact I.elim
  ·rename_i xs Wa;rcases O id with z | ⟨e',dv,z,U⟩ | ⟨cs,uV,z,_,_⟩
   ·rw[Wa]at z;obtain⟨J,g,Y,R⟩:=W.hY (by rw[z];trivial);have N:=D.hp id J;rw[z]at N;have Z:aO _ w (.ip xs) (rho id):=N;exact⟨_,[],S,I,D,by rw[R];exact Z.wg Y,fun _ h=>h,O,by simp,by simp⟩
   ·rw[Wa]at z;cases z
   rw[Wa]at z;cases z
  exact I.elim
 exact I.elim
theorem Nv{b:AB}(h:b.qK=some e):b.live:=by cases b<;>first | trivial | cases h
theorem Nw{fz:List (Nat×AB)}(z:∀p∈fz,¬p.2.live):∀{h:Nat->AB} {id:Nat},(app h fz id).live->app h fz id=h id:=by
 induction fz with
 | nil=>intro h id _;rfl
 | cons p fz ih=>
  intro h id hl;obtain⟨i,b⟩:=p;have e:=ih (fun p hp=>z p (by simp[hp])) (h:=bd h i b) (id:=id) hl;have D:app h ((i,b)::fz) id=bd h i b id:=e;by_cases I:id=i
  ·subst I;rw[D,aF]at hl;exact absurd hl (z (id,b) (by simp))
  rw[D,bg _ _ I]
theorem su.there{h:Nat->AB}(H:su h h')(id:Nat):(h' id).there↔(h id).there:=by
 rcases H id with z | ⟨e,es,z,D⟩ | ⟨cs,xs,z,_,D⟩
 ·rw[z]
 ·rw[z,D];exact fC
 rw[z,D];exact fC
theorem bu.YD{S S':Nat->Prop}{w:World}{P:Program}{h h':Nat->AB}{fz:List (Nat×AB)}(hS:∀b,S b->S' b)(H:su h h')(D:su h (app h' fz))(I:∀p∈fz,¬p.2.live){x:AV}{v:Value}(J:bu S w P L rho h' x v):bu S' w P L rho (app h' fz) x v:=
 J.de ⟨hS,fun _ _=>rfl,fun id N=>⟨(H.there id).2 ((D.there id).1 N),fun hl=>⟨hl,rfl⟩⟩,fun id e z=>by rw[<-Nw (h:=h') (id:=id) I (Nv z)];exact z⟩
theorem D8{t:Nat->AV}{a:Act}{w:World}(hC:bP A.C){h:Nat->AB}:∀(cap:List AV) (vs:List Value) (S:Nat->Prop) (h':Nat->AB) {K:List PV->List (Nat×AB)->Prop},cap.length=vs.length->cn A V L S rho ⟨t,h'⟩ a w->su h h' ->
  (∀(i:Nat) c v,cap[i]?=some c->vs[i]?=some v->bu S w A.C.P L rho h' c v)->zu h cap K ->
  ∃xs fz S',K xs fz/\cn A V L S' rho ⟨t,app h' fz⟩ a w/\(∀(i:Nat) x v,xs[i]?=some x->vs[i]?=some v->aO S' w x v)/\(∀b,S b->S' b)/\su h (app h' fz)/\(∀p∈fz,L p.1)/\xs.length=vs.length:=by
 intro cap
 induction cap with
 | nil=>
  intro vs S h' K hl D O _ I;have:vs=[]:=cI hl.symm;subst this;exact⟨[],[],S,I,D,by simp,fun _ h=>h,O,by simp,rfl⟩
 | cons c cap ih=>
  intro vs S h' K hl D O z I;cases vs with
  | nil=>simp at hl
  | cons v vs=>
   obtain⟨y,fz,Z,I,bH,hp,U,W,Hs,R⟩:=D7 (s:=⟨t,h'⟩) hC D O (z 0 c v rfl rfl) I;obtain⟨xs,o8,S',k1,k2,k3,Y,k5,k6,k7⟩:=ih vs Z (app h' fz) (by simpa using hl) bH W (fun i x u J N=>(z (i+1) x u (by simpa using J) (by simpa using N)).YD U O W R) I;refine⟨y::xs,fz++o8,S',k1,by rw[cQ];exact k2,fun i x u J N=>?_,fun b hb=>Y b (U b hb),by rw[cQ];exact k5,fun p hp=>(b_.1 hp).elim (Hs p) (k6 p),by simp[k7]⟩;cases i with
   | zero=>simp at J N;subst J N;exact hp.mono Y (fun _ _=>rfl)
   | succ i=>exact k3 i x u (by simpa using J) (by simpa using N)
theorem jA{S:Nat->Prop}{a:Act}{w:World}(hC:bP A.C){h:Nat->AB}(z:cn A V L S rho s a w)(N:su h s.h){x:AV}{v:Value}(O:bu S w A.C.P L rho s.h x v){K:PV->List (Nat×AB)->Prop}(J:iT h x K):
  ∃y fz S',K y fz/\cn A V L S' rho ⟨s.t,app s.h fz⟩ a w/\aO S' w y v/\(∀b,S b->S' b)/\su h (app s.h fz)/\(∀p∈fz,L p.1):=by
 unfold iT at J;split at J
 ·rename_i f cap;cases O with
  | fn _ _ vs hl hc=>
   obtain⟨xs,fz,S',R,U,W,Y,Z,k6,k7⟩:=D8 (t:=s.t) hC cap vs.toList S s.h (by simpa using hl) z N (fun i c v D I=>hc i c v D (by simpa using I)) J;exact⟨_,fz,S',R,U,.fn f xs vs (by simpa using k7) (fun i c v D I=>W i c v D (by simpa using I)),Y,Z,k6⟩
 obtain⟨y,fz,S',D,I,h3,h4,h5,h6,_⟩:=D7 hC z N O J;exact⟨y,fz,S',D,I,h3,h4,h5,h6⟩
theorem jO{d:Nat}:∀{fz:List (Nat×AB)} {h:Nat->AB},(∀p∈fz,p.1≠d)->app h fz d=h d:=by
 intro fz
 induction fz with
 | nil=>intro h _;rfl
 | cons x fz ih=>
  intro h z;show app (bd h x.1 x.2) fz d=h d;rw[ih (fun p hp=>z p (by simp[hp])),bg _ _ (fun e=>z x (by simp) e.symm)]
theorem cn.kill{S:Nat->Prop}{a:Act}{w:World}(z:cn A V L S rho s a w)(id:Nat):cn A V L S rho ⟨s.t,bd s.h id .none⟩ a w:=by
 have T:ng S S w w L L rho rho s.h (bd s.h id .none):=by
  refine⟨fun b h=>h,fun _ _=>rfl,fun j D=>⟨?_,fun hl=>⟨hl,rfl⟩⟩,fun j e' D=>?_⟩
  ·rcases br s.h id .none j with⟨rfl,h⟩ | ⟨_,h⟩
   ·rw[h]at D;exact D.elim
   rw[h]at D;exact D
  rcases br s.h id .none j with⟨rfl,h⟩ | ⟨_,h⟩
  ·rw[h]at D;cases D
  rw[h]at D;exact D
 have I:∀j,((bd s.h id .none) j).live->j≠id/\(s.h j).live:=by
  intro j D;rcases br s.h id .none j with⟨rfl,h⟩ | ⟨N,h⟩
  ·rw[h]at D;exact D.elim
  rw[h]at D;exact⟨N,D⟩
 exact
 {tm:=fun j D=>(z.tm j D).de T
  sz:=z.sz,df:=z.df,nb:=z.nb,pn:=z.pn,ev:=z.ev,s0:=z.s0,st:=z.st,sb:=z.sb
  hp:=fun j D=>by
   have R:=z.hp j D;rcases br s.h id .none j with⟨rfl,h⟩ | ⟨N,h⟩
   ·show fD _ _ _ _ _ _ _ (bd s.h j .none j);rw[h];trivial
   show fD _ _ _ _ _ _ _ (bd s.h id .none j);rw[h];exact R.de T (fun _ _ _=>rfl) (fun _=>rfl)
  dj:=fun i j g hi D J O U W=>z.dj i j g hi D (I i J).2 (I j O).2 (fF (I i J).1 U) (fF (I j O).1 W)
  lv:=fun i g hi J Y=>z.lv i g hi (I i J).2 (fF (I i J).1 Y)
  fr:=z.fr }
theorem cn.sD{S:Nat->Prop}{a:Act}{w:World}(z:cn A V L S rho s a w)(hC:bP A.C)(d:Nat)(b:AB)(hdb:d<100000)(hL:¬L d)(hb:s.h d=b)(w':World)(ho:w'.os=w.os)(ht:w'.tape=w.tape)(hu:w'.output=w.output)
  (O:w.heap.size<=w'.heap.size) (R:Nat->Prop) (D:∀k,k<w.heap.size->¬R k->w'.heap[k]?=w.heap[k]?) (U:∀k,R k->¬S k/\(∀i,L i->(s.h i).live->¬hasB w (s.h i) (rho i) k)/\(A.mv k\/A.w0.heap.size<=k))
  (hv:Value) (J:∀g,hasB w' b hv g->g<w'.heap.size/\(w.heap.size<=g\/R g))
  (hrep:ng S S w w' L (fun i=>L i\/i=d) rho (bd rho d hv) s.h s.h->fD S w' A.C.P (fun i=>L i\/i=d) (bd rho d hv) s.h d b):
  cn A V (fun i=>L i\/i=d) S (bd rho d hv) s a w':=by
 have mn:∀b,S b->w'.heap[b]?=w.heap[b]?:=fun k hk=>D k (z.st k hk) fun W=>(U k W).1 hk;have cO:∀i,L i->i≠d:=fun i hi e=>hL (e▸hi);have T:ng S S w w' L (fun i=>L i\/i=d) rho (bd rho d hv) s.h s.h:=
  ⟨fun b h=>h,mn,fun j N=>⟨N,fun hl=>⟨.inl hl,bg _ _ (cO j hl)⟩⟩,fun j e' N=>N⟩
 exact
 {tm:=fun j N=>(z.tm j N).de T
  sz:=z.sz,df:=z.df,nb:=z.nb,pn:=fun id h=>by rw[bg _ _ (by omega)];exact z.pn id h
  ev:=hC.env _ _ _ _ z.ev (fun b h=>h) mn O
  s0:=z.s0
  st:=fun b hb=>cB (z.st b hb) O
  sb:=z.sb
  hp:=fun j N=>by
   by_cases e:j=d
   ·subst e;rw[hb];exact hrep T
   have hl:L j:=N.resolve_right e;refine (z.hp j hl).de T (fun I g hg=>?_) (fun _=>bg _ _ e);exact D g (z.lv j g hl I hg).1 fun W=>(U g W).2.1 j hl I hg
  dj:=fun i j g hi N I lj Z Y=>by
   have back:∀i g,L i->(s.h i).live->hasB w' (s.h i) (rho i) g->hasB w (s.h i) (rho i) g:=fun i g hl I h=>dJ (fun k hk=>D k (z.qd i k hl I hk).1 fun W=>(U k W).2.1 i hl I (.inl hk)) h;by_cases e1:i=d
   ·by_cases e2:j=d
    ·rw[e1,e2]
    have hl:L j:=N.resolve_right e2;rw[bg _ _ e2]at Y;have Y:=back j g hl lj Y;rw[e1,aF,hb]at Z;rcases (J g Z).2 with h | h
    ·exact absurd (z.lv j g hl lj Y).1 (by omega)
    exact absurd Y ((U g h).2.1 j hl lj)
   have hl:L i:=hi.resolve_right e1;rw[bg _ _ e1]at Z;have Z:=back i g hl I Z;by_cases e2:j=d
   ·rw[e2,aF,hb]at Y;rcases (J g Y).2 with h | h
    ·exact absurd (z.lv i g hl I Z).1 (by omega)
    exact absurd Z ((U g h).2.1 i hl I)
   have Hd:L j:=N.resolve_right e2;rw[bg _ _ e2]at Y;exact z.dj i j g hl Hd I lj Z (back j g Hd lj Y)
  lv:=fun i g hi I hg=>by
   by_cases e:i=d
   ·rw[e,aF,hb]at hg;obtain⟨h1,h2⟩:=J g hg;refine⟨h1,?_⟩;rcases h2 with h | h
    ·exact⟨fun hs=>absurd (z.st g hs) (by omega),.inr (aS z.fr.size h)⟩
    exact⟨(U g h).1,(U g h).2.2⟩
   have hl:L i:=hi.resolve_right e;rw[bg _ _ e]at hg;obtain⟨h1,h2,h3⟩:=z.lv i g hl I (dJ (fun k hk=>D k (z.qd i k hl I hk).1 fun W=>(U k W).2.1 i hl I (.inl hk)) hg);exact⟨cB h1 O,h2,h3⟩
  fr:=z.fr.next ho ht hu O fun k hk hn=>D k (cB hk z.fr.size) fun W=>by
   rcases (U k W).2.2 with h | h
   ·exact hn h
   omega }
theorem cn.new{S:Nat->Prop}{a:Act}{w:World}(N:cn A V L S rho s a w)(hC:bP A.C)(d:Nat)(b:AB)(O:d<100000)(Y:¬L d)(hb:s.h d=b)(w':World)(Z:w'.os=w.os)(ht:w'.tape=w.tape)(hu:w'.output=w.output)
  (U:w.heap.size<=w'.heap.size) (R:Nat->Prop) (z:∀k,k<w.heap.size->¬R k->w'.heap[k]?=w.heap[k]?) (hR:∀k,R k->¬S k/\(∀i,L i->(s.h i).live->¬hasB w (s.h i) (rho i) k)/\(A.mv k\/A.w0.heap.size<=k))
  (D:Value) (I:∀g,cF D=some g->g<w'.heap.size/\(w.heap.size<=g\/R g))
  (J:ng S S w w' L (fun i=>L i\/i=d) rho (bd rho d D) s.h s.h->fD S w' A.C.P (fun i=>L i\/i=d) (bd rho d D) s.h d b)
  (W:VZ b=true:=by rfl):
  cn A V (fun i=>L i\/i=d) S (bd rho d D) s a w':=
 N.sD hC d b O Y hb w' Z ht hu U R z hR D (fun g h=>I g (aI W h)) J
theorem cn.YE{S:Nat->Prop}{a:Act}{w:World}(z:cn A V L S rho s a w)(hC:bP A.C)(w':World)(D:Fr (fun _=>False) w w')(S':Nat->Prop)(N:∀b,S b->S' b)(Y:∀b,S' b->b<w'.heap.size)(R:∀b,S' b->S b\/w.heap.size<=b):cn A V L S' rho s a w':=by
 have U:∀b,S b->w'.heap[b]?=w.heap[b]?:=fun k hk=>D.block k (z.st k hk) (fun h=>h);have T:ng S S' w w' L L rho rho s.h s.h:=⟨N,U,fun j I=>⟨I,fun hl=>⟨hl,rfl⟩⟩,fun j e' I=>I⟩;exact
 {tm:=fun j I=>(z.tm j I).de T
  sz:=z.sz,df:=z.df,nb:=z.nb,pn:=z.pn
  ev:=hC.env _ _ _ _ z.ev N U D.size
  s0:=fun b hb=>N b (z.s0 b hb)
  st:=Y
  sb:=fun b hb=>by
   rcases R b hb with h | h
   ·exact z.sb b h
   exact .inr (.inr (aS z.fr.size h))
  hp:=fun j I=>(z.hp j I).de T (fun J g O=>D.block g (z.lv j g I J O).1 (fun h=>h)) (fun _=>rfl)
  dj:=fun i j g hi I J W Z lE=>z.dj i j g hi I J W (dJ (fun k hk=>D.block k (z.qd i k hi J hk).1 (fun h=>h)) Z) (dJ (fun k hk=>D.block k (z.qd j k I W hk).1 (fun h=>h)) lE)
  lv:=fun i g hi J O=>by
   obtain⟨a1,a2,a3⟩:=z.lv i g hi J (dJ (fun k hk=>D.block k (z.qd i k hi J hk).1 (fun h=>h)) O);refine⟨cB a1 D.size,fun h=>?_,a3⟩;rcases R g h with h | h
   ·exact a2 h
   omega
  fr:=z.fr.next D.os D.tape D.output D.size fun k hk _=>D.block k (cB hk z.fr.size) (fun h=>h) }
theorem cn.Wb{S:Nat->Prop}{a:Act}{w:World}(z:cn A V L S rho s a w)(d:Nat)(es:List (List PV))(hdb:d<100000)(Y:¬L d)(hb:s.h d=.lz es)(O:Value)
  (J:aO S w (.sl es) O):cn A V (fun i=>L i\/i=d) S (bd rho d O) s a w:=by
 have Z:∀i,L i->i≠d:=fun i hi e=>Y (e▸hi);have T:ng S S w w L (fun i=>L i\/i=d) rho (bd rho d O) s.h s.h:=
  ⟨fun b h=>h,fun _ _=>rfl,fun j D=>⟨D,fun hl=>⟨.inl hl,bg _ _ (Z j hl)⟩⟩,fun j e' D=>D⟩
 have out:∀i,(L i\/i=d)->(s.h i).live->L i/\i≠d:=fun i hi I=>by
  by_cases e:i=d
  ·rw[e,hb]at I;exact I.elim
  exact⟨hi.resolve_right e,e⟩
 exact
 {tm:=fun j D=>(z.tm j D).de T
  sz:=z.sz,df:=z.df,nb:=z.nb,pn:=fun id h=>by rw[bg _ _ (by omega)];exact z.pn id h
  ev:=z.ev
  s0:=z.s0
  st:=z.st
  sb:=z.sb
  hp:=fun j D=>by
   by_cases e:j=d
   ·subst e;rw[hb];show aO S w (.sl es) (bd rho j O j);rw[aF];exact J
   have hl:L j:=D.resolve_right e;exact (z.hp j hl).de T (fun I g hg=>rfl) (fun _=>bg _ _ e)
  dj:=fun i j g hi D I U N W=>by
   obtain⟨l1,R⟩:=out i hi I;obtain⟨l2,e2⟩:=out j D U;rw[bg _ _ R]at N;rw[bg _ _ e2]at W;exact z.dj i j g l1 l2 I U N W
  lv:=fun i g hi I N=>by
   obtain⟨l1,R⟩:=out i hi I;rw[bg _ _ R]at N;exact z.lv i g l1 I N
  fr:=z.fr }
theorem cn.Fh{S:Nat->Prop}{a:Act}{w:World}(z:cn A V L S rho s a w)(hC:bP A.C)(id:Nat)(W:L id)(O:(s.h id).live)(I:AB)(hb':∀e,I.qK=some e->(s.h id).qK=some e)
  (w':World) (ho:w'.os=w.os) (ht:w'.tape=w.tape) (hu:w'.output=w.output) (N:w'.heap.size=w.heap.size) (J:∀k,cF (rho id)≠some k->w'.heap[k]?=w.heap[k]?)
  (U:ng S S w w' L L rho rho s.h (bd s.h id I)->fD S w' A.C.P L rho (bd s.h id I) id I) (hown:∀g,hasB w' I (rho id) g->hasB w (s.h id) (rho id) g):cn A V L S rho ⟨s.t,bd s.h id I⟩ a w':=by
 have mn:∀b,S b->w'.heap[b]?=w.heap[b]?:=fun k hk=>J k fun e=>(z.qd id k W O e).2.1 hk;have Wc:(s.h id).there:=by cases hh:s.h id<;>rw[hh]at O<;>first | trivial | exact O.elim
 have T:ng S S w w' L L rho rho s.h (bd s.h id I):=by
  refine⟨fun b h=>h,mn,fun j D=>⟨?_,fun hl=>⟨hl,rfl⟩⟩,fun j e' D=>?_⟩
  ·rcases br s.h id I j with⟨rfl,h⟩ | ⟨_,h⟩
   ·exact Wc
   rw[h]at D;exact D
  rcases br s.h id I j with⟨rfl,h⟩ | ⟨_,h⟩
  ·rw[h]at D;exact hb' e' D
  rw[h]at D;exact D
 have fT:∀j,((bd s.h id I) j).live->(s.h j).live:=by
  intro j D;rcases br s.h id I j with⟨rfl,h⟩ | ⟨Y,h⟩
  ·exact O
  rw[h]at D;exact D
 have back:∀j g,L j->((bd s.h id I) j).live->hasB w' (bd s.h id I j) (rho j) g->hasB w (s.h j) (rho j) g:=by
  intro j g hl D Z;rcases br s.h id I j with⟨rfl,h⟩ | ⟨Y,h⟩
  ·rw[h]at Z;exact hown g Z
  rw[h]at Z D;exact dJ (fun k hk=>J k fun e=>Y (z.Yw j id k hl W D O hk e)) Z
 exact
 {tm:=fun j D=>(z.tm j D).de T
  sz:=z.sz,df:=z.df,nb:=z.nb,pn:=z.pn
  ev:=hC.env _ _ _ _ z.ev (fun b h=>h) mn (Nat.le_of_eq N.symm)
  s0:=z.s0
  st:=fun b hb=>by rw[N];exact z.st b hb
  sb:=z.sb
  hp:=fun j D=>by
   rcases br s.h id I j with⟨rfl,h⟩ | ⟨Y,h⟩
   ·show fD _ _ _ _ _ _ _ (bd s.h j I j);rw[h];exact U T
   show fD _ _ _ _ _ _ _ (bd s.h id I j);rw[h];refine (z.hp j D).de T (fun R g hg=>J g fun e=>?_) (fun _=>rfl);exact Y (z.dj j id g D W R O hg (.inl e))
  dj:=fun i j g hi D R lj fU lE=>z.dj i j g hi D (fT i R) (fT j lj) (back i g hi R fU) (back j g D lj lE)
  lv:=fun i g hi R hg=>by rw[N];exact z.lv i g hi (fT i R) (back i g hi R hg)
  fr:=z.fr.next ho ht hu (Nat.le_of_eq N.symm) fun k hk hn=>J k fun e=>by
   rcases (z.qd id k W O e).2.2 with h | h
   ·exact hn h
   omega }
theorem cn.write{S:Nat->Prop}{a:Act}{w:World}(J:cn A V L S rho s a w)(hC:bP A.C)(id:Nat)(U:L id)(W:(s.h id).live)(z:AB)(N:∀e,z.qK=some e->(s.h id).qK=some e)
  (w':World) (Y:w'.os=w.os) (Z:w'.tape=w.tape) (hu:w'.output=w.output) (O:w'.heap.size=w.heap.size) (D:∀k,cF (rho id)≠some k->w'.heap[k]?=w.heap[k]?)
  (I:ng S S w w' L L rho rho s.h (bd s.h id z)->fD S w' A.C.P L rho (bd s.h id z) id z) (R:VZ z=true:=by rfl):cn A V L S rho ⟨s.t,bd s.h id z⟩ a w':=
 J.Fh hC id U W z N w' Y Z hu O D I fun _ h=>.inl (aI R h)
theorem cn.sa{S:Nat->Prop}{a:Act}{w:World}(z:cn A V L S rho s a w){dst:Option Tmp}(D:∀d,dst=some d->d<A.n):dst.getD 0<100000:=by
 cases dst with
 | none=>exact Nat.zero_lt_succ _
 | some d=>exact cB (D d rfl) z.nb
theorem tD{S:Nat->Prop}{a:Act}{w:World}(J:cn A V L S rho s a w){x:AV}{v:Value}(h:yu s.h x=true)(D:bu S w A.C.P L rho s.h x v):v.oneCell'=true:=by
 unfold yu at h;split at h
 ·rw[D.bZ];exact h
 ·cases h
 ·rename_i y W Y;have Z:=D.eY;cases Z with
  | im=>exact absurd rfl (W _)
  | ag cs vs=>exact absurd rfl (Y cs)
  | nil=>rfl
  | sl=>rfl
  | ip=>rfl
  | fn=>rfl
 ·cases D;rfl
 ·rename_i id;split at h
  ·rename_i e es aw;obtain⟨O,z⟩:=D.cZ (by rw[aw];trivial);have I:=J.hp id O;rw[aw]at I;obtain⟨i,xs,_,_,R,_⟩:=I;rw[z];rcases R.2 with⟨N,_⟩ | ⟨g,cap,U,N,_⟩<;>rw[N]<;>rfl
  ·rename_i e es aw;obtain⟨O,z⟩:=D.cZ (by rw[aw];trivial);have I:=J.hp id O;rw[aw]at I;obtain⟨⟨i,xs,_,_,R,_⟩,_⟩:=I;rw[z];rcases R.2 with⟨N,_⟩ | ⟨g,cap,U,N,_⟩<;>rw[N]<;>rfl
  ·rename_i es aw;obtain⟨O,z⟩:=D.cZ (by rw[aw];trivial);have I:=J.hp id O;rw[aw]at I;obtain⟨ad,c,N,_⟩:=aO.qP I;rw[z,N];rfl
  cases h
 ·rename_i id off;split at h
  ·cases h
  rename_i cO;have ht:(s.h id).there:=by
   cases I:s.h id<;>first | trivial | exact absurd I (by simpa using cO)
  obtain⟨_,g,_,z⟩:=D.hY ht;rw[z];rfl
 ·rename_i id i off;split at h
  ·rename_i e es aw;obtain⟨_,g,n,c,tj,_,_,z⟩:=D.Bu aw;rw[z];rfl
  ·rename_i e es aw;obtain⟨_,g,n,c,tj,_,_,z⟩:=D.we aw;rw[z];rfl
  cases h
 ·cases D;rfl
 cases h
theorem cells_one{v:Value}(h:v.oneCell'=true):v.cells=#[v]:=by cases v<;>first | rfl | cases h
theorem zA{S:Nat->Prop}{w:World}{x:PV}{ys:List PV}{v:Value}(h:vn x=some ys)(D:aO S w x v):v.cells.size=ys.length/\(∀u∈v.cells.toList,u.oneCell'=true)/\∀(j:Nat) y u,ys[j]?=some y->v.cells[j]?=some u->aO S w y u:=by
 have one:∀{v:Value},v.oneCell'=true->aO S w x v->ys=[x]->v.cells.size=ys.length/\(∀u∈v.cells.toList,u.oneCell'=true)/\∀(j:Nat) y u,ys[j]?=some y->v.cells[j]?=some u->aO S w y u:=by
  intro v z D O;subst O;rw[cells_one z];refine⟨rfl,by simpa using z,fun j y u I N=>?_⟩;cases j with
  | zero=>simp at I N;subst I N;exact D
  | succ j=>simp at I
 unfold vn at h;split at h
 ·injection h with h;subst h;obtain⟨vs,rfl,z,J,R⟩:=D.n_;exact⟨z.symm,J,R⟩
 ·split at h
  ·rename_i z;injection h with h;exact one (by rw[D.bZ];exact z) D h.symm
  cases h
 rename_i z J;injection h with h;refine one ?_ D h.symm;cases D with
 | im=>exact absurd rfl (J _)
 | ag cs=>exact absurd rfl (z cs)
 | nil=>rfl
 | sl=>rfl
 | ip=>rfl
 | fn=>rfl
theorem Wd{o:Oper}(e:TypeId)(x:Operand)(aL:o.op=.box e x):jV A o:=by
 intro V L S rho s a w K next Q hC O hV hd N hn R
 simp only[cc,aL]at N;have W:=bF O x fun j D=>hV j (by simp[aL,Op.operands,D]);have hr:(execOp a.eval o).run A.C.P w=.ok (.value (.pointer (some ⟨w.heap.size,0,none⟩))) (w.alloc (.cells (a.eval x).cells e)):=by
  simp[execOp,aL,Instr.box,newVar,newRow,newObj,Sem.run]
 have J:∀cs:List AV,K (.bx (o.dst.getD 0) 0) [] (some (.box cs))->(a.eval x).cells.size=cs.length->(∀(j:Nat) y u,cs[j]?=some y->(a.eval x).cells[j]?=some u->u.oneCell'=true/\bu S w A.C.P L rho s.h y u)->o.wp A.C.P a w next Q:=by
  intro cs N hl hc;obtain⟨hL,hb⟩:=hn _ _ _ N;have cv:=O.new hC (o.dst.getD 0) (.box cs) (O.sa hd) hL hb (w.alloc (.cells (a.eval x).cells e)) rfl rfl rfl (by simp) (fun _=>False) (fun k hk _=>oY _ _ _ hk) (fun _ h=>h.elim) (.pointer (some ⟨w.heap.size,0,none⟩))
   (fun g hg=>by simp[cF]at hg;subst hg;simp) (fun T=>⟨w.heap.size,e,(a.eval x).cells,aF _ _ _,heap_alloc_new w _,hl,fun j y u D I=>⟨(hc j y u D I).1,(hc j y u D I).2.de T⟩⟩)
  refine eB hr (R _ _ _ _ _ _ _ N (cv.value o.dst hd _ _ (.bx _ _ _ fun _=>⟨.inr rfl,w.heap.size,aF _ _ _,rfl⟩)))
 split at N
 ·rename_i cs nP;rw[nP]at W;obtain⟨vs,Y,Z,U,h3⟩:=W.eY.n_;refine J _ N (by rw[Y];simp[Value.cells,Z]) fun j y u D I=>?_;rw[Y]at I;rw[aD]at D;obtain⟨z,hz,rfl⟩:=aV.1 D;have sB:vs[j]?=some u:=I;exact⟨U u (by simpa using Az sB),.p _ _ (h3 j z u hz sB)⟩
 ·rename_i xs nP;rw[nP]at W;obtain⟨vs,Y,Z,U,h3⟩:=W.V4;refine J _ N (by rw[Y];simp[Value.cells,Z]) fun j y u D I=>?_;rw[Y]at I;have sB:vs[j]?=some u:=I;exact⟨U u (by simpa using Az sB),h3 j y u D sB⟩
 split at N
 ·rename_i Z;have U:=tD O Z W;refine J _ N (by rw[cells_one U];rfl) fun j y u D I=>?_;rw[cells_one U]at I;cases j with
  | zero=>simp at D I;subst D I;exact⟨U,W⟩
  | succ j=>simp at D
 exact N.elim
theorem PS{o:Oper}(e:TypeId)(aL:o.op=.alloc e):jV A o:=by
 intro V L S rho s a w K next Q hC I hV Y N hn D
 simp only[cc,aL]at N;split at N
 ·rename_i ti hT;obtain⟨info,z,hi,h1,h2,hz,Z,kE⟩:=(hC.jw e ti hT).info;have hr:(execOp a.eval o).run A.C.P w=.ok (.value (.pointer (some ⟨w.heap.size,0,none⟩))) (w.alloc (.cells z.cells e)):=by
   simp[execOp,aL,Instr.alloc,zeroValue,typeInfo,hi,hz,newVar,newRow,newObj,Sem.run]
  split at N
  ·obtain⟨hL,hb⟩:=hn _ _ _ N;have cv:=I.new hC (o.dst.getD 0) _ (I.sa Y) hL hb (w.alloc (.cells z.cells e)) rfl rfl rfl (by simp) (fun _=>False) (fun k hk _=>oY _ _ _ hk) (fun _ h=>h.elim) (.pointer (some ⟨w.heap.size,0,none⟩))
    (fun g O=>by simp[cF]at O;subst O;simp) (fun T=>⟨w.heap.size,e,z.cells,aF _ _ _,heap_alloc_new w _,by rw[Z];simp,fun j y u R U=>by
     rw[Z]at U;rw[aD]at R;obtain⟨v,W,rfl⟩:=aV.1 R;have J:ti.zero[j]?=some u:=by simpa using U
     rw[W]at J;injection J with J;subst J;exact⟨kE v (aj W),Bp _ _ _ _ _ _ v⟩⟩)
   refine eB hr (D _ _ _ _ _ _ _ N (cv.value o.dst Y _ _ (.bx _ _ _ fun _=>⟨.inr rfl,w.heap.size,aF _ _ _,rfl⟩)))
  obtain⟨hL,hb⟩:=hn _ _ _ N;have cv:=I.new hC (o.dst.getD 0) _ (I.sa Y) hL hb (w.alloc (.cells z.cells e)) rfl rfl rfl (by simp) (fun _=>False) (fun k hk _=>oY _ _ _ hk) (fun _ h=>h.elim) (.pointer (some ⟨w.heap.size,0,none⟩))
   (fun g O=>by simp[cF]at O;subst O;simp) (fun T=>⟨w.heap.size,z.cells,aF _ _ _,heap_alloc_new w _,by rw[Z];simp,fun j y u R U=>by
    rw[Z]at U;rw[aD]at R;obtain⟨v,W,rfl⟩:=aV.1 R;have J:ti.zero[j]?=some u:=by simpa using U
    rw[W]at J;injection J with J;subst J;exact⟨kE v (aj W),Bp _ _ _ _ _ _ v⟩⟩)
  refine eB hr (D _ _ _ _ _ _ _ N (cv.value o.dst Y _ _ (.bx _ _ _ fun _=>⟨.inr rfl,w.heap.size,aF _ _ _,rfl⟩)))
 exact N.elim
end Go.AM
namespace Go.AM
open Go.RowKit
theorem oa{id:Nat}:∀{fz:List (Nat×AB)} {h:Nat->AB},vo id fz=true->app h fz id=h id:=by
 intro fz
 induction fz with
 | nil=>intro h _;rfl
 | cons x fz ih=>
  intro h z;unfold vo at z;split at z
  ·cases z
  rename_i D;show app (bd h x.1 x.2) fz id=h id;rw[ih z,bg _ _ (fun e=>by rw[e]at D;simp at D)]
variable {α:Type}
theorem dh:∀(ys:List α) (cs:List α) (off:Nat),(setCells cs off ys).length=cs.length:=by
 intro ys
 induction ys with
 | nil=>intro cs off;rfl
 | cons y ys ih=>intro cs off;simp[setCells,ih]
theorem eJ:∀(ys:List α) (cs:List α) (off j:Nat),off+ys.length<=cs.length->(setCells cs off ys)[j]?=if off<=j/\j<off+ys.length then ys[j-off]? else cs[j]?:=by
 intro ys
 induction ys with
 | nil=>intro cs off j _;simp only[setCells,kv];rw[aa (by omega)]
 | cons y ys ih=>
  intro cs off j hl;simp only[bN]at hl ⊢;simp only[setCells];rw[ih _ _ _ (by simp;omega)];by_cases D:j=off
  ·subst D;rw[aa (by omega),ae (by omega),jL,dZ (by omega)];rfl
  by_cases z:off+1<=j/\j<off+1+ys.length
  ·rw[ae z,ae (by omega),show j-off=(j-(off+1))+1 by omega,vX]
  rw[aa z,aa (by omega),gC (by omega)]
theorem qQ(cs ys:List α)(off j:Nat)(hl:off+ys.length<=cs.length):(cs.take off++ys++cs.drop (off+ys.length))[j]?=if off<=j/\j<off+ys.length then ys[j-off]? else cs[j]?:=by
 have z:(cs.take off).length=off:=by simp;omega
 by_cases D:j<off
 ·rw[aa (by omega),d_,dN (by omega),oZ D]
 by_cases h2:j<off+ys.length
 ·rw[ae (by omega),d_,du (by omega),z,dN (by omega)]
 rw[aa (by omega),d_,du (by omega),z,du (by omega),gB];congr 1;omega
theorem Tm(cs:List α)(off j:Nat)(y:α)(hl:off<cs.length):(cs.set off y)[j]?=if off<=j/\j<off+1 then [y][j-off]? else cs[j]?:=eJ [y] cs off j hl
theorem sE{P:Program}{w:World}{t:TypeId}{ti:TI}(h:qc P t ti)(g off:Nat)(I:TypeId)(z:Array Value)(v:Value)(J:w.heap[g]?=some (.cells z I (0,0)))(D:v.cells.size=ti.size)(hl:off+ti.size<=z.size)(N:∀u∈v.cells.toList,u.oneCell'=true):
  (Instr.storeAt t (.pointer (some ⟨g,off,none⟩)) v).run P w=.ok () (w.setRow g (z.toList.take off++v.cells.toList++z.toList.drop (off+v.cells.toList.length)).toArray):=by
 have:=run_storeCells_at P g off I v.cells.toList 0 z w J (by simp[D];omega) N;simp only[mY]at this;simp[Instr.storeAt,Instr.sureAddr,storeVar,h.sizeOf,D];simpa [D] using this
theorem qR{P:Program}{a:Act}{o:Oper}{w w':World}{t:TypeId}{x y:Operand}(z:o.op=.store t x y)(h:(Instr.storeAt t (a.eval x) (a.eval y)).run P w=.ok () w'):(execOp a.eval o).run P w=.ok .skip w':=by
 simp only[execOp,z,bT,h,dt,fY]
variable {e:TypeId} {tj:TypeInfo}
theorem aH.stored{P:Program}{w:World}{R R':α->Value->Prop}{es:List (List α)}{g n c:Nat}(h:aH P w R e es (.slice (some ⟨g,0,none⟩) n c))(D5:P.info? e=some tj){D:Array Value}(hg:w.heap[g]?=some (.cells D e (0,0)))
  {i off:Nat} {r:List α} (hr:es[i]?=some r) {ys:List α} {us:List Value} (hle:off+ys.length<=r.length) (hlen:us.length=ys.length) (kE:∀u∈us,u.oneCell'=true) (hR:∀x u,R x u->R' x u) (gk:∀(j:Nat) z u,ys[j]?=some z->us[j]?=some u->R' z u):
  aH P (w.setRow g (D.toList.take (i*tj.size+off)++us++D.toList.drop (i*tj.size+off+us.length)).toArray) R' e (es.set i (setCells r off ys)) (.slice (some ⟨g,0,none⟩) n c):=by
 obtain⟨ie,xs,Z,k2,k3,k4,k5,k6⟩:=h;rw[D5]at Z;injection Z with Z;subst Z;rcases k3.2 with⟨I,_⟩ | ⟨g',cap,We,I,_,U,k9,k10,Wf,YF⟩
 ·cases I
 injection I with I kn kc;injection I with I;injection I with I;subst I kn kc;rw[hg]at U;injection U with U;injection U with U;subst U;have hi:=aC hr;have Ah:=k4 r (aj hr);have YG:i*tj.size+tj.size<=es.length*tj.size:=by rw[<-dO];exact cq _ hi
 have YH:es.length*tj.size<=D.size:=by rw[Wf];exact cq _ k9
 have Wg:xs.length=es.length*tj.size:=k3.1;have Bv:=fun j=>qQ D.toList us (i*tj.size+off) j (by simp;omega);have Tn:=fun j=>eJ us xs (i*tj.size+off) j (by omega);refine⟨tj,setCells xs (i*tj.size+off) us,D5,k2,⟨by rw[dh,Wg,aQ],.inr ⟨g,c,_,by rw[aQ],ak _,setRow_heap w g D _ e (0,0) hg,by rw[aQ];exact k9,k10,?_,?_⟩⟩,?_,?_,?_⟩
 ·simp only[lS,bJ,cE,lU,lV];rw[Wf]at *;omega
 ·apply kz;intro j;rw[dM];simp only[aQ];split
  ·rename_i J;rw[Bv,Tn];split
   ·rfl
   rw[<-YF,oZ J]
  rename_i J;rw[iR];rw[dh,Wg];omega
 ·intro q hqm;rcases m_ hqm with h | h
  ·exact k4 q h
  rw[h,dh];exact Ah
 ·intro u W;obtain⟨j,J⟩:=ca.1 W;rw[Tn]at J;split at J
  ·exact kE u (aj J)
  exact k5 u (aj J)
 intro Y q j z N O;have hql:q.length=tj.size:=by
  rcases m_ (aj N) with h | h
  ·exact k4 q h
  rw[h,dh];exact Ah
 have yp:=aC O;rw[Tn];by_cases PT:Y=i
 ·subst PT;rw[dZ hi]at N;injection N with N;subst N;rw[eJ _ _ _ _ (by omega)]at O;split at O
  ·rename_i nQ;rw[ae (by omega),show Y*tj.size+j-(Y*tj.size+off)=j-off by omega];have hjo:=aC O;exact⟨us[j-off]'(by omega),aW _,gk _ z _ O (aW _)⟩
  rename_i nQ;rw[aa (by omega)];obtain⟨u,W,oP⟩:=k6 _ _ _ _ hr O;exact⟨u,W,hR _ _ oP⟩
 rw[gC (fun e=>PT e.symm)]at N;have cO:¬(i*tj.size+off<=Y*tj.size+j/\Y*tj.size+j<i*tj.size+off+us.length):=by
  rintro⟨h1,h2⟩;rcases AA PT with h | h
  ·have:=cq tj.size (jM h);rw[dO]at this;omega
  have:=cq tj.size (jM h);rw[dO]at this;omega
 rw[aa cO];obtain⟨u,W,oP⟩:=k6 _ _ _ _ N O;exact⟨u,W,hR _ _ oP⟩
theorem aH.block{P:Program}{w:World}{R:α->Value->Prop}{es:List (List α)}{g n c:Nat}(h:aH P w R e es (.slice (some ⟨g,0,none⟩) n c))(J:P.info? e=some tj):∃D:Array Value,w.heap[g]?=some (.cells D e (0,0))/\es.length*tj.size<=D.size/\(∀r∈es,r.length=tj.size)/\0<tj.size:=by
 obtain⟨ie,xs,I,N,O,U,k5,k6⟩:=h;rw[J]at I;injection I with I;subst I;rcases O.2 with⟨z,_⟩ | ⟨g',cap,W,z,_,Y,Z,k10,Wf,YF⟩
 ·cases z
 injection z with z kn kc;injection z with z;injection z with z;subst z;exact⟨W,Y,by rw[Wf];exact cq _ Z,U,N⟩
theorem jY{g o n c:Nat}{p:Option Nat}{k:Nat}:cF (.slice (some ⟨g,o,p⟩) n c)=some k↔k=g:=by
 simp only[cF,Option.some.injEq];exact⟨fun h=>h.symm,fun h=>h.symm⟩
theorem yt.PU{P:Program}{w:World}{R:HX->Value->Prop}{es:List (List HX)}{v:Value}(hS:yt w es v)(h:aH P w R e es v):
  aH P w (fun x u=>R x u/\∀e' I,x=.row e' I->∀g b,cF v=some g->cF u=some b->b≠g) e es v:=by
 obtain⟨i,xs,Y,Z,J,N,h5,h6⟩:=h;refine⟨i,xs,Y,Z,J,N,h5,fun a r j x D O=>?_⟩;obtain⟨u,z,hr⟩:=h6 a r j x D O;refine⟨u,z,hr,fun e' I hx g b U hb=>?_⟩;subst hx;have Ah:=N r (aj D);rcases J.2 with⟨hn,hz⟩ | ⟨g',cap,cur,W,_,Hc,k1,k2,k3,k4⟩
 ·have:=(az.1 D).1;omega
 rw[W]at U;obtain rfl:=jY.1 U;refine hS.top g a j u b (by rw[W];rfl) ⟨r,e',I,_,_,_,D,O,Hc,?_⟩ hb;rw[Ah];rw[<-k4,dM]at z;split at z
 ·simpa using z
 cases z
theorem cn.To{A:rZ}{V L S:Nat->Prop}{rho:Nat->Value}{s:AS}{a:Act}{w:World}(R:cn A V L S rho s a w)(hC:bP A.C){id:Nat}(hL:L id){es:List (List HX)}(aw:s.h id=.aw e es){g n c:Nat}(Y:rho id=.slice (some ⟨g,0,none⟩) n c)(D5:A.C.P.info? e=some tj)
  {i off:Nat} {r:List HX} (Z:es[i]?=some r) (hle:off+1<=r.length) {x:AV} {u:Value} (kE:u.oneCell'=true) (hx:bu S w A.C.P L rho s.h x u):
  ∃D:Array Value,w.heap[g]?=some (.cells D e (0,0))/\i*tj.size+off+1<=D.size/\cn A V L S rho ⟨s.t,bd s.h id (.aw e (es.set i (r.set off (.av x))))⟩ a (w.setRow g (D.toList.take (i*tj.size+off)++[u]++D.toList.drop (i*tj.size+off+1)).toArray):=by
 have hh:=R.hp id hL;rw[aw]at hh;obtain⟨hR,hS⟩:=hh;rw[Y]at hR hS;obtain⟨D,U,hsz,hlen,hpos⟩:=hR.block D5;have hi:=aC Z;have Ah:=hlen r (aj Z);have YG:i*tj.size+tj.size<=es.length*tj.size:=by rw[<-dO];exact cq _ hi
 have gU:∀k j v,dT (w.setRow g (D.toList.take (i*tj.size+off)++[u]++D.toList.drop (i*tj.size+off+1)).toArray) (es.set i (r.set off (.av x))) g k j v->dT w es g k j v:=by
  rintro k j v ⟨q,e',uV,c',ty',m',J,I,N,O⟩;rw[setRow_heap w g D _ e (0,0) U]at N;injection N with N;injection N with N h3' aeE;have yp:=aC I;have W:q.length=tj.size:=by
   rcases m_ (aj J) with h | h
   ·exact hlen q h
   rw[h,aQ];exact Ah
  have key:∀p,p≠i*tj.size+off->c'[p]?=some v->D[p]?=some v:=fun p hp h=>by
   rw[<-N]at h;have h:(D.toList.take (i*tj.size+off)++[u]++D.toList.drop (i*tj.size+off+1))[p]?=some v:=by simpa using h
   have I:=qQ D.toList [u] (i*tj.size+off) p (by simp;omega);simp only[ij]at I;rw[I,aa (by omega)]at h;simpa using h
  by_cases PW:k=i
  ·subst PW;rw[dZ hi]at J;injection J with J;subst J;have hjo:j≠off:=fun e0=>by
    subst e0;rw[dZ (by omega)]at I;injection I with I;cases I
   rw[gC (fun e=>hjo e.symm)]at I;refine⟨r,e',uV,D,_,_,Z,I,U,?_⟩;rw[W]at O;rw[Ah];exact key _ (by omega) O
  rw[gC (fun e=>PW e.symm)]at J;refine⟨q,e',uV,D,_,_,J,I,U,?_⟩;refine key _ ?_ O;rw[W];intro he;rcases AA PW with h | h
  ·have:=cq tj.size (jM h);rw[dO]at this;omega
  have:=cq tj.size (jM h);rw[dO]at this;omega
 refine⟨D,U,by omega,?_⟩;refine R.Fh hC id hL (by rw[aw];trivial) _ (fun e' h=>by rw[aw];exact h) _ (setRow_os w g _) (setRow_tape w g _) (setRow_output w g _) (setRow_size w g _) (fun k hk=>setRow_other w g k _ fun e=>hk (by rw[Y,e];rfl)) (fun T=>?_) (fun k hk=>?_)
 ·show aH _ _ _ _ _ (rho id)/\yt _ _ (rho id);rw[Y];refine⟨(hS.PU hR).stored D5 U (ys:=[.av x]) (us:=[u]) Z hle rfl (by simpa using kE) (fun y v hy=>?_) (fun j z v hz hv=>?_),?_⟩
  ·cases y with
   | av y=>exact bu.de T hy.1
   | row e' uV=>exact aH.de hy.1 (fun k hk=>setRow_other w g k _ (hy.2 _ _ rfl g k rfl hk)) (fun x u hu=>hu.mono T.hS T.keep)
  ·cases j with
   | zero=>simp at hz hv;subst hz hv;exact bu.de T hx
   | succ j=>simp at hz
  exact⟨fun g' k j v b J I N=>by
   obtain rfl:=jY.1 J;exact hS.top _ k j v b J (gU k j v I) N,fun g' k j k' j' v v' b J I N O h5=>by
   obtain rfl:=jY.1 J;exact hS.dis _ k j k' j' v v' b J (gU k j v I) (gU k' j' v' N) O h5⟩
 rw[aw];rcases hk with hk | ⟨cs,g',h,_⟩ | ⟨e',dv,g',k',j,v,J,I,N,O⟩
 ·exact .inl hk
 ·cases h
 injection J with J wc;subst J wc;have zC:=I;rw[Y]at zC;obtain rfl:=jY.1 zC;exact .inr (.inr ⟨_,_,_,_,_,_,rfl,I,gU _ _ _ N,O⟩)
theorem PX{A:rZ}{o:Oper}(t:TypeId)(x y:Operand)(aL:o.op=.store t x y):jV A o:=by
 intro V L S rho s a w K next Q hC R hV hd D hn N
 simp only[cc,aL]at D;have hx:=bF R x fun j J=>hV j (by simp[aL,Op.operands,J]);have hy:=bF R y fun j J=>hV j (by simp[aL,Op.operands,J]);split at D
 ·exact D.elim
 rename_i ti hT;have gj:=hC.jw t ti hT;split at D
 ·rename_i id off Wh;rw[Wh]at hx;split at D
  ·rename_i cs aU;obtain⟨hL,g,hg,hv⟩:=hx.hY (by rw[aU];trivial);have main:∀(S2:Nat->Prop) (s2:AS) (oM:List AV) (ws:List AV),cn A V L S2 rho s2 a w->s2.h id=.box cs->(a.eval y).cells.size=ti.size->ws.length=ti.size->off+ti.size<=cs.length->(∀u∈(a.eval y).cells.toList,u.oneCell'=true)->
     (∀(j:Nat) z u,ws[j]?=some z->(a.eval y).cells[j]?=some u->bu S2 w A.C.P L rho s2.h z u)->oM.length=cs.length->(∀j,oM[j]?=if off<=j/\j<off+ws.length then ws[j-off]? else cs[j]?)->
     ∃w',(execOp a.eval o).run A.C.P w=.ok .skip w'/\cn A V L S2 rho ⟨s2.t,bd s2.h id (.box oM)⟩ a w':=by
    intro S2 s2 oM ws bH Aj hsz hws hle kE gk hlen vv;have hh:=bH.hp id hL;rw[Aj]at hh;obtain⟨g',ty,c,Z,k2,k3,k4⟩:=hh;rw[hg]at Z;injection Z with Z;injection Z with Z;injection Z with Z;subst Z;have I:=sE (w:=w) gj g off ty c (a.eval y) k2 hsz (by omega) kE;refine⟨_,qR aL (by rw[hv];exact I),?_⟩;refine bH.write hC id hL (by rw[Aj];trivial) (.box oM) (fun _ h=>by cases h) _ (by simp) (by simp) (by simp) (by simp) (fun k hk=>setRow_other w g k _ fun e=>hk (by rw[hg,e];rfl)) fun T=>?_;have jx:(a.eval y).cells.toList.length=ti.size:=by simpa using hsz
    refine⟨g,ty,_,hg,setRow_heap w g c _ ty (0,0) k2,by simp[jx];omega,fun j z u J U=>?_⟩;have sB:(c.toList.take off++(a.eval y).cells.toList++c.toList.drop (off+(a.eval y).cells.toList.length))[j]?=some u:=by simpa using U
    rw[qQ _ _ _ _ (by rw[jx];simpa [k3] using hle)]at sB;rw[vv j]at J;rw[jx]at sB;rw[hws]at J;split at J
    ·rename_i nQ;rw[ae nQ]at sB;have hu2:(a.eval y).cells[j-off]?=some u:=by simpa using sB
     exact⟨kE u (aj sB),(gk _ z u J hu2).de T⟩
    rename_i nQ;rw[aa nQ]at sB;have hu2:c[j]?=some u:=by simpa using sB
    obtain⟨h5,h6⟩:=k4 _ _ _ J hu2;exact⟨h5,h6.de T⟩
   split at D
   ·rename_i zz;obtain⟨yv,fz,S2,D,bH,hrep,AJ,hF,Hs⟩:=jA hC R (su.refl s.h) hy D;split at D
    ·rename_i ys;split at D
     ·rename_i mo;simp only[aJ]at mo;obtain⟨⟨Y,W⟩,e3⟩:=mo;have Y:=jn Y;have W:=mK W;obtain⟨vs,PY,h1,h2,h3⟩:=hrep.n_;have jx:(a.eval y).cells=vs:=by rw[PY];rfl
      obtain⟨w',I,fu⟩:=main S2 _ (setCells cs off (ys.map Ya)) (ys.map Ya) bH (by simp only;rw[oa e3];exact aU) (by rw[jx];omega) (by simpa using Y) W (by rw[jx];exact h2)
       (fun j z u J U=>by
        rw[jx]at U;rw[aD]at J;obtain⟨z',hz,rfl⟩:=aV.1 J;exact AG (h3 j z' u hz U)) (dh _ _ _) (fun j=>eJ _ _ _ _ (by simpa [Y] using W))
      refine sC I (N _ _ _ S2 rho _ _ D ?_);have:=fu.value o.dst hd .junk undef (.junk _);simp only[cQ,app];exact this
     exact D.elim
    exact D.elim
   rename_i zz;split at D
   ·rename_i mo;simp only[aJ]at mo;obtain⟨⟨Y,W⟩,e3⟩:=mo;have Y:=mK Y;have W:=jn W;have h1:=tD R e3 hy;have jx:=cells_one h1;obtain⟨w',I,fu⟩:=main S s (cs.set off (ev s.t y)) [ev s.t y] R aU (by rw[jx,W];rfl) (by rw[W];rfl) (by omega) (by rw[jx];simpa using h1)
     (fun j z u J U=>by
      rw[jx]at U;cases j with
      | zero=>simp at J U;subst J U;exact hy
      | succ j=>simp at J) (by simp) (fun j=>Tm _ _ _ _ (by omega))
    refine sC I (N _ _ _ S rho _ _ D ?_);exact fu.value o.dst hd .junk undef (.junk _)
   exact D.elim
  exact D.elim
 ·rename_i id i off Wh;rw[Wh]at hx;split at D
  ·rename_i e es aw;obtain⟨hL,g,n,c,tj,hg,D5,hv⟩:=hx.Bu aw;obtain⟨r,hr,D⟩:=D;obtain⟨yv,fz,S2,D,bH,hrep,AJ,hF,Hs⟩:=jA hC R (su.refl s.h) hy D;split at D
   ·rename_i ys Wi;split at D
    ·rename_i mo;simp only[aJ]at mo;obtain⟨⟨Y,W⟩,e3⟩:=mo;have Y:=jn Y;have W:=mK W;obtain⟨abr,kE,gk⟩:=zA Wi hrep;have Aj:(app s.h fz) id=.row e es:=by rw[oa e3];exact aw
     have hh:=bH.hp id hL;have hh:fD S2 w A.C.P L rho (app s.h fz) id ((app s.h fz) id):=hh;rw[Aj]at hh;obtain⟨ie,xs,Z,k2,k3,k4,k5,k6⟩:=hh;rw[D5]at Z;injection Z with Z;subst Z;rw[hg]at k3;rcases k3.2 with⟨k7,_⟩ | ⟨g',cap,O,k7,_,k8,k9,k10,Wf,YF⟩
     ·cases k7
     injection k7 with k7 kn kc;injection k7 with k7;injection k7 with k7;subst k7 kn kc;have hi:=aC hr;have Ah:=k4 r (aj hr);have YG:i*tj.size+tj.size<=es.length*tj.size:=by rw[<-dO];exact cq _ hi
     have YH:es.length*tj.size<=O.size:=by rw[Wf];exact cq _ k9
     have jx:(a.eval y).cells.toList.length=ti.size:=by simp;omega
     have I:=sE (w:=w) gj g (i*tj.size+off) e O (a.eval y) k8 (by omega) (by omega) kE;refine sC (qR aL (by rw[hv];exact I)) (N _ _ _ S2 rho _ _ D ?_);have fu:cn A V L S2 rho ⟨s.t,bd (app s.h fz) id (.row e (es.set i (setCells r off ys)))⟩ a (w.setRow g (O.toList.take (i*tj.size+off)++(a.eval y).cells.toList++O.toList.drop (i*tj.size+off+(a.eval y).cells.toList.length)).toArray):=by
      refine bH.write hC id hL (by show (app s.h fz id).live;rw[Aj];trivial) (.row e (es.set i (setCells r off ys))) (fun e' h=>by show (app s.h fz id).qK=_;rw[Aj];exact h) _ (setRow_os w g _) (setRow_tape w g _) (setRow_output w g _) (setRow_size w g _)
       (fun k hk=>setRow_other w g k _ fun e=>hk (by rw[hg,e];rfl)) (fun T=>?_)
      show aH _ _ _ _ _ (rho id);rw[hg];have Wg:xs.length=es.length*tj.size:=k3.1;have Ht:∀(j:Nat) u,xs[j]?=some u->O.toList[j]?=some u:=fun j u J=>by
       rw[<-YF]at J;rw[dM]at J;split at J
       ·exact J
       cases J
      have Bv:=fun j=>qQ O.toList (a.eval y).cells.toList (i*tj.size+off) j (by rw[jx];simp;omega);have Tn:=fun j=>eJ (a.eval y).cells.toList xs (i*tj.size+off) j (by rw[jx,Wg];omega);refine⟨tj,setCells xs (i*tj.size+off) (a.eval y).cells.toList,D5,k2,⟨by rw[dh,Wg,aQ],.inr ⟨g,c,_,by rw[aQ],ak _,setRow_heap w g O _ e (0,0) k8,by rw[aQ];exact k9,k10,?_,?_⟩⟩,?_,?_,?_⟩
      ·simp only[lS,bJ,cE,lU,lV];rw[Wf]at *;simp at jx;omega
      ·apply kz;intro j;rw[dM];simp only[aQ];split
       ·rename_i J;rw[Bv,Tn];split
        ·rfl
        rw[<-YF,oZ J]
       rename_i J;rw[iR];rw[dh,Wg];omega
      ·intro q hqm;rcases m_ hqm with h | h
       ·exact k4 q h
       rw[h,dh];exact Ah
      ·intro u U;obtain⟨j,J⟩:=ca.1 U;rw[Tn]at J;split at J
       ·exact kE u (aj J)
       exact k5 u (aj J)
      intro a' q j z yB hz;have hql:q.length=tj.size:=by
       rcases m_ (aj yB) with h | h
       ·exact k4 q h
       rw[h,dh];exact Ah
      have yp:=aC hz;rw[Tn];by_cases PT:a'=i
      ·subst PT;rw[dZ hi]at yB;injection yB with yB;subst yB;rw[eJ _ _ _ _ (by omega)]at hz;split at hz
       ·rename_i nQ;rw[ae (by omega),show a'*tj.size+j-(a'*tj.size+off)=j-off by omega];obtain⟨u,U⟩:=lD abr.symm (aC hz);exact⟨u,by simpa using U,(gk _ z u hz U).mono T.hS T.keep⟩
       rename_i nQ;rw[aa (by omega)];obtain⟨u,U,oP⟩:=k6 _ _ _ _ hr hz;exact⟨u,U,oP.mono T.hS T.keep⟩
      rw[gC (fun e=>PT e.symm)]at yB;have cO:¬(i*tj.size+off<=a'*tj.size+j/\a'*tj.size+j<i*tj.size+off+(a.eval y).cells.toList.length):=by
       rintro⟨h1,h2⟩;rcases AA PT with h | h
       ·have:=cq tj.size (jM h);rw[dO]at this;omega
       have:=cq tj.size (jM h);rw[dO]at this;omega
      rw[aa cO];obtain⟨u,U,oP⟩:=k6 _ _ _ _ yB hz;exact⟨u,U,oP.mono T.hS T.keep⟩
     have:=fu.value o.dst hd .junk undef (.junk _);simp only[cQ,app];exact this
    exact D.elim
   exact D.elim
  ·rename_i e es aw;obtain⟨hL,g,n,c,tj,hg,D5,hv⟩:=hx.we aw;obtain⟨r,hr,D⟩:=D;split at D
   ·exact D.elim
   split at D
   ·rename_i mo;simp only[aJ]at mo;obtain⟨⟨Y,W⟩,e3⟩:=mo;have Y:=mK Y;have W:=jn W;have h1:=tD R e3 hy;have jx:=cells_one h1;obtain⟨O,Ht,hsz,fu⟩:=R.To hC hL aw hg D5 hr Y h1 hy;have I:=sE (w:=w) gj g (i*tj.size+off) e O (a.eval y) Ht (by rw[jx,W];rfl) (by omega) (by rw[jx];simpa using h1);rw[jx]at I;refine sC (qR aL (by rw[hv];exact I)) (N _ _ _ S rho _ _ D ?_);exact fu.value o.dst hd .junk undef (.junk _)
   exact D.elim
  exact D.elim
 exact D.elim
end Go.AM
namespace Go.AM
open Go.RowKit
variable {A:rZ}
theorem Wj{o:Oper}(c:Call)(aL:o.op=.call c)(hc:c.callee=.builtin .len):jV A o:=by
 intro V L S rho s a w K next Q hC I hV hd z _ D
 obtain⟨callee,args,argTypes⟩:=c;simp only at hc;subst hc;simp only[cc,aL,fc,fZ]at z;split at z
 ·rename_i x t O PZ;have J:=bF I x fun j hj=>hV j (by simp[aL,Op.operands,Call.operands,hj];rw[<-hj];exact cJ.1 (by rw[O];simp));have e1:args=#[x]:=by rw[<-kA (xs:=args),O]
  have e2:argTypes=#[t]:=by rw[<-kA (xs:=argTypes),PZ]
  subst e1 e2;split at z
  ·rename_i size bytes zero eq hT;have U:=(hC.jw t _ hT).under;simp only at U;split at z
   ·rename_i st wh;rw[wh]at J;exact aN I hd D z (.p _ _ (.im _)) (by simp[execOp,aL,resolve,invoke,builtin,J.bZ,Builtin.len_,run_underlying U,goInt])
   exact z.elim
  ·rename_i e size bytes zero eq hT;have U:=(hC.jw t _ hT).under;simp only at U;have fin:∀(es:List (List PV)) W c,K (.p (.im (.int .i64 es.length))) [] none->a.eval x=.slice W es.length c->o.wp A.C.P a w next Q:=fun es W c z he=>
    aN I hd D z (.p _ _ (.im _)) (by simp[execOp,aL,resolve,invoke,builtin,he,Builtin.len_,run_underlying U,goInt])
   split at z
   ·rename_i m N;unfold hlen at N;split at N
    ·rename_i id Z;rw[Z]at J;split at N
     ·rename_i e' es aw;injection N with N;subst N;obtain⟨hL,Y⟩:=J.cZ (by rw[aw];trivial);have R:=I.hp id hL;rw[aw]at R;obtain⟨⟨i,xs,_,_,h3,_⟩,_⟩:=R;obtain⟨W,c,hv2⟩:∃W c,rho id=.slice W es.length c:=by
       rcases h3.2 with⟨h4,h5⟩ | ⟨g,cap,cur,h4,_⟩
       ·exact⟨none,0,by rw[h4,h5]⟩
       exact⟨_,cap,h4⟩
      exact aN I hd D z (.p _ _ (.im _)) (by simp[execOp,aL,resolve,invoke,builtin,Y,hv2,Builtin.len_,run_underlying U,goInt])
     cases N
    ·rename_i id lo hi Z;rw[Z]at J;split at N
     ·rename_i e' es aw;injection N with N;subst N;obtain⟨_,n,cp,W,ti',_,_,_,_,_,hval⟩:=J.Ff aw;exact aN I hd D z (.p _ _ (.im _)) (by simp[execOp,aL,resolve,invoke,builtin,hval,Builtin.len_,run_underlying U,goInt])
     cases N
    cases N
   unfold iE at z;split at z
   ·rename_i es Z;rw[Z]at J;obtain⟨W,c,Y,_⟩:=J.eY.qP;exact fin es W c z Y
   ·rename_i Z;rw[Z]at J;have:a.eval x=.slice none 0 0:=by cases h:a.eval x<;>rw[h]at J<;>cases J;rfl
    exact fin [] none 0 z this
   ·rename_i id Z;rw[Z]at J;split at z
    ·rename_i e' es aw;obtain⟨hL,Y⟩:=J.cZ (by rw[aw];trivial);have R:=I.hp id hL;rw[aw]at R;obtain⟨i,xs,_,_,h3,_⟩:=R;rcases h3.2 with⟨h4,h5⟩ | ⟨g,cap,cur,h4,_⟩
     ·exact fin es none 0 z (by rw[Y,h4,h5])
     exact fin es _ cap z (by rw[Y,h4])
    ·rename_i es aw;obtain⟨hL,Y⟩:=J.cZ (by rw[aw];trivial);have R:=I.hp id hL;rw[aw]at R;obtain⟨W,c,h4,_⟩:=aO.qP R;exact fin es W c z (by rw[Y,h4])
    exact z.elim
   exact z.elim
  ·rename_i kt et size bytes zero eq hT;have U:=(hC.jw t _ hT).under;simp only at U;split at z
   case h_2=>exact z.elim
   rename_i id hid;split at z
   case h_2=>exact z.elim
   rename_i mk es N;rw[hid]at J;obtain⟨hL,Y⟩:=J.cZ (by rw[N];trivial);have R:=I.hp id hL;rw[N]at R;obtain⟨g,ms,clock,h1,h2,h3,_⟩:=R;exact aN I hd D z (.p _ _ (.im _)) (by simp[execOp,aL,resolve,invoke,builtin,Y,h1,Builtin.len_,run_underlying U,vY h2,h3,goInt])
  exact z.elim
 exact z.elim
theorem Wk{o:Oper}(c:Call)(O:o.op=.call c)(R:c.callee=.builtin .min):jV A o:=by
 intro V L S rho s a w K next Q hC D U Z J _ I
 obtain⟨callee,args,argTypes⟩:=c;simp only at R;subst R;simp only[cc,O,fc,fZ]at J;split at J
 ·rename_i x y z;have W:=bF D x fun j N=>U j (by simp[O,Op.operands,Call.operands,N];rw[<-N];exact cJ.1 (by rw[z];simp));have Y:=bF D y fun j N=>U j (by simp[O,Op.operands,Call.operands,N];rw[<-N];exact cJ.1 (by rw[z];simp));have e1:args=#[x,y]:=by rw[<-kA (xs:=args),z]
  subst e1;split at J
  ·rename_i k m k' n h1 h2;rw[h1]at W;rw[h2]at Y;exact aN D Z I J (.p _ _ (.im _)) (by
    simp[execOp,O,resolve,invoke,builtin,W.bZ,Y.bZ,Builtin.min_,Builtin.min2];rw[Int.min_def];split<;>split<;>omega)
  exact J.elim
 exact J.elim
theorem Hu{P:Program}{w:World}(k D:IntKind)(m n:Int):(Builtin.max2 (.int k m) (.int D n)).run P w=.ok (.int k (max m n)) w:=by
 simp only[Builtin.max2,fY];rw[Int.max_def];by_cases h:n>m
 ·rw[ae h,ae (by omega)]
 rw[aa h];by_cases z:m<=n
 ·rw[ae z,show m=n by omega]
 rw[aa z]
theorem Wl{o:Oper}(c:Call)(O:o.op=.call c)(hc:c.callee=.builtin .max):jV A o:=by
 intro V L S rho s a w K next Q hC J U hd R _ N
 obtain⟨callee,args,argTypes⟩:=c;simp only at hc;subst hc;simp only[cc,O,fc,fZ]at R;split at R
 ·rename_i x y D;have W:=bF J x fun j I=>U j (by simp[O,Op.operands,Call.operands,I];rw[<-I];exact cJ.1 (by rw[D];simp));have Y:=bF J y fun j I=>U j (by simp[O,Op.operands,Call.operands,I];rw[<-I];exact cJ.1 (by rw[D];simp));have Z:args=#[x,y]:=by rw[<-kA (xs:=args),D]
  subst Z;split at R
  ·rename_i k m k' n h1 h2;rw[h1]at W;rw[h2]at Y;exact aN J hd N R (.p _ _ (.im _)) (by
    simp[execOp,O,resolve,invoke,builtin,W.bZ,Y.bZ,Builtin.max_,Builtin.max2];rw[Int.max_def];split<;>split<;>omega)
  exact R.elim
 ·rename_i x y z D;have W:=bF J x fun j I=>U j (by simp[O,Op.operands,Call.operands,I];rw[<-I];exact cJ.1 (by rw[D];simp));have Y:=bF J y fun j I=>U j (by simp[O,Op.operands,Call.operands,I];rw[<-I];exact cJ.1 (by rw[D];simp));have hz:=bF J z fun j I=>U j (by simp[O,Op.operands,Call.operands,I];rw[<-I];exact cJ.1 (by rw[D];simp));have Z:args=#[x,y,z]:=by rw[<-kA (xs:=args),D]
  subst Z;split at R
  ·rename_i k0 m0 k1 m1 k2 m2 g0 g1 g2;rw[g0]at W;rw[g1]at Y;rw[g2]at hz;exact aN J hd N R (.p _ _ (.im _)) (by
    simp[execOp,O,resolve,invoke,builtin,W.bZ,Y.bZ,hz.bZ,Builtin.max_,Hu])
  exact R.elim
 ·rename_i x y z u v D;have W:=bF J x fun j I=>U j (by simp[O,Op.operands,Call.operands,I];rw[<-I];exact cJ.1 (by rw[D];simp));have Y:=bF J y fun j I=>U j (by simp[O,Op.operands,Call.operands,I];rw[<-I];exact cJ.1 (by rw[D];simp));have hz:=bF J z fun j I=>U j (by simp[O,Op.operands,Call.operands,I];rw[<-I];exact cJ.1 (by rw[D];simp));have hu:=bF J u fun j I=>U j (by simp[O,Op.operands,Call.operands,I];rw[<-I];exact cJ.1 (by rw[D];simp));have hv:=bF J v fun j I=>U j (by simp[O,Op.operands,Call.operands,I];rw[<-I];exact cJ.1 (by rw[D];simp));have Z:args=#[x,y,z,u,v]:=by rw[<-kA (xs:=args),D]
  subst Z;split at R
  ·rename_i k0 m0 k1 m1 k2 m2 k3 m3 k4 m4 g0 g1 g2 g3 g4;rw[g0]at W;rw[g1]at Y;rw[g2]at hz;rw[g3]at hu;rw[g4]at hv;exact aN J hd N R (.p _ _ (.im _)) (by
    simp[execOp,O,resolve,invoke,builtin,W.bZ,Y.bZ,hz.bZ,hu.bZ,hv.bZ,Builtin.max_,Hu])
  exact R.elim
 exact R.elim
variable {V L:Nat->Prop} {rho:Nat->Value} {s:AS}
theorem D9{o:Oper}{S:Nat->Prop}{a:Act}{w:World}{K:KK}{next:Act->World->Prop}{Q:Exit->Act->World->Prop}{fz:List (Nat×AB)}(D:cn A V L S rho ⟨s.t,app s.h fz⟩ a w)(J:∀d,o.dst=some d->d<A.n)
  (z:∀v eff new S' rho' I w',K v eff new->cn A (yy V o.dst) (Br L new (o.dst.getD 0)) S' rho' ⟨fE s.t o.dst v,app s.h eff⟩ I w'->next I w') {x:AV} {v:Value} (N:K x fz none) (O:bu S w A.C.P L rho (app s.h fz) x v)
  (R:(execOp a.eval o).run A.C.P w=.ok (.value v) w):o.wp A.C.P a w next Q:=
 eB R (z _ _ _ _ _ _ _ N (D.value o.dst J x v O))
variable {es:List (List PV)}
theorem aO.Tp{S:Nat->Prop}{w:World}{D:Option Addr}{c l h sz:Nat}(hx:aO S w (.sl es) (.slice D es.length c))(hl:l<=h)(R:h<=es.length)(hc:es.length<=c)
  (hk:∀b off k,D=some ⟨b,off,none⟩->(∀e∈es,e.length=k)->l<h->k=sz):aO S w (.sl ((es.take h).drop l)) (.slice (if c=l then D else D.map (·.add (l*sz))) (h-l) (c-l)):=by
 have hlen:((es.take h).drop l).length=h-l:=by simp;omega
 by_cases I:h-l=0
 ·have:(es.take h).drop l=[]:=cI (by omega);rw[this,I];exact .nil _ _
 obtain⟨ad',c',hv,hle,cO⟩:=hx.qP;injection hv with e1 e2 e3;subst e1 e3;obtain⟨b,off,k,U,hb,W,z⟩:=cO (by intro e;rw[e]at R;simp at R;omega);have Y:=hk b off k U W (by omega);subst U;rw[aa (by omega)];show aO S w _ (.slice (some (Addr.add ⟨b,off,none⟩ (l*sz))) (h-l) (c-l));rw[oX,<-hlen];have Z:∀(i:Nat) e,((es.take h).drop l)[i]?=some e->es[l+i]?=some e:=by
  intro i e hi;rw[gB,dM]at hi;split at hi
  ·exact hi
  cases hi
 refine .sl _ k b (off+l*sz) _ (fun i j=>(w.cell? ⟨b,off+l*sz+i*k+j,none⟩).getD undef) (by rw[hlen];omega) hb (fun e I=>W e (tz (Ay I))) (fun i e j x J N=>?_) fun i e j x J N=>?_
 ·obtain⟨u,O,h4,h5⟩:=z _ e j x (Z i e J) N;have:off+l*sz+i*k+j=off+(l+i)*k+j:=by rw[<-Y,mZ];omega
  rw[this,O];exact⟨rfl,h4⟩
 obtain⟨u,O,h4,h5⟩:=z _ e j x (Z i e J) N;have:off+l*sz+i*k+j=off+(l+i)*k+j:=by rw[<-Y,mZ];omega
 rw[this,O];exact h5
theorem ik{P:Program}{w:World}(k:IntKind)(i:Int)(y:Nat)(z:BoundsCode)(h:0<=i/\i<=y):(Instr.sliceBound (.int k i) y z).run P w=.ok i.toNat w:=by
 simp[Instr.sliceBound,asIntOf,h.1,h.2]
theorem Bx{S:Nat->Prop}{a:Act}{w:World}(_:cn A V L S rho s a w)(lo hi:Option Operand)(Z:∀y,lo=some y->bu S w A.C.P L rho s.h (ev s.t y) (a.eval y))(Ve:∀y,hi=some y->bu S w A.C.P L rho s.h (ev s.t y) (a.eval y)):
  ∀(z:Bool) (len cap:Nat) (k:IntKind) (m:Int) (I:IntKind) (n:Int),len<=cap->(match lo with | some y=>ev s.t y | none=>.p (.im (.int .i64 0)))=.p (.im (.int k m))->(match hi with | some y=>ev s.t y | none=>.p (.im (.int .i64 len)))=.p (.im (.int I n))->0<=m->m<=n->n<=len ->
   (Instr.sliceBounds z len cap (lo.map a.eval) (hi.map a.eval) none).run A.C.P w=.ok (m.toNat,n.toNat,cap) w:=by
  intro z len cap k m I n hlc J R Y h4 h5;have O:∀y,hi=some y->a.eval y=.int I n:=fun y N=>by
   have:=Ve y N;subst N;rw[show ev s.t y=_ from R]at this;exact this.bZ
  have D:∀y,lo=some y->a.eval y=.int k m:=fun y N=>by
   have:=Z y N;subst N;rw[show ev s.t y=_ from J]at this;exact this.bZ
  have nb:((n.toNat:Nat):Int)=n:=by omega
  cases hi with
  | some yh=>
   have O:=O yh rfl;cases lo with
   | some U=>
    have D:=D U rfl;cases z<;>simp[Instr.sliceBounds,D,O,ik I n cap _ ⟨by omega,by omega⟩,ik k m n.toNat _ ⟨Y,by omega⟩]
   | none=>
    have W:m=0:=by simp at J;exact J.2.symm
    subst W;cases z<;>simp[Instr.sliceBounds,O,ik I n cap _ ⟨by omega,by omega⟩]
  | none=>
   have zC:n=len:=by simp at R;exact R.2.symm
   subst zC;cases lo with
   | some U=>
    have D:=D U rfl;cases z<;>simp[Instr.sliceBounds,D,ik k m len _ ⟨Y,by omega⟩]
   | none=>
    have W:m=0:=by simp at J;exact J.2.symm
    subst W;cases z<;>simp[Instr.sliceBounds]
theorem Nx{o:Oper}(t:TypeId)(x:Operand)(lo hi:Option Operand)(R:o.op=.slice t x lo hi none){S:Nat->Prop}{a:Act}{w:World}{K:KK}{next:Act->World->Prop}{Q:Exit->Act->World->Prop}(hC:bP A.C)(I:cn A V L S rho s a w)
  (hV:∀j,(.tmp j)∈o.op.operands->V j) (hd:∀d,o.dst=some d->d<A.n) (z:g_ A.C (ev s.t) s.h t x lo hi K)
  (J:∀v eff new S' rho' a' w',K v eff new->cn A (yy V o.dst) (Br L new (o.dst.getD 0)) S' rho' ⟨fE s.t o.dst v,app s.h eff⟩ a' w'->next a' w'):o.wp A.C.P a w next Q:=by
 simp only[g_]at z;have hx:=bF I x fun j U=>hV j (by simp[R,Op.operands,U]);have Vd:∀y,lo=some y->bu S w A.C.P L rho s.h (ev s.t y) (a.eval y):=fun y hy=>bF I y fun j U=>hV j (by simp[R,Op.operands,U,hy]);have Ve:∀y,hi=some y->bu S w A.C.P L rho s.h (ev s.t y) (a.eval y):=fun y hy=>bF I y fun j U=>hV j (by simp[R,Op.operands,U,hy]);have D:∀(N:Bool) (len cap:Nat) (k:IntKind) (m:Int) (W:IntKind) (n:Int),len<=cap->(match lo with | some y=>ev s.t y | none=>.p (.im (.int .i64 0)))=.p (.im (.int k m))->(match hi with | some y=>ev s.t y | none=>.p (.im (.int .i64 len)))=.p (.im (.int W n))->0<=m->m<=n->n<=len ->
   (Instr.sliceBounds N len cap (lo.map a.eval) (hi.map a.eval) none).run A.C.P w=.ok (m.toNat,n.toNat,cap) w:=by
  exact Bx I lo hi Vd Ve
 split at z
 ·rename_i size bytes zero eq hT;have Y:=(hC.jw t _ hT).under;simp only at Y;split at z
  ·rename_i st wh;rw[wh]at hx;split at z
   ·rename_i k m W n h1 h2;obtain⟨⟨h3,h4,h5⟩,z⟩:=z;have hb:=D false st.size st.size k m W n (aG _) h1 h2 h3 h4 h5;exact aN I hd J z (.p _ _ (.im _)) (by simp[execOp,R,Instr.sliceAt,Instr.slice,hx.bZ,run_underlying Y,hb])
   exact z.elim
  exact z.elim
 ·rename_i e size bytes zero eq hT;have Y:=(hC.jw t _ hT).under;simp only at Y;split at z
  ·exact z.elim
  rename_i te yA;obtain⟨ie,ze,r_,Dv,_⟩:=(hC.jw e te yA).info;obtain⟨y,fz,S2,z,bH,O,AJ,hF,Hs⟩:=jA hC I (su.refl s.h) hx z;split at z
  ·rename_i es;split at z
   ·rename_i k m W n h1 h2;obtain⟨⟨h3,h4,h5,h6⟩,z⟩:=z;obtain⟨ad,c,hv,Z,_⟩:=O.qP;have hb:=D true es.length c k m W n Z h1 h2 h3 h4 h5;rw[hv]at O;refine D9 bH hd J z (.p _ _ (O.Tp (sz:=te.size) (l:=m.toNat) (h:=n.toNat) (by omega) (by omega) Z fun b off kk hk1 oQ eX=>?_)) ?_
    ·have hpos:0<es.length:=by omega
     have hm:es[0]∈es:=o5 _;rw[<-oQ _ hm,h6 _ hm]
    simp[execOp,R,Instr.sliceAt,Instr.slice,hv,run_underlying Y,hb,Go.sizeOf,typeInfo,r_,Dv]
   exact z.elim
  exact z.elim
 exact z.elim
structure Flat(S:Nat->Prop)(w:World)(k:Nat)(es:List (List PV))(xs:List Value):Prop where
 len:xs.length=es.length*k
 row:∀r∈es,r.length=k
 one:∀u∈xs,u.oneCell'=true
 rep:∀(i:Nat) r (j:Nat) x,es[i]?=some r->r[j]?=some x->∃u,xs[i*k+j]?=some u/\aO S w x u
variable {k:Nat}
theorem Flat.mono{S S':Nat->Prop}{w w':World}{xs:List Value}(h:Flat S w k es xs)(hS:∀b,S b->S' b)(z:∀b,S b->w'.heap[b]?=w.heap[b]?):Flat S' w' k es xs:=
 ⟨h.len,h.row,h.one,fun i r j x D I=>by obtain⟨u,J,N⟩:=h.rep i r j x D I;exact⟨u,J,N.mono hS z⟩⟩
theorem Flat.app{S:Nat->Prop}{w:World}{fs:List (List PV)}{xs ys:List Value}(h:Flat S w k es xs)(g:Flat S w k fs ys):Flat S w k (es++fs) (xs++ys):=by
 refine⟨by rw[bJ,bJ,h.len,g.len,mZ],fun r N=>(b_.1 N).elim (h.row r) (g.row r),fun u O=>(b_.1 O).elim (h.one u) (g.one u),fun i r j x D J=>?_⟩;by_cases hi:i<es.length
 ·rw[dN hi]at D;obtain⟨u,z,I⟩:=h.rep i r j x D J;exact⟨u,by rw[dN (aC z)];exact z,I⟩
 rw[du (by omega)]at D;obtain⟨u,z,I⟩:=g.rep _ r j x D J;refine⟨u,?_,I⟩;have hm:es.length*k<=i*k:=cq _ (by omega);rw[du (by rw[h.len];omega),h.len];rw[Nat.sub_mul]at z;rw[<-z];congr 1;omega
theorem Flat.set{S:Nat->Prop}{w:World}{xs:List Value}(h:Flat S w k es xs)(i:Nat)(hi:i<es.length)(ys:List PV)(vs:List Value)(R:ys.length=k)(U:vs.length=k)(W:∀u∈vs,u.oneCell'=true)(I:∀(j:Nat) y u,ys[j]?=some y->vs[j]?=some u->aO S w y u):
  Flat S w k (es.set i ys) (setCells xs (i*k) vs):=by
 have hb:i*k+k<=xs.length:=by rw[h.len,<-dO];exact cq _ hi
 have O:=fun j=>eJ vs xs (i*k) j (by rw[U];exact hb);refine⟨by rw[dh,aQ,h.len],fun r I=>?_,fun u Y=>?_,fun a r j x D z=>?_⟩
 ·rcases m_ I with h' | h'
  ·exact h.row r h'
  rw[h'];exact R
 ·obtain⟨j,z⟩:=ca.1 Y;rw[O]at z;split at z
  ·exact W u (aj z)
  exact h.one u (aj z)
 have yp:=aC z;rw[O];by_cases J:a=i
 ·subst J;rw[dZ hi]at D;injection D with D;subst D;rw[ae (by omega),show a*k+j-a*k=j by omega];have:j<vs.length:=by omega
  exact⟨_,aW this,I j x _ z (aW this)⟩
 rw[gC (fun e=>J e.symm)]at D;have Ah:=h.row r (aj D);rw[aa]
 ·exact h.rep a r j x D z
 rintro⟨h2,h3⟩;rcases AA J with N | N
 ·have:=cq k (jM N);rw[dO]at this;omega
 have:=cq k (jM N);rw[dO]at this;omega
theorem Flat.zero(I:Bool)(S:Nat->Prop)(w:World){P:Program}{t:TypeId}{ti:TI}(h:qc P t ti)(hk:0<ti.size)(n:Nat):Flat S w ti.size (List.replicate n (ti.zero.map (X_ I))) ((Array.range (n*ti.size)).map (ti.zero.toArray[· % ti.zero.toArray.size]!)).toList:=by
 have D:=h.PL;obtain⟨_,_,_,_,_,_,_,R⟩:=h.info;have O:∀j,j<n*ti.size->((Array.range (n*ti.size)).map (ti.zero.toArray[· % ti.zero.toArray.size]!)).toList[j]?=ti.zero[j % ti.size]?:=by
  intro j z;have U:j % ti.size<ti.zero.length:=by rw[D];exact na _ hk
  simp[z,D];rw[aW U];rfl
 refine⟨by simp,fun r J=>by rw[LM J,au,D],fun u W=>?_,fun i r j x hi z=>?_⟩
 ·obtain⟨j,z⟩:=ca.1 W;have N:=aC z;rw[O j (by simpa using N)]at z;exact R u (aj z)
 have Y:i<n:=by have:=aC hi;simpa using this
 have J:r=ti.zero.map (X_ I):=LM (aj hi);subst J;have N:j<ti.size:=by have:=aC z;rw[au,D]at this;exact this
 rw[aD]at z;obtain⟨v,Z,rfl⟩:=aV.1 z;have hb:i*ti.size+j<n*ti.size:=by
  have:=cq ti.size (jM Y);rw[dO]at this;omega
 refine⟨v,?_,LX I S w v⟩;rw[O _ hb,Nat.mul_comm,Nat.mul_add_mod,E5 N];exact Z
variable {e:TypeId}
theorem aH.of_flat{P:Program}{S:Nat->Prop}{w:World}{i:TypeInfo}{v:Value}{xs:List Value}(hi:P.info? e=some i)(hk:0<i.size)(D:w.ownsRow 0 e i.size v es.length xs)(z:Flat S w i.size es xs):aH P w (aO S w) e es v:=
 ⟨i,xs,hi,hk,D,z.row,z.one,z.rep⟩
theorem aH.flat{P:Program}{S:Nat->Prop}{w:World}{i:TypeInfo}{v:Value}(hi:P.info? e=some i)(h:aH P w (aO S w) e es v):∃xs,0<i.size/\w.ownsRow 0 e i.size v es.length xs/\Flat S w i.size es xs:=by
 obtain⟨i',xs,z,I,D,J,N,O⟩:=h;rw[hi]at z;injection z with z;subst z;exact⟨xs,I,D,⟨D.1,J,N,O⟩⟩
theorem aO.flat{S:Nat->Prop}{w:World}{v:Value}(hx:aO S w (.sl es) v)(hk:∀r∈es,r.length=k):∃U c xs,v=.slice U es.length c/\Flat S w k es xs/\(es≠[]->∃b off,U=some ⟨b,off,none⟩/\∀(j:Nat) u,xs[j]?=some u->w.cell? ⟨b,off+j,none⟩=some u):=by
 obtain⟨U,c,Z,hle,cO⟩:=hx.qP;by_cases W:es=[]
 ·subst W;exact⟨U,c,[],Z,⟨by simp,by simp,by simp,by simp⟩,fun h=>absurd rfl h⟩
 obtain⟨b,off,z,rfl,hb,JW,D⟩:=cO W;have Wm:z=k:=by
  obtain⟨r,Y⟩:=AD _ W;rw[<-JW r Y,hk r Y]
 subst Wm;have key:∀q,q<es.length*z->∃u,w.cell? ⟨b,off+q,none⟩=some u/\u.oneCell'=true:=by
  intro q N;have L4:0<z:=Nat.pos_of_ne_zero fun h=>by rw[h]at N;simp at N
  have hi:q / z < es.length:=(Nat.div_lt_iff_lt_mul L4).2 N;have O:q % z < z:=na _ L4;have Y:=hk _ (o5 hi);obtain⟨u,I,J,_⟩:=D (q / z) _ (q % z) _ (aW hi) (aW (by omega));refine⟨u,?_,J⟩;rw[<-I];congr 2;have:=Nat.div_add_mod q z;rw[Nat.mul_comm]at this;omega
 refine⟨_,c,(List.range (es.length*z)).map fun q=>(w.cell? ⟨b,off+q,none⟩).getD undef,Z,⟨by simp,hk,fun u hu=>?_,fun i r j x I J=>?_⟩,fun _=>⟨b,off,rfl,fun j u O=>?_⟩⟩
 ·simp at hu;obtain⟨q,N,rfl⟩:=hu;obtain⟨u,I,J⟩:=key q N;rw[I];exact J
 ·obtain⟨u,h3,h4,h5⟩:=D i r j x I J;refine⟨u,?_,h5⟩;have zD:=aC I;have R:=aC J;rw[hk r (aj I)]at R;have Aj:i*z+j<es.length*z:=by
   have:=cq z (jM zD);rw[dO]at this;omega
  rw[aD,fX Aj];simp only[fB];rw[<-lR,h3];rfl
 have R:=aC O;simp at R;rw[aD,fX R]at O;obtain⟨u',I,_⟩:=key j R;simp[I]at O;rw[I,O]
def Src(S:Nat->Prop)(w:World)(es:List (List PV))(v:Value):Prop:=
 ∀k,(∀r∈es,r.length=k)->∃ad c xs,v=.slice ad es.length c/\Flat S w k es xs/\(es≠[]->∃b off,ad=some ⟨b,off,none⟩/\∀(j:Nat) u,xs[j]?=some u->w.cell? ⟨b,off+j,none⟩=some u)
theorem aH.src{P:Program}{S:Nat->Prop}{w:World}{v:Value}(h:aH P w (aO S w) e es v):Src S w es v:=by
 intro k hk;obtain⟨i,xs,h1,h2,z,J,R,U⟩:=h;by_cases D:es=[]
 ·subst D;rcases z.2 with⟨rfl,_⟩ | ⟨g,cap,I,rfl,_⟩
  ·exact⟨none,0,[],rfl,⟨by simp,by simp,by simp,by simp⟩,fun h=>absurd rfl h⟩
  exact⟨_,cap,[],rfl,⟨by simp,by simp,by simp,by simp⟩,fun h=>absurd rfl h⟩
 have W:k=i.size:=by
  obtain⟨r,N⟩:=AD _ D;rw[<-hk r N,J r N]
 subst W;rcases z.2 with⟨_,Y⟩ | ⟨g,cap,I,O,_⟩
 ·exact absurd (cI Y) D
 refine⟨_,cap,xs,O,⟨z.1,J,R,U⟩,fun _=>⟨g,0,rfl,fun j u Z=>?_⟩⟩;have:=z.cells (g:=g) (by rw[O];rfl) j u Z;rw[oX]at this;exact this
theorem JX{S:Nat->Prop}{a:Act}{w:World}(D:cn A V L S rho s a w){x:AV}{v:Value}(J:bu S w A.C.P L rho s.h x v){K:List (List PV)->Prop}(z:iE s.h x K):∃es,K es/\Src S w es v:=by
 unfold iE at z;split at z
 ·exact⟨_,z,fun k hk=>J.eY.flat hk⟩
 ·have:v=.slice none 0 0:=by cases J;rfl
  exact⟨[],z,fun k hk=>⟨none,0,[],this,⟨by simp,by simp,by simp,by simp⟩,fun h=>absurd rfl h⟩⟩
 ·rename_i id;split at z
  ·rename_i e es aw;obtain⟨N,O⟩:=J.cZ (by rw[aw];trivial);have I:=D.hp id N;rw[aw]at I;exact⟨es,z,by rw[O];exact aH.src I⟩
  ·rename_i es aw;obtain⟨N,O⟩:=J.cZ (by rw[aw];trivial);have I:=D.hp id N;rw[aw]at I;exact⟨es,z,by rw[O];exact fun k hk=>aO.flat I hk⟩
  exact z.elim
 exact z.elim
theorem uW{P:Program}(w:World)(t U e:TypeId)(i:TypeInfo)(z:Value)(O:P.underlying t=some (.slice e))(hi:P.info? e=some i)(hz:i.zero=some z)(hzs:z.cells.size=i.size)(hsz:0<i.size)
  (v:Value) (n:Nat) (xs:List Value) (hown:w.ownsRow 0 e i.size v n xs) (Y:Option Addr) (m c:Nat) (D:List Value) (hl:D.length=m*i.size)
  (J:m≠0->∃b off,Y=some ⟨b,off,none⟩/\∀(j:Nat) u,D[j]?=some u->w.cell? ⟨b,off+j,none⟩=some u) (h1:∀u∈D,u.oneCell'=true) (W:n+m<=maxLen) (JY:(n+m)*i.bytes<=140737488355328):
  ∃R w',(Builtin.append_ #[t,t] U #[v,.slice Y m c]).run P w=.ok R w'/\w'.ownsRow 0 e i.size R (n+m) (xs++D)/\w.grownBy w' v.ownBlock/\(R.ownBlock=v.ownBlock\/R.ownBlock=some w.heap.size):=by
 by_cases hm:m=0
 ·subst hm;have hn:D=[]:=cI (by simpa using hl);subst hn;refine⟨v,w,?_,by simpa using hown,⟨rfl,rfl,rfl,aG _,fun _ _ _=>rfl⟩,.inl rfl⟩;have hf:(Builtin.firstCells i.size 0 (.slice Y 0 c)).run P w=.ok #[] w:=by cases Y<;>simp[Builtin.firstCells,loadCells,loadCellsFrom]
  rcases hown.2 with⟨rfl,rfl⟩ | ⟨g,cap,N,rfl,_,_,Yf,_⟩
  ·simp[Builtin.append_,run_underlying O,sizeOf,typeInfo,hi,Builtin.lenOf,hf]
  simp[Builtin.append_,run_underlying O,sizeOf,typeInfo,hi,Builtin.lenOf,Yf,hf,storeCells]
 obtain⟨b,off,rfl,hc⟩:=J hm;have Z:∀(j:Nat) u,D[j]?=some u->w.cell? ((⟨b,off,none⟩:Addr).add j)=some u:=fun j u hj=>by rw[oX];exact hc j u hj
 obtain⟨R,w',hr,h2,h3,_⟩:=run_append_own (P:=P) w 0 t U e i z i.size i.bytes O hi hz rfl rfl hzs hsz v n xs hown ⟨b,off,none⟩ m c D hl Z h1 W JY (ak _);refine⟨R,w',hr,h2,h3,?_⟩;have abv:n+m<=9223372036854775807:=by simp only[maxLen]at W;omega
 rcases hown.2 with⟨rfl,rfl⟩ | ⟨g,cap,N,rfl,_,hg,Yf,hcm,nP,adx⟩
 ·have I:=run_append_nil (P:=P) w t U e i z O hi hz ⟨b,off,none⟩ m c D hl Z (by omega) (by omega) (by have hb:=JY;simp only[bp]at hb;omega);rw[hr]at I;injection I with I;rw[I];exact .inr rfl
 by_cases Vf:n+m<=cap
 ·have abw:n*i.size+D.length<=N.size:=by rw[hl,nP,<-mZ];exact cq _ Vf
  have I:=run_append_room (P:=P) w t U e i O hi g n cap N hg ⟨b,off,none⟩ m c D hl Z h1 Vf abw;rw[hr]at I;injection I with I;rw[I];exact .inl rfl
 have I:=run_append_grow (P:=P) w t U e i z O hi hz ⟨g,0,none⟩ n cap xs hown.1 (hown.cells (g:=g) rfl) ⟨b,off,none⟩ m c D hl Z (by omega) (by omega) (growslice_fits (by omega) JY);rw[hr]at I;injection I with I;rw[I];exact .inr rfl
theorem fG{v:Value}{a:Option Addr}{n c:Nat}(h:v=.slice a n c):v.ownBlock=cF v:=by
 subst h;cases a<;>rfl
theorem dQ{w:World}{base:Nat}{size:Nat}{v:Value}{n:Nat}{xs:List Value}(h:w.ownsRow base e size v n xs):∃a c,v=.slice a n c:=by
 rcases h.2 with⟨rfl,rfl⟩ | ⟨g,cap,cur,rfl,_⟩
 ·exact⟨none,0,rfl⟩
 exact⟨_,cap,rfl⟩
theorem tE{w:World}{es:List (List HX)}{v:Value}{Z:List Value}(hown:w.ownsRow 0 e k v es.length Z)(hk:∀r∈es,r.length=k){g:Nat}(O:cF v=some g){a j:Nat}{u:Value}:
  dT w es g a j u↔∃r e' J,es[a]?=some r/\r[j]?=some (.row e' J)/\Z[a*k+j]?=some u:=by
 rcases hown.2 with⟨hn,_⟩ | ⟨g',cap,R,hv,_,Hc,k1,k2,k3,k4⟩
 ·rw[hn]at O;cases O
 rw[hv]at O;obtain rfl:=jY.1 O;have N:∀{r:List HX} {x:HX},es[a]?=some r->r[j]?=some x->r.length=k/\a*k+j<es.length*k:=fun {r x} D I=>by
  have hr:=hk r (aj D);have z:=aC D;have U:=aC I;have:=cq k (jM z);rw[dO]at this;exact⟨hr,by omega⟩
 constructor
 ·rintro⟨r,e',J,c,ty,m,D,I,z,U⟩;rw[Hc]at z;injection z with z;injection z with z;subst z;obtain⟨W,Y⟩:=N D I;refine⟨r,e',J,D,I,?_⟩;rw[<-k4,oZ Y];rw[W]at U;simpa using U
 rintro⟨r,e',J,D,I,z⟩;obtain⟨W,Y⟩:=N D I;refine⟨r,e',J,R,_,_,D,I,Hc,?_⟩;rw[<-k4,oZ Y]at z;rw[W];simpa using z
theorem cn.abx{S:Nat->Prop}{a:Act}{w:World}(J:cn A V L S rho s a w)(hC:bP A.C){id d:Nat}(oc:L id){xs:List (List HX)}(aw:s.h id=.aw e xs){ys:List (List PV)}{Y:TypeInfo}(r_:A.C.P.info? e=some Y)
  (hdb:d<100000) (hL:¬L d) (hb:s.h d=.aw e (xs++ys.map uN)) {N:List Value} (P0:Flat S w Y.size ys N) {v':Value} {w':World} {ws:List Value} (hown:w.ownsRow 0 e Y.size (rho id) xs.length ws) (h2:w'.ownsRow 0 e Y.size v' (xs.length+ys.length) (ws++N)) (h3:w.grownBy w' (cF (rho id))) (h4:cF v'=cF (rho id)\/cF v'=some w.heap.size):
  cn A V (fun i=>L i\/i=d) S (bd rho d v') ⟨s.t,bd s.h id .none⟩ a w':=by
 have bY:(s.h id).live:=by rw[aw];trivial
 have Wn:id≠d:=fun e=>hL (e▸oc);have hh:=J.hp id oc;rw[aw]at hh;obtain⟨hR,hS⟩:=hh;have hR2:=hS.PU hR;obtain⟨i0,YI,k1,k2,k3,k4,k5,k6⟩:=hR2;rw[r_]at k1;injection k1 with k1;subst k1;have hws:YI=ws:=by
  rcases k3.2 with⟨D,U⟩ | ⟨g,cap,cur,D,_,W,q4,q5,q6,q7⟩
  ·have a1:YI=[]:=cI (by rw[k3.1,U];simp);have a2:ws=[]:=cI (by rw[hown.1,U];simp);rw[a1,a2]
  rcases hown.2 with⟨r1,_⟩ | ⟨g',aeF,We,r1,_,r3,r4,r5,r6,r7⟩
  ·rw[r1]at D;cases D
  rw[r1]at D;injection D with D;injection D with D;injection D with D;subst D;rw[W]at r3;injection r3 with r3;injection r3 with r3;subst r3;rw[<-q7,<-r7]
 subst hws;have Wo:∀r∈ys.map uN,r.length=Y.size:=fun r hr=>by
  obtain⟨q,hq,rfl⟩:=aZ.1 hr;rw[uN,au];exact P0.row q hq
 have L5:∀r∈xs++ys.map uN,r.length=Y.size:=fun r hr=>(b_.1 hr).elim (k4 r) (Wo r);have Vg:w'.ownsRow 0 e Y.size v' (xs++ys.map uN).length (YI++N):=by rw[bJ,au];exact h2
 have YJ:YI.length=xs.length*Y.size:=k3.1;have gU:∀g' k j u,cF v'=some g'->dT w' (xs++ys.map uN) g' k j u->∃g,cF (rho id)=some g/\dT w xs g k j u:=fun g' k j u qG hc=>by
  obtain⟨r,e',uV,D,U,W⟩:=(tE Vg L5 qG).1 hc;by_cases hk:k<xs.length
  ·rw[dN hk]at D;have yp:=aC U;have Ah:=k4 r (aj D);have:=cq Y.size (jM hk);rw[dO]at this;rw[dN (by omega)]at W;obtain⟨g,u2,O,g2,_⟩:=hR.Hl D U;refine⟨g,O,(tE k3 k4 O).2 ⟨r,e',uV,D,U,W⟩⟩
  rw[du (by omega),aD]at D;obtain⟨q,_,rfl⟩:=aV.1 D;rw[uN,aD]at U;obtain⟨z,_,hz⟩:=aV.1 U;cases hz
 have Wp:∀g k j u b,cF (rho id)=some g->dT w xs g k j u->cF u=some b->hasB w (s.h id) (rho id) b:=fun g k j u b h1 h5 h6=>by rw[aw];exact .inr (.inr ⟨_,_,_,_,_,_,rfl,h1,h5,h6⟩)
 have T0:ng S S w w L L rho rho s.h (bd s.h id .none):=⟨fun _ h=>h,fun _ _=>rfl,fun j R=>⟨by
   rcases br s.h id .none j with⟨rfl,h⟩ | ⟨_,h⟩
   ·rw[h]at R;exact R.elim
   ·rw[h]at R;exact R,fun h=>⟨h,rfl⟩⟩,fun j e' R=>by
   rcases br s.h id .none j with⟨rfl,h⟩ | ⟨_,h⟩
   ·rw[h]at R;cases R
   rw[h]at R;exact R⟩
 have Vh:∀k,k<w.heap.size->cF (rho id)≠some k->w'.heap[k]?=w.heap[k]?:=fun k hk hn=>h3.block k hk fun e=>hn e.symm;refine (J.kill id).sD hC d (.aw e (xs++ys.map uN)) hdb hL (by show bd s.h id .none d=_;rw[bg _ _ Wn.symm];exact hb) w' h3.os h3.tape h3.output h3.size (fun k=>hasB w (s.h id) (rho id) k) (fun k hk hn=>Vh k hk fun h=>hn (.inl h)) (fun k hk=>?_) v' (fun g I=>?_) (fun T=>?_)
 ·obtain⟨D,U,W⟩:=J.lv id k oc bY hk;refine⟨U,fun i hi li fU=>?_,W⟩;have qa:(bd s.h id .none i).live:=li;rcases br s.h id .none i with⟨rfl,h⟩ | ⟨cO,h⟩
  ·rw[h]at qa;exact qa.elim
  rw[h]at qa;exact cO (J.dj i id k hi oc qa bY (fF cO fU) hk)
 ·rcases I with I | ⟨cs,g',h,_⟩ | ⟨e',dv,g',k',j,u,D,U,W,q4⟩
  ·obtain⟨a1,c1,Ny⟩:=dQ h2;refine⟨(h2.lt g (by rw[fG Ny];exact I)).2,?_⟩;rcases h4 with h | h
   ·exact .inr (.inl (h▸I))
   rw[h]at I;injection I with I;exact .inl (by omega)
  ·cases h
  injection D with D q1';subst D q1';obtain⟨g0,O,g2⟩:=gU _ _ _ _ U W;have Nz:=Wp _ _ _ _ _ O g2 q4;exact⟨cB (J.lv id g oc bY Nz).1 h3.size,.inr Nz⟩
 show aH _ _ _ _ _ (bd rho d v' d)/\yt _ _ (bd rho d v' d);rw[aF];refine⟨⟨Y,YI++N,r_,k2,Vg,L5,fun u hu=>(b_.1 hu).elim (k5 u) (P0.one u),fun p r j x hp R=>?_⟩,fun g k j u b I hc Z=>?_,fun g k j k' j' u u' b I hc Yh Wq Aj=>?_⟩
 ·by_cases hk:p<xs.length
  ·rw[dN hk]at hp;obtain⟨u,hu,Du,abz⟩:=k6 p r j x hp R;refine⟨u,by rw[dN (aC hu)];exact hu,?_⟩;cases x with
   | av x=>exact bu.de T (bu.de T0 Du)
   | row e' uV=>
    refine aH.de (show aH _ _ _ _ _ _ from Du) (fun b Z=>Vh b ?_ fun h=>abz _ _ rfl b b h Z rfl) (fun x u hu=>hu.mono T.hS T.keep);obtain⟨g,u2,O,g2,_⟩:=hR.Hl hp R;have:u2=u:=by
     obtain⟨r',_,_,D,U,W⟩:=(tE k3 k4 O).1 g2;rw[hu]at W;injection W with W;exact W.symm
    subst this;exact (J.lv id b oc bY (Wp _ _ _ _ _ O g2 Z)).1
  rw[du (by omega),aD]at hp;obtain⟨q,hq,rfl⟩:=aV.1 hp;rw[uN,aD]at R;obtain⟨z,hz,rfl⟩:=aV.1 R;obtain⟨u,hu,Du⟩:=P0.rep _ _ _ _ hq hz;refine⟨u,?_,AG (Du.mono T.hS T.keep)⟩;have hm:xs.length*Y.size<=p*Y.size:=cq _ (by omega);rw[du (by rw[YJ];omega),YJ];rw[Nat.sub_mul]at hu;rw[<-hu];congr 1;omega
 ·obtain⟨g0,O,g2⟩:=gU _ _ _ _ I hc;rcases h4 with h | h
  ·rw[h,O]at I;injection I with I;subst I;exact hS.top _ _ _ _ _ O g2 Z
  rw[h]at I;injection I with I;have:=(J.lv id b oc bY (Wp _ _ _ _ _ O g2 Z)).1;omega
 obtain⟨g0,O,g2⟩:=gU _ _ _ _ I hc;obtain⟨g0',SX,g2'⟩:=gU _ _ _ _ I Yh;rw[O]at SX;injection SX with SX;subst SX;exact hS.dis _ _ _ _ _ _ _ _ O g2 g2' Wq Aj
theorem NA{o:Oper}(c:Call)(aL:o.op=.call c)(hc:c.callee=.builtin .append):jV A o:=by
 intro V L S rho s a w K next Q hC D hV hd z hn J
 obtain⟨callee,args,argTypes⟩:=c;simp only at hc;subst hc;simp only[cc,aL,fc,fZ]at z;split at z
 ·rename_i x y t t' N PZ;have hx:=bF D x fun j hj=>hV j (by simp[aL,Op.operands,Call.operands,hj];rw[<-hj];exact cJ.1 (by rw[N];simp));have hy:=bF D y fun j hj=>hV j (by simp[aL,Op.operands,Call.operands,hj];rw[<-hj];exact cJ.1 (by rw[N];simp));have e1:args=#[x,y]:=by rw[<-kA (xs:=args),N]
  have e2:argTypes=#[t,t']:=by rw[<-kA (xs:=argTypes),PZ]
  subst e1 e2;split at z
  ·rename_i e size bytes zero eq htt hT;have htt:=jn htt;subst htt;have gj:=(hC.jw t _ hT).under;simp only at gj;split at z
   ·rename_i te yA;obtain⟨ie,ze,r_,Dv,Pv,Tq,Tr,kE⟩:=(hC.jw e te yA).info;have hzl:=(hC.jw e te yA).PL;split at z
    ·rename_i I;have I:0<ie.size:=by rw[Dv];exact jK I
     obtain⟨ys,z,YK⟩:=JX D hy z;have main:∀(xs:List (List PV)) (v:Value) (ws:List Value) (s2:AS),a.eval x=v->w.ownsRow 0 e ie.size v xs.length ws->Flat S w ie.size xs ws->(∀r∈ys,r.length=te.size)->(xs.length+ys.length)*te.bytes<=140737488355328->xs.length+ys.length<=140737488355328 ->
       cn A V L S rho s2 a w->(∀g,cF v=some g->¬S g/\(∀i,L i->(s2.h i).live->¬hasB w (s2.h i) (rho i) g)/\(A.mv g\/A.w0.heap.size<=g))->¬L (o.dst.getD 0)->s2.h (o.dst.getD 0)=.row e (xs++ys)->
       ∃Y w' rho',(execOp a.eval o).run A.C.P w=.ok (.value Y) w'/\cn A V (fun i=>L i\/i=o.dst.getD 0) S rho' s2 a w'/\Y=rho' (o.dst.getD 0):=by
      intro xs v ws s2 hv hown zE hlen Wq Aj bH hR hL hb;obtain⟨ad,c',R,hyv,P0,O⟩:=YK ie.size (fun r U=>by rw[hlen r U,Dv]);obtain⟨Y,w',U,h2,W,h4⟩:=uW (P:=A.C.P) w t o.type e ie ze gj r_ Tq (by rw[Tr];simp[hzl,Dv]) I v xs.length ws hown ad ys.length c' R P0.len
       (fun h0=>O (fun e=>h0 (by rw[e];rfl))) P0.one (by simp only[maxLen];omega) (by rw[Pv];exact Wq)
      obtain⟨a0,c0,YL⟩:=dQ hown;obtain⟨a1,c1,Ny⟩:=dQ h2;rw[fG YL]at W h4;rw[fG Ny]at h4;refine⟨Y,w',bd rho (o.dst.getD 0) Y,by simp[execOp,aL,resolve,invoke,builtin,hv,hyv,U],?_,(aF _ _ _).symm⟩;refine bH.new hC (o.dst.getD 0) _ (bH.sa hd) hL hb w' W.os W.tape W.output W.size (fun k=>cF v=some k) (fun k hk YM=>W.block k hk (fun e=>YM e.symm)) (fun k hk=>hR k hk) Y (fun g Z=>?_) (fun T=>?_)
      ·refine⟨(h2.lt g (by rw[fG Ny];exact Z)).2,?_⟩;rcases h4 with h | h
       ·exact .inr (h▸Z)
       rw[h]at Z;injection Z with Z;exact .inl (by omega)
      show aH A.C.P w' (aO S w') e (xs++ys) (bd rho (o.dst.getD 0) Y (o.dst.getD 0));rw[aF];exact aH.of_flat r_ I (by rw[bJ];exact h2) ((zE.app P0).mono T.hS T.keep)
     split at z
     ·rename_i Wh;rw[Wh]at hx;have hv:a.eval x=.slice none 0 0:=by cases h:a.eval x<;>rw[h]at hx<;>cases hx;rfl
      obtain⟨⟨h1,h2,W⟩,z⟩:=z;obtain⟨hL,hb⟩:=hn _ _ _ z;obtain⟨Y,w',rho',U,bH,JS⟩:=main [] _ [] s hv ⟨by simp,.inl ⟨rfl,rfl⟩⟩ ⟨by simp,by simp,by simp,by simp⟩ h1 (by simpa using h2) (by simpa using W) D (fun g Z=>by simp[cF]at Z) hL (by simpa using hb);exact eB U (J _ _ _ S rho' _ _ z (bH.value o.dst hd _ _ (.ow _ _ fun _=>⟨.inr rfl,JS⟩)))
     ·rename_i id Wh;rw[Wh]at hx;split at z
      ·rename_i e' xs aw;split at z
       ·rename_i Ai;have Ai:=jn Ai;subst Ai;obtain⟨⟨h1,h2,W⟩,z⟩:=z;obtain⟨hL,hb⟩:=hn _ _ _ z;obtain⟨oc,hv⟩:=hx.cZ (by rw[aw];trivial);have hh:=D.hp id oc;rw[aw]at hh;obtain⟨ws,_,hown,zE⟩:=aH.flat r_ hh;have Wn:id≠o.dst.getD 0:=fun e=>hL (e▸oc);have bY:(s.h id).live:=by rw[aw];trivial
        obtain⟨Y,w',rho',U,bH,JS⟩:=main xs _ ws ⟨s.t,bd s.h id .none⟩ hv hown zE h1 h2 W (D.kill id) (fun g Z=>by
          obtain⟨k1,k2,k3⟩:=D.qd id g oc bY Z;refine⟨k2,fun i hi li fU=>?_,k3⟩;have qa:(bd s.h id .none i).live:=li;rcases br s.h id .none i with⟨rfl,h⟩ | ⟨cO,h⟩
          ·rw[h]at qa;exact qa.elim
          rw[h]at qa;exact cO (D.dj i id g hi oc qa bY (fF cO fU) (.inl Z))) hL (by show bd s.h id .none (o.dst.getD 0)=_;rw[bg _ _ Wn.symm];exact hb)
        exact eB U (J _ _ _ S rho' _ _ z (bH.value o.dst hd _ _ (.ow _ _ fun _=>⟨.inr rfl,JS⟩)))
       exact z.elim
      ·rename_i e' xs aw;split at z
       ·rename_i Ai;have Ai:=jn Ai;subst Ai;obtain⟨⟨h1,h2,W⟩,z⟩:=z;obtain⟨hL,hb⟩:=hn _ _ _ z;obtain⟨oc,hv⟩:=hx.cZ (by rw[aw];trivial);have hh:=D.hp id oc;rw[aw]at hh;obtain⟨⟨i0,ws,Wr,_,hown,_⟩,_⟩:=hh;rw[r_]at Wr;injection Wr with Wr;subst Wr;obtain⟨ad,c',R,hyv,P0,O⟩:=YK ie.size (fun r U=>by rw[h1 r U,Dv]);obtain⟨Y,w',U,q2,q3,q4⟩:=uW (P:=A.C.P) w t o.type e' ie ze gj r_ Tq (by rw[Tr];simp[hzl,Dv]) I (rho id) xs.length ws hown ad ys.length c' R P0.len
         (fun h0=>O (fun e=>h0 (by rw[e];rfl))) P0.one (by simp only[maxLen];omega) (by rw[Pv];exact h2)
        obtain⟨a0,c0,YL⟩:=dQ hown;obtain⟨a1,c1,Ny⟩:=dQ q2;rw[fG YL]at q3 q4;rw[fG Ny]at q4;have bH:=D.abx hC oc aw r_ (D.sa hd) hL hb P0 hown q2 q3 q4;exact eB (by simp[execOp,aL,resolve,invoke,builtin,hv,hyv,U]) (J _ _ _ S _ _ _ z (bH.value o.dst hd _ _ (.ow _ _ fun _=>⟨.inr rfl,(aF _ _ _).symm⟩)))
       exact z.elim
      exact z.elim
     exact z.elim
    exact z.elim
   exact z.elim
  exact z.elim
 exact z.elim
theorem Fj{o:Oper}(t:TypeId)(x y:Operand)(U:o.op=.makeSlice t x y):jV A o:=by
 intro V L S rho s a w K next Q hC J hV hd z hn O
 simp only[cc,U]at z;have hx:=bF J x fun j N=>hV j (by simp[U,Op.operands,N]);have hy:=bF J y fun j N=>hV j (by simp[U,Op.operands,N]);split at z
 ·rename_i e size bytes zero eq k n k' c hT h1 h2;have gj:=(hC.jw t _ hT).under;simp only at gj;rw[h1]at hx;rw[h2]at hy;split at z
  ·rename_i D yA;obtain⟨R,Y,r_,Z,Pv,Tq,Tr,kE⟩:=(hC.jw e D yA).info;have hzl:=(hC.jw e D yA).PL;split at z
   ·rename_i I;have I:0<D.size:=jK I;obtain⟨⟨h0,Yf,hb,h63⟩,z⟩:=z;obtain⟨hL,hdb⟩:=hn _ _ _ z;have hr:=run_make (P:=A.C.P) w t e R Y gj r_ Tq k k' n c h0 Yf (by rw[Pv,Int.mul_comm];omega) h63;have zE:=Flat.zero (A.C.bn t) S (w.alloc (.cells (madeCells Y.cells (c.toNat*R.size)) e)) (hC.jw e D yA) I n.toNat;have key:∀(W:World) es xs,Flat S W D.size es xs->Flat S W R.size es xs:=fun W es xs h=>by rw[Z];exact h
    have hle:n.toNat*D.size<=c.toNat*D.size:=cq _ (by omega);have YN:((Array.range (n.toNat*D.size)).map (D.zero.toArray[· % D.zero.toArray.size]!)).toList=(madeCells Y.cells (c.toNat*R.size)).toList.take (n.toNat*D.size):=by
     apply kz;intro j;rw[dM];split
     ·rename_i N;simp[madeCells,Tr,Z,N,cB N hle]
     rename_i N;rw[iR (by simpa using N)]
    have bH:=J.new hC (o.dst.getD 0) _ (J.sa hd) hL hdb (w.alloc (.cells (madeCells Y.cells (c.toNat*R.size)) e)) rfl rfl rfl (by simp) (fun _=>False) (fun k hk _=>oY _ _ _ hk) (fun _ h=>h.elim) (.slice (some ⟨w.heap.size,0,none⟩) n.toNat c.toNat)
     (fun g hg=>by simp[cF]at hg;subst hg;simp) (fun T=>by
      show aH A.C.P _ _ e _ (bd rho (o.dst.getD 0) _ (o.dst.getD 0));rw[aF];refine aH.of_flat r_ (by omega) ?_ (key _ _ _ zE);rw[YN,<-Z];refine⟨by rw[cE,bX,lV,size_madeCells,Z];omega,.inr ⟨w.heap.size,c.toNat,_,by simp,ak _,heap_alloc_new w _,by simp;omega,by simp only[maxLen];omega,size_madeCells _ _,by simp⟩⟩)
    exact eB (by simp only[execOp,U,hx.bZ,hy.bZ,bT,hr,dt,fY]) (O _ _ _ S _ _ _ z (bH.value o.dst hd _ _ (.ow _ _ fun _=>⟨.inr rfl,(aF _ _ _).symm⟩)))
   exact z.elim
  exact z.elim
 exact z.elim
end Go.AM
namespace Go.AM
open Go.RowKit
theorem P1(off:Nat):∀(vs:List Value) (k:Nat) (cs:Array Value),(vs.zipIdx k).foldl (fun (cs:Array Value) (x:Value×Nat)=>cs.setIfInBounds (off+x.2) x.1) cs=(setCells cs.toList (off+k) vs).toArray:=by
 intro vs
 induction vs with
 | nil=>intro k cs;simp[setCells]
 | cons v vs ih=>
  intro k cs;simp only[List.zipIdx_cons,jN];rw[ih];simp[setCells,lR]
theorem yC(z:Nat->Option (Nat×Nat))(cells:Array Value)(i:Nat)(v:Value)(rest:List (Nat×Value))(off size:Nat)(hp:z i=some (off,size))(D:v.cells.size=size)(hl:off+size<=cells.size):
  Instr.fill z cells ((i,v)::rest)=Instr.fill z (setCells cells.toList off v.cells.toList).toArray rest:=by
 rw[Instr.fill,hp];simp only;rw[aa (by simp[D];omega)];congr 1;have:=P1 off v.cells.toList 0 cells;rw[mY]at this;rw[<-this,<-Array.foldl_toList,Array.toList_zipIdx]
structure jP(S:Nat->Prop)(w:World)(cs:List PV)(vs:List Value):Prop where
 len:vs.length=cs.length
 one:∀u∈vs,u.oneCell'=true
 rep:∀(j:Nat) x u,cs[j]?=some x->vs[j]?=some u->aO S w x u
theorem jP.mono{S S':Nat->Prop}{w:World}{cs:List PV}{vs:List Value}(h:jP S w cs vs)(hS:∀b,S b->S' b):jP S' w cs vs:=
 ⟨h.len,h.one,fun j x u z D=>(h.rep j x u z D).mono hS (fun _ _=>rfl)⟩
theorem jP.set{S:Nat->Prop}{w:World}{cs ys:List PV}{vs us:List Value}(h:jP S w cs vs)(g:jP S w ys us)(off:Nat)(hl:off+ys.length<=cs.length):jP S w (setCells cs off ys) (setCells vs off us):=by
 have N:=fun j=>eJ ys cs off j hl;have J:=fun j=>eJ us vs off j (by rw[g.len,h.len];exact hl);refine⟨by rw[dh,dh,h.len],fun u D=>?_,fun j x u z D=>?_⟩
 ·obtain⟨j,z⟩:=ca.1 D;rw[J]at z;split at z
  ·exact g.one u (aj z)
  exact h.one u (aj z)
 rw[N]at z;rw[J,g.len]at D;split at z
 ·rename_i I;rw[ae I]at D;exact g.rep _ x u z D
 rename_i I;rw[aa I]at D;exact h.rep _ x u z D
theorem D_{S:Nat->Prop}{w:World}{x:PV}{ys:List PV}{v:Value}(h:vn x=some ys)(z:aO S w x v):jP S w ys v.cells.toList:=by
 obtain⟨D,I,J⟩:=zA h z;exact⟨by simpa using D,I,fun j y u N O=>J j y u N (by simpa using O)⟩
variable {A:rZ} {V L:Nat->Prop} {rho:Nat->Value} {fs:List (Nat×Nat×Bool)}
theorem NB(hC:bP A.C){t:Nat->AV}{a:Act}{w:World}{h:Nat->AB}(z:Nat->Option (Nat×Nat))(hp:∀(i:Nat) f,fs[i]?=some f->z i=some (f.1,f.2.1)):
  ∀(ps:List (Nat×Operand)) (h':Nat->AB) (S:Nat->Prop) (cs:List PV) (vs:List Value) (K:List PV->List (Nat×AB)->Prop),(∀p∈ps,∀j,p.2=.tmp j->V j)->cn A V L S rho ⟨t,h'⟩ a w->su h h'->jP S w cs vs->lA h fs (ev t) ps cs K ->
  ∃O fz S' R,K O fz/\cn A V L S' rho ⟨t,app h' fz⟩ a w/\su h (app h' fz)/\jP S' w O R/\Instr.fill z vs.toArray (ps.map fun p=>(p.1,a.eval p.2))=some R.toArray/\(∀p∈fz,L p.1):=by
 intro ps
 induction ps with
 | nil=>intro h' S cs vs K _ I W U D;exact⟨cs,[],S,vs,D,I,W,U,rfl,by simp⟩
 | cons p ps ih=>
  intro h' S cs vs K Z I W U D;obtain⟨i,x⟩:=p;unfold lA at D;split at D
  ·rename_i off size ag Tk;have hx:=bF I x fun j hj=>Z (i,x) (by simp) j hj;obtain⟨y,fz,S2,D,bH,J,AJ,Pu,Hs⟩:=jA hC I W hx D;split at D
   ·rename_i ys Wi;split at D
    ·rename_i Y;simp only[aJ]at Y;have e1:=jn Y.1;have e2:=mK Y.2;have N:=D_ Wi J;obtain⟨O,o8,S',R,k1,k2,k3,k4,k5,k9⟩:=ih (app h' fz) S2 _ _ _ (fun p hp=>Z p (by simp[hp])) bH Pu ((U.mono AJ).set N off (by omega)) D;refine⟨O,fz++o8,S',R,k1,by rw[cQ];exact k2,by rw[cQ];exact k3,k4,?_,fun p hp=>(b_.1 hp).elim (Hs p) (k9 p)⟩;rw[eH,yC z _ i _ _ off size (hp i _ Tk) (by simpa [e1] using N.len) (by simp[U.len];omega)];exact k5
    exact D.elim
   exact D.elim
  exact D.elim
theorem P2{P:Program}{t:TypeId}{size bytes:Nat}{zero:List Value}{eq:Bool}(Z:qc P t ⟨.st fs,size,bytes,zero,eq⟩){l:List (Nat×Value)}{oR:Array Value}
  (k5:Instr.fill (fun i=>(fs[i]?).map fun f=>(f.1,f.2.1)) zero.toArray l=some oR):P.built t l=some oR:=by
 obtain⟨info,z,hi,hsz,hby,hz,gk,kE⟩:=Z.info;obtain⟨gs,vt,hl,hf⟩:=Z.under;simp only at gk;have Fk:gs.toList.mapM (fun f=>(P.info? f.type).map fun i=>(f.offset,i.size))=some (fs.map fun f=>(f.1,f.2.1)):=by
  have N:∀(I:List Field) (D:List (Nat×Nat×Bool)),D.length=I.length->(∀(i:Nat) f g,D[i]?=some f->I[i]?=some g->f.1=g.offset/\(∃O,P.info? g.type=some O/\O.size=f.2.1))->I.mapM (fun f=>(P.info? f.type).map fun i=>(f.offset,i.size))=some (D.map fun f=>(f.1,f.2.1)):=by
   intro I
   induction I with
   | nil=>intro D J _;have:D=[]:=cI J;subst this;rfl
   | cons g I ih=>
    intro D J h2;cases D with
    | nil=>simp at J
    | cons f D=>
     obtain⟨R,O,U,e3⟩:=h2 0 f g rfl rfl;have:=ih D (by simpa using J) (fun i f g W Y=>h2 (i+1) f g (by simpa using W) (by simpa using Y));rw[E6,U,this];simp[R,e3]
  exact N gs.toList fs (by simpa using hl) (fun i f g W Y=>by
   obtain⟨R,_,U,_⟩:=hf i f g W (by simpa using Y);exact⟨R,U⟩)
 unfold Program.built;rw[hi,vt];simp only[hz,Fk,gk];rw[<-k5];congr 1;funext i;simp
theorem NC{S:Nat->Prop}{s:AS}{a:Act}{w:World}(O:cn A V L S rho s a w)(z:Nat->Option (Nat×Nat))(hp:∀(i:Nat) f,fs[i]?=some f->z i=some (f.1,f.2.1)):
  ∀(ps:List (Nat×Operand)) (cs:List AV) (vs:List Value) (K:List AV->Prop),(∀p∈ps,∀j,p.2=.tmp j->V j)->cs.length=vs.length->(∀u∈vs,u.oneCell'=true)->(∀(i:Nat) c u,cs[i]?=some c->vs[i]?=some u->bu S w A.C.P L rho s.h c u)->mU s.h fs (ev s.t) ps cs K ->
  ∃(R:List AV) (N:List Value),K R/\R.length=N.length/\(∀u∈N,u.oneCell'=true)/\(∀(i:Nat) c u,R[i]?=some c->N[i]?=some u->bu S w A.C.P L rho s.h c u)/\Instr.fill z vs.toArray (ps.map fun p=>(p.1,a.eval p.2))=some N.toArray:=by
 intro ps
 induction ps with
 | nil=>intro cs vs K _ hl U W D;exact⟨cs,vs,D,hl,U,W,rfl⟩
 | cons p ps ih=>
  intro cs vs K Z hl U W D;obtain⟨i,x⟩:=p;unfold mU at D;split at D
  ·rename_i off size ag Tk;split at D
   ·rename_i mo;simp only[aJ]at mo;obtain⟨⟨Y,e2⟩,e3⟩:=mo;have Y:=jn Y;have e2:=mK e2;have hx:=bF O x fun j I=>Z (i,x) (by simp) j I;have o1:=tD O e3 hx;have jx:=cells_one o1;have hlen:off<vs.length:=by omega
    obtain⟨R,N,k1,k2,k3,k4,k5⟩:=ih (cs.set off (ev s.t x)) (vs.set off (a.eval x)) K (fun p hp=>Z p (by simp[hp])) (by simp[hl]) (fun u J=>by
      rcases m_ J with h | h
      ·exact U u h
      ·rw[h];exact o1) (fun j c u I J=>by
      by_cases e:j=off
      ·subst e;rw[dZ (by omega)]at I J;injection I with I;injection J with J;subst I J;exact hx
      rw[gC (fun e'=>e e'.symm)]at I J;exact W j c u I J) D
    refine⟨R,N,k1,k2,k3,k4,?_⟩;rw[eH,yC z _ i _ _ off size (hp i _ Tk) (by rw[jx,Y];rfl) (by simp;omega),jx];exact k5
   exact D.elim
  exact D.elim
theorem P3{o:Oper}(t:TypeId)(ps:Array (Nat×Operand))(Z:o.op=.build t ps):jV A o:=by
 intro V L S rho s a w K next Q hC O hV hd R _ D
 simp only[cc,Z]at R;split at R
 ·rename_i fs size bytes zero eq hT;have gj:=(hC.jw t _ hT).under;obtain⟨info,z,hi,hsz,hby,hz,gk,kE⟩:=(hC.jw t _ hT).info;obtain⟨gs,vt,hl,hf⟩:=gj;simp only at gk kE;have qH:∀(i:Nat) f,fs[i]?=some f->(fun i=>(fs[i]?).map fun f=>(f.1,f.2.1)) i=some (f.1,f.2.1):=fun i f h=>by simp[h]
  split at R
  case h_2=>
   obtain⟨oM,U,k1,k2,k3,k4,k5⟩:=NC O (fun i=>(fs[i]?).map fun f=>(f.1,f.2.1)) qH ps.toList (zero.map No) zero (fun cs=>K (.st cs) [] none)
    (fun p hp j I=>hV j (by simp[Z,Op.operands];exact⟨p.1,by rw[<-I];exact cJ.1 hp⟩)) (by simp) kE (fun j x u I hu=>by
     rw[aD,hu]at I;simp at I;rw[<-I];exact Bp _ _ _ _ _ _ u) R
   have JZ:=P2 (hC.jw t _ hT) k5;exact aN O hd D k1 (.st _ U.toArray (by simpa using k2) (by simpa using k3) (fun i c u N W=>k4 i c u N (by simpa using W))) (by
    have hr:=run_build (P:=A.C.P) w t (ps.map fun p=>(p.1,a.eval p.2)) U.toArray (by simpa using JZ);simp only[execOp,Z,bT];rw[hr];simp)
  obtain⟨oM,fz,S',U,k1,k2,k3,k4,k5,_⟩:=NB hC (fun i=>(fs[i]?).map fun f=>(f.1,f.2.1)) qH ps.toList s.h S (zero.map (X_ (A.C.bn t))) zero (fun cs fz=>K (.p (.ag cs)) fz none)
   (fun p hp j I=>hV j (by simp[Z,Op.operands];exact⟨p.1,by rw[<-I];exact cJ.1 hp⟩)) O (su.refl _) ⟨by simp,kE,fun j x u I hu=>by
    rw[aD,hu]at I;simp at I;rw[<-I];exact LX _ _ _ u⟩ R
  have Fk:gs.toList.mapM (fun f=>(A.C.P.info? f.type).map fun i=>(f.offset,i.size))=some (fs.map fun f=>(f.1,f.2.1)):=by
   have gen:∀(Y:List Field) (J:List (Nat×Nat×Bool)),J.length=Y.length->(∀(i:Nat) f g,J[i]?=some f->Y[i]?=some g->f.1=g.offset/\(∃i2,A.C.P.info? g.type=some i2/\i2.size=f.2.1))->Y.mapM (fun f=>(A.C.P.info? f.type).map fun i=>(f.offset,i.size))=some (J.map fun f=>(f.1,f.2.1)):=by
    intro Y
    induction Y with
    | nil=>intro J N _;have:J=[]:=cI N;subst this;rfl
    | cons g Y ih=>
     intro J N W;cases J with
     | nil=>simp at N
     | cons f J=>
      obtain⟨e1,i2,e2,e3⟩:=W 0 f g rfl rfl;have:=ih J (by simpa using N) (fun i f g h3 h4=>W (i+1) f g (by simpa using h3) (by simpa using h4));rw[E6,e2,this];simp[e1,e3]
   exact gen gs.toList fs (by simpa using hl) (fun i f g h3 h4=>by
    obtain⟨e1,_,e2,_⟩:=hf i f g h3 (by simpa using h4);exact⟨e1,e2⟩)
  have JZ:A.C.P.built t (ps.toList.map fun p=>(p.1,a.eval p.2))=some U.toArray:=by
   unfold Program.built;rw[hi,vt];simp only[hz,Fk,gk];rw[<-k5];congr 1;funext i;simp
  refine D9 (s:=s) k2 hd D k1 (v:=.agg U.toArray) (.p _ _ (.ag _ _ (by simp[k4.len]) (by simpa using k4.one) fun i c v N W=>k4.rep i c v N (by simpa using W))) ?_;have hr:=run_build (P:=A.C.P) w t (ps.map fun p=>(p.1,a.eval p.2)) U.toArray (by simpa using JZ);simp only[execOp,Z,bT];rw[hr];simp
 exact R.elim
theorem ND{S:Nat->Prop}{s:AS}{a:Act}{w:World}{b:Bool}(hC:bP A.C){h:Nat->AB}(z:cn A V L S rho s a w)(I:su h s.h){x:AV}{v:Value}(J:bu S w A.C.P L rho s.h x v){K:PV->List (Nat×AB)->Prop}(D:zy b h x K):
  ∃y fz S',K y fz/\cn A V L S' rho ⟨s.t,app s.h fz⟩ a w/\aO S' w y v/\(∀b,S b->S' b)/\su h (app s.h fz)/\(∀p∈fz,L p.1):=by
 unfold zy at D;split at D
 ·have:v=.slice none 0 0:=by cases J;rfl
  rw[this];exact⟨_,[],S,D,z,.im _,fun _ h=>h,I,by simp⟩
 exact jA hC z I J D
theorem By(hC:bP A.C){t:Nat->AV}{a:Act}{w:World}{h:Nat->AB}{size:Nat}{b:Bool}:
  ∀(ps:List (Nat×Operand)) (h':Nat->AB) (S:Nat->Prop) (es:List (List PV)) (vs:List Value) (K:List (List PV)->List (Nat×AB)->Prop),(∀p∈ps,∀j,p.2=.tmp j->V j)->cn A V L S rho ⟨t,h'⟩ a w->su h h'->Flat S w size es vs->iD b h size (ev t) ps es K ->
  ∃J fz S' O,K J fz/\cn A V L S' rho ⟨t,app h' fz⟩ a w/\su h (app h' fz)/\Flat S' w size J O/\J.length=es.length/\Instr.fill (fun i=>some (i*size,size)) vs.toArray (ps.map fun p=>(p.1,a.eval p.2))=some O.toArray/\(∀p∈fz,L p.1):=by
 intro ps
 induction ps with
 | nil=>intro h' S es vs K _ D U R z;exact⟨es,[],S,vs,z,D,U,R,rfl,rfl,by simp⟩
 | cons p ps ih=>
  intro h' S es vs K Y D U R z;obtain⟨i,x⟩:=p;unfold iD at z;have hx:=bF D x fun j hj=>Y (i,x) (by simp) j hj;obtain⟨y,fz,S2,z,bH,N,AJ,Pu,Hs⟩:=ND hC D U hx z;split at z
  ·rename_i ys Wi;split at z
   ·rename_i W;simp only[aJ]at W;have Z:=jn W.1;have e2:i<es.length:=jK W.2;have I:=D_ Wi N;have YO:(a.eval x).cells.toList.length=size:=by rw[I.len,Z]
    have hb:i*size+size<=vs.length:=by rw[R.len,<-dO];exact cq _ e2
    obtain⟨J,o8,S',O,k1,k2,k3,k4,k5,k6,k9⟩:=ih (app h' fz) S2 _ _ _ (fun p hp=>Y p (by simp[hp])) bH Pu ((R.mono AJ (fun _ _=>rfl)).set i e2 ys _ Z YO I.one (fun j y u h1 h2=>I.rep j y u h1 h2)) z;refine⟨J,fz++o8,S',O,k1,by rw[cQ];exact k2,by rw[cQ];exact k3,k4,by rw[k5,aQ],?_,fun p hp=>(b_.1 hp).elim (Hs p) (k9 p)⟩;rw[eH,yC _ _ i _ _ (i*size) size rfl (by simpa using YO) (by simpa using hb)];exact k6
   exact z.elim
  exact z.elim
theorem Dw{o:Oper}(t:TypeId)(len:Nat)(ps:Array (Nat×Operand))(aL:o.op=.buildSlice t len ps):jV A o:=by
 intro V L S rho s a w K next Q hC sim hV hd O hn J
 simp only[cc,aL]at O;split at O
 ·rename_i e size bytes zero eq hT;have gj:=(hC.jw t _ hT).under;simp only at gj;split at O
  ·rename_i z yA;obtain⟨ie,ze,r_,Dv,Pv,Tq,Tr,kE⟩:=(hC.jw e z yA).info;have hzl:=(hC.jw e z yA).PL;split at O
   ·rename_i mo;simp only[aJ]at mo;have I:0<z.size:=jK mo.1;have SY:=mK mo.2;split at O
    ·rename_i hbf;obtain⟨dv,fz,S',D,k1,R,k3,k4,U,k6,k9⟩:=By hC ps.toList s.h S _ _ (fun es fz=>K (.ow (o.dst.getD 0)) fz (some (.row e es)))
      (fun p hp j hj=>hV j (by simp[aL,Op.operands];exact⟨p.1,by rw[<-hj];exact cJ.1 hp⟩)) sim (su.refl _) (Flat.zero false S w (hC.jw e z yA) I len) O
     rw[bX]at U;obtain⟨hL,hb⟩:=hn _ _ _ k1;have Ws:(app s.h fz) (o.dst.getD 0)=.row e dv:=by
      rw[jO (fun p hp (e:p.1=_)=>hL (by rw[<-e];exact k9 p hp)),hb]
     have N:(execOp a.eval o).run A.C.P w=.ok (.value (.slice (some ⟨w.heap.size,0,none⟩) len len)) (w.alloc (.cells D.toArray e)):=by
      have e0:len*z.size=(Array.range (len*z.size)).size:=by simp
      have abD:¬16777216<len*z.size:=by omega
      have YP:Instr.fill (fun i=>some (i*z.size,z.size)) ((Array.range (len*z.size)).map (z.zero.toArray[· % z.zero.toArray.size]!)) (ps.map fun p=>(p.1,a.eval p.2)).toList=some D.toArray:=by
       rw[AE];rw[<-k6]
      have W:(Go.sizeOf e).run A.C.P w=.ok z.size w:=(hC.jw e z yA).sizeOf w;simp only[execOp,aL,Instr.buildSlice,bT,run_underlying gj,dt,W];rw[aa (show ¬len*z.size>2 ^ 24 by omega)];by_cases Y:len*z.size=0
      ·rw[ae Y];have k7:Instr.fill (fun i=>some (i*z.size,z.size)) ((Array.range (len*z.size)).map ((#[]:Array Value)[· % (#[]:Array Value).size]!)) (ps.map fun p=>(p.1,a.eval p.2)).toList=some D.toArray:=by
        have YQ:∀f:Nat->Value,(Array.range 0).map f=#[]:=fun f=>by apply qI;simp
        rw[<-YP,Y,YQ,YQ]
       simp only[bT,fY,dt];rw[k7];simp[newRow,newObj,Sem.run]
      rw[aa Y];have Z:(zeroValue e).run A.C.P w=.ok ze w:=by simp[zeroValue,typeInfo,r_,Tq]
      simp only[bT,fY,dt,Z];rw[Tr,YP];simp[newRow,newObj,Sem.run]
     have bH:=R.new hC (o.dst.getD 0) _ (R.sa hd) hL Ws (w.alloc (.cells D.toArray e)) rfl rfl rfl (by simp) (fun _=>False) (fun k hk _=>oY _ _ _ hk) (fun _ h=>h.elim) (.slice (some ⟨w.heap.size,0,none⟩) len len)
      (fun g hg=>by simp[cF]at hg;subst hg;simp) (fun T=>by
       show aH A.C.P _ _ e _ (bd rho (o.dst.getD 0) _ (o.dst.getD 0));rw[aF];refine aH.of_flat r_ (by omega) ?_ (by rw[Dv];exact k4.mono T.hS T.keep);have:=World.ownsRow_lit (base:=0) (e:=e) (size:=z.size) w D.toArray len (ak _) (by simp only[maxLen];have:=LN len I;omega) (by simp[k4.len,U]);rw[Dv,U];exact this)
     exact eB N (J _ _ _ S' _ _ _ k1 (bH.value o.dst hd _ _ (.ow _ _ fun _=>⟨.inr rfl,(aF _ _ _).symm⟩)))
    rename_i hbf;obtain⟨dv,fz,S',D,k1,R,k3,k4,U,k6,k9⟩:=By hC ps.toList s.h S _ _ (fun es fz=>K (.ow (o.dst.getD 0)) fz (some (.lz es)))
     (fun p hp j hj=>hV j (by simp[aL,Op.operands];exact⟨p.1,by rw[<-hj];exact cJ.1 hp⟩)) sim (su.refl _) (Flat.zero false S w (hC.jw e z yA) I len) O
    rw[bX]at U;obtain⟨hL,hb⟩:=hn _ _ _ k1;have Ws:(app s.h fz) (o.dst.getD 0)=.lz dv:=by
     rw[jO (fun p hp (e:p.1=_)=>hL (by rw[<-e];exact k9 p hp)),hb]
    have N:(execOp a.eval o).run A.C.P w=.ok (.value (.slice (some ⟨w.heap.size,0,none⟩) len len)) (w.alloc (.cells D.toArray e)):=by
     have e0:len*z.size=(Array.range (len*z.size)).size:=by simp
     have abD:¬16777216<len*z.size:=by omega
     have YP:Instr.fill (fun i=>some (i*z.size,z.size)) ((Array.range (len*z.size)).map (z.zero.toArray[· % z.zero.toArray.size]!)) (ps.map fun p=>(p.1,a.eval p.2)).toList=some D.toArray:=by
      rw[AE];rw[<-k6]
     have W:(Go.sizeOf e).run A.C.P w=.ok z.size w:=(hC.jw e z yA).sizeOf w;simp only[execOp,aL,Instr.buildSlice,bT,run_underlying gj,dt,W];rw[aa (show ¬len*z.size>2 ^ 24 by omega)];by_cases Y:len*z.size=0
     ·rw[ae Y];have k7:Instr.fill (fun i=>some (i*z.size,z.size)) ((Array.range (len*z.size)).map ((#[]:Array Value)[· % (#[]:Array Value).size]!)) (ps.map fun p=>(p.1,a.eval p.2)).toList=some D.toArray:=by
       have YQ:∀f:Nat->Value,(Array.range 0).map f=#[]:=fun f=>by apply qI;simp
       rw[<-YP,Y,YQ,YQ]
      simp only[bT,fY,dt];rw[k7];simp[newRow,newObj,Sem.run]
     rw[aa Y];have Z:(zeroValue e).run A.C.P w=.ok ze w:=by simp[zeroValue,typeInfo,r_,Tq]
     simp only[bT,fY,dt,Z];rw[Tr,YP];simp[newRow,newObj,Sem.run]
    have Pw:Fr (fun _=>False) w (w.alloc (.cells D.toArray e)):=⟨rfl,rfl,rfl,by simp,fun k hk _=>oY _ _ _ hk⟩;have grow:=R.YE hC (w.alloc (.cells D.toArray e)) Pw (fun b=>S' b\/b=w.heap.size) (fun b h=>.inl h) (fun b h=>by
     rcases h with h | h
     ·exact cB (R.st b h) Pw.size
     subst h;simp) (fun b h=>h.imp id fun h=>by omega)
    have rr:aH A.C.P (w.alloc (.cells D.toArray e)) (aO S' (w.alloc (.cells D.toArray e))) e dv (.slice (some ⟨w.heap.size,0,none⟩) len len):=by
     refine aH.of_flat r_ (by omega) ?_ (by rw[Dv];exact k4.mono (fun _ h=>h) (fun b hb=>oY _ _ _ (R.st b hb)));have:=World.ownsRow_lit (base:=0) (e:=e) (size:=z.size) w D.toArray len (ak _) (by simp only[maxLen];have:=LN len I;omega) (by simp[k4.len,U]);rw[Dv,U];exact this
    have Hv:aO (fun b=>S' b\/b=w.heap.size) (w.alloc (.cells D.toArray e)) (.sl dv) (.slice (some ⟨w.heap.size,0,none⟩) len len):=rr.Hr (fun b h=>.inl h) (fun g hg=>by simp[cF]at hg;exact .inr hg.symm);have bH:=grow.Wb (o.dst.getD 0) dv (R.sa hd) hL Ws _ Hv;exact eB N (J _ _ _ _ _ _ _ k1 (bH.value o.dst hd _ _ (.ow _ _ fun _=>⟨.inr rfl,(aF _ _ _).symm⟩)))
   exact O.elim
  exact O.elim
 exact O.elim
end Go.AM
namespace Go.AM
open Go.RowKit
theorem P5:∀{a b:List Nat},shB a b=true->a=b
 | [],[],_=>rfl
 | [],_::_,h=>by cases h
 | _::_,[],h=>by cases h
 | a::r,b::s,h=>by
  unfold shB at h;split at h
  ·rename_i e;rw[cY e,P5 h]
  cases h
theorem P6{a b:MK}(h:mkB a b=true):a=b:=by
 cases a with
 | str=>cases b with | str=>rfl | int k=>cases h | st s=>cases h
 | int k=>cases b with
  | str=>cases k<;>cases h
  | int k'=>cases k<;>cases k'<;>first | rfl | cases h
  | st s=>cases k<;>cases h
 | st s=>cases b with
  | str=>cases h
  | int k=>cases k<;>cases h
  | st s'=>rw[P5 h]
def descOf:MK->TypeDesc
 | .str=>.string
 | .int k=>.int k
 | .st _=>.string
def Fl:MK->Prop
 | .st _=>False
 | _=>True
variable {mk:MK}
theorem J0{P:Program}{t:TypeId}{ti:TI}(h:qc P t ti)(hp:Fl mk)(z:Dr ti=some mk):P.underlying t=some (descOf mk):=by
 have I:=h.under;unfold Dr at z;cases D:ti.ud<;>rw[D]at z I<;>simp only at z<;>first
  | (cases z;done)
  | (injection z with z;subst z;exact I)
  | (
    split at z
    ·obtain⟨s,_,rfl⟩:=aV.1 z;exact hp.elim
    cases z)
theorem Dx:∀{sh:List Nat} {cs:List PV} {l:List Value},nY sh cs=some l->cs=l.map .im/\nc sh l:=by
 intro sh
 induction sh with
 | nil=>
  intro cs l h;cases cs with
  | nil=>injection h with h;subst h;exact⟨rfl,trivial⟩
  | cons c cs=>cases h
 | cons n sh ih=>
  intro cs l h;cases cs with
  | nil=>simp[nY]at h
  | cons c cs=>
   unfold nY at h;split at h
   all_goals first
    | contradiction
    | (
      rename_i z D;injection z with z J;injection D with D N;subst z J D N;obtain⟨l',hl,rfl⟩:=aV.1 h;obtain⟨O,I⟩:=ih hl;subst O
      first
       | exact⟨rfl,trivial,I⟩
       | exact⟨rfl,rfl,I⟩)
    | (cases h)
variable {k:Value}
theorem Bz{a:AV}(h:keyOf mk a=some k):∃x,a=.p x/\mk.ok k/\∀S w v,aO S w x v->v=k:=by
 unfold keyOf at h;split at h
 ·injection h with h;subst h;exact⟨_,rfl,trivial,fun S w v z=>z.bZ⟩
 ·injection h with h;subst h;exact⟨_,rfl,rfl,fun S w v z=>z.bZ⟩
 ·obtain⟨l,hl,rfl⟩:=aV.1 h;obtain⟨rfl,N⟩:=Dx hl;refine⟨_,rfl,by simpa [MK.ok] using N,fun S w v z=>?_⟩;obtain⟨xs,O,J,_,I⟩:=z.n_;rw[O];congr 1;apply qI;apply kz;intro i;by_cases hi:i<xs.size
  ·have D:i<l.length:=by
                  have:l.length=xs.size:=by simpa using J
                  omega
   have:=(I i (.im l[i]) xs[i] (by rw[aD,aW D];rfl) (cC hi)).bZ;rw[kC,cC hi,this];simp[D]
  have D:¬i<l.length:=by
                  have:l.length=xs.size:=by simpa using J
                  omega
  rw[iR (by simpa using hi),iR (by simpa using D)]
 cases h
theorem J1(hp:Fl mk){a b:Value}(z:mk.ok a)(hb:mk.ok b):Instr.sameNow (descOf mk) a b=some (Dj a b):=by
 cases mk with
 | str=>
  cases a<;>first | (exact z.elim) | skip
  cases b<;>first | (exact hb.elim) | skip
  simp only[Instr.sameNow,descOf,Dj];congr 1;rw[fV,E7];simp
 | int k=>
  cases a<;>first | (exact z.elim) | skip
  cases b<;>first | (exact hb.elim) | skip
  have D:_=k:=z;have I:_=k:=hb;subst D;subst I;simp[Instr.sameNow,descOf,Dj];rw[fV];simp
 | st s=>exact hp.elim
theorem P7(hp:Fl mk)(h:mk.ok k):MapKept.IsKey (descOf mk) k:=by
 cases mk with
 | str=>cases k<;>first | (exact h.elim) | exact trivial
 | int j=>cases k<;>first | (exact h.elim) | exact h
 | st s=>exact hp.elim
theorem bP.key{C:Ctx}(hC:bP C){z:TypeId}{D:TI}(h:C.T z=some D)(I:Dr D=some mk):PH C.P z mk:=by
 by_cases hp:Fl mk
 ·have J:=J0 (hC.jw z D h) hp I;refine⟨fun e k w hk=>MapKept.run_checkKey J (P7 hp hk) e 9999,fun k w N hk O=>MapKept.run_findKey J ?_⟩;generalize 0=i
  induction N generalizing i with
  | nil=>rfl
  | cons m N ih=>
   have R:=J1 hp hk (O m bW);unfold Instr.findNow uU;rw[R];cases Dj k m.key with
   | true=>rfl
   | false=>exact ih (fun x U=>O x (cD _ U)) _
 cases mk with
 | st s=>exact hC.keys z D s h I
 | str=>exact (hp trivial).elim
 | int j=>exact (hp trivial).elim
theorem Ts:∀{sh:List Nat} {a b:List Value},nc sh a->nc sh b->Hj a b=true->a=b:=by
 intro sh
 induction sh with
 | nil=>
  intro a b D hb _;cases a with
  | nil=>cases b with
   | nil=>rfl
   | cons y b=>exact hb.elim
  | cons x a=>exact D.elim
 | cons n sh ih=>
  intro a b D hb h;cases a with
  | nil=>exact D.elim
  | cons x a=>cases b with
   | nil=>exact hb.elim
   | cons y b=>
    simp only[Hj,aJ]at h;rw[ih D.2 hb.2 h.2];have e:x=y:=by
     have J:=D.1;have z:=hb.1;unfold JO at J z;split at J
     ·split at z<;>first | (exact z.elim) | (rename_i I;cases I;done) | skip
      have:=h.1;simp[Nn]at this;rw[this]
     ·split at z<;>first | (exact z.elim) | (rename_i I;cases I;done) | skip
      have:=h.1;simp[Nn]at this;rw[this,J,z]
     ·split at z<;>first | (exact z.elim) | (rename_i I;cases I;done) | skip
      have:=h.1;simp[Nn]at this;rw[this]
     exact J.elim
    rw[e]
theorem Wt{a b:Value}(z:mk.ok a)(hb:mk.ok b)(h:Dj a b=true):a=b:=by
 cases mk with
 | str=>
  cases a<;>first | (exact z.elim) | skip
  cases b<;>first | (exact hb.elim) | skip
  simp[Dj]at h;rw[h]
 | int k=>
  cases a<;>first | (exact z.elim) | skip
  cases b<;>first | (exact hb.elim) | skip
  have D:_=k:=z;have I:_=k:=hb;subst D;subst I;simp[Dj]at h;rw[h]
 | st s=>
  cases a<;>first | (exact z.elim) | skip
  cases b<;>first | (exact hb.elim) | skip
  congr 1;exact qI (Ts (sh:=s) z hb h)
theorem find_spec(hk:mk.ok k):∀(es:List (Value×PV)) (z:List MapEntry) (j:Nat),z.length=es.length->(∀(i:Nat) p m,es[i]?=some p->z[i]?=some m->m.key=p.1/\mk.ok p.1)->
  (uU k z j=none/\gz es k=none/\∀v,iS es k v=es++[(k,v)])\/
  ∃i m p,uU k z j=some (j+i,m.val)/\z[i]?=some m/\es[i]?=some p/\p.1=k/\gz es k=some p.2/\∀v,iS es k v=es.set i (k,v):=by
 intro es
 induction es with
 | nil=>
  intro z j hl _;have:z=[]:=cI hl;subst this;exact .inl ⟨rfl,rfl,fun v=>rfl⟩
 | cons p es ih=>
  intro z j hl O;cases z with
  | nil=>cases hl
  | cons m z=>
   obtain⟨R,u⟩:=p;obtain⟨D,U⟩:=O 0 _ _ rfl rfl;simp only at D U;cases hv:Dj k R with
   | true=>
    refine .inr ⟨0,m,(R,u),?_,rfl,rfl,(Wt hk U hv).symm,by simp[gz,hv],fun v=>by simp[iS,hv]⟩;simp[uU,D,hv]
   | false=>
    rcases ih z (j+1) (by simpa using hl) (fun i p m hp W=>O (i+1) p m (by simpa using hp) (by simpa using W)) with⟨I,J,N⟩ | ⟨i,Y,p,I,J,N,Z,q5,q6⟩
    ·exact .inl ⟨by simp[uU,D,hv,I],by simp[gz,hv,J],fun v=>by simp[iS,hv,N v]⟩
    refine .inr ⟨i+1,Y,p,?_,by simpa using J,by simpa using N,Z,by simp[gz,hv,q5],fun v=>by simp[iS,hv,q6 v]⟩;simp only[uU,D,hv,I];rw[lR,Nat.add_comm 1 i]
theorem BA{n:Nat}:∀{sh:List Nat} {l:List Value},nc sh l->((l.zip l).all fun (x,y)=>Instr.sameBits n x y)=true:=by
 intro sh
 induction sh with
 | nil=>intro l h;cases l with
  | nil=>rfl
  | cons x l=>exact h.elim
 | cons c sh ih=>
  intro l h;cases l with
  | nil=>exact h.elim
  | cons x l=>
   rw[List.zip_cons_cons,vZ,ih h.2,qJ];have z:=h.1;unfold JO at z;split at z
   ·cases n<;>exact (E7 _ _).2 rfl
   ·cases n<;>simp[Instr.sameBits]
   ·cases n<;>simp[Instr.sameBits]
   exact z.elim
theorem sameBits_self(hk:mk.ok k):Instr.sameBits 10000 k k=true:=by
 cases mk with
 | str=>
  cases k<;>first | (exact hk.elim) | skip
  simp only[Instr.sameBits];exact (E7 _ _).2 rfl
 | int j=>
  cases k<;>first | (exact hk.elim) | skip
  simp[Instr.sameBits]
 | st s=>
  cases k<;>first | (exact hk.elim) | skip
  rename_i xs;show (xs.size==xs.size&&(xs.toList.zip xs.toList).all fun (x,y)=>Instr.sameBits 9999 x y)=true;rw[BA (sh:=s) hk];simp
variable {A:rZ}
theorem J2{o:Oper}(t:TypeId)(N:o.op=.makeMap t none):jV A o:=by
 intro V L S rho s a w K next Q hC I hV O z U D
 simp only[cc,N]at z;split at z
 ·split at z
  ·split at z
   ·obtain⟨W,J⟩:=U _ _ _ z;have Y:=I.new hC (o.dst.getD 0) _ (I.sa O) W J (w.alloc (.map #[] 0)) rfl rfl rfl (by simp) (fun _=>False) (fun k hk _=>oY _ _ _ hk) (fun _ h=>h.elim) (.map (some w.heap.size))
     (fun g R=>by simp[cF]at R;subst R;simp) (fun T=>by
      refine⟨w.heap.size,#[],0,aF _ _ _,(MapKept.heap_alloc w _).1,rfl,by simp⟩)
    exact eB (by simp[execOp,N,Instr.makeMap]) (D _ _ _ S _ _ _ z (Y.value o.dst O _ _ (.ow _ _ fun _=>⟨.inr rfl,(aF _ _ _).symm⟩)))
   exact z.elim
  exact z.elim
 exact z.elim
theorem Ea{S:Nat->Prop}{w:World}{P:Program}{L:Nat->Prop}{rho:Nat->Value}{h:Nat->AB}{id:Nat}{es:List (Value×PV)}(I:fD S w P L rho h id (.map mk es)):
  ∃g D z,rho id=.map (some g)/\w.heap[g]?=some (.map D z)/\D.size=es.length/\∀(i:Nat) p m,es[i]?=some p->D[i]?=some m->m.key=p.1/\mk.ok p.1/\aO S w p.2 m.val:=I
theorem P9{es:List (Value×PV)}{z:Array MapEntry}{R:PV->Value->Prop}(D:z.size=es.length)(I:∀(i:Nat) p m,es[i]?=some p->z[i]?=some m->m.key=p.1/\mk.ok p.1/\R p.2 m.val):∀m∈z.toList,mk.ok m.key:=by
 intro m J;obtain⟨i,hi,rfl⟩:=E8 J;have N:i<es.length:=by rw[<-D];simpa using hi
 obtain⟨O,U,_⟩:=I i es[i] (z.toList[i]) (aW N) (by simp at hi;simp[hi]);rw[O];exact U
theorem J3{P:Program}{t:TypeId}{ti:TI}(h:qc P t ti)(Z:JR P t ti)(S:Nat->Prop)(w:World):∃z,(zeroValue t).run P w=.ok z w/\aO S w (Bo ti) z:=by
 obtain⟨info,z,U,h2,h3,W,N,h6,h7,h8⟩:=h;obtain⟨adz,z',D,I,J⟩:=Z;rw[U]at D;injection D with D;subst D;rw[W]at I;injection I with I;subst I;refine⟨z,by simp[zeroValue,typeInfo,U,W],?_⟩;unfold Bo;cases Y:ti.ud.agg with
 | true=>
  rw[Y]at J;cases z<;>first | cases J | skip
  rename_i cs;have O:cs=ti.zero.toArray:=N;subst O;refine .ag _ _ (by simp) (fun u R=>h7 u (by simpa using R)) fun i c v hi hv=>?_;rw[aD]at hi;obtain⟨u,R,rfl⟩:=aV.1 hi;have:u=v:=by simpa [R] using hv
  subst this;exact wb S w u
 | false=>
  rw[Y]at J;have O:z.cells=#[z]:=by cases z<;>first | rfl | cases J
  rw[O]at N;have:ti.zero=[z]:=by simpa using (af Array.toList N).symm
  rw[this];exact wb S w z
theorem NF{o:Oper}(t:TypeId)(x i:Operand)(R:Bool)(W:o.op=.lookup t x i R):jV A o:=by
 intro V L S rho s a w K next Q hC I hV hd D hn J
 simp only[cc,W]at D;have hx:=bF I x fun j hj=>hV j (by simp[W,Op.operands,hj]);have hi:=bF I i fun j hj=>hV j (by simp[W,Op.operands,hj]);split at D
 case h_2=>exact D.elim
 rename_i kt et size bytes zero eq hT;have gj:=(hC.jw t _ hT).under;simp only at gj;split at D
 case h_2=>exact D.elim
 rename_i tk te hTk yA;split at D
 case h_2=>exact D.elim
 rename_i mk hmk;have Tt:=hC.key hTk hmk;split at D
 case h_2=>exact D.elim
 rename_i id hid;split at D
 case h_2=>exact D.elim
 rename_i mk' es J4;split at D
 case h_2=>exact D.elim
 rename_i P_;obtain rfl:=P6 P_;split at D
 case h_2=>exact D.elim
 rename_i k hk;obtain⟨xk,hk1,Y,hk3⟩:=Bz hk;obtain⟨r,hr,D⟩:=D;rw[hid]at hx;obtain⟨hL,O⟩:=hx.cZ (by rw[J4];trivial);have hh:=I.hp id hL;rw[J4]at hh;obtain⟨g,ms,clock,h1,h2,h3,h4⟩:=Ea hh;rw[hk1]at hi;have hi:=hk3 _ _ _ hi.eY;obtain⟨z,hz,hzr⟩:=J3 (hC.jw et te yA) (hC.zs et te yA) S w;have jz:∀m∈ms.toList,mk.ok m.key:=P9 h3 h4;have key:∃u,(Instr.lookup t (a.eval x) (a.eval i) R).run A.C.P w=.ok (if R then .tuple #[u,.bool r.isSome] else u) w/\aO S w (r.getD (Bo te)) u:=by
  rcases find_spec Y es ms.toList 0 (by simpa using h3) (fun i p m hp hm=>by obtain⟨Z,U,_⟩:=h4 i p m hp (by simpa using hm);exact⟨Z,U⟩) with⟨Z,U,_⟩ | ⟨j,m,p,Z,U,q3,q4,q5,_⟩
  ·rw[hr]at U;subst U;refine⟨z,?_,hzr⟩;cases R<;>simp[Instr.lookup,run_underlying gj,O,h1,vY h2,hi,Tt.check _ _ _ Y,Tt.find _ _ _ Y jz,Z,hz]
  rw[hr]at q5;subst q5;refine⟨m.val,?_,(h4 j p m q3 (by simpa using U)).2.2⟩;cases R<;>simp[Instr.lookup,run_underlying gj,O,h1,vY h2,hi,Tt.check _ _ _ Y,Tt.find _ _ _ Y jz,Z]
 obtain⟨u,N,hu⟩:=key;cases R with
 | true=>
  refine aN I hd J D (.tu _ _ rfl fun i c v hc O=>?_) (by simp only[execOp,W,bT,N,dt,fY];rfl)
  match i with
  | 0=>simp at hc O;subst hc O;exact .p _ _ hu
  | 1=>simp at hc O;subst hc O;exact .p _ _ (.im _)
  | i+2=>simp at hc
 | false=>exact aN I hd J D (.p _ _ hu) (by simp only[execOp,W,bT,N,dt,fY];rfl)
theorem Fm{o:Oper}(t:TypeId)(x i y:Operand)(aL:o.op=.mapUpdate t x i y):jV A o:=by
 intro V L S rho s a w K next Q hC J hV hd z hn U
 simp only[cc,aL]at z;have hx:=bF J x fun j hj=>hV j (by simp[aL,Op.operands,hj]);have hi:=bF J i fun j hj=>hV j (by simp[aL,Op.operands,hj]);have hy:=bF J y fun j hj=>hV j (by simp[aL,Op.operands,hj]);split at z
 case h_2=>exact z.elim
 rename_i kt et size bytes zero eq hT;have gj:=(hC.jw t _ hT).under;simp only at gj;split at z
 case h_2=>exact z.elim
 rename_i tk hTk;split at z
 case h_2=>exact z.elim
 rename_i mk W;have Tt:=hC.key hTk W;split at z
 case h_2=>exact z.elim
 rename_i id hid;split at z
 case h_2=>exact z.elim
 rename_i mk' es J4;split at z
 case h_2=>exact z.elim
 rename_i P_;obtain rfl:=P6 P_;split at z
 case h_2=>exact z.elim
 rename_i k hk;obtain⟨xk,hk1,N,hk3⟩:=Bz hk;obtain⟨yv,fz,S2,z,bH,O,AJ,hF,Hs⟩:=jA hC J (su.refl s.h) hy z;split at z
 case h_2=>exact z.elim
 rename_i Eb;have Aj:app s.h fz id=.map mk es:=by rw[oa Eb];exact J4
 rw[hid]at hx;obtain⟨hL,hv⟩:=hx.cZ (by rw[J4];trivial);have hh:=bH.hp id hL;have hh:fD S2 w A.C.P L rho (app s.h fz) id (app s.h fz id):=hh;rw[Aj]at hh;obtain⟨g,ms,I,h1,h2,h3,h4⟩:=Ea hh;rw[hk1]at hi;have hi:=hk3 _ _ _ hi.eY;have jz:∀m∈ms.toList,mk.ok m.key:=P9 h3 h4;have fin:∀R yD,(Instr.mapUpdate t (a.eval x) (a.eval i) (a.eval y)).run A.C.P w=.ok () { w with heap:=w.heap.setIfInBounds g (.map R yD) }->R.size=(iS es k yv).length ->
   (∀(i:Nat) p m,(iS es k yv)[i]?=some p->R[i]?=some m->m.key=p.1/\mk.ok p.1/\aO S2 w p.2 m.val)->o.wp A.C.P a w next Q:=by
  intro R yD hrun hsz abI;obtain⟨g1,g2⟩:=MapKept.heap_set (o':=.map R yD) h2;refine sC (w':={ w with heap:=w.heap.setIfInBounds g (.map R yD) }) (by simp only[execOp,aL,bT,hrun,dt,fY]) ?_;have fu:=bH.write hC id hL (by show (app s.h fz id).live;rw[Aj];trivial) (.map mk (iS es k yv)) (fun _ h=>by cases h) { w with heap:=w.heap.setIfInBounds g (.map R yD) } rfl rfl rfl (by simp) (fun k hk=>g2 k fun e=>hk (by rw[h1,e];rfl)) fun T=>by
   refine⟨g,R,yD,h1,g1,hsz,fun i p m hp D=>?_⟩;obtain⟨Y,q2,Z⟩:=abI i p m hp D;exact⟨Y,q2,Z.mono T.hS T.keep⟩
  have:=U _ _ _ S2 _ _ _ z (by
   rw[cQ];exact fu.value o.dst hd .junk undef (.junk _))
  exact this
 rcases find_spec N es ms.toList 0 (by simpa using h3) (fun i p m hp D=>by obtain⟨Y,q2,_⟩:=h4 i p m hp (by simpa using D);exact⟨Y,q2⟩) with⟨Y,q2,Z⟩ | ⟨j,m,p,Y,q2,Z,q4,q5,q6⟩
 ·refine fin (ms.push { key:=k,val:=a.eval y,born:=I }) (I+1) ?_ (by rw[Z];simp[h3]) fun i p m hp D=>?_
  ·simp[Instr.mapUpdate,run_underlying gj,hv,h1,vY h2,hi,Tt.check _ _ _ N,Tt.find _ _ _ N jz,Y,MapKept.run_setObj_map _ h2]
  rw[Z]at hp;by_cases eX:i<es.length
  ·rw[dN eX]at hp;rw[Array.getElem?_push_lt (by omega)]at D;exact h4 i p m hp (by rw[<-D];exact cC _)
  have r_:i=es.length:=by
   have:=aC hp;simp at this;omega
  subst r_;rw[<-h3]at D;simp at hp D;subst hp D;exact⟨rfl,N,O⟩
 have P8:ms[j]?=some m:=by simpa using q2
 have W:m.key=k:=by rw[<-q4];exact (h4 j p m Z P8).1
 refine fin (ms.modify j fun e=>{ e with key:=k,val:=a.eval y }) I ?_ (by rw[q6];simp[h3]) fun i p' m' hp D=>?_
 ·simp[Instr.mapUpdate,run_underlying gj,hv,h1,vY h2,hi,Tt.check _ _ _ N,Tt.find _ _ _ N jz,Y,P8,W,Instr.keyThatStays,sameBits_self N,MapKept.run_setObj_map _ h2]
 rw[q6]at hp;rw[E9]at D;by_cases e:j=i
 ·subst e;rw[ae rfl,P8]at D;rw[dZ (aC Z)]at hp;simp at hp D;subst hp D;exact⟨rfl,N,O⟩
 rw[aa e]at D;rw[gC e]at hp;exact h4 i p' m' hp D
theorem ok_slice{o:Oper}(t:TypeId)(x:Operand)(lo hi:Option Operand)(J:o.op=.slice t x lo hi none):jV A o:=by
 intro V L S rho s a w K next Q hC I R hd z hn D
 have old:=Nx t x lo hi J hC I R hd (K:=K) (Q:=Q) (next:=next);simp only[cc,J]at z;split at z
 case h_2=>exact old z D
 rename_i id hid;split at z
 case h_2=>exact old z D
 rename_i e' es aw;rcases z with z | z
 case inr=>exact old z D
 have hx:=bF I x fun j N=>R j (by simp[J,Op.operands,N]);have Vd:∀y,lo=some y->bu S w A.C.P L rho s.h (ev s.t y) (a.eval y):=fun y Z=>bF I y fun j N=>R j (by simp[J,Op.operands,N,Z]);have Ve:∀y,hi=some y->bu S w A.C.P L rho s.h (ev s.t y) (a.eval y):=fun y Z=>bF I y fun j N=>R j (by simp[J,Op.operands,N,Z]);unfold v_ at z;split at z
 case h_2=>exact z.elim
 rename_i e size bytes zero eq hT;have gj:=(hC.jw t _ hT).under;simp only at gj;split at z
 case h_2=>exact z.elim
 rename_i Ai;obtain rfl:=jn Ai;split at z
 case h_2=>exact z.elim
 rename_i k m k' n h1 h2;obtain⟨⟨h3,h4,h5⟩,z⟩:=z;rw[hid]at hx;obtain⟨hL,hv⟩:=hx.cZ (by rw[aw];trivial);have U:=I.hp id hL;rw[aw]at U;have U:aH A.C.P w (aO S w) e' es (rho id):=U;obtain⟨ie,xs,r_,hpos,hown,_⟩:=U;have W:∃ad c,rho id=.slice ad es.length c/\es.length<=c:=by
  rcases hown.2 with⟨g1,g2⟩ | ⟨g,cap,cur,g1,_,_,g2,_⟩
  ·exact⟨none,0,by rw[g1,g2],by omega⟩
  exact⟨_,cap,g1,g2⟩
 obtain⟨ad,c,W,O⟩:=W;have hb:=Bx I lo hi Vd Ve true es.length c k m k' n O h1 h2 h3 h4 h5;refine aN I hd D z (.vw id _ _ _ fun e2 Y=>?_) (by simp[execOp,J,Instr.sliceAt,Instr.slice,hv,W,run_underlying gj,hb,Go.sizeOf,typeInfo,r_];rfl);rw[aw]at Y;injection Y with Y;subst Y;exact⟨hL,es.length,c,ad,ie,W,r_,by omega,by omega,O,rfl⟩
theorem Flat.take{S:Nat->Prop}{w:World}{k:Nat}{es:List (List PV)}{xs:List Value}(h:Flat S w k es xs)(n:Nat)(z:n<=es.length):Flat S w k (es.take n) (xs.take (n*k)):=by
 have I:n*k<=es.length*k:=cq _ z;refine⟨by rw[cE,cE,h.len];rw[tA I,tA z],fun r J=>h.row r (tz J),fun u N=>h.one u (tz N),fun i r j x hi D=>?_⟩;have O:=aC hi;rw[cE]at O;rw[oZ (by omega)]at hi;obtain⟨u,R,U⟩:=h.rep i r j x hi D;have hjk:j<k:=by rw[<-h.row r (aj hi)];exact aC D
 refine⟨u,?_,U⟩;rw[oZ,R];have:=cq k (show i+1<=n by omega);rw[dO]at this;omega
theorem Flat.drop{S:Nat->Prop}{w:World}{k:Nat}{es:List (List PV)}{xs:List Value}(h:Flat S w k es xs)(n:Nat):Flat S w k (es.drop n) (xs.drop (n*k)):=by
 refine⟨by rw[lU,lU,h.len,Nat.sub_mul],fun r z=>h.row r (Ay z),fun u D=>h.one u (Ay D),fun i r j x hi I=>?_⟩;rw[gB]at hi;obtain⟨u,J,N⟩:=h.rep (n+i) r j x hi I;refine⟨u,?_,N⟩;rw[gB,<-J];congr 1;rw[mZ,lR]
theorem Qa{o:Oper}(c:Call)(aL:o.op=.call c)(hc:c.callee=.builtin .clear):jV A o:=by
 intro V L S rho s a w K next Q hC N hV hd D _ U
 obtain⟨callee,args,argTypes⟩:=c;simp only at hc;subst hc;simp only[cc,aL,fc,fZ]at D;split at D
 case h_2=>exact D.elim
 rename_i x t I PZ;have hx:=bF N x fun j hj=>hV j (by simp[aL,Op.operands,Call.operands,hj];rw[<-hj];exact cJ.1 (by rw[I];simp));have e1:args=#[x]:=by rw[<-kA (xs:=args),I]
 have e2:argTypes=#[t]:=by rw[<-kA (xs:=argTypes),PZ]
 subst e1 e2;split at D
 case h_2=>exact D.elim
 rename_i e size bytes zero eq hT;have gj:=(hC.jw t _ hT).under;simp only at gj;split at D
 case h_2=>exact D.elim
 rename_i ti yA;split at D
 case h_2=>exact D.elim
 rename_i id lo hi hid;split at D
 case h_2=>exact D.elim
 rename_i e' es aw;split at D
 case h_2=>exact D.elim
 rename_i L7;simp only[aJ]at L7;obtain⟨Ai,J⟩:=L7;obtain⟨⟨hlh,hhl⟩,D⟩:=D;obtain rfl:=jn Ai;have J:0<ti.size:=jK J;rw[hid]at hx;obtain⟨hL,n,cp,ad,ti',ni,Bw,_,hhn,Yf,R⟩:=hx.Ff aw;have hh:=N.hp id hL;rw[aw]at hh;have hh:aH A.C.P w (aO S w) e' es (rho id):=hh;obtain⟨z,W,r_,Dv,Pv,Tq,Tr,kE⟩:=(hC.jw e' ti yA).info;rw[r_]at Bw;injection Bw with Bw;subst Bw;obtain⟨xs,Hf,hown,zE⟩:=aH.flat r_ hh;have fin:∀w',(∀ty,(Builtin.clear_ #[t] ty #[a.eval x]).run A.C.P w=.ok (.tuple #[]) w')->cn A V L S rho ⟨s.t,bd s.h id (.row e' (es.take lo++List.replicate (hi-lo) (ti.zero.map Ag)++es.drop hi))⟩ a w'->o.wp A.C.P a w next Q:=by
  intro w' Y cv;exact eB (v:=.tuple #[]) (by simp[execOp,aL,resolve,invoke,builtin,Y]) (U _ _ _ S _ _ _ D (cv.value o.dst hd (.tu []) _ (.tu [] #[] rfl (by simp))))
 by_cases heq:hi=lo
 ·subst heq;refine fin w (fun ty=>?_) ?_
  ·rw[R,jL];cases (if cp=hi then ad else ad.map (·.add (hi*z.size)))<;>simp[Builtin.clear_,run_underlying gj]
  rw[jL,List.replicate_zero,dP,o6,kD _ _ _ aw];exact N
 rcases hown.2 with⟨g1,g2⟩ | ⟨g,cap,O,g1,_,g3,g4,g5,g6,g7⟩
 ·exact absurd g2 (by omega)
 have Vj:=ni;rw[g1]at Vj;injection Vj with r1 r2 r3;subst r1 r2 r3;have hv2:a.eval x=.slice (some ⟨g,lo*z.size,none⟩) (hi-lo) (cap-lo):=by
  rw[R,aa (by omega)];simp only[fB,Addr.add];split
  ·rename_i h0;rw[h0]
  simp
 have hzs:((Array.range ((hi-lo)*ti.size)).map (ti.zero.toArray[· % ti.zero.toArray.size]!))=Builtin.zeroCells W.cells (hi-lo):=by
  unfold Builtin.zeroCells;rw[Tr,(show ti.zero.toArray.size=ti.size by simpa using (hC.jw e' ti yA).PL)]
 have hz:=Flat.zero false S w (hC.jw e' ti yA) J (hi-lo);rw[hzs,<-Dv]at hz;have jx:(Builtin.zeroCells W.cells (hi-lo)).toList.length=(hi-lo)*z.size:=by rw[hz.len,bX]
 have Fo:hi*z.size<=cap*z.size:=cq _ (by omega);have abJ:lo*z.size+(hi-lo)*z.size=hi*z.size:=by rw[<-mZ];congr 1;omega
 have wh:=run_storeCells_at A.C.P g (lo*z.size) e' (Builtin.zeroCells W.cells (hi-lo)).toList 0 O w g3 (by rw[jx,g6];omega) hz.one;simp only[mY]at wh;have NG:hi-lo≠0:=by omega
 refine fin (w.setRow g (O.toList.take (lo*z.size)++(Builtin.zeroCells W.cells (hi-lo)).toList++O.toList.drop (lo*z.size+(Builtin.zeroCells W.cells (hi-lo)).toList.length)).toArray) (fun ty=>?_) ?_
 ·rw[hv2];cases hk:hi-lo with
  | zero=>exact absurd hk NG
  | succ m=>
   rw[hk]at wh;simp[Builtin.clear_,run_underlying gj,zeroValue,typeInfo,r_,Tq,wh]
 refine N.write hC id hL (by rw[aw];trivial) _ (fun e2 h=>by rw[aw];exact h) _ (setRow_os w g _) (setRow_tape w g _) (setRow_output w g _) (setRow_size w g _) (fun k hk=>setRow_other w g k _ fun e=>hk (by rw[g1,e];rfl)) fun T=>?_;show aH A.C.P _ _ e' _ (rho id);have hF:Flat S w z.size (es.take lo++List.replicate (hi-lo) (ti.zero.map Ag)++es.drop hi) (xs.take (lo*z.size)++(Builtin.zeroCells W.cells (hi-lo)).toList++xs.drop (hi*z.size)):=((zE.take lo (by omega)).app hz).app (zE.drop hi);refine aH.of_flat r_ Hf ?_ (hF.mono T.hS T.keep);have Z:(es.take lo++List.replicate (hi-lo) (ti.zero.map Ag)++es.drop hi).length=es.length:=by simp;omega
 rw[Z];refine⟨by rw[hF.len,Z],.inr ⟨g,cap,_,g1,ak _,setRow_heap w g O _ e' (0,0) g3,g4,g5,?_,?_⟩⟩
 ·rw[lS,bJ,bJ,jx,cE,lU,lV,g6];omega
 rw[<-g7,jx,abJ];have h1:lo*z.size<=es.length*z.size:=cq _ (by omega);have h2:hi*z.size<=es.length*z.size:=cq _ hhl;have h3:es.length*z.size<=cap*z.size:=cq _ g4;simp only[List.take_append,bJ,cE,lV,g6,jx,AF,List.drop_take];rw[tA (show lo*z.size<=cap*z.size by omega),tA h1];rw[Nat.min_eq_right h1,cK (l:=(Builtin.zeroCells W.cells (hi-lo)).toList) (by rw[jx];omega)];rw[show es.length*z.size-(lo*z.size+(hi-lo)*z.size)=es.length*z.size-hi*z.size by omega]
end Go.AM
